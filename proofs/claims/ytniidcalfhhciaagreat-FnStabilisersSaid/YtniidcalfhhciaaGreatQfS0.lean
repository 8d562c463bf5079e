/- Functions of the program as plain Lean functions, and that the program does what they say. Printed by gen.py. -/
import Derived.Test.YtniidcalfhhciaaGreatQfR0
import Derived.Test.YtniidcalfhhciaaGreatQfR1
namespace Go.Proofs.YtniidcalfhhciaaGreat.X
open Go
set_option maxRecDepth 100000
set_option linter.unusedVariables false
theorem f14_ok (K : Nat) : Sound Tryz.prog 14 (f14M K) :=
  sound_fn (envOK (E := (f14E K)) tab_ok mixed_ok AllOK.nil AllP.nil AllN.nil) Tryz.func14 fun x => f14_run K x.1
theorem f14_runs : Runs Tryz.prog 14 := runsB_ok (by kernel_rfl)
theorem f124_ok (K : Nat) : SoundN Tryz.prog 124 (f124M K) :=
  sound_fnN (envOK (E := (f124E K)) tab_ok mixed_ok AllOK.nil AllP.nil AllN.nil) Tryz.func124 fun x => f124_run K x.1
theorem f124_runs : Runs Tryz.prog 124 := runsB_ok (by kernel_rfl)
theorem f140_ok (K : Nat) : SoundP Tryz.prog 140 (f140M K) :=
  sound_fnP (envOK (E := (f140E K)) tab_ok mixed_ok AllOK.nil AllP.nil AllN.nil) Tryz.func140 fun x => f140_run K x.1 x.2.1
theorem f140_runs : Runs Tryz.prog 140 := runsB_ok (by kernel_rfl)
theorem f142_ok (K : Nat) : SoundP Tryz.prog 142 (f142M K) :=
  sound_fnP (envOK (E := (f142E K)) tab_ok mixed_ok AllOK.nil (AllP.cons (f140_ok K) f140_runs AllP.nil) AllN.nil) Tryz.func142 fun x => f142_run K x.1 x.2.1
theorem f142_runs : Runs Tryz.prog 142 := runsB_ok (by kernel_rfl)
theorem f304_ok (K : Nat) : SoundP Tryz.prog 304 (f304M K) :=
  sound_fnP (envOK (E := (f304E K)) tab_ok mixed_ok AllOK.nil (AllP.cons (f140_ok K) f140_runs (AllP.cons (f142_ok K) f142_runs AllP.nil)) AllN.nil) Tryz.func304 fun x => f304_run K x.1
theorem f304_runs : Runs Tryz.prog 304 := runsB_ok (by kernel_rfl)
theorem f305_ok (K : Nat) : SoundP Tryz.prog 305 (f305M K) :=
  sound_fnP (envOK (E := (f305E K)) tab_ok mixed_ok AllOK.nil (AllP.cons (f140_ok K) f140_runs (AllP.cons (f142_ok K) f142_runs AllP.nil)) AllN.nil) Tryz.func305 fun x => f305_run K x.1
theorem f305_runs : Runs Tryz.prog 305 := runsB_ok (by kernel_rfl)
theorem f213_ok (K : Nat) : SoundP Tryz.prog 213 (f213M K) :=
  sound_fnP (envOK (E := (f213E K)) tab_ok mixed_ok AllOK.nil (AllP.cons (f140_ok K) f140_runs (AllP.cons (f304_ok K) f304_runs (AllP.cons (f305_ok K) f305_runs AllP.nil))) AllN.nil) Tryz.func213 fun x => f213_run K x.1
theorem f213_runs : Runs Tryz.prog 213 := runsB_ok (by kernel_rfl)
theorem f306_ok (K : Nat) : Sound Tryz.prog 306 (f306M K) :=
  sound_fn (envOK (E := (f306E K)) tab_ok mixed_ok AllOK.nil AllP.nil AllN.nil) Tryz.func306 fun x => f306_run K x.1
theorem f306_runs : Runs Tryz.prog 306 := runsB_ok (by kernel_rfl)
theorem f195_ok (K : Nat) : Sound Tryz.prog 195 (f195M K) :=
  sound_fn (envOK (E := (f195E K)) tab_ok mixed_ok AllOK.nil AllP.nil AllN.nil) Tryz.func195 fun x => f195_run K x.1 x.2.1 x.2.2.1
theorem f195_runs : Runs Tryz.prog 195 := runsB_ok (by kernel_rfl)
theorem f307_ok (K : Nat) : Sound Tryz.prog 307 (f307M K) :=
  sound_fn (envOK (E := (f307E K)) tab_ok mixed_ok (AllOK.cons (f195_ok K) f195_runs AllOK.nil) AllP.nil AllN.nil) Tryz.func307 fun x => f307_run K x.1
theorem f307_runs : Runs Tryz.prog 307 := runsB_ok (by kernel_rfl)
theorem f215_ok (K : Nat) : Sound Tryz.prog 215 (f215M K) :=
  sound_fn (envOK (E := (f215E K)) tab_ok mixed_ok (AllOK.cons (f306_ok K) f306_runs (AllOK.cons (f307_ok K) f307_runs AllOK.nil)) AllP.nil AllN.nil) Tryz.func215 fun x => f215_run K x.1 x.2.1
theorem f215_runs : Runs Tryz.prog 215 := runsB_ok (by kernel_rfl)
theorem f218_ok (K : Nat) : Sound Tryz.prog 218 (f218M K) :=
  sound_fn (envOK (E := (f218E K)) tab_ok mixed_ok AllOK.nil AllP.nil AllN.nil) Tryz.func218 fun x => f218_run K 
theorem f218_runs : Runs Tryz.prog 218 := runsB_ok (by kernel_rfl)
theorem f385_ok (K : Nat) : Sound Tryz.prog 385 (f385M K) :=
  sound_fn (envOK (E := (f385E K)) tab_ok mixed_ok AllOK.nil AllP.nil AllN.nil) Tryz.func385 fun x => f385_run K x.1 x.2.1
theorem f385_runs : Runs Tryz.prog 385 := runsB_ok (by kernel_rfl)
theorem f277_ok (K : Nat) : Sound Tryz.prog 277 (f277M K) :=
  sound_fn (envOK (E := (f277E K)) tab_ok mixed_ok AllOK.nil AllP.nil AllN.nil) Tryz.func277 fun x => f277_run K x.1 x.2.1
theorem f277_runs : Runs Tryz.prog 277 := runsB_ok (by kernel_rfl)
theorem f359_ok (K : Nat) : Sound Tryz.prog 359 (f359M K) :=
  sound_fn (envOK (E := (f359E K)) tab_ok mixed_ok (AllOK.cons (f277_ok K) f277_runs (AllOK.cons (f385_ok K) f385_runs AllOK.nil)) AllP.nil AllN.nil) Tryz.func359 fun x => f359_run K x.1 x.2.1
theorem f359_runs : Runs Tryz.prog 359 := runsB_ok (by kernel_rfl)
theorem f336_ok (K : Nat) : Sound Tryz.prog 336 (f336M K) :=
  sound_fn (envOK (E := (f336E K)) tab_ok mixed_ok (AllOK.cons (f359_ok K) f359_runs AllOK.nil) AllP.nil AllN.nil) Tryz.func336 fun x => f336_run K x.1
theorem f336_runs : Runs Tryz.prog 336 := runsB_ok (by kernel_rfl)
theorem f295_ok (K : Nat) : Sound Tryz.prog 295 (f295M K) :=
  sound_fn (envOK (E := (f295E K)) tab_ok mixed_ok AllOK.nil AllP.nil AllN.nil) Tryz.func295 fun x => f295_run K x.1
theorem f295_runs : Runs Tryz.prog 295 := runsB_ok (by kernel_rfl)
theorem f278_ok (K : Nat) : Sound Tryz.prog 278 (f278M K) :=
  sound_fn (envOK (E := (f278E K)) tab_ok mixed_ok AllOK.nil AllP.nil AllN.nil) Tryz.func278 fun x => f278_run K x.1 x.2.1
theorem f278_runs : Runs Tryz.prog 278 := runsB_ok (by kernel_rfl)
theorem f136_runs : Runs Tryz.prog 136 := runsB_ok (by kernel_rfl)
theorem f136_okn (K : Nat) : ∀ n, Sound Tryz.prog 136 ⟨[(.ro, (.int .i64)), (.ro, (.int .i64))], [(.int .i64)], fun x => f136R K n x.1 x.2.1⟩
  | 0 => fun _ _ _ _ _ _ _ h => by cases h
  | n + 1 => sound_fn (envOK (E := f136E K (f136R K n)) tab_ok mixed_ok (AllOK.cons (f136_okn K n) f136_runs AllOK.nil) AllP.nil AllN.nil) Tryz.func136 fun x => f136_run K (f136R K n) x.1 x.2.1
theorem f136_ok (K : Nat) : Sound Tryz.prog 136 (f136M K) := f136_okn K K
theorem f324_ok (K : Nat) : Sound Tryz.prog 324 (f324M K) :=
  sound_fn (envOK (E := (f324E K)) tab_ok mixed_ok AllOK.nil AllP.nil AllN.nil) Tryz.func324 fun x => f324_run K x.1 x.2.1
theorem f324_runs : Runs Tryz.prog 324 := runsB_ok (by kernel_rfl)
theorem f333_ok (K : Nat) : Sound Tryz.prog 333 (f333M K) :=
  sound_fn (envOK (E := (f333E K)) tab_ok mixed_ok AllOK.nil AllP.nil AllN.nil) Tryz.func333 fun x => f333_run K x.1 x.2.1
theorem f333_runs : Runs Tryz.prog 333 := runsB_ok (by kernel_rfl)
theorem f296_ok (K : Nat) : Sound Tryz.prog 296 (f296M K) :=
  sound_fn (envOK (E := (f296E K)) tab_ok mixed_ok (AllOK.cons (f136_ok K) f136_runs (AllOK.cons (f324_ok K) f324_runs (AllOK.cons (f333_ok K) f333_runs AllOK.nil))) AllP.nil AllN.nil) Tryz.func296 fun x => f296_run K x.1
theorem f296_runs : Runs Tryz.prog 296 := runsB_ok (by kernel_rfl)
theorem f303_ok (K : Nat) : Sound Tryz.prog 303 (f303M K) :=
  sound_fn (envOK (E := (f303E K)) tab_ok mixed_ok (AllOK.cons (f278_ok K) f278_runs (AllOK.cons (f295_ok K) f295_runs (AllOK.cons (f296_ok K) f296_runs AllOK.nil))) AllP.nil AllN.nil) Tryz.func303 fun x => f303_run K x.1 x.2.1
theorem f303_runs : Runs Tryz.prog 303 := runsB_ok (by kernel_rfl)
theorem f264_ok (K : Nat) : Sound Tryz.prog 264 (f264M K) :=
  sound_fn (envOK (E := (f264E K)) tab_ok mixed_ok (AllOK.cons (f303_ok K) f303_runs (AllOK.cons (f336_ok K) f336_runs AllOK.nil)) AllP.nil AllN.nil) Tryz.func264 fun x => f264_run K x.1 x.2.1
theorem f264_runs : Runs Tryz.prog 264 := runsB_ok (by kernel_rfl)
theorem f291_ok (K : Nat) : SoundP Tryz.prog 291 (f291M K) :=
  sound_fnP (envOK (E := (f291E K)) tab_ok mixed_ok (AllOK.cons (f215_ok K) f215_runs (AllOK.cons (f218_ok K) f218_runs (AllOK.cons (f264_ok K) f264_runs AllOK.nil))) (AllP.cons (f140_ok K) f140_runs AllP.nil) AllN.nil) Tryz.func291 fun x => f291_run K x.1 x.2.1 x.2.2.1
theorem f291_runs : Runs Tryz.prog 291 := runsB_ok (by kernel_rfl)
theorem f250_ok (K : Nat) : Sound Tryz.prog 250 (f250M K) :=
  sound_fn (envOK (E := (f250E K)) tab_ok mixed_ok (AllOK.cons (f324_ok K) f324_runs AllOK.nil) AllP.nil AllN.nil) Tryz.func250 fun x => f250_run K x.1 x.2.1
theorem f250_runs : Runs Tryz.prog 250 := runsB_ok (by kernel_rfl)
theorem f273_ok (K : Nat) : Sound Tryz.prog 273 (f273M K) :=
  sound_fn (envOK (E := (f273E K)) tab_ok mixed_ok (AllOK.cons (f250_ok K) f250_runs AllOK.nil) AllP.nil AllN.nil) Tryz.func273 fun x => f273_run K x.1 x.2.1
theorem f273_runs : Runs Tryz.prog 273 := runsB_ok (by kernel_rfl)
theorem f141_ok (K : Nat) : Sound Tryz.prog 141 (f141M K) :=
  sound_fn (envOK (E := (f141E K)) tab_ok mixed_ok (AllOK.cons (f218_ok K) f218_runs AllOK.nil) AllP.nil AllN.nil) Tryz.func141 fun x => f141_run K 
theorem f141_runs : Runs Tryz.prog 141 := runsB_ok (by kernel_rfl)
theorem f344_ok (K : Nat) : Sound Tryz.prog 344 (f344M K) :=
  sound_fn (envOK (E := (f344E K)) tab_ok mixed_ok AllOK.nil AllP.nil AllN.nil) Tryz.func344 fun x => f344_run K x.1 x.2.1
theorem f344_runs : Runs Tryz.prog 344 := runsB_ok (by kernel_rfl)
theorem f276_ok (K : Nat) : Sound Tryz.prog 276 (f276M K) :=
  sound_fn (envOK (E := (f276E K)) tab_ok mixed_ok (AllOK.cons (f277_ok K) f277_runs (AllOK.cons (f278_ok K) f278_runs (AllOK.cons (f344_ok K) f344_runs AllOK.nil))) AllP.nil AllN.nil) Tryz.func276 fun x => f276_run K x.1 x.2.1
theorem f276_runs : Runs Tryz.prog 276 := runsB_ok (by kernel_rfl)
theorem f380_ok (K : Nat) : Sound Tryz.prog 380 (f380M K) :=
  sound_fn (envOK (E := (f380E K)) tab_ok mixed_ok AllOK.nil AllP.nil AllN.nil) Tryz.func380 fun x => f380_run K x.1
theorem f380_runs : Runs Tryz.prog 380 := runsB_ok (by kernel_rfl)
theorem f153_ok (K : Nat) : Sound Tryz.prog 153 (f153M K) :=
  sound_fn (envOK (E := (f153E K)) tab_ok mixed_ok AllOK.nil AllP.nil AllN.nil) Tryz.func153 fun x => f153_run K x.1 x.2.1
theorem f153_runs : Runs Tryz.prog 153 := runsB_ok (by kernel_rfl)
theorem f342_ok (K : Nat) : Sound Tryz.prog 342 (f342M K) :=
  sound_fn (envOK (E := (f342E K)) tab_ok mixed_ok (AllOK.cons (f153_ok K) f153_runs (AllOK.cons (f380_ok K) f380_runs AllOK.nil)) AllP.nil AllN.nil) Tryz.func342 fun x => f342_run K x.1 x.2.1
theorem f342_runs : Runs Tryz.prog 342 := runsB_ok (by kernel_rfl)
theorem f320_ok (K : Nat) : Sound Tryz.prog 320 (f320M K) :=
  sound_fn (envOK (E := (f320E K)) tab_ok mixed_ok AllOK.nil AllP.nil AllN.nil) Tryz.func320 fun x => f320_run K x.1 x.2.1
theorem f320_runs : Runs Tryz.prog 320 := runsB_ok (by kernel_rfl)
theorem f274_ok (K : Nat) : Sound Tryz.prog 274 (f274M K) :=
  sound_fn (envOK (E := (f274E K)) tab_ok mixed_ok (AllOK.cons (f320_ok K) f320_runs (AllOK.cons (f342_ok K) f342_runs AllOK.nil)) AllP.nil AllN.nil) Tryz.func274 fun x => f274_run K x.1 x.2.1
theorem f274_runs : Runs Tryz.prog 274 := runsB_ok (by kernel_rfl)
theorem f343_ok (K : Nat) : Sound Tryz.prog 343 (f343M K) :=
  sound_fn (envOK (E := (f343E K)) tab_ok mixed_ok (AllOK.cons (f274_ok K) f274_runs AllOK.nil) AllP.nil AllN.nil) Tryz.func343 fun x => f343_run K x.1 x.2.1
theorem f343_runs : Runs Tryz.prog 343 := runsB_ok (by kernel_rfl)
theorem f275_ok (K : Nat) : Sound Tryz.prog 275 (f275M K) :=
  sound_fn (envOK (E := (f275E K)) tab_ok mixed_ok (AllOK.cons (f343_ok K) f343_runs AllOK.nil) AllP.nil AllN.nil) Tryz.func275 fun x => f275_run K x.1 x.2.1
theorem f275_runs : Runs Tryz.prog 275 := runsB_ok (by kernel_rfl)
theorem f352_ok (K : Nat) : Sound Tryz.prog 352 (f352M K) :=
  sound_fn (envOK (E := (f352E K)) tab_ok mixed_ok (AllOK.cons (f343_ok K) f343_runs AllOK.nil) AllP.nil AllN.nil) Tryz.func352 fun x => f352_run K x.1 x.2.1
theorem f352_runs : Runs Tryz.prog 352 := runsB_ok (by kernel_rfl)
theorem f292_ok (K : Nat) : Sound Tryz.prog 292 (f292M K) :=
  sound_fn (envOK (E := (f292E K)) tab_ok mixed_ok (AllOK.cons (f141_ok K) f141_runs (AllOK.cons (f273_ok K) f273_runs (AllOK.cons (f275_ok K) f275_runs (AllOK.cons (f276_ok K) f276_runs (AllOK.cons (f352_ok K) f352_runs AllOK.nil))))) AllP.nil AllN.nil) Tryz.func292 fun x => f292_run K x.1 x.2.1
theorem f292_runs : Runs Tryz.prog 292 := runsB_ok (by kernel_rfl)
theorem f178_ok (K : Nat) : SoundP Tryz.prog 178 (f178M K) :=
  sound_fnP (envOK (E := (f178E K)) tab_ok mixed_ok (AllOK.cons (f215_ok K) f215_runs (AllOK.cons (f273_ok K) f273_runs (AllOK.cons (f292_ok K) f292_runs AllOK.nil))) (AllP.cons (f140_ok K) f140_runs (AllP.cons (f213_ok K) f213_runs (AllP.cons (f291_ok K) f291_runs AllP.nil))) AllN.nil) Tryz.func178 fun x => f178_run K x.1
theorem f178_runs : Runs Tryz.prog 178 := runsB_ok (by kernel_rfl)
theorem f167_ok (K : Nat) : SoundP Tryz.prog 167 (f167M K) :=
  sound_fnP (envOK (E := (f167E K)) tab_ok mixed_ok AllOK.nil (AllP.cons (f140_ok K) f140_runs (AllP.cons (f142_ok K) f142_runs AllP.nil)) AllN.nil) Tryz.func167 fun x => f167_run K x.1 x.2.1
theorem f167_runs : Runs Tryz.prog 167 := runsB_ok (by kernel_rfl)
theorem f191_ok (K : Nat) : Sound Tryz.prog 191 (f191M K) :=
  sound_fn (envOK (E := (f191E K)) tab_ok mixed_ok AllOK.nil (AllP.cons (f167_ok K) f167_runs (AllP.cons (f178_ok K) f178_runs AllP.nil)) (AllN.cons (f124_ok K) f124_runs AllN.nil)) Tryz.func191 fun x => f191_run K x.1
theorem f191_runs : Runs Tryz.prog 191 := runsB_ok (by kernel_rfl)
theorem f83_ok (K : Nat) : Sound Tryz.prog 83 (f83M K) :=
  sound_fn (envOK (E := (f83E K)) tab_ok mixed_ok (AllOK.cons (f191_ok K) f191_runs AllOK.nil) AllP.nil AllN.nil) Tryz.func83 fun x => f83_run K x.1
theorem f83_runs : Runs Tryz.prog 83 := runsB_ok (by kernel_rfl)
theorem f194_ok (K : Nat) : Sound Tryz.prog 194 (f194M K) :=
  sound_fn (envOK (E := (f194E K)) tab_ok mixed_ok AllOK.nil AllP.nil AllN.nil) Tryz.func194 fun x => f194_run K x.1 x.2.1 x.2.2.1
theorem f194_runs : Runs Tryz.prog 194 := runsB_ok (by kernel_rfl)
theorem f256_ok (K : Nat) : Sound Tryz.prog 256 (f256M K) :=
  sound_fn (envOK (E := (f256E K)) tab_ok mixed_ok (AllOK.cons (f194_ok K) f194_runs AllOK.nil) AllP.nil AllN.nil) Tryz.func256 fun x => f256_run K x.1
theorem f256_runs : Runs Tryz.prog 256 := runsB_ok (by kernel_rfl)
theorem f133_ok (K : Nat) : Sound Tryz.prog 133 (f133M K) :=
  sound_fn (envOK (E := (f133E K)) tab_ok mixed_ok AllOK.nil AllP.nil AllN.nil) Tryz.func133 fun x => f133_run K x.1
theorem f133_runs : Runs Tryz.prog 133 := runsB_ok (by kernel_rfl)
theorem f184_ok (K : Nat) : Sound Tryz.prog 184 (f184M K) :=
  sound_fn (envOK (E := (f184E K)) tab_ok mixed_ok (AllOK.cons (f133_ok K) f133_runs (AllOK.cons (f194_ok K) f194_runs AllOK.nil)) AllP.nil AllN.nil) Tryz.func184 fun x => f184_run K x.1
theorem f184_runs : Runs Tryz.prog 184 := runsB_ok (by kernel_rfl)
theorem f186_ok (K : Nat) : Sound Tryz.prog 186 (f186M K) :=
  sound_fn (envOK (E := (f186E K)) tab_ok mixed_ok (AllOK.cons (f184_ok K) f184_runs (AllOK.cons (f256_ok K) f256_runs AllOK.nil)) AllP.nil AllN.nil) Tryz.func186 fun x => f186_run K x.1 x.2.1
theorem f186_runs : Runs Tryz.prog 186 := runsB_ok (by kernel_rfl)
theorem f268_ok (K : Nat) : Sound Tryz.prog 268 (f268M K) :=
  sound_fn (envOK (E := (f268E K)) tab_ok mixed_ok AllOK.nil AllP.nil AllN.nil) Tryz.func268 fun x => f268_run K x.1
theorem f268_runs : Runs Tryz.prog 268 := runsB_ok (by kernel_rfl)
theorem f282_ok (K : Nat) : Sound Tryz.prog 282 (f282M K) :=
  sound_fn (envOK (E := (f282E K)) tab_ok mixed_ok AllOK.nil AllP.nil AllN.nil) Tryz.func282 fun x => f282_run K x.1 x.2.1
theorem f282_runs : Runs Tryz.prog 282 := runsB_ok (by kernel_rfl)
theorem f346_ok (K : Nat) : Sound Tryz.prog 346 (f346M K) :=
  sound_fn (envOK (E := (f346E K)) tab_ok mixed_ok AllOK.nil AllP.nil AllN.nil) Tryz.func346 fun x => f346_run K x.1 x.2.1
theorem f346_runs : Runs Tryz.prog 346 := runsB_ok (by kernel_rfl)
theorem f280_ok (K : Nat) : Sound Tryz.prog 280 (f280M K) :=
  sound_fn (envOK (E := (f280E K)) tab_ok mixed_ok (AllOK.cons (f282_ok K) f282_runs (AllOK.cons (f346_ok K) f346_runs AllOK.nil)) AllP.nil AllN.nil) Tryz.func280 fun x => f280_run K x.1
theorem f280_runs : Runs Tryz.prog 280 := runsB_ok (by kernel_rfl)
theorem f290_ok (K : Nat) : Sound Tryz.prog 290 (f290M K) :=
  sound_fn (envOK (E := (f290E K)) tab_ok mixed_ok AllOK.nil AllP.nil AllN.nil) Tryz.func290 fun x => f290_run K x.1 x.2.1
theorem f290_runs : Runs Tryz.prog 290 := runsB_ok (by kernel_rfl)
theorem f176_ok (K : Nat) : Sound Tryz.prog 176 (f176M K) :=
  sound_fn (envOK (E := (f176E K)) tab_ok mixed_ok (AllOK.cons (f290_ok K) f290_runs AllOK.nil) AllP.nil AllN.nil) Tryz.func176 fun x => f176_run K x.1 x.2.1
theorem f176_runs : Runs Tryz.prog 176 := runsB_ok (by kernel_rfl)
theorem f339_ok (K : Nat) : Sound Tryz.prog 339 (f339M K) :=
  sound_fn (envOK (E := (f339E K)) tab_ok mixed_ok (AllOK.cons (f176_ok K) f176_runs AllOK.nil) AllP.nil AllN.nil) Tryz.func339 fun x => f339_run K x.1 x.2.1
theorem f339_runs : Runs Tryz.prog 339 := runsB_ok (by kernel_rfl)
theorem f338_ok (K : Nat) : Sound Tryz.prog 338 (f338M K) :=
  sound_fn (envOK (E := (f338E K)) tab_ok mixed_ok (AllOK.cons (f282_ok K) f282_runs (AllOK.cons (f339_ok K) f339_runs AllOK.nil)) AllP.nil AllN.nil) Tryz.func338 fun x => f338_run K x.1 x.2.1 x.2.2.1 x.2.2.2.1
theorem f338_runs : Runs Tryz.prog 338 := runsB_ok (by kernel_rfl)
theorem f378_ok (K : Nat) : Sound Tryz.prog 378 (f378M K) :=
  sound_fn (envOK (E := (f378E K)) tab_ok mixed_ok AllOK.nil AllP.nil AllN.nil) Tryz.func378 fun x => f378_run K x.1 x.2.1
theorem f378_runs : Runs Tryz.prog 378 := runsB_ok (by kernel_rfl)
theorem f337_ok (K : Nat) : Sound Tryz.prog 337 (f337M K) :=
  sound_fn (envOK (E := (f337E K)) tab_ok mixed_ok (AllOK.cons (f378_ok K) f378_runs AllOK.nil) AllP.nil AllN.nil) Tryz.func337 fun x => f337_run K x.1 x.2.1
theorem f337_runs : Runs Tryz.prog 337 := runsB_ok (by kernel_rfl)
theorem f266_ok (K : Nat) : Sound Tryz.prog 266 (f266M K) :=
  sound_fn (envOK (E := (f266E K)) tab_ok mixed_ok (AllOK.cons (f268_ok K) f268_runs (AllOK.cons (f280_ok K) f280_runs (AllOK.cons (f337_ok K) f337_runs (AllOK.cons (f338_ok K) f338_runs AllOK.nil)))) AllP.nil AllN.nil) Tryz.func266 fun x => f266_run K x.1 x.2.1
theorem f266_runs : Runs Tryz.prog 266 := runsB_ok (by kernel_rfl)
theorem f345_ok (K : Nat) : Sound Tryz.prog 345 (f345M K) :=
  sound_fn (envOK (E := (f345E K)) tab_ok mixed_ok AllOK.nil AllP.nil AllN.nil) Tryz.func345 fun x => f345_run K x.1 x.2.1
theorem f345_runs : Runs Tryz.prog 345 := runsB_ok (by kernel_rfl)
theorem f279_ok (K : Nat) : Sound Tryz.prog 279 (f279M K) :=
  sound_fn (envOK (E := (f279E K)) tab_ok mixed_ok (AllOK.cons (f345_ok K) f345_runs AllOK.nil) AllP.nil AllN.nil) Tryz.func279 fun x => f279_run K x.1 x.2.1
theorem f279_runs : Runs Tryz.prog 279 := runsB_ok (by kernel_rfl)
theorem f318_ok (K : Nat) : Sound Tryz.prog 318 (f318M K) :=
  sound_fn (envOK (E := (f318E K)) tab_ok mixed_ok AllOK.nil AllP.nil AllN.nil) Tryz.func318 fun x => f318_run K x.1 x.2.1
theorem f318_runs : Runs Tryz.prog 318 := runsB_ok (by kernel_rfl)
theorem f362_ok (K : Nat) : Sound Tryz.prog 362 (f362M K) :=
  sound_fn (envOK (E := (f362E K)) tab_ok mixed_ok (AllOK.cons (f318_ok K) f318_runs AllOK.nil) AllP.nil AllN.nil) Tryz.func362 fun x => f362_run K x.1 x.2.1
theorem f362_runs : Runs Tryz.prog 362 := runsB_ok (by kernel_rfl)
theorem f233_ok (K : Nat) : Sound Tryz.prog 233 (f233M K) :=
  sound_fn (envOK (E := (f233E K)) tab_ok mixed_ok (AllOK.cons (f318_ok K) f318_runs AllOK.nil) AllP.nil AllN.nil) Tryz.func233 fun x => f233_run K x.1 x.2.1
theorem f233_runs : Runs Tryz.prog 233 := runsB_ok (by kernel_rfl)
theorem f311_ok (K : Nat) : Sound Tryz.prog 311 (f311M K) :=
  sound_fn (envOK (E := (f311E K)) tab_ok mixed_ok (AllOK.cons (f233_ok K) f233_runs (AllOK.cons (f362_ok K) f362_runs AllOK.nil)) AllP.nil AllN.nil) Tryz.func311 fun x => f311_run K x.1 x.2.1
theorem f311_runs : Runs Tryz.prog 311 := runsB_ok (by kernel_rfl)
theorem f217_ok (K : Nat) : Sound Tryz.prog 217 (f217M K) :=
  sound_fn (envOK (E := (f217E K)) tab_ok mixed_ok AllOK.nil AllP.nil AllN.nil) Tryz.func217 fun x => f217_run K 
theorem f217_runs : Runs Tryz.prog 217 := runsB_ok (by kernel_rfl)
theorem f360_ok (K : Nat) : Sound Tryz.prog 360 (f360M K) :=
  sound_fn (envOK (E := (f360E K)) tab_ok mixed_ok AllOK.nil AllP.nil AllN.nil) Tryz.func360 fun x => f360_run K x.1 x.2.1
theorem f360_runs : Runs Tryz.prog 360 := runsB_ok (by kernel_rfl)
theorem f289_ok (K : Nat) : Sound Tryz.prog 289 (f289M K) :=
  sound_fn (envOK (E := (f289E K)) tab_ok mixed_ok AllOK.nil AllP.nil AllN.nil) Tryz.func289 fun x => f289_run K x.1 x.2.1
theorem f289_runs : Runs Tryz.prog 289 := runsB_ok (by kernel_rfl)
theorem f309_ok (K : Nat) : Sound Tryz.prog 309 (f309M K) :=
  sound_fn (envOK (E := (f309E K)) tab_ok mixed_ok (AllOK.cons (f282_ok K) f282_runs (AllOK.cons (f289_ok K) f289_runs (AllOK.cons (f360_ok K) f360_runs AllOK.nil))) AllP.nil AllN.nil) Tryz.func309 fun x => f309_run K x.1 x.2.1
theorem f309_runs : Runs Tryz.prog 309 := runsB_ok (by kernel_rfl)
theorem f308_ok (K : Nat) : Sound Tryz.prog 308 (f308M K) :=
  sound_fn (envOK (E := (f308E K)) tab_ok mixed_ok (AllOK.cons (f176_ok K) f176_runs AllOK.nil) AllP.nil AllN.nil) Tryz.func308 fun x => f308_run K x.1 x.2.1
theorem f308_runs : Runs Tryz.prog 308 := runsB_ok (by kernel_rfl)
theorem f298_ok (K : Nat) : Sound Tryz.prog 298 (f298M K) :=
  sound_fn (envOK (E := (f298E K)) tab_ok mixed_ok (AllOK.cons (f176_ok K) f176_runs (AllOK.cons (f217_ok K) f217_runs (AllOK.cons (f266_ok K) f266_runs (AllOK.cons (f279_ok K) f279_runs (AllOK.cons (f308_ok K) f308_runs (AllOK.cons (f309_ok K) f309_runs (AllOK.cons (f311_ok K) f311_runs AllOK.nil))))))) AllP.nil AllN.nil) Tryz.func298 fun x => f298_run K x.1 x.2.1 x.2.2.1
theorem f298_runs : Runs Tryz.prog 298 := runsB_ok (by kernel_rfl)
theorem f198_ok (K : Nat) : Sound Tryz.prog 198 (f198M K) :=
  sound_fn (envOK (E := (f198E K)) tab_ok mixed_ok (AllOK.cons (f186_ok K) f186_runs (AllOK.cons (f298_ok K) f298_runs AllOK.nil)) AllP.nil AllN.nil) Tryz.func198 fun x => f198_run K x.1 x.2.1 x.2.2.1
theorem f198_runs : Runs Tryz.prog 198 := runsB_ok (by kernel_rfl)
theorem f168_ok (K : Nat) : Sound Tryz.prog 168 (f168M K) :=
  sound_fn (envOK (E := (f168E K)) tab_ok mixed_ok (AllOK.cons (f194_ok K) f194_runs AllOK.nil) AllP.nil AllN.nil) Tryz.func168 fun x => f168_run K x.1 x.2.1
theorem f168_runs : Runs Tryz.prog 168 := runsB_ok (by kernel_rfl)
theorem f293_ok (K : Nat) : Sound Tryz.prog 293 (f293M K) :=
  sound_fn (envOK (E := (f293E K)) tab_ok mixed_ok (AllOK.cons (f168_ok K) f168_runs AllOK.nil) AllP.nil AllN.nil) Tryz.func293 fun x => f293_run K x.1 x.2.1
theorem f293_runs : Runs Tryz.prog 293 := runsB_ok (by kernel_rfl)
theorem f231_ok (K : Nat) : Sound Tryz.prog 231 (f231M K) :=
  sound_fn (envOK (E := (f231E K)) tab_ok mixed_ok AllOK.nil AllP.nil AllN.nil) Tryz.func231 fun x => f231_run K x.1 x.2.1
theorem f231_runs : Runs Tryz.prog 231 := runsB_ok (by kernel_rfl)
theorem f226_ok (K : Nat) : Sound Tryz.prog 226 (f226M K) :=
  sound_fn (envOK (E := (f226E K)) tab_ok mixed_ok (AllOK.cons (f231_ok K) f231_runs AllOK.nil) AllP.nil AllN.nil) Tryz.func226 fun x => f226_run K x.1 x.2.1
theorem f226_runs : Runs Tryz.prog 226 := runsB_ok (by kernel_rfl)
theorem f179_ok (K : Nat) : Sound Tryz.prog 179 (f179M K) :=
  sound_fn (envOK (E := (f179E K)) tab_ok mixed_ok (AllOK.cons (f198_ok K) f198_runs (AllOK.cons (f226_ok K) f226_runs (AllOK.cons (f293_ok K) f293_runs AllOK.nil))) AllP.nil AllN.nil) Tryz.func179 fun x => f179_run K x.1 x.2.1 x.2.2.1 x.2.2.2.1
theorem f179_runs : Runs Tryz.prog 179 := runsB_ok (by kernel_rfl)
theorem f174_ok (K : Nat) : Sound Tryz.prog 174 (f174M K) :=
  sound_fn (envOK (E := (f174E K)) tab_ok mixed_ok (AllOK.cons (f282_ok K) f282_runs (AllOK.cons (f289_ok K) f289_runs AllOK.nil)) AllP.nil AllN.nil) Tryz.func174 fun x => f174_run K x.1 x.2.1
theorem f174_runs : Runs Tryz.prog 174 := runsB_ok (by kernel_rfl)
theorem f188_ok (K : Nat) : Sound Tryz.prog 188 (f188M K) :=
  sound_fn (envOK (E := (f188E K)) tab_ok mixed_ok (AllOK.cons (f174_ok K) f174_runs (AllOK.cons (f176_ok K) f176_runs AllOK.nil)) AllP.nil AllN.nil) Tryz.func188 fun x => f188_run K x.1 x.2.1 x.2.2.1
theorem f188_runs : Runs Tryz.prog 188 := runsB_ok (by kernel_rfl)
theorem f190_ok (K : Nat) : Sound Tryz.prog 190 (f190M K) :=
  sound_fn (envOK (E := (f190E K)) tab_ok mixed_ok (AllOK.cons (f188_ok K) f188_runs AllOK.nil) AllP.nil AllN.nil) Tryz.func190 fun x => f190_run K x.1 x.2.1 x.2.2.1
theorem f190_runs : Runs Tryz.prog 190 := runsB_ok (by kernel_rfl)
theorem f84_ok (K : Nat) : Sound Tryz.prog 84 (f84M K) :=
  sound_fn (envOK (E := (f84E K)) tab_ok mixed_ok (AllOK.cons (f179_ok K) f179_runs (AllOK.cons (f190_ok K) f190_runs AllOK.nil)) AllP.nil AllN.nil) Tryz.func84 fun x => f84_run K x.1 x.2.1 x.2.2.1 x.2.2.2.1
theorem f84_runs : Runs Tryz.prog 84 := runsB_ok (by kernel_rfl)
theorem f170_ok (K : Nat) : Sound Tryz.prog 170 (f170M K) :=
  sound_fn (envOK (E := (f170E K)) tab_ok mixed_ok (AllOK.cons (f195_ok K) f195_runs AllOK.nil) AllP.nil AllN.nil) Tryz.func170 fun x => f170_run K x.1 x.2.1
theorem f170_runs : Runs Tryz.prog 170 := runsB_ok (by kernel_rfl)
theorem f254_ok (K : Nat) : Sound Tryz.prog 254 (f254M K) :=
  sound_fn (envOK (E := (f254E K)) tab_ok mixed_ok (AllOK.cons (f195_ok K) f195_runs AllOK.nil) AllP.nil AllN.nil) Tryz.func254 fun x => f254_run K x.1
theorem f254_runs : Runs Tryz.prog 254 := runsB_ok (by kernel_rfl)
theorem f384_ok (K : Nat) : Sound Tryz.prog 384 (f384M K) :=
  sound_fn (envOK (E := (f384E K)) tab_ok mixed_ok (AllOK.cons (f254_ok K) f254_runs AllOK.nil) AllP.nil AllN.nil) Tryz.func384 fun x => f384_run K x.1
theorem f384_runs : Runs Tryz.prog 384 := runsB_ok (by kernel_rfl)
theorem f132_ok (K : Nat) : Sound Tryz.prog 132 (f132M K) :=
  sound_fn (envOK (E := (f132E K)) tab_ok mixed_ok AllOK.nil AllP.nil AllN.nil) Tryz.func132 fun x => f132_run K x.1
theorem f132_runs : Runs Tryz.prog 132 := runsB_ok (by kernel_rfl)
theorem f358_ok (K : Nat) : Sound Tryz.prog 358 (f358M K) :=
  sound_fn (envOK (E := (f358E K)) tab_ok mixed_ok (AllOK.cons (f132_ok K) f132_runs (AllOK.cons (f384_ok K) f384_runs AllOK.nil)) AllP.nil AllN.nil) Tryz.func358 fun x => f358_run K x.1
theorem f358_runs : Runs Tryz.prog 358 := runsB_ok (by kernel_rfl)
theorem f302_ok (K : Nat) : Sound Tryz.prog 302 (f302M K) :=
  sound_fn (envOK (E := (f302E K)) tab_ok mixed_ok (AllOK.cons (f306_ok K) f306_runs (AllOK.cons (f358_ok K) f358_runs (AllOK.cons (f359_ok K) f359_runs AllOK.nil))) AllP.nil AllN.nil) Tryz.func302 fun x => f302_run K x.1 x.2.1
theorem f302_runs : Runs Tryz.prog 302 := runsB_ok (by kernel_rfl)
theorem f210_ok (K : Nat) : Sound Tryz.prog 210 (f210M K) :=
  sound_fn (envOK (E := (f210E K)) tab_ok mixed_ok (AllOK.cons (f215_ok K) f215_runs (AllOK.cons (f254_ok K) f254_runs (AllOK.cons (f302_ok K) f302_runs (AllOK.cons (f303_ok K) f303_runs AllOK.nil)))) AllP.nil AllN.nil) Tryz.func210 fun x => f210_run K x.1 x.2.1 x.2.2.1
theorem f210_runs : Runs Tryz.prog 210 := runsB_ok (by kernel_rfl)
theorem f148_ok (K : Nat) : Sound Tryz.prog 148 (f148M K) :=
  sound_fn (envOK (E := (f148E K)) tab_ok mixed_ok (AllOK.cons (f141_ok K) f141_runs (AllOK.cons (f210_ok K) f210_runs (AllOK.cons (f215_ok K) f215_runs (AllOK.cons (f273_ok K) f273_runs (AllOK.cons (f274_ok K) f274_runs (AllOK.cons (f275_ok K) f275_runs (AllOK.cons (f276_ok K) f276_runs AllOK.nil))))))) AllP.nil AllN.nil) Tryz.func148 fun x => f148_run K x.1 x.2.1 x.2.2.1
theorem f148_runs : Runs Tryz.prog 148 := runsB_ok (by kernel_rfl)
theorem f209_ok (K : Nat) : Sound Tryz.prog 209 (f209M K) :=
  sound_fn (envOK (E := (f209E K)) tab_ok mixed_ok (AllOK.cons (f215_ok K) f215_runs AllOK.nil) AllP.nil AllN.nil) Tryz.func209 fun x => f209_run K x.1 x.2.1 x.2.2.1
theorem f209_runs : Runs Tryz.prog 209 := runsB_ok (by kernel_rfl)
theorem f181_ok (K : Nat) : Sound Tryz.prog 181 (f181M K) :=
  sound_fn (envOK (E := (f181E K)) tab_ok mixed_ok (AllOK.cons (f148_ok K) f148_runs (AllOK.cons (f209_ok K) f209_runs AllOK.nil)) AllP.nil AllN.nil) Tryz.func181 fun x => f181_run K x.1 x.2.1 x.2.2.1 x.2.2.2.1
theorem f181_runs : Runs Tryz.prog 181 := runsB_ok (by kernel_rfl)
theorem f151_ok (K : Nat) : Sound Tryz.prog 151 (f151M K) :=
  sound_fn (envOK (E := (f151E K)) tab_ok mixed_ok (AllOK.cons (f277_ok K) f277_runs (AllOK.cons (f278_ok K) f278_runs AllOK.nil)) AllP.nil AllN.nil) Tryz.func151 fun x => f151_run K x.1 x.2.1
theorem f151_runs : Runs Tryz.prog 151 := runsB_ok (by kernel_rfl)
theorem f171_ok (K : Nat) : Sound Tryz.prog 171 (f171M K) :=
  sound_fn (envOK (E := (f171E K)) tab_ok mixed_ok (AllOK.cons (f151_ok K) f151_runs (AllOK.cons (f250_ok K) f250_runs AllOK.nil)) AllP.nil AllN.nil) Tryz.func171 fun x => f171_run K x.1 x.2.1 x.2.2.1
theorem f171_runs : Runs Tryz.prog 171 := runsB_ok (by kernel_rfl)
theorem f85_ok (K : Nat) : Sound Tryz.prog 85 (f85M K) :=
  sound_fn (envOK (E := (f85E K)) tab_ok mixed_ok (AllOK.cons (f170_ok K) f170_runs (AllOK.cons (f171_ok K) f171_runs (AllOK.cons (f181_ok K) f181_runs AllOK.nil))) AllP.nil AllN.nil) Tryz.func85 fun x => f85_run K x.1 x.2.1 x.2.2.1 x.2.2.2.1
theorem f85_runs : Runs Tryz.prog 85 := runsB_ok (by kernel_rfl)
def f232_ren : Go.Shelf.Ren := ⟨fun | 6 => 232 | 14 => 316 | 15 => 317 | 20 => 364 | 21 => 365 | 22 => 366 | 23 => 367 | 24 => 368 | 25 => 369 | 26 => 370 | 27 => 371 | 28 => 372 | 29 => 373 | 46 => 394 | 47 => 395 | 48 => 396 | 49 => 397 | 50 => 398 | 57 => 402 | n => n, fun | 0 => 0 | 3 => 3 | 4 => 4 | 5 => 5 | 9 => 9 | 22 => 58 | 24 => 55 | 25 => 218 | 39 => 164 | 45 => 314 | 46 => 315 | 50 => 319 | 53 => 322 | 55 => 48 | 66 => 337 | 70 => 341 | 76 => 345 | 77 => 346 | n => n, fun n => n⟩
theorem f232_lays : SlLaysF0.n6 Tryz.prog f232_ren where
  mixed := by kernel_rfl
  f6 := ⟨ "slices.SortFunc[[]loop.example/g00943/impl.Vec,loop.example/g00943/impl.Vec]", by decide, Tryz.func232.trans (congrArg some (by kernel_rfl))⟩
  f14 := ⟨ "slices.pdqsortCmpFunc[loop.example/g00943/impl.Vec]", by decide, Tryz.func316.trans (congrArg some (by kernel_rfl))⟩
  f15 := Tryz.func317.trans (congrArg some (by kernel_rfl))
  f20 := ⟨ "slices.insertionSortCmpFunc[loop.example/g00943/impl.Vec]", by decide, Tryz.func364.trans (congrArg some (by kernel_rfl))⟩
  f21 := ⟨ "slices.heapSortCmpFunc[loop.example/g00943/impl.Vec]", by decide, Tryz.func365.trans (congrArg some (by kernel_rfl))⟩
  f22 := ⟨ "slices.breakPatternsCmpFunc[loop.example/g00943/impl.Vec]", by decide, Tryz.func366.trans (congrArg some (by kernel_rfl))⟩
  f23 := ⟨ "slices.choosePivotCmpFunc[loop.example/g00943/impl.Vec]", by decide, Tryz.func367.trans (congrArg some (by kernel_rfl))⟩
  f24 := ⟨ "slices.reverseRangeCmpFunc[loop.example/g00943/impl.Vec]", by decide, Tryz.func368.trans (congrArg some (by kernel_rfl))⟩
  f25 := ⟨ "slices.partialInsertionSortCmpFunc[loop.example/g00943/impl.Vec]", by decide, Tryz.func369.trans (congrArg some (by kernel_rfl))⟩
  f26 := ⟨ "slices.partitionEqualCmpFunc[loop.example/g00943/impl.Vec]", by decide, Tryz.func370.trans (congrArg some (by kernel_rfl))⟩
  f27 := ⟨ "slices.partitionCmpFunc[loop.example/g00943/impl.Vec]", by decide, Tryz.func371.trans (congrArg some (by kernel_rfl))⟩
  f28 := Tryz.func372.trans (congrArg some (by kernel_rfl))
  f29 := Tryz.func373.trans (congrArg some (by kernel_rfl))
  f46 := ⟨ "slices.siftDownCmpFunc[loop.example/g00943/impl.Vec]", by decide, Tryz.func394.trans (congrArg some (by kernel_rfl))⟩
  f47 := Tryz.func395.trans (congrArg some (by kernel_rfl))
  f48 := Tryz.func396.trans (congrArg some (by kernel_rfl))
  f49 := ⟨ "slices.medianAdjacentCmpFunc[loop.example/g00943/impl.Vec]", by decide, Tryz.func397.trans (congrArg some (by kernel_rfl))⟩
  f50 := ⟨ "slices.medianCmpFunc[loop.example/g00943/impl.Vec]", by decide, Tryz.func398.trans (congrArg some (by kernel_rfl))⟩
  f57 := ⟨ "slices.order2CmpFunc[loop.example/g00943/impl.Vec]", by decide, Tryz.func402.trans (congrArg some (by kernel_rfl))⟩
  t0 := Tryz.underlying0
  a0 := Tryz.isAgg0
  z0 := Tryz.sizeOf0
  v0 := Tryz.zeroValue0
  t3 := Tryz.underlying3
  a3 := Tryz.isAgg3
  z3 := Tryz.sizeOf3
  v3 := Tryz.zeroValue3
  t4 := Tryz.underlying4
  a4 := Tryz.isAgg4
  z4 := Tryz.sizeOf4
  v4 := Tryz.zeroValue4
  t5 := Tryz.underlying5
  a5 := Tryz.isAgg5
  z5 := Tryz.sizeOf5
  v5 := Tryz.zeroValue5
  t9 := Tryz.underlying9
  a9 := Tryz.isAgg9
  z9 := Tryz.sizeOf9
  v9 := Tryz.zeroValue9
  t22 := Tryz.underlying58
  a22 := Tryz.isAgg58
  z22 := Tryz.sizeOf58
  v22 := Tryz.zeroValue58
  t25 := Tryz.underlying218
  a25 := Tryz.isAgg218
  z25 := Tryz.sizeOf218
  v25 := Tryz.zeroValue218
  t39 := Tryz.underlying164
  a39 := Tryz.isAgg164
  z39 := Tryz.sizeOf164
  v39 := Tryz.zeroValue164
  t45 := Tryz.underlying314
  a45 := Tryz.isAgg314
  z45 := Tryz.sizeOf314
  v45 := Tryz.zeroValue314
  t46 := Tryz.underlying315
  a46 := Tryz.isAgg315
  z46 := Tryz.sizeOf315
  v46 := Tryz.zeroValue315
  t50 := Tryz.underlying319
  a50 := Tryz.isAgg319
  z50 := Tryz.sizeOf319
  v50 := Tryz.zeroValue319
  t53 := Tryz.underlying322
  a53 := Tryz.isAgg322
  z53 := Tryz.sizeOf322
  v53 := Tryz.zeroValue322
  t55 := Tryz.underlying48
  a55 := Tryz.isAgg48
  z55 := Tryz.sizeOf48
  v55 := Tryz.zeroValue48
  t66 := Tryz.underlying337
  a66 := Tryz.isAgg337
  z66 := Tryz.sizeOf337
  v66 := Tryz.zeroValue337
  t70 := Tryz.underlying341
  a70 := Tryz.isAgg341
  z70 := Tryz.sizeOf341
  v70 := Tryz.zeroValue341
  t76 := Tryz.underlying345
  a76 := Tryz.isAgg345
  z76 := Tryz.sizeOf345
  v76 := Tryz.zeroValue345
  t77 := Tryz.underlying346
  a77 := Tryz.isAgg346
  z77 := Tryz.sizeOf346
  v77 := Tryz.zeroValue346
theorem f232_ok (K : Nat) : Sound Tryz.prog 232 (f232M K) := sort_sound (e := 55) (s := (.cons (.int .i64) (.int .i64))) f232_lays rfl rfl rfl Tryz.isAgg55 Tryz.sizeOf55
theorem f232_runs : Runs Tryz.prog 232 := runsB_ok (by kernel_rfl)
theorem f297_ok (K : Nat) : Sound Tryz.prog 297 (f297M K) :=
  sound_fn (envOK (E := (f297E K)) tab_ok mixed_ok AllOK.nil AllP.nil AllN.nil) Tryz.func297 fun x => f297_run K x.1
theorem f297_runs : Runs Tryz.prog 297 := runsB_ok (by kernel_rfl)
theorem f192_ok (K : Nat) : Sound Tryz.prog 192 (f192M K) :=
  sound_fn (envOK (E := (f192E K)) tab_ok mixed_ok (AllOK.cons (f188_ok K) f188_runs (AllOK.cons (f232_ok K) f232_runs (AllOK.cons (f233_ok K) f233_runs (AllOK.cons (f297_ok K) f297_runs AllOK.nil)))) AllP.nil AllN.nil) Tryz.func192 fun x => f192_run K x.1 x.2.1 x.2.2.1
theorem f192_runs : Runs Tryz.prog 192 := runsB_ok (by kernel_rfl)
theorem f73_ok (K : Nat) : Sound Tryz.prog 73 (f73M K) :=
  sound_fn (envOK (E := (f73E K)) tab_ok mixed_ok (AllOK.cons (f179_ok K) f179_runs (AllOK.cons (f192_ok K) f192_runs AllOK.nil)) AllP.nil AllN.nil) Tryz.func73 fun x => f73_run K x.1 x.2.1 x.2.2.1 x.2.2.2.1
theorem f73_runs : Runs Tryz.prog 73 := runsB_ok (by kernel_rfl)
theorem f236_ok (K : Nat) : Sound Tryz.prog 236 (f236M K) :=
  sound_fn (envOK (E := (f236E K)) tab_ok mixed_ok (AllOK.cons (f320_ok K) f320_runs AllOK.nil) AllP.nil AllN.nil) Tryz.func236 fun x => f236_run K x.1 x.2.1
theorem f236_runs : Runs Tryz.prog 236 := runsB_ok (by kernel_rfl)
theorem f193_ok (K : Nat) : Sound Tryz.prog 193 (f193M K) :=
  sound_fn (envOK (E := (f193E K)) tab_ok mixed_ok (AllOK.cons (f171_ok K) f171_runs (AllOK.cons (f236_ok K) f236_runs AllOK.nil)) AllP.nil AllN.nil) Tryz.func193 fun x => f193_run K x.1 x.2.1 x.2.2.1
theorem f193_runs : Runs Tryz.prog 193 := runsB_ok (by kernel_rfl)
theorem f86_ok (K : Nat) : Sound Tryz.prog 86 (f86M K) :=
  sound_fn (envOK (E := (f86E K)) tab_ok mixed_ok (AllOK.cons (f170_ok K) f170_runs (AllOK.cons (f181_ok K) f181_runs (AllOK.cons (f193_ok K) f193_runs AllOK.nil))) AllP.nil AllN.nil) Tryz.func86 fun x => f86_run K x.1 x.2.1 x.2.2.1 x.2.2.2.1
theorem f86_runs : Runs Tryz.prog 86 := runsB_ok (by kernel_rfl)
theorem f87_ok (K : Nat) : Sound Tryz.prog 87 (f87M K) :=
  sound_fn (envOK (E := (f87E K)) tab_ok mixed_ok (AllOK.cons (f148_ok K) f148_runs (AllOK.cons (f170_ok K) f170_runs (AllOK.cons (f171_ok K) f171_runs AllOK.nil))) (AllP.cons (f140_ok K) f140_runs (AllP.cons (f167_ok K) f167_runs (AllP.cons (f178_ok K) f178_runs AllP.nil))) (AllN.cons (f124_ok K) f124_runs AllN.nil)) Tryz.func87 fun x => f87_run K x.1
theorem f87_runs : Runs Tryz.prog 87 := runsB_ok (by kernel_rfl)
theorem f207_ok (K : Nat) : Sound Tryz.prog 207 (f207M K) :=
  sound_fn (envOK (E := (f207E K)) tab_ok mixed_ok (AllOK.cons (f188_ok K) f188_runs AllOK.nil) AllP.nil AllN.nil) Tryz.func207 fun x => f207_run K x.1 x.2.1 x.2.2.1 x.2.2.2.1
theorem f207_runs : Runs Tryz.prog 207 := runsB_ok (by kernel_rfl)
theorem f206_ok (K : Nat) : Sound Tryz.prog 206 (f206M K) :=
  sound_fn (envOK (E := (f206E K)) tab_ok mixed_ok AllOK.nil AllP.nil AllN.nil) Tryz.func206 fun x => f206_run K x.1 x.2.1
theorem f206_runs : Runs Tryz.prog 206 := runsB_ok (by kernel_rfl)
theorem f88_ok (K : Nat) : Sound Tryz.prog 88 (f88M K) :=
  sound_fn (envOK (E := (f88E K)) tab_ok mixed_ok (AllOK.cons (f179_ok K) f179_runs (AllOK.cons (f206_ok K) f206_runs (AllOK.cons (f207_ok K) f207_runs AllOK.nil))) AllP.nil AllN.nil) Tryz.func88 fun x => f88_run K x.1 x.2.1 x.2.2.1 x.2.2.2.1 x.2.2.2.2.1
theorem f88_runs : Runs Tryz.prog 88 := runsB_ok (by kernel_rfl)
theorem f89_ok (K : Nat) : Sound Tryz.prog 89 (f89M K) :=
  sound_fn (envOK (E := (f89E K)) tab_ok mixed_ok (AllOK.cons (f170_ok K) f170_runs (AllOK.cons (f171_ok K) f171_runs (AllOK.cons (f181_ok K) f181_runs AllOK.nil))) AllP.nil AllN.nil) Tryz.func89 fun x => f89_run K x.1 x.2.1 x.2.2.1 x.2.2.2.1 x.2.2.2.2.1
theorem f89_runs : Runs Tryz.prog 89 := runsB_ok (by kernel_rfl)
theorem f355_ok (K : Nat) : SoundP Tryz.prog 355 (f355M K) :=
  sound_fnP (envOK (E := (f355E K)) tab_ok mixed_ok (AllOK.cons (f218_ok K) f218_runs (AllOK.cons (f306_ok K) f306_runs (AllOK.cons (f336_ok K) f336_runs AllOK.nil))) (AllP.cons (f140_ok K) f140_runs AllP.nil) AllN.nil) Tryz.func355 fun x => f355_run K x.1 x.2.1
theorem f355_runs : Runs Tryz.prog 355 := runsB_ok (by kernel_rfl)
theorem f383_ok (K : Nat) : Sound Tryz.prog 383 (f383M K) :=
  sound_fn (envOK (E := (f383E K)) tab_ok mixed_ok (AllOK.cons (f132_ok K) f132_runs AllOK.nil) AllP.nil AllN.nil) Tryz.func383 fun x => f383_run K x.1
theorem f383_runs : Runs Tryz.prog 383 := runsB_ok (by kernel_rfl)
theorem f357_ok (K : Nat) : SoundP Tryz.prog 357 (f357M K) :=
  sound_fnP (envOK (E := (f357E K)) tab_ok mixed_ok (AllOK.cons (f344_ok K) f344_runs (AllOK.cons (f383_ok K) f383_runs AllOK.nil)) (AllP.cons (f140_ok K) f140_runs AllP.nil) AllN.nil) Tryz.func357 fun x => f357_run K x.1
theorem f357_runs : Runs Tryz.prog 357 := runsB_ok (by kernel_rfl)
theorem f356_ok (K : Nat) : SoundP Tryz.prog 356 (f356M K) :=
  sound_fnP (envOK (E := (f356E K)) tab_ok mixed_ok (AllOK.cons (f218_ok K) f218_runs (AllOK.cons (f344_ok K) f344_runs AllOK.nil)) (AllP.cons (f140_ok K) f140_runs (AllP.cons (f142_ok K) f142_runs (AllP.cons (f357_ok K) f357_runs AllP.nil))) AllN.nil) Tryz.func356 fun x => f356_run K x.1
theorem f356_runs : Runs Tryz.prog 356 := runsB_ok (by kernel_rfl)
theorem f349_ok (K : Nat) : SoundP Tryz.prog 349 (f349M K) :=
  sound_fnP (envOK (E := (f349E K)) tab_ok mixed_ok AllOK.nil (AllP.cons (f140_ok K) f140_runs (AllP.cons (f142_ok K) f142_runs AllP.nil)) AllN.nil) Tryz.func349 fun x => f349_run K x.1
theorem f349_runs : Runs Tryz.prog 349 := runsB_ok (by kernel_rfl)
theorem f301_ok (K : Nat) : SoundP Tryz.prog 301 (f301M K) :=
  sound_fnP (envOK (E := (f301E K)) tab_ok mixed_ok (AllOK.cons (f218_ok K) f218_runs AllOK.nil) (AllP.cons (f140_ok K) f140_runs (AllP.cons (f349_ok K) f349_runs (AllP.cons (f355_ok K) f355_runs (AllP.cons (f356_ok K) f356_runs (AllP.cons (f357_ok K) f357_runs AllP.nil))))) AllN.nil) Tryz.func301 fun x => f301_run K x.1
theorem f301_runs : Runs Tryz.prog 301 := runsB_ok (by kernel_rfl)
theorem f208_ok (K : Nat) : Sound Tryz.prog 208 (f208M K) :=
  sound_fn (envOK (E := (f208E K)) tab_ok mixed_ok AllOK.nil (AllP.cons (f140_ok K) f140_runs (AllP.cons (f213_ok K) f213_runs (AllP.cons (f291_ok K) f291_runs (AllP.cons (f301_ok K) f301_runs AllP.nil)))) (AllN.cons (f124_ok K) f124_runs AllN.nil)) Tryz.func208 fun x => f208_run K x.1
theorem f208_runs : Runs Tryz.prog 208 := runsB_ok (by kernel_rfl)
theorem f90_ok (K : Nat) : Sound Tryz.prog 90 (f90M K) :=
  sound_fn (envOK (E := (f90E K)) tab_ok mixed_ok (AllOK.cons (f208_ok K) f208_runs AllOK.nil) AllP.nil AllN.nil) Tryz.func90 fun x => f90_run K x.1
theorem f90_runs : Runs Tryz.prog 90 := runsB_ok (by kernel_rfl)
theorem f281_ok (K : Nat) : Sound Tryz.prog 281 (f281M K) :=
  sound_fn (envOK (E := (f281E K)) tab_ok mixed_ok (AllOK.cons (f194_ok K) f194_runs AllOK.nil) AllP.nil AllN.nil) Tryz.func281 fun x => f281_run K x.1
theorem f281_runs : Runs Tryz.prog 281 := runsB_ok (by kernel_rfl)
theorem f156_ok (K : Nat) : Sound Tryz.prog 156 (f156M K) :=
  sound_fn (envOK (E := (f156E K)) tab_ok mixed_ok (AllOK.cons (f281_ok K) f281_runs AllOK.nil) AllP.nil AllN.nil) Tryz.func156 fun x => f156_run K x.1
theorem f156_runs : Runs Tryz.prog 156 := runsB_ok (by kernel_rfl)
theorem f187_ok (K : Nat) : Sound Tryz.prog 187 (f187M K) :=
  sound_fn (envOK (E := (f187E K)) tab_ok mixed_ok (AllOK.cons (f156_ok K) f156_runs (AllOK.cons (f266_ok K) f266_runs (AllOK.cons (f279_ok K) f279_runs AllOK.nil))) AllP.nil AllN.nil) Tryz.func187 fun x => f187_run K x.1 x.2.1 x.2.2.1
theorem f187_runs : Runs Tryz.prog 187 := runsB_ok (by kernel_rfl)
theorem f185_ok (K : Nat) : Sound Tryz.prog 185 (f185M K) :=
  sound_fn (envOK (E := (f185E K)) tab_ok mixed_ok AllOK.nil AllP.nil AllN.nil) Tryz.func185 fun x => f185_run K x.1
theorem f185_runs : Runs Tryz.prog 185 := runsB_ok (by kernel_rfl)
theorem f58_ok (K : Nat) : Sound Tryz.prog 58 (f58M K) :=
  sound_fn (envOK (E := (f58E K)) tab_ok mixed_ok (AllOK.cons (f185_ok K) f185_runs (AllOK.cons (f186_ok K) f186_runs (AllOK.cons (f187_ok K) f187_runs (AllOK.cons (f188_ok K) f188_runs AllOK.nil)))) AllP.nil AllN.nil) Tryz.func58 fun x => f58_run K x.1 x.2.1 x.2.2.1
theorem f58_runs : Runs Tryz.prog 58 := runsB_ok (by kernel_rfl)
theorem f149_ok (K : Nat) : Sound Tryz.prog 149 (f149M K) :=
  sound_fn (envOK (E := (f149E K)) tab_ok mixed_ok AllOK.nil AllP.nil AllN.nil) Tryz.func149 fun x => f149_run K x.1
theorem f149_runs : Runs Tryz.prog 149 := runsB_ok (by kernel_rfl)
theorem f91_ok (K : Nat) : Sound Tryz.prog 91 (f91M K) :=
  sound_fn (envOK (E := (f91E K)) tab_ok mixed_ok (AllOK.cons (f149_ok K) f149_runs (AllOK.cons (f171_ok K) f171_runs (AllOK.cons (f209_ok K) f209_runs (AllOK.cons (f210_ok K) f210_runs AllOK.nil)))) AllP.nil AllN.nil) Tryz.func91 fun x => f91_run K x.1 x.2.1 x.2.2.1
theorem f91_runs : Runs Tryz.prog 91 := runsB_ok (by kernel_rfl)
theorem f66_ok (K : Nat) : Sound Tryz.prog 66 (f66M K) :=
  sound_fn (envOK (E := (f66E K)) tab_ok mixed_ok AllOK.nil AllP.nil AllN.nil) Tryz.func66 fun x => f66_run K x.1 x.2.1
theorem f66_runs : Runs Tryz.prog 66 := runsB_ok (by kernel_rfl)
theorem f92_ok (K : Nat) : Sound Tryz.prog 92 (f92M K) :=
  sound_fn (envOK (E := (f92E K)) tab_ok mixed_ok AllOK.nil AllP.nil AllN.nil) Tryz.func92 fun x => f92_run K x.1 x.2.1
theorem f92_runs : Runs Tryz.prog 92 := runsB_ok (by kernel_rfl)
theorem f350_ok (K : Nat) : Sound Tryz.prog 350 (f350M K) :=
  sound_fn (envOK (E := (f350E K)) tab_ok mixed_ok (AllOK.cons (f281_ok K) f281_runs AllOK.nil) AllP.nil AllN.nil) Tryz.func350 fun x => f350_run K x.1
theorem f350_runs : Runs Tryz.prog 350 := runsB_ok (by kernel_rfl)
theorem f258_ok (K : Nat) : Sound Tryz.prog 258 (f258M K) :=
  sound_fn (envOK (E := (f258E K)) tab_ok mixed_ok AllOK.nil AllP.nil AllN.nil) Tryz.func258 fun x => f258_run K x.1
theorem f258_runs : Runs Tryz.prog 258 := runsB_ok (by kernel_rfl)
theorem f287_ok (K : Nat) : Sound Tryz.prog 287 (f287M K) :=
  sound_fn (envOK (E := (f287E K)) tab_ok mixed_ok (AllOK.cons (f258_ok K) f258_runs (AllOK.cons (f350_ok K) f350_runs AllOK.nil)) AllP.nil AllN.nil) Tryz.func287 fun x => f287_run K x.1
theorem f287_runs : Runs Tryz.prog 287 := runsB_ok (by kernel_rfl)
theorem f374_ok (K : Nat) : Sound Tryz.prog 374 (f374M K) :=
  sound_fn (envOK (E := (f374E K)) tab_ok mixed_ok (AllOK.cons (f217_ok K) f217_runs (AllOK.cons (f258_ok K) f258_runs AllOK.nil)) AllP.nil AllN.nil) Tryz.func374 fun x => f374_run K x.1
theorem f374_runs : Runs Tryz.prog 374 := runsB_ok (by kernel_rfl)
theorem f351_ok (K : Nat) : Sound Tryz.prog 351 (f351M K) :=
  sound_fn (envOK (E := (f351E K)) tab_ok mixed_ok (AllOK.cons (f258_ok K) f258_runs (AllOK.cons (f374_ok K) f374_runs AllOK.nil)) AllP.nil AllN.nil) Tryz.func351 fun x => f351_run K x.1
theorem f351_runs : Runs Tryz.prog 351 := runsB_ok (by kernel_rfl)
theorem f326_ok (K : Nat) : Sound Tryz.prog 326 (f326M K) :=
  sound_fn (envOK (E := (f326E K)) tab_ok mixed_ok (AllOK.cons (f258_ok K) f258_runs (AllOK.cons (f374_ok K) f374_runs AllOK.nil)) AllP.nil AllN.nil) Tryz.func326 fun x => f326_run K x.1
theorem f326_runs : Runs Tryz.prog 326 := runsB_ok (by kernel_rfl)
theorem f288_ok (K : Nat) : Sound Tryz.prog 288 (f288M K) :=
  sound_fn (envOK (E := (f288E K)) tab_ok mixed_ok (AllOK.cons (f326_ok K) f326_runs (AllOK.cons (f351_ok K) f351_runs AllOK.nil)) AllP.nil AllN.nil) Tryz.func288 fun x => f288_run K x.1
theorem f288_runs : Runs Tryz.prog 288 := runsB_ok (by kernel_rfl)
theorem f172_ok (K : Nat) : Sound Tryz.prog 172 (f172M K) :=
  sound_fn (envOK (E := (f172E K)) tab_ok mixed_ok (AllOK.cons (f156_ok K) f156_runs (AllOK.cons (f287_ok K) f287_runs (AllOK.cons (f288_ok K) f288_runs AllOK.nil))) AllP.nil AllN.nil) Tryz.func172 fun x => f172_run K x.1
theorem f172_runs : Runs Tryz.prog 172 := runsB_ok (by kernel_rfl)
theorem f173_ok (K : Nat) : Sound Tryz.prog 173 (f173M K) :=
  sound_fn (envOK (E := (f173E K)) tab_ok mixed_ok (AllOK.cons (f156_ok K) f156_runs AllOK.nil) AllP.nil AllN.nil) Tryz.func173 fun x => f173_run K x.1
theorem f173_runs : Runs Tryz.prog 173 := runsB_ok (by kernel_rfl)
theorem f45_ok (K : Nat) : Sound Tryz.prog 45 (f45M K) :=
  sound_fn (envOK (E := (f45E K)) tab_ok mixed_ok (AllOK.cons (f156_ok K) f156_runs (AllOK.cons (f172_ok K) f172_runs (AllOK.cons (f173_ok K) f173_runs (AllOK.cons (f174_ok K) f174_runs AllOK.nil)))) AllP.nil AllN.nil) Tryz.func45 fun x => f45_run K x.1 x.2.1
theorem f45_runs : Runs Tryz.prog 45 := runsB_ok (by kernel_rfl)
theorem f175_ok (K : Nat) : Sound Tryz.prog 175 (f175M K) :=
  sound_fn (envOK (E := (f175E K)) tab_ok mixed_ok (AllOK.cons (f156_ok K) f156_runs (AllOK.cons (f184_ok K) f184_runs AllOK.nil)) AllP.nil AllN.nil) Tryz.func175 fun x => f175_run K x.1 x.2.1
theorem f175_runs : Runs Tryz.prog 175 := runsB_ok (by kernel_rfl)
theorem f46_ok (K : Nat) : Sound Tryz.prog 46 (f46M K) :=
  sound_fn (envOK (E := (f46E K)) tab_ok mixed_ok (AllOK.cons (f175_ok K) f175_runs (AllOK.cons (f176_ok K) f176_runs AllOK.nil)) AllP.nil AllN.nil) Tryz.func46 fun x => f46_run K x.1 x.2.1
theorem f46_runs : Runs Tryz.prog 46 := runsB_ok (by kernel_rfl)
theorem f47_ok (K : Nat) : Sound Tryz.prog 47 (f47M K) :=
  sound_fn (envOK (E := (f47E K)) tab_ok mixed_ok AllOK.nil AllP.nil AllN.nil) Tryz.func47 fun x => f47_run K x.1 x.2.1
theorem f47_runs : Runs Tryz.prog 47 := runsB_ok (by kernel_rfl)
theorem f10_ok (K : Nat) : Sound Tryz.prog 10 (f10M K) :=
  sound_fn (envOK (E := (f10E K)) tab_ok mixed_ok (AllOK.cons (f14_ok K) f14_runs (AllOK.cons (f45_ok K) f45_runs (AllOK.cons (f46_ok K) f46_runs (AllOK.cons (f47_ok K) f47_runs (AllOK.cons (f58_ok K) f58_runs (AllOK.cons (f66_ok K) f66_runs (AllOK.cons (f73_ok K) f73_runs (AllOK.cons (f83_ok K) f83_runs (AllOK.cons (f84_ok K) f84_runs (AllOK.cons (f85_ok K) f85_runs (AllOK.cons (f86_ok K) f86_runs (AllOK.cons (f87_ok K) f87_runs (AllOK.cons (f88_ok K) f88_runs (AllOK.cons (f89_ok K) f89_runs (AllOK.cons (f90_ok K) f90_runs (AllOK.cons (f91_ok K) f91_runs (AllOK.cons (f92_ok K) f92_runs AllOK.nil))))))))))))))))) AllP.nil AllN.nil) Tryz.func10 fun x => f10_run K x.1
theorem f10_runs : Runs Tryz.prog 10 := runsB_ok (by kernel_rfl)
end Go.Proofs.YtniidcalfhhciaaGreat.X
