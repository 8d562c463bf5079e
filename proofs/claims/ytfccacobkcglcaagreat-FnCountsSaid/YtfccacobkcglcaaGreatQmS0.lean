/- Functions of the program as plain Lean functions, and that the program does what they say. Printed by gen.py. -/
import Derived.Test.YtfccacobkcglcaaGreatQmR0
import Derived.Test.YtfccacobkcglcaaGreatQmR1
namespace Go.Proofs.YtfccacobkcglcaaGreat.X
open Go
set_option maxRecDepth 100000
set_option linter.unusedVariables false
theorem f55_ok (K : Nat) : Sound Tryz.prog 55 (f55M K) :=
  sound_fn (envOK (E := (f55E K)) tab_ok mixed_ok AllOK.nil AllP.nil AllN.nil) Tryz.func55 fun x => f55_run K x.1
theorem f55_runs : Runs Tryz.prog 55 := runsB_ok (by kernel_rfl)
theorem f174_ok (K : Nat) : SoundN Tryz.prog 174 (f174M K) :=
  sound_fnN (envOK (E := (f174E K)) tab_ok mixed_ok AllOK.nil AllP.nil AllN.nil) Tryz.func174 fun x => f174_run K x.1
theorem f174_runs : Runs Tryz.prog 174 := runsB_ok (by kernel_rfl)
theorem f194_ok (K : Nat) : SoundP Tryz.prog 194 (f194M K) :=
  sound_fnP (envOK (E := (f194E K)) tab_ok mixed_ok AllOK.nil AllP.nil AllN.nil) Tryz.func194 fun x => f194_run K x.1 x.2.1
theorem f194_runs : Runs Tryz.prog 194 := runsB_ok (by kernel_rfl)
theorem f196_ok (K : Nat) : SoundP Tryz.prog 196 (f196M K) :=
  sound_fnP (envOK (E := (f196E K)) tab_ok mixed_ok AllOK.nil (AllP.cons (f194_ok K) f194_runs AllP.nil) AllN.nil) Tryz.func196 fun x => f196_run K x.1 x.2.1
theorem f196_runs : Runs Tryz.prog 196 := runsB_ok (by kernel_rfl)
theorem f314_ok (K : Nat) : SoundP Tryz.prog 314 (f314M K) :=
  sound_fnP (envOK (E := (f314E K)) tab_ok mixed_ok AllOK.nil (AllP.cons (f194_ok K) f194_runs (AllP.cons (f196_ok K) f196_runs AllP.nil)) AllN.nil) Tryz.func314 fun x => f314_run K x.1
theorem f314_runs : Runs Tryz.prog 314 := runsB_ok (by kernel_rfl)
theorem f315_ok (K : Nat) : SoundP Tryz.prog 315 (f315M K) :=
  sound_fnP (envOK (E := (f315E K)) tab_ok mixed_ok AllOK.nil (AllP.cons (f194_ok K) f194_runs (AllP.cons (f196_ok K) f196_runs AllP.nil)) AllN.nil) Tryz.func315 fun x => f315_run K x.1
theorem f315_runs : Runs Tryz.prog 315 := runsB_ok (by kernel_rfl)
theorem f227_ok (K : Nat) : SoundP Tryz.prog 227 (f227M K) :=
  sound_fnP (envOK (E := (f227E K)) tab_ok mixed_ok AllOK.nil (AllP.cons (f194_ok K) f194_runs (AllP.cons (f314_ok K) f314_runs (AllP.cons (f315_ok K) f315_runs AllP.nil))) AllN.nil) Tryz.func227 fun x => f227_run K x.1
theorem f227_runs : Runs Tryz.prog 227 := runsB_ok (by kernel_rfl)
theorem f316_ok (K : Nat) : Sound Tryz.prog 316 (f316M K) :=
  sound_fn (envOK (E := (f316E K)) tab_ok mixed_ok AllOK.nil AllP.nil AllN.nil) Tryz.func316 fun x => f316_run K x.1
theorem f316_runs : Runs Tryz.prog 316 := runsB_ok (by kernel_rfl)
theorem f141_ok (K : Nat) : Sound Tryz.prog 141 (f141M K) :=
  sound_fn (envOK (E := (f141E K)) tab_ok mixed_ok AllOK.nil AllP.nil AllN.nil) Tryz.func141 fun x => f141_run K x.1 x.2.1 x.2.2.1
theorem f141_runs : Runs Tryz.prog 141 := runsB_ok (by kernel_rfl)
theorem f317_ok (K : Nat) : Sound Tryz.prog 317 (f317M K) :=
  sound_fn (envOK (E := (f317E K)) tab_ok mixed_ok (AllOK.cons (f141_ok K) f141_runs AllOK.nil) AllP.nil AllN.nil) Tryz.func317 fun x => f317_run K x.1
theorem f317_runs : Runs Tryz.prog 317 := runsB_ok (by kernel_rfl)
theorem f229_ok (K : Nat) : Sound Tryz.prog 229 (f229M K) :=
  sound_fn (envOK (E := (f229E K)) tab_ok mixed_ok (AllOK.cons (f316_ok K) f316_runs (AllOK.cons (f317_ok K) f317_runs AllOK.nil)) AllP.nil AllN.nil) Tryz.func229 fun x => f229_run K x.1 x.2.1
theorem f229_runs : Runs Tryz.prog 229 := runsB_ok (by kernel_rfl)
theorem f233_ok (K : Nat) : Sound Tryz.prog 233 (f233M K) :=
  sound_fn (envOK (E := (f233E K)) tab_ok mixed_ok AllOK.nil AllP.nil AllN.nil) Tryz.func233 fun x => f233_run K 
theorem f233_runs : Runs Tryz.prog 233 := runsB_ok (by kernel_rfl)
theorem f404_ok (K : Nat) : Sound Tryz.prog 404 (f404M K) :=
  sound_fn (envOK (E := (f404E K)) tab_ok mixed_ok AllOK.nil AllP.nil AllN.nil) Tryz.func404 fun x => f404_run K x.1 x.2.1
theorem f404_runs : Runs Tryz.prog 404 := runsB_ok (by kernel_rfl)
theorem f340_ok (K : Nat) : Sound Tryz.prog 340 (f340M K) :=
  sound_fn (envOK (E := (f340E K)) tab_ok mixed_ok AllOK.nil AllP.nil AllN.nil) Tryz.func340 fun x => f340_run K x.1 x.2.1
theorem f340_runs : Runs Tryz.prog 340 := runsB_ok (by kernel_rfl)
theorem f362_ok (K : Nat) : Sound Tryz.prog 362 (f362M K) :=
  sound_fn (envOK (E := (f362E K)) tab_ok mixed_ok (AllOK.cons (f340_ok K) f340_runs (AllOK.cons (f404_ok K) f404_runs AllOK.nil)) AllP.nil AllN.nil) Tryz.func362 fun x => f362_run K x.1 x.2.1
theorem f362_runs : Runs Tryz.prog 362 := runsB_ok (by kernel_rfl)
theorem f365_ok (K : Nat) : Sound Tryz.prog 365 (f365M K) :=
  sound_fn (envOK (E := (f365E K)) tab_ok mixed_ok (AllOK.cons (f362_ok K) f362_runs AllOK.nil) AllP.nil AllN.nil) Tryz.func365 fun x => f365_run K x.1
theorem f365_runs : Runs Tryz.prog 365 := runsB_ok (by kernel_rfl)
theorem f363_ok (K : Nat) : Sound Tryz.prog 363 (f363M K) :=
  sound_fn (envOK (E := (f363E K)) tab_ok mixed_ok AllOK.nil AllP.nil AllN.nil) Tryz.func363 fun x => f363_run K x.1
theorem f363_runs : Runs Tryz.prog 363 := runsB_ok (by kernel_rfl)
theorem f341_ok (K : Nat) : Sound Tryz.prog 341 (f341M K) :=
  sound_fn (envOK (E := (f341E K)) tab_ok mixed_ok AllOK.nil AllP.nil AllN.nil) Tryz.func341 fun x => f341_run K x.1 x.2.1
theorem f341_runs : Runs Tryz.prog 341 := runsB_ok (by kernel_rfl)
theorem f405_runs : Runs Tryz.prog 405 := runsB_ok (by kernel_rfl)
theorem f405_okn (K : Nat) : ∀ n, Sound Tryz.prog 405 ⟨[(.ro, (.int .i64)), (.ro, (.int .i64))], [(.int .i64)], fun x => f405R K n x.1 x.2.1⟩
  | 0 => fun _ _ _ _ _ _ _ h => by cases h
  | n + 1 => sound_fn (envOK (E := f405E K (f405R K n)) tab_ok mixed_ok (AllOK.cons (f405_okn K n) f405_runs AllOK.nil) AllP.nil AllN.nil) Tryz.func405 fun x => f405_run K (f405R K n) x.1 x.2.1
theorem f405_ok (K : Nat) : Sound Tryz.prog 405 (f405M K) := f405_okn K K
theorem f255_ok (K : Nat) : Sound Tryz.prog 255 (f255M K) :=
  sound_fn (envOK (E := (f255E K)) tab_ok mixed_ok AllOK.nil AllP.nil AllN.nil) Tryz.func255 fun x => f255_run K x.1 x.2.1
theorem f255_runs : Runs Tryz.prog 255 := runsB_ok (by kernel_rfl)
theorem f406_ok (K : Nat) : Sound Tryz.prog 406 (f406M K) :=
  sound_fn (envOK (E := (f406E K)) tab_ok mixed_ok AllOK.nil AllP.nil AllN.nil) Tryz.func406 fun x => f406_run K x.1 x.2.1
theorem f406_runs : Runs Tryz.prog 406 := runsB_ok (by kernel_rfl)
theorem f364_ok (K : Nat) : Sound Tryz.prog 364 (f364M K) :=
  sound_fn (envOK (E := (f364E K)) tab_ok mixed_ok (AllOK.cons (f255_ok K) f255_runs (AllOK.cons (f405_ok K) f405_runs (AllOK.cons (f406_ok K) f406_runs AllOK.nil))) AllP.nil AllN.nil) Tryz.func364 fun x => f364_run K x.1
theorem f364_runs : Runs Tryz.prog 364 := runsB_ok (by kernel_rfl)
theorem f313_ok (K : Nat) : Sound Tryz.prog 313 (f313M K) :=
  sound_fn (envOK (E := (f313E K)) tab_ok mixed_ok (AllOK.cons (f341_ok K) f341_runs (AllOK.cons (f363_ok K) f363_runs (AllOK.cons (f364_ok K) f364_runs AllOK.nil))) AllP.nil AllN.nil) Tryz.func313 fun x => f313_run K x.1 x.2.1
theorem f313_runs : Runs Tryz.prog 313 := runsB_ok (by kernel_rfl)
theorem f318_ok (K : Nat) : Sound Tryz.prog 318 (f318M K) :=
  sound_fn (envOK (E := (f318E K)) tab_ok mixed_ok (AllOK.cons (f313_ok K) f313_runs (AllOK.cons (f365_ok K) f365_runs AllOK.nil)) AllP.nil AllN.nil) Tryz.func318 fun x => f318_run K x.1 x.2.1
theorem f318_runs : Runs Tryz.prog 318 := runsB_ok (by kernel_rfl)
theorem f309_ok (K : Nat) : SoundP Tryz.prog 309 (f309M K) :=
  sound_fnP (envOK (E := (f309E K)) tab_ok mixed_ok (AllOK.cons (f229_ok K) f229_runs (AllOK.cons (f233_ok K) f233_runs (AllOK.cons (f318_ok K) f318_runs AllOK.nil))) (AllP.cons (f194_ok K) f194_runs AllP.nil) AllN.nil) Tryz.func309 fun x => f309_run K x.1 x.2.1 x.2.2.1
theorem f309_runs : Runs Tryz.prog 309 := runsB_ok (by kernel_rfl)
theorem f153_ok (K : Nat) : Sound Tryz.prog 153 (f153M K) :=
  sound_fn (envOK (E := (f153E K)) tab_ok mixed_ok (AllOK.cons (f255_ok K) f255_runs AllOK.nil) AllP.nil AllN.nil) Tryz.func153 fun x => f153_run K x.1 x.2.1
theorem f153_runs : Runs Tryz.prog 153 := runsB_ok (by kernel_rfl)
theorem f303_ok (K : Nat) : Sound Tryz.prog 303 (f303M K) :=
  sound_fn (envOK (E := (f303E K)) tab_ok mixed_ok (AllOK.cons (f153_ok K) f153_runs AllOK.nil) AllP.nil AllN.nil) Tryz.func303 fun x => f303_run K x.1 x.2.1
theorem f303_runs : Runs Tryz.prog 303 := runsB_ok (by kernel_rfl)
theorem f306_ok (K : Nat) : Sound Tryz.prog 306 (f306M K) :=
  sound_fn (envOK (E := (f306E K)) tab_ok mixed_ok (AllOK.cons (f233_ok K) f233_runs AllOK.nil) AllP.nil AllN.nil) Tryz.func306 fun x => f306_run K 
theorem f306_runs : Runs Tryz.prog 306 := runsB_ok (by kernel_rfl)
theorem f351_ok (K : Nat) : Sound Tryz.prog 351 (f351M K) :=
  sound_fn (envOK (E := (f351E K)) tab_ok mixed_ok AllOK.nil AllP.nil AllN.nil) Tryz.func351 fun x => f351_run K x.1 x.2.1
theorem f351_runs : Runs Tryz.prog 351 := runsB_ok (by kernel_rfl)
theorem f307_ok (K : Nat) : Sound Tryz.prog 307 (f307M K) :=
  sound_fn (envOK (E := (f307E K)) tab_ok mixed_ok (AllOK.cons (f340_ok K) f340_runs (AllOK.cons (f341_ok K) f341_runs (AllOK.cons (f351_ok K) f351_runs AllOK.nil))) AllP.nil AllN.nil) Tryz.func307 fun x => f307_run K x.1 x.2.1
theorem f307_runs : Runs Tryz.prog 307 := runsB_ok (by kernel_rfl)
theorem f398_ok (K : Nat) : Sound Tryz.prog 398 (f398M K) :=
  sound_fn (envOK (E := (f398E K)) tab_ok mixed_ok AllOK.nil AllP.nil AllN.nil) Tryz.func398 fun x => f398_run K x.1
theorem f398_runs : Runs Tryz.prog 398 := runsB_ok (by kernel_rfl)
theorem f397_ok (K : Nat) : Sound Tryz.prog 397 (f397M K) :=
  sound_fn (envOK (E := (f397E K)) tab_ok mixed_ok AllOK.nil AllP.nil AllN.nil) Tryz.func397 fun x => f397_run K x.1 x.2.1
theorem f397_runs : Runs Tryz.prog 397 := runsB_ok (by kernel_rfl)
theorem f350_ok (K : Nat) : Sound Tryz.prog 350 (f350M K) :=
  sound_fn (envOK (E := (f350E K)) tab_ok mixed_ok (AllOK.cons (f397_ok K) f397_runs (AllOK.cons (f398_ok K) f398_runs AllOK.nil)) AllP.nil AllN.nil) Tryz.func350 fun x => f350_run K x.1 x.2.1
theorem f350_runs : Runs Tryz.prog 350 := runsB_ok (by kernel_rfl)
theorem f339_ok (K : Nat) : Sound Tryz.prog 339 (f339M K) :=
  sound_fn (envOK (E := (f339E K)) tab_ok mixed_ok AllOK.nil AllP.nil AllN.nil) Tryz.func339 fun x => f339_run K x.1 x.2.1
theorem f339_runs : Runs Tryz.prog 339 := runsB_ok (by kernel_rfl)
theorem f304_ok (K : Nat) : Sound Tryz.prog 304 (f304M K) :=
  sound_fn (envOK (E := (f304E K)) tab_ok mixed_ok (AllOK.cons (f339_ok K) f339_runs (AllOK.cons (f350_ok K) f350_runs AllOK.nil)) AllP.nil AllN.nil) Tryz.func304 fun x => f304_run K x.1 x.2.1
theorem f304_runs : Runs Tryz.prog 304 := runsB_ok (by kernel_rfl)
theorem f328_ok (K : Nat) : Sound Tryz.prog 328 (f328M K) :=
  sound_fn (envOK (E := (f328E K)) tab_ok mixed_ok (AllOK.cons (f304_ok K) f304_runs AllOK.nil) AllP.nil AllN.nil) Tryz.func328 fun x => f328_run K x.1 x.2.1
theorem f328_runs : Runs Tryz.prog 328 := runsB_ok (by kernel_rfl)
theorem f305_ok (K : Nat) : Sound Tryz.prog 305 (f305M K) :=
  sound_fn (envOK (E := (f305E K)) tab_ok mixed_ok (AllOK.cons (f328_ok K) f328_runs AllOK.nil) AllP.nil AllN.nil) Tryz.func305 fun x => f305_run K x.1 x.2.1
theorem f305_runs : Runs Tryz.prog 305 := runsB_ok (by kernel_rfl)
theorem f324_ok (K : Nat) : Sound Tryz.prog 324 (f324M K) :=
  sound_fn (envOK (E := (f324E K)) tab_ok mixed_ok (AllOK.cons (f328_ok K) f328_runs AllOK.nil) AllP.nil AllN.nil) Tryz.func324 fun x => f324_run K x.1 x.2.1
theorem f324_runs : Runs Tryz.prog 324 := runsB_ok (by kernel_rfl)
theorem f253_ok (K : Nat) : Sound Tryz.prog 253 (f253M K) :=
  sound_fn (envOK (E := (f253E K)) tab_ok mixed_ok (AllOK.cons (f303_ok K) f303_runs (AllOK.cons (f305_ok K) f305_runs (AllOK.cons (f306_ok K) f306_runs (AllOK.cons (f307_ok K) f307_runs (AllOK.cons (f324_ok K) f324_runs AllOK.nil))))) AllP.nil AllN.nil) Tryz.func253 fun x => f253_run K x.1 x.2.1
theorem f253_runs : Runs Tryz.prog 253 := runsB_ok (by kernel_rfl)
theorem f302_ok (K : Nat) : SoundP Tryz.prog 302 (f302M K) :=
  sound_fnP (envOK (E := (f302E K)) tab_ok mixed_ok (AllOK.cons (f229_ok K) f229_runs (AllOK.cons (f253_ok K) f253_runs (AllOK.cons (f303_ok K) f303_runs AllOK.nil))) (AllP.cons (f194_ok K) f194_runs (AllP.cons (f227_ok K) f227_runs (AllP.cons (f309_ok K) f309_runs AllP.nil))) AllN.nil) Tryz.func302 fun x => f302_run K x.1
theorem f302_runs : Runs Tryz.prog 302 := runsB_ok (by kernel_rfl)
theorem f232_ok (K : Nat) : Sound Tryz.prog 232 (f232M K) :=
  sound_fn (envOK (E := (f232E K)) tab_ok mixed_ok AllOK.nil AllP.nil AllN.nil) Tryz.func232 fun x => f232_run K x.1
theorem f232_runs : Runs Tryz.prog 232 := runsB_ok (by kernel_rfl)
theorem f230_ok (K : Nat) : Sound Tryz.prog 230 (f230M K) :=
  sound_fn (envOK (E := (f230E K)) tab_ok mixed_ok (AllOK.cons (f232_ok K) f232_runs (AllOK.cons (f318_ok K) f318_runs AllOK.nil)) AllP.nil AllN.nil) Tryz.func230 fun x => f230_run K x.1 x.2.1
theorem f230_runs : Runs Tryz.prog 230 := runsB_ok (by kernel_rfl)
theorem f108_ok (K : Nat) : Sound Tryz.prog 108 (f108M K) :=
  sound_fn (envOK (E := (f108E K)) tab_ok mixed_ok (AllOK.cons (f229_ok K) f229_runs (AllOK.cons (f232_ok K) f232_runs (AllOK.cons (f233_ok K) f233_runs AllOK.nil))) AllP.nil AllN.nil) Tryz.func108 fun x => f108_run K x.1 x.2.1
theorem f108_runs : Runs Tryz.prog 108 := runsB_ok (by kernel_rfl)
theorem f213_ok (K : Nat) : SoundP Tryz.prog 213 (f213M K) :=
  sound_fnP (envOK (E := (f213E K)) tab_ok mixed_ok (AllOK.cons (f108_ok K) f108_runs (AllOK.cons (f229_ok K) f229_runs (AllOK.cons (f230_ok K) f230_runs AllOK.nil))) (AllP.cons (f194_ok K) f194_runs (AllP.cons (f302_ok K) f302_runs AllP.nil)) AllN.nil) Tryz.func213 fun x => f213_run K x.1
theorem f213_runs : Runs Tryz.prog 213 := runsB_ok (by kernel_rfl)
theorem f214_ok (K : Nat) : SoundP Tryz.prog 214 (f214M K) :=
  sound_fnP (envOK (E := (f214E K)) tab_ok mixed_ok AllOK.nil (AllP.cons (f194_ok K) f194_runs (AllP.cons (f196_ok K) f196_runs AllP.nil)) AllN.nil) Tryz.func214 fun x => f214_run K x.1
theorem f214_runs : Runs Tryz.prog 214 := runsB_ok (by kernel_rfl)
theorem f98_ok (K : Nat) : Sound Tryz.prog 98 (f98M K) :=
  sound_fn (envOK (E := (f98E K)) tab_ok mixed_ok AllOK.nil (AllP.cons (f213_ok K) f213_runs (AllP.cons (f214_ok K) f214_runs AllP.nil)) (AllN.cons (f174_ok K) f174_runs AllN.nil)) Tryz.func98 fun x => f98_run K x.1
theorem f98_runs : Runs Tryz.prog 98 := runsB_ok (by kernel_rfl)
theorem f146_ok (K : Nat) : Sound Tryz.prog 146 (f146M K) :=
  sound_fn (envOK (E := (f146E K)) tab_ok mixed_ok AllOK.nil AllP.nil AllN.nil) Tryz.func146 fun x => f146_run K x.1 x.2.1 x.2.2.1
theorem f146_runs : Runs Tryz.prog 146 := runsB_ok (by kernel_rfl)
theorem f248_ok (K : Nat) : Sound Tryz.prog 248 (f248M K) :=
  sound_fn (envOK (E := (f248E K)) tab_ok mixed_ok (AllOK.cons (f146_ok K) f146_runs AllOK.nil) AllP.nil AllN.nil) Tryz.func248 fun x => f248_run K x.1
theorem f248_runs : Runs Tryz.prog 248 := runsB_ok (by kernel_rfl)
theorem f238_ok (K : Nat) : Sound Tryz.prog 238 (f238M K) :=
  sound_fn (envOK (E := (f238E K)) tab_ok mixed_ok AllOK.nil AllP.nil AllN.nil) Tryz.func238 fun x => f238_run K x.1
theorem f238_runs : Runs Tryz.prog 238 := runsB_ok (by kernel_rfl)
theorem f249_ok (K : Nat) : Sound Tryz.prog 249 (f249M K) :=
  sound_fn (envOK (E := (f249E K)) tab_ok mixed_ok (AllOK.cons (f146_ok K) f146_runs (AllOK.cons (f238_ok K) f238_runs AllOK.nil)) AllP.nil AllN.nil) Tryz.func249 fun x => f249_run K x.1
theorem f249_runs : Runs Tryz.prog 249 := runsB_ok (by kernel_rfl)
theorem f223_ok (K : Nat) : Sound Tryz.prog 223 (f223M K) :=
  sound_fn (envOK (E := (f223E K)) tab_ok mixed_ok (AllOK.cons (f248_ok K) f248_runs (AllOK.cons (f249_ok K) f249_runs AllOK.nil)) AllP.nil AllN.nil) Tryz.func223 fun x => f223_run K x.1 x.2.1
theorem f223_runs : Runs Tryz.prog 223 := runsB_ok (by kernel_rfl)
theorem f356_ok (K : Nat) : Sound Tryz.prog 356 (f356M K) :=
  sound_fn (envOK (E := (f356E K)) tab_ok mixed_ok AllOK.nil AllP.nil AllN.nil) Tryz.func356 fun x => f356_run K x.1
theorem f356_runs : Runs Tryz.prog 356 := runsB_ok (by kernel_rfl)
theorem f288_ok (K : Nat) : Sound Tryz.prog 288 (f288M K) :=
  sound_fn (envOK (E := (f288E K)) tab_ok mixed_ok AllOK.nil AllP.nil AllN.nil) Tryz.func288 fun x => f288_run K x.1 x.2.1
theorem f288_runs : Runs Tryz.prog 288 := runsB_ok (by kernel_rfl)
theorem f401_ok (K : Nat) : Sound Tryz.prog 401 (f401M K) :=
  sound_fn (envOK (E := (f401E K)) tab_ok mixed_ok AllOK.nil AllP.nil AllN.nil) Tryz.func401 fun x => f401_run K x.1 x.2.1
theorem f401_runs : Runs Tryz.prog 401 := runsB_ok (by kernel_rfl)
theorem f358_ok (K : Nat) : Sound Tryz.prog 358 (f358M K) :=
  sound_fn (envOK (E := (f358E K)) tab_ok mixed_ok (AllOK.cons (f288_ok K) f288_runs (AllOK.cons (f401_ok K) f401_runs AllOK.nil)) AllP.nil AllN.nil) Tryz.func358 fun x => f358_run K x.1
theorem f358_runs : Runs Tryz.prog 358 := runsB_ok (by kernel_rfl)
theorem f260_ok (K : Nat) : Sound Tryz.prog 260 (f260M K) :=
  sound_fn (envOK (E := (f260E K)) tab_ok mixed_ok AllOK.nil AllP.nil AllN.nil) Tryz.func260 fun x => f260_run K x.1 x.2.1
theorem f260_runs : Runs Tryz.prog 260 := runsB_ok (by kernel_rfl)
theorem f161_ok (K : Nat) : Sound Tryz.prog 161 (f161M K) :=
  sound_fn (envOK (E := (f161E K)) tab_ok mixed_ok (AllOK.cons (f260_ok K) f260_runs AllOK.nil) AllP.nil AllN.nil) Tryz.func161 fun x => f161_run K x.1 x.2.1
theorem f161_runs : Runs Tryz.prog 161 := runsB_ok (by kernel_rfl)
theorem f360_ok (K : Nat) : Sound Tryz.prog 360 (f360M K) :=
  sound_fn (envOK (E := (f360E K)) tab_ok mixed_ok (AllOK.cons (f161_ok K) f161_runs AllOK.nil) AllP.nil AllN.nil) Tryz.func360 fun x => f360_run K x.1 x.2.1
theorem f360_runs : Runs Tryz.prog 360 := runsB_ok (by kernel_rfl)
theorem f359_ok (K : Nat) : Sound Tryz.prog 359 (f359M K) :=
  sound_fn (envOK (E := (f359E K)) tab_ok mixed_ok (AllOK.cons (f288_ok K) f288_runs (AllOK.cons (f360_ok K) f360_runs AllOK.nil)) AllP.nil AllN.nil) Tryz.func359 fun x => f359_run K x.1 x.2.1 x.2.2.1 x.2.2.2.1
theorem f359_runs : Runs Tryz.prog 359 := runsB_ok (by kernel_rfl)
theorem f400_ok (K : Nat) : Sound Tryz.prog 400 (f400M K) :=
  sound_fn (envOK (E := (f400E K)) tab_ok mixed_ok AllOK.nil AllP.nil AllN.nil) Tryz.func400 fun x => f400_run K x.1 x.2.1
theorem f400_runs : Runs Tryz.prog 400 := runsB_ok (by kernel_rfl)
theorem f357_ok (K : Nat) : Sound Tryz.prog 357 (f357M K) :=
  sound_fn (envOK (E := (f357E K)) tab_ok mixed_ok (AllOK.cons (f400_ok K) f400_runs AllOK.nil) AllP.nil AllN.nil) Tryz.func357 fun x => f357_run K x.1 x.2.1
theorem f357_runs : Runs Tryz.prog 357 := runsB_ok (by kernel_rfl)
theorem f311_ok (K : Nat) : Sound Tryz.prog 311 (f311M K) :=
  sound_fn (envOK (E := (f311E K)) tab_ok mixed_ok (AllOK.cons (f356_ok K) f356_runs (AllOK.cons (f357_ok K) f357_runs (AllOK.cons (f358_ok K) f358_runs (AllOK.cons (f359_ok K) f359_runs AllOK.nil)))) AllP.nil AllN.nil) Tryz.func311 fun x => f311_run K x.1 x.2.1
theorem f311_runs : Runs Tryz.prog 311 := runsB_ok (by kernel_rfl)
theorem f355_ok (K : Nat) : Sound Tryz.prog 355 (f355M K) :=
  sound_fn (envOK (E := (f355E K)) tab_ok mixed_ok AllOK.nil AllP.nil AllN.nil) Tryz.func355 fun x => f355_run K x.1 x.2.1
theorem f355_runs : Runs Tryz.prog 355 := runsB_ok (by kernel_rfl)
theorem f310_ok (K : Nat) : Sound Tryz.prog 310 (f310M K) :=
  sound_fn (envOK (E := (f310E K)) tab_ok mixed_ok (AllOK.cons (f355_ok K) f355_runs AllOK.nil) AllP.nil AllN.nil) Tryz.func310 fun x => f310_run K x.1 x.2.1
theorem f310_runs : Runs Tryz.prog 310 := runsB_ok (by kernel_rfl)
theorem f332_ok (K : Nat) : Sound Tryz.prog 332 (f332M K) :=
  sound_fn (envOK (E := (f332E K)) tab_ok mixed_ok AllOK.nil AllP.nil AllN.nil) Tryz.func332 fun x => f332_run K x.1 x.2.1
theorem f332_runs : Runs Tryz.prog 332 := runsB_ok (by kernel_rfl)
theorem f349_ok (K : Nat) : Sound Tryz.prog 349 (f349M K) :=
  sound_fn (envOK (E := (f349E K)) tab_ok mixed_ok (AllOK.cons (f332_ok K) f332_runs AllOK.nil) AllP.nil AllN.nil) Tryz.func349 fun x => f349_run K x.1 x.2.1
theorem f349_runs : Runs Tryz.prog 349 := runsB_ok (by kernel_rfl)
theorem f269_ok (K : Nat) : Sound Tryz.prog 269 (f269M K) :=
  sound_fn (envOK (E := (f269E K)) tab_ok mixed_ok (AllOK.cons (f332_ok K) f332_runs AllOK.nil) AllP.nil AllN.nil) Tryz.func269 fun x => f269_run K x.1 x.2.1
theorem f269_runs : Runs Tryz.prog 269 := runsB_ok (by kernel_rfl)
theorem f300_ok (K : Nat) : Sound Tryz.prog 300 (f300M K) :=
  sound_fn (envOK (E := (f300E K)) tab_ok mixed_ok (AllOK.cons (f269_ok K) f269_runs (AllOK.cons (f349_ok K) f349_runs AllOK.nil)) AllP.nil AllN.nil) Tryz.func300 fun x => f300_run K x.1 x.2.1
theorem f300_runs : Runs Tryz.prog 300 := runsB_ok (by kernel_rfl)
theorem f231_ok (K : Nat) : Sound Tryz.prog 231 (f231M K) :=
  sound_fn (envOK (E := (f231E K)) tab_ok mixed_ok AllOK.nil AllP.nil AllN.nil) Tryz.func231 fun x => f231_run K 
theorem f231_runs : Runs Tryz.prog 231 := runsB_ok (by kernel_rfl)
theorem f347_ok (K : Nat) : Sound Tryz.prog 347 (f347M K) :=
  sound_fn (envOK (E := (f347E K)) tab_ok mixed_ok AllOK.nil AllP.nil AllN.nil) Tryz.func347 fun x => f347_run K x.1 x.2.1
theorem f347_runs : Runs Tryz.prog 347 := runsB_ok (by kernel_rfl)
theorem f289_ok (K : Nat) : Sound Tryz.prog 289 (f289M K) :=
  sound_fn (envOK (E := (f289E K)) tab_ok mixed_ok AllOK.nil AllP.nil AllN.nil) Tryz.func289 fun x => f289_run K x.1 x.2.1
theorem f289_runs : Runs Tryz.prog 289 := runsB_ok (by kernel_rfl)
theorem f298_ok (K : Nat) : Sound Tryz.prog 298 (f298M K) :=
  sound_fn (envOK (E := (f298E K)) tab_ok mixed_ok (AllOK.cons (f288_ok K) f288_runs (AllOK.cons (f289_ok K) f289_runs (AllOK.cons (f347_ok K) f347_runs AllOK.nil))) AllP.nil AllN.nil) Tryz.func298 fun x => f298_run K x.1 x.2.1
theorem f298_runs : Runs Tryz.prog 298 := runsB_ok (by kernel_rfl)
theorem f297_ok (K : Nat) : Sound Tryz.prog 297 (f297M K) :=
  sound_fn (envOK (E := (f297E K)) tab_ok mixed_ok (AllOK.cons (f161_ok K) f161_runs AllOK.nil) AllP.nil AllN.nil) Tryz.func297 fun x => f297_run K x.1 x.2.1
theorem f297_runs : Runs Tryz.prog 297 := runsB_ok (by kernel_rfl)
theorem f325_ok (K : Nat) : Sound Tryz.prog 325 (f325M K) :=
  sound_fn (envOK (E := (f325E K)) tab_ok mixed_ok (AllOK.cons (f161_ok K) f161_runs (AllOK.cons (f231_ok K) f231_runs (AllOK.cons (f297_ok K) f297_runs (AllOK.cons (f298_ok K) f298_runs (AllOK.cons (f300_ok K) f300_runs (AllOK.cons (f310_ok K) f310_runs (AllOK.cons (f311_ok K) f311_runs AllOK.nil))))))) AllP.nil AllN.nil) Tryz.func325 fun x => f325_run K x.1 x.2.1 x.2.2.1
theorem f325_runs : Runs Tryz.prog 325 := runsB_ok (by kernel_rfl)
theorem f257_ok (K : Nat) : Sound Tryz.prog 257 (f257M K) :=
  sound_fn (envOK (E := (f257E K)) tab_ok mixed_ok (AllOK.cons (f223_ok K) f223_runs (AllOK.cons (f325_ok K) f325_runs AllOK.nil)) AllP.nil AllN.nil) Tryz.func257 fun x => f257_run K x.1 x.2.1 x.2.2.1
theorem f257_runs : Runs Tryz.prog 257 := runsB_ok (by kernel_rfl)
theorem f216_ok (K : Nat) : Sound Tryz.prog 216 (f216M K) :=
  sound_fn (envOK (E := (f216E K)) tab_ok mixed_ok AllOK.nil AllP.nil AllN.nil) Tryz.func216 fun x => f216_run K x.1 x.2.1 x.2.2.1
theorem f216_runs : Runs Tryz.prog 216 := runsB_ok (by kernel_rfl)
theorem f237_ok (K : Nat) : Sound Tryz.prog 237 (f237M K) :=
  sound_fn (envOK (E := (f237E K)) tab_ok mixed_ok (AllOK.cons (f146_ok K) f146_runs (AllOK.cons (f216_ok K) f216_runs (AllOK.cons (f223_ok K) f223_runs (AllOK.cons (f238_ok K) f238_runs AllOK.nil)))) AllP.nil AllN.nil) Tryz.func237 fun x => f237_run K x.1 x.2.1 x.2.2.1 x.2.2.2.1
theorem f237_runs : Runs Tryz.prog 237 := runsB_ok (by kernel_rfl)
theorem f215_ok (K : Nat) : Sound Tryz.prog 215 (f215M K) :=
  sound_fn (envOK (E := (f215E K)) tab_ok mixed_ok (AllOK.cons (f237_ok K) f237_runs (AllOK.cons (f257_ok K) f257_runs AllOK.nil)) AllP.nil AllN.nil) Tryz.func215 fun x => f215_run K x.1 x.2.1 x.2.2.1 x.2.2.2.1 x.2.2.2.2.1
theorem f215_runs : Runs Tryz.prog 215 := runsB_ok (by kernel_rfl)
theorem f207_ok (K : Nat) : Sound Tryz.prog 207 (f207M K) :=
  sound_fn (envOK (E := (f207E K)) tab_ok mixed_ok AllOK.nil AllP.nil AllN.nil) Tryz.func207 fun x => f207_run K x.1
theorem f207_runs : Runs Tryz.prog 207 := runsB_ok (by kernel_rfl)
theorem f191_ok (K : Nat) : Sound Tryz.prog 191 (f191M K) :=
  sound_fn (envOK (E := (f191E K)) tab_ok mixed_ok (AllOK.cons (f288_ok K) f288_runs (AllOK.cons (f289_ok K) f289_runs AllOK.nil)) AllP.nil AllN.nil) Tryz.func191 fun x => f191_run K x.1 x.2.1
theorem f191_runs : Runs Tryz.prog 191 := runsB_ok (by kernel_rfl)
theorem f267_ok (K : Nat) : Sound Tryz.prog 267 (f267M K) :=
  sound_fn (envOK (E := (f267E K)) tab_ok mixed_ok (AllOK.cons (f161_ok K) f161_runs (AllOK.cons (f191_ok K) f191_runs AllOK.nil)) AllP.nil AllN.nil) Tryz.func267 fun x => f267_run K x.1 x.2.1 x.2.2.1
theorem f267_runs : Runs Tryz.prog 267 := runsB_ok (by kernel_rfl)
theorem f217_ok (K : Nat) : Sound Tryz.prog 217 (f217M K) :=
  sound_fn (envOK (E := (f217E K)) tab_ok mixed_ok (AllOK.cons (f207_ok K) f207_runs (AllOK.cons (f267_ok K) f267_runs AllOK.nil)) AllP.nil AllN.nil) Tryz.func217 fun x => f217_run K x.1 x.2.1
theorem f217_runs : Runs Tryz.prog 217 := runsB_ok (by kernel_rfl)
theorem f99_ok (K : Nat) : Sound Tryz.prog 99 (f99M K) :=
  sound_fn (envOK (E := (f99E K)) tab_ok mixed_ok (AllOK.cons (f215_ok K) f215_runs (AllOK.cons (f216_ok K) f216_runs (AllOK.cons (f217_ok K) f217_runs AllOK.nil))) AllP.nil AllN.nil) Tryz.func99 fun x => f99_run K x.1 x.2.1 x.2.2.1 x.2.2.2.1
theorem f99_runs : Runs Tryz.prog 99 := runsB_ok (by kernel_rfl)
theorem f211_ok (K : Nat) : Sound Tryz.prog 211 (f211M K) :=
  sound_fn (envOK (E := (f211E K)) tab_ok mixed_ok (AllOK.cons (f141_ok K) f141_runs AllOK.nil) AllP.nil AllN.nil) Tryz.func211 fun x => f211_run K x.1
theorem f211_runs : Runs Tryz.prog 211 := runsB_ok (by kernel_rfl)
theorem f402_ok (K : Nat) : Sound Tryz.prog 402 (f402M K) :=
  sound_fn (envOK (E := (f402E K)) tab_ok mixed_ok (AllOK.cons (f211_ok K) f211_runs AllOK.nil) AllP.nil AllN.nil) Tryz.func402 fun x => f402_run K x.1
theorem f402_runs : Runs Tryz.prog 402 := runsB_ok (by kernel_rfl)
theorem f403_ok (K : Nat) : Sound Tryz.prog 403 (f403M K) :=
  sound_fn (envOK (E := (f403E K)) tab_ok mixed_ok AllOK.nil AllP.nil AllN.nil) Tryz.func403 fun x => f403_run K x.1
theorem f403_runs : Runs Tryz.prog 403 := runsB_ok (by kernel_rfl)
theorem f361_ok (K : Nat) : Sound Tryz.prog 361 (f361M K) :=
  sound_fn (envOK (E := (f361E K)) tab_ok mixed_ok (AllOK.cons (f402_ok K) f402_runs (AllOK.cons (f403_ok K) f403_runs AllOK.nil)) AllP.nil AllN.nil) Tryz.func361 fun x => f361_run K x.1
theorem f361_runs : Runs Tryz.prog 361 := runsB_ok (by kernel_rfl)
theorem f312_ok (K : Nat) : Sound Tryz.prog 312 (f312M K) :=
  sound_fn (envOK (E := (f312E K)) tab_ok mixed_ok (AllOK.cons (f316_ok K) f316_runs (AllOK.cons (f361_ok K) f361_runs (AllOK.cons (f362_ok K) f362_runs AllOK.nil))) AllP.nil AllN.nil) Tryz.func312 fun x => f312_run K x.1 x.2.1
theorem f312_runs : Runs Tryz.prog 312 := runsB_ok (by kernel_rfl)
theorem f226_ok (K : Nat) : Sound Tryz.prog 226 (f226M K) :=
  sound_fn (envOK (E := (f226E K)) tab_ok mixed_ok (AllOK.cons (f211_ok K) f211_runs (AllOK.cons (f229_ok K) f229_runs (AllOK.cons (f312_ok K) f312_runs (AllOK.cons (f313_ok K) f313_runs AllOK.nil)))) AllP.nil AllN.nil) Tryz.func226 fun x => f226_run K x.1 x.2.1 x.2.2.1
theorem f226_runs : Runs Tryz.prog 226 := runsB_ok (by kernel_rfl)
theorem f219_ok (K : Nat) : Sound Tryz.prog 219 (f219M K) :=
  sound_fn (envOK (E := (f219E K)) tab_ok mixed_ok (AllOK.cons (f226_ok K) f226_runs (AllOK.cons (f229_ok K) f229_runs (AllOK.cons (f303_ok K) f303_runs (AllOK.cons (f304_ok K) f304_runs (AllOK.cons (f305_ok K) f305_runs (AllOK.cons (f306_ok K) f306_runs (AllOK.cons (f307_ok K) f307_runs AllOK.nil))))))) AllP.nil AllN.nil) Tryz.func219 fun x => f219_run K x.1 x.2.1 x.2.2.1
theorem f219_runs : Runs Tryz.prog 219 := runsB_ok (by kernel_rfl)
theorem f225_ok (K : Nat) : Sound Tryz.prog 225 (f225M K) :=
  sound_fn (envOK (E := (f225E K)) tab_ok mixed_ok (AllOK.cons (f229_ok K) f229_runs AllOK.nil) AllP.nil AllN.nil) Tryz.func225 fun x => f225_run K x.1 x.2.1 x.2.2.1
theorem f225_runs : Runs Tryz.prog 225 := runsB_ok (by kernel_rfl)
theorem f220_ok (K : Nat) : Sound Tryz.prog 220 (f220M K) :=
  sound_fn (envOK (E := (f220E K)) tab_ok mixed_ok AllOK.nil AllP.nil AllN.nil) Tryz.func220 fun x => f220_run K x.1 x.2.1 x.2.2.1
theorem f220_runs : Runs Tryz.prog 220 := runsB_ok (by kernel_rfl)
theorem f218_ok (K : Nat) : Sound Tryz.prog 218 (f218M K) :=
  sound_fn (envOK (E := (f218E K)) tab_ok mixed_ok (AllOK.cons (f141_ok K) f141_runs (AllOK.cons (f220_ok K) f220_runs (AllOK.cons (f225_ok K) f225_runs AllOK.nil))) AllP.nil AllN.nil) Tryz.func218 fun x => f218_run K x.1 x.2.1 x.2.2.1 x.2.2.2.1 x.2.2.2.2.1
theorem f218_runs : Runs Tryz.prog 218 := runsB_ok (by kernel_rfl)
theorem f127_ok (K : Nat) : Sound Tryz.prog 127 (f127M K) :=
  sound_fn (envOK (E := (f127E K)) tab_ok mixed_ok (AllOK.cons (f153_ok K) f153_runs AllOK.nil) AllP.nil AllN.nil) Tryz.func127 fun x => f127_run K x.1 x.2.1
theorem f127_runs : Runs Tryz.prog 127 := runsB_ok (by kernel_rfl)
theorem f284_ok (K : Nat) : Sound Tryz.prog 284 (f284M K) :=
  sound_fn (envOK (E := (f284E K)) tab_ok mixed_ok (AllOK.cons (f340_ok K) f340_runs (AllOK.cons (f341_ok K) f341_runs AllOK.nil)) AllP.nil AllN.nil) Tryz.func284 fun x => f284_run K x.1 x.2.1
theorem f284_runs : Runs Tryz.prog 284 := runsB_ok (by kernel_rfl)
theorem f185_ok (K : Nat) : Sound Tryz.prog 185 (f185M K) :=
  sound_fn (envOK (E := (f185E K)) tab_ok mixed_ok (AllOK.cons (f153_ok K) f153_runs (AllOK.cons (f284_ok K) f284_runs AllOK.nil)) AllP.nil AllN.nil) Tryz.func185 fun x => f185_run K x.1 x.2.1 x.2.2.1
theorem f185_runs : Runs Tryz.prog 185 := runsB_ok (by kernel_rfl)
theorem f221_ok (K : Nat) : Sound Tryz.prog 221 (f221M K) :=
  sound_fn (envOK (E := (f221E K)) tab_ok mixed_ok (AllOK.cons (f127_ok K) f127_runs (AllOK.cons (f185_ok K) f185_runs (AllOK.cons (f232_ok K) f232_runs AllOK.nil))) AllP.nil AllN.nil) Tryz.func221 fun x => f221_run K x.1 x.2.1
theorem f221_runs : Runs Tryz.prog 221 := runsB_ok (by kernel_rfl)
theorem f100_ok (K : Nat) : Sound Tryz.prog 100 (f100M K) :=
  sound_fn (envOK (E := (f100E K)) tab_ok mixed_ok (AllOK.cons (f218_ok K) f218_runs (AllOK.cons (f219_ok K) f219_runs (AllOK.cons (f220_ok K) f220_runs (AllOK.cons (f221_ok K) f221_runs AllOK.nil)))) AllP.nil AllN.nil) Tryz.func100 fun x => f100_run K x.1 x.2.1 x.2.2.1 x.2.2.2.1
theorem f100_runs : Runs Tryz.prog 100 := runsB_ok (by kernel_rfl)
theorem f352_ok (K : Nat) : SoundP Tryz.prog 352 (f352M K) :=
  sound_fnP (envOK (E := (f352E K)) tab_ok mixed_ok (AllOK.cons (f233_ok K) f233_runs (AllOK.cons (f316_ok K) f316_runs (AllOK.cons (f365_ok K) f365_runs AllOK.nil))) (AllP.cons (f194_ok K) f194_runs AllP.nil) AllN.nil) Tryz.func352 fun x => f352_run K x.1 x.2.1
theorem f352_runs : Runs Tryz.prog 352 := runsB_ok (by kernel_rfl)
theorem f399_ok (K : Nat) : Sound Tryz.prog 399 (f399M K) :=
  sound_fn (envOK (E := (f399E K)) tab_ok mixed_ok (AllOK.cons (f403_ok K) f403_runs AllOK.nil) AllP.nil AllN.nil) Tryz.func399 fun x => f399_run K x.1
theorem f399_runs : Runs Tryz.prog 399 := runsB_ok (by kernel_rfl)
theorem f354_ok (K : Nat) : SoundP Tryz.prog 354 (f354M K) :=
  sound_fnP (envOK (E := (f354E K)) tab_ok mixed_ok (AllOK.cons (f351_ok K) f351_runs (AllOK.cons (f399_ok K) f399_runs AllOK.nil)) (AllP.cons (f194_ok K) f194_runs AllP.nil) AllN.nil) Tryz.func354 fun x => f354_run K x.1
theorem f354_runs : Runs Tryz.prog 354 := runsB_ok (by kernel_rfl)
theorem f353_ok (K : Nat) : SoundP Tryz.prog 353 (f353M K) :=
  sound_fnP (envOK (E := (f353E K)) tab_ok mixed_ok (AllOK.cons (f233_ok K) f233_runs (AllOK.cons (f351_ok K) f351_runs AllOK.nil)) (AllP.cons (f194_ok K) f194_runs (AllP.cons (f196_ok K) f196_runs (AllP.cons (f354_ok K) f354_runs AllP.nil))) AllN.nil) Tryz.func353 fun x => f353_run K x.1
theorem f353_runs : Runs Tryz.prog 353 := runsB_ok (by kernel_rfl)
theorem f291_ok (K : Nat) : SoundP Tryz.prog 291 (f291M K) :=
  sound_fnP (envOK (E := (f291E K)) tab_ok mixed_ok AllOK.nil (AllP.cons (f194_ok K) f194_runs (AllP.cons (f196_ok K) f196_runs AllP.nil)) AllN.nil) Tryz.func291 fun x => f291_run K x.1
theorem f291_runs : Runs Tryz.prog 291 := runsB_ok (by kernel_rfl)
theorem f308_ok (K : Nat) : SoundP Tryz.prog 308 (f308M K) :=
  sound_fnP (envOK (E := (f308E K)) tab_ok mixed_ok (AllOK.cons (f233_ok K) f233_runs AllOK.nil) (AllP.cons (f194_ok K) f194_runs (AllP.cons (f291_ok K) f291_runs (AllP.cons (f352_ok K) f352_runs (AllP.cons (f353_ok K) f353_runs (AllP.cons (f354_ok K) f354_runs AllP.nil))))) AllN.nil) Tryz.func308 fun x => f308_run K x.1
theorem f308_runs : Runs Tryz.prog 308 := runsB_ok (by kernel_rfl)
theorem f222_ok (K : Nat) : Sound Tryz.prog 222 (f222M K) :=
  sound_fn (envOK (E := (f222E K)) tab_ok mixed_ok AllOK.nil (AllP.cons (f194_ok K) f194_runs (AllP.cons (f227_ok K) f227_runs (AllP.cons (f308_ok K) f308_runs (AllP.cons (f309_ok K) f309_runs AllP.nil)))) (AllN.cons (f174_ok K) f174_runs AllN.nil)) Tryz.func222 fun x => f222_run K x.1
theorem f222_runs : Runs Tryz.prog 222 := runsB_ok (by kernel_rfl)
theorem f101_ok (K : Nat) : Sound Tryz.prog 101 (f101M K) :=
  sound_fn (envOK (E := (f101E K)) tab_ok mixed_ok (AllOK.cons (f222_ok K) f222_runs AllOK.nil) AllP.nil AllN.nil) Tryz.func101 fun x => f101_run K x.1
theorem f101_runs : Runs Tryz.prog 101 := runsB_ok (by kernel_rfl)
theorem f287_ok (K : Nat) : Sound Tryz.prog 287 (f287M K) :=
  sound_fn (envOK (E := (f287E K)) tab_ok mixed_ok (AllOK.cons (f146_ok K) f146_runs AllOK.nil) AllP.nil AllN.nil) Tryz.func287 fun x => f287_run K x.1
theorem f287_runs : Runs Tryz.prog 287 := runsB_ok (by kernel_rfl)
theorem f189_ok (K : Nat) : Sound Tryz.prog 189 (f189M K) :=
  sound_fn (envOK (E := (f189E K)) tab_ok mixed_ok (AllOK.cons (f287_ok K) f287_runs AllOK.nil) AllP.nil AllN.nil) Tryz.func189 fun x => f189_run K x.1
theorem f189_runs : Runs Tryz.prog 189 := runsB_ok (by kernel_rfl)
theorem f224_ok (K : Nat) : Sound Tryz.prog 224 (f224M K) :=
  sound_fn (envOK (E := (f224E K)) tab_ok mixed_ok (AllOK.cons (f189_ok K) f189_runs (AllOK.cons (f310_ok K) f310_runs (AllOK.cons (f311_ok K) f311_runs AllOK.nil))) AllP.nil AllN.nil) Tryz.func224 fun x => f224_run K x.1 x.2.1 x.2.2.1
theorem f224_runs : Runs Tryz.prog 224 := runsB_ok (by kernel_rfl)
theorem f102_ok (K : Nat) : Sound Tryz.prog 102 (f102M K) :=
  sound_fn (envOK (E := (f102E K)) tab_ok mixed_ok (AllOK.cons (f217_ok K) f217_runs (AllOK.cons (f223_ok K) f223_runs (AllOK.cons (f224_ok K) f224_runs AllOK.nil))) AllP.nil AllN.nil) Tryz.func102 fun x => f102_run K x.1 x.2.1 x.2.2.1
theorem f102_runs : Runs Tryz.prog 102 := runsB_ok (by kernel_rfl)
theorem f103_ok (K : Nat) : Sound Tryz.prog 103 (f103M K) :=
  sound_fn (envOK (E := (f103E K)) tab_ok mixed_ok (AllOK.cons (f221_ok K) f221_runs (AllOK.cons (f225_ok K) f225_runs (AllOK.cons (f226_ok K) f226_runs AllOK.nil))) AllP.nil AllN.nil) Tryz.func103 fun x => f103_run K x.1 x.2.1 x.2.2.1
theorem f103_runs : Runs Tryz.prog 103 := runsB_ok (by kernel_rfl)
theorem f104_ok (K : Nat) : Sound Tryz.prog 104 (f104M K) :=
  sound_fn (envOK (E := (f104E K)) tab_ok mixed_ok AllOK.nil (AllP.cons (f227_ok K) f227_runs AllP.nil) (AllN.cons (f174_ok K) f174_runs AllN.nil)) Tryz.func104 fun x => f104_run K x.1
theorem f104_runs : Runs Tryz.prog 104 := runsB_ok (by kernel_rfl)
theorem f228_ok (K : Nat) : Sound Tryz.prog 228 (f228M K) :=
  sound_fn (envOK (E := (f228E K)) tab_ok mixed_ok (AllOK.cons (f207_ok K) f207_runs (AllOK.cons (f311_ok K) f311_runs AllOK.nil)) AllP.nil AllN.nil) Tryz.func228 fun x => f228_run K x.1 x.2.1
theorem f228_runs : Runs Tryz.prog 228 := runsB_ok (by kernel_rfl)
theorem f105_ok (K : Nat) : Sound Tryz.prog 105 (f105M K) :=
  sound_fn (envOK (E := (f105E K)) tab_ok mixed_ok (AllOK.cons (f223_ok K) f223_runs (AllOK.cons (f228_ok K) f228_runs AllOK.nil)) AllP.nil AllN.nil) Tryz.func105 fun x => f105_run K x.1 x.2.1
theorem f105_runs : Runs Tryz.prog 105 := runsB_ok (by kernel_rfl)
theorem f106_ok (K : Nat) : Sound Tryz.prog 106 (f106M K) :=
  sound_fn (envOK (E := (f106E K)) tab_ok mixed_ok (AllOK.cons (f229_ok K) f229_runs (AllOK.cons (f230_ok K) f230_runs AllOK.nil)) AllP.nil AllN.nil) Tryz.func106 fun x => f106_run K x.1 x.2.1
theorem f106_runs : Runs Tryz.prog 106 := runsB_ok (by kernel_rfl)
theorem f107_ok (K : Nat) : Sound Tryz.prog 107 (f107M K) :=
  sound_fn (envOK (E := (f107E K)) tab_ok mixed_ok (AllOK.cons (f207_ok K) f207_runs (AllOK.cons (f223_ok K) f223_runs (AllOK.cons (f231_ok K) f231_runs AllOK.nil))) AllP.nil AllN.nil) Tryz.func107 fun x => f107_run K x.1 x.2.1
theorem f107_runs : Runs Tryz.prog 107 := runsB_ok (by kernel_rfl)
theorem f109_ok (K : Nat) : Sound Tryz.prog 109 (f109M K) :=
  sound_fn (envOK (E := (f109E K)) tab_ok mixed_ok AllOK.nil AllP.nil AllN.nil) Tryz.func109 fun x => f109_run K x.1 x.2.1
theorem f109_runs : Runs Tryz.prog 109 := runsB_ok (by kernel_rfl)
theorem f235_ok (K : Nat) : Sound Tryz.prog 235 (f235M K) :=
  sound_fn (envOK (E := (f235E K)) tab_ok mixed_ok (AllOK.cons (f224_ok K) f224_runs AllOK.nil) AllP.nil AllN.nil) Tryz.func235 fun x => f235_run K x.1 x.2.1 x.2.2.1
theorem f235_runs : Runs Tryz.prog 235 := runsB_ok (by kernel_rfl)
theorem f319_ok (K : Nat) : Sound Tryz.prog 319 (f319M K) :=
  sound_fn (envOK (E := (f319E K)) tab_ok mixed_ok AllOK.nil AllP.nil AllN.nil) Tryz.func319 fun x => f319_run K x.1 x.2.1
theorem f319_runs : Runs Tryz.prog 319 := runsB_ok (by kernel_rfl)
theorem f234_ok (K : Nat) : Sound Tryz.prog 234 (f234M K) :=
  sound_fn (envOK (E := (f234E K)) tab_ok mixed_ok (AllOK.cons (f319_ok K) f319_runs AllOK.nil) AllP.nil AllN.nil) Tryz.func234 fun x => f234_run K x.1 x.2.1
theorem f234_runs : Runs Tryz.prog 234 := runsB_ok (by kernel_rfl)
def f299_ren : Go.Shelf.Ren := ⟨fun | 6 => 299 | 14 => 348 | 15 => 331 | 20 => 389 | 21 => 390 | 22 => 391 | 23 => 392 | 24 => 393 | 25 => 394 | 26 => 395 | 27 => 396 | 28 => 377 | 29 => 378 | 46 => 415 | 47 => 408 | 48 => 409 | 49 => 416 | 50 => 417 | 57 => 420 | n => n, fun | 0 => 0 | 3 => 3 | 4 => 4 | 5 => 5 | 9 => 9 | 22 => 68 | 24 => 95 | 25 => 303 | 39 => 269 | 45 => 357 | 46 => 358 | 50 => 362 | 53 => 329 | 55 => 331 | 66 => 379 | 70 => 383 | 76 => 389 | 77 => 390 | n => n, fun n => n⟩
theorem f299_lays : SlLaysF0.n6 Tryz.prog f299_ren where
  mixed := by kernel_rfl
  f6 := ⟨ "slices.SortFunc[[]loop.example/g00943/impl.Motion,loop.example/g00943/impl.Motion]", by decide, Tryz.func299.trans (congrArg some (by kernel_rfl))⟩
  f14 := ⟨ "slices.pdqsortCmpFunc[loop.example/g00943/impl.Motion]", by decide, Tryz.func348.trans (congrArg some (by kernel_rfl))⟩
  f15 := Tryz.func331.trans (congrArg some (by kernel_rfl))
  f20 := ⟨ "slices.insertionSortCmpFunc[loop.example/g00943/impl.Motion]", by decide, Tryz.func389.trans (congrArg some (by kernel_rfl))⟩
  f21 := ⟨ "slices.heapSortCmpFunc[loop.example/g00943/impl.Motion]", by decide, Tryz.func390.trans (congrArg some (by kernel_rfl))⟩
  f22 := ⟨ "slices.breakPatternsCmpFunc[loop.example/g00943/impl.Motion]", by decide, Tryz.func391.trans (congrArg some (by kernel_rfl))⟩
  f23 := ⟨ "slices.choosePivotCmpFunc[loop.example/g00943/impl.Motion]", by decide, Tryz.func392.trans (congrArg some (by kernel_rfl))⟩
  f24 := ⟨ "slices.reverseRangeCmpFunc[loop.example/g00943/impl.Motion]", by decide, Tryz.func393.trans (congrArg some (by kernel_rfl))⟩
  f25 := ⟨ "slices.partialInsertionSortCmpFunc[loop.example/g00943/impl.Motion]", by decide, Tryz.func394.trans (congrArg some (by kernel_rfl))⟩
  f26 := ⟨ "slices.partitionEqualCmpFunc[loop.example/g00943/impl.Motion]", by decide, Tryz.func395.trans (congrArg some (by kernel_rfl))⟩
  f27 := ⟨ "slices.partitionCmpFunc[loop.example/g00943/impl.Motion]", by decide, Tryz.func396.trans (congrArg some (by kernel_rfl))⟩
  f28 := Tryz.func377.trans (congrArg some (by kernel_rfl))
  f29 := Tryz.func378.trans (congrArg some (by kernel_rfl))
  f46 := ⟨ "slices.siftDownCmpFunc[loop.example/g00943/impl.Motion]", by decide, Tryz.func415.trans (congrArg some (by kernel_rfl))⟩
  f47 := Tryz.func408.trans (congrArg some (by kernel_rfl))
  f48 := Tryz.func409.trans (congrArg some (by kernel_rfl))
  f49 := ⟨ "slices.medianAdjacentCmpFunc[loop.example/g00943/impl.Motion]", by decide, Tryz.func416.trans (congrArg some (by kernel_rfl))⟩
  f50 := ⟨ "slices.medianCmpFunc[loop.example/g00943/impl.Motion]", by decide, Tryz.func417.trans (congrArg some (by kernel_rfl))⟩
  f57 := ⟨ "slices.order2CmpFunc[loop.example/g00943/impl.Motion]", by decide, Tryz.func420.trans (congrArg some (by kernel_rfl))⟩
  t0 := Tryz.underlying0
  a0 := Tryz.isAgg0
  z0 := Tryz.sizeOf0
  v0 := Tryz.zeroValue0
  t3 := Tryz.underlying3
  a3 := Tryz.isAgg3
  z3 := Tryz.sizeOf3
  v3 := Tryz.zeroValue3
  t4 := Tryz.underlying4
  a4 := Tryz.isAgg4
  z4 := Tryz.sizeOf4
  v4 := Tryz.zeroValue4
  t5 := Tryz.underlying5
  a5 := Tryz.isAgg5
  z5 := Tryz.sizeOf5
  v5 := Tryz.zeroValue5
  t9 := Tryz.underlying9
  a9 := Tryz.isAgg9
  z9 := Tryz.sizeOf9
  v9 := Tryz.zeroValue9
  t22 := Tryz.underlying68
  a22 := Tryz.isAgg68
  z22 := Tryz.sizeOf68
  v22 := Tryz.zeroValue68
  t25 := Tryz.underlying303
  a25 := Tryz.isAgg303
  z25 := Tryz.sizeOf303
  v25 := Tryz.zeroValue303
  t39 := Tryz.underlying269
  a39 := Tryz.isAgg269
  z39 := Tryz.sizeOf269
  v39 := Tryz.zeroValue269
  t45 := Tryz.underlying357
  a45 := Tryz.isAgg357
  z45 := Tryz.sizeOf357
  v45 := Tryz.zeroValue357
  t46 := Tryz.underlying358
  a46 := Tryz.isAgg358
  z46 := Tryz.sizeOf358
  v46 := Tryz.zeroValue358
  t50 := Tryz.underlying362
  a50 := Tryz.isAgg362
  z50 := Tryz.sizeOf362
  v50 := Tryz.zeroValue362
  t53 := Tryz.underlying329
  a53 := Tryz.isAgg329
  z53 := Tryz.sizeOf329
  v53 := Tryz.zeroValue329
  t55 := Tryz.underlying331
  a55 := Tryz.isAgg331
  z55 := Tryz.sizeOf331
  v55 := Tryz.zeroValue331
  t66 := Tryz.underlying379
  a66 := Tryz.isAgg379
  z66 := Tryz.sizeOf379
  v66 := Tryz.zeroValue379
  t70 := Tryz.underlying383
  a70 := Tryz.isAgg383
  z70 := Tryz.sizeOf383
  v70 := Tryz.zeroValue383
  t76 := Tryz.underlying389
  a76 := Tryz.isAgg389
  z76 := Tryz.sizeOf389
  v76 := Tryz.zeroValue389
  t77 := Tryz.underlying390
  a77 := Tryz.isAgg390
  z77 := Tryz.sizeOf390
  v77 := Tryz.zeroValue390
theorem f299_ok (K : Nat) : Sound Tryz.prog 299 (f299M K) := sort_sound (e := 95) (s := (.cons (.cons (.int .i64) (.cons (.int .i64) (.cons (.int .i64) (.int .i64)))) (.cons (.int .i64) (.int .i64)))) f299_lays rfl rfl rfl Tryz.isAgg95 Tryz.sizeOf95
theorem f299_runs : Runs Tryz.prog 299 := runsB_ok (by kernel_rfl)
theorem f205_ok (K : Nat) : Sound Tryz.prog 205 (f205M K) :=
  sound_fn (envOK (E := (f205E K)) tab_ok mixed_ok (AllOK.cons (f231_ok K) f231_runs (AllOK.cons (f297_ok K) f297_runs (AllOK.cons (f298_ok K) f298_runs (AllOK.cons (f299_ok K) f299_runs (AllOK.cons (f300_ok K) f300_runs AllOK.nil))))) AllP.nil AllN.nil) Tryz.func205 fun x => f205_run K x.1 x.2.1
theorem f205_runs : Runs Tryz.prog 205 := runsB_ok (by kernel_rfl)
theorem f110_ok (K : Nat) : Sound Tryz.prog 110 (f110M K) :=
  sound_fn (envOK (E := (f110E K)) tab_ok mixed_ok (AllOK.cons (f205_ok K) f205_runs (AllOK.cons (f223_ok K) f223_runs (AllOK.cons (f234_ok K) f234_runs (AllOK.cons (f235_ok K) f235_runs AllOK.nil)))) AllP.nil AllN.nil) Tryz.func110 fun x => f110_run K x.1 x.2.1 x.2.2.1
theorem f110_runs : Runs Tryz.prog 110 := runsB_ok (by kernel_rfl)
theorem f183_ok (K : Nat) : Sound Tryz.prog 183 (f183M K) :=
  sound_fn (envOK (E := (f183E K)) tab_ok mixed_ok (AllOK.cons (f146_ok K) f146_runs AllOK.nil) AllP.nil AllN.nil) Tryz.func183 fun x => f183_run K x.1 x.2.1
theorem f183_runs : Runs Tryz.prog 183 := runsB_ok (by kernel_rfl)
theorem f266_ok (K : Nat) : Sound Tryz.prog 266 (f266M K) :=
  sound_fn (envOK (E := (f266E K)) tab_ok mixed_ok (AllOK.cons (f183_ok K) f183_runs AllOK.nil) AllP.nil AllN.nil) Tryz.func266 fun x => f266_run K x.1 x.2.1
theorem f266_runs : Runs Tryz.prog 266 := runsB_ok (by kernel_rfl)
theorem f329_ok (K : Nat) : Sound Tryz.prog 329 (f329M K) :=
  sound_fn (envOK (E := (f329E K)) tab_ok mixed_ok AllOK.nil AllP.nil AllN.nil) Tryz.func329 fun x => f329_run K x.1 x.2.1
theorem f329_runs : Runs Tryz.prog 329 := runsB_ok (by kernel_rfl)
theorem f265_ok (K : Nat) : Sound Tryz.prog 265 (f265M K) :=
  sound_fn (envOK (E := (f265E K)) tab_ok mixed_ok (AllOK.cons (f329_ok K) f329_runs AllOK.nil) AllP.nil AllN.nil) Tryz.func265 fun x => f265_run K x.1 x.2.1
theorem f265_runs : Runs Tryz.prog 265 := runsB_ok (by kernel_rfl)
theorem f170_ok (K : Nat) : Sound Tryz.prog 170 (f170M K) :=
  sound_fn (envOK (E := (f170E K)) tab_ok mixed_ok (AllOK.cons (f257_ok K) f257_runs (AllOK.cons (f265_ok K) f265_runs (AllOK.cons (f266_ok K) f266_runs AllOK.nil))) AllP.nil AllN.nil) Tryz.func170 fun x => f170_run K x.1 x.2.1 x.2.2.1 x.2.2.2.1
theorem f170_runs : Runs Tryz.prog 170 := runsB_ok (by kernel_rfl)
def f321_ren : Go.Shelf.Ren := ⟨fun | 212 => 321 | 263 => 366 | 264 => 367 | n => n, fun | 46 => 269 | 51 => 329 | 53 => 331 | 146 => 351 | 148 => 353 | n => n, fun n => n⟩
theorem f321_lays : Lays.n212 Tryz.prog f321_ren where
  mixed := by kernel_rfl
  f212 := Tryz.func321.trans (congrArg some (by kernel_rfl))
  f263 := Tryz.func366.trans (congrArg some (by kernel_rfl))
  f264 := Tryz.func367.trans (congrArg some (by kernel_rfl))
  t46 := Tryz.underlying269
  a46 := Tryz.isAgg269
  z46 := Tryz.sizeOf269
  v46 := Tryz.zeroValue269
  t51 := Tryz.underlying329
  a51 := Tryz.isAgg329
  z51 := Tryz.sizeOf329
  v51 := Tryz.zeroValue329
  t53 := Tryz.underlying331
  a53 := Tryz.isAgg331
  z53 := Tryz.sizeOf331
  v53 := Tryz.zeroValue331
  t146 := Tryz.underlying351
  a146 := Tryz.isAgg351
  z146 := Tryz.sizeOf351
  v146 := Tryz.zeroValue351
  t148 := Tryz.underlying353
  a148 := Tryz.isAgg353
  z148 := Tryz.sizeOf353
  v148 := Tryz.zeroValue353
theorem f321_ok (K : Nat) : Sound Tryz.prog 321 (f321M K) := mul_sound f321_lays rfl
theorem f321_runs : Runs Tryz.prog 321 := runsB_ok (by kernel_rfl)
theorem f243_ok (K : Nat) : Sound Tryz.prog 243 (f243M K) :=
  sound_fn (envOK (E := (f243E K)) tab_ok mixed_ok (AllOK.cons (f321_ok K) f321_runs AllOK.nil) AllP.nil AllN.nil) Tryz.func243 fun x => f243_run K x.1 x.2.1
theorem f243_runs : Runs Tryz.prog 243 := runsB_ok (by kernel_rfl)
theorem f130_ok (K : Nat) : Sound Tryz.prog 130 (f130M K) :=
  sound_fn (envOK (E := (f130E K)) tab_ok mixed_ok AllOK.nil AllP.nil AllN.nil) Tryz.func130 fun x => f130_run K x.1 x.2.1
theorem f130_runs : Runs Tryz.prog 130 := runsB_ok (by kernel_rfl)
def f268_ren : Go.Shelf.Ren := ⟨fun | 6 => 268 | 14 => 330 | 15 => 331 | 20 => 369 | 21 => 370 | 22 => 371 | 23 => 372 | 24 => 373 | 25 => 374 | 26 => 375 | 27 => 376 | 28 => 377 | 29 => 378 | 46 => 407 | 47 => 408 | 48 => 409 | 49 => 410 | 50 => 411 | 57 => 418 | n => n, fun | 0 => 0 | 3 => 3 | 4 => 4 | 5 => 5 | 9 => 9 | 22 => 84 | 24 => 79 | 25 => 275 | 39 => 269 | 45 => 357 | 46 => 358 | 50 => 362 | 53 => 329 | 55 => 331 | 66 => 379 | 70 => 383 | 76 => 389 | 77 => 390 | n => n, fun n => n⟩
theorem f268_lays : SlLaysF0.n6 Tryz.prog f268_ren where
  mixed := by kernel_rfl
  f6 := ⟨ "slices.SortFunc[[]loop.example/g00943/impl.Vec,loop.example/g00943/impl.Vec]", by decide, Tryz.func268.trans (congrArg some (by kernel_rfl))⟩
  f14 := ⟨ "slices.pdqsortCmpFunc[loop.example/g00943/impl.Vec]", by decide, Tryz.func330.trans (congrArg some (by kernel_rfl))⟩
  f15 := Tryz.func331.trans (congrArg some (by kernel_rfl))
  f20 := ⟨ "slices.insertionSortCmpFunc[loop.example/g00943/impl.Vec]", by decide, Tryz.func369.trans (congrArg some (by kernel_rfl))⟩
  f21 := ⟨ "slices.heapSortCmpFunc[loop.example/g00943/impl.Vec]", by decide, Tryz.func370.trans (congrArg some (by kernel_rfl))⟩
  f22 := ⟨ "slices.breakPatternsCmpFunc[loop.example/g00943/impl.Vec]", by decide, Tryz.func371.trans (congrArg some (by kernel_rfl))⟩
  f23 := ⟨ "slices.choosePivotCmpFunc[loop.example/g00943/impl.Vec]", by decide, Tryz.func372.trans (congrArg some (by kernel_rfl))⟩
  f24 := ⟨ "slices.reverseRangeCmpFunc[loop.example/g00943/impl.Vec]", by decide, Tryz.func373.trans (congrArg some (by kernel_rfl))⟩
  f25 := ⟨ "slices.partialInsertionSortCmpFunc[loop.example/g00943/impl.Vec]", by decide, Tryz.func374.trans (congrArg some (by kernel_rfl))⟩
  f26 := ⟨ "slices.partitionEqualCmpFunc[loop.example/g00943/impl.Vec]", by decide, Tryz.func375.trans (congrArg some (by kernel_rfl))⟩
  f27 := ⟨ "slices.partitionCmpFunc[loop.example/g00943/impl.Vec]", by decide, Tryz.func376.trans (congrArg some (by kernel_rfl))⟩
  f28 := Tryz.func377.trans (congrArg some (by kernel_rfl))
  f29 := Tryz.func378.trans (congrArg some (by kernel_rfl))
  f46 := ⟨ "slices.siftDownCmpFunc[loop.example/g00943/impl.Vec]", by decide, Tryz.func407.trans (congrArg some (by kernel_rfl))⟩
  f47 := Tryz.func408.trans (congrArg some (by kernel_rfl))
  f48 := Tryz.func409.trans (congrArg some (by kernel_rfl))
  f49 := ⟨ "slices.medianAdjacentCmpFunc[loop.example/g00943/impl.Vec]", by decide, Tryz.func410.trans (congrArg some (by kernel_rfl))⟩
  f50 := ⟨ "slices.medianCmpFunc[loop.example/g00943/impl.Vec]", by decide, Tryz.func411.trans (congrArg some (by kernel_rfl))⟩
  f57 := ⟨ "slices.order2CmpFunc[loop.example/g00943/impl.Vec]", by decide, Tryz.func418.trans (congrArg some (by kernel_rfl))⟩
  t0 := Tryz.underlying0
  a0 := Tryz.isAgg0
  z0 := Tryz.sizeOf0
  v0 := Tryz.zeroValue0
  t3 := Tryz.underlying3
  a3 := Tryz.isAgg3
  z3 := Tryz.sizeOf3
  v3 := Tryz.zeroValue3
  t4 := Tryz.underlying4
  a4 := Tryz.isAgg4
  z4 := Tryz.sizeOf4
  v4 := Tryz.zeroValue4
  t5 := Tryz.underlying5
  a5 := Tryz.isAgg5
  z5 := Tryz.sizeOf5
  v5 := Tryz.zeroValue5
  t9 := Tryz.underlying9
  a9 := Tryz.isAgg9
  z9 := Tryz.sizeOf9
  v9 := Tryz.zeroValue9
  t22 := Tryz.underlying84
  a22 := Tryz.isAgg84
  z22 := Tryz.sizeOf84
  v22 := Tryz.zeroValue84
  t25 := Tryz.underlying275
  a25 := Tryz.isAgg275
  z25 := Tryz.sizeOf275
  v25 := Tryz.zeroValue275
  t39 := Tryz.underlying269
  a39 := Tryz.isAgg269
  z39 := Tryz.sizeOf269
  v39 := Tryz.zeroValue269
  t45 := Tryz.underlying357
  a45 := Tryz.isAgg357
  z45 := Tryz.sizeOf357
  v45 := Tryz.zeroValue357
  t46 := Tryz.underlying358
  a46 := Tryz.isAgg358
  z46 := Tryz.sizeOf358
  v46 := Tryz.zeroValue358
  t50 := Tryz.underlying362
  a50 := Tryz.isAgg362
  z50 := Tryz.sizeOf362
  v50 := Tryz.zeroValue362
  t53 := Tryz.underlying329
  a53 := Tryz.isAgg329
  z53 := Tryz.sizeOf329
  v53 := Tryz.zeroValue329
  t55 := Tryz.underlying331
  a55 := Tryz.isAgg331
  z55 := Tryz.sizeOf331
  v55 := Tryz.zeroValue331
  t66 := Tryz.underlying379
  a66 := Tryz.isAgg379
  z66 := Tryz.sizeOf379
  v66 := Tryz.zeroValue379
  t70 := Tryz.underlying383
  a70 := Tryz.isAgg383
  z70 := Tryz.sizeOf383
  v70 := Tryz.zeroValue383
  t76 := Tryz.underlying389
  a76 := Tryz.isAgg389
  z76 := Tryz.sizeOf389
  v76 := Tryz.zeroValue389
  t77 := Tryz.underlying390
  a77 := Tryz.isAgg390
  z77 := Tryz.sizeOf390
  v77 := Tryz.zeroValue390
theorem f268_ok (K : Nat) : Sound Tryz.prog 268 (f268M K) := sort_sound (e := 79) (s := (.cons (.int .i64) (.int .i64))) f268_lays rfl rfl rfl Tryz.isAgg79 Tryz.sizeOf79
theorem f268_runs : Runs Tryz.prog 268 := runsB_ok (by kernel_rfl)
theorem f270_ok (K : Nat) : Sound Tryz.prog 270 (f270M K) :=
  sound_fn (envOK (E := (f270E K)) tab_ok mixed_ok AllOK.nil AllP.nil AllN.nil) Tryz.func270 fun x => f270_run K x.1
theorem f270_runs : Runs Tryz.prog 270 := runsB_ok (by kernel_rfl)
theorem f171_ok (K : Nat) : Sound Tryz.prog 171 (f171M K) :=
  sound_fn (envOK (E := (f171E K)) tab_ok mixed_ok (AllOK.cons (f267_ok K) f267_runs (AllOK.cons (f268_ok K) f268_runs (AllOK.cons (f269_ok K) f269_runs (AllOK.cons (f270_ok K) f270_runs AllOK.nil)))) AllP.nil AllN.nil) Tryz.func171 fun x => f171_run K x.1 x.2.1 x.2.2.1
theorem f171_runs : Runs Tryz.prog 171 := runsB_ok (by kernel_rfl)
theorem f128_ok (K : Nat) : Sound Tryz.prog 128 (f128M K) :=
  sound_fn (envOK (E := (f128E K)) tab_ok mixed_ok (AllOK.cons (f130_ok K) f130_runs (AllOK.cons (f171_ok K) f171_runs (AllOK.cons (f207_ok K) f207_runs (AllOK.cons (f238_ok K) f238_runs (AllOK.cons (f243_ok K) f243_runs AllOK.nil))))) AllP.nil AllN.nil) Tryz.func128 fun x => f128_run K x.1 x.2.1
theorem f128_runs : Runs Tryz.prog 128 := runsB_ok (by kernel_rfl)
theorem f236_ok (K : Nat) : Sound Tryz.prog 236 (f236M K) :=
  sound_fn (envOK (E := (f236E K)) tab_ok mixed_ok (AllOK.cons (f128_ok K) f128_runs (AllOK.cons (f170_ok K) f170_runs AllOK.nil)) AllP.nil AllN.nil) Tryz.func236 fun x => f236_run K x.1 x.2.1 x.2.2.1
theorem f236_runs : Runs Tryz.prog 236 := runsB_ok (by kernel_rfl)
theorem f111_ok (K : Nat) : Sound Tryz.prog 111 (f111M K) :=
  sound_fn (envOK (E := (f111E K)) tab_ok mixed_ok (AllOK.cons (f236_ok K) f236_runs AllOK.nil) AllP.nil AllN.nil) Tryz.func111 fun x => f111_run K x.1 x.2.1 x.2.2.1
theorem f111_runs : Runs Tryz.prog 111 := runsB_ok (by kernel_rfl)
theorem f112_ok (K : Nat) : Sound Tryz.prog 112 (f112M K) :=
  sound_fn (envOK (E := (f112E K)) tab_ok mixed_ok (AllOK.cons (f216_ok K) f216_runs (AllOK.cons (f237_ok K) f237_runs (AllOK.cons (f238_ok K) f238_runs AllOK.nil))) AllP.nil AllN.nil) Tryz.func112 fun x => f112_run K x.1 x.2.1 x.2.2.1
theorem f112_runs : Runs Tryz.prog 112 := runsB_ok (by kernel_rfl)
theorem f14_ok (K : Nat) : Sound Tryz.prog 14 (f14M K) :=
  sound_fn (envOK (E := (f14E K)) tab_ok mixed_ok (AllOK.cons (f55_ok K) f55_runs (AllOK.cons (f98_ok K) f98_runs (AllOK.cons (f99_ok K) f99_runs (AllOK.cons (f100_ok K) f100_runs (AllOK.cons (f101_ok K) f101_runs (AllOK.cons (f102_ok K) f102_runs (AllOK.cons (f103_ok K) f103_runs (AllOK.cons (f104_ok K) f104_runs (AllOK.cons (f105_ok K) f105_runs (AllOK.cons (f106_ok K) f106_runs (AllOK.cons (f107_ok K) f107_runs (AllOK.cons (f108_ok K) f108_runs (AllOK.cons (f109_ok K) f109_runs (AllOK.cons (f110_ok K) f110_runs (AllOK.cons (f111_ok K) f111_runs (AllOK.cons (f112_ok K) f112_runs AllOK.nil)))))))))))))))) AllP.nil AllN.nil) Tryz.func14 fun x => f14_run K x.1
theorem f14_runs : Runs Tryz.prog 14 := runsB_ok (by kernel_rfl)
end Go.Proofs.YtfccacobkcglcaaGreat.X
