/- Functions of the program as plain Lean functions, and that the program does what they say. Printed by gen.py. -/
import Derived.Test.YtfccacobkcglcaaGreatQeR0
namespace Go.Proofs.YtfccacobkcglcaaGreat.X
open Go
set_option maxRecDepth 100000
set_option linter.unusedVariables false
theorem f33_ok (K : Nat) : Sound Tryz.prog 33 (f33M K) :=
  sound_fn (envOK (E := (f33E K)) tab_ok mixed_ok AllOK.nil AllP.nil AllN.nil) Tryz.func33 fun x => f33_run K x.1 x.2.1
theorem f33_runs : Runs Tryz.prog 33 := runsB_ok (by kernel_rfl)
theorem f53_ok (K : Nat) : Sound Tryz.prog 53 (f53M K) :=
  sound_fn (envOK (E := (f53E K)) tab_ok mixed_ok AllOK.nil AllP.nil AllN.nil) Tryz.func53 fun x => f53_run K x.1
theorem f53_runs : Runs Tryz.prog 53 := runsB_ok (by kernel_rfl)
theorem f145_ok (K : Nat) : Sound Tryz.prog 145 (f145M K) :=
  sound_fn (envOK (E := (f145E K)) tab_ok mixed_ok (AllOK.cons (f53_ok K) f53_runs AllOK.nil) AllP.nil AllN.nil) Tryz.func145 fun x => f145_run K x.1
theorem f145_runs : Runs Tryz.prog 145 := runsB_ok (by kernel_rfl)
theorem f35_ok (K : Nat) : Sound Tryz.prog 35 (f35M K) :=
  sound_fn (envOK (E := (f35E K)) tab_ok mixed_ok (AllOK.cons (f145_ok K) f145_runs AllOK.nil) AllP.nil AllN.nil) Tryz.func35 fun x => f35_run K x.1
theorem f35_runs : Runs Tryz.prog 35 := runsB_ok (by kernel_rfl)
theorem f141_ok (K : Nat) : Sound Tryz.prog 141 (f141M K) :=
  sound_fn (envOK (E := (f141E K)) tab_ok mixed_ok AllOK.nil AllP.nil AllN.nil) Tryz.func141 fun x => f141_run K x.1 x.2.1 x.2.2.1
theorem f141_runs : Runs Tryz.prog 141 := runsB_ok (by kernel_rfl)
theorem f211_ok (K : Nat) : Sound Tryz.prog 211 (f211M K) :=
  sound_fn (envOK (E := (f211E K)) tab_ok mixed_ok (AllOK.cons (f141_ok K) f141_runs AllOK.nil) AllP.nil AllN.nil) Tryz.func211 fun x => f211_run K x.1
theorem f211_runs : Runs Tryz.prog 211 := runsB_ok (by kernel_rfl)
theorem f96_ok (K : Nat) : Sound Tryz.prog 96 (f96M K) :=
  sound_fn (envOK (E := (f96E K)) tab_ok mixed_ok (AllOK.cons (f141_ok K) f141_runs (AllOK.cons (f211_ok K) f211_runs AllOK.nil)) AllP.nil AllN.nil) Tryz.func96 fun x => f96_run K x.1
theorem f96_runs : Runs Tryz.prog 96 := runsB_ok (by kernel_rfl)
theorem f142_ok (K : Nat) : Sound Tryz.prog 142 (f142M K) :=
  sound_fn (envOK (E := (f142E K)) tab_ok mixed_ok AllOK.nil AllP.nil AllN.nil) Tryz.func142 fun x => f142_run K 
theorem f142_runs : Runs Tryz.prog 142 := runsB_ok (by kernel_rfl)
theorem f252_ok (K : Nat) : Sound Tryz.prog 252 (f252M K) :=
  sound_fn (envOK (E := (f252E K)) tab_ok mixed_ok AllOK.nil AllP.nil AllN.nil) Tryz.func252 fun x => f252_run K x.1 x.2.1
theorem f252_runs : Runs Tryz.prog 252 := runsB_ok (by kernel_rfl)
theorem f233_ok (K : Nat) : Sound Tryz.prog 233 (f233M K) :=
  sound_fn (envOK (E := (f233E K)) tab_ok mixed_ok AllOK.nil AllP.nil AllN.nil) Tryz.func233 fun x => f233_run K 
theorem f233_runs : Runs Tryz.prog 233 := runsB_ok (by kernel_rfl)
theorem f306_ok (K : Nat) : Sound Tryz.prog 306 (f306M K) :=
  sound_fn (envOK (E := (f306E K)) tab_ok mixed_ok (AllOK.cons (f233_ok K) f233_runs AllOK.nil) AllP.nil AllN.nil) Tryz.func306 fun x => f306_run K 
theorem f306_runs : Runs Tryz.prog 306 := runsB_ok (by kernel_rfl)
theorem f351_ok (K : Nat) : Sound Tryz.prog 351 (f351M K) :=
  sound_fn (envOK (E := (f351E K)) tab_ok mixed_ok AllOK.nil AllP.nil AllN.nil) Tryz.func351 fun x => f351_run K x.1 x.2.1
theorem f351_runs : Runs Tryz.prog 351 := runsB_ok (by kernel_rfl)
theorem f341_ok (K : Nat) : Sound Tryz.prog 341 (f341M K) :=
  sound_fn (envOK (E := (f341E K)) tab_ok mixed_ok AllOK.nil AllP.nil AllN.nil) Tryz.func341 fun x => f341_run K x.1 x.2.1
theorem f341_runs : Runs Tryz.prog 341 := runsB_ok (by kernel_rfl)
theorem f340_ok (K : Nat) : Sound Tryz.prog 340 (f340M K) :=
  sound_fn (envOK (E := (f340E K)) tab_ok mixed_ok AllOK.nil AllP.nil AllN.nil) Tryz.func340 fun x => f340_run K x.1 x.2.1
theorem f340_runs : Runs Tryz.prog 340 := runsB_ok (by kernel_rfl)
theorem f307_ok (K : Nat) : Sound Tryz.prog 307 (f307M K) :=
  sound_fn (envOK (E := (f307E K)) tab_ok mixed_ok (AllOK.cons (f340_ok K) f340_runs (AllOK.cons (f341_ok K) f341_runs (AllOK.cons (f351_ok K) f351_runs AllOK.nil))) AllP.nil AllN.nil) Tryz.func307 fun x => f307_run K x.1 x.2.1
theorem f307_runs : Runs Tryz.prog 307 := runsB_ok (by kernel_rfl)
theorem f255_ok (K : Nat) : Sound Tryz.prog 255 (f255M K) :=
  sound_fn (envOK (E := (f255E K)) tab_ok mixed_ok AllOK.nil AllP.nil AllN.nil) Tryz.func255 fun x => f255_run K x.1 x.2.1
theorem f255_runs : Runs Tryz.prog 255 := runsB_ok (by kernel_rfl)
theorem f153_ok (K : Nat) : Sound Tryz.prog 153 (f153M K) :=
  sound_fn (envOK (E := (f153E K)) tab_ok mixed_ok (AllOK.cons (f255_ok K) f255_runs AllOK.nil) AllP.nil AllN.nil) Tryz.func153 fun x => f153_run K x.1 x.2.1
theorem f153_runs : Runs Tryz.prog 153 := runsB_ok (by kernel_rfl)
theorem f303_ok (K : Nat) : Sound Tryz.prog 303 (f303M K) :=
  sound_fn (envOK (E := (f303E K)) tab_ok mixed_ok (AllOK.cons (f153_ok K) f153_runs AllOK.nil) AllP.nil AllN.nil) Tryz.func303 fun x => f303_run K x.1 x.2.1
theorem f303_runs : Runs Tryz.prog 303 := runsB_ok (by kernel_rfl)
theorem f398_ok (K : Nat) : Sound Tryz.prog 398 (f398M K) :=
  sound_fn (envOK (E := (f398E K)) tab_ok mixed_ok AllOK.nil AllP.nil AllN.nil) Tryz.func398 fun x => f398_run K x.1
theorem f398_runs : Runs Tryz.prog 398 := runsB_ok (by kernel_rfl)
theorem f397_ok (K : Nat) : Sound Tryz.prog 397 (f397M K) :=
  sound_fn (envOK (E := (f397E K)) tab_ok mixed_ok AllOK.nil AllP.nil AllN.nil) Tryz.func397 fun x => f397_run K x.1 x.2.1
theorem f397_runs : Runs Tryz.prog 397 := runsB_ok (by kernel_rfl)
theorem f350_ok (K : Nat) : Sound Tryz.prog 350 (f350M K) :=
  sound_fn (envOK (E := (f350E K)) tab_ok mixed_ok (AllOK.cons (f397_ok K) f397_runs (AllOK.cons (f398_ok K) f398_runs AllOK.nil)) AllP.nil AllN.nil) Tryz.func350 fun x => f350_run K x.1 x.2.1
theorem f350_runs : Runs Tryz.prog 350 := runsB_ok (by kernel_rfl)
theorem f339_ok (K : Nat) : Sound Tryz.prog 339 (f339M K) :=
  sound_fn (envOK (E := (f339E K)) tab_ok mixed_ok AllOK.nil AllP.nil AllN.nil) Tryz.func339 fun x => f339_run K x.1 x.2.1
theorem f339_runs : Runs Tryz.prog 339 := runsB_ok (by kernel_rfl)
theorem f304_ok (K : Nat) : Sound Tryz.prog 304 (f304M K) :=
  sound_fn (envOK (E := (f304E K)) tab_ok mixed_ok (AllOK.cons (f339_ok K) f339_runs (AllOK.cons (f350_ok K) f350_runs AllOK.nil)) AllP.nil AllN.nil) Tryz.func304 fun x => f304_run K x.1 x.2.1
theorem f304_runs : Runs Tryz.prog 304 := runsB_ok (by kernel_rfl)
theorem f328_ok (K : Nat) : Sound Tryz.prog 328 (f328M K) :=
  sound_fn (envOK (E := (f328E K)) tab_ok mixed_ok (AllOK.cons (f304_ok K) f304_runs AllOK.nil) AllP.nil AllN.nil) Tryz.func328 fun x => f328_run K x.1 x.2.1
theorem f328_runs : Runs Tryz.prog 328 := runsB_ok (by kernel_rfl)
theorem f305_ok (K : Nat) : Sound Tryz.prog 305 (f305M K) :=
  sound_fn (envOK (E := (f305E K)) tab_ok mixed_ok (AllOK.cons (f328_ok K) f328_runs AllOK.nil) AllP.nil AllN.nil) Tryz.func305 fun x => f305_run K x.1 x.2.1
theorem f305_runs : Runs Tryz.prog 305 := runsB_ok (by kernel_rfl)
theorem f324_ok (K : Nat) : Sound Tryz.prog 324 (f324M K) :=
  sound_fn (envOK (E := (f324E K)) tab_ok mixed_ok (AllOK.cons (f328_ok K) f328_runs AllOK.nil) AllP.nil AllN.nil) Tryz.func324 fun x => f324_run K x.1 x.2.1
theorem f324_runs : Runs Tryz.prog 324 := runsB_ok (by kernel_rfl)
theorem f253_ok (K : Nat) : Sound Tryz.prog 253 (f253M K) :=
  sound_fn (envOK (E := (f253E K)) tab_ok mixed_ok (AllOK.cons (f303_ok K) f303_runs (AllOK.cons (f305_ok K) f305_runs (AllOK.cons (f306_ok K) f306_runs (AllOK.cons (f307_ok K) f307_runs (AllOK.cons (f324_ok K) f324_runs AllOK.nil))))) AllP.nil AllN.nil) Tryz.func253 fun x => f253_run K x.1 x.2.1
theorem f253_runs : Runs Tryz.prog 253 := runsB_ok (by kernel_rfl)
theorem f143_ok (K : Nat) : Sound Tryz.prog 143 (f143M K) :=
  sound_fn (envOK (E := (f143E K)) tab_ok mixed_ok (AllOK.cons (f141_ok K) f141_runs (AllOK.cons (f252_ok K) f252_runs (AllOK.cons (f253_ok K) f253_runs AllOK.nil))) AllP.nil AllN.nil) Tryz.func143 fun x => f143_run K x.1 x.2.1
theorem f143_runs : Runs Tryz.prog 143 := runsB_ok (by kernel_rfl)
theorem f232_ok (K : Nat) : Sound Tryz.prog 232 (f232M K) :=
  sound_fn (envOK (E := (f232E K)) tab_ok mixed_ok AllOK.nil AllP.nil AllN.nil) Tryz.func232 fun x => f232_run K x.1
theorem f232_runs : Runs Tryz.prog 232 := runsB_ok (by kernel_rfl)
theorem f284_ok (K : Nat) : Sound Tryz.prog 284 (f284M K) :=
  sound_fn (envOK (E := (f284E K)) tab_ok mixed_ok (AllOK.cons (f340_ok K) f340_runs (AllOK.cons (f341_ok K) f341_runs AllOK.nil)) AllP.nil AllN.nil) Tryz.func284 fun x => f284_run K x.1 x.2.1
theorem f284_runs : Runs Tryz.prog 284 := runsB_ok (by kernel_rfl)
theorem f185_ok (K : Nat) : Sound Tryz.prog 185 (f185M K) :=
  sound_fn (envOK (E := (f185E K)) tab_ok mixed_ok (AllOK.cons (f153_ok K) f153_runs (AllOK.cons (f284_ok K) f284_runs AllOK.nil)) AllP.nil AllN.nil) Tryz.func185 fun x => f185_run K x.1 x.2.1 x.2.2.1
theorem f185_runs : Runs Tryz.prog 185 := runsB_ok (by kernel_rfl)
theorem f280_ok (K : Nat) : Sound Tryz.prog 280 (f280M K) :=
  sound_fn (envOK (E := (f280E K)) tab_ok mixed_ok (AllOK.cons (f339_ok K) f339_runs AllOK.nil) AllP.nil AllN.nil) Tryz.func280 fun x => f280_run K x.1 x.2.1
theorem f280_runs : Runs Tryz.prog 280 := runsB_ok (by kernel_rfl)
theorem f247_ok (K : Nat) : Sound Tryz.prog 247 (f247M K) :=
  sound_fn (envOK (E := (f247E K)) tab_ok mixed_ok (AllOK.cons (f185_ok K) f185_runs (AllOK.cons (f280_ok K) f280_runs AllOK.nil)) AllP.nil AllN.nil) Tryz.func247 fun x => f247_run K x.1 x.2.1 x.2.2.1
theorem f247_runs : Runs Tryz.prog 247 := runsB_ok (by kernel_rfl)
theorem f135_ok (K : Nat) : Sound Tryz.prog 135 (f135M K) :=
  sound_fn (envOK (E := (f135E K)) tab_ok mixed_ok (AllOK.cons (f232_ok K) f232_runs (AllOK.cons (f247_ok K) f247_runs AllOK.nil)) AllP.nil AllN.nil) Tryz.func135 fun x => f135_run K x.1 x.2.1
theorem f135_runs : Runs Tryz.prog 135 := runsB_ok (by kernel_rfl)
theorem f127_ok (K : Nat) : Sound Tryz.prog 127 (f127M K) :=
  sound_fn (envOK (E := (f127E K)) tab_ok mixed_ok (AllOK.cons (f153_ok K) f153_runs AllOK.nil) AllP.nil AllN.nil) Tryz.func127 fun x => f127_run K x.1 x.2.1
theorem f127_runs : Runs Tryz.prog 127 := runsB_ok (by kernel_rfl)
theorem f126_ok (K : Nat) : Sound Tryz.prog 126 (f126M K) :=
  sound_fn (envOK (E := (f126E K)) tab_ok mixed_ok (AllOK.cons (f127_ok K) f127_runs (AllOK.cons (f135_ok K) f135_runs AllOK.nil)) AllP.nil AllN.nil) Tryz.func126 fun x => f126_run K x.1 x.2.1
theorem f126_runs : Runs Tryz.prog 126 := runsB_ok (by kernel_rfl)
theorem f144_ok (K : Nat) : Sound Tryz.prog 144 (f144M K) :=
  sound_fn (envOK (E := (f144E K)) tab_ok mixed_ok (AllOK.cons (f127_ok K) f127_runs AllOK.nil) AllP.nil AllN.nil) Tryz.func144 fun x => f144_run K x.1 x.2.1 x.2.2.1
theorem f144_runs : Runs Tryz.prog 144 := runsB_ok (by kernel_rfl)
theorem f34_ok (K : Nat) : Sound Tryz.prog 34 (f34M K) :=
  sound_fn (envOK (E := (f34E K)) tab_ok mixed_ok (AllOK.cons (f96_ok K) f96_runs (AllOK.cons (f126_ok K) f126_runs (AllOK.cons (f141_ok K) f141_runs (AllOK.cons (f142_ok K) f142_runs (AllOK.cons (f143_ok K) f143_runs (AllOK.cons (f144_ok K) f144_runs AllOK.nil)))))) AllP.nil AllN.nil) Tryz.func34 fun x => f34_run K x.1 x.2.1
theorem f34_runs : Runs Tryz.prog 34 := runsB_ok (by kernel_rfl)
theorem f146_ok (K : Nat) : Sound Tryz.prog 146 (f146M K) :=
  sound_fn (envOK (E := (f146E K)) tab_ok mixed_ok AllOK.nil AllP.nil AllN.nil) Tryz.func146 fun x => f146_run K x.1 x.2.1 x.2.2.1
theorem f146_runs : Runs Tryz.prog 146 := runsB_ok (by kernel_rfl)
theorem f287_ok (K : Nat) : Sound Tryz.prog 287 (f287M K) :=
  sound_fn (envOK (E := (f287E K)) tab_ok mixed_ok (AllOK.cons (f146_ok K) f146_runs AllOK.nil) AllP.nil AllN.nil) Tryz.func287 fun x => f287_run K x.1
theorem f287_runs : Runs Tryz.prog 287 := runsB_ok (by kernel_rfl)
theorem f189_ok (K : Nat) : Sound Tryz.prog 189 (f189M K) :=
  sound_fn (envOK (E := (f189E K)) tab_ok mixed_ok (AllOK.cons (f287_ok K) f287_runs AllOK.nil) AllP.nil AllN.nil) Tryz.func189 fun x => f189_run K x.1
theorem f189_runs : Runs Tryz.prog 189 := runsB_ok (by kernel_rfl)
theorem f206_ok (K : Nat) : Sound Tryz.prog 206 (f206M K) :=
  sound_fn (envOK (E := (f206E K)) tab_ok mixed_ok (AllOK.cons (f146_ok K) f146_runs AllOK.nil) AllP.nil AllN.nil) Tryz.func206 fun x => f206_run K x.1
theorem f206_runs : Runs Tryz.prog 206 := runsB_ok (by kernel_rfl)
theorem f210_ok (K : Nat) : Sound Tryz.prog 210 (f210M K) :=
  sound_fn (envOK (E := (f210E K)) tab_ok mixed_ok (AllOK.cons (f189_ok K) f189_runs (AllOK.cons (f206_ok K) f206_runs AllOK.nil)) AllP.nil AllN.nil) Tryz.func210 fun x => f210_run K x.1
theorem f210_runs : Runs Tryz.prog 210 := runsB_ok (by kernel_rfl)
theorem f259_ok (K : Nat) : Sound Tryz.prog 259 (f259M K) :=
  sound_fn (envOK (E := (f259E K)) tab_ok mixed_ok AllOK.nil AllP.nil AllN.nil) Tryz.func259 fun x => f259_run K x.1 x.2.1
theorem f259_runs : Runs Tryz.prog 259 := runsB_ok (by kernel_rfl)
theorem f158_ok (K : Nat) : Sound Tryz.prog 158 (f158M K) :=
  sound_fn (envOK (E := (f158E K)) tab_ok mixed_ok (AllOK.cons (f259_ok K) f259_runs AllOK.nil) AllP.nil AllN.nil) Tryz.func158 fun x => f158_run K x.1 x.2.1
theorem f158_runs : Runs Tryz.prog 158 := runsB_ok (by kernel_rfl)
theorem f95_ok (K : Nat) : Sound Tryz.prog 95 (f95M K) :=
  sound_fn (envOK (E := (f95E K)) tab_ok mixed_ok (AllOK.cons (f158_ok K) f158_runs (AllOK.cons (f210_ok K) f210_runs AllOK.nil)) AllP.nil AllN.nil) Tryz.func95 fun x => f95_run K x.1
theorem f95_runs : Runs Tryz.prog 95 := runsB_ok (by kernel_rfl)
theorem f147_ok (K : Nat) : Sound Tryz.prog 147 (f147M K) :=
  sound_fn (envOK (E := (f147E K)) tab_ok mixed_ok AllOK.nil AllP.nil AllN.nil) Tryz.func147 fun x => f147_run K 
theorem f147_runs : Runs Tryz.prog 147 := runsB_ok (by kernel_rfl)
theorem f204_ok (K : Nat) : Sound Tryz.prog 204 (f204M K) :=
  sound_fn (envOK (E := (f204E K)) tab_ok mixed_ok AllOK.nil AllP.nil AllN.nil) Tryz.func204 fun x => f204_run K x.1 x.2.1
theorem f204_runs : Runs Tryz.prog 204 := runsB_ok (by kernel_rfl)
theorem f231_ok (K : Nat) : Sound Tryz.prog 231 (f231M K) :=
  sound_fn (envOK (E := (f231E K)) tab_ok mixed_ok AllOK.nil AllP.nil AllN.nil) Tryz.func231 fun x => f231_run K 
theorem f231_runs : Runs Tryz.prog 231 := runsB_ok (by kernel_rfl)
theorem f347_ok (K : Nat) : Sound Tryz.prog 347 (f347M K) :=
  sound_fn (envOK (E := (f347E K)) tab_ok mixed_ok AllOK.nil AllP.nil AllN.nil) Tryz.func347 fun x => f347_run K x.1 x.2.1
theorem f347_runs : Runs Tryz.prog 347 := runsB_ok (by kernel_rfl)
theorem f288_ok (K : Nat) : Sound Tryz.prog 288 (f288M K) :=
  sound_fn (envOK (E := (f288E K)) tab_ok mixed_ok AllOK.nil AllP.nil AllN.nil) Tryz.func288 fun x => f288_run K x.1 x.2.1
theorem f288_runs : Runs Tryz.prog 288 := runsB_ok (by kernel_rfl)
theorem f289_ok (K : Nat) : Sound Tryz.prog 289 (f289M K) :=
  sound_fn (envOK (E := (f289E K)) tab_ok mixed_ok AllOK.nil AllP.nil AllN.nil) Tryz.func289 fun x => f289_run K x.1 x.2.1
theorem f289_runs : Runs Tryz.prog 289 := runsB_ok (by kernel_rfl)
theorem f298_ok (K : Nat) : Sound Tryz.prog 298 (f298M K) :=
  sound_fn (envOK (E := (f298E K)) tab_ok mixed_ok (AllOK.cons (f288_ok K) f288_runs (AllOK.cons (f289_ok K) f289_runs (AllOK.cons (f347_ok K) f347_runs AllOK.nil))) AllP.nil AllN.nil) Tryz.func298 fun x => f298_run K x.1 x.2.1
theorem f298_runs : Runs Tryz.prog 298 := runsB_ok (by kernel_rfl)
theorem f260_ok (K : Nat) : Sound Tryz.prog 260 (f260M K) :=
  sound_fn (envOK (E := (f260E K)) tab_ok mixed_ok AllOK.nil AllP.nil AllN.nil) Tryz.func260 fun x => f260_run K x.1 x.2.1
theorem f260_runs : Runs Tryz.prog 260 := runsB_ok (by kernel_rfl)
theorem f161_ok (K : Nat) : Sound Tryz.prog 161 (f161M K) :=
  sound_fn (envOK (E := (f161E K)) tab_ok mixed_ok (AllOK.cons (f260_ok K) f260_runs AllOK.nil) AllP.nil AllN.nil) Tryz.func161 fun x => f161_run K x.1 x.2.1
theorem f161_runs : Runs Tryz.prog 161 := runsB_ok (by kernel_rfl)
theorem f297_ok (K : Nat) : Sound Tryz.prog 297 (f297M K) :=
  sound_fn (envOK (E := (f297E K)) tab_ok mixed_ok (AllOK.cons (f161_ok K) f161_runs AllOK.nil) AllP.nil AllN.nil) Tryz.func297 fun x => f297_run K x.1 x.2.1
theorem f297_runs : Runs Tryz.prog 297 := runsB_ok (by kernel_rfl)
theorem f332_ok (K : Nat) : Sound Tryz.prog 332 (f332M K) :=
  sound_fn (envOK (E := (f332E K)) tab_ok mixed_ok AllOK.nil AllP.nil AllN.nil) Tryz.func332 fun x => f332_run K x.1 x.2.1
theorem f332_runs : Runs Tryz.prog 332 := runsB_ok (by kernel_rfl)
theorem f349_ok (K : Nat) : Sound Tryz.prog 349 (f349M K) :=
  sound_fn (envOK (E := (f349E K)) tab_ok mixed_ok (AllOK.cons (f332_ok K) f332_runs AllOK.nil) AllP.nil AllN.nil) Tryz.func349 fun x => f349_run K x.1 x.2.1
theorem f349_runs : Runs Tryz.prog 349 := runsB_ok (by kernel_rfl)
theorem f269_ok (K : Nat) : Sound Tryz.prog 269 (f269M K) :=
  sound_fn (envOK (E := (f269E K)) tab_ok mixed_ok (AllOK.cons (f332_ok K) f332_runs AllOK.nil) AllP.nil AllN.nil) Tryz.func269 fun x => f269_run K x.1 x.2.1
theorem f269_runs : Runs Tryz.prog 269 := runsB_ok (by kernel_rfl)
theorem f300_ok (K : Nat) : Sound Tryz.prog 300 (f300M K) :=
  sound_fn (envOK (E := (f300E K)) tab_ok mixed_ok (AllOK.cons (f269_ok K) f269_runs (AllOK.cons (f349_ok K) f349_runs AllOK.nil)) AllP.nil AllN.nil) Tryz.func300 fun x => f300_run K x.1 x.2.1
theorem f300_runs : Runs Tryz.prog 300 := runsB_ok (by kernel_rfl)
def f299_ren : Go.Shelf.Ren := ⟨fun | 6 => 299 | 14 => 348 | 15 => 331 | 20 => 389 | 21 => 390 | 22 => 391 | 23 => 392 | 24 => 393 | 25 => 394 | 26 => 395 | 27 => 396 | 28 => 377 | 29 => 378 | 46 => 415 | 47 => 408 | 48 => 409 | 49 => 416 | 50 => 417 | 57 => 420 | n => n, fun | 0 => 0 | 3 => 3 | 4 => 4 | 5 => 5 | 9 => 9 | 22 => 68 | 24 => 95 | 25 => 303 | 39 => 269 | 45 => 357 | 46 => 358 | 50 => 362 | 53 => 329 | 55 => 331 | 66 => 379 | 70 => 383 | 76 => 389 | 77 => 390 | n => n, fun n => n⟩
theorem f299_lays : SlLaysF0.n6 Tryz.prog f299_ren where
  mixed := by kernel_rfl
  f6 := ⟨ "slices.SortFunc[[]loop.example/g00943/impl.Motion,loop.example/g00943/impl.Motion]", by decide, Tryz.func299.trans (congrArg some (by kernel_rfl))⟩
  f14 := ⟨ "slices.pdqsortCmpFunc[loop.example/g00943/impl.Motion]", by decide, Tryz.func348.trans (congrArg some (by kernel_rfl))⟩
  f15 := Tryz.func331.trans (congrArg some (by kernel_rfl))
  f20 := ⟨ "slices.insertionSortCmpFunc[loop.example/g00943/impl.Motion]", by decide, Tryz.func389.trans (congrArg some (by kernel_rfl))⟩
  f21 := ⟨ "slices.heapSortCmpFunc[loop.example/g00943/impl.Motion]", by decide, Tryz.func390.trans (congrArg some (by kernel_rfl))⟩
  f22 := ⟨ "slices.breakPatternsCmpFunc[loop.example/g00943/impl.Motion]", by decide, Tryz.func391.trans (congrArg some (by kernel_rfl))⟩
  f23 := ⟨ "slices.choosePivotCmpFunc[loop.example/g00943/impl.Motion]", by decide, Tryz.func392.trans (congrArg some (by kernel_rfl))⟩
  f24 := ⟨ "slices.reverseRangeCmpFunc[loop.example/g00943/impl.Motion]", by decide, Tryz.func393.trans (congrArg some (by kernel_rfl))⟩
  f25 := ⟨ "slices.partialInsertionSortCmpFunc[loop.example/g00943/impl.Motion]", by decide, Tryz.func394.trans (congrArg some (by kernel_rfl))⟩
  f26 := ⟨ "slices.partitionEqualCmpFunc[loop.example/g00943/impl.Motion]", by decide, Tryz.func395.trans (congrArg some (by kernel_rfl))⟩
  f27 := ⟨ "slices.partitionCmpFunc[loop.example/g00943/impl.Motion]", by decide, Tryz.func396.trans (congrArg some (by kernel_rfl))⟩
  f28 := Tryz.func377.trans (congrArg some (by kernel_rfl))
  f29 := Tryz.func378.trans (congrArg some (by kernel_rfl))
  f46 := ⟨ "slices.siftDownCmpFunc[loop.example/g00943/impl.Motion]", by decide, Tryz.func415.trans (congrArg some (by kernel_rfl))⟩
  f47 := Tryz.func408.trans (congrArg some (by kernel_rfl))
  f48 := Tryz.func409.trans (congrArg some (by kernel_rfl))
  f49 := ⟨ "slices.medianAdjacentCmpFunc[loop.example/g00943/impl.Motion]", by decide, Tryz.func416.trans (congrArg some (by kernel_rfl))⟩
  f50 := ⟨ "slices.medianCmpFunc[loop.example/g00943/impl.Motion]", by decide, Tryz.func417.trans (congrArg some (by kernel_rfl))⟩
  f57 := ⟨ "slices.order2CmpFunc[loop.example/g00943/impl.Motion]", by decide, Tryz.func420.trans (congrArg some (by kernel_rfl))⟩
  t0 := Tryz.underlying0
  a0 := Tryz.isAgg0
  z0 := Tryz.sizeOf0
  v0 := Tryz.zeroValue0
  t3 := Tryz.underlying3
  a3 := Tryz.isAgg3
  z3 := Tryz.sizeOf3
  v3 := Tryz.zeroValue3
  t4 := Tryz.underlying4
  a4 := Tryz.isAgg4
  z4 := Tryz.sizeOf4
  v4 := Tryz.zeroValue4
  t5 := Tryz.underlying5
  a5 := Tryz.isAgg5
  z5 := Tryz.sizeOf5
  v5 := Tryz.zeroValue5
  t9 := Tryz.underlying9
  a9 := Tryz.isAgg9
  z9 := Tryz.sizeOf9
  v9 := Tryz.zeroValue9
  t22 := Tryz.underlying68
  a22 := Tryz.isAgg68
  z22 := Tryz.sizeOf68
  v22 := Tryz.zeroValue68
  t25 := Tryz.underlying303
  a25 := Tryz.isAgg303
  z25 := Tryz.sizeOf303
  v25 := Tryz.zeroValue303
  t39 := Tryz.underlying269
  a39 := Tryz.isAgg269
  z39 := Tryz.sizeOf269
  v39 := Tryz.zeroValue269
  t45 := Tryz.underlying357
  a45 := Tryz.isAgg357
  z45 := Tryz.sizeOf357
  v45 := Tryz.zeroValue357
  t46 := Tryz.underlying358
  a46 := Tryz.isAgg358
  z46 := Tryz.sizeOf358
  v46 := Tryz.zeroValue358
  t50 := Tryz.underlying362
  a50 := Tryz.isAgg362
  z50 := Tryz.sizeOf362
  v50 := Tryz.zeroValue362
  t53 := Tryz.underlying329
  a53 := Tryz.isAgg329
  z53 := Tryz.sizeOf329
  v53 := Tryz.zeroValue329
  t55 := Tryz.underlying331
  a55 := Tryz.isAgg331
  z55 := Tryz.sizeOf331
  v55 := Tryz.zeroValue331
  t66 := Tryz.underlying379
  a66 := Tryz.isAgg379
  z66 := Tryz.sizeOf379
  v66 := Tryz.zeroValue379
  t70 := Tryz.underlying383
  a70 := Tryz.isAgg383
  z70 := Tryz.sizeOf383
  v70 := Tryz.zeroValue383
  t76 := Tryz.underlying389
  a76 := Tryz.isAgg389
  z76 := Tryz.sizeOf389
  v76 := Tryz.zeroValue389
  t77 := Tryz.underlying390
  a77 := Tryz.isAgg390
  z77 := Tryz.sizeOf390
  v77 := Tryz.zeroValue390
theorem f299_ok (K : Nat) : Sound Tryz.prog 299 (f299M K) := sort_sound (e := 95) (s := (.cons (.cons (.int .i64) (.cons (.int .i64) (.cons (.int .i64) (.int .i64)))) (.cons (.int .i64) (.int .i64)))) f299_lays rfl rfl rfl Tryz.isAgg95 Tryz.sizeOf95
theorem f299_runs : Runs Tryz.prog 299 := runsB_ok (by kernel_rfl)
theorem f205_ok (K : Nat) : Sound Tryz.prog 205 (f205M K) :=
  sound_fn (envOK (E := (f205E K)) tab_ok mixed_ok (AllOK.cons (f231_ok K) f231_runs (AllOK.cons (f297_ok K) f297_runs (AllOK.cons (f298_ok K) f298_runs (AllOK.cons (f299_ok K) f299_runs (AllOK.cons (f300_ok K) f300_runs AllOK.nil))))) AllP.nil AllN.nil) Tryz.func205 fun x => f205_run K x.1 x.2.1
theorem f205_runs : Runs Tryz.prog 205 := runsB_ok (by kernel_rfl)
theorem f86_ok (K : Nat) : Sound Tryz.prog 86 (f86M K) :=
  sound_fn (envOK (E := (f86E K)) tab_ok mixed_ok (AllOK.cons (f146_ok K) f146_runs (AllOK.cons (f204_ok K) f204_runs (AllOK.cons (f205_ok K) f205_runs AllOK.nil))) AllP.nil AllN.nil) Tryz.func86 fun x => f86_run K x.1 x.2.1
theorem f86_runs : Runs Tryz.prog 86 := runsB_ok (by kernel_rfl)
theorem f238_ok (K : Nat) : Sound Tryz.prog 238 (f238M K) :=
  sound_fn (envOK (E := (f238E K)) tab_ok mixed_ok AllOK.nil AllP.nil AllN.nil) Tryz.func238 fun x => f238_run K x.1
theorem f238_runs : Runs Tryz.prog 238 := runsB_ok (by kernel_rfl)
def f321_ren : Go.Shelf.Ren := ⟨fun | 212 => 321 | 263 => 366 | 264 => 367 | n => n, fun | 46 => 269 | 51 => 329 | 53 => 331 | 146 => 351 | 148 => 353 | n => n, fun n => n⟩
theorem f321_lays : Lays.n212 Tryz.prog f321_ren where
  mixed := by kernel_rfl
  f212 := Tryz.func321.trans (congrArg some (by kernel_rfl))
  f263 := Tryz.func366.trans (congrArg some (by kernel_rfl))
  f264 := Tryz.func367.trans (congrArg some (by kernel_rfl))
  t46 := Tryz.underlying269
  a46 := Tryz.isAgg269
  z46 := Tryz.sizeOf269
  v46 := Tryz.zeroValue269
  t51 := Tryz.underlying329
  a51 := Tryz.isAgg329
  z51 := Tryz.sizeOf329
  v51 := Tryz.zeroValue329
  t53 := Tryz.underlying331
  a53 := Tryz.isAgg331
  z53 := Tryz.sizeOf331
  v53 := Tryz.zeroValue331
  t146 := Tryz.underlying351
  a146 := Tryz.isAgg351
  z146 := Tryz.sizeOf351
  v146 := Tryz.zeroValue351
  t148 := Tryz.underlying353
  a148 := Tryz.isAgg353
  z148 := Tryz.sizeOf353
  v148 := Tryz.zeroValue353
theorem f321_ok (K : Nat) : Sound Tryz.prog 321 (f321M K) := mul_sound f321_lays rfl
theorem f321_runs : Runs Tryz.prog 321 := runsB_ok (by kernel_rfl)
theorem f243_ok (K : Nat) : Sound Tryz.prog 243 (f243M K) :=
  sound_fn (envOK (E := (f243E K)) tab_ok mixed_ok (AllOK.cons (f321_ok K) f321_runs AllOK.nil) AllP.nil AllN.nil) Tryz.func243 fun x => f243_run K x.1 x.2.1
theorem f243_runs : Runs Tryz.prog 243 := runsB_ok (by kernel_rfl)
theorem f207_ok (K : Nat) : Sound Tryz.prog 207 (f207M K) :=
  sound_fn (envOK (E := (f207E K)) tab_ok mixed_ok AllOK.nil AllP.nil AllN.nil) Tryz.func207 fun x => f207_run K x.1
theorem f207_runs : Runs Tryz.prog 207 := runsB_ok (by kernel_rfl)
theorem f130_ok (K : Nat) : Sound Tryz.prog 130 (f130M K) :=
  sound_fn (envOK (E := (f130E K)) tab_ok mixed_ok AllOK.nil AllP.nil AllN.nil) Tryz.func130 fun x => f130_run K x.1 x.2.1
theorem f130_runs : Runs Tryz.prog 130 := runsB_ok (by kernel_rfl)
theorem f191_ok (K : Nat) : Sound Tryz.prog 191 (f191M K) :=
  sound_fn (envOK (E := (f191E K)) tab_ok mixed_ok (AllOK.cons (f288_ok K) f288_runs (AllOK.cons (f289_ok K) f289_runs AllOK.nil)) AllP.nil AllN.nil) Tryz.func191 fun x => f191_run K x.1 x.2.1
theorem f191_runs : Runs Tryz.prog 191 := runsB_ok (by kernel_rfl)
theorem f267_ok (K : Nat) : Sound Tryz.prog 267 (f267M K) :=
  sound_fn (envOK (E := (f267E K)) tab_ok mixed_ok (AllOK.cons (f161_ok K) f161_runs (AllOK.cons (f191_ok K) f191_runs AllOK.nil)) AllP.nil AllN.nil) Tryz.func267 fun x => f267_run K x.1 x.2.1 x.2.2.1
theorem f267_runs : Runs Tryz.prog 267 := runsB_ok (by kernel_rfl)
def f268_ren : Go.Shelf.Ren := ⟨fun | 6 => 268 | 14 => 330 | 15 => 331 | 20 => 369 | 21 => 370 | 22 => 371 | 23 => 372 | 24 => 373 | 25 => 374 | 26 => 375 | 27 => 376 | 28 => 377 | 29 => 378 | 46 => 407 | 47 => 408 | 48 => 409 | 49 => 410 | 50 => 411 | 57 => 418 | n => n, fun | 0 => 0 | 3 => 3 | 4 => 4 | 5 => 5 | 9 => 9 | 22 => 84 | 24 => 79 | 25 => 275 | 39 => 269 | 45 => 357 | 46 => 358 | 50 => 362 | 53 => 329 | 55 => 331 | 66 => 379 | 70 => 383 | 76 => 389 | 77 => 390 | n => n, fun n => n⟩
theorem f268_lays : SlLaysF0.n6 Tryz.prog f268_ren where
  mixed := by kernel_rfl
  f6 := ⟨ "slices.SortFunc[[]loop.example/g00943/impl.Vec,loop.example/g00943/impl.Vec]", by decide, Tryz.func268.trans (congrArg some (by kernel_rfl))⟩
  f14 := ⟨ "slices.pdqsortCmpFunc[loop.example/g00943/impl.Vec]", by decide, Tryz.func330.trans (congrArg some (by kernel_rfl))⟩
  f15 := Tryz.func331.trans (congrArg some (by kernel_rfl))
  f20 := ⟨ "slices.insertionSortCmpFunc[loop.example/g00943/impl.Vec]", by decide, Tryz.func369.trans (congrArg some (by kernel_rfl))⟩
  f21 := ⟨ "slices.heapSortCmpFunc[loop.example/g00943/impl.Vec]", by decide, Tryz.func370.trans (congrArg some (by kernel_rfl))⟩
  f22 := ⟨ "slices.breakPatternsCmpFunc[loop.example/g00943/impl.Vec]", by decide, Tryz.func371.trans (congrArg some (by kernel_rfl))⟩
  f23 := ⟨ "slices.choosePivotCmpFunc[loop.example/g00943/impl.Vec]", by decide, Tryz.func372.trans (congrArg some (by kernel_rfl))⟩
  f24 := ⟨ "slices.reverseRangeCmpFunc[loop.example/g00943/impl.Vec]", by decide, Tryz.func373.trans (congrArg some (by kernel_rfl))⟩
  f25 := ⟨ "slices.partialInsertionSortCmpFunc[loop.example/g00943/impl.Vec]", by decide, Tryz.func374.trans (congrArg some (by kernel_rfl))⟩
  f26 := ⟨ "slices.partitionEqualCmpFunc[loop.example/g00943/impl.Vec]", by decide, Tryz.func375.trans (congrArg some (by kernel_rfl))⟩
  f27 := ⟨ "slices.partitionCmpFunc[loop.example/g00943/impl.Vec]", by decide, Tryz.func376.trans (congrArg some (by kernel_rfl))⟩
  f28 := Tryz.func377.trans (congrArg some (by kernel_rfl))
  f29 := Tryz.func378.trans (congrArg some (by kernel_rfl))
  f46 := ⟨ "slices.siftDownCmpFunc[loop.example/g00943/impl.Vec]", by decide, Tryz.func407.trans (congrArg some (by kernel_rfl))⟩
  f47 := Tryz.func408.trans (congrArg some (by kernel_rfl))
  f48 := Tryz.func409.trans (congrArg some (by kernel_rfl))
  f49 := ⟨ "slices.medianAdjacentCmpFunc[loop.example/g00943/impl.Vec]", by decide, Tryz.func410.trans (congrArg some (by kernel_rfl))⟩
  f50 := ⟨ "slices.medianCmpFunc[loop.example/g00943/impl.Vec]", by decide, Tryz.func411.trans (congrArg some (by kernel_rfl))⟩
  f57 := ⟨ "slices.order2CmpFunc[loop.example/g00943/impl.Vec]", by decide, Tryz.func418.trans (congrArg some (by kernel_rfl))⟩
  t0 := Tryz.underlying0
  a0 := Tryz.isAgg0
  z0 := Tryz.sizeOf0
  v0 := Tryz.zeroValue0
  t3 := Tryz.underlying3
  a3 := Tryz.isAgg3
  z3 := Tryz.sizeOf3
  v3 := Tryz.zeroValue3
  t4 := Tryz.underlying4
  a4 := Tryz.isAgg4
  z4 := Tryz.sizeOf4
  v4 := Tryz.zeroValue4
  t5 := Tryz.underlying5
  a5 := Tryz.isAgg5
  z5 := Tryz.sizeOf5
  v5 := Tryz.zeroValue5
  t9 := Tryz.underlying9
  a9 := Tryz.isAgg9
  z9 := Tryz.sizeOf9
  v9 := Tryz.zeroValue9
  t22 := Tryz.underlying84
  a22 := Tryz.isAgg84
  z22 := Tryz.sizeOf84
  v22 := Tryz.zeroValue84
  t25 := Tryz.underlying275
  a25 := Tryz.isAgg275
  z25 := Tryz.sizeOf275
  v25 := Tryz.zeroValue275
  t39 := Tryz.underlying269
  a39 := Tryz.isAgg269
  z39 := Tryz.sizeOf269
  v39 := Tryz.zeroValue269
  t45 := Tryz.underlying357
  a45 := Tryz.isAgg357
  z45 := Tryz.sizeOf357
  v45 := Tryz.zeroValue357
  t46 := Tryz.underlying358
  a46 := Tryz.isAgg358
  z46 := Tryz.sizeOf358
  v46 := Tryz.zeroValue358
  t50 := Tryz.underlying362
  a50 := Tryz.isAgg362
  z50 := Tryz.sizeOf362
  v50 := Tryz.zeroValue362
  t53 := Tryz.underlying329
  a53 := Tryz.isAgg329
  z53 := Tryz.sizeOf329
  v53 := Tryz.zeroValue329
  t55 := Tryz.underlying331
  a55 := Tryz.isAgg331
  z55 := Tryz.sizeOf331
  v55 := Tryz.zeroValue331
  t66 := Tryz.underlying379
  a66 := Tryz.isAgg379
  z66 := Tryz.sizeOf379
  v66 := Tryz.zeroValue379
  t70 := Tryz.underlying383
  a70 := Tryz.isAgg383
  z70 := Tryz.sizeOf383
  v70 := Tryz.zeroValue383
  t76 := Tryz.underlying389
  a76 := Tryz.isAgg389
  z76 := Tryz.sizeOf389
  v76 := Tryz.zeroValue389
  t77 := Tryz.underlying390
  a77 := Tryz.isAgg390
  z77 := Tryz.sizeOf390
  v77 := Tryz.zeroValue390
theorem f268_ok (K : Nat) : Sound Tryz.prog 268 (f268M K) := sort_sound (e := 79) (s := (.cons (.int .i64) (.int .i64))) f268_lays rfl rfl rfl Tryz.isAgg79 Tryz.sizeOf79
theorem f268_runs : Runs Tryz.prog 268 := runsB_ok (by kernel_rfl)
theorem f270_ok (K : Nat) : Sound Tryz.prog 270 (f270M K) :=
  sound_fn (envOK (E := (f270E K)) tab_ok mixed_ok AllOK.nil AllP.nil AllN.nil) Tryz.func270 fun x => f270_run K x.1
theorem f270_runs : Runs Tryz.prog 270 := runsB_ok (by kernel_rfl)
theorem f171_ok (K : Nat) : Sound Tryz.prog 171 (f171M K) :=
  sound_fn (envOK (E := (f171E K)) tab_ok mixed_ok (AllOK.cons (f267_ok K) f267_runs (AllOK.cons (f268_ok K) f268_runs (AllOK.cons (f269_ok K) f269_runs (AllOK.cons (f270_ok K) f270_runs AllOK.nil)))) AllP.nil AllN.nil) Tryz.func171 fun x => f171_run K x.1 x.2.1 x.2.2.1
theorem f171_runs : Runs Tryz.prog 171 := runsB_ok (by kernel_rfl)
theorem f128_ok (K : Nat) : Sound Tryz.prog 128 (f128M K) :=
  sound_fn (envOK (E := (f128E K)) tab_ok mixed_ok (AllOK.cons (f130_ok K) f130_runs (AllOK.cons (f171_ok K) f171_runs (AllOK.cons (f207_ok K) f207_runs (AllOK.cons (f238_ok K) f238_runs (AllOK.cons (f243_ok K) f243_runs AllOK.nil))))) AllP.nil AllN.nil) Tryz.func128 fun x => f128_run K x.1 x.2.1
theorem f128_runs : Runs Tryz.prog 128 := runsB_ok (by kernel_rfl)
theorem f254_ok (K : Nat) : Sound Tryz.prog 254 (f254M K) :=
  sound_fn (envOK (E := (f254E K)) tab_ok mixed_ok (AllOK.cons (f130_ok K) f130_runs (AllOK.cons (f161_ok K) f161_runs AllOK.nil)) AllP.nil AllN.nil) Tryz.func254 fun x => f254_run K x.1 x.2.1 x.2.2.1
theorem f254_runs : Runs Tryz.prog 254 := runsB_ok (by kernel_rfl)
theorem f148_ok (K : Nat) : Sound Tryz.prog 148 (f148M K) :=
  sound_fn (envOK (E := (f148E K)) tab_ok mixed_ok (AllOK.cons (f128_ok K) f128_runs (AllOK.cons (f254_ok K) f254_runs AllOK.nil)) AllP.nil AllN.nil) Tryz.func148 fun x => f148_run K x.1 x.2.1 x.2.2.1
theorem f148_runs : Runs Tryz.prog 148 := runsB_ok (by kernel_rfl)
theorem f36_ok (K : Nat) : Sound Tryz.prog 36 (f36M K) :=
  sound_fn (envOK (E := (f36E K)) tab_ok mixed_ok (AllOK.cons (f86_ok K) f86_runs (AllOK.cons (f95_ok K) f95_runs (AllOK.cons (f146_ok K) f146_runs (AllOK.cons (f147_ok K) f147_runs (AllOK.cons (f148_ok K) f148_runs AllOK.nil))))) AllP.nil AllN.nil) Tryz.func36 fun x => f36_run K x.1 x.2.1
theorem f36_runs : Runs Tryz.prog 36 := runsB_ok (by kernel_rfl)
theorem f37_ok (K : Nat) : Sound Tryz.prog 37 (f37M K) :=
  sound_fn (envOK (E := (f37E K)) tab_ok mixed_ok AllOK.nil AllP.nil AllN.nil) Tryz.func37 fun x => f37_run K x.1 x.2.1
theorem f37_runs : Runs Tryz.prog 37 := runsB_ok (by kernel_rfl)
theorem f242_ok (K : Nat) : Sound Tryz.prog 242 (f242M K) :=
  sound_fn (envOK (E := (f242E K)) tab_ok mixed_ok AllOK.nil AllP.nil AllN.nil) Tryz.func242 fun x => f242_run K x.1 x.2.1
theorem f242_runs : Runs Tryz.prog 242 := runsB_ok (by kernel_rfl)
theorem f149_ok (K : Nat) : Sound Tryz.prog 149 (f149M K) :=
  sound_fn (envOK (E := (f149E K)) tab_ok mixed_ok (AllOK.cons (f242_ok K) f242_runs AllOK.nil) AllP.nil AllN.nil) Tryz.func149 fun x => f149_run K x.1 x.2.1
theorem f149_runs : Runs Tryz.prog 149 := runsB_ok (by kernel_rfl)
theorem f38_ok (K : Nat) : Sound Tryz.prog 38 (f38M K) :=
  sound_fn (envOK (E := (f38E K)) tab_ok mixed_ok (AllOK.cons (f149_ok K) f149_runs AllOK.nil) AllP.nil AllN.nil) Tryz.func38 fun x => f38_run K x.1 x.2.1
theorem f38_runs : Runs Tryz.prog 38 := runsB_ok (by kernel_rfl)
theorem f39_ok (K : Nat) : Sound Tryz.prog 39 (f39M K) :=
  sound_fn (envOK (E := (f39E K)) tab_ok mixed_ok AllOK.nil AllP.nil AllN.nil) Tryz.func39 fun x => f39_run K x.1 x.2.1
theorem f39_runs : Runs Tryz.prog 39 := runsB_ok (by kernel_rfl)
theorem f150_ok (K : Nat) : Sound Tryz.prog 150 (f150M K) :=
  sound_fn (envOK (E := (f150E K)) tab_ok mixed_ok AllOK.nil AllP.nil AllN.nil) Tryz.func150 fun x => f150_run K x.1
theorem f150_runs : Runs Tryz.prog 150 := runsB_ok (by kernel_rfl)
theorem f40_ok (K : Nat) : Sound Tryz.prog 40 (f40M K) :=
  sound_fn (envOK (E := (f40E K)) tab_ok mixed_ok (AllOK.cons (f150_ok K) f150_runs AllOK.nil) AllP.nil AllN.nil) Tryz.func40 fun x => f40_run K x.1 x.2.1
theorem f40_runs : Runs Tryz.prog 40 := runsB_ok (by kernel_rfl)
theorem f41_ok (K : Nat) : Sound Tryz.prog 41 (f41M K) :=
  sound_fn (envOK (E := (f41E K)) tab_ok mixed_ok (AllOK.cons (f150_ok K) f150_runs AllOK.nil) AllP.nil AllN.nil) Tryz.func41 fun x => f41_run K x.1 x.2.1
theorem f41_runs : Runs Tryz.prog 41 := runsB_ok (by kernel_rfl)
theorem f7_ok (K : Nat) : Sound Tryz.prog 7 (f7M K) :=
  sound_fn (envOK (E := (f7E K)) tab_ok mixed_ok (AllOK.cons (f33_ok K) f33_runs (AllOK.cons (f34_ok K) f34_runs (AllOK.cons (f35_ok K) f35_runs (AllOK.cons (f36_ok K) f36_runs (AllOK.cons (f37_ok K) f37_runs (AllOK.cons (f38_ok K) f38_runs (AllOK.cons (f39_ok K) f39_runs (AllOK.cons (f40_ok K) f40_runs (AllOK.cons (f41_ok K) f41_runs AllOK.nil))))))))) AllP.nil AllN.nil) Tryz.func7 fun x => f7_run K x.1 x.2.1
theorem f7_runs : Runs Tryz.prog 7 := runsB_ok (by kernel_rfl)
end Go.Proofs.YtfccacobkcglcaaGreat.X
