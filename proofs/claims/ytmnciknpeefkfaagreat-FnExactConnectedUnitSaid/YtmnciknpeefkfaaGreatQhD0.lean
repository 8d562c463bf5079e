/- Functions of the program as plain Lean functions, and that the program does what they say. Printed by gen.py. -/
import Derived.Test.YtmnciknpeefkfaaGreatXLoop
import Derived.Test.YtmnciknpeefkfaaGreatXLib
import Derived.Test.YtmnciknpeefkfaaGreatProg
namespace Go.Proofs.YtmnciknpeefkfaaGreat.X
open Go
set_option maxRecDepth 100000
set_option linter.unusedVariables false
abbrev tM : Type := ((Int × Int × Int × Int) × Int × Int)
abbrev tA : Type := (Int × Int × Int × Int)
abbrev tL : Type := (Int × Int × Int)
abbrev tV : Type := (Int × Int)
abbrev sM : Sh := (.cons (.cons (.int .i64) (.cons (.int .i64) (.cons (.int .i64) (.int .i64)))) (.cons (.int .i64) (.int .i64)))
abbrev sA : Sh := (.cons (.int .i64) (.cons (.int .i64) (.cons (.int .i64) (.int .i64))))
abbrev sL : Sh := (.cons (.int .i64) (.cons (.int .i64) (.int .i64)))
abbrev sV : Sh := (.cons (.int .i64) (.int .i64))
abbrev sI : Sh := (.int .i64)
abbrev zM : tM := (((0 : Int), ((0 : Int), ((0 : Int), (0 : Int)))), ((0 : Int), (0 : Int)))
abbrev zA : tA := ((0 : Int), ((0 : Int), ((0 : Int), (0 : Int))))
noncomputable def tys : List (Nat × Ty) := [(2, .sc sI), (3, .sc sI), (4, .sc .bool), (9, .sc .str), (23, .st sL [(0, 1), (1, 1), (2, 1)]), (24, .sl 95 sM 48), (28, .st sL [(0, 1), (1, 1), (2, 1)]), (30, .sl 91 sM 48), (34, .sl 2 sI 8), (38, .sl 72 (.list 53 sV) 24), (50, .st sV [(0, 1), (1, 1)]), (53, .st sV [(0, 1), (1, 1)]), (72, .sl 53 sV 16), (89, .st sA [(0, 1), (1, 1), (2, 1), (3, 1)]), (91, .st sM [(0, 4), (4, 2)]), (93, .st sA [(0, 1), (1, 1), (2, 1), (3, 1)]), (95, .st sM [(0, 4), (4, 2)]), (130, .sl 30 (.list 91 sM) 24), (165, .sl 89 sA 32), (182, .sc (.int .u64))]
noncomputable def eqs : List (Nat × List Sh) := [(28, [sI, sI, sI]), (53, [sI, sI]), (89, [sI, sI, sI, sI]), (91, [sI, sI, sI, sI, sI, sI])]
noncomputable def mts : List (Nat × MTy) := [(217, ⟨91, 4, sM, .bool⟩)]
theorem tab_ok : tabB Tryz.prog tys eqs mts = true := by kernel_rfl
theorem mixed_ok : Tryz.prog.follows .mixedOrders = true := by kernel_rfl
/-! laws.szMotionS -/
noncomputable def f13E (K : Nat) : Env := ⟨[], tys, eqs, mts, K, [0, 1, 4, 10], [], []⟩
noncomputable def f13G (K : Nat) (a0 : List tM) (a1 : Int) : Option Int :=
  (bif (decide ((w (a1 - (a0.length : Int))) < (0 : Int))) then some (-1 : Int) else some (w (a1 - (a0.length : Int))))
noncomputable def f13M (K : Nat) : Mdl := ⟨[(.ro, (.list 95 sM)), (.ro, sI)], [sI], fun x => f13G K x.1 x.2.1⟩
/-! laws.toLattice -/
noncomputable def f15E (K : Nat) : Env := ⟨[], tys, eqs, mts, K, [0, 1, 2, 3], [], []⟩
noncomputable def f15G (K : Nat) (a0 : Int × Int × Int) : Option tL :=
  some a0
noncomputable def f15M (K : Nat) : Mdl := ⟨[(.ro, sL)], [sL], fun x => f15G K x.1⟩
/-! laws.toMat -/
noncomputable def f130E (K : Nat) : Env := ⟨[], tys, eqs, mts, K, [0, 1, 2, 3], [], []⟩
noncomputable def f130G (K : Nat) (a0 : Int × Int × Int × Int) : Option tA :=
  some a0
noncomputable def f130M (K : Nat) : Mdl := ⟨[(.ro, sA)], [sA], fun x => f130G K x.1⟩
/-! laws.toVec -/
noncomputable def f29E (K : Nat) : Env := ⟨[], tys, eqs, mts, K, [0, 1, 2, 3], [], []⟩
noncomputable def f29G (K : Nat) (a0 : Int × Int) : Option tV :=
  some a0
noncomputable def f29M (K : Nat) : Mdl := ⟨[(.ro, sV)], [sV], fun x => f29G K x.1⟩
/-! laws.toMotion -/
noncomputable def f61E (K : Nat) : Env := ⟨[(29, f29M K), (130, f130M K)], tys, eqs, mts, K, [0, 1, 2, 3], [], []⟩
noncomputable def f61G (K : Nat) (a0 : tA × Int × Int) : Option tM :=
  (f130G K a0.1).bind fun y1 => (f29G K a0.2).bind fun y2 => some (y1, y2)
noncomputable def f61M (K : Nat) : Mdl := ⟨[(.ro, sM)], [sM], fun x => f61G K x.1⟩
/-! laws.toMotionS -/
noncomputable def f16C : Code := codeOf Tryz.f16
noncomputable def f16E (K : Nat) : Env := ⟨[(61, f61M K)], tys, eqs, mts, K, [0, 2, 3, 4, 11], [], []⟩
noncomputable def f16_b3 (K : Nat) (a0 : List tM) (L3 : Int → (List tM) → Option (List tM)) (q4 : Int) (q5 : List tM) : Option (List tM) :=
  (bif (decide (q4 < (a0.length : Int))) then (bif (decide (0 ≤ q4) && decide (q4 < (a0.length : Int))) then (f61G K ((((a0.getD ((0 : Int) + q4).toNat zM).1).1, (((a0.getD ((0 : Int) + q4).toNat zM).1).2).1, ((((a0.getD ((0 : Int) + q4).toNat zM).1).2).2)), ((a0.getD ((0 : Int) + q4).toNat zM).2))).bind fun y6 => (bif (decide (0 ≤ q4) && decide (q4 < (q5.length : Int))) then L3 (w (q4 + (1 : Int))) (q5.set ((0 : Int) + q4).toNat y6) else none) else none) else some q5)
noncomputable def f16_l3 (K : Nat) (a0 : List tM) (n : Nat) (q4 : Int) (q5 : List tM) : Option (List tM) :=
  iter (X := Int × List tM) (fun L x => (fun L3 => f16_b3 K a0 L3 x.1 x.2) (fun v0 v1 => L (v0, v1))) n (q4, q5)
noncomputable def f16_fr3 (a0 : List tM) (q4 : Int) (q5 : List tM) : Fr := ⟨23, [(0, .v false [.row 0]), (2, .v false [.row 1]), (3, .v false [.row 2]), (4, .v false [.int .i64 q4])], [], [some ⟨95, sM, a0, .ro⟩, some ⟨91, sM, [], .own⟩, some ⟨91, sM, q5, .own⟩]⟩
noncomputable def f16_k3 (K : Nat) (a0 : List tM) (lr : LR (List tM)) : Ex → Fr → Option (List tM) :=
  contC (f16E K) 1 lr f16C [1, 1, 0, 1, 0] (finK (f16E K) Tryz.f16 [(.ro, (.list 95 sM))] [(.list 91 sM)] (a0, ()))
noncomputable def f16_g (K : Nat) (a0 : List tM) (I3 : Int → (List tM) → Option (List tM)) : Option (List tM) :=
  (bif (decide (0 ≤ (a0.length : Int)) && Nat.ble (a0.length : Int).toNat (lim 48) && ((a0.length : Int) == (a0.length : Int))) then I3 (0 : Int) (List.replicate (a0.length : Int).toNat zM) else none)
noncomputable def f16G (K : Nat) (a0 : List tM) : Option (List tM) :=
  f16_g K a0 (fun d0 d1 => f16_l3 K a0 K d0 d1)
noncomputable def f16M (K : Nat) : Mdl := ⟨[(.ro, (.list 95 sM))], [(.list 91 sM)], fun x => f16G K x.1⟩
/-! spec.IsFrame -/
noncomputable def f190E (K : Nat) : Env := ⟨[], tys, eqs, mts, K, [0, 2], [], []⟩
noncomputable def f190G (K : Nat) (a0 : Int) : Option Bool :=
  (bif ((!(!(a0 == (0 : Int)))) || true) then (bif ((!(!(a0 == (0 : Int)))) || true) then some (bif (a0 == (0 : Int)) then true else (a0 == (1 : Int))) else none) else none)
noncomputable def f190M (K : Nat) : Mdl := ⟨[(.ro, sI)], [.bool], fun x => f190G K x.1⟩
/-! spec.l01In -/
noncomputable def f59E (K : Nat) : Env := ⟨[], tys, eqs, mts, K, [0, 1, 2, 6], [], []⟩
noncomputable def f59G (K : Nat) (a0 : Int) (a1 : Int) (a2 : Int) : Option Bool :=
  (bif ((!(decide (a0 ≥ a1))) || true) then (bif ((!(decide (a0 ≥ a1))) || true) then (bif ((!(decide (a0 ≥ a1))) || true) then some (bif (decide (a0 ≥ a1)) then (decide (a0 ≤ a2)) else false) else none) else none) else none)
noncomputable def f59M (K : Nat) : Mdl := ⟨[(.ro, sI), (.ro, sI), (.ro, sI)], [.bool], fun x => f59G K x.1 x.2.1 x.2.2.1⟩
/-! spec.IsLattice -/
noncomputable def f191E (K : Nat) : Env := ⟨[(59, f59M K)], tys, eqs, mts, K, [0, 1, 2], [], []⟩
noncomputable def f191G (K : Nat) (a0 : Int × Int × Int) : Option Bool :=
  (f59G K a0.1 (1 : Int) (64 : Int)).bind fun y1 => (bif ((!y1) || true) then (bif ((!y1) || true) then ((bif y1 then f59G K a0.2.2 (1 : Int) (64 : Int) else some false)).bind fun y2 => (bif ((!(bif y1 then y2 else false)) || true) then (bif ((!(bif y1 then y2 else false)) || true) then (bif ((!(bif y1 then y2 else false)) || true) then (bif ((!(bif y1 then y2 else false)) || true) then (bif ((!(bif y1 then y2 else false)) || true) then ((bif (bif y1 then y2 else false) then f59G K a0.2.1 (0 : Int) (w (a0.1 - (1 : Int))) else some false)).bind fun y3 => (bif ((!(bif (bif y1 then y2 else false) then y3 else false)) || true) then (bif ((!(bif (bif y1 then y2 else false) then y3 else false)) || true) then (bif ((!(bif (bif y1 then y2 else false) then y3 else false)) || true) then (bif ((!(bif (bif y1 then y2 else false) then y3 else false)) || true) then (bif ((!(bif (bif y1 then y2 else false) then y3 else false)) || true) then (bif ((!(bif (bif y1 then y2 else false) then y3 else false)) || true) then some (bif (bif (bif y1 then y2 else false) then y3 else false) then (decide ((w (a0.1 * a0.2.2)) ≤ (64 : Int))) else false) else none) else none) else none) else none) else none) else none) else none) else none) else none) else none) else none) else none) else none)
noncomputable def f191M (K : Nat) : Mdl := ⟨[(.ro, sL)], [.bool], fun x => f191G K x.1⟩
/-! spec.l04Code -/
noncomputable def f133E (K : Nat) : Env := ⟨[(190, f190M K), (191, f191M K)], tys, eqs, mts, K, [0, 1, 3, 4, 12], [], []⟩
noncomputable def f133G (K : Nat) (a0 : Int) (a1 : Int × Int × Int) : Option Int :=
  (f190G K a0).bind fun y1 => (bif ((!(!(!y1))) || true) then ((bif (!(!y1)) then f191G K a1 else some false)).bind fun y2 => (bif ((!(!(!y1))) || true) then (bif (bif (!y1) then true else (!y2)) then some (1 : Int) else some (0 : Int)) else none) else none)
noncomputable def f133M (K : Nat) : Mdl := ⟨[(.ro, sI), (.ro, sL)], [sI], fun x => f133G K x.1 x.2.1⟩
/-! spec.IsVec -/
noncomputable def f216E (K : Nat) : Env := ⟨[(59, f59M K)], tys, eqs, mts, K, [0, 1, 2], [], []⟩
noncomputable def f216G (K : Nat) (a0 : Int × Int) : Option Bool :=
  (f59G K a0.1 (-1000 : Int) (1000 : Int)).bind fun y1 => (bif ((!y1) || true) then (bif ((!y1) || true) then ((bif y1 then f59G K a0.2 (-1000 : Int) (1000 : Int) else some false)).bind fun y2 => some (bif y1 then y2 else false) else none) else none)
noncomputable def f216M (K : Nat) : Mdl := ⟨[(.ro, sV)], [.bool], fun x => f216G K x.1⟩
/-! spec.l02Small -/
noncomputable def f281E (K : Nat) : Env := ⟨[(216, f216M K)], tys, eqs, mts, K, [0, 1, 2], [], []⟩
noncomputable def f281G (K : Nat) (a0 : Int × Int × Int × Int) : Option Bool :=
  (f216G K (a0.1, a0.2.1)).bind fun y1 => (bif ((!y1) || true) then (bif ((!y1) || true) then (bif ((!y1) || true) then (bif ((!y1) || true) then (bif ((!y1) || true) then ((bif y1 then f216G K a0.2.2 else some false)).bind fun y2 => some (bif y1 then y2 else false) else none) else none) else none) else none) else none)
noncomputable def f281M (K : Nat) : Mdl := ⟨[(.ro, sA)], [.bool], fun x => f281G K x.1⟩
/-! spec.l02Det -/
noncomputable def f282E (K : Nat) : Env := ⟨[], tys, eqs, mts, K, [0, 1, 2], [], []⟩
noncomputable def f282G (K : Nat) (a0 : Int × Int × Int × Int) : Option Int :=
  some (w ((w (a0.1 * a0.2.2.2)) - (w (a0.2.1 * a0.2.2.1))))
noncomputable def f282M (K : Nat) : Mdl := ⟨[(.ro, sA)], [sI], fun x => f282G K x.1⟩
/-! spec.IsMat -/
noncomputable def f272E (K : Nat) : Env := ⟨[(281, f281M K), (282, f282M K)], tys, eqs, mts, K, [0, 1, 2], [], []⟩
noncomputable def f272G (K : Nat) (a0 : Int × Int × Int × Int) : Option Bool :=
  (f281G K a0).bind fun y1 => (bif ((!y1) || true) then ((bif y1 then f282G K a0 else some (0 : Int))).bind fun y2 => (bif ((!y1) || true) then (bif ((!y1) || true) then (bif ((!(y1 && (!(y2 == (1 : Int))))) || true) then ((bif (y1 && (!(y2 == (1 : Int)))) then f282G K a0 else some (0 : Int))).bind fun y3 => (bif ((!(y1 && (!(y2 == (1 : Int))))) || true) then (bif ((!y1) || true) then some (bif y1 then (bif (y2 == (1 : Int)) then true else (y3 == (-1 : Int))) else false) else none) else none) else none) else none) else none) else none)
noncomputable def f272M (K : Nat) : Mdl := ⟨[(.ro, sA)], [.bool], fun x => f272G K x.1⟩
/-! spec.l04Norm -/
noncomputable def f275E (K : Nat) : Env := ⟨[], tys, eqs, mts, K, [0, 1, 3, 4, 5, 18], [], []⟩
noncomputable def f275G (K : Nat) (a0 : Int) (a1 : Int × Int) : Option Int :=
  (bif (a0 == (1 : Int)) then some (w ((w ((w (a1.1 * a1.1)) + (w (a1.2 * a1.2)))) + (w (a1.1 * a1.2)))) else some (w ((w (a1.1 * a1.1)) + (w (a1.2 * a1.2)))))
noncomputable def f275M (K : Nat) : Mdl := ⟨[(.ro, sI), (.ro, sV)], [sI], fun x => f275G K x.1 x.2.1⟩
/-! spec.l01Add -/
noncomputable def f170E (K : Nat) : Env := ⟨[], tys, eqs, mts, K, [0, 1, 2, 3, 4], [], []⟩
noncomputable def f170G (K : Nat) (a0 : Int × Int) (a1 : Int × Int) : Option tV :=
  some ((w (a0.1 + a1.1)), (w (a0.2 + a1.2)))
noncomputable def f170M (K : Nat) : Mdl := ⟨[(.ro, sV), (.ro, sV)], [sV], fun x => f170G K x.1 x.2.1⟩
/-! spec.l04Keeps -/
noncomputable def f244E (K : Nat) : Env := ⟨[(170, f170M K), (275, f275M K)], tys, eqs, mts, K, [0, 1, 3, 4, 5, 6], [], []⟩
noncomputable def f244G (K : Nat) (a0 : Int) (a1 : Int × Int × Int × Int) : Option Bool :=
  (f275G K a0 (a1.1, a1.2.2.1)).bind fun y1 => (bif ((!(y1 == (1 : Int))) || true) then (bif ((!(y1 == (1 : Int))) || true) then ((bif (y1 == (1 : Int)) then f275G K a0 (a1.2.1, a1.2.2.2) else some (0 : Int))).bind fun y2 => (bif ((!(y1 == (1 : Int))) || true) then (bif ((!(bif (y1 == (1 : Int)) then (y2 == (1 : Int)) else false)) || true) then (bif ((!(bif (y1 == (1 : Int)) then (y2 == (1 : Int)) else false)) || true) then (bif ((!(bif (y1 == (1 : Int)) then (y2 == (1 : Int)) else false)) || true) then ((bif (bif (y1 == (1 : Int)) then (y2 == (1 : Int)) else false) then f170G K (a1.1, a1.2.2.1) (a1.2.1, a1.2.2.2) else some ((0 : Int), (0 : Int)))).bind fun y3 => ((bif (bif (y1 == (1 : Int)) then (y2 == (1 : Int)) else false) then f275G K a0 y3 else some (0 : Int))).bind fun y4 => (bif ((!(bif (y1 == (1 : Int)) then (y2 == (1 : Int)) else false)) || true) then (bif ((!(bif (y1 == (1 : Int)) then (y2 == (1 : Int)) else false)) || true) then (bif ((!(bif (y1 == (1 : Int)) then (y2 == (1 : Int)) else false)) || true) then some (bif (bif (y1 == (1 : Int)) then (y2 == (1 : Int)) else false) then (y4 == (w ((2 : Int) + a0))) else false) else none) else none) else none) else none) else none) else none) else none) else none) else none)
noncomputable def f244M (K : Nat) : Mdl := ⟨[(.ro, sI), (.ro, sA)], [.bool], fun x => f244G K x.1 x.2.1⟩
/-! spec.IsPointMat -/
noncomputable def f238E (K : Nat) : Env := ⟨[(190, f190M K), (244, f244M K), (272, f272M K)], tys, eqs, mts, K, [0, 1, 3, 4], [], []⟩
noncomputable def f238G (K : Nat) (a0 : Int) (a1 : Int × Int × Int × Int) : Option Bool :=
  (f190G K a0).bind fun y1 => (bif ((!y1) || true) then ((bif y1 then f272G K a1 else some false)).bind fun y2 => (bif ((!(bif y1 then y2 else false)) || true) then (bif ((!(bif y1 then y2 else false)) || true) then ((bif (bif y1 then y2 else false) then f244G K a0 a1 else some false)).bind fun y3 => some (bif (bif y1 then y2 else false) then y3 else false) else none) else none) else none)
noncomputable def f238M (K : Nat) : Mdl := ⟨[(.ro, sI), (.ro, sA)], [.bool], fun x => f238G K x.1 x.2.1⟩
/-! spec.l03Basis -/
noncomputable def f192E (K : Nat) : Env := ⟨[], tys, eqs, mts, K, [0, 1, 2], [], []⟩
noncomputable def f192G (K : Nat) (a0 : Int × Int × Int) : Option (List tV) :=
  some [(a0.1, (0 : Int)), a0.2]
noncomputable def f192M (K : Nat) : Mdl := ⟨[(.ro, sL)], [(.list 53 sV)], fun x => f192G K x.1⟩
/-! spec.l02Apply -/
noncomputable def f241E (K : Nat) : Env := ⟨[], tys, eqs, mts, K, [0, 1, 2, 3, 4], [], []⟩
noncomputable def f241G (K : Nat) (a0 : Int × Int × Int × Int) (a1 : Int × Int) : Option tV :=
  some ((w ((w (a0.1 * a1.1)) + (w (a0.2.1 * a1.2)))), (w ((w (a0.2.2.1 * a1.1)) + (w (a0.2.2.2 * a1.2)))))
noncomputable def f241M (K : Nat) : Mdl := ⟨[(.ro, sA), (.ro, sV)], [sV], fun x => f241G K x.1 x.2.1⟩
/-! spec.l01Divisor -/
noncomputable def f242E (K : Nat) (rec : Int → Int → Option Int) : Env := ⟨[(242, ⟨[(.ro, sI), (.ro, sI)], [sI], fun x => rec x.1 x.2.1⟩)], tys, eqs, mts, K, [0, 1, 4, 6], [], []⟩
noncomputable def f242_s (K : Nat) (rec : Int → Int → Option Int) (a0 : Int) (a1 : Int) : Option Int :=
  (bif (a1 == (0 : Int)) then some (if (w (0 - a0)) > a0 then (w (0 - a0)) else a0) else (bif (a1 != 0) then (rec a1 (a0.tmod a1)).bind fun y1 => some y1 else none))
noncomputable def f242R (K : Nat) : Nat → Int → Int → Option Int
  | 0 => fun _ _ => none
  | n + 1 => fun a0 a1 => f242_s K (f242R K n) a0 a1
noncomputable def f242G (K : Nat) (a0 : Int) (a1 : Int) : Option Int := f242R K K a0 a1
noncomputable def f242M (K : Nat) : Mdl := ⟨[(.ro, sI), (.ro, sI)], [sI], fun x => f242G K x.1 x.2.1⟩
/-! spec.l01Mod -/
noncomputable def f180E (K : Nat) : Env := ⟨[], tys, eqs, mts, K, [0, 1, 4, 9], [], []⟩
noncomputable def f180G (K : Nat) (a0 : Int) (a1 : Int) : Option Int :=
  (bif (a1 != 0) then (bif (decide ((a0.tmod a1) < (0 : Int))) then some (w ((a0.tmod a1) + a1)) else some (a0.tmod a1)) else none)
noncomputable def f180M (K : Nat) : Mdl := ⟨[(.ro, sI), (.ro, sI)], [sI], fun x => f180G K x.1 x.2.1⟩
/-! spec.l01Scale -/
noncomputable def f243E (K : Nat) : Env := ⟨[], tys, eqs, mts, K, [0, 1, 2, 4], [], []⟩
noncomputable def f243G (K : Nat) (a0 : Int × Int) (a1 : Int) : Option tV :=
  some ((w (a1 * a0.1)), (w (a1 * a0.2)))
noncomputable def f243M (K : Nat) : Mdl := ⟨[(.ro, sV), (.ro, sI)], [sV], fun x => f243G K x.1 x.2.1⟩
/-! spec.l03Hermite -/
noncomputable def f194C : Code := codeOf Tryz.f194
noncomputable def f194E (K : Nat) : Env := ⟨[(180, f180M K), (242, f242M K), (243, f243M K)], tys, eqs, mts, K, [0, 2, 3, 4, 5, 6, 7, 8, 13, 22, 50, 58, 62], [], []⟩
noncomputable def f194_b15 (K : Nat) (a0 : List tV) (q11 : Int) (q12 : Int) (L10 : Int → Int → Int → Int → Option tL) (L15 : Int → Int → Int → Int → Option tL) (q16 : Int) (q17 : Int) (q18 : Int) (q19 : Int) : Option tL :=
  (bif (q19 != (0 : Int)) then (bif (q19 != 0) then L15 q18 q19 (w (q16 - (w ((w (q17.tdiv q19)) * q18)))) (w (q17 - (w ((w (q17.tdiv q19)) * q19)))) else none) else (f242G K q11 q18).bind fun y20 => (bif (decide (y20 > (0 : Int))) then (f180G K q16 y20).bind fun y21 => L10 y20 (w (q12 + (1 : Int))) y21 q17 else L10 y20 (w (q12 + (1 : Int))) q16 q17))
noncomputable def f194_l15 (K : Nat) (a0 : List tV) (q11 : Int) (q12 : Int) (L10 : Int → Int → Int → Int → Option tL) (n : Nat) (q16 : Int) (q17 : Int) (q18 : Int) (q19 : Int) : Option tL :=
  iter (X := Int × Int × Int × Int) (fun L x => (fun L15 => f194_b15 K a0 q11 q12 L10 L15 x.1 x.2.1 x.2.2.1 x.2.2.2) (fun v0 v1 v2 v3 => L (v0, v1, v2, v3))) n (q16, q17, q18, q19)
noncomputable def f194_fr15 (a0 : List tV) (q11 : Int) (q12 : Int) (q16 : Int) (q17 : Int) (q18 : Int) (q19 : Int) : Fr := ⟨74, [(0, .v false [.row 0]), (2, .v false [.box 0 0]), (3, .v false [.box 1 0]), (4, .v false [.int .i64 q11]), (5, .v false [.int .i64 q12]), (6, .v false [.box 2 0]), (13, .v false [.bool (decide (q12 < (a0.length : Int)))])], [some ⟨true, [.int .i64 (0 : Int), .int .i64 (0 : Int), .int .i64 (0 : Int)]⟩, some ⟨true, [.int .i64 q16, .int .i64 q17]⟩, some ⟨true, [.int .i64 q18, .int .i64 q19]⟩], [some ⟨53, sV, a0, .ro⟩]⟩
noncomputable def f194_b10 (K : Nat) (a0 : List tV) (I15 : Int → Int → Int → Int → Int → Int → Option tL) (L10 : Int → Int → Int → Int → Option tL) (q11 : Int) (q12 : Int) (q13 : Int) (q14 : Int) : Option tL :=
  (bif (decide (q12 < (a0.length : Int))) then (bif (decide (0 ≤ q12) && decide (q12 < (a0.length : Int))) then I15 q11 q12 q13 q14 ((a0.getD ((0 : Int) + q12).toNat ((0 : Int), (0 : Int))).1) ((a0.getD ((0 : Int) + q12).toNat ((0 : Int), (0 : Int))).2) else none) else (bif (decide (q14 < (0 : Int))) then (f243G K (q13, q14) (-1 : Int)).bind fun y22 => (bif (decide (q11 > (0 : Int))) then (f180G K y22.1 q11).bind fun y23 => some (q11, y23, y22.2) else some (q11, y22)) else (bif (decide (q11 > (0 : Int))) then (f180G K q13 q11).bind fun y24 => some (q11, y24, q14) else some (q11, q13, q14))))
noncomputable def f194_l10 (K : Nat) (a0 : List tV) (n : Nat) (q11 : Int) (q12 : Int) (q13 : Int) (q14 : Int) : Option tL :=
  iter (X := Int × Int × Int × Int) (fun L x => (fun L10 => f194_b10 K a0 (fun c0 c1 d0 d1 d2 d3 => f194_l15 K a0 c0 c1 L10 K d0 d1 d2 d3) L10 x.1 x.2.1 x.2.2.1 x.2.2.2) (fun v0 v1 v2 v3 => L (v0, v1, v2, v3))) n (q11, q12, q13, q14)
noncomputable def f194_fr10 (a0 : List tV) (q11 : Int) (q12 : Int) (q13 : Int) (q14 : Int) : Fr := ⟨74, [(0, .v false [.row 0]), (2, .v false [.box 0 0]), (3, .v false [.box 1 0]), (4, .v false [.int .i64 q11]), (5, .v false [.int .i64 q12])], [some ⟨true, [.int .i64 (0 : Int), .int .i64 (0 : Int), .int .i64 (0 : Int)]⟩, some ⟨true, [.int .i64 q13, .int .i64 q14]⟩], [some ⟨53, sV, a0, .ro⟩]⟩
noncomputable def f194_k10 (K : Nat) (a0 : List tV) (lr : LR tL) : Ex → Fr → Option tL :=
  contC (f194E K) 1 lr f194C [1, 1, 0, 1, 0] (finK (f194E K) Tryz.f194 [(.ro, (.list 53 sV))] [sL] (a0, ()))
noncomputable def f194_k15 (K : Nat) (a0 : List tV) (F10 : Fr → Option tL) (bq11 : Int) (bq12 : Int) (bq13 : Int) (bq14 : Int) (lr : LR tL) : Ex → Fr → Option tL :=
  contC (f194E K) 1 lr (selC f194C [1, 1, 0, 1, 0, 0]) [1, 0, 0, 1, 0, 0] (loopK 1 (f194_fr10 a0 bq11 bq12 bq13 bq14) F10 (f194_k10 K a0 lr))
noncomputable def f194_g (K : Nat) (a0 : List tV) (I10 : Int → Int → Int → Int → Option tL) : Option tL :=
  I10 (0 : Int) (0 : Int) (0 : Int) (0 : Int)
noncomputable def f194G (K : Nat) (a0 : List tV) : Option tL :=
  f194_g K a0 (fun d0 d1 d2 d3 => f194_l10 K a0 K d0 d1 d2 d3)
noncomputable def f194M (K : Nat) : Mdl := ⟨[(.ro, (.list 53 sV))], [sL], fun x => f194G K x.1⟩
/-! spec.l04Image -/
noncomputable def f196E (K : Nat) : Env := ⟨[(192, f192M K), (194, f194M K), (241, f241M K)], tys, eqs, mts, K, [0, 1, 2, 3, 4, 5], [], []⟩
noncomputable def f196G (K : Nat) (a0 : Int × Int × Int × Int) (a1 : Int × Int × Int) : Option tL :=
  (f192G K a1).bind fun y1 => (bif (decide (0 ≤ (0 : Int)) && decide ((0 : Int) < (y1.length : Int))) then (f241G K a0 (y1.getD ((0 : Int) + (0 : Int)).toNat ((0 : Int), (0 : Int)))).bind fun y2 => (bif (decide (0 ≤ (1 : Int)) && decide ((1 : Int) < (y1.length : Int))) then (f241G K a0 (y1.getD ((0 : Int) + (1 : Int)).toNat ((0 : Int), (0 : Int)))).bind fun y3 => (f194G K [y2, y3]).bind fun y4 => some y4 else none) else none)
noncomputable def f196M (K : Nat) : Mdl := ⟨[(.ro, sA), (.ro, sL)], [sL], fun x => f196G K x.1 x.2.1⟩
/-! spec.IsSuitable -/
noncomputable def f184E (K : Nat) : Env := ⟨[(133, f133M K), (196, f196M K), (216, f216M K), (238, f238M K)], tys, eqs, mts, K, [0, 1, 2, 4, 5, 6], [], []⟩
noncomputable def f184G (K : Nat) (a0 : Int) (a1 : Int × Int × Int) (a2 : tA × Int × Int) : Option Bool :=
  (f133G K a0 a1).bind fun y1 => (bif ((!(y1 == (0 : Int))) || true) then (bif ((!(y1 == (0 : Int))) || true) then (bif ((!(y1 == (0 : Int))) || true) then ((bif (y1 == (0 : Int)) then f238G K a0 a2.1 else some false)).bind fun y2 => (bif ((!(bif (y1 == (0 : Int)) then y2 else false)) || true) then (bif ((!(bif (y1 == (0 : Int)) then y2 else false)) || true) then (bif ((!(bif (y1 == (0 : Int)) then y2 else false)) || true) then ((bif (bif (y1 == (0 : Int)) then y2 else false) then f196G K a2.1 a1 else some ((0 : Int), ((0 : Int), (0 : Int))))).bind fun y3 => (bif ((!(bif (y1 == (0 : Int)) then y2 else false)) || true) then (bif ((!(bif (y1 == (0 : Int)) then y2 else false)) || true) then (bif ((!(bif (bif (y1 == (0 : Int)) then y2 else false) then ((y3.1 == a1.1) && ((y3.2.1 == a1.2.1) && (y3.2.2 == a1.2.2))) else false)) || true) then (bif ((!(bif (bif (y1 == (0 : Int)) then y2 else false) then ((y3.1 == a1.1) && ((y3.2.1 == a1.2.1) && (y3.2.2 == a1.2.2))) else false)) || true) then ((bif (bif (bif (y1 == (0 : Int)) then y2 else false) then ((y3.1 == a1.1) && ((y3.2.1 == a1.2.1) && (y3.2.2 == a1.2.2))) else false) then f216G K a2.2 else some false)).bind fun y4 => some (bif (bif (bif (y1 == (0 : Int)) then y2 else false) then ((y3.1 == a1.1) && ((y3.2.1 == a1.2.1) && (y3.2.2 == a1.2.2))) else false) then y4 else false) else none) else none) else none) else none) else none) else none) else none) else none) else none) else none)
noncomputable def f184M (K : Nat) : Mdl := ⟨[(.ro, sI), (.ro, sL), (.ro, sM)], [.bool], fun x => f184G K x.1 x.2.1 x.2.2.1⟩
/-! spec.l03Reduce -/
noncomputable def f114E (K : Nat) : Env := ⟨[(180, f180M K)], tys, eqs, mts, K, [0, 1, 2, 3, 4, 5, 6], [], []⟩
noncomputable def f114G (K : Nat) (a0 : Int × Int × Int) (a1 : Int × Int) : Option tV :=
  (f180G K a1.2 a0.2.2).bind fun y1 => (bif (a0.2.2 != 0) then (f180G K (w (a1.1 - (w ((w ((w (a1.2 - y1)).tdiv a0.2.2)) * a0.2.1)))) a0.1).bind fun y2 => some (y2, y1) else none)
noncomputable def f114M (K : Nat) : Mdl := ⟨[(.ro, sL), (.ro, sV)], [sV], fun x => f114G K x.1 x.2.1⟩
/-! spec.l06Reduce -/
noncomputable def f185E (K : Nat) : Env := ⟨[(114, f114M K)], tys, eqs, mts, K, [0, 1, 2, 3, 4], [], []⟩
noncomputable def f185G (K : Nat) (a0 : Int × Int × Int) (a1 : tA × Int × Int) : Option tM :=
  (f114G K a0 a1.2).bind fun y1 => some (a1.1, y1)
noncomputable def f185M (K : Nat) : Mdl := ⟨[(.ro, sL), (.ro, sM)], [sM], fun x => f185G K x.1 x.2.1⟩
/-! spec.l02Numbers -/
noncomputable def f274E (K : Nat) : Env := ⟨[], tys, eqs, mts, K, [0, 1, 2], [], []⟩
noncomputable def f274G (K : Nat) (a0 : Int × Int × Int × Int) : Option (List Int) :=
  some [a0.1, a0.2.1, a0.2.2.1, a0.2.2.2]
noncomputable def f274M (K : Nat) : Mdl := ⟨[(.ro, sA)], [(.list 2 sI)], fun x => f274G K x.1⟩
/-! spec.l01LessList -/
noncomputable def f273C : Code := codeOf Tryz.f273
noncomputable def f273E (K : Nat) : Env := ⟨[], tys, eqs, mts, K, [0, 1, 4, 5, 15, 26], [], []⟩
noncomputable def f273_b2 (K : Nat) (a0 : List Int) (a1 : List Int) (L2 : Int → Option Bool) (q3 : Int) : Option Bool :=
  (bif ((!(decide (q3 < (a0.length : Int)))) || true) then (bif ((!(decide (q3 < (a0.length : Int)))) || true) then (bif ((!(decide (q3 < (a0.length : Int)))) || true) then (bif ((!(decide (q3 < (a0.length : Int)))) || true) then (bif (bif (decide (q3 < (a0.length : Int))) then (decide (q3 < (a1.length : Int))) else false) then (bif (decide (0 ≤ q3) && decide (q3 < (a0.length : Int))) then (bif (decide (0 ≤ q3) && decide (q3 < (a1.length : Int))) then (bif ((a0.getD ((0 : Int) + q3).toNat (0 : Int)) != (a1.getD ((0 : Int) + q3).toNat (0 : Int))) then (bif (decide (0 ≤ q3) && decide (q3 < (a0.length : Int))) then (bif (decide (0 ≤ q3) && decide (q3 < (a1.length : Int))) then some (decide ((a0.getD ((0 : Int) + q3).toNat (0 : Int)) < (a1.getD ((0 : Int) + q3).toNat (0 : Int)))) else none) else none) else L2 (w (q3 + (1 : Int)))) else none) else none) else some (decide ((a0.length : Int) < (a1.length : Int)))) else none) else none) else none) else none)
noncomputable def f273_l2 (K : Nat) (a0 : List Int) (a1 : List Int) (n : Nat) (q3 : Int) : Option Bool :=
  iter (X := Int) (fun L x => (fun L2 => f273_b2 K a0 a1 L2 x) (fun v0 => L v0)) n q3
noncomputable def f273_fr2 (a0 : List Int) (a1 : List Int) (q3 : Int) : Fr := ⟨41, [(0, .v false [.row 0]), (1, .v false [.row 1]), (4, .v false [.bool false]), (5, .v false [.int .i64 q3])], [], [some ⟨2, sI, a0, .ro⟩, some ⟨2, sI, a1, .ro⟩]⟩
noncomputable def f273_k2 (K : Nat) (a0 : List Int) (a1 : List Int) (lr : LR Bool) : Ex → Fr → Option Bool :=
  contC (f273E K) 2 lr f273C [1, 0, 1, 0] (finK (f273E K) Tryz.f273 [(.ro, (.list 2 sI)), (.ro, (.list 2 sI))] [.bool] (a0, a1, ()))
noncomputable def f273_g (K : Nat) (a0 : List Int) (a1 : List Int) (I2 : Int → Option Bool) : Option Bool :=
  I2 (0 : Int)
noncomputable def f273G (K : Nat) (a0 : List Int) (a1 : List Int) : Option Bool :=
  f273_g K a0 a1 (fun d0 => f273_l2 K a0 a1 K d0)
noncomputable def f273M (K : Nat) : Mdl := ⟨[(.ro, (.list 2 sI)), (.ro, (.list 2 sI))], [.bool], fun x => f273G K x.1 x.2.1⟩
/-! spec.l02Less -/
noncomputable def f239E (K : Nat) : Env := ⟨[(273, f273M K), (274, f274M K)], tys, eqs, mts, K, [0, 1, 2, 3, 4], [], []⟩
noncomputable def f239G (K : Nat) (a0 : Int × Int × Int × Int) (a1 : Int × Int × Int × Int) : Option Bool :=
  (f274G K a0).bind fun y1 => (f274G K a1).bind fun y2 => (f273G K y1 y2).bind fun y3 => some y3
noncomputable def f239M (K : Nat) : Mdl := ⟨[(.ro, sA), (.ro, sA)], [.bool], fun x => f239G K x.1 x.2.1⟩
/-! spec.l01Less -/
noncomputable def f171E (K : Nat) : Env := ⟨[], tys, eqs, mts, K, [0, 1, 2, 3, 4], [], []⟩
noncomputable def f171G (K : Nat) (a0 : Int × Int) (a1 : Int × Int) : Option Bool :=
  (bif ((!(!(decide (a0.1 < a1.1)))) || true) then (bif ((!(!(decide (a0.1 < a1.1)))) || true) then (bif ((!(!(decide (a0.1 < a1.1)))) || true) then (bif ((!(!(decide (a0.1 < a1.1)))) || true) then (bif ((!(!(decide (a0.1 < a1.1)))) || true) then (bif ((!(!(decide (a0.1 < a1.1)))) || true) then (bif ((!((!(decide (a0.1 < a1.1))) && (a0.1 == a1.1))) || true) then (bif ((!((!(decide (a0.1 < a1.1))) && (a0.1 == a1.1))) || true) then (bif ((!((!(decide (a0.1 < a1.1))) && (a0.1 == a1.1))) || true) then (bif ((!((!(decide (a0.1 < a1.1))) && (a0.1 == a1.1))) || true) then (bif ((!((!(decide (a0.1 < a1.1))) && (a0.1 == a1.1))) || true) then (bif ((!(!(decide (a0.1 < a1.1)))) || true) then some (bif (decide (a0.1 < a1.1)) then true else (bif (a0.1 == a1.1) then (decide (a0.2 < a1.2)) else false)) else none) else none) else none) else none) else none) else none) else none) else none) else none) else none) else none) else none)
noncomputable def f171M (K : Nat) : Mdl := ⟨[(.ro, sV), (.ro, sV)], [.bool], fun x => f171G K x.1 x.2.1⟩
/-! spec.l05Less -/
noncomputable def f186E (K : Nat) : Env := ⟨[(171, f171M K), (239, f239M K)], tys, eqs, mts, K, [0, 1, 2, 3, 4, 9], [], []⟩
noncomputable def f186G (K : Nat) (a0 : tA × Int × Int) (a1 : tA × Int × Int) : Option Bool :=
  (bif (!((a0.1.1 == a1.1.1) && ((a0.1.2.1 == a1.1.2.1) && ((a0.1.2.2.1 == a1.1.2.2.1) && (a0.1.2.2.2 == a1.1.2.2.2))))) then (f239G K a0.1 a1.1).bind fun y1 => some y1 else (f171G K a0.2 a1.2).bind fun y2 => some y2)
noncomputable def f186M (K : Nat) : Mdl := ⟨[(.ro, sM), (.ro, sM)], [.bool], fun x => f186G K x.1 x.2.1⟩
/-! spec.l02Unit -/
noncomputable def f193E (K : Nat) : Env := ⟨[], tys, eqs, mts, K, [0], [], []⟩
noncomputable def f193G (K : Nat) : Option tA :=
  some ((1 : Int), (0 : Int), (0 : Int), (1 : Int))
noncomputable def f193M (K : Nat) : Mdl := ⟨[], [sA], fun x => f193G K ⟩
/-! spec.l06Unit -/
noncomputable def f188E (K : Nat) : Env := ⟨[(193, f193M K)], tys, eqs, mts, K, [0], [], []⟩
noncomputable def f188G (K : Nat) : Option tM :=
  (f193G K).bind fun y1 => some (y1, (0 : Int), (0 : Int))
noncomputable def f188M (K : Nat) : Mdl := ⟨[], [sM], fun x => f188G K ⟩
/-! spec.l06Place -/
noncomputable def f222C : Code := codeOf Tryz.f222
noncomputable def f222E (K : Nat) : Env := ⟨[(186, f186M K)], tys, eqs, mts, K, [0, 1, 3, 4, 5, 6, 7, 12, 22], [], []⟩
noncomputable def f222_b6 (K : Nat) (a0 : List tM) (a1 : tA × Int × Int) (L6 : Int → Int → Option Int) (q7 : Int) (q8 : Int) : Option Int :=
  (bif (decide (q7 < q8)) then (bif (decide (0 ≤ (w ((w (q7 + q8)).tdiv (2 : Int)))) && decide ((w ((w (q7 + q8)).tdiv (2 : Int))) < (a0.length : Int))) then (f186G K ((((a0.getD ((0 : Int) + (w ((w (q7 + q8)).tdiv (2 : Int)))).toNat zM).1).1, (((a0.getD ((0 : Int) + (w ((w (q7 + q8)).tdiv (2 : Int)))).toNat zM).1).2).1, ((((a0.getD ((0 : Int) + (w ((w (q7 + q8)).tdiv (2 : Int)))).toNat zM).1).2).2)), ((a0.getD ((0 : Int) + (w ((w (q7 + q8)).tdiv (2 : Int)))).toNat zM).2)) a1).bind fun y9 => (bif y9 then L6 (w ((w ((w (q7 + q8)).tdiv (2 : Int))) + (1 : Int))) q8 else L6 q7 (w ((w (q7 + q8)).tdiv (2 : Int)))) else none) else some q7)
noncomputable def f222_l6 (K : Nat) (a0 : List tM) (a1 : tA × Int × Int) (n : Nat) (q7 : Int) (q8 : Int) : Option Int :=
  iter (X := Int × Int) (fun L x => (fun L6 => f222_b6 K a0 a1 L6 x.1 x.2) (fun v0 v1 => L (v0, v1))) n (q7, q8)
noncomputable def f222_fr6 (a0 : List tM) (a1 : tA × Int × Int) (q7 : Int) (q8 : Int) : Fr := ⟨27, [(0, .v false [.row 0]), (1, .v true [.int .i64 a1.1.1, .int .i64 a1.1.2.1, .int .i64 a1.1.2.2.1, .int .i64 a1.1.2.2.2, .int .i64 a1.2.1, .int .i64 a1.2.2]), (3, .v false [.box 0 0]), (4, .v false [.int .i64 (0 : Int)]), (5, .v false [.int .i64 q7]), (6, .v false [.int .i64 q8])], [some ⟨true, [.int .i64 a1.1.1, .int .i64 a1.1.2.1, .int .i64 a1.1.2.2.1, .int .i64 a1.1.2.2.2, .int .i64 a1.2.1, .int .i64 a1.2.2]⟩], [some ⟨91, sM, a0, .ro⟩]⟩
noncomputable def f222_k6 (K : Nat) (a0 : List tM) (a1 : tA × Int × Int) (lr : LR Int) : Ex → Fr → Option Int :=
  contC (f222E K) 1 lr f222C [1, 1, 0, 0] (finK (f222E K) Tryz.f222 [(.ro, (.list 91 sM)), (.ro, sM)] [sI] (a0, a1, ()))
noncomputable def f222_g (K : Nat) (a0 : List tM) (a1 : tA × Int × Int) (I6 : Int → Int → Option Int) : Option Int :=
  I6 (0 : Int) (a0.length : Int)
noncomputable def f222G (K : Nat) (a0 : List tM) (a1 : tA × Int × Int) : Option Int :=
  f222_g K a0 a1 (fun d0 d1 => f222_l6 K a0 a1 K d0 d1)
noncomputable def f222M (K : Nat) : Mdl := ⟨[(.ro, (.list 91 sM)), (.ro, sM)], [sI], fun x => f222G K x.1 x.2.1⟩
/-! spec.l06Has -/
noncomputable def f187E (K : Nat) : Env := ⟨[(222, f222M K)], tys, eqs, mts, K, [0, 1, 3, 4, 5], [], []⟩
noncomputable def f187G (K : Nat) (a0 : List tM) (a1 : tA × Int × Int) : Option Bool :=
  (f222G K a0 a1).bind fun y1 => (bif ((!(decide (y1 < (a0.length : Int)))) || true) then (bif ((!(decide (y1 < (a0.length : Int)))) || true) then (bif ((!(decide (y1 < (a0.length : Int)))) || (decide (0 ≤ y1) && decide (y1 < (a0.length : Int)))) then (bif ((!(decide (y1 < (a0.length : Int)))) || true) then (bif ((!(decide (y1 < (a0.length : Int)))) || true) then (bif ((!(decide (y1 < (a0.length : Int)))) || true) then some (bif (decide (y1 < (a0.length : Int))) then ((((a0.getD ((0 : Int) + y1).toNat zM).1).1 == a1.1.1) && (((((a0.getD ((0 : Int) + y1).toNat zM).1).2).1 == a1.1.2.1) && ((((((a0.getD ((0 : Int) + y1).toNat zM).1).2).2).1 == a1.1.2.2.1) && ((((((a0.getD ((0 : Int) + y1).toNat zM).1).2).2).2 == a1.1.2.2.2) && ((((a0.getD ((0 : Int) + y1).toNat zM).2).1 == a1.2.1) && (((a0.getD ((0 : Int) + y1).toNat zM).2).2 == a1.2.2)))))) else false) else none) else none) else none) else none) else none) else none)
noncomputable def f187M (K : Nat) : Mdl := ⟨[(.ro, (.list 91 sM)), (.ro, sM)], [.bool], fun x => f187G K x.1 x.2.1⟩
/-! spec.l02Multiply -/
noncomputable def f240E (K : Nat) : Env := ⟨[], tys, eqs, mts, K, [0, 1, 2, 3, 4], [], []⟩
noncomputable def f240G (K : Nat) (a0 : Int × Int × Int × Int) (a1 : Int × Int × Int × Int) : Option tA :=
  some ((w ((w (a0.1 * a1.1)) + (w (a0.2.1 * a1.2.2.1)))), (w ((w (a0.1 * a1.2.1)) + (w (a0.2.1 * a1.2.2.2)))), (w ((w (a0.2.2.1 * a1.1)) + (w (a0.2.2.2 * a1.2.2.1)))), (w ((w (a0.2.2.1 * a1.2.1)) + (w (a0.2.2.2 * a1.2.2.2)))))
noncomputable def f240M (K : Nat) : Mdl := ⟨[(.ro, sA), (.ro, sA)], [sA], fun x => f240G K x.1 x.2.1⟩
/-! spec.l05Compose -/
noncomputable def f189E (K : Nat) : Env := ⟨[(170, f170M K), (240, f240M K), (241, f241M K)], tys, eqs, mts, K, [0, 1, 2, 3, 4], [], []⟩
noncomputable def f189G (K : Nat) (a0 : tA × Int × Int) (a1 : tA × Int × Int) : Option tM :=
  (f240G K a0.1 a1.1).bind fun y1 => (f241G K a0.1 a1.2).bind fun y2 => (f170G K y2 a0.2).bind fun y3 => some (y1, y3)
noncomputable def f189M (K : Nat) : Mdl := ⟨[(.ro, sM), (.ro, sM)], [sM], fun x => f189G K x.1 x.2.1⟩
/-! spec.IsGroup -/
noncomputable def f128C : Code := codeOf Tryz.f128
noncomputable def f128E (K : Nat) : Env := ⟨[(133, f133M K), (184, f184M K), (185, f185M K), (186, f186M K), (187, f187M K), (188, f188M K), (189, f189M K)], tys, eqs, mts, K, [0, 1, 2, 4, 6, 7, 8, 9, 18, 22, 62, 66, 70, 76, 92], [], []⟩
noncomputable def f128_b25 (K : Nat) (a0 : Int) (a1 : Int × Int × Int) (a2 : List tM) (q7 : Int) (q24 : Int) (y1 : Int) (y12 : Bool) (L23 : Int → Option Bool) (L25 : Int → Option Bool) (q26 : Int) : Option Bool :=
  (bif (decide (q26 < (a2.length : Int))) then (bif (decide (0 ≤ q24) && decide (q24 < (a2.length : Int))) then (bif (decide (0 ≤ q26) && decide (q26 < (a2.length : Int))) then (f189G K ((((a2.getD ((0 : Int) + q24).toNat zM).1).1, (((a2.getD ((0 : Int) + q24).toNat zM).1).2).1, ((((a2.getD ((0 : Int) + q24).toNat zM).1).2).2)), ((a2.getD ((0 : Int) + q24).toNat zM).2)) ((((a2.getD ((0 : Int) + q26).toNat zM).1).1, (((a2.getD ((0 : Int) + q26).toNat zM).1).2).1, ((((a2.getD ((0 : Int) + q26).toNat zM).1).2).2)), ((a2.getD ((0 : Int) + q26).toNat zM).2))).bind fun y27 => (f185G K a1 y27).bind fun y28 => (f187G K a2 y28).bind fun y29 => (bif (!y29) then some false else L25 (w (q26 + (1 : Int)))) else none) else none) else L23 (w (q24 + (1 : Int))))
noncomputable def f128_l25 (K : Nat) (a0 : Int) (a1 : Int × Int × Int) (a2 : List tM) (q7 : Int) (q24 : Int) (y1 : Int) (y12 : Bool) (L23 : Int → Option Bool) (n : Nat) (q26 : Int) : Option Bool :=
  iter (X := Int) (fun L x => (fun L25 => f128_b25 K a0 a1 a2 q7 q24 y1 y12 L23 L25 x) (fun v0 => L v0)) n q26
noncomputable def f128_fr25 (a0 : Int) (a1 : Int × Int × Int) (a2 : List tM) (q7 : Int) (q24 : Int) (y1 : Int) (y12 : Bool) (q26 : Int) : Fr := ⟨93, [(0, .v false [.int .i64 a0]), (1, .v true [.int .i64 a1.1, .int .i64 a1.2.1, .int .i64 a1.2.2]), (2, .v false [.row 0]), (4, .v false [.box 0 0]), (6, .v false [.bool false]), (7, .v false [.int .i64 q7]), (8, .v false [.int .i64 q24]), (9, .v false [.int .i64 q26]), (18, .v false [.bool (bif (y1 != (0 : Int)) then true else (decide ((a2.length : Int) > (768 : Int))))]), (22, .v false [.bool (decide (q7 < (a2.length : Int)))]), (66, .v false [.bool (!y12)]), (70, .v false [.bool (decide (q24 < (a2.length : Int)))])], [some ⟨true, [.int .i64 a1.1, .int .i64 a1.2.1, .int .i64 a1.2.2]⟩], [some ⟨91, sM, a2, .ro⟩]⟩
noncomputable def f128_b23 (K : Nat) (a0 : Int) (a1 : Int × Int × Int) (a2 : List tM) (q7 : Int) (y1 : Int) (y12 : Bool) (I25 : Int → Int → Option Bool) (L23 : Int → Option Bool) (q24 : Int) : Option Bool :=
  (bif (decide (q24 < (a2.length : Int))) then I25 q24 (0 : Int) else some true)
noncomputable def f128_l23 (K : Nat) (a0 : Int) (a1 : Int × Int × Int) (a2 : List tM) (q7 : Int) (y1 : Int) (y12 : Bool) (n : Nat) (q24 : Int) : Option Bool :=
  iter (X := Int) (fun L x => (fun L23 => f128_b23 K a0 a1 a2 q7 y1 y12 (fun c0 d0 => f128_l25 K a0 a1 a2 q7 c0 y1 y12 L23 K d0) L23 x) (fun v0 => L v0)) n q24
noncomputable def f128_fr23 (a0 : Int) (a1 : Int × Int × Int) (a2 : List tM) (q7 : Int) (y1 : Int) (y12 : Bool) (q24 : Int) : Fr := ⟨93, [(0, .v false [.int .i64 a0]), (1, .v true [.int .i64 a1.1, .int .i64 a1.2.1, .int .i64 a1.2.2]), (2, .v false [.row 0]), (4, .v false [.box 0 0]), (6, .v false [.bool false]), (7, .v false [.int .i64 q7]), (8, .v false [.int .i64 q24]), (18, .v false [.bool (bif (y1 != (0 : Int)) then true else (decide ((a2.length : Int) > (768 : Int))))]), (22, .v false [.bool (decide (q7 < (a2.length : Int)))]), (66, .v false [.bool (!y12)])], [some ⟨true, [.int .i64 a1.1, .int .i64 a1.2.1, .int .i64 a1.2.2]⟩], [some ⟨91, sM, a2, .ro⟩]⟩
noncomputable def f128_b6 (K : Nat) (a0 : Int) (a1 : Int × Int × Int) (a2 : List tM) (y1 : Int) (I23 : Int → Int → Bool → Int → Option Bool) (L6 : Int → Option Bool) (q7 : Int) : Option Bool :=
  (bif (decide (q7 < (a2.length : Int))) then (bif (decide (0 ≤ q7) && decide (q7 < (a2.length : Int))) then (f184G K a0 a1 ((((a2.getD ((0 : Int) + q7).toNat zM).1).1, (((a2.getD ((0 : Int) + q7).toNat zM).1).2).1, ((((a2.getD ((0 : Int) + q7).toNat zM).1).2).2)), ((a2.getD ((0 : Int) + q7).toNat zM).2))).bind fun y8 => (bif ((!(!(!y8))) || true) then (bif ((!(!(!y8))) || true) then (bif ((!(!(!y8))) || true) then (bif ((!(!(!y8))) || (decide (0 ≤ q7) && decide (q7 < (a2.length : Int)))) then (bif ((!(!(!y8))) || true) then ((bif (!(!y8)) then f185G K a1 ((((a2.getD ((0 : Int) + q7).toNat zM).1).1, (((a2.getD ((0 : Int) + q7).toNat zM).1).2).1, ((((a2.getD ((0 : Int) + q7).toNat zM).1).2).2)), ((a2.getD ((0 : Int) + q7).toNat zM).2)) else some zM)).bind fun y9 => (bif ((!(!(!y8))) || true) then (bif ((!(!(!y8))) || true) then (bif ((!(!(!y8))) || (decide (0 ≤ q7) && decide (q7 < (a2.length : Int)))) then (bif ((!(!(!y8))) || true) then (bif ((!(!(!y8))) || true) then (bif ((!(!(bif (!y8) then true else (!((y9.1.1 == ((a2.getD ((0 : Int) + q7).toNat zM).1).1) && ((y9.1.2.1 == (((a2.getD ((0 : Int) + q7).toNat zM).1).2).1) && ((y9.1.2.2.1 == ((((a2.getD ((0 : Int) + q7).toNat zM).1).2).2).1) && ((y9.1.2.2.2 == ((((a2.getD ((0 : Int) + q7).toNat zM).1).2).2).2) && ((y9.2.1 == ((a2.getD ((0 : Int) + q7).toNat zM).2).1) && (y9.2.2 == ((a2.getD ((0 : Int) + q7).toNat zM).2).2)))))))))) || true) then (bif ((!(!(bif (!y8) then true else (!((y9.1.1 == ((a2.getD ((0 : Int) + q7).toNat zM).1).1) && ((y9.1.2.1 == (((a2.getD ((0 : Int) + q7).toNat zM).1).2).1) && ((y9.1.2.2.1 == ((((a2.getD ((0 : Int) + q7).toNat zM).1).2).2).1) && ((y9.1.2.2.2 == ((((a2.getD ((0 : Int) + q7).toNat zM).1).2).2).2) && ((y9.2.1 == ((a2.getD ((0 : Int) + q7).toNat zM).2).1) && (y9.2.2 == ((a2.getD ((0 : Int) + q7).toNat zM).2).2)))))))))) || true) then (bif ((!(!(bif (!y8) then true else (!((y9.1.1 == ((a2.getD ((0 : Int) + q7).toNat zM).1).1) && ((y9.1.2.1 == (((a2.getD ((0 : Int) + q7).toNat zM).1).2).1) && ((y9.1.2.2.1 == ((((a2.getD ((0 : Int) + q7).toNat zM).1).2).2).1) && ((y9.1.2.2.2 == ((((a2.getD ((0 : Int) + q7).toNat zM).1).2).2).2) && ((y9.2.1 == ((a2.getD ((0 : Int) + q7).toNat zM).2).1) && (y9.2.2 == ((a2.getD ((0 : Int) + q7).toNat zM).2).2)))))))))) || true) then (bif ((!((!(bif (!y8) then true else (!((y9.1.1 == ((a2.getD ((0 : Int) + q7).toNat zM).1).1) && ((y9.1.2.1 == (((a2.getD ((0 : Int) + q7).toNat zM).1).2).1) && ((y9.1.2.2.1 == ((((a2.getD ((0 : Int) + q7).toNat zM).1).2).2).1) && ((y9.1.2.2.2 == ((((a2.getD ((0 : Int) + q7).toNat zM).1).2).2).2) && ((y9.2.1 == ((a2.getD ((0 : Int) + q7).toNat zM).2).1) && (y9.2.2 == ((a2.getD ((0 : Int) + q7).toNat zM).2).2))))))))) && (decide (q7 > (0 : Int))))) || true) then (bif ((!((!(bif (!y8) then true else (!((y9.1.1 == ((a2.getD ((0 : Int) + q7).toNat zM).1).1) && ((y9.1.2.1 == (((a2.getD ((0 : Int) + q7).toNat zM).1).2).1) && ((y9.1.2.2.1 == ((((a2.getD ((0 : Int) + q7).toNat zM).1).2).2).1) && ((y9.1.2.2.2 == ((((a2.getD ((0 : Int) + q7).toNat zM).1).2).2).2) && ((y9.2.1 == ((a2.getD ((0 : Int) + q7).toNat zM).2).1) && (y9.2.2 == ((a2.getD ((0 : Int) + q7).toNat zM).2).2))))))))) && (decide (q7 > (0 : Int))))) || true) then (bif ((!((!(bif (!y8) then true else (!((y9.1.1 == ((a2.getD ((0 : Int) + q7).toNat zM).1).1) && ((y9.1.2.1 == (((a2.getD ((0 : Int) + q7).toNat zM).1).2).1) && ((y9.1.2.2.1 == ((((a2.getD ((0 : Int) + q7).toNat zM).1).2).2).1) && ((y9.1.2.2.2 == ((((a2.getD ((0 : Int) + q7).toNat zM).1).2).2).2) && ((y9.2.1 == ((a2.getD ((0 : Int) + q7).toNat zM).2).1) && (y9.2.2 == ((a2.getD ((0 : Int) + q7).toNat zM).2).2))))))))) && (decide (q7 > (0 : Int))))) || true) then (bif ((!((!(bif (!y8) then true else (!((y9.1.1 == ((a2.getD ((0 : Int) + q7).toNat zM).1).1) && ((y9.1.2.1 == (((a2.getD ((0 : Int) + q7).toNat zM).1).2).1) && ((y9.1.2.2.1 == ((((a2.getD ((0 : Int) + q7).toNat zM).1).2).2).1) && ((y9.1.2.2.2 == ((((a2.getD ((0 : Int) + q7).toNat zM).1).2).2).2) && ((y9.2.1 == ((a2.getD ((0 : Int) + q7).toNat zM).2).1) && (y9.2.2 == ((a2.getD ((0 : Int) + q7).toNat zM).2).2))))))))) && (decide (q7 > (0 : Int))))) || (decide (0 ≤ (w (q7 - (1 : Int)))) && decide ((w (q7 - (1 : Int))) < (a2.length : Int)))) then (bif ((!((!(bif (!y8) then true else (!((y9.1.1 == ((a2.getD ((0 : Int) + q7).toNat zM).1).1) && ((y9.1.2.1 == (((a2.getD ((0 : Int) + q7).toNat zM).1).2).1) && ((y9.1.2.2.1 == ((((a2.getD ((0 : Int) + q7).toNat zM).1).2).2).1) && ((y9.1.2.2.2 == ((((a2.getD ((0 : Int) + q7).toNat zM).1).2).2).2) && ((y9.2.1 == ((a2.getD ((0 : Int) + q7).toNat zM).2).1) && (y9.2.2 == ((a2.getD ((0 : Int) + q7).toNat zM).2).2))))))))) && (decide (q7 > (0 : Int))))) || true) then (bif ((!((!(bif (!y8) then true else (!((y9.1.1 == ((a2.getD ((0 : Int) + q7).toNat zM).1).1) && ((y9.1.2.1 == (((a2.getD ((0 : Int) + q7).toNat zM).1).2).1) && ((y9.1.2.2.1 == ((((a2.getD ((0 : Int) + q7).toNat zM).1).2).2).1) && ((y9.1.2.2.2 == ((((a2.getD ((0 : Int) + q7).toNat zM).1).2).2).2) && ((y9.2.1 == ((a2.getD ((0 : Int) + q7).toNat zM).2).1) && (y9.2.2 == ((a2.getD ((0 : Int) + q7).toNat zM).2).2))))))))) && (decide (q7 > (0 : Int))))) || true) then (bif ((!((!(bif (!y8) then true else (!((y9.1.1 == ((a2.getD ((0 : Int) + q7).toNat zM).1).1) && ((y9.1.2.1 == (((a2.getD ((0 : Int) + q7).toNat zM).1).2).1) && ((y9.1.2.2.1 == ((((a2.getD ((0 : Int) + q7).toNat zM).1).2).2).1) && ((y9.1.2.2.2 == ((((a2.getD ((0 : Int) + q7).toNat zM).1).2).2).2) && ((y9.2.1 == ((a2.getD ((0 : Int) + q7).toNat zM).2).1) && (y9.2.2 == ((a2.getD ((0 : Int) + q7).toNat zM).2).2))))))))) && (decide (q7 > (0 : Int))))) || true) then (bif ((!((!(bif (!y8) then true else (!((y9.1.1 == ((a2.getD ((0 : Int) + q7).toNat zM).1).1) && ((y9.1.2.1 == (((a2.getD ((0 : Int) + q7).toNat zM).1).2).1) && ((y9.1.2.2.1 == ((((a2.getD ((0 : Int) + q7).toNat zM).1).2).2).1) && ((y9.1.2.2.2 == ((((a2.getD ((0 : Int) + q7).toNat zM).1).2).2).2) && ((y9.2.1 == ((a2.getD ((0 : Int) + q7).toNat zM).2).1) && (y9.2.2 == ((a2.getD ((0 : Int) + q7).toNat zM).2).2))))))))) && (decide (q7 > (0 : Int))))) || (decide (0 ≤ q7) && decide (q7 < (a2.length : Int)))) then (bif ((!((!(bif (!y8) then true else (!((y9.1.1 == ((a2.getD ((0 : Int) + q7).toNat zM).1).1) && ((y9.1.2.1 == (((a2.getD ((0 : Int) + q7).toNat zM).1).2).1) && ((y9.1.2.2.1 == ((((a2.getD ((0 : Int) + q7).toNat zM).1).2).2).1) && ((y9.1.2.2.2 == ((((a2.getD ((0 : Int) + q7).toNat zM).1).2).2).2) && ((y9.2.1 == ((a2.getD ((0 : Int) + q7).toNat zM).2).1) && (y9.2.2 == ((a2.getD ((0 : Int) + q7).toNat zM).2).2))))))))) && (decide (q7 > (0 : Int))))) || true) then ((bif ((!(bif (!y8) then true else (!((y9.1.1 == ((a2.getD ((0 : Int) + q7).toNat zM).1).1) && ((y9.1.2.1 == (((a2.getD ((0 : Int) + q7).toNat zM).1).2).1) && ((y9.1.2.2.1 == ((((a2.getD ((0 : Int) + q7).toNat zM).1).2).2).1) && ((y9.1.2.2.2 == ((((a2.getD ((0 : Int) + q7).toNat zM).1).2).2).2) && ((y9.2.1 == ((a2.getD ((0 : Int) + q7).toNat zM).2).1) && (y9.2.2 == ((a2.getD ((0 : Int) + q7).toNat zM).2).2))))))))) && (decide (q7 > (0 : Int)))) then f186G K ((((a2.getD ((0 : Int) + (w (q7 - (1 : Int)))).toNat zM).1).1, (((a2.getD ((0 : Int) + (w (q7 - (1 : Int)))).toNat zM).1).2).1, ((((a2.getD ((0 : Int) + (w (q7 - (1 : Int)))).toNat zM).1).2).2)), ((a2.getD ((0 : Int) + (w (q7 - (1 : Int)))).toNat zM).2)) ((((a2.getD ((0 : Int) + q7).toNat zM).1).1, (((a2.getD ((0 : Int) + q7).toNat zM).1).2).1, ((((a2.getD ((0 : Int) + q7).toNat zM).1).2).2)), ((a2.getD ((0 : Int) + q7).toNat zM).2)) else some false)).bind fun y10 => (bif ((!((!(bif (!y8) then true else (!((y9.1.1 == ((a2.getD ((0 : Int) + q7).toNat zM).1).1) && ((y9.1.2.1 == (((a2.getD ((0 : Int) + q7).toNat zM).1).2).1) && ((y9.1.2.2.1 == ((((a2.getD ((0 : Int) + q7).toNat zM).1).2).2).1) && ((y9.1.2.2.2 == ((((a2.getD ((0 : Int) + q7).toNat zM).1).2).2).2) && ((y9.2.1 == ((a2.getD ((0 : Int) + q7).toNat zM).2).1) && (y9.2.2 == ((a2.getD ((0 : Int) + q7).toNat zM).2).2))))))))) && (decide (q7 > (0 : Int))))) || true) then (bif ((!(!(bif (!y8) then true else (!((y9.1.1 == ((a2.getD ((0 : Int) + q7).toNat zM).1).1) && ((y9.1.2.1 == (((a2.getD ((0 : Int) + q7).toNat zM).1).2).1) && ((y9.1.2.2.1 == ((((a2.getD ((0 : Int) + q7).toNat zM).1).2).2).1) && ((y9.1.2.2.2 == ((((a2.getD ((0 : Int) + q7).toNat zM).1).2).2).2) && ((y9.2.1 == ((a2.getD ((0 : Int) + q7).toNat zM).2).1) && (y9.2.2 == ((a2.getD ((0 : Int) + q7).toNat zM).2).2)))))))))) || true) then (bif (bif (bif (!y8) then true else (!((y9.1.1 == ((a2.getD ((0 : Int) + q7).toNat zM).1).1) && ((y9.1.2.1 == (((a2.getD ((0 : Int) + q7).toNat zM).1).2).1) && ((y9.1.2.2.1 == ((((a2.getD ((0 : Int) + q7).toNat zM).1).2).2).1) && ((y9.1.2.2.2 == ((((a2.getD ((0 : Int) + q7).toNat zM).1).2).2).2) && ((y9.2.1 == ((a2.getD ((0 : Int) + q7).toNat zM).2).1) && (y9.2.2 == ((a2.getD ((0 : Int) + q7).toNat zM).2).2)))))))) then true else (bif (decide (q7 > (0 : Int))) then (!y10) else false)) then some false else L6 (w (q7 + (1 : Int)))) else none) else none) else none) else none) else none) else none) else none) else none) else none) else none) else none) else none) else none) else none) else none) else none) else none) else none) else none) else none) else none) else none) else none) else none) else none) else (f188G K).bind fun y11 => (f187G K a2 y11).bind fun y12 => (bif (!y12) then some false else I23 q7 y1 y12 (0 : Int)))
noncomputable def f128_l6 (K : Nat) (a0 : Int) (a1 : Int × Int × Int) (a2 : List tM) (y1 : Int) (n : Nat) (q7 : Int) : Option Bool :=
  iter (X := Int) (fun L x => (fun L6 => f128_b6 K a0 a1 a2 y1 (fun c0 c1 c2 d0 => f128_l23 K a0 a1 a2 c0 c1 c2 K d0) L6 x) (fun v0 => L v0)) n q7
noncomputable def f128_fr6 (a0 : Int) (a1 : Int × Int × Int) (a2 : List tM) (y1 : Int) (q7 : Int) : Fr := ⟨93, [(0, .v false [.int .i64 a0]), (1, .v true [.int .i64 a1.1, .int .i64 a1.2.1, .int .i64 a1.2.2]), (2, .v false [.row 0]), (4, .v false [.box 0 0]), (6, .v false [.bool false]), (7, .v false [.int .i64 q7]), (18, .v false [.bool (bif (y1 != (0 : Int)) then true else (decide ((a2.length : Int) > (768 : Int))))])], [some ⟨true, [.int .i64 a1.1, .int .i64 a1.2.1, .int .i64 a1.2.2]⟩], [some ⟨91, sM, a2, .ro⟩]⟩
noncomputable def f128_k6 (K : Nat) (a0 : Int) (a1 : Int × Int × Int) (a2 : List tM) (lr : LR Bool) : Ex → Fr → Option Bool :=
  contC (f128E K) 1 lr f128C [1, 1, 0, 1, 0] (finK (f128E K) Tryz.f128 [(.ro, sI), (.ro, sL), (.ro, (.list 91 sM))] [.bool] (a0, a1, a2, ()))
noncomputable def f128_k23 (K : Nat) (a0 : Int) (a1 : Int × Int × Int) (a2 : List tM) (lr : LR Bool) : Ex → Fr → Option Bool :=
  contC (f128E K) 1 lr f128C [1, 1, 1, 1, 0, 1, 0] (finK (f128E K) Tryz.f128 [(.ro, sI), (.ro, sL), (.ro, (.list 91 sM))] [.bool] (a0, a1, a2, ()))
noncomputable def f128_k25 (K : Nat) (a0 : Int) (a1 : Int × Int × Int) (a2 : List tM) (q7 : Int) (y1 : Int) (y12 : Bool) (F23 : Fr → Option Bool) (bq24 : Int) (lr : LR Bool) : Ex → Fr → Option Bool :=
  contC (f128E K) 1 lr (selC f128C [1, 1, 1, 1, 0, 1, 0, 0]) [1, 0, 0, 1, 0] (loopK 1 (f128_fr23 a0 a1 a2 q7 y1 y12 bq24) F23 (f128_k23 K a0 a1 a2 lr))
noncomputable def f128_g (K : Nat) (a0 : Int) (a1 : Int × Int × Int) (a2 : List tM) (I6 : Int → Int → Option Bool) : Option Bool :=
  (f133G K a0 a1).bind fun y1 => (bif ((!(!(y1 != (0 : Int)))) || true) then (bif ((!(!(y1 != (0 : Int)))) || true) then (bif ((!(!(y1 != (0 : Int)))) || true) then (bif (bif (y1 != (0 : Int)) then true else (decide ((a2.length : Int) > (768 : Int)))) then some false else I6 y1 (0 : Int)) else none) else none) else none)
noncomputable def f128G (K : Nat) (a0 : Int) (a1 : Int × Int × Int) (a2 : List tM) : Option Bool :=
  f128_g K a0 a1 a2 (fun c0 d0 => f128_l6 K a0 a1 a2 c0 K d0)
noncomputable def f128M (K : Nat) : Mdl := ⟨[(.ro, sI), (.ro, sL), (.ro, (.list 91 sM))], [.bool], fun x => f128G K x.1 x.2.1 x.2.2.1⟩
/-! spec.l06Code -/
noncomputable def f127E (K : Nat) : Env := ⟨[(133, f133M K)], tys, eqs, mts, K, [0, 1, 2, 4, 6, 7, 16], [], []⟩
noncomputable def f127G (K : Nat) (a0 : Int) (a1 : Int × Int × Int) (a2 : Bool) : Option Int :=
  (f133G K a0 a1).bind fun y1 => (bif ((!(y1 == (0 : Int))) || true) then (bif ((!(y1 == (0 : Int))) || true) then (bif (bif (y1 == (0 : Int)) then (!a2) else false) then some (2 : Int) else some y1) else none) else none)
noncomputable def f127M (K : Nat) : Mdl := ⟨[(.ro, sI), (.ro, sL), (.ro, .bool)], [sI], fun x => f127G K x.1 x.2.1 x.2.2.1⟩
/-! spec.l07Code -/
noncomputable def f58E (K : Nat) : Env := ⟨[(127, f127M K), (128, f128M K)], tys, eqs, mts, K, [0, 1, 2, 3, 5, 8], [], []⟩
noncomputable def f58G (K : Nat) (a0 : Int) (a1 : Int × Int × Int) (a2 : List tM) (a3 : Bool) : Option Int :=
  (bif ((!a3) || true) then (bif ((!a3) || true) then (bif ((!a3) || true) then ((bif a3 then f128G K a0 a1 a2 else some false)).bind fun y1 => (f127G K a0 a1 (bif a3 then y1 else false)).bind fun y2 => some y2 else none) else none) else none)
noncomputable def f58M (K : Nat) : Mdl := ⟨[(.ro, sI), (.ro, sL), (.ro, (.list 91 sM)), (.ro, .bool)], [sI], fun x => f58G K x.1 x.2.1 x.2.2.1 x.2.2.2.1⟩
/-! spec.l03Cells -/
noncomputable def f129C : Code := codeOf Tryz.f129
noncomputable def f129E (K : Nat) : Env := ⟨[], tys, eqs, mts, K, [0, 1, 2, 3, 4, 5, 10, 16], [], []⟩
noncomputable def f129_b9 (K : Nat) (a0 : Int × Int × Int) (q7 : Int) (L6 : Int → (List tV) → Option (List tV)) (L9 : Int → (List tV) → Option (List tV)) (q10 : Int) (q11 : List tV) : Option (List tV) :=
  (bif (decide (q10 < a0.2.2)) then (bif (Nat.ble (q11.length + [(q7, q10)].length) (lim 16)) then L9 (w (q10 + (1 : Int))) (q11 ++ [(q7, q10)]) else none) else L6 (w (q7 + (1 : Int))) q11)
noncomputable def f129_l9 (K : Nat) (a0 : Int × Int × Int) (q7 : Int) (L6 : Int → (List tV) → Option (List tV)) (n : Nat) (q10 : Int) (q11 : List tV) : Option (List tV) :=
  iter (X := Int × List tV) (fun L x => (fun L9 => f129_b9 K a0 q7 L6 L9 x.1 x.2) (fun v0 v1 => L (v0, v1))) n (q10, q11)
noncomputable def f129_fr9 (a0 : Int × Int × Int) (q7 : Int) (q10 : Int) (q11 : List tV) : Fr := ⟨26, [(0, .v true [.int .i64 a0.1, .int .i64 a0.2.1, .int .i64 a0.2.2]), (1, .v false [.box 0 0]), (2, .v false [.row 0]), (3, .v false [.row 1]), (4, .v false [.int .i64 q7]), (5, .v false [.int .i64 q10]), (10, .v false [.bool (decide (q7 < a0.1))])], [some ⟨true, [.int .i64 a0.1, .int .i64 a0.2.1, .int .i64 a0.2.2]⟩], [some ⟨53, sV, [], .own⟩, some ⟨53, sV, q11, .own⟩]⟩
noncomputable def f129_b6 (K : Nat) (a0 : Int × Int × Int) (I9 : Int → Int → (List tV) → Option (List tV)) (L6 : Int → (List tV) → Option (List tV)) (q7 : Int) (q8 : List tV) : Option (List tV) :=
  (bif (decide (q7 < a0.1)) then I9 q7 (0 : Int) q8 else some q8)
noncomputable def f129_l6 (K : Nat) (a0 : Int × Int × Int) (n : Nat) (q7 : Int) (q8 : List tV) : Option (List tV) :=
  iter (X := Int × List tV) (fun L x => (fun L6 => f129_b6 K a0 (fun c0 d0 d1 => f129_l9 K a0 c0 L6 K d0 d1) L6 x.1 x.2) (fun v0 v1 => L (v0, v1))) n (q7, q8)
noncomputable def f129_fr6 (a0 : Int × Int × Int) (q7 : Int) (q8 : List tV) : Fr := ⟨26, [(0, .v true [.int .i64 a0.1, .int .i64 a0.2.1, .int .i64 a0.2.2]), (1, .v false [.box 0 0]), (2, .v false [.row 0]), (3, .v false [.row 1]), (4, .v false [.int .i64 q7])], [some ⟨true, [.int .i64 a0.1, .int .i64 a0.2.1, .int .i64 a0.2.2]⟩], [some ⟨53, sV, [], .own⟩, some ⟨53, sV, q8, .own⟩]⟩
noncomputable def f129_k6 (K : Nat) (a0 : Int × Int × Int) (lr : LR (List tV)) : Ex → Fr → Option (List tV) :=
  contC (f129E K) 0 lr f129C [1, 1, 0, 1, 0] (finK (f129E K) Tryz.f129 [(.ro, sL)] [(.list 53 sV)] (a0, ()))
noncomputable def f129_k9 (K : Nat) (a0 : Int × Int × Int) (F6 : Fr → Option (List tV)) (bq7 : Int) (bq8 : List tV) (lr : LR (List tV)) : Ex → Fr → Option (List tV) :=
  contC (f129E K) 0 lr (selC f129C [1, 1, 0, 1, 0, 0]) [1, 0, 0, 1, 0] (loopK 0 (f129_fr6 a0 bq7 bq8) F6 (f129_k6 K a0 lr))
noncomputable def f129_g (K : Nat) (a0 : Int × Int × Int) (I6 : Int → (List tV) → Option (List tV)) : Option (List tV) :=
  I6 (0 : Int) []
noncomputable def f129G (K : Nat) (a0 : Int × Int × Int) : Option (List tV) :=
  f129_g K a0 (fun d0 d1 => f129_l6 K a0 K d0 d1)
noncomputable def f129M (K : Nat) : Mdl := ⟨[(.ro, sL)], [(.list 53 sV)], fun x => f129G K x.1⟩
/-! spec.l05Apply -/
noncomputable def f197E (K : Nat) : Env := ⟨[(170, f170M K), (241, f241M K)], tys, eqs, mts, K, [0, 1, 2, 3, 4], [], []⟩
noncomputable def f197G (K : Nat) (a0 : tA × Int × Int) (a1 : Int × Int) : Option tV :=
  (f241G K a0.1 a1).bind fun y1 => (f170G K y1 a0.2).bind fun y2 => some y2
noncomputable def f197M (K : Nat) : Mdl := ⟨[(.ro, sM), (.ro, sV)], [sV], fun x => f197G K x.1 x.2.1⟩
/-! spec.l07Move -/
noncomputable def f147E (K : Nat) : Env := ⟨[(114, f114M K), (197, f197M K)], tys, eqs, mts, K, [0, 1, 2, 3, 4, 5, 6], [], []⟩
noncomputable def f147G (K : Nat) (a0 : Int × Int × Int) (a1 : tA × Int × Int) (a2 : Int × Int) : Option tV :=
  (f197G K a1 a2).bind fun y1 => (f114G K a0 y1).bind fun y2 => some y2
noncomputable def f147M (K : Nat) : Mdl := ⟨[(.ro, sL), (.ro, sM), (.ro, sV)], [sV], fun x => f147G K x.1 x.2.1 x.2.2.1⟩
/-! spec.l01Insert -/
noncomputable def f100C : Code := codeOf Tryz.f100
noncomputable def f100E (K : Nat) : Env := ⟨[(171, f171M K)], tys, eqs, mts, K, [0, 1, 3, 4, 5, 17, 31], [], []⟩
noncomputable def f100_b3 (K : Nat) (a0 : List tV) (a1 : Int × Int) (L3 : Int → Option (List tV)) (q4 : Int) : Option (List tV) :=
  (bif ((!(decide (q4 < (a0.length : Int)))) || true) then (bif ((!(decide (q4 < (a0.length : Int)))) || true) then (bif ((!(decide (q4 < (a0.length : Int)))) || (decide (0 ≤ q4) && decide (q4 < (a0.length : Int)))) then (bif ((!(decide (q4 < (a0.length : Int)))) || true) then (bif ((!(decide (q4 < (a0.length : Int)))) || true) then ((bif (decide (q4 < (a0.length : Int))) then f171G K (a0.getD ((0 : Int) + q4).toNat ((0 : Int), (0 : Int))) a1 else some false)).bind fun y5 => (bif (bif (decide (q4 < (a0.length : Int))) then y5 else false) then L3 (w (q4 + (1 : Int))) else (bif ((!(decide (q4 < (a0.length : Int)))) || true) then (bif ((!(decide (q4 < (a0.length : Int)))) || true) then (bif ((!(decide (q4 < (a0.length : Int)))) || (decide (0 ≤ q4) && decide (q4 < (a0.length : Int)))) then (bif ((!(decide (q4 < (a0.length : Int)))) || true) then (bif ((!(decide (q4 < (a0.length : Int)))) || true) then (bif ((!(decide (q4 < (a0.length : Int)))) || true) then (bif (bif (decide (q4 < (a0.length : Int))) then (((a0.getD ((0 : Int) + q4).toNat ((0 : Int), (0 : Int))).1 == a1.1) && ((a0.getD ((0 : Int) + q4).toNat ((0 : Int), (0 : Int))).2 == a1.2)) else false) then some a0 else (bif (decide (0 ≤ (0 : Int)) && decide ((0 : Int) ≤ q4) && decide (q4 ≤ (a0.length : Int))) then (bif (Nat.ble (0 + ((a0.take ((0 : Int) + q4).toNat).drop 0).length) (lim 16)) then (bif (Nat.ble (([] ++ ((a0.take ((0 : Int) + q4).toNat).drop 0)).length + [a1].length) (lim 16)) then (bif (decide (0 ≤ q4) && decide (q4 ≤ (a0.length : Int)) && decide ((a0.length : Int) ≤ (a0.length : Int))) then (bif (Nat.ble ((([] ++ ((a0.take ((0 : Int) + q4).toNat).drop 0)) ++ [a1]).length + ((a0.take ((0 : Int) + (a0.length : Int)).toNat).drop ((0 : Int) + q4).toNat).length) (lim 16)) then some ((([] ++ ((a0.take ((0 : Int) + q4).toNat).drop 0)) ++ [a1]) ++ ((a0.take ((0 : Int) + (a0.length : Int)).toNat).drop ((0 : Int) + q4).toNat)) else none) else none) else none) else none) else none)) else none) else none) else none) else none) else none) else none)) else none) else none) else none) else none) else none)
noncomputable def f100_l3 (K : Nat) (a0 : List tV) (a1 : Int × Int) (n : Nat) (q4 : Int) : Option (List tV) :=
  iter (X := Int) (fun L x => (fun L3 => f100_b3 K a0 a1 L3 x) (fun v0 => L v0)) n q4
noncomputable def f100_fr3 (a0 : List tV) (a1 : Int × Int) (q4 : Int) : Fr := ⟨45, [(0, .v false [.row 0]), (1, .v true [.int .i64 a1.1, .int .i64 a1.2]), (3, .v false [.box 0 0]), (4, .v false [.row 1]), (5, .v false [.int .i64 q4])], [some ⟨true, [.int .i64 a1.1, .int .i64 a1.2]⟩], [some ⟨53, sV, a0, .own⟩, some ⟨53, sV, [], .own⟩]⟩
noncomputable def f100_k3 (K : Nat) (a0 : List tV) (a1 : Int × Int) (lr : LR (List tV)) : Ex → Fr → Option (List tV) :=
  contC (f100E K) 1 lr f100C [1, 1, 0, 0] (finK (f100E K) Tryz.f100 [(.mv, (.list 53 sV)), (.ro, sV)] [(.list 53 sV)] (a0, a1, ()))
noncomputable def f100_g (K : Nat) (a0 : List tV) (a1 : Int × Int) (I3 : Int → Option (List tV)) : Option (List tV) :=
  I3 (0 : Int)
noncomputable def f100G (K : Nat) (a0 : List tV) (a1 : Int × Int) : Option (List tV) :=
  f100_g K a0 a1 (fun d0 => f100_l3 K a0 a1 K d0)
noncomputable def f100M (K : Nat) : Mdl := ⟨[(.mv, (.list 53 sV)), (.ro, sV)], [(.list 53 sV)], fun x => f100G K x.1 x.2.1⟩
/-! spec.l07Orbit -/
noncomputable def f77C : Code := codeOf Tryz.f77
noncomputable def f77E (K : Nat) : Env := ⟨[(100, f100M K), (147, f147M K)], tys, eqs, mts, K, [0, 1, 2, 3, 5, 6, 7, 8, 13], [], []⟩
noncomputable def f77_b4 (K : Nat) (a0 : Int × Int × Int) (a1 : List tM) (a2 : Int × Int) (L4 : Int → (List tV) → Option (List tV)) (q5 : Int) (q6 : List tV) : Option (List tV) :=
  (bif (decide (q5 < (a1.length : Int))) then (bif (decide (0 ≤ q5) && decide (q5 < (a1.length : Int))) then (f147G K a0 ((((a1.getD ((0 : Int) + q5).toNat zM).1).1, (((a1.getD ((0 : Int) + q5).toNat zM).1).2).1, ((((a1.getD ((0 : Int) + q5).toNat zM).1).2).2)), ((a1.getD ((0 : Int) + q5).toNat zM).2)) a2).bind fun y7 => (f100G K q6 y7).bind fun y8 => L4 (w (q5 + (1 : Int))) y8 else none) else some q6)
noncomputable def f77_l4 (K : Nat) (a0 : Int × Int × Int) (a1 : List tM) (a2 : Int × Int) (n : Nat) (q5 : Int) (q6 : List tV) : Option (List tV) :=
  iter (X := Int × List tV) (fun L x => (fun L4 => f77_b4 K a0 a1 a2 L4 x.1 x.2) (fun v0 v1 => L (v0, v1))) n (q5, q6)
noncomputable def f77_fr4 (a0 : Int × Int × Int) (a1 : List tM) (a2 : Int × Int) (q5 : Int) (q6 : List tV) : Fr := ⟨26, [(0, .v true [.int .i64 a0.1, .int .i64 a0.2.1, .int .i64 a0.2.2]), (1, .v false [.row 0]), (2, .v true [.int .i64 a2.1, .int .i64 a2.2]), (3, .v false [.box 0 0]), (5, .v false [.box 1 0]), (6, .v false [.row 1]), (7, .v false [.row 2]), (8, .v false [.int .i64 q5])], [some ⟨true, [.int .i64 a0.1, .int .i64 a0.2.1, .int .i64 a0.2.2]⟩, some ⟨true, [.int .i64 a2.1, .int .i64 a2.2]⟩], [some ⟨91, sM, a1, .ro⟩, some ⟨53, sV, [], .own⟩, some ⟨53, sV, q6, .own⟩]⟩
noncomputable def f77_k4 (K : Nat) (a0 : Int × Int × Int) (a1 : List tM) (a2 : Int × Int) (lr : LR (List tV)) : Ex → Fr → Option (List tV) :=
  contC (f77E K) 1 lr f77C [1, 1, 0, 1, 0] (finK (f77E K) Tryz.f77 [(.ro, sL), (.ro, (.list 91 sM)), (.ro, sV)] [(.list 53 sV)] (a0, a1, a2, ()))
noncomputable def f77_g (K : Nat) (a0 : Int × Int × Int) (a1 : List tM) (a2 : Int × Int) (I4 : Int → (List tV) → Option (List tV)) : Option (List tV) :=
  I4 (0 : Int) []
noncomputable def f77G (K : Nat) (a0 : Int × Int × Int) (a1 : List tM) (a2 : Int × Int) : Option (List tV) :=
  f77_g K a0 a1 a2 (fun d0 d1 => f77_l4 K a0 a1 a2 K d0 d1)
noncomputable def f77M (K : Nat) : Mdl := ⟨[(.ro, sL), (.ro, (.list 91 sM)), (.ro, sV)], [(.list 53 sV)], fun x => f77G K x.1 x.2.1 x.2.2.1⟩
/-! spec.l07Orbits -/
noncomputable def f60C : Code := codeOf Tryz.f60
noncomputable def f60E (K : Nat) : Env := ⟨[(77, f77M K), (129, f129M K)], tys, eqs, mts, K, [0, 1, 2, 4, 5, 6, 7, 8, 15, 32], [], []⟩
noncomputable def f60_b4 (K : Nat) (a0 : Int × Int × Int) (a1 : List tM) (y1 : List tV) (L4 : Int → (List (List tV)) → Option (List (List tV))) (q5 : Int) (q6 : List (List tV)) : Option (List (List tV)) :=
  (bif (decide (q5 < (y1.length : Int))) then (bif (decide (0 ≤ q5) && decide (q5 < (y1.length : Int))) then (f77G K a0 a1 (y1.getD ((0 : Int) + q5).toNat ((0 : Int), (0 : Int)))).bind fun y7 => (bif (decide (0 ≤ (0 : Int)) && decide ((0 : Int) < (y7.length : Int))) then (bif (decide (0 ≤ q5) && decide (q5 < (y1.length : Int))) then (bif (((y7.getD ((0 : Int) + (0 : Int)).toNat ((0 : Int), (0 : Int))).1 == (y1.getD ((0 : Int) + q5).toNat ((0 : Int), (0 : Int))).1) && ((y7.getD ((0 : Int) + (0 : Int)).toNat ((0 : Int), (0 : Int))).2 == (y1.getD ((0 : Int) + q5).toNat ((0 : Int), (0 : Int))).2)) then (bif (Nat.ble (q6.length + [y7].length) (lim 24)) then L4 (w (q5 + (1 : Int))) (q6 ++ [y7]) else none) else L4 (w (q5 + (1 : Int))) q6) else none) else none) else none) else some q6)
noncomputable def f60_l4 (K : Nat) (a0 : Int × Int × Int) (a1 : List tM) (y1 : List tV) (n : Nat) (q5 : Int) (q6 : List (List tV)) : Option (List (List tV)) :=
  iter (X := Int × List (List tV)) (fun L x => (fun L4 => f60_b4 K a0 a1 y1 L4 x.1 x.2) (fun v0 v1 => L (v0, v1))) n (q5, q6)
noncomputable def f60_fr4 (a0 : Int × Int × Int) (a1 : List tM) (y1 : List tV) (q5 : Int) (q6 : List (List tV)) : Fr := ⟨38, [(0, .v true [.int .i64 a0.1, .int .i64 a0.2.1, .int .i64 a0.2.2]), (1, .v false [.row 0]), (2, .v false [.box 0 0]), (4, .v false [.row 1]), (5, .v false [.row 2]), (6, .v false [.row 3]), (7, .v false [.int .i64 q5])], [some ⟨true, [.int .i64 a0.1, .int .i64 a0.2.1, .int .i64 a0.2.2]⟩], [some ⟨91, sM, a1, .ro⟩, some ⟨72, (.list 53 sV), [], .own⟩, some ⟨53, sV, y1, .own⟩, some ⟨72, (.list 53 sV), q6, .own⟩]⟩
noncomputable def f60_k4 (K : Nat) (a0 : Int × Int × Int) (a1 : List tM) (lr : LR (List (List tV))) : Ex → Fr → Option (List (List tV)) :=
  contC (f60E K) 1 lr f60C [1, 1, 1, 0, 1, 0] (finK (f60E K) Tryz.f60 [(.ro, sL), (.ro, (.list 91 sM))] [(.list 72 (.list 53 sV))] (a0, a1, ()))
noncomputable def f60_g (K : Nat) (a0 : Int × Int × Int) (a1 : List tM) (I4 : (List tV) → Int → (List (List tV)) → Option (List (List tV))) : Option (List (List tV)) :=
  (f129G K a0).bind fun y1 => I4 y1 (0 : Int) []
noncomputable def f60G (K : Nat) (a0 : Int × Int × Int) (a1 : List tM) : Option (List (List tV)) :=
  f60_g K a0 a1 (fun c0 d0 d1 => f60_l4 K a0 a1 c0 K d0 d1)
noncomputable def f60M (K : Nat) : Mdl := ⟨[(.ro, sL), (.ro, (.list 91 sM))], [(.list 72 (.list 53 sV))], fun x => f60G K x.1 x.2.1⟩
/-! spec.l23Free -/
noncomputable def f98C : Code := codeOf Tryz.f98
noncomputable def f98E (K : Nat) : Env := ⟨[(58, f58M K), (60, f60M K)], tys, eqs, mts, K, [0, 1, 2, 4, 6, 7, 8, 9, 10, 16, 24, 34, 37], [], []⟩
noncomputable def f98_b4 (K : Nat) (a0 : Int) (a1 : Int × Int × Int) (a2 : List tM) (y1 : Int) (y2 : List (List tV)) (L4 : Int → Option ((List (List tV)) × Int)) (q5 : Int) : Option ((List (List tV)) × Int) :=
  (bif (decide (q5 < (y2.length : Int))) then (bif (decide (0 ≤ q5) && decide (q5 < (y2.length : Int))) then (bif (decide (((y2.getD ((0 : Int) + q5).toNat []).length : Int) < (a2.length : Int))) then some ([], (5 : Int)) else L4 (w (q5 + (1 : Int)))) else none) else (bif (decide ((y2.length : Int) > (16 : Int))) then some ([], (4 : Int)) else some (y2, (0 : Int))))
noncomputable def f98_l4 (K : Nat) (a0 : Int) (a1 : Int × Int × Int) (a2 : List tM) (y1 : Int) (y2 : List (List tV)) (n : Nat) (q5 : Int) : Option ((List (List tV)) × Int) :=
  iter (X := Int) (fun L x => (fun L4 => f98_b4 K a0 a1 a2 y1 y2 L4 x) (fun v0 => L v0)) n q5
noncomputable def f98_fr4 (a0 : Int) (a1 : Int × Int × Int) (a2 : List tM) (y1 : Int) (y2 : List (List tV)) (q5 : Int) : Fr := ⟨39, [(0, .v false [.int .i64 a0]), (1, .v true [.int .i64 a1.1, .int .i64 a1.2.1, .int .i64 a1.2.2]), (2, .v false [.row 0]), (4, .v false [.box 0 0]), (6, .v false [.row 1]), (7, .v false [.int .i64 (0 : Int)]), (8, .v false [.int .i64 y1]), (9, .v false [.row 2]), (10, .v false [.int .i64 q5]), (16, .v false [.bool (y1 != (0 : Int))])], [some ⟨true, [.int .i64 a1.1, .int .i64 a1.2.1, .int .i64 a1.2.2]⟩], [some ⟨91, sM, a2, .ro⟩, some ⟨72, (.list 53 sV), [], .own⟩, some ⟨72, (.list 53 sV), y2, .own⟩]⟩
noncomputable def f98_k4 (K : Nat) (a0 : Int) (a1 : Int × Int × Int) (a2 : List tM) (lr : LR ((List (List tV)) × Int)) : Ex → Fr → Option ((List (List tV)) × Int) :=
  contC (f98E K) 1 lr f98C [1, 1, 1, 1, 0, 1, 0] (finK (f98E K) Tryz.f98 [(.ro, sI), (.ro, sL), (.ro, (.list 91 sM))] [(.list 72 (.list 53 sV)), sI] (a0, a1, a2, ()))
noncomputable def f98_g (K : Nat) (a0 : Int) (a1 : Int × Int × Int) (a2 : List tM) (I4 : Int → (List (List tV)) → Int → Option ((List (List tV)) × Int)) : Option ((List (List tV)) × Int) :=
  (f58G K a0 a1 a2 true).bind fun y1 => (bif (y1 != (0 : Int)) then some ([], y1) else (f60G K a1 a2).bind fun y2 => I4 y1 y2 (0 : Int))
noncomputable def f98G (K : Nat) (a0 : Int) (a1 : Int × Int × Int) (a2 : List tM) : Option ((List (List tV)) × Int) :=
  f98_g K a0 a1 a2 (fun c0 c1 d0 => f98_l4 K a0 a1 a2 c0 c1 K d0)
noncomputable def f98M (K : Nat) : Mdl := ⟨[(.ro, sI), (.ro, sL), (.ro, (.list 91 sM))], [(.list 72 (.list 53 sV)), sI], fun x => f98G K x.1 x.2.1 x.2.2.1⟩
/-! spec.l03Number -/
noncomputable def f78E (K : Nat) : Env := ⟨[(114, f114M K)], tys, eqs, mts, K, [0, 1, 2, 3, 4], [], []⟩
noncomputable def f78G (K : Nat) (a0 : Int × Int × Int) (a1 : Int × Int) : Option Int :=
  (f114G K a0 a1).bind fun y1 => some (w ((w (y1.1 * a0.2.2)) + y1.2))
noncomputable def f78M (K : Nat) : Mdl := ⟨[(.ro, sL), (.ro, sV)], [sI], fun x => f78G K x.1 x.2.1⟩
/-! spec.l07Numbers -/
noncomputable def f85C : Code := codeOf Tryz.f85
noncomputable def f85E (K : Nat) : Env := ⟨[(60, f60M K), (78, f78M K)], tys, eqs, mts, K, [0, 1, 2, 4, 5, 6, 7, 8, 21, 30], [], []⟩
noncomputable def f85_b12 (K : Nat) (a0 : Int × Int × Int) (a1 : List tM) (q10 : Int) (y1 : List (List tV)) (L9 : Int → (List Int) → Option (List Int)) (L12 : Int → (List Int) → Option (List Int)) (q13 : Int) (q14 : List Int) : Option (List Int) :=
  (bif (decide (0 ≤ q10) && decide (q10 < (y1.length : Int))) then (bif (decide (q13 < ((y1.getD ((0 : Int) + q10).toNat []).length : Int))) then (bif (decide (0 ≤ q10) && decide (q10 < (y1.length : Int))) then (bif (decide (0 ≤ q13) && decide (q13 < ((y1.getD ((0 : Int) + q10).toNat []).length : Int))) then (f78G K a0 ((y1.getD ((0 : Int) + q10).toNat []).getD ((0 : Int) + q13).toNat ((0 : Int), (0 : Int)))).bind fun y15 => (bif (decide (0 ≤ y15) && decide (y15 < (q14.length : Int))) then L12 (w (q13 + (1 : Int))) (q14.set ((0 : Int) + y15).toNat q10) else none) else none) else none) else L9 (w (q10 + (1 : Int))) q14) else none)
noncomputable def f85_l12 (K : Nat) (a0 : Int × Int × Int) (a1 : List tM) (q10 : Int) (y1 : List (List tV)) (L9 : Int → (List Int) → Option (List Int)) (n : Nat) (q13 : Int) (q14 : List Int) : Option (List Int) :=
  iter (X := Int × List Int) (fun L x => (fun L12 => f85_b12 K a0 a1 q10 y1 L9 L12 x.1 x.2) (fun v0 v1 => L (v0, v1))) n (q13, q14)
noncomputable def f85_fr12 (a0 : Int × Int × Int) (a1 : List tM) (q10 : Int) (y1 : List (List tV)) (q13 : Int) (q14 : List Int) : Fr := ⟨46, [(0, .v true [.int .i64 a0.1, .int .i64 a0.2.1, .int .i64 a0.2.2]), (1, .v false [.row 0]), (2, .v false [.box 0 0]), (4, .v false [.row 1]), (5, .v false [.row 2]), (6, .v false [.row 3]), (7, .v false [.int .i64 q10]), (8, .v false [.int .i64 q13]), (21, .v false [.bool (decide (q10 < (y1.length : Int)))])], [some ⟨true, [.int .i64 a0.1, .int .i64 a0.2.1, .int .i64 a0.2.2]⟩], [some ⟨91, sM, a1, .ro⟩, some ⟨2, sI, [], .own⟩, some ⟨2, sI, q14, .own⟩, some ⟨72, (.list 53 sV), y1, .own⟩]⟩
noncomputable def f85_b9 (K : Nat) (a0 : Int × Int × Int) (a1 : List tM) (y1 : List (List tV)) (I12 : Int → Int → (List Int) → Option (List Int)) (L9 : Int → (List Int) → Option (List Int)) (q10 : Int) (q11 : List Int) : Option (List Int) :=
  (bif (decide (q10 < (y1.length : Int))) then I12 q10 (0 : Int) q11 else some q11)
noncomputable def f85_l9 (K : Nat) (a0 : Int × Int × Int) (a1 : List tM) (y1 : List (List tV)) (n : Nat) (q10 : Int) (q11 : List Int) : Option (List Int) :=
  iter (X := Int × List Int) (fun L x => (fun L9 => f85_b9 K a0 a1 y1 (fun c0 d0 d1 => f85_l12 K a0 a1 c0 y1 L9 K d0 d1) L9 x.1 x.2) (fun v0 v1 => L (v0, v1))) n (q10, q11)
noncomputable def f85_fr9 (a0 : Int × Int × Int) (a1 : List tM) (y1 : List (List tV)) (q10 : Int) (q11 : List Int) : Fr := ⟨46, [(0, .v true [.int .i64 a0.1, .int .i64 a0.2.1, .int .i64 a0.2.2]), (1, .v false [.row 0]), (2, .v false [.box 0 0]), (4, .v false [.row 1]), (5, .v false [.row 2]), (6, .v false [.row 3]), (7, .v false [.int .i64 q10])], [some ⟨true, [.int .i64 a0.1, .int .i64 a0.2.1, .int .i64 a0.2.2]⟩], [some ⟨91, sM, a1, .ro⟩, some ⟨2, sI, [], .own⟩, some ⟨2, sI, q11, .own⟩, some ⟨72, (.list 53 sV), y1, .own⟩]⟩
noncomputable def f85_k9 (K : Nat) (a0 : Int × Int × Int) (a1 : List tM) (lr : LR (List Int)) : Ex → Fr → Option (List Int) :=
  contC (f85E K) 1 lr f85C [1, 1, 1, 0, 1, 0] (finK (f85E K) Tryz.f85 [(.ro, sL), (.ro, (.list 91 sM))] [(.list 2 sI)] (a0, a1, ()))
noncomputable def f85_k12 (K : Nat) (a0 : Int × Int × Int) (a1 : List tM) (y1 : List (List tV)) (F9 : Fr → Option (List Int)) (bq10 : Int) (bq11 : List Int) (lr : LR (List Int)) : Ex → Fr → Option (List Int) :=
  contC (f85E K) 1 lr (selC f85C [1, 1, 1, 0, 1, 0, 0]) [1, 0, 0, 1, 0] (loopK 1 (f85_fr9 a0 a1 y1 bq10 bq11) F9 (f85_k9 K a0 a1 lr))
noncomputable def f85_g (K : Nat) (a0 : Int × Int × Int) (a1 : List tM) (I9 : (List (List tV)) → Int → (List Int) → Option (List Int)) : Option (List Int) :=
  (bif (decide (0 ≤ (w (a0.1 * a0.2.2))) && Nat.ble (w (a0.1 * a0.2.2)).toNat (lim 8) && ((w (a0.1 * a0.2.2)) == (w (a0.1 * a0.2.2)))) then (f60G K a0 a1).bind fun y1 => I9 y1 (0 : Int) (List.replicate (w (a0.1 * a0.2.2)).toNat (0 : Int)) else none)
noncomputable def f85G (K : Nat) (a0 : Int × Int × Int) (a1 : List tM) : Option (List Int) :=
  f85_g K a0 a1 (fun c0 d0 d1 => f85_l9 K a0 a1 c0 K d0 d1)
noncomputable def f85M (K : Nat) : Mdl := ⟨[(.ro, sL), (.ro, (.list 91 sM))], [(.list 2 sI)], fun x => f85G K x.1 x.2.1⟩
/-! spec.l21Steps -/
noncomputable def f169E (K : Nat) : Env := ⟨[], tys, eqs, mts, K, [0], [], []⟩
noncomputable def f169G (K : Nat) : Option (List tV) :=
  some [((1 : Int), (0 : Int)), ((0 : Int), (1 : Int)), ((-1 : Int), (0 : Int)), ((0 : Int), (-1 : Int))]
noncomputable def f169M (K : Nat) : Mdl := ⟨[], [(.list 53 sV)], fun x => f169G K ⟩
/-! spec.l23Next -/
noncomputable def f99C : Code := codeOf Tryz.f99
noncomputable def f99E (K : Nat) : Env := ⟨[(78, f78M K), (129, f129M K), (169, f169M K), (170, f170M K)], tys, eqs, mts, K, [0, 1, 2, 3, 6, 7, 8, 9, 10, 11, 12, 13, 14, 21, 27, 48, 72], [], []⟩
noncomputable def f99_b28 (K : Nat) (a0 : Int × Int × Int) (a1 : List Int) (a2 : List tV) (q22 : Int) (q25 : Bool) (q26 : Int) (y1 : List tV) (y2 : List tV) (y27 : Int) (L23 : Bool → Bool → Int → Option (tV × Bool)) (L28 : Bool → Int → Option (tV × Bool)) (q29 : Bool) (q30 : Int) : Option (tV × Bool) :=
  (bif (decide (q30 < (4 : Int))) then (bif ((!(!q29)) || true) then (bif ((!(!q29)) || true) then (bif ((!(!q29)) || (decide (0 ≤ q26) && decide (q26 < (a2.length : Int)))) then (bif ((!(!q29)) || true) then (bif ((!(!q29)) || true) then (bif ((!(!q29)) || true) then (bif ((!(!q29)) || (decide (0 ≤ q30) && decide (q30 < (y2.length : Int)))) then (bif ((!(!q29)) || true) then ((bif (!q29) then f170G K (a2.getD ((0 : Int) + q26).toNat ((0 : Int), (0 : Int))) (y2.getD ((0 : Int) + q30).toNat ((0 : Int), (0 : Int))) else some ((0 : Int), (0 : Int)))).bind fun y31 => (bif ((!(!q29)) || true) then (bif ((!(!q29)) || true) then (bif ((!(!q29)) || (decide (0 ≤ q22) && decide (q22 < (y1.length : Int)))) then (bif ((!(!q29)) || true) then (bif ((!(!q29)) || true) then L28 (bif q29 then true else ((y31.1 == (y1.getD ((0 : Int) + q22).toNat ((0 : Int), (0 : Int))).1) && (y31.2 == (y1.getD ((0 : Int) + q22).toNat ((0 : Int), (0 : Int))).2))) (w (q30 + (1 : Int))) else none) else none) else none) else none) else none) else none) else none) else none) else none) else none) else none) else none) else none) else L23 q29 (bif q25 then true else ((a1.getD ((0 : Int) + q22).toNat (0 : Int)) == (a1.getD ((0 : Int) + y27).toNat (0 : Int)))) (w (q26 + (1 : Int))))
noncomputable def f99_l28 (K : Nat) (a0 : Int × Int × Int) (a1 : List Int) (a2 : List tV) (q22 : Int) (q25 : Bool) (q26 : Int) (y1 : List tV) (y2 : List tV) (y27 : Int) (L23 : Bool → Bool → Int → Option (tV × Bool)) (n : Nat) (q29 : Bool) (q30 : Int) : Option (tV × Bool) :=
  iter (X := Bool × Int) (fun L x => (fun L28 => f99_b28 K a0 a1 a2 q22 q25 q26 y1 y2 y27 L23 L28 x.1 x.2) (fun v0 v1 => L (v0, v1))) n (q29, q30)
noncomputable def f99_fr28 (a0 : Int × Int × Int) (a1 : List Int) (a2 : List tV) (q22 : Int) (q25 : Bool) (q26 : Int) (y1 : List tV) (y2 : List tV) (y27 : Int) (q29 : Bool) (q30 : Int) : Fr := ⟨78, [(0, .v true [.int .i64 a0.1, .int .i64 a0.2.1, .int .i64 a0.2.2]), (1, .v false [.row 0]), (2, .v false [.row 1]), (3, .v false [.box 0 0]), (6, .v false [.box 1 0]), (7, .v false [.bool false]), (8, .v false [.row 2]), (9, .v false [.row 3]), (10, .v false [.int .i64 q22]), (11, .v false [.bool q29]), (12, .v false [.bool (bif q25 then true else ((a1.getD ((0 : Int) + q22).toNat (0 : Int)) == (a1.getD ((0 : Int) + y27).toNat (0 : Int))))]), (13, .v false [.int .i64 q26]), (14, .v false [.int .i64 q30]), (21, .v false [.bool (decide (q22 < (y1.length : Int)))]), (27, .v false [.bool (decide (q26 < (a2.length : Int)))])], [some ⟨true, [.int .i64 a0.1, .int .i64 a0.2.1, .int .i64 a0.2.2]⟩, some ⟨true, [.int .i64 (0 : Int), .int .i64 (0 : Int)]⟩], [some ⟨2, sI, a1, .ro⟩, some ⟨53, sV, a2, .ro⟩, some ⟨53, sV, y1, .own⟩, some ⟨53, sV, y2, .own⟩]⟩
noncomputable def f99_b23 (K : Nat) (a0 : Int × Int × Int) (a1 : List Int) (a2 : List tV) (q22 : Int) (y1 : List tV) (y2 : List tV) (I28 : Bool → Int → Int → Bool → Int → Option (tV × Bool)) (L21 : Int → Option (tV × Bool)) (L23 : Bool → Bool → Int → Option (tV × Bool)) (q24 : Bool) (q25 : Bool) (q26 : Int) : Option (tV × Bool) :=
  (bif (decide (q26 < (a2.length : Int))) then (bif ((!(!q25)) || true) then (bif ((!(!q25)) || true) then (bif ((!(!q25)) || (decide (0 ≤ q22) && decide (q22 < (a1.length : Int)))) then (bif ((!(!q25)) || true) then (bif ((!(!q25)) || true) then (bif ((!(!q25)) || true) then (bif ((!(!q25)) || true) then (bif ((!(!q25)) || true) then (bif ((!(!q25)) || (decide (0 ≤ q26) && decide (q26 < (a2.length : Int)))) then (bif ((!(!q25)) || true) then ((bif (!q25) then f78G K a0 (a2.getD ((0 : Int) + q26).toNat ((0 : Int), (0 : Int))) else some (0 : Int))).bind fun y27 => (bif ((!(!q25)) || (decide (0 ≤ y27) && decide (y27 < (a1.length : Int)))) then (bif ((!(!q25)) || true) then (bif ((!(!q25)) || true) then I28 q25 q26 y27 q24 (0 : Int) else none) else none) else none) else none) else none) else none) else none) else none) else none) else none) else none) else none) else none) else (bif ((!q24) || true) then (bif ((!q24) || true) then (bif (bif q24 then (!q25) else false) then (bif (decide (0 ≤ q22) && decide (q22 < (y1.length : Int))) then some ((y1.getD ((0 : Int) + q22).toNat ((0 : Int), (0 : Int))), true) else none) else L21 (w (q22 + (1 : Int)))) else none) else none))
noncomputable def f99_l23 (K : Nat) (a0 : Int × Int × Int) (a1 : List Int) (a2 : List tV) (q22 : Int) (y1 : List tV) (y2 : List tV) (L21 : Int → Option (tV × Bool)) (n : Nat) (q24 : Bool) (q25 : Bool) (q26 : Int) : Option (tV × Bool) :=
  iter (X := Bool × Bool × Int) (fun L x => (fun L23 => f99_b23 K a0 a1 a2 q22 y1 y2 (fun c0 c1 c2 d0 d1 => f99_l28 K a0 a1 a2 q22 c0 c1 y1 y2 c2 L23 K d0 d1) L21 L23 x.1 x.2.1 x.2.2) (fun v0 v1 v2 => L (v0, v1, v2))) n (q24, q25, q26)
noncomputable def f99_fr23 (a0 : Int × Int × Int) (a1 : List Int) (a2 : List tV) (q22 : Int) (y1 : List tV) (y2 : List tV) (q24 : Bool) (q25 : Bool) (q26 : Int) : Fr := ⟨78, [(0, .v true [.int .i64 a0.1, .int .i64 a0.2.1, .int .i64 a0.2.2]), (1, .v false [.row 0]), (2, .v false [.row 1]), (3, .v false [.box 0 0]), (6, .v false [.box 1 0]), (7, .v false [.bool false]), (8, .v false [.row 2]), (9, .v false [.row 3]), (10, .v false [.int .i64 q22]), (11, .v false [.bool q24]), (12, .v false [.bool q25]), (13, .v false [.int .i64 q26]), (21, .v false [.bool (decide (q22 < (y1.length : Int)))])], [some ⟨true, [.int .i64 a0.1, .int .i64 a0.2.1, .int .i64 a0.2.2]⟩, some ⟨true, [.int .i64 (0 : Int), .int .i64 (0 : Int)]⟩], [some ⟨2, sI, a1, .ro⟩, some ⟨53, sV, a2, .ro⟩, some ⟨53, sV, y1, .own⟩, some ⟨53, sV, y2, .own⟩]⟩
noncomputable def f99_b21 (K : Nat) (a0 : Int × Int × Int) (a1 : List Int) (a2 : List tV) (y1 : List tV) (y2 : List tV) (I23 : Int → Bool → Bool → Int → Option (tV × Bool)) (L21 : Int → Option (tV × Bool)) (q22 : Int) : Option (tV × Bool) :=
  (bif (decide (q22 < (y1.length : Int))) then I23 q22 false false (0 : Int) else some (((0 : Int), (0 : Int)), false))
noncomputable def f99_l21 (K : Nat) (a0 : Int × Int × Int) (a1 : List Int) (a2 : List tV) (y1 : List tV) (y2 : List tV) (n : Nat) (q22 : Int) : Option (tV × Bool) :=
  iter (X := Int) (fun L x => (fun L21 => f99_b21 K a0 a1 a2 y1 y2 (fun c0 d0 d1 d2 => f99_l23 K a0 a1 a2 c0 y1 y2 L21 K d0 d1 d2) L21 x) (fun v0 => L v0)) n q22
noncomputable def f99_fr21 (a0 : Int × Int × Int) (a1 : List Int) (a2 : List tV) (y1 : List tV) (y2 : List tV) (q22 : Int) : Fr := ⟨78, [(0, .v true [.int .i64 a0.1, .int .i64 a0.2.1, .int .i64 a0.2.2]), (1, .v false [.row 0]), (2, .v false [.row 1]), (3, .v false [.box 0 0]), (6, .v false [.box 1 0]), (7, .v false [.bool false]), (8, .v false [.row 2]), (9, .v false [.row 3]), (10, .v false [.int .i64 q22])], [some ⟨true, [.int .i64 a0.1, .int .i64 a0.2.1, .int .i64 a0.2.2]⟩, some ⟨true, [.int .i64 (0 : Int), .int .i64 (0 : Int)]⟩], [some ⟨2, sI, a1, .ro⟩, some ⟨53, sV, a2, .ro⟩, some ⟨53, sV, y1, .own⟩, some ⟨53, sV, y2, .own⟩]⟩
noncomputable def f99_k21 (K : Nat) (a0 : Int × Int × Int) (a1 : List Int) (a2 : List tV) (lr : LR (tV × Bool)) : Ex → Fr → Option (tV × Bool) :=
  contC (f99E K) 2 lr f99C [1, 1, 0, 1, 0] (finK (f99E K) Tryz.f99 [(.ro, sL), (.ro, (.list 2 sI)), (.ro, (.list 53 sV))] [sV, .bool] (a0, a1, a2, ()))
noncomputable def f99_k23 (K : Nat) (a0 : Int × Int × Int) (a1 : List Int) (a2 : List tV) (y1 : List tV) (y2 : List tV) (F21 : Fr → Option (tV × Bool)) (bq22 : Int) (lr : LR (tV × Bool)) : Ex → Fr → Option (tV × Bool) :=
  contC (f99E K) 2 lr (selC f99C [1, 1, 0, 1, 0, 0]) [1, 0, 0, 1, 0, 1, 0] (loopK 2 (f99_fr21 a0 a1 a2 y1 y2 bq22) F21 (f99_k21 K a0 a1 a2 lr))
noncomputable def f99_k28 (K : Nat) (a0 : Int × Int × Int) (a1 : List Int) (a2 : List tV) (y1 : List tV) (y2 : List tV) (q22 : Int) (F21 : Fr → Option (tV × Bool)) (bq22 : Int) (F23 : Fr → Option (tV × Bool)) (bq24 : Bool) (bq25 : Bool) (bq26 : Int) (lr : LR (tV × Bool)) : Ex → Fr → Option (tV × Bool) :=
  contC (f99E K) 2 lr (selC f99C [1, 1, 0, 1, 0, 0, 1, 0, 0, 1, 0, 1, 0, 0]) [1, 0, 0, 1, 1, 0] (loopK 2 (f99_fr23 a0 a1 a2 q22 y1 y2 bq24 bq25 bq26) F23 (f99_k23 K a0 a1 a2 y1 y2 F21 bq22 lr))
noncomputable def f99_g (K : Nat) (a0 : Int × Int × Int) (a1 : List Int) (a2 : List tV) (I21 : (List tV) → (List tV) → Int → Option (tV × Bool)) : Option (tV × Bool) :=
  (f129G K a0).bind fun y1 => (f169G K).bind fun y2 => I21 y1 y2 (0 : Int)
noncomputable def f99G (K : Nat) (a0 : Int × Int × Int) (a1 : List Int) (a2 : List tV) : Option (tV × Bool) :=
  f99_g K a0 a1 a2 (fun c0 c1 d0 => f99_l21 K a0 a1 a2 c0 c1 K d0)
noncomputable def f99M (K : Nat) : Mdl := ⟨[(.ro, sL), (.ro, (.list 2 sI)), (.ro, (.list 53 sV))], [sV, .bool], fun x => f99G K x.1 x.2.1 x.2.2.1⟩
/-! spec.ConnectedUnit -/
noncomputable def f45C : Code := codeOf Tryz.f45
noncomputable def f45E (K : Nat) : Env := ⟨[(85, f85M K), (98, f98M K), (99, f99M K), (100, f100M K)], tys, eqs, mts, K, [0, 1, 2, 4, 6, 7, 8, 9, 10, 11, 12, 13, 22, 33, 42], [], []⟩
noncomputable def f45_b6 (K : Nat) (a0 : Int) (a1 : Int × Int × Int) (a2 : List tM) (y1 : (List (List tV)) × Int) (y2 : List Int) (L6 : (List tV) → Option ((List tV) × Int)) (q7 : List tV) : Option ((List tV) × Int) :=
  (bif (decide ((q7.length : Int) < (y1.1.length : Int))) then (f99G K a1 y2 q7).bind fun y8 => (bif (!y8.2) then some ([], (4 : Int)) else (f100G K q7 y8.1).bind fun y9 => L6 y9) else some (q7, (0 : Int)))
noncomputable def f45_l6 (K : Nat) (a0 : Int) (a1 : Int × Int × Int) (a2 : List tM) (y1 : (List (List tV)) × Int) (y2 : List Int) (n : Nat) (q7 : List tV) : Option ((List tV) × Int) :=
  iter (X := List tV) (fun L x => (fun L6 => f45_b6 K a0 a1 a2 y1 y2 L6 x) (fun v0 => L v0)) n q7
noncomputable def f45_fr6 (a0 : Int) (a1 : Int × Int × Int) (a2 : List tM) (y1 : (List (List tV)) × Int) (y2 : List Int) (q7 : List tV) : Fr := ⟨47, [(0, .v false [.int .i64 a0]), (1, .v true [.int .i64 a1.1, .int .i64 a1.2.1, .int .i64 a1.2.2]), (2, .v false [.row 0]), (4, .v false [.box 0 0]), (6, .v false [.row 1]), (7, .v false [.int .i64 (0 : Int)]), (8, .v false [.row 2]), (9, .v false [.int .i64 y1.2]), (10, .v false [.row 3]), (11, .v false [.row 4]), (22, .v false [.bool (y1.2 != (0 : Int))])], [some ⟨true, [.int .i64 a1.1, .int .i64 a1.2.1, .int .i64 a1.2.2]⟩], [some ⟨91, sM, a2, .ro⟩, some ⟨53, sV, [], .own⟩, some ⟨72, (.list 53 sV), y1.1, .own⟩, some ⟨2, sI, y2, .own⟩, some ⟨53, sV, q7, .own⟩]⟩
noncomputable def f45_k6 (K : Nat) (a0 : Int) (a1 : Int × Int × Int) (a2 : List tM) (lr : LR ((List tV) × Int)) : Ex → Fr → Option ((List tV) × Int) :=
  contC (f45E K) 1 lr f45C [1, 1, 1, 1, 1, 0, 0] (finK (f45E K) Tryz.f45 [(.ro, sI), (.ro, sL), (.ro, (.list 91 sM))] [(.list 53 sV), sI] (a0, a1, a2, ()))
noncomputable def f45_g (K : Nat) (a0 : Int) (a1 : Int × Int × Int) (a2 : List tM) (I6 : ((List (List tV)) × Int) → (List Int) → (List tV) → Option ((List tV) × Int)) : Option ((List tV) × Int) :=
  (f98G K a0 a1 a2).bind fun y1 => (bif (y1.2 != (0 : Int)) then some ([], y1.2) else (f85G K a1 a2).bind fun y2 => I6 y1 y2 [((0 : Int), (0 : Int))])
noncomputable def f45G (K : Nat) (a0 : Int) (a1 : Int × Int × Int) (a2 : List tM) : Option ((List tV) × Int) :=
  f45_g K a0 a1 a2 (fun c0 c1 d0 => f45_l6 K a0 a1 a2 c0 c1 K d0)
noncomputable def f45M (K : Nat) : Mdl := ⟨[(.ro, sI), (.ro, sL), (.ro, (.list 91 sM))], [(.list 53 sV), sI], fun x => f45G K x.1 x.2.1 x.2.2.1⟩
/-! impl.within -/
noncomputable def f63E (K : Nat) : Env := ⟨[], tys, eqs, mts, K, [0, 1, 2, 6], [], []⟩
noncomputable def f63G (K : Nat) (a0 : Int) (a1 : Int) (a2 : Int) : Option Bool :=
  (bif ((!(decide (a0 ≥ a1))) || true) then (bif ((!(decide (a0 ≥ a1))) || true) then (bif ((!(decide (a0 ≥ a1))) || true) then some (bif (decide (a0 ≥ a1)) then (decide (a0 ≤ a2)) else false) else none) else none) else none)
noncomputable def f63M (K : Nat) : Mdl := ⟨[(.ro, sI), (.ro, sI), (.ro, sI)], [.bool], fun x => f63G K x.1 x.2.1 x.2.2.1⟩
/-! impl.IsFrame -/
noncomputable def f138E (K : Nat) : Env := ⟨[(63, f63M K)], tys, eqs, mts, K, [0, 2], [], []⟩
noncomputable def f138G (K : Nat) (a0 : Int) : Option Bool :=
  (f63G K a0 (0 : Int) (1 : Int)).bind fun y1 => some y1
noncomputable def f138M (K : Nat) : Mdl := ⟨[(.ro, sI)], [.bool], fun x => f138G K x.1⟩
/-! (impl.Lattice).index -/
noncomputable def f140E (K : Nat) : Env := ⟨[], tys, eqs, mts, K, [0, 1, 2], [], []⟩
noncomputable def f140G (K : Nat) (a0 : Int × Int × Int) : Option Int :=
  some (w (a0.1 * a0.2.2))
noncomputable def f140M (K : Nat) : Mdl := ⟨[(.ro, sL)], [sI], fun x => f140G K x.1⟩
/-! impl.IsLattice -/
noncomputable def f139E (K : Nat) : Env := ⟨[(63, f63M K), (140, f140M K)], tys, eqs, mts, K, [0, 1, 2], [], []⟩
noncomputable def f139G (K : Nat) (a0 : Int × Int × Int) : Option Bool :=
  (f63G K a0.1 (1 : Int) (64 : Int)).bind fun y1 => (bif ((!y1) || true) then (bif ((!y1) || true) then ((bif y1 then f63G K a0.2.2 (1 : Int) (64 : Int) else some false)).bind fun y2 => (bif ((!(bif y1 then y2 else false)) || true) then (bif ((!(bif y1 then y2 else false)) || true) then (bif ((!(bif y1 then y2 else false)) || true) then (bif ((!(bif y1 then y2 else false)) || true) then (bif ((!(bif y1 then y2 else false)) || true) then ((bif (bif y1 then y2 else false) then f63G K a0.2.1 (0 : Int) (w (a0.1 - (1 : Int))) else some false)).bind fun y3 => (bif ((!(bif (bif y1 then y2 else false) then y3 else false)) || true) then ((bif (bif (bif y1 then y2 else false) then y3 else false) then f140G K a0 else some (0 : Int))).bind fun y4 => (bif ((!(bif (bif y1 then y2 else false) then y3 else false)) || true) then some (bif (bif (bif y1 then y2 else false) then y3 else false) then (decide (y4 ≤ (64 : Int))) else false) else none) else none) else none) else none) else none) else none) else none) else none) else none)
noncomputable def f139M (K : Nat) : Mdl := ⟨[(.ro, sL)], [.bool], fun x => f139G K x.1⟩
/-! impl.frameCode -/
noncomputable def f155E (K : Nat) : Env := ⟨[(138, f138M K), (139, f139M K)], tys, eqs, mts, K, [0, 1, 3, 4, 12], [], []⟩
noncomputable def f155G (K : Nat) (a0 : Int) (a1 : Int × Int × Int) : Option Int :=
  (f138G K a0).bind fun y1 => (bif ((!(!(!y1))) || true) then ((bif (!(!y1)) then f139G K a1 else some false)).bind fun y2 => (bif ((!(!(!y1))) || true) then (bif (bif (!y1) then true else (!y2)) then some (1 : Int) else some (0 : Int)) else none) else none)
noncomputable def f155M (K : Nat) : Mdl := ⟨[(.ro, sI), (.ro, sL)], [sI], fun x => f155G K x.1 x.2.1⟩
/-! (impl.Lattice).basis -/
noncomputable def f198E (K : Nat) : Env := ⟨[], tys, eqs, mts, K, [0, 1, 2, 3], [], []⟩
noncomputable def f198G (K : Nat) (a0 : Int × Int × Int) : Option (tV × Int × Int) :=
  some ((a0.1, (0 : Int)), a0.2)
noncomputable def f198M (K : Nat) : Mdl := ⟨[(.ro, sL)], [sV, sV], fun x => f198G K x.1⟩
/-! (impl.Mat).apply -/
noncomputable def f206E (K : Nat) : Env := ⟨[], tys, eqs, mts, K, [0, 1, 2, 3, 4], [], []⟩
noncomputable def f206G (K : Nat) (a0 : Int × Int × Int × Int) (a1 : Int × Int) : Option tV :=
  some ((w ((w (a0.1 * a1.1)) + (w (a0.2.1 * a1.2)))), (w ((w (a0.2.2.1 * a1.1)) + (w (a0.2.2.2 * a1.2)))))
noncomputable def f206M (K : Nat) : Mdl := ⟨[(.ro, sA), (.ro, sV)], [sV], fun x => f206G K x.1 x.2.1⟩
/-! impl.norm -/
noncomputable def f250E (K : Nat) : Env := ⟨[], tys, eqs, mts, K, [0, 1, 3, 4], [], []⟩
noncomputable def f250G (K : Nat) (a0 : Int) (a1 : Int × Int) : Option Int :=
  some (w ((w ((w (a1.1 * a1.1)) + (w ((w (a0 * a1.1)) * a1.2)))) + (w (a1.2 * a1.2))))
noncomputable def f250M (K : Nat) : Mdl := ⟨[(.ro, sI), (.ro, sV)], [sI], fun x => f250G K x.1 x.2.1⟩
/-! impl.pointMats -/
noncomputable def f203C : Code := codeOf Tryz.f203
noncomputable def f203E (K : Nat) : Env := ⟨[(206, f206M K), (250, f250M K)], tys, eqs, mts, K, [0, 2, 3, 4, 5, 6, 7, 8, 10, 11, 54], [], []⟩
noncomputable def f203_b8 (K : Nat) (a0 : Int) (L8 : Int → (List tA) → Option (List tA)) (q9 : Int) (q10 : List tA) : Option (List tA) :=
  (bif (decide (q9 < (81 : Int))) then (f206G K ((w ((w (q9.tdiv (27 : Int))) - (1 : Int))), (w (((w (q9.tdiv (9 : Int))).tmod (3 : Int)) - (1 : Int))), (w (((w (q9.tdiv (3 : Int))).tmod (3 : Int)) - (1 : Int))), (w ((q9.tmod (3 : Int)) - (1 : Int)))) ((1 : Int), (0 : Int))).bind fun y11 => (f206G K ((w ((w (q9.tdiv (27 : Int))) - (1 : Int))), (w (((w (q9.tdiv (9 : Int))).tmod (3 : Int)) - (1 : Int))), (w (((w (q9.tdiv (3 : Int))).tmod (3 : Int)) - (1 : Int))), (w ((q9.tmod (3 : Int)) - (1 : Int)))) ((0 : Int), (1 : Int))).bind fun y12 => (f206G K ((w ((w (q9.tdiv (27 : Int))) - (1 : Int))), (w (((w (q9.tdiv (9 : Int))).tmod (3 : Int)) - (1 : Int))), (w (((w (q9.tdiv (3 : Int))).tmod (3 : Int)) - (1 : Int))), (w ((q9.tmod (3 : Int)) - (1 : Int)))) ((1 : Int), (1 : Int))).bind fun y13 => (f250G K a0 y11).bind fun y14 => (bif ((!(y14 == (1 : Int))) || true) then (bif ((!(y14 == (1 : Int))) || true) then ((bif (y14 == (1 : Int)) then f250G K a0 y12 else some (0 : Int))).bind fun y15 => (bif ((!(y14 == (1 : Int))) || true) then (bif ((!(bif (y14 == (1 : Int)) then (y15 == (1 : Int)) else false)) || true) then (bif ((!(bif (y14 == (1 : Int)) then (y15 == (1 : Int)) else false)) || true) then ((bif (bif (y14 == (1 : Int)) then (y15 == (1 : Int)) else false) then f250G K a0 y13 else some (0 : Int))).bind fun y16 => (bif ((!(bif (y14 == (1 : Int)) then (y15 == (1 : Int)) else false)) || true) then (bif ((!(bif (y14 == (1 : Int)) then (y15 == (1 : Int)) else false)) || true) then (bif ((!(bif (y14 == (1 : Int)) then (y15 == (1 : Int)) else false)) || true) then (bif (bif (bif (y14 == (1 : Int)) then (y15 == (1 : Int)) else false) then (y16 == (w ((2 : Int) + a0))) else false) then (bif (Nat.ble (q10.length + [((w ((w (q9.tdiv (27 : Int))) - (1 : Int))), (w (((w (q9.tdiv (9 : Int))).tmod (3 : Int)) - (1 : Int))), (w (((w (q9.tdiv (3 : Int))).tmod (3 : Int)) - (1 : Int))), (w ((q9.tmod (3 : Int)) - (1 : Int))))].length) (lim 32)) then L8 (w (q9 + (1 : Int))) (q10 ++ [((w ((w (q9.tdiv (27 : Int))) - (1 : Int))), (w (((w (q9.tdiv (9 : Int))).tmod (3 : Int)) - (1 : Int))), (w (((w (q9.tdiv (3 : Int))).tmod (3 : Int)) - (1 : Int))), (w ((q9.tmod (3 : Int)) - (1 : Int))))]) else none) else L8 (w (q9 + (1 : Int))) q10) else none) else none) else none) else none) else none) else none) else none) else none) else some q10)
noncomputable def f203_l8 (K : Nat) (a0 : Int) (n : Nat) (q9 : Int) (q10 : List tA) : Option (List tA) :=
  iter (X := Int × List tA) (fun L x => (fun L8 => f203_b8 K a0 L8 x.1 x.2) (fun v0 v1 => L (v0, v1))) n (q9, q10)
noncomputable def f203_fr8 (a0 : Int) (q9 : Int) (q10 : List tA) : Fr := ⟨61, [(0, .v false [.int .i64 a0]), (2, .v false [.row 0]), (3, .v false [.row 1]), (10, .v false [.int .i64 q9])], [], [some ⟨89, sA, [], .own⟩, some ⟨89, sA, q10, .own⟩]⟩
noncomputable def f203_k8 (K : Nat) (a0 : Int) (lr : LR (List tA)) : Ex → Fr → Option (List tA) :=
  contC (f203E K) 0 lr f203C [1, 1, 0, 1, 0] (finK (f203E K) Tryz.f203 [(.ro, sI)] [(.list 89 sA)] (a0, ()))
noncomputable def f203_g (K : Nat) (a0 : Int) (I8 : Int → (List tA) → Option (List tA)) : Option (List tA) :=
  I8 (0 : Int) []
noncomputable def f203G (K : Nat) (a0 : Int) : Option (List tA) :=
  f203_g K a0 (fun d0 d1 => f203_l8 K a0 K d0 d1)
noncomputable def f203M (K : Nat) : Mdl := ⟨[(.ro, sI)], [(.list 89 sA)], fun x => f203G K x.1⟩
/-! impl.mod -/
noncomputable def f183E (K : Nat) : Env := ⟨[], tys, eqs, mts, K, [0, 1, 4], [], []⟩
noncomputable def f183G (K : Nat) (a0 : Int) (a1 : Int) : Option Int :=
  (bif (a1 != 0) then (bif (a1 != 0) then some ((w ((a0.tmod a1) + a1)).tmod a1) else none) else none)
noncomputable def f183M (K : Nat) : Mdl := ⟨[(.ro, sI), (.ro, sI)], [sI], fun x => f183G K x.1 x.2.1⟩
/-! (impl.Lattice).reduce -/
noncomputable def f119E (K : Nat) : Env := ⟨[(183, f183M K)], tys, eqs, mts, K, [0, 1, 2, 3, 4, 5], [], []⟩
noncomputable def f119G (K : Nat) (a0 : Int × Int × Int) (a1 : Int × Int) : Option tV :=
  (f183G K a1.2 a0.2.2).bind fun y1 => (bif (a0.2.2 != 0) then (f183G K (w (a1.1 - (w ((w ((w (a1.2 - y1)).tdiv a0.2.2)) * a0.2.1)))) a0.1).bind fun y2 => some (y2, y1) else none)
noncomputable def f119M (K : Nat) : Mdl := ⟨[(.ro, sL), (.ro, sV)], [sV], fun x => f119G K x.1 x.2.1⟩
/-! (impl.Lattice).has -/
noncomputable def f205E (K : Nat) : Env := ⟨[(119, f119M K)], tys, eqs, mts, K, [0, 1, 2, 3, 4], [], []⟩
noncomputable def f205G (K : Nat) (a0 : Int × Int × Int) (a1 : Int × Int) : Option Bool :=
  (f119G K a0 a1).bind fun y1 => some ((y1.1 == (0 : Int)) && (y1.2 == (0 : Int)))
noncomputable def f205M (K : Nat) : Mdl := ⟨[(.ro, sL), (.ro, sV)], [.bool], fun x => f205G K x.1 x.2.1⟩
/-! impl.latticeMats$1 -/
noncomputable def f204E (K : Nat) : Env := ⟨[(205, f205M K), (206, f206M K)], tys, eqs, mts, K, [0, 1, 2, 3, 4, 5], [], []⟩
noncomputable def f204G (K : Nat) (a0 : Int × Int × Int × Int) (a1 : Int × Int × Int) (a2 : Int × Int) (a3 : Int × Int) : Option Bool :=
  (f206G K a0 a2).bind fun y1 => (f205G K a1 y1).bind fun y2 => (bif ((!(!(!y2))) || true) then (bif ((!(!(!y2))) || true) then (bif ((!(!(!y2))) || true) then ((bif (!(!y2)) then f206G K a0 a3 else some ((0 : Int), (0 : Int)))).bind fun y3 => ((bif (!(!y2)) then f205G K a1 y3 else some false)).bind fun y4 => (bif ((!(!(!y2))) || true) then some (bif (!y2) then true else (!y4)) else none) else none) else none) else none)
noncomputable def f204M (K : Nat) : Mdl := ⟨[(.ro, sA), (.cap, sL), (.cap, sV), (.cap, sV)], [.bool], fun x => f204G K x.1 x.2.1 x.2.2.1 x.2.2.2.1⟩
/-! slices.IndexFunc[[]impl.Mat,impl.Mat] -/
noncomputable def f249C : Code := codeOf Tryz.f249
noncomputable def f249E (K : Nat) : Env := ⟨[], tys, eqs, mts, K, [0, 1, 4, 5, 7, 8, 9, 16], [], []⟩
noncomputable def f249_b3 (K : Nat) (a0 : List tA) (a1 : (tA → Option Bool)) (L3 : Int → Option Int) (q4 : Int) : Option Int :=
  (bif (decide (q4 < (a0.length : Int))) then (bif (decide (0 ≤ q4) && decide (q4 < (a0.length : Int))) then (a1 ((a0.getD ((0 : Int) + q4).toNat zA).1, ((a0.getD ((0 : Int) + q4).toNat zA).2).1, (((a0.getD ((0 : Int) + q4).toNat zA).2).2))).bind fun y5 => (bif y5 then some q4 else L3 (w (q4 + (1 : Int)))) else none) else some (-1 : Int))
noncomputable def f249_l3 (K : Nat) (a0 : List tA) (a1 : (tA → Option Bool)) (n : Nat) (q4 : Int) : Option Int :=
  iter (X := Int) (fun L x => (fun L3 => f249_b3 K a0 a1 L3 x) (fun v0 => L v0)) n q4
noncomputable def f249_fr3 (a0 : List tA) (a1 : (tA → Option Bool)) (q4 : Int) : Fr := ⟨19, [(0, .v false [.row 0]), (1, .v false [.fv1 sA .bool a1]), (4, .v false [.int .i64 (0 : Int)]), (7, .v false [.int .i64 (a0.length : Int)]), (8, .v false [.int .i64 q4])], [], [some ⟨89, sA, a0, .ro⟩]⟩
noncomputable def f249_k3 (K : Nat) (a0 : List tA) (a1 : (tA → Option Bool)) (lr : LR Int) : Ex → Fr → Option Int :=
  contC (f249E K) 1 lr f249C [1, 0, 1, 0] (finK (f249E K) Tryz.f249 [(.ro, (.list 89 sA)), (.ro, (.fn1 sA .bool))] [sI] (a0, a1, ()))
noncomputable def f249_g (K : Nat) (a0 : List tA) (a1 : (tA → Option Bool)) (I3 : Int → Option Int) : Option Int :=
  I3 (0 : Int)
noncomputable def f249G (K : Nat) (a0 : List tA) (a1 : (tA → Option Bool)) : Option Int :=
  f249_g K a0 a1 (fun d0 => f249_l3 K a0 a1 K d0)
noncomputable def f249M (K : Nat) : Mdl := ⟨[(.ro, (.list 89 sA)), (.ro, (.fn1 sA .bool))], [sI], fun x => f249G K x.1 x.2.1⟩
/-! slices.DeleteFunc[[]impl.Mat,impl.Mat] -/
noncomputable def f202C : Code := codeOf Tryz.f202
noncomputable def f202E (K : Nat) : Env := ⟨[(249, f249M K)], tys, eqs, mts, K, [0, 1, 4, 5, 6, 7, 12, 19, 29], [], []⟩
noncomputable def f202_b4 (K : Nat) (a1 : (tA → Option Bool)) (y1 : Int) (L4 : Int → Int → (List tA) → Option (List tA)) (q5 : Int) (q6 : Int) (q7 : List tA) : Option (List tA) :=
  (bif (decide (q6 < (q7.length : Int))) then (bif (decide (0 ≤ q6) && decide (q6 < (q7.length : Int))) then (a1 ((q7.getD ((0 : Int) + q6).toNat zA).1, ((q7.getD ((0 : Int) + q6).toNat zA).2).1, (((q7.getD ((0 : Int) + q6).toNat zA).2).2))).bind fun y8 => (bif (!y8) then (bif (decide (0 ≤ q5) && decide (q5 < (q7.length : Int))) then L4 (w (q5 + (1 : Int))) (w (q6 + (1 : Int))) (q7.set ((0 : Int) + q5).toNat ((q7.getD ((0 : Int) + q6).toNat zA).1, ((q7.getD ((0 : Int) + q6).toNat zA).2).1, (((q7.getD ((0 : Int) + q6).toNat zA).2).2))) else none) else L4 q5 (w (q6 + (1 : Int))) q7) else none) else (bif (decide (0 ≤ q5) && decide (q5 ≤ (q7.length : Int)) && decide ((q7.length : Int) ≤ (q7.length : Int))) then (bif (decide (0 ≤ (0 : Int)) && decide ((0 : Int) ≤ q5) && decide (q5 ≤ ((clr q7 ((0 : Int) + q5).toNat (((0 : Int) + q5) + (((0 : Int) + (q7.length : Int)) - ((0 : Int) + q5))).toNat zA).length : Int))) then some ((clr q7 ((0 : Int) + q5).toNat (((0 : Int) + q5) + (((0 : Int) + (q7.length : Int)) - ((0 : Int) + q5))).toNat zA).take ((0 : Int) + q5).toNat) else none) else none))
noncomputable def f202_l4 (K : Nat) (a1 : (tA → Option Bool)) (y1 : Int) (n : Nat) (q5 : Int) (q6 : Int) (q7 : List tA) : Option (List tA) :=
  iter (X := Int × Int × List tA) (fun L x => (fun L4 => f202_b4 K a1 y1 L4 x.1 x.2.1 x.2.2) (fun v0 v1 v2 => L (v0, v1, v2))) n (q5, q6, q7)
noncomputable def f202_fr4 (a1 : (tA → Option Bool)) (y1 : Int) (q5 : Int) (q6 : Int) (q7 : List tA) : Fr := ⟨42, [(0, .v false [.row 0]), (1, .v false [.fv1 sA .bool a1]), (4, .v false [.row 1]), (5, .v false [.int .i64 q5]), (6, .v false [.int .i64 q6]), (12, .v false [.bool (y1 == (-1 : Int))])], [], [some ⟨89, sA, q7, .own⟩, some ⟨89, sA, [], .own⟩]⟩
noncomputable def f202_k4 (K : Nat) (a0 : List tA) (a1 : (tA → Option Bool)) (lr : LR (List tA)) : Ex → Fr → Option (List tA) :=
  contC (f202E K) 1 lr f202C [1, 1, 1, 0, 1, 0] (finK (f202E K) Tryz.f202 [(.mv, (.list 89 sA)), (.ro, (.fn1 sA .bool))] [(.list 89 sA)] (a0, a1, ()))
noncomputable def f202_g (K : Nat) (a0 : List tA) (a1 : (tA → Option Bool)) (I4 : Int → Int → Int → (List tA) → Option (List tA)) : Option (List tA) :=
  (f249G K a0 a1).bind fun y1 => (bif (y1 == (-1 : Int)) then some a0 else I4 y1 y1 (w (y1 + (1 : Int))) a0)
noncomputable def f202G (K : Nat) (a0 : List tA) (a1 : (tA → Option Bool)) : Option (List tA) :=
  f202_g K a0 a1 (fun c0 d0 d1 d2 => f202_l4 K a1 c0 K d0 d1 d2)
noncomputable def f202M (K : Nat) : Mdl := ⟨[(.mv, (.list 89 sA)), (.ro, (.fn1 sA .bool))], [(.list 89 sA)], fun x => f202G K x.1 x.2.1⟩
/-! impl.latticeMats -/
noncomputable def f144E (K : Nat) : Env := ⟨[(198, f198M K), (202, f202M K), (203, f203M K), (204, f204M K)], tys, eqs, mts, K, [0, 1, 3, 4, 5, 6], [], []⟩
noncomputable def f144G (K : Nat) (a0 : Int) (a1 : Int × Int × Int) : Option (List tA) :=
  (f198G K a1).bind fun y1 => (f203G K a0).bind fun y2 => (f202G K y2 (fun z3 => f204G K z3 a1 y1.1 y1.2)).bind fun y4 => some y4
noncomputable def f144M (K : Nat) : Mdl := ⟨[(.ro, sI), (.ro, sL)], [(.list 89 sA)], fun x => f144G K x.1 x.2.1⟩
/-! slices.Index[[]impl.Mat,impl.Mat] -/
noncomputable def f251C : Code := codeOf Tryz.f251
noncomputable def f251E (K : Nat) : Env := ⟨[], tys, eqs, mts, K, [0, 1, 3, 4, 5, 7, 8, 9, 16], [], []⟩
noncomputable def f251_b2 (K : Nat) (a0 : List tA) (a1 : Int × Int × Int × Int) (L2 : Int → Option Int) (q3 : Int) : Option Int :=
  (bif (decide (q3 < (a0.length : Int))) then (bif (decide (0 ≤ q3) && decide (q3 < (a0.length : Int))) then (bif ((a1.1 == (a0.getD ((0 : Int) + q3).toNat zA).1) && ((a1.2.1 == ((a0.getD ((0 : Int) + q3).toNat zA).2).1) && ((a1.2.2.1 == (((a0.getD ((0 : Int) + q3).toNat zA).2).2).1) && (a1.2.2.2 == (((a0.getD ((0 : Int) + q3).toNat zA).2).2).2)))) then some q3 else L2 (w (q3 + (1 : Int)))) else none) else some (-1 : Int))
noncomputable def f251_l2 (K : Nat) (a0 : List tA) (a1 : Int × Int × Int × Int) (n : Nat) (q3 : Int) : Option Int :=
  iter (X := Int) (fun L x => (fun L2 => f251_b2 K a0 a1 L2 x) (fun v0 => L v0)) n q3
noncomputable def f251_fr2 (a0 : List tA) (a1 : Int × Int × Int × Int) (q3 : Int) : Fr := ⟨19, [(0, .v false [.row 0]), (1, .v true [.int .i64 a1.1, .int .i64 a1.2.1, .int .i64 a1.2.2.1, .int .i64 a1.2.2.2]), (3, .v false [.box 0 0]), (4, .v false [.int .i64 (0 : Int)]), (7, .v false [.int .i64 (a0.length : Int)]), (8, .v false [.int .i64 q3])], [some ⟨true, [.int .i64 a1.1, .int .i64 a1.2.1, .int .i64 a1.2.2.1, .int .i64 a1.2.2.2]⟩], [some ⟨89, sA, a0, .ro⟩]⟩
noncomputable def f251_k2 (K : Nat) (a0 : List tA) (a1 : Int × Int × Int × Int) (lr : LR Int) : Ex → Fr → Option Int :=
  contC (f251E K) 1 lr f251C [1, 0, 1, 0] (finK (f251E K) Tryz.f251 [(.ro, (.list 89 sA)), (.ro, sA)] [sI] (a0, a1, ()))
noncomputable def f251_g (K : Nat) (a0 : List tA) (a1 : Int × Int × Int × Int) (I2 : Int → Option Int) : Option Int :=
  I2 (0 : Int)
noncomputable def f251G (K : Nat) (a0 : List tA) (a1 : Int × Int × Int × Int) : Option Int :=
  f251_g K a0 a1 (fun d0 => f251_l2 K a0 a1 K d0)
noncomputable def f251M (K : Nat) : Mdl := ⟨[(.ro, (.list 89 sA)), (.ro, sA)], [sI], fun x => f251G K x.1 x.2.1⟩
/-! slices.Contains[[]impl.Mat,impl.Mat] -/
noncomputable def f209E (K : Nat) : Env := ⟨[(251, f251M K)], tys, eqs, mts, K, [0, 1, 3, 4], [], []⟩
noncomputable def f209G (K : Nat) (a0 : List tA) (a1 : Int × Int × Int × Int) : Option Bool :=
  (f251G K a0 a1).bind fun y1 => some (decide (y1 ≥ (0 : Int)))
noncomputable def f209M (K : Nat) : Mdl := ⟨[(.ro, (.list 89 sA)), (.ro, sA)], [.bool], fun x => f209G K x.1 x.2.1⟩
/-! impl.compareNumbers -/
noncomputable def f179C : Code := codeOf Tryz.f179
noncomputable def f179E (K : Nat) : Env := ⟨[], tys, eqs, mts, K, [0, 1, 4, 5, 7, 8, 9, 19, 28], [], []⟩
noncomputable def f179_b2 (K : Nat) (a0 : List Int) (a1 : List Int) (L2 : Int → Option Int) (q3 : Int) : Option Int :=
  (bif (decide (q3 < (a0.length : Int))) then (bif (decide (0 ≤ q3) && decide (q3 < (a0.length : Int))) then (bif (decide (0 ≤ q3) && decide (q3 < (a1.length : Int))) then (bif ((a0.getD ((0 : Int) + q3).toNat (0 : Int)) != (a1.getD ((0 : Int) + q3).toNat (0 : Int))) then (bif (decide (0 ≤ q3) && decide (q3 < (a0.length : Int))) then (bif (decide (0 ≤ q3) && decide (q3 < (a1.length : Int))) then (bif (decide ((a0.getD ((0 : Int) + q3).toNat (0 : Int)) < (a1.getD ((0 : Int) + q3).toNat (0 : Int)))) then some (-1 : Int) else some (1 : Int)) else none) else none) else L2 (w (q3 + (1 : Int)))) else none) else none) else some (0 : Int))
noncomputable def f179_l2 (K : Nat) (a0 : List Int) (a1 : List Int) (n : Nat) (q3 : Int) : Option Int :=
  iter (X := Int) (fun L x => (fun L2 => f179_b2 K a0 a1 L2 x) (fun v0 => L v0)) n q3
noncomputable def f179_fr2 (a0 : List Int) (a1 : List Int) (q3 : Int) : Fr := ⟨30, [(0, .v false [.row 0]), (1, .v false [.row 1]), (4, .v false [.int .i64 (0 : Int)]), (7, .v false [.int .i64 (a0.length : Int)]), (8, .v false [.int .i64 q3])], [], [some ⟨2, sI, a0, .ro⟩, some ⟨2, sI, a1, .ro⟩]⟩
noncomputable def f179_k2 (K : Nat) (a0 : List Int) (a1 : List Int) (lr : LR Int) : Ex → Fr → Option Int :=
  contC (f179E K) 2 lr f179C [1, 0, 1, 0] (finK (f179E K) Tryz.f179 [(.ro, (.list 2 sI)), (.ro, (.list 2 sI))] [sI] (a0, a1, ()))
noncomputable def f179_g (K : Nat) (a0 : List Int) (a1 : List Int) (I2 : Int → Option Int) : Option Int :=
  I2 (0 : Int)
noncomputable def f179G (K : Nat) (a0 : List Int) (a1 : List Int) : Option Int :=
  f179_g K a0 a1 (fun d0 => f179_l2 K a0 a1 K d0)
noncomputable def f179M (K : Nat) : Mdl := ⟨[(.ro, (.list 2 sI)), (.ro, (.list 2 sI))], [sI], fun x => f179G K x.1 x.2.1⟩
/-! impl.compareMats -/
noncomputable def f252E (K : Nat) : Env := ⟨[(179, f179M K)], tys, eqs, mts, K, [0, 1, 2, 3, 4], [], []⟩
noncomputable def f252G (K : Nat) (a0 : Int × Int × Int × Int) (a1 : Int × Int × Int × Int) : Option Int :=
  (f179G K [a0.1, a0.2.1, a0.2.2.1, a0.2.2.2] [a1.1, a1.2.1, a1.2.2.1, a1.2.2.2]).bind fun y1 => some y1
noncomputable def f252M (K : Nat) : Mdl := ⟨[(.ro, sA), (.ro, sA)], [sI], fun x => f252G K x.1 x.2.1⟩
/-! impl.compareVecs -/
noncomputable def f111E (K : Nat) : Env := ⟨[(179, f179M K)], tys, eqs, mts, K, [0, 1, 2, 3, 4], [], []⟩
noncomputable def f111G (K : Nat) (a0 : Int × Int) (a1 : Int × Int) : Option Int :=
  (f179G K [a0.1, a0.2] [a1.1, a1.2]).bind fun y1 => some y1
noncomputable def f111M (K : Nat) : Mdl := ⟨[(.ro, sV), (.ro, sV)], [sI], fun x => f111G K x.1 x.2.1⟩
/-! impl.compareMotions -/
noncomputable def f210E (K : Nat) : Env := ⟨[(111, f111M K), (252, f252M K)], tys, eqs, mts, K, [0, 1, 2, 3, 4, 5, 12], [], []⟩
noncomputable def f210G (K : Nat) (a0 : tA × Int × Int) (a1 : tA × Int × Int) : Option Int :=
  (f252G K a0.1 a1.1).bind fun y1 => (bif (y1 != (0 : Int)) then some y1 else (f111G K a0.2 a1.2).bind fun y2 => some y2)
noncomputable def f210M (K : Nat) : Mdl := ⟨[(.ro, sM), (.ro, sM)], [sI], fun x => f210G K x.1 x.2.1⟩
/-! impl.unit -/
noncomputable def f199E (K : Nat) : Env := ⟨[], tys, eqs, mts, K, [0], [], []⟩
noncomputable def f199G (K : Nat) : Option tA :=
  some ((1 : Int), (0 : Int), (0 : Int), (1 : Int))
noncomputable def f199M (K : Nat) : Mdl := ⟨[], [sA], fun x => f199G K ⟩
/-! (impl.Mat).times -/
noncomputable def f253E (K : Nat) : Env := ⟨[], tys, eqs, mts, K, [0, 1, 2, 3, 4], [], []⟩
noncomputable def f253G (K : Nat) (a0 : Int × Int × Int × Int) (a1 : Int × Int × Int × Int) : Option tA :=
  some ((w ((w (a0.1 * a1.1)) + (w (a0.2.1 * a1.2.2.1)))), (w ((w (a0.1 * a1.2.1)) + (w (a0.2.1 * a1.2.2.2)))), (w ((w (a0.2.2.1 * a1.1)) + (w (a0.2.2.2 * a1.2.2.1)))), (w ((w (a0.2.2.1 * a1.2.1)) + (w (a0.2.2.2 * a1.2.2.2)))))
noncomputable def f253M (K : Nat) : Mdl := ⟨[(.ro, sA), (.ro, sA)], [sA], fun x => f253G K x.1 x.2.1⟩
/-! (impl.Vec).add -/
noncomputable def f174E (K : Nat) : Env := ⟨[], tys, eqs, mts, K, [0, 1, 2, 3, 4], [], []⟩
noncomputable def f174G (K : Nat) (a0 : Int × Int) (a1 : Int × Int) : Option tV :=
  some ((w (a0.1 + a1.1)), (w (a0.2 + a1.2)))
noncomputable def f174M (K : Nat) : Mdl := ⟨[(.ro, sV), (.ro, sV)], [sV], fun x => f174G K x.1 x.2.1⟩
/-! (impl.Motion).times -/
noncomputable def f212E (K : Nat) : Env := ⟨[(174, f174M K), (206, f206M K), (253, f253M K)], tys, eqs, mts, K, [0, 1, 2, 3, 4], [], []⟩
noncomputable def f212G (K : Nat) (a0 : tA × Int × Int) (a1 : tA × Int × Int) : Option tM :=
  (f253G K a0.1 a1.1).bind fun y1 => (f206G K a0.1 a1.2).bind fun y2 => (f174G K y2 a0.2).bind fun y3 => some (y1, y3)
noncomputable def f212M (K : Nat) : Mdl := ⟨[(.ro, sM), (.ro, sM)], [sM], fun x => f212G K x.1 x.2.1⟩
/-! (impl.Lattice).reduceMotion -/
noncomputable def f211E (K : Nat) : Env := ⟨[(119, f119M K)], tys, eqs, mts, K, [0, 1, 2, 3, 4], [], []⟩
noncomputable def f211G (K : Nat) (a0 : Int × Int × Int) (a1 : tA × Int × Int) : Option tM :=
  (f119G K a0 a1.2).bind fun y1 => some (a1.1, y1)
noncomputable def f211M (K : Nat) : Mdl := ⟨[(.ro, sL), (.ro, sM)], [sM], fun x => f211G K x.1 x.2.1⟩
/-! impl.isGroup -/
noncomputable def f148C : Code := codeOf Tryz.f148
noncomputable def f148E (K : Nat) : Env := ⟨[(119, f119M K), (144, f144M K), (199, f199M K), (209, f209M K), (210, f210M K), (211, f211M K), (212, f212M K)], tys, eqs, mts, K, [0, 1, 2, 4, 6, 7, 8, 9, 10, 12, 14, 19, 20, 21, 22, 53, 61, 62, 63, 64, 65, 68, 69, 70, 71, 81], [], []⟩
noncomputable def f148_b23 (K : Nat) (a0 : Int) (a1 : Int × Int × Int) (a2 : List tM) (q7 : Int) (q8 : List (tM × Bool)) (q22 : Int) (y1 : List tA) (y12 : Int × Int × Int × Int) (L21 : Int → Option Bool) (L23 : Int → Option Bool) (q24 : Int) : Option Bool :=
  (bif (decide (q24 < (a2.length : Int))) then (bif (decide (0 ≤ q24) && decide (q24 < (a2.length : Int))) then (f212G K ((((a2.getD ((0 : Int) + q22).toNat zM).1).1, (((a2.getD ((0 : Int) + q22).toNat zM).1).2).1, ((((a2.getD ((0 : Int) + q22).toNat zM).1).2).2)), ((a2.getD ((0 : Int) + q22).toNat zM).2)) ((((a2.getD ((0 : Int) + q24).toNat zM).1).1, (((a2.getD ((0 : Int) + q24).toNat zM).1).2).1, ((((a2.getD ((0 : Int) + q24).toNat zM).1).2).2)), ((a2.getD ((0 : Int) + q24).toNat zM).2))).bind fun y25 => (f211G K a1 y25).bind fun y26 => (bif (!((mfind (eqSh sM) q8 y26).getD false)) then some false else L23 (w (q24 + (1 : Int)))) else none) else L21 (w (q22 + (1 : Int))))
noncomputable def f148_l23 (K : Nat) (a0 : Int) (a1 : Int × Int × Int) (a2 : List tM) (q7 : Int) (q8 : List (tM × Bool)) (q22 : Int) (y1 : List tA) (y12 : Int × Int × Int × Int) (L21 : Int → Option Bool) (n : Nat) (q24 : Int) : Option Bool :=
  iter (X := Int) (fun L x => (fun L23 => f148_b23 K a0 a1 a2 q7 q8 q22 y1 y12 L21 L23 x) (fun v0 => L v0)) n q24
noncomputable def f148_fr23 (a0 : Int) (a1 : Int × Int × Int) (a2 : List tM) (q7 : Int) (q8 : List (tM × Bool)) (q22 : Int) (y1 : List tA) (y12 : Int × Int × Int × Int) (q24 : Int) : Fr := ⟨84, [(0, .v false [.int .i64 a0]), (1, .v true [.int .i64 a1.1, .int .i64 a1.2.1, .int .i64 a1.2.2]), (2, .v false [.row 0]), (4, .v false [.box 0 0]), (6, .v false [.bool false]), (7, .v false [.row 1]), (8, .v false [.mp 1]), (12, .v false [.box 2 0]), (19, .v false [.row 0]), (20, .v false [.int .i64 (a2.length : Int)]), (21, .v false [.int .i64 q7]), (22, .v false [.bool (decide (q7 < (a2.length : Int)))]), (61, .v false [.bool (!((mfind (eqSh sM) q8 (y12, (0 : Int), (0 : Int))).getD false))]), (62, .v false [.row 0]), (63, .v false [.int .i64 (a2.length : Int)]), (64, .v false [.int .i64 q22]), (65, .v false [.bool (decide (q22 < (a2.length : Int)))]), (68, .v false [.row 0]), (69, .v false [.int .i64 (a2.length : Int)]), (70, .v false [.int .i64 q24])], [some ⟨true, [.int .i64 a1.1, .int .i64 a1.2.1, .int .i64 a1.2.2]⟩, some ⟨true, [.mc sM .bool q8]⟩, some ⟨true, [.int .i64 (((a2.getD ((0 : Int) + q22).toNat zM).1).1), .int .i64 ((((a2.getD ((0 : Int) + q22).toNat zM).1).2).1), .int .i64 (((((a2.getD ((0 : Int) + q22).toNat zM).1).2).2).1), .int .i64 (((((a2.getD ((0 : Int) + q22).toNat zM).1).2).2).2), .int .i64 (((a2.getD ((0 : Int) + q22).toNat zM).2).1), .int .i64 (((a2.getD ((0 : Int) + q22).toNat zM).2).2)]⟩], [some ⟨91, sM, a2, .ro⟩, some ⟨89, sA, y1, .own⟩]⟩
noncomputable def f148_b21 (K : Nat) (a0 : Int) (a1 : Int × Int × Int) (a2 : List tM) (q7 : Int) (q8 : List (tM × Bool)) (y1 : List tA) (y12 : Int × Int × Int × Int) (I23 : Int → Int → Option Bool) (L21 : Int → Option Bool) (q22 : Int) : Option Bool :=
  (bif (decide (q22 < (a2.length : Int))) then (bif (decide (0 ≤ q22) && decide (q22 < (a2.length : Int))) then I23 q22 (0 : Int) else none) else some true)
noncomputable def f148_l21 (K : Nat) (a0 : Int) (a1 : Int × Int × Int) (a2 : List tM) (q7 : Int) (q8 : List (tM × Bool)) (y1 : List tA) (y12 : Int × Int × Int × Int) (n : Nat) (q22 : Int) : Option Bool :=
  iter (X := Int) (fun L x => (fun L21 => f148_b21 K a0 a1 a2 q7 q8 y1 y12 (fun c0 d0 => f148_l23 K a0 a1 a2 q7 q8 c0 y1 y12 L21 K d0) L21 x) (fun v0 => L v0)) n q22
noncomputable def f148_fr21 (a0 : Int) (a1 : Int × Int × Int) (a2 : List tM) (q7 : Int) (q8 : List (tM × Bool)) (y1 : List tA) (y12 : Int × Int × Int × Int) (q22 : Int) : Fr := ⟨84, [(0, .v false [.int .i64 a0]), (1, .v true [.int .i64 a1.1, .int .i64 a1.2.1, .int .i64 a1.2.2]), (2, .v false [.row 0]), (4, .v false [.box 0 0]), (6, .v false [.bool false]), (7, .v false [.row 1]), (8, .v false [.mp 1]), (19, .v false [.row 0]), (20, .v false [.int .i64 (a2.length : Int)]), (21, .v false [.int .i64 q7]), (22, .v false [.bool (decide (q7 < (a2.length : Int)))]), (61, .v false [.bool (!((mfind (eqSh sM) q8 (y12, (0 : Int), (0 : Int))).getD false))]), (62, .v false [.row 0]), (63, .v false [.int .i64 (a2.length : Int)]), (64, .v false [.int .i64 q22])], [some ⟨true, [.int .i64 a1.1, .int .i64 a1.2.1, .int .i64 a1.2.2]⟩, some ⟨true, [.mc sM .bool q8]⟩], [some ⟨91, sM, a2, .ro⟩, some ⟨89, sA, y1, .own⟩]⟩
noncomputable def f148_b6 (K : Nat) (a0 : Int) (a1 : Int × Int × Int) (a2 : List tM) (y1 : List tA) (I21 : Int → (List (tM × Bool)) → (List tA) → tA → Int → Option Bool) (L6 : Int → (List (tM × Bool)) → Option Bool) (q7 : Int) (q8 : List (tM × Bool)) : Option Bool :=
  (bif (decide (q7 < (a2.length : Int))) then (bif (decide (0 ≤ q7) && decide (q7 < (a2.length : Int))) then (f209G K y1 (((a2.getD ((0 : Int) + q7).toNat zM).1).1, (((a2.getD ((0 : Int) + q7).toNat zM).1).2).1, ((((a2.getD ((0 : Int) + q7).toNat zM).1).2).2))).bind fun y9 => (bif ((!(!(!y9))) || true) then (bif ((!(!(!y9))) || true) then (bif ((!(!(!y9))) || true) then ((bif (!(!y9)) then f119G K a1 ((a2.getD ((0 : Int) + q7).toNat zM).2) else some ((0 : Int), (0 : Int)))).bind fun y10 => (bif ((!(!(!y9))) || true) then (bif ((!(!(!y9))) || true) then (bif ((!(!(!y9))) || true) then (bif ((!(!(bif (!y9) then true else (!((y10.1 == ((a2.getD ((0 : Int) + q7).toNat zM).2).1) && (y10.2 == ((a2.getD ((0 : Int) + q7).toNat zM).2).2)))))) || true) then (bif ((!(!(bif (!y9) then true else (!((y10.1 == ((a2.getD ((0 : Int) + q7).toNat zM).2).1) && (y10.2 == ((a2.getD ((0 : Int) + q7).toNat zM).2).2)))))) || true) then (bif ((!(!(bif (!y9) then true else (!((y10.1 == ((a2.getD ((0 : Int) + q7).toNat zM).2).1) && (y10.2 == ((a2.getD ((0 : Int) + q7).toNat zM).2).2)))))) || true) then (bif ((!((!(bif (!y9) then true else (!((y10.1 == ((a2.getD ((0 : Int) + q7).toNat zM).2).1) && (y10.2 == ((a2.getD ((0 : Int) + q7).toNat zM).2).2))))) && (decide (q7 > (0 : Int))))) || true) then (bif ((!((!(bif (!y9) then true else (!((y10.1 == ((a2.getD ((0 : Int) + q7).toNat zM).2).1) && (y10.2 == ((a2.getD ((0 : Int) + q7).toNat zM).2).2))))) && (decide (q7 > (0 : Int))))) || true) then (bif ((!((!(bif (!y9) then true else (!((y10.1 == ((a2.getD ((0 : Int) + q7).toNat zM).2).1) && (y10.2 == ((a2.getD ((0 : Int) + q7).toNat zM).2).2))))) && (decide (q7 > (0 : Int))))) || true) then (bif ((!((!(bif (!y9) then true else (!((y10.1 == ((a2.getD ((0 : Int) + q7).toNat zM).2).1) && (y10.2 == ((a2.getD ((0 : Int) + q7).toNat zM).2).2))))) && (decide (q7 > (0 : Int))))) || (decide (0 ≤ (w (q7 - (1 : Int)))) && decide ((w (q7 - (1 : Int))) < (a2.length : Int)))) then (bif ((!((!(bif (!y9) then true else (!((y10.1 == ((a2.getD ((0 : Int) + q7).toNat zM).2).1) && (y10.2 == ((a2.getD ((0 : Int) + q7).toNat zM).2).2))))) && (decide (q7 > (0 : Int))))) || true) then (bif ((!((!(bif (!y9) then true else (!((y10.1 == ((a2.getD ((0 : Int) + q7).toNat zM).2).1) && (y10.2 == ((a2.getD ((0 : Int) + q7).toNat zM).2).2))))) && (decide (q7 > (0 : Int))))) || true) then ((bif ((!(bif (!y9) then true else (!((y10.1 == ((a2.getD ((0 : Int) + q7).toNat zM).2).1) && (y10.2 == ((a2.getD ((0 : Int) + q7).toNat zM).2).2))))) && (decide (q7 > (0 : Int)))) then f210G K ((((a2.getD ((0 : Int) + (w (q7 - (1 : Int)))).toNat zM).1).1, (((a2.getD ((0 : Int) + (w (q7 - (1 : Int)))).toNat zM).1).2).1, ((((a2.getD ((0 : Int) + (w (q7 - (1 : Int)))).toNat zM).1).2).2)), ((a2.getD ((0 : Int) + (w (q7 - (1 : Int)))).toNat zM).2)) ((((a2.getD ((0 : Int) + q7).toNat zM).1).1, (((a2.getD ((0 : Int) + q7).toNat zM).1).2).1, ((((a2.getD ((0 : Int) + q7).toNat zM).1).2).2)), ((a2.getD ((0 : Int) + q7).toNat zM).2)) else some (0 : Int))).bind fun y11 => (bif ((!((!(bif (!y9) then true else (!((y10.1 == ((a2.getD ((0 : Int) + q7).toNat zM).2).1) && (y10.2 == ((a2.getD ((0 : Int) + q7).toNat zM).2).2))))) && (decide (q7 > (0 : Int))))) || true) then (bif ((!(!(bif (!y9) then true else (!((y10.1 == ((a2.getD ((0 : Int) + q7).toNat zM).2).1) && (y10.2 == ((a2.getD ((0 : Int) + q7).toNat zM).2).2)))))) || true) then (bif (bif (bif (!y9) then true else (!((y10.1 == ((a2.getD ((0 : Int) + q7).toNat zM).2).1) && (y10.2 == ((a2.getD ((0 : Int) + q7).toNat zM).2).2)))) then true else (bif (decide (q7 > (0 : Int))) then (decide (y11 ≥ (0 : Int))) else false)) then some false else L6 (w (q7 + (1 : Int))) (mput (eqSh sM) q8 ((((a2.getD ((0 : Int) + q7).toNat zM).1).1, (((a2.getD ((0 : Int) + q7).toNat zM).1).2).1, ((((a2.getD ((0 : Int) + q7).toNat zM).1).2).2)), ((a2.getD ((0 : Int) + q7).toNat zM).2)) true)) else none) else none) else none) else none) else none) else none) else none) else none) else none) else none) else none) else none) else none) else none) else none) else none) else none) else none) else (f199G K).bind fun y12 => (bif (!((mfind (eqSh sM) q8 (y12, (0 : Int), (0 : Int))).getD false)) then some false else I21 q7 q8 y1 y12 (0 : Int)))
noncomputable def f148_l6 (K : Nat) (a0 : Int) (a1 : Int × Int × Int) (a2 : List tM) (y1 : List tA) (n : Nat) (q7 : Int) (q8 : List (tM × Bool)) : Option Bool :=
  iter (X := Int × List (tM × Bool)) (fun L x => (fun L6 => f148_b6 K a0 a1 a2 y1 (fun c0 c1 c2 c3 d0 => f148_l21 K a0 a1 a2 c0 c1 c2 c3 K d0) L6 x.1 x.2) (fun v0 v1 => L (v0, v1))) n (q7, q8)
noncomputable def f148_fr6 (a0 : Int) (a1 : Int × Int × Int) (a2 : List tM) (y1 : List tA) (q7 : Int) (q8 : List (tM × Bool)) : Fr := ⟨84, [(0, .v false [.int .i64 a0]), (1, .v true [.int .i64 a1.1, .int .i64 a1.2.1, .int .i64 a1.2.2]), (2, .v false [.row 0]), (4, .v false [.box 0 0]), (6, .v false [.bool false]), (7, .v false [.row 1]), (8, .v false [.mp 1]), (19, .v false [.row 0]), (20, .v false [.int .i64 (a2.length : Int)]), (21, .v false [.int .i64 q7])], [some ⟨true, [.int .i64 a1.1, .int .i64 a1.2.1, .int .i64 a1.2.2]⟩, some ⟨true, [.mc sM .bool q8]⟩], [some ⟨91, sM, a2, .ro⟩, some ⟨89, sA, y1, .own⟩]⟩
noncomputable def f148_k6 (K : Nat) (a0 : Int) (a1 : Int × Int × Int) (a2 : List tM) (lr : LR Bool) : Ex → Fr → Option Bool :=
  contC (f148E K) 1 lr f148C [1, 1, 0, 1, 0] (finK (f148E K) Tryz.f148 [(.ro, sI), (.ro, sL), (.ro, (.list 91 sM))] [.bool] (a0, a1, a2, ()))
noncomputable def f148_k21 (K : Nat) (a0 : Int) (a1 : Int × Int × Int) (a2 : List tM) (lr : LR Bool) : Ex → Fr → Option Bool :=
  contC (f148E K) 1 lr f148C [1, 1, 1, 1, 0, 1, 0] (finK (f148E K) Tryz.f148 [(.ro, sI), (.ro, sL), (.ro, (.list 91 sM))] [.bool] (a0, a1, a2, ()))
noncomputable def f148_k23 (K : Nat) (a0 : Int) (a1 : Int × Int × Int) (a2 : List tM) (q7 : Int) (q8 : List (tM × Bool)) (y1 : List tA) (y12 : Int × Int × Int × Int) (F21 : Fr → Option Bool) (bq22 : Int) (lr : LR Bool) : Ex → Fr → Option Bool :=
  contC (f148E K) 1 lr (selC f148C [1, 1, 1, 1, 0, 1, 0, 0]) [1, 1, 0, 0, 1, 1, 0] (loopK 1 (f148_fr21 a0 a1 a2 q7 q8 y1 y12 bq22) F21 (f148_k21 K a0 a1 a2 lr))
noncomputable def f148_g (K : Nat) (a0 : Int) (a1 : Int × Int × Int) (a2 : List tM) (I6 : (List tA) → Int → (List (tM × Bool)) → Option Bool) : Option Bool :=
  (f144G K a0 a1).bind fun y1 => I6 y1 (0 : Int) []
noncomputable def f148G (K : Nat) (a0 : Int) (a1 : Int × Int × Int) (a2 : List tM) : Option Bool :=
  f148_g K a0 a1 a2 (fun c0 d0 d1 => f148_l6 K a0 a1 a2 c0 K d0 d1)
noncomputable def f148M (K : Nat) : Mdl := ⟨[(.ro, sI), (.ro, sL), (.ro, (.list 91 sM))], [.bool], fun x => f148G K x.1 x.2.1 x.2.2.1⟩
/-! impl.groupCode -/
noncomputable def f92C : Code := codeOf Tryz.f92
noncomputable def f92E (K : Nat) : Env := ⟨[(148, f148M K), (155, f155M K)], tys, eqs, mts, K, [0, 1, 2, 4, 6, 7, 9, 14, 16, 17, 18, 19, 26], [], []⟩
noncomputable def f92_b4 (K : Nat) (a0 : Int) (a1 : Int × Int × Int) (a2 : List (List tM)) (y1 : Int) (L4 : Int → Option Int) (q5 : Int) : Option Int :=
  (bif (decide (q5 < (a2.length : Int))) then (bif (decide (0 ≤ q5) && decide (q5 < (a2.length : Int))) then (f148G K a0 a1 (a2.getD ((0 : Int) + q5).toNat [])).bind fun y6 => (bif (!y6) then some (2 : Int) else L4 (w (q5 + (1 : Int)))) else none) else some (0 : Int))
noncomputable def f92_l4 (K : Nat) (a0 : Int) (a1 : Int × Int × Int) (a2 : List (List tM)) (y1 : Int) (n : Nat) (q5 : Int) : Option Int :=
  iter (X := Int) (fun L x => (fun L4 => f92_b4 K a0 a1 a2 y1 L4 x) (fun v0 => L v0)) n q5
noncomputable def f92_fr4 (a0 : Int) (a1 : Int × Int × Int) (a2 : List (List tM)) (y1 : Int) (q5 : Int) : Fr := ⟨28, [(0, .v false [.int .i64 a0]), (1, .v true [.int .i64 a1.1, .int .i64 a1.2.1, .int .i64 a1.2.2]), (2, .v false [.row 0]), (4, .v false [.box 0 0]), (6, .v false [.int .i64 (0 : Int)]), (7, .v false [.int .i64 y1]), (14, .v false [.bool (y1 != (0 : Int))]), (16, .v false [.row 0]), (17, .v false [.int .i64 (a2.length : Int)]), (18, .v false [.int .i64 q5])], [some ⟨true, [.int .i64 a1.1, .int .i64 a1.2.1, .int .i64 a1.2.2]⟩], [some ⟨30, (.list 91 sM), a2, .ro⟩]⟩
noncomputable def f92_k4 (K : Nat) (a0 : Int) (a1 : Int × Int × Int) (a2 : List (List tM)) (lr : LR Int) : Ex → Fr → Option Int :=
  contC (f92E K) 1 lr f92C [1, 1, 0, 1, 0] (finK (f92E K) Tryz.f92 [(.ro, sI), (.ro, sL), (.ro, (.list 30 (.list 91 sM)))] [sI] (a0, a1, a2, ()))
noncomputable def f92_g (K : Nat) (a0 : Int) (a1 : Int × Int × Int) (a2 : List (List tM)) (I4 : Int → Int → Option Int) : Option Int :=
  (f155G K a0 a1).bind fun y1 => (bif (y1 != (0 : Int)) then some y1 else I4 y1 (0 : Int))
noncomputable def f92G (K : Nat) (a0 : Int) (a1 : Int × Int × Int) (a2 : List (List tM)) : Option Int :=
  f92_g K a0 a1 a2 (fun c0 d0 => f92_l4 K a0 a1 a2 c0 K d0)
noncomputable def f92M (K : Nat) : Mdl := ⟨[(.ro, sI), (.ro, sL), (.ro, (.list 30 (.list 91 sM)))], [sI], fun x => f92G K x.1 x.2.1 x.2.2.1⟩
/-! math/bits.Mul -/
noncomputable def f201G (K : Nat) (a0 : Int) (a1 : Int) : Option tV := mulF a0 a1
noncomputable def f201M (K : Nat) : Mdl := ⟨[(.ro, (.int .u64)), (.ro, (.int .u64))], [(.int .u64), (.int .u64)], fun x => f201G K x.1 x.2.1⟩
/-! slices.Repeat[[]int64,int64] -/
noncomputable def f143C : Code := codeOf Tryz.f143
noncomputable def f143E (K : Nat) : Env := ⟨[(201, f201M K)], tys, eqs, mts, K, [0, 1, 4, 5, 6, 7, 8, 10, 26, 37], [], []⟩
noncomputable def f143_b3 (K : Nat) (a0 : List Int) (a1 : Int) (y1 : Int × Int) (L3 : Int → (List Int) → Option (List Int)) (q4 : Int) (q5 : List Int) : Option (List Int) :=
  (bif (decide (q4 < (q5.length : Int))) then (bif (decide (0 ≤ q4) && decide (q4 ≤ (q5.length : Int)) && decide ((q5.length : Int) ≤ (q5.length : Int))) then (bif (decide (0 ≤ (0 : Int)) && decide ((0 : Int) ≤ q4) && decide (q4 ≤ (q5.length : Int))) then L3 (w (q4 + (bif decide ((((0 : Int) + (q5.length : Int)) - ((0 : Int) + q4)) ≤ (((0 : Int) + q4) - (0 : Int))) then (((0 : Int) + (q5.length : Int)) - ((0 : Int) + q4)) else (((0 : Int) + q4) - (0 : Int))))) (q5.take ((0 : Int) + q4).toNat ++ ((q5.take ((0 : Int) + (((0 : Int) + q4) - (0 : Int))).toNat).drop 0).take (bif decide ((((0 : Int) + (q5.length : Int)) - ((0 : Int) + q4)) ≤ (((0 : Int) + q4) - (0 : Int))) then (((0 : Int) + (q5.length : Int)) - ((0 : Int) + q4)) else (((0 : Int) + q4) - (0 : Int))).toNat ++ q5.drop (((0 : Int) + q4).toNat + (bif decide ((((0 : Int) + (q5.length : Int)) - ((0 : Int) + q4)) ≤ (((0 : Int) + q4) - (0 : Int))) then (((0 : Int) + (q5.length : Int)) - ((0 : Int) + q4)) else (((0 : Int) + q4) - (0 : Int))).toNat)) else none) else none) else some q5)
noncomputable def f143_l3 (K : Nat) (a0 : List Int) (a1 : Int) (y1 : Int × Int) (n : Nat) (q4 : Int) (q5 : List Int) : Option (List Int) :=
  iter (X := Int × List Int) (fun L x => (fun L3 => f143_b3 K a0 a1 y1 L3 x.1 x.2) (fun v0 v1 => L (v0, v1))) n (q4, q5)
noncomputable def f143_fr3 (a0 : List Int) (a1 : Int) (y1 : Int × Int) (q4 : Int) (q5 : List Int) : Fr := ⟨48, [(0, .v false [.row 0]), (1, .v false [.int .i64 a1]), (4, .v false [.row 1]), (5, .v false [.int .u64 y1.1]), (6, .v false [.int .u64 y1.2]), (7, .v false [.row 2]), (8, .v false [.int .i64 q4]), (10, .v false [.bool (decide (a1 < (0 : Int)))]), (26, .v false [.bool (bif (decide (y1.1 > (0 : Int))) then true else (decide (y1.2 > (9223372036854775807 : Int))))])], [], [some ⟨2, sI, a0, .ro⟩, some ⟨2, sI, [], .own⟩, some ⟨2, sI, q5, .own⟩]⟩
noncomputable def f143_k3 (K : Nat) (a0 : List Int) (a1 : Int) (lr : LR (List Int)) : Ex → Fr → Option (List Int) :=
  contC (f143E K) 1 lr f143C [1, 1, 1, 1, 1, 1, 0, 0] (finK (f143E K) Tryz.f143 [(.ro, (.list 2 sI)), (.ro, sI)] [(.list 2 sI)] (a0, a1, ()))
noncomputable def f143_g (K : Nat) (a0 : List Int) (a1 : Int) (I3 : tV → Int → (List Int) → Option (List Int)) : Option (List Int) :=
  (bif (decide (a1 < (0 : Int))) then none else (f201G K (IntKind.u64.wrap (a0.length : Int)) (IntKind.u64.wrap a1)).bind fun y1 => (bif ((!(!(decide (y1.1 > (0 : Int))))) || true) then (bif ((!(!(decide (y1.1 > (0 : Int))))) || true) then (bif (bif (decide (y1.1 > (0 : Int))) then true else (decide (y1.2 > (9223372036854775807 : Int)))) then none else (bif (decide (0 ≤ (w y1.2)) && Nat.ble (w y1.2).toNat (lim 8) && ((w y1.2) == (w y1.2))) then I3 y1 (bif decide (((List.replicate (w y1.2).toNat (0 : Int)).length : Int) ≤ (a0.length : Int)) then ((List.replicate (w y1.2).toNat (0 : Int)).length : Int) else (a0.length : Int)) ((List.replicate (w y1.2).toNat (0 : Int)).take 0 ++ ((a0.take ((0 : Int) + (a0.length : Int)).toNat).drop 0).take (bif decide (((List.replicate (w y1.2).toNat (0 : Int)).length : Int) ≤ (a0.length : Int)) then ((List.replicate (w y1.2).toNat (0 : Int)).length : Int) else (a0.length : Int)).toNat ++ (List.replicate (w y1.2).toNat (0 : Int)).drop (0 + (bif decide (((List.replicate (w y1.2).toNat (0 : Int)).length : Int) ≤ (a0.length : Int)) then ((List.replicate (w y1.2).toNat (0 : Int)).length : Int) else (a0.length : Int)).toNat)) else none)) else none) else none))
noncomputable def f143G (K : Nat) (a0 : List Int) (a1 : Int) : Option (List Int) :=
  f143_g K a0 a1 (fun c0 d0 d1 => f143_l3 K a0 a1 c0 K d0 d1)
noncomputable def f143M (K : Nat) : Mdl := ⟨[(.ro, (.list 2 sI)), (.ro, sI)], [(.list 2 sI)], fun x => f143G K x.1 x.2.1⟩
/-! (impl.Lattice).cells -/
noncomputable def f108C : Code := codeOf Tryz.f108
noncomputable def f108E (K : Nat) : Env := ⟨[], tys, eqs, mts, K, [0, 1, 2, 3, 4, 5, 8, 9, 10, 13, 14, 15], [], []⟩
noncomputable def f108_b9 (K : Nat) (a0 : Int × Int × Int) (q7 : Int) (L6 : Int → (List tV) → Option (List tV)) (L9 : Int → (List tV) → Option (List tV)) (q10 : Int) (q11 : List tV) : Option (List tV) :=
  (bif (decide (q10 < a0.2.2)) then (bif (Nat.ble (q11.length + [(q7, q10)].length) (lim 16)) then L9 (w (q10 + (1 : Int))) (q11 ++ [(q7, q10)]) else none) else L6 (w (q7 + (1 : Int))) q11)
noncomputable def f108_l9 (K : Nat) (a0 : Int × Int × Int) (q7 : Int) (L6 : Int → (List tV) → Option (List tV)) (n : Nat) (q10 : Int) (q11 : List tV) : Option (List tV) :=
  iter (X := Int × List tV) (fun L x => (fun L9 => f108_b9 K a0 q7 L6 L9 x.1 x.2) (fun v0 v1 => L (v0, v1))) n (q10, q11)
noncomputable def f108_fr9 (a0 : Int × Int × Int) (q7 : Int) (q10 : Int) (q11 : List tV) : Fr := ⟨26, [(0, .v true [.int .i64 a0.1, .int .i64 a0.2.1, .int .i64 a0.2.2]), (1, .v false [.box 0 0]), (2, .v false [.row 0]), (3, .v false [.row 1]), (4, .v false [.int .i64 q7]), (8, .v false [.int .i64 a0.1]), (9, .v false [.int .i64 q7]), (10, .v false [.bool (decide (q7 < a0.1))]), (13, .v false [.int .i64 a0.2.2]), (14, .v false [.int .i64 q10])], [some ⟨true, [.int .i64 a0.1, .int .i64 a0.2.1, .int .i64 a0.2.2]⟩], [some ⟨53, sV, [], .own⟩, some ⟨53, sV, q11, .own⟩]⟩
noncomputable def f108_b6 (K : Nat) (a0 : Int × Int × Int) (I9 : Int → Int → (List tV) → Option (List tV)) (L6 : Int → (List tV) → Option (List tV)) (q7 : Int) (q8 : List tV) : Option (List tV) :=
  (bif (decide (q7 < a0.1)) then I9 q7 (0 : Int) q8 else some q8)
noncomputable def f108_l6 (K : Nat) (a0 : Int × Int × Int) (n : Nat) (q7 : Int) (q8 : List tV) : Option (List tV) :=
  iter (X := Int × List tV) (fun L x => (fun L6 => f108_b6 K a0 (fun c0 d0 d1 => f108_l9 K a0 c0 L6 K d0 d1) L6 x.1 x.2) (fun v0 v1 => L (v0, v1))) n (q7, q8)
noncomputable def f108_fr6 (a0 : Int × Int × Int) (q7 : Int) (q8 : List tV) : Fr := ⟨26, [(0, .v true [.int .i64 a0.1, .int .i64 a0.2.1, .int .i64 a0.2.2]), (1, .v false [.box 0 0]), (2, .v false [.row 0]), (3, .v false [.row 1]), (8, .v false [.int .i64 a0.1]), (9, .v false [.int .i64 q7])], [some ⟨true, [.int .i64 a0.1, .int .i64 a0.2.1, .int .i64 a0.2.2]⟩], [some ⟨53, sV, [], .own⟩, some ⟨53, sV, q8, .own⟩]⟩
noncomputable def f108_k6 (K : Nat) (a0 : Int × Int × Int) (lr : LR (List tV)) : Ex → Fr → Option (List tV) :=
  contC (f108E K) 0 lr f108C [1, 1, 0, 1, 0] (finK (f108E K) Tryz.f108 [(.ro, sL)] [(.list 53 sV)] (a0, ()))
noncomputable def f108_k9 (K : Nat) (a0 : Int × Int × Int) (F6 : Fr → Option (List tV)) (bq7 : Int) (bq8 : List tV) (lr : LR (List tV)) : Ex → Fr → Option (List tV) :=
  contC (f108E K) 0 lr (selC f108C [1, 1, 0, 1, 0, 0]) [1, 1, 0, 0, 1, 1, 0] (loopK 0 (f108_fr6 a0 bq7 bq8) F6 (f108_k6 K a0 lr))
noncomputable def f108_g (K : Nat) (a0 : Int × Int × Int) (I6 : Int → (List tV) → Option (List tV)) : Option (List tV) :=
  I6 (0 : Int) []
noncomputable def f108G (K : Nat) (a0 : Int × Int × Int) : Option (List tV) :=
  f108_g K a0 (fun d0 d1 => f108_l6 K a0 K d0 d1)
noncomputable def f108M (K : Nat) : Mdl := ⟨[(.ro, sL)], [(.list 53 sV)], fun x => f108G K x.1⟩
/-! (impl.Lattice).number -/
noncomputable def f82E (K : Nat) : Env := ⟨[], tys, eqs, mts, K, [0, 1, 2, 3, 4], [], []⟩
noncomputable def f82G (K : Nat) (a0 : Int × Int × Int) (a1 : Int × Int) : Option Int :=
  some (w ((w (a1.1 * a0.2.2)) + a1.2))
noncomputable def f82M (K : Nat) : Mdl := ⟨[(.ro, sL), (.ro, sV)], [sI], fun x => f82G K x.1 x.2.1⟩
/-! (impl.Motion).apply -/
noncomputable def f207E (K : Nat) : Env := ⟨[(174, f174M K), (206, f206M K)], tys, eqs, mts, K, [0, 1, 2, 3, 4], [], []⟩
noncomputable def f207G (K : Nat) (a0 : tA × Int × Int) (a1 : Int × Int) : Option tV :=
  (f206G K a0.1 a1).bind fun y1 => (f174G K y1 a0.2).bind fun y2 => some y2
noncomputable def f207M (K : Nat) : Mdl := ⟨[(.ro, sM), (.ro, sV)], [sV], fun x => f207G K x.1 x.2.1⟩
/-! (impl.Lattice).take -/
noncomputable def f150E (K : Nat) : Env := ⟨[(119, f119M K), (207, f207M K)], tys, eqs, mts, K, [0, 1, 2, 3, 4, 5, 6], [], []⟩
noncomputable def f150G (K : Nat) (a0 : Int × Int × Int) (a1 : tA × Int × Int) (a2 : Int × Int) : Option tV :=
  (f207G K a1 a2).bind fun y1 => (f119G K a0 y1).bind fun y2 => some y2
noncomputable def f150M (K : Nat) : Mdl := ⟨[(.ro, sL), (.ro, sM), (.ro, sV)], [sV], fun x => f150G K x.1 x.2.1 x.2.2.1⟩
/-! slices.SortFunc[[]impl.Vec,impl.Vec] -/
noncomputable def f110G (K : Nat) (a0 : List tV) (a1 : tV → tV → Option Int) : Option (List tV) := sortF sV a0 a1
noncomputable def f110M (K : Nat) : Mdl := ⟨[(.io, (.list 53 sV)), (.ro, (.fn2 sV sV sI))], [], fun x => f110G K x.1 x.2.1⟩
/-! slices.Compact[[]impl.Vec,impl.Vec] -/
noncomputable def f151C : Code := codeOf Tryz.f151
noncomputable def f151E (K : Nat) : Env := ⟨[], tys, eqs, mts, K, [0, 2, 3, 4, 5, 8, 13, 25, 32, 44], [], []⟩
noncomputable def f151_b9 (K : Nat) (a0 : List tV) (q8 : Int) (L9 : Int → Int → (List tV) → Option (List tV)) (q10 : Int) (q11 : Int) (q12 : List tV) : Option (List tV) :=
  (bif (decide (q11 < (((0 : Int) + (a0.length : Int)) - ((0 : Int) + q8)))) then (bif (decide (0 ≤ q11) && decide (q11 < (((0 : Int) + (a0.length : Int)) - ((0 : Int) + q8)))) then (bif (decide (0 ≤ (w (q11 - (1 : Int)))) && decide ((w (q11 - (1 : Int))) < (((0 : Int) + (a0.length : Int)) - ((0 : Int) + q8)))) then (bif (!(((q12.getD (((0 : Int) + q8) + q11).toNat ((0 : Int), (0 : Int))).1 == (q12.getD (((0 : Int) + q8) + (w (q11 - (1 : Int)))).toNat ((0 : Int), (0 : Int))).1) && ((q12.getD (((0 : Int) + q8) + q11).toNat ((0 : Int), (0 : Int))).2 == (q12.getD (((0 : Int) + q8) + (w (q11 - (1 : Int)))).toNat ((0 : Int), (0 : Int))).2))) then (bif (decide (0 ≤ q11) && decide (q11 < (((0 : Int) + (a0.length : Int)) - ((0 : Int) + q8)))) then (bif (decide (0 ≤ q10) && decide (q10 < (q12.length : Int))) then L9 (w (q10 + (1 : Int))) (w (q11 + (1 : Int))) (q12.set ((0 : Int) + q10).toNat (q12.getD (((0 : Int) + q8) + q11).toNat ((0 : Int), (0 : Int)))) else none) else none) else L9 q10 (w (q11 + (1 : Int))) q12) else none) else none) else (bif (decide (0 ≤ q10) && decide (q10 ≤ (q12.length : Int)) && decide ((q12.length : Int) ≤ (q12.length : Int))) then (bif (decide (0 ≤ (0 : Int)) && decide ((0 : Int) ≤ q10) && decide (q10 ≤ ((clr q12 ((0 : Int) + q10).toNat (((0 : Int) + q10) + (((0 : Int) + (q12.length : Int)) - ((0 : Int) + q10))).toNat ((0 : Int), (0 : Int))).length : Int))) then some ((clr q12 ((0 : Int) + q10).toNat (((0 : Int) + q10) + (((0 : Int) + (q12.length : Int)) - ((0 : Int) + q10))).toNat ((0 : Int), (0 : Int))).take ((0 : Int) + q10).toNat) else none) else none))
noncomputable def f151_l9 (K : Nat) (a0 : List tV) (q8 : Int) (n : Nat) (q10 : Int) (q11 : Int) (q12 : List tV) : Option (List tV) :=
  iter (X := Int × Int × List tV) (fun L x => (fun L9 => f151_b9 K a0 q8 L9 x.1 x.2.1 x.2.2) (fun v0 v1 v2 => L (v0, v1, v2))) n (q10, q11, q12)
noncomputable def f151_fr9 (a0 : List tV) (q8 : Int) (q10 : Int) (q11 : Int) (q12 : List tV) : Fr := ⟨61, [(0, .v false [.row 0]), (2, .v false [.row 1]), (3, .v false [.int .i64 q10]), (4, .v false [.view 0 ((0 : Int) + q8) ((0 : Int) + (a0.length : Int))]), (5, .v false [.int .i64 q11]), (8, .v false [.bool (decide ((a0.length : Int) < (2 : Int)))]), (13, .v false [.bool (decide (q8 < (a0.length : Int)))]), (25, .v false [.bool (((a0.getD ((0 : Int) + q8).toNat ((0 : Int), (0 : Int))).1 == (a0.getD ((0 : Int) + (w (q8 - (1 : Int)))).toNat ((0 : Int), (0 : Int))).1) && ((a0.getD ((0 : Int) + q8).toNat ((0 : Int), (0 : Int))).2 == (a0.getD ((0 : Int) + (w (q8 - (1 : Int)))).toNat ((0 : Int), (0 : Int))).2))])], [], [some ⟨53, sV, q12, .own⟩, some ⟨53, sV, [], .own⟩]⟩
noncomputable def f151_b7 (K : Nat) (a0 : List tV) (I9 : Int → Int → Int → (List tV) → Option (List tV)) (L7 : Int → Option (List tV)) (q8 : Int) : Option (List tV) :=
  (bif (decide (q8 < (a0.length : Int))) then (bif (decide (0 ≤ q8) && decide (q8 < (a0.length : Int))) then (bif (decide (0 ≤ (w (q8 - (1 : Int)))) && decide ((w (q8 - (1 : Int))) < (a0.length : Int))) then (bif (((a0.getD ((0 : Int) + q8).toNat ((0 : Int), (0 : Int))).1 == (a0.getD ((0 : Int) + (w (q8 - (1 : Int)))).toNat ((0 : Int), (0 : Int))).1) && ((a0.getD ((0 : Int) + q8).toNat ((0 : Int), (0 : Int))).2 == (a0.getD ((0 : Int) + (w (q8 - (1 : Int)))).toNat ((0 : Int), (0 : Int))).2)) then (bif (decide (0 ≤ q8) && decide (q8 ≤ (a0.length : Int)) && decide ((a0.length : Int) ≤ (a0.length : Int))) then I9 q8 q8 (1 : Int) a0 else none) else L7 (w (q8 + (1 : Int)))) else none) else none) else some a0)
noncomputable def f151_l7 (K : Nat) (a0 : List tV) (n : Nat) (q8 : Int) : Option (List tV) :=
  iter (X := Int) (fun L x => (fun L7 => f151_b7 K a0 (fun c0 d0 d1 d2 => f151_l9 K a0 c0 K d0 d1 d2) L7 x) (fun v0 => L v0)) n q8
noncomputable def f151_fr7 (a0 : List tV) (q8 : Int) : Fr := ⟨61, [(0, .v false [.row 0]), (2, .v false [.row 1]), (3, .v false [.int .i64 q8]), (8, .v false [.bool (decide ((a0.length : Int) < (2 : Int)))])], [], [some ⟨53, sV, a0, .own⟩, some ⟨53, sV, [], .own⟩]⟩
noncomputable def f151_k7 (K : Nat) (a0 : List tV) (lr : LR (List tV)) : Ex → Fr → Option (List tV) :=
  contC (f151E K) 1 lr f151C [1, 1, 0, 1, 0] (finK (f151E K) Tryz.f151 [(.mv, (.list 53 sV))] [(.list 53 sV)] (a0, ()))
noncomputable def f151_k9 (K : Nat) (a0 : List tV) (F7 : Fr → Option (List tV)) (bq8 : Int) (lr : LR (List tV)) : Ex → Fr → Option (List tV) :=
  contC (f151E K) 1 lr (selC f151C [1, 1, 0, 1, 0, 0]) [1, 0, 0, 1, 0, 1, 0, 1, 0] (loopK 1 (f151_fr7 a0 bq8) F7 (f151_k7 K a0 lr))
noncomputable def f151_g (K : Nat) (a0 : List tV) (I7 : Int → Option (List tV)) : Option (List tV) :=
  (bif (decide ((a0.length : Int) < (2 : Int))) then some a0 else I7 (1 : Int))
noncomputable def f151G (K : Nat) (a0 : List tV) : Option (List tV) :=
  f151_g K a0 (fun d0 => f151_l7 K a0 K d0)
noncomputable def f151M (K : Nat) : Mdl := ⟨[(.mv, (.list 53 sV))], [(.list 53 sV)], fun x => f151G K x.1⟩
/-! impl.orbitOf -/
noncomputable def f80C : Code := codeOf Tryz.f80
noncomputable def f80E (K : Nat) : Env := ⟨[(110, f110M K), (111, f111M K), (150, f150M K), (151, f151M K)], tys, eqs, mts, K, [0, 1, 2, 3, 5, 6, 7, 9, 11, 12, 13, 14], [], []⟩
noncomputable def f80_b3 (K : Nat) (a0 : Int × Int × Int) (a1 : List tM) (a2 : Int × Int) (L3 : Int → (List tV) → Option (List tV)) (q4 : Int) (q5 : List tV) : Option (List tV) :=
  (bif (decide (q4 < (a1.length : Int))) then (bif (decide (0 ≤ q4) && decide (q4 < (a1.length : Int))) then (f150G K a0 ((((a1.getD ((0 : Int) + q4).toNat zM).1).1, (((a1.getD ((0 : Int) + q4).toNat zM).1).2).1, ((((a1.getD ((0 : Int) + q4).toNat zM).1).2).2)), ((a1.getD ((0 : Int) + q4).toNat zM).2)) a2).bind fun y6 => (bif (Nat.ble (q5.length + [y6].length) (lim 16)) then L3 (w (q4 + (1 : Int))) (q5 ++ [y6]) else none) else none) else (f110G K q5 (fun z7 z8 => f111G K z7 z8)).bind fun y9 => (f151G K y9).bind fun y10 => some y10)
noncomputable def f80_l3 (K : Nat) (a0 : Int × Int × Int) (a1 : List tM) (a2 : Int × Int) (n : Nat) (q4 : Int) (q5 : List tV) : Option (List tV) :=
  iter (X := Int × List tV) (fun L x => (fun L3 => f80_b3 K a0 a1 a2 L3 x.1 x.2) (fun v0 v1 => L (v0, v1))) n (q4, q5)
noncomputable def f80_fr3 (a0 : Int × Int × Int) (a1 : List tM) (a2 : Int × Int) (q4 : Int) (q5 : List tV) : Fr := ⟨29, [(0, .v true [.int .i64 a0.1, .int .i64 a0.2.1, .int .i64 a0.2.2]), (1, .v false [.row 0]), (2, .v true [.int .i64 a2.1, .int .i64 a2.2]), (3, .v false [.box 0 0]), (5, .v false [.box 1 0]), (6, .v false [.row 1]), (7, .v false [.row 2]), (11, .v false [.row 0]), (12, .v false [.int .i64 (a1.length : Int)]), (13, .v false [.int .i64 q4])], [some ⟨true, [.int .i64 a0.1, .int .i64 a0.2.1, .int .i64 a0.2.2]⟩, some ⟨true, [.int .i64 a2.1, .int .i64 a2.2]⟩], [some ⟨91, sM, a1, .ro⟩, some ⟨53, sV, [], .own⟩, some ⟨53, sV, q5, .own⟩]⟩
noncomputable def f80_k3 (K : Nat) (a0 : Int × Int × Int) (a1 : List tM) (a2 : Int × Int) (lr : LR (List tV)) : Ex → Fr → Option (List tV) :=
  contC (f80E K) 1 lr f80C [1, 1, 0, 1, 0] (finK (f80E K) Tryz.f80 [(.ro, sL), (.ro, (.list 91 sM)), (.ro, sV)] [(.list 53 sV)] (a0, a1, a2, ()))
noncomputable def f80_g (K : Nat) (a0 : Int × Int × Int) (a1 : List tM) (a2 : Int × Int) (I3 : Int → (List tV) → Option (List tV)) : Option (List tV) :=
  I3 (0 : Int) []
noncomputable def f80G (K : Nat) (a0 : Int × Int × Int) (a1 : List tM) (a2 : Int × Int) : Option (List tV) :=
  f80_g K a0 a1 a2 (fun d0 d1 => f80_l3 K a0 a1 a2 K d0 d1)
noncomputable def f80M (K : Nat) : Mdl := ⟨[(.ro, sL), (.ro, (.list 91 sM)), (.ro, sV)], [(.list 53 sV)], fun x => f80G K x.1 x.2.1 x.2.2.1⟩
/-! impl.orbitsOf -/
noncomputable def f72C : Code := codeOf Tryz.f72
noncomputable def f72E (K : Nat) : Env := ⟨[(80, f80M K), (82, f82M K), (108, f108M K), (140, f140M K), (143, f143M K)], tys, eqs, mts, K, [0, 1, 2, 4, 5, 6, 7, 9, 10, 12, 19, 20, 21, 22, 31, 36, 37, 38, 39], [], []⟩
noncomputable def f72_b22 (K : Nat) (a0 : Int × Int × Int) (a1 : List tM) (q17 : Int) (q18 : List (List tV)) (q19 : List Int) (y3 : List tV) (y20 : Int) (y21 : List tV) (L16 : Int → (List (List tV)) → (List Int) → Option ((List (List tV)) × List Int)) (L22 : Int → (List Int) → Option ((List (List tV)) × List Int)) (q23 : Int) (q24 : List Int) : Option ((List (List tV)) × List Int) :=
  (bif (decide (q23 < (y21.length : Int))) then (bif (decide (0 ≤ q23) && decide (q23 < (y21.length : Int))) then (f82G K a0 (y21.getD ((0 : Int) + q23).toNat ((0 : Int), (0 : Int)))).bind fun y25 => (bif (decide (0 ≤ y25) && decide (y25 < (q24.length : Int))) then L22 (w (q23 + (1 : Int))) (q24.set ((0 : Int) + y25).toNat (q18.length : Int)) else none) else none) else (bif (Nat.ble (q18.length + [y21].length) (lim 24)) then L16 (w (q17 + (1 : Int))) (q18 ++ [y21]) q24 else none))
noncomputable def f72_l22 (K : Nat) (a0 : Int × Int × Int) (a1 : List tM) (q17 : Int) (q18 : List (List tV)) (q19 : List Int) (y3 : List tV) (y20 : Int) (y21 : List tV) (L16 : Int → (List (List tV)) → (List Int) → Option ((List (List tV)) × List Int)) (n : Nat) (q23 : Int) (q24 : List Int) : Option ((List (List tV)) × List Int) :=
  iter (X := Int × List Int) (fun L x => (fun L22 => f72_b22 K a0 a1 q17 q18 q19 y3 y20 y21 L16 L22 x.1 x.2) (fun v0 v1 => L (v0, v1))) n (q23, q24)
noncomputable def f72_fr22 (a0 : Int × Int × Int) (a1 : List tM) (q17 : Int) (q18 : List (List tV)) (q19 : List Int) (y3 : List tV) (y20 : Int) (y21 : List tV) (q23 : Int) (q24 : List Int) : Fr := ⟨57, [(0, .v true [.int .i64 a0.1, .int .i64 a0.2.1, .int .i64 a0.2.2]), (1, .v false [.row 0]), (2, .v false [.box 0 0]), (4, .v false [.row 1]), (5, .v false [.row 2]), (6, .v false [.row 3]), (7, .v false [.row 4]), (9, .v false [.box 1 0]), (10, .v false [.row 5]), (19, .v false [.row 6]), (20, .v false [.int .i64 (y3.length : Int)]), (21, .v false [.int .i64 q17]), (22, .v false [.bool (decide (q17 < (y3.length : Int)))]), (31, .v false [.bool (decide ((q19.getD ((0 : Int) + y20).toNat (0 : Int)) ≥ (0 : Int)))]), (36, .v false [.row 5]), (37, .v false [.int .i64 (y21.length : Int)]), (38, .v false [.int .i64 q23])], [some ⟨true, [.int .i64 a0.1, .int .i64 a0.2.1, .int .i64 a0.2.2]⟩, some ⟨true, [.int .i64 ((y3.getD ((0 : Int) + q17).toNat ((0 : Int), (0 : Int))).1), .int .i64 ((y3.getD ((0 : Int) + q17).toNat ((0 : Int), (0 : Int))).2)]⟩], [some ⟨91, sM, a1, .ro⟩, some ⟨72, (.list 53 sV), [], .own⟩, some ⟨2, sI, [], .own⟩, some ⟨72, (.list 53 sV), q18, .own⟩, some ⟨2, sI, q24, .own⟩, some ⟨53, sV, y21, .own⟩, some ⟨53, sV, y3, .own⟩]⟩
noncomputable def f72_b16 (K : Nat) (a0 : Int × Int × Int) (a1 : List tM) (y3 : List tV) (I22 : Int → (List (List tV)) → (List Int) → Int → (List tV) → Int → (List Int) → Option ((List (List tV)) × List Int)) (L16 : Int → (List (List tV)) → (List Int) → Option ((List (List tV)) × List Int)) (q17 : Int) (q18 : List (List tV)) (q19 : List Int) : Option ((List (List tV)) × List Int) :=
  (bif (decide (q17 < (y3.length : Int))) then (bif (decide (0 ≤ q17) && decide (q17 < (y3.length : Int))) then (f82G K a0 (y3.getD ((0 : Int) + q17).toNat ((0 : Int), (0 : Int)))).bind fun y20 => (bif (decide (0 ≤ y20) && decide (y20 < (q19.length : Int))) then (bif (decide ((q19.getD ((0 : Int) + y20).toNat (0 : Int)) ≥ (0 : Int))) then L16 (w (q17 + (1 : Int))) q18 q19 else (f80G K a0 a1 (y3.getD ((0 : Int) + q17).toNat ((0 : Int), (0 : Int)))).bind fun y21 => I22 q17 q18 q19 y20 y21 (0 : Int) q19) else none) else none) else some (q18, q19))
noncomputable def f72_l16 (K : Nat) (a0 : Int × Int × Int) (a1 : List tM) (y3 : List tV) (n : Nat) (q17 : Int) (q18 : List (List tV)) (q19 : List Int) : Option ((List (List tV)) × List Int) :=
  iter (X := Int × List (List tV) × List Int) (fun L x => (fun L16 => f72_b16 K a0 a1 y3 (fun c0 c1 c2 c3 c4 d0 d1 => f72_l22 K a0 a1 c0 c1 c2 y3 c3 c4 L16 K d0 d1) L16 x.1 x.2.1 x.2.2) (fun v0 v1 v2 => L (v0, v1, v2))) n (q17, q18, q19)
noncomputable def f72_fr16 (a0 : Int × Int × Int) (a1 : List tM) (y3 : List tV) (q17 : Int) (q18 : List (List tV)) (q19 : List Int) : Fr := ⟨57, [(0, .v true [.int .i64 a0.1, .int .i64 a0.2.1, .int .i64 a0.2.2]), (1, .v false [.row 0]), (2, .v false [.box 0 0]), (4, .v false [.row 1]), (5, .v false [.row 2]), (6, .v false [.row 3]), (7, .v false [.row 4]), (19, .v false [.row 5]), (20, .v false [.int .i64 (y3.length : Int)]), (21, .v false [.int .i64 q17])], [some ⟨true, [.int .i64 a0.1, .int .i64 a0.2.1, .int .i64 a0.2.2]⟩], [some ⟨91, sM, a1, .ro⟩, some ⟨72, (.list 53 sV), [], .own⟩, some ⟨2, sI, [], .own⟩, some ⟨72, (.list 53 sV), q18, .own⟩, some ⟨2, sI, q19, .own⟩, some ⟨53, sV, y3, .own⟩]⟩
noncomputable def f72_k16 (K : Nat) (a0 : Int × Int × Int) (a1 : List tM) (lr : LR ((List (List tV)) × List Int)) : Ex → Fr → Option ((List (List tV)) × List Int) :=
  contC (f72E K) 1 lr f72C [1, 1, 0, 1, 0] (finK (f72E K) Tryz.f72 [(.ro, sL), (.ro, (.list 91 sM))] [(.list 72 (.list 53 sV)), (.list 2 sI)] (a0, a1, ()))
noncomputable def f72_k22 (K : Nat) (a0 : Int × Int × Int) (a1 : List tM) (y3 : List tV) (F16 : Fr → Option ((List (List tV)) × List Int)) (bq17 : Int) (bq18 : List (List tV)) (bq19 : List Int) (lr : LR ((List (List tV)) × List Int)) : Ex → Fr → Option ((List (List tV)) × List Int) :=
  contC (f72E K) 1 lr (selC f72C [1, 1, 0, 1, 0, 0]) [1, 1, 0, 0, 1, 1, 1, 0, 1, 0] (loopK 1 (f72_fr16 a0 a1 y3 bq17 bq18 bq19) F16 (f72_k16 K a0 a1 lr))
noncomputable def f72_g (K : Nat) (a0 : Int × Int × Int) (a1 : List tM) (I16 : (List tV) → Int → (List (List tV)) → (List Int) → Option ((List (List tV)) × List Int)) : Option ((List (List tV)) × List Int) :=
  (f140G K a0).bind fun y1 => (f143G K [(-1 : Int)] y1).bind fun y2 => (f108G K a0).bind fun y3 => I16 y3 (0 : Int) [] y2
noncomputable def f72G (K : Nat) (a0 : Int × Int × Int) (a1 : List tM) : Option ((List (List tV)) × List Int) :=
  f72_g K a0 a1 (fun c0 d0 d1 d2 => f72_l16 K a0 a1 c0 K d0 d1 d2)
noncomputable def f72M (K : Nat) : Mdl := ⟨[(.ro, sL), (.ro, (.list 91 sM))], [(.list 72 (.list 53 sV)), (.list 2 sI)], fun x => f72G K x.1 x.2.1⟩
/-! impl.unitCode$1 -/
noncomputable def f173E (K : Nat) : Env := ⟨[], tys, eqs, mts, K, [0, 1, 3], [], []⟩
noncomputable def f173G (K : Nat) (a0 : List tV) (a1 : List tM) : Option Bool :=
  some (decide ((a0.length : Int) < (a1.length : Int)))
noncomputable def f173M (K : Nat) : Mdl := ⟨[(.ro, (.list 53 sV)), (.cap, (.list 91 sM))], [.bool], fun x => f173G K x.1 x.2.1⟩
/-! slices.IndexFunc[[][]impl.Vec,[]impl.Vec] -/
noncomputable def f181C : Code := codeOf Tryz.f181
noncomputable def f181E (K : Nat) : Env := ⟨[], tys, eqs, mts, K, [0, 1, 4, 5, 7, 8, 9, 16], [], []⟩
noncomputable def f181_b3 (K : Nat) (a0 : List (List tV)) (a1 : ((List tV) → Option Bool)) (L3 : Int → Option Int) (q4 : Int) : Option Int :=
  (bif (decide (q4 < (a0.length : Int))) then (bif (decide (0 ≤ q4) && decide (q4 < (a0.length : Int))) then (a1 (a0.getD ((0 : Int) + q4).toNat [])).bind fun y5 => (bif y5 then some q4 else L3 (w (q4 + (1 : Int)))) else none) else some (-1 : Int))
noncomputable def f181_l3 (K : Nat) (a0 : List (List tV)) (a1 : ((List tV) → Option Bool)) (n : Nat) (q4 : Int) : Option Int :=
  iter (X := Int) (fun L x => (fun L3 => f181_b3 K a0 a1 L3 x) (fun v0 => L v0)) n q4
noncomputable def f181_fr3 (a0 : List (List tV)) (a1 : ((List tV) → Option Bool)) (q4 : Int) : Fr := ⟨19, [(0, .v false [.row 0]), (1, .v false [.fv1 (.list 53 sV) .bool a1]), (4, .v false [.int .i64 (0 : Int)]), (7, .v false [.int .i64 (a0.length : Int)]), (8, .v false [.int .i64 q4])], [], [some ⟨72, (.list 53 sV), a0, .ro⟩]⟩
noncomputable def f181_k3 (K : Nat) (a0 : List (List tV)) (a1 : ((List tV) → Option Bool)) (lr : LR Int) : Ex → Fr → Option Int :=
  contC (f181E K) 1 lr f181C [1, 0, 1, 0] (finK (f181E K) Tryz.f181 [(.ro, (.list 72 (.list 53 sV))), (.ro, (.fn1 (.list 53 sV) .bool))] [sI] (a0, a1, ()))
noncomputable def f181_g (K : Nat) (a0 : List (List tV)) (a1 : ((List tV) → Option Bool)) (I3 : Int → Option Int) : Option Int :=
  I3 (0 : Int)
noncomputable def f181G (K : Nat) (a0 : List (List tV)) (a1 : ((List tV) → Option Bool)) : Option Int :=
  f181_g K a0 a1 (fun d0 => f181_l3 K a0 a1 K d0)
noncomputable def f181M (K : Nat) : Mdl := ⟨[(.ro, (.list 72 (.list 53 sV))), (.ro, (.fn1 (.list 53 sV) .bool))], [sI], fun x => f181G K x.1 x.2.1⟩
/-! slices.ContainsFunc[[][]impl.Vec,[]impl.Vec] -/
noncomputable def f172E (K : Nat) : Env := ⟨[(181, f181M K)], tys, eqs, mts, K, [0, 1, 4], [], []⟩
noncomputable def f172G (K : Nat) (a0 : List (List tV)) (a1 : ((List tV) → Option Bool)) : Option Bool :=
  (f181G K a0 a1).bind fun y1 => some (decide (y1 ≥ (0 : Int)))
noncomputable def f172M (K : Nat) : Mdl := ⟨[(.ro, (.list 72 (.list 53 sV))), (.ro, (.fn1 (.list 53 sV) .bool))], [.bool], fun x => f172G K x.1 x.2.1⟩
/-! impl.unitCode -/
noncomputable def f101E (K : Nat) : Env := ⟨[(72, f72M K), (92, f92M K), (172, f172M K), (173, f173M K)], tys, eqs, mts, K, [0, 1, 2, 4, 5, 6, 7, 8, 9, 17, 27, 30], [], []⟩
noncomputable def f101G (K : Nat) (a0 : Int) (a1 : Int × Int × Int) (a2 : List tM) : Option ((List (List tV)) × Int) :=
  (f92G K a0 a1 [a2]).bind fun y1 => (bif (y1 != (0 : Int)) then some ([], y1) else (f72G K a1 a2).bind fun y2 => (f172G K y2.1 (fun z3 => f173G K z3 a2)).bind fun y4 => (bif y4 then some ([], (5 : Int)) else (bif (decide ((y2.1.length : Int) > (16 : Int))) then some ([], (4 : Int)) else some (y2.1, (0 : Int)))))
noncomputable def f101M (K : Nat) : Mdl := ⟨[(.ro, sI), (.ro, sL), (.ro, (.list 91 sM))], [(.list 72 (.list 53 sV)), sI], fun x => f101G K x.1 x.2.1 x.2.2.1⟩
/-! impl.neighbours -/
noncomputable def f104E (K : Nat) : Env := ⟨[(174, f174M K)], tys, eqs, mts, K, [0, 1, 2], [], []⟩
noncomputable def f104G (K : Nat) (a0 : Int × Int) : Option (List tV) :=
  (f174G K a0 ((1 : Int), (0 : Int))).bind fun y1 => (f174G K a0 ((0 : Int), (1 : Int))).bind fun y2 => (f174G K a0 ((-1 : Int), (0 : Int))).bind fun y3 => (f174G K a0 ((0 : Int), (-1 : Int))).bind fun y4 => some [y1, y2, y3, y4]
noncomputable def f104M (K : Nat) : Mdl := ⟨[(.ro, sV)], [(.list 53 sV)], fun x => f104G K x.1⟩
/-! slices.Index[[]impl.Vec,impl.Vec] -/
noncomputable def f175C : Code := codeOf Tryz.f175
noncomputable def f175E (K : Nat) : Env := ⟨[], tys, eqs, mts, K, [0, 1, 3, 4, 5, 7, 8, 9, 16], [], []⟩
noncomputable def f175_b2 (K : Nat) (a0 : List tV) (a1 : Int × Int) (L2 : Int → Option Int) (q3 : Int) : Option Int :=
  (bif (decide (q3 < (a0.length : Int))) then (bif (decide (0 ≤ q3) && decide (q3 < (a0.length : Int))) then (bif ((a1.1 == (a0.getD ((0 : Int) + q3).toNat ((0 : Int), (0 : Int))).1) && (a1.2 == (a0.getD ((0 : Int) + q3).toNat ((0 : Int), (0 : Int))).2)) then some q3 else L2 (w (q3 + (1 : Int)))) else none) else some (-1 : Int))
noncomputable def f175_l2 (K : Nat) (a0 : List tV) (a1 : Int × Int) (n : Nat) (q3 : Int) : Option Int :=
  iter (X := Int) (fun L x => (fun L2 => f175_b2 K a0 a1 L2 x) (fun v0 => L v0)) n q3
noncomputable def f175_fr2 (a0 : List tV) (a1 : Int × Int) (q3 : Int) : Fr := ⟨19, [(0, .v false [.row 0]), (1, .v true [.int .i64 a1.1, .int .i64 a1.2]), (3, .v false [.box 0 0]), (4, .v false [.int .i64 (0 : Int)]), (7, .v false [.int .i64 (a0.length : Int)]), (8, .v false [.int .i64 q3])], [some ⟨true, [.int .i64 a1.1, .int .i64 a1.2]⟩], [some ⟨53, sV, a0, .ro⟩]⟩
noncomputable def f175_k2 (K : Nat) (a0 : List tV) (a1 : Int × Int) (lr : LR Int) : Ex → Fr → Option Int :=
  contC (f175E K) 1 lr f175C [1, 0, 1, 0] (finK (f175E K) Tryz.f175 [(.ro, (.list 53 sV)), (.ro, sV)] [sI] (a0, a1, ()))
noncomputable def f175_g (K : Nat) (a0 : List tV) (a1 : Int × Int) (I2 : Int → Option Int) : Option Int :=
  I2 (0 : Int)
noncomputable def f175G (K : Nat) (a0 : List tV) (a1 : Int × Int) : Option Int :=
  f175_g K a0 a1 (fun d0 => f175_l2 K a0 a1 K d0)
noncomputable def f175M (K : Nat) : Mdl := ⟨[(.ro, (.list 53 sV)), (.ro, sV)], [sI], fun x => f175G K x.1 x.2.1⟩
/-! slices.Contains[[]impl.Vec,impl.Vec] -/
noncomputable def f106E (K : Nat) : Env := ⟨[(175, f175M K)], tys, eqs, mts, K, [0, 1, 3, 4], [], []⟩
noncomputable def f106G (K : Nat) (a0 : List tV) (a1 : Int × Int) : Option Bool :=
  (f175G K a0 a1).bind fun y1 => some (decide (y1 ≥ (0 : Int)))
noncomputable def f106M (K : Nat) : Mdl := ⟨[(.ro, (.list 53 sV)), (.ro, sV)], [.bool], fun x => f106G K x.1 x.2.1⟩
/-! impl.ConnectedUnit$1$1 -/
noncomputable def f105E (K : Nat) : Env := ⟨[(106, f106M K)], tys, eqs, mts, K, [0, 1, 2, 3], [], []⟩
noncomputable def f105G (K : Nat) (a0 : Int × Int) (a1 : List tV) : Option Bool :=
  (f106G K a1 a0).bind fun y1 => some y1
noncomputable def f105M (K : Nat) : Mdl := ⟨[(.ro, sV), (.cap, (.list 53 sV))], [.bool], fun x => f105G K x.1 x.2.1⟩
/-! slices.IndexFunc[[]impl.Vec,impl.Vec] -/
noncomputable def f109C : Code := codeOf Tryz.f109
noncomputable def f109E (K : Nat) : Env := ⟨[], tys, eqs, mts, K, [0, 1, 4, 5, 7, 8, 9, 16], [], []⟩
noncomputable def f109_b3 (K : Nat) (a0 : List tV) (a1 : (tV → Option Bool)) (L3 : Int → Option Int) (q4 : Int) : Option Int :=
  (bif (decide (q4 < (a0.length : Int))) then (bif (decide (0 ≤ q4) && decide (q4 < (a0.length : Int))) then (a1 (a0.getD ((0 : Int) + q4).toNat ((0 : Int), (0 : Int)))).bind fun y5 => (bif y5 then some q4 else L3 (w (q4 + (1 : Int)))) else none) else some (-1 : Int))
noncomputable def f109_l3 (K : Nat) (a0 : List tV) (a1 : (tV → Option Bool)) (n : Nat) (q4 : Int) : Option Int :=
  iter (X := Int) (fun L x => (fun L3 => f109_b3 K a0 a1 L3 x) (fun v0 => L v0)) n q4
noncomputable def f109_fr3 (a0 : List tV) (a1 : (tV → Option Bool)) (q4 : Int) : Fr := ⟨19, [(0, .v false [.row 0]), (1, .v false [.fv1 sV .bool a1]), (4, .v false [.int .i64 (0 : Int)]), (7, .v false [.int .i64 (a0.length : Int)]), (8, .v false [.int .i64 q4])], [], [some ⟨53, sV, a0, .ro⟩]⟩
noncomputable def f109_k3 (K : Nat) (a0 : List tV) (a1 : (tV → Option Bool)) (lr : LR Int) : Ex → Fr → Option Int :=
  contC (f109E K) 1 lr f109C [1, 0, 1, 0] (finK (f109E K) Tryz.f109 [(.ro, (.list 53 sV)), (.ro, (.fn1 sV .bool))] [sI] (a0, a1, ()))
noncomputable def f109_g (K : Nat) (a0 : List tV) (a1 : (tV → Option Bool)) (I3 : Int → Option Int) : Option Int :=
  I3 (0 : Int)
noncomputable def f109G (K : Nat) (a0 : List tV) (a1 : (tV → Option Bool)) : Option Int :=
  f109_g K a0 a1 (fun d0 => f109_l3 K a0 a1 K d0)
noncomputable def f109M (K : Nat) : Mdl := ⟨[(.ro, (.list 53 sV)), (.ro, (.fn1 sV .bool))], [sI], fun x => f109G K x.1 x.2.1⟩
/-! slices.ContainsFunc[[]impl.Vec,impl.Vec] -/
noncomputable def f103E (K : Nat) : Env := ⟨[(109, f109M K)], tys, eqs, mts, K, [0, 1, 4], [], []⟩
noncomputable def f103G (K : Nat) (a0 : List tV) (a1 : (tV → Option Bool)) : Option Bool :=
  (f109G K a0 a1).bind fun y1 => some (decide (y1 ≥ (0 : Int)))
noncomputable def f103M (K : Nat) : Mdl := ⟨[(.ro, (.list 53 sV)), (.ro, (.fn1 sV .bool))], [.bool], fun x => f103G K x.1 x.2.1⟩
/-! slices.Index[[]int64,int64] -/
noncomputable def f176C : Code := codeOf Tryz.f176
noncomputable def f176E (K : Nat) : Env := ⟨[], tys, eqs, mts, K, [0, 1, 4, 5, 7, 8, 9, 16], [], []⟩
noncomputable def f176_b2 (K : Nat) (a0 : List Int) (a1 : Int) (L2 : Int → Option Int) (q3 : Int) : Option Int :=
  (bif (decide (q3 < (a0.length : Int))) then (bif (decide (0 ≤ q3) && decide (q3 < (a0.length : Int))) then (bif (a1 == (a0.getD ((0 : Int) + q3).toNat (0 : Int))) then some q3 else L2 (w (q3 + (1 : Int)))) else none) else some (-1 : Int))
noncomputable def f176_l2 (K : Nat) (a0 : List Int) (a1 : Int) (n : Nat) (q3 : Int) : Option Int :=
  iter (X := Int) (fun L x => (fun L2 => f176_b2 K a0 a1 L2 x) (fun v0 => L v0)) n q3
noncomputable def f176_fr2 (a0 : List Int) (a1 : Int) (q3 : Int) : Fr := ⟨19, [(0, .v false [.row 0]), (1, .v false [.int .i64 a1]), (4, .v false [.int .i64 (0 : Int)]), (7, .v false [.int .i64 (a0.length : Int)]), (8, .v false [.int .i64 q3])], [], [some ⟨2, sI, a0, .ro⟩]⟩
noncomputable def f176_k2 (K : Nat) (a0 : List Int) (a1 : Int) (lr : LR Int) : Ex → Fr → Option Int :=
  contC (f176E K) 1 lr f176C [1, 0, 1, 0] (finK (f176E K) Tryz.f176 [(.ro, (.list 2 sI)), (.ro, sI)] [sI] (a0, a1, ()))
noncomputable def f176_g (K : Nat) (a0 : List Int) (a1 : Int) (I2 : Int → Option Int) : Option Int :=
  I2 (0 : Int)
noncomputable def f176G (K : Nat) (a0 : List Int) (a1 : Int) : Option Int :=
  f176_g K a0 a1 (fun d0 => f176_l2 K a0 a1 K d0)
noncomputable def f176M (K : Nat) : Mdl := ⟨[(.ro, (.list 2 sI)), (.ro, sI)], [sI], fun x => f176G K x.1 x.2.1⟩
/-! slices.Contains[[]int64,int64] -/
noncomputable def f107E (K : Nat) : Env := ⟨[(176, f176M K)], tys, eqs, mts, K, [0, 1, 4], [], []⟩
noncomputable def f107G (K : Nat) (a0 : List Int) (a1 : Int) : Option Bool :=
  (f176G K a0 a1).bind fun y1 => some (decide (y1 ≥ (0 : Int)))
noncomputable def f107M (K : Nat) : Mdl := ⟨[(.ro, (.list 2 sI)), (.ro, sI)], [.bool], fun x => f107G K x.1 x.2.1⟩
/-! impl.ConnectedUnit$1 -/
noncomputable def f102E (K : Nat) : Env := ⟨[(82, f82M K), (103, f103M K), (104, f104M K), (105, f105M K), (107, f107M K)], tys, eqs, mts, K, [0, 1, 2, 3, 4, 5, 6, 7], [], []⟩
noncomputable def f102G (K : Nat) (a0 : Int × Int) (a1 : List tV) (a2 : List Int) (a3 : List Int) (a4 : Int × Int × Int) : Option Bool :=
  (f104G K a0).bind fun y1 => (f103G K y1 (fun z2 => f105G K z2 a1)).bind fun y3 => (bif ((!y3) || true) then (bif ((!y3) || true) then (bif ((!y3) || true) then (bif ((!y3) || true) then ((bif y3 then f82G K a4 a0 else some (0 : Int))).bind fun y4 => (bif ((!y3) || (decide (0 ≤ y4) && decide (y4 < (a3.length : Int)))) then (bif ((!y3) || true) then ((bif y3 then f107G K a2 (a3.getD ((0 : Int) + y4).toNat (0 : Int)) else some false)).bind fun y5 => (bif ((!y3) || true) then some (bif y3 then (!y5) else false) else none) else none) else none) else none) else none) else none) else none)
noncomputable def f102M (K : Nat) : Mdl := ⟨[(.ro, sV), (.cap, (.list 53 sV)), (.cap, (.list 2 sI)), (.cap, (.list 2 sI)), (.cap, sL)], [.bool], fun x => f102G K x.1 x.2.1 x.2.2.1 x.2.2.2.1 x.2.2.2.2.1⟩
/-! impl.ConnectedUnit -/
noncomputable def f46C : Code := codeOf Tryz.f46
noncomputable def f46E (K : Nat) : Env := ⟨[(72, f72M K), (101, f101M K), (102, f102M K), (108, f108M K), (109, f109M K), (110, f110M K), (111, f111M K)], tys, eqs, mts, K, [0, 1, 2, 4, 6, 7, 8, 9, 11, 12, 13, 14, 15, 16, 25, 41, 48], [], []⟩
noncomputable def f46_b7 (K : Nat) (a0 : Int) (a1 : Int × Int × Int) (a2 : List tM) (y1 : (List (List tV)) × Int) (y2 : (List (List tV)) × List Int) (L7 : (List tV) → (List Int) → Option ((List tV) × Int)) (q8 : List tV) (q9 : List Int) : Option ((List tV) × Int) :=
  (bif (decide ((q8.length : Int) < (y1.1.length : Int))) then (f108G K a1).bind fun y10 => (f109G K y10 (fun z11 => f102G K z11 q8 q9 y2.2 a1)).bind fun y12 => (bif (decide (y12 < (0 : Int))) then some ([], (4 : Int)) else (bif (decide (0 ≤ y12) && decide (y12 < (y10.length : Int))) then (bif (Nat.ble (q8.length + [(y10.getD ((0 : Int) + y12).toNat ((0 : Int), (0 : Int)))].length) (lim 16)) then (bif (decide (0 ≤ y12) && decide (y12 < (y2.2.length : Int))) then (bif (Nat.ble (q9.length + [(y2.2.getD ((0 : Int) + y12).toNat (0 : Int))].length) (lim 8)) then L7 (q8 ++ [(y10.getD ((0 : Int) + y12).toNat ((0 : Int), (0 : Int)))]) (q9 ++ [(y2.2.getD ((0 : Int) + y12).toNat (0 : Int))]) else none) else none) else none) else none)) else (f110G K q8 (fun z13 z14 => f111G K z13 z14)).bind fun y15 => some (y15, (0 : Int)))
noncomputable def f46_l7 (K : Nat) (a0 : Int) (a1 : Int × Int × Int) (a2 : List tM) (y1 : (List (List tV)) × Int) (y2 : (List (List tV)) × List Int) (n : Nat) (q8 : List tV) (q9 : List Int) : Option ((List tV) × Int) :=
  iter (X := List tV × List Int) (fun L x => (fun L7 => f46_b7 K a0 a1 a2 y1 y2 L7 x.1 x.2) (fun v0 v1 => L (v0, v1))) n (q8, q9)
noncomputable def f46_fr7 (a0 : Int) (a1 : Int × Int × Int) (a2 : List tM) (y1 : (List (List tV)) × Int) (y2 : (List (List tV)) × List Int) (q8 : List tV) (q9 : List Int) : Fr := ⟨66, [(0, .v false [.int .i64 a0]), (1, .v true [.int .i64 a1.1, .int .i64 a1.2.1, .int .i64 a1.2.2]), (2, .v false [.row 0]), (4, .v false [.box 0 0]), (6, .v false [.row 1]), (7, .v false [.int .i64 (0 : Int)]), (8, .v false [.row 2]), (9, .v false [.int .i64 y1.2]), (11, .v false [.box 1 0]), (12, .v false [.box 2 0]), (13, .v false [.box 3 0]), (14, .v false [.fn 102 [2, 3, 1, 0]]), (25, .v false [.bool (y1.2 != (0 : Int))])], [some ⟨true, [.int .i64 a1.1, .int .i64 a1.2.1, .int .i64 a1.2.2]⟩, some ⟨true, [.row 3]⟩, some ⟨true, [.row 4]⟩, some ⟨true, [.row 5]⟩], [some ⟨91, sM, a2, .ro⟩, some ⟨53, sV, [], .own⟩, some ⟨72, (.list 53 sV), y1.1, .own⟩, some ⟨2, sI, y2.2, .own⟩, some ⟨53, sV, q8, .own⟩, some ⟨2, sI, q9, .own⟩]⟩
noncomputable def f46_k7 (K : Nat) (a0 : Int) (a1 : Int × Int × Int) (a2 : List tM) (lr : LR ((List tV) × Int)) : Ex → Fr → Option ((List tV) × Int) :=
  contC (f46E K) 1 lr f46C [1, 1, 1, 1, 1, 1, 0, 0] (finK (f46E K) Tryz.f46 [(.ro, sI), (.ro, sL), (.ro, (.list 91 sM))] [(.list 53 sV), sI] (a0, a1, a2, ()))
noncomputable def f46_g (K : Nat) (a0 : Int) (a1 : Int × Int × Int) (a2 : List tM) (I7 : ((List (List tV)) × Int) → ((List (List tV)) × List Int) → (List tV) → (List Int) → Option ((List tV) × Int)) : Option ((List tV) × Int) :=
  (f101G K a0 a1 a2).bind fun y1 => (bif (y1.2 != (0 : Int)) then some ([], y1.2) else (f72G K a1 a2).bind fun y2 => I7 y1 y2 [((0 : Int), (0 : Int))] [(0 : Int)])
noncomputable def f46G (K : Nat) (a0 : Int) (a1 : Int × Int × Int) (a2 : List tM) : Option ((List tV) × Int) :=
  f46_g K a0 a1 a2 (fun c0 c1 d0 d1 => f46_l7 K a0 a1 a2 c0 c1 K d0 d1)
noncomputable def f46M (K : Nat) : Mdl := ⟨[(.ro, sI), (.ro, sL), (.ro, (.list 91 sM))], [(.list 53 sV), sI], fun x => f46G K x.1 x.2.1 x.2.2.1⟩
/-! laws.eqVec -/
noncomputable def f112E (K : Nat) : Env := ⟨[], tys, eqs, mts, K, [0, 1, 2, 3, 4, 9, 14], [], []⟩
noncomputable def f112G (K : Nat) (a0 : Int × Int) (a1 : Int × Int) : Option Bool :=
  (bif (a0.1 != a1.1) then some false else (bif (a0.2 != a1.2) then some false else some true))
noncomputable def f112M (K : Nat) : Mdl := ⟨[(.ro, sV), (.ro, sV)], [.bool], fun x => f112G K x.1 x.2.1⟩
/-! laws.eqVecS -/
noncomputable def f47C : Code := codeOf Tryz.f47
noncomputable def f47E (K : Nat) : Env := ⟨[(112, f112M K)], tys, eqs, mts, K, [0, 1, 4, 5, 10, 14, 26], [], []⟩
noncomputable def f47_b3 (K : Nat) (a0 : List tV) (a1 : List tV) (L3 : Int → Option Bool) (q4 : Int) : Option Bool :=
  (bif (decide (q4 < (a0.length : Int))) then (bif (decide (0 ≤ q4) && decide (q4 < (a0.length : Int))) then (bif (decide (0 ≤ q4) && decide (q4 < (a1.length : Int))) then (f112G K (a0.getD ((0 : Int) + q4).toNat ((0 : Int), (0 : Int))) (a1.getD ((0 : Int) + q4).toNat ((0 : Int), (0 : Int)))).bind fun y5 => (bif (!y5) then some false else L3 (w (q4 + (1 : Int)))) else none) else none) else some true)
noncomputable def f47_l3 (K : Nat) (a0 : List tV) (a1 : List tV) (n : Nat) (q4 : Int) : Option Bool :=
  iter (X := Int) (fun L x => (fun L3 => f47_b3 K a0 a1 L3 x) (fun v0 => L v0)) n q4
noncomputable def f47_fr3 (a0 : List tV) (a1 : List tV) (q4 : Int) : Fr := ⟨27, [(0, .v false [.row 0]), (1, .v false [.row 1]), (4, .v false [.bool false]), (5, .v false [.int .i64 q4]), (10, .v false [.bool ((a0.length : Int) != (a1.length : Int))])], [], [some ⟨53, sV, a0, .ro⟩, some ⟨53, sV, a1, .ro⟩]⟩
noncomputable def f47_k3 (K : Nat) (a0 : List tV) (a1 : List tV) (lr : LR Bool) : Ex → Fr → Option Bool :=
  contC (f47E K) 2 lr f47C [1, 1, 0, 1, 0] (finK (f47E K) Tryz.f47 [(.ro, (.list 53 sV)), (.ro, (.list 53 sV))] [.bool] (a0, a1, ()))
noncomputable def f47_g (K : Nat) (a0 : List tV) (a1 : List tV) (I3 : Int → Option Bool) : Option Bool :=
  (bif ((a0.length : Int) != (a1.length : Int)) then some false else I3 (0 : Int))
noncomputable def f47G (K : Nat) (a0 : List tV) (a1 : List tV) : Option Bool :=
  f47_g K a0 a1 (fun d0 => f47_l3 K a0 a1 K d0)
noncomputable def f47M (K : Nat) : Mdl := ⟨[(.ro, (.list 53 sV)), (.ro, (.list 53 sV))], [.bool], fun x => f47G K x.1 x.2.1⟩
/-! laws.eqMat -/
noncomputable def f132E (K : Nat) : Env := ⟨[], tys, eqs, mts, K, [0, 1, 2, 3, 4, 9, 14, 19, 24], [], []⟩
noncomputable def f132G (K : Nat) (a0 : Int × Int × Int × Int) (a1 : Int × Int × Int × Int) : Option Bool :=
  (bif (a0.1 != a1.1) then some false else (bif (a0.2.1 != a1.2.1) then some false else (bif (a0.2.2.1 != a1.2.2.1) then some false else (bif (a0.2.2.2 != a1.2.2.2) then some false else some true))))
noncomputable def f132M (K : Nat) : Mdl := ⟨[(.ro, sA), (.ro, sA)], [.bool], fun x => f132G K x.1 x.2.1⟩
/-! laws.eqMotion -/
noncomputable def f65E (K : Nat) : Env := ⟨[(112, f112M K), (132, f132M K)], tys, eqs, mts, K, [0, 1, 2, 3, 4, 10, 16], [], []⟩
noncomputable def f65G (K : Nat) (a0 : tA × Int × Int) (a1 : tA × Int × Int) : Option Bool :=
  (f132G K a0.1 a1.1).bind fun y1 => (bif (!y1) then some false else (f112G K a0.2 a1.2).bind fun y2 => (bif (!y2) then some false else some true))
noncomputable def f65M (K : Nat) : Mdl := ⟨[(.ro, sM), (.ro, sM)], [.bool], fun x => f65G K x.1 x.2.1⟩
/-! laws.eqMotionS -/
noncomputable def f18C : Code := codeOf Tryz.f18
noncomputable def f18E (K : Nat) : Env := ⟨[(65, f65M K)], tys, eqs, mts, K, [0, 1, 4, 5, 10, 14, 26], [], []⟩
noncomputable def f18_b3 (K : Nat) (a0 : List tM) (a1 : List tM) (L3 : Int → Option Bool) (q4 : Int) : Option Bool :=
  (bif (decide (q4 < (a0.length : Int))) then (bif (decide (0 ≤ q4) && decide (q4 < (a0.length : Int))) then (bif (decide (0 ≤ q4) && decide (q4 < (a1.length : Int))) then (f65G K ((((a0.getD ((0 : Int) + q4).toNat zM).1).1, (((a0.getD ((0 : Int) + q4).toNat zM).1).2).1, ((((a0.getD ((0 : Int) + q4).toNat zM).1).2).2)), ((a0.getD ((0 : Int) + q4).toNat zM).2)) ((((a1.getD ((0 : Int) + q4).toNat zM).1).1, (((a1.getD ((0 : Int) + q4).toNat zM).1).2).1, ((((a1.getD ((0 : Int) + q4).toNat zM).1).2).2)), ((a1.getD ((0 : Int) + q4).toNat zM).2))).bind fun y5 => (bif (!y5) then some false else L3 (w (q4 + (1 : Int)))) else none) else none) else some true)
noncomputable def f18_l3 (K : Nat) (a0 : List tM) (a1 : List tM) (n : Nat) (q4 : Int) : Option Bool :=
  iter (X := Int) (fun L x => (fun L3 => f18_b3 K a0 a1 L3 x) (fun v0 => L v0)) n q4
noncomputable def f18_fr3 (a0 : List tM) (a1 : List tM) (q4 : Int) : Fr := ⟨27, [(0, .v false [.row 0]), (1, .v false [.row 1]), (4, .v false [.bool false]), (5, .v false [.int .i64 q4]), (10, .v false [.bool ((a0.length : Int) != (a1.length : Int))])], [], [some ⟨91, sM, a0, .ro⟩, some ⟨91, sM, a1, .ro⟩]⟩
noncomputable def f18_k3 (K : Nat) (a0 : List tM) (a1 : List tM) (lr : LR Bool) : Ex → Fr → Option Bool :=
  contC (f18E K) 2 lr f18C [1, 1, 0, 1, 0] (finK (f18E K) Tryz.f18 [(.ro, (.list 91 sM)), (.ro, (.list 91 sM))] [.bool] (a0, a1, ()))
noncomputable def f18_g (K : Nat) (a0 : List tM) (a1 : List tM) (I3 : Int → Option Bool) : Option Bool :=
  (bif ((a0.length : Int) != (a1.length : Int)) then some false else I3 (0 : Int))
noncomputable def f18G (K : Nat) (a0 : List tM) (a1 : List tM) : Option Bool :=
  f18_g K a0 a1 (fun d0 => f18_l3 K a0 a1 K d0)
noncomputable def f18M (K : Nat) : Mdl := ⟨[(.ro, (.list 91 sM)), (.ro, (.list 91 sM))], [.bool], fun x => f18G K x.1 x.2.1⟩
/-! laws.markMotionS -/
noncomputable def f31C : Code := codeOf Tryz.f31
noncomputable def f31E (K : Nat) : Env := ⟨[], tys, eqs, mts, K, [0, 1, 4, 5, 9], [], []⟩
noncomputable def f31_b2 (K : Nat) (L2 : Int → Int → (List tM) → Option ((List tM) × Int)) (q3 : Int) (q4 : Int) (q5 : List tM) : Option ((List tM) × Int) :=
  (bif (decide (q4 < (q5.length : Int))) then (bif (decide (0 ≤ q4) && decide (q4 < (q5.length : Int))) then (bif (decide (0 ≤ q4) && decide (q4 < ((q5.set ((0 : Int) + q4).toNat ((q3, ((q5.getD ((0 : Int) + q4).toNat zM).1).2), (q5.getD ((0 : Int) + q4).toNat zM).2)).length : Int))) then (let s4 := ((q5.set ((0 : Int) + q4).toNat ((q3, ((q5.getD ((0 : Int) + q4).toNat zM).1).2), (q5.getD ((0 : Int) + q4).toNat zM).2)).set ((0 : Int) + q4).toNat (((((q5.set ((0 : Int) + q4).toNat ((q3, ((q5.getD ((0 : Int) + q4).toNat zM).1).2), (q5.getD ((0 : Int) + q4).toNat zM).2)).getD ((0 : Int) + q4).toNat zM).1).1, (w (q3 + (1 : Int))), ((((q5.set ((0 : Int) + q4).toNat ((q3, ((q5.getD ((0 : Int) + q4).toNat zM).1).2), (q5.getD ((0 : Int) + q4).toNat zM).2)).getD ((0 : Int) + q4).toNat zM).1).2).2), ((q5.set ((0 : Int) + q4).toNat ((q3, ((q5.getD ((0 : Int) + q4).toNat zM).1).2), (q5.getD ((0 : Int) + q4).toNat zM).2)).getD ((0 : Int) + q4).toNat zM).2)); (bif (decide (0 ≤ q4) && decide (q4 < (s4.length : Int))) then (bif (decide (0 ≤ q4) && decide (q4 < ((s4.set ((0 : Int) + q4).toNat ((((s4.getD ((0 : Int) + q4).toNat zM).1).1, (((s4.getD ((0 : Int) + q4).toNat zM).1).2).1, (w ((w (q3 + (1 : Int))) + (1 : Int))), ((((s4.getD ((0 : Int) + q4).toNat zM).1).2).2).2), (s4.getD ((0 : Int) + q4).toNat zM).2)).length : Int))) then (let s5 := ((s4.set ((0 : Int) + q4).toNat ((((s4.getD ((0 : Int) + q4).toNat zM).1).1, (((s4.getD ((0 : Int) + q4).toNat zM).1).2).1, (w ((w (q3 + (1 : Int))) + (1 : Int))), ((((s4.getD ((0 : Int) + q4).toNat zM).1).2).2).2), (s4.getD ((0 : Int) + q4).toNat zM).2)).set ((0 : Int) + q4).toNat (((((s4.set ((0 : Int) + q4).toNat ((((s4.getD ((0 : Int) + q4).toNat zM).1).1, (((s4.getD ((0 : Int) + q4).toNat zM).1).2).1, (w ((w (q3 + (1 : Int))) + (1 : Int))), ((((s4.getD ((0 : Int) + q4).toNat zM).1).2).2).2), (s4.getD ((0 : Int) + q4).toNat zM).2)).getD ((0 : Int) + q4).toNat zM).1).1, ((((s4.set ((0 : Int) + q4).toNat ((((s4.getD ((0 : Int) + q4).toNat zM).1).1, (((s4.getD ((0 : Int) + q4).toNat zM).1).2).1, (w ((w (q3 + (1 : Int))) + (1 : Int))), ((((s4.getD ((0 : Int) + q4).toNat zM).1).2).2).2), (s4.getD ((0 : Int) + q4).toNat zM).2)).getD ((0 : Int) + q4).toNat zM).1).2).1, (((((s4.set ((0 : Int) + q4).toNat ((((s4.getD ((0 : Int) + q4).toNat zM).1).1, (((s4.getD ((0 : Int) + q4).toNat zM).1).2).1, (w ((w (q3 + (1 : Int))) + (1 : Int))), ((((s4.getD ((0 : Int) + q4).toNat zM).1).2).2).2), (s4.getD ((0 : Int) + q4).toNat zM).2)).getD ((0 : Int) + q4).toNat zM).1).2).2).1, (w ((w ((w (q3 + (1 : Int))) + (1 : Int))) + (1 : Int)))), ((s4.set ((0 : Int) + q4).toNat ((((s4.getD ((0 : Int) + q4).toNat zM).1).1, (((s4.getD ((0 : Int) + q4).toNat zM).1).2).1, (w ((w (q3 + (1 : Int))) + (1 : Int))), ((((s4.getD ((0 : Int) + q4).toNat zM).1).2).2).2), (s4.getD ((0 : Int) + q4).toNat zM).2)).getD ((0 : Int) + q4).toNat zM).2)); (bif (decide (0 ≤ q4) && decide (q4 < (s5.length : Int))) then (bif (decide (0 ≤ q4) && decide (q4 < ((s5.set ((0 : Int) + q4).toNat ((s5.getD ((0 : Int) + q4).toNat zM).1, (w ((w ((w ((w (q3 + (1 : Int))) + (1 : Int))) + (1 : Int))) + (1 : Int))), ((s5.getD ((0 : Int) + q4).toNat zM).2).2)).length : Int))) then (let s6 := ((s5.set ((0 : Int) + q4).toNat ((s5.getD ((0 : Int) + q4).toNat zM).1, (w ((w ((w ((w (q3 + (1 : Int))) + (1 : Int))) + (1 : Int))) + (1 : Int))), ((s5.getD ((0 : Int) + q4).toNat zM).2).2)).set ((0 : Int) + q4).toNat (((s5.set ((0 : Int) + q4).toNat ((s5.getD ((0 : Int) + q4).toNat zM).1, (w ((w ((w ((w (q3 + (1 : Int))) + (1 : Int))) + (1 : Int))) + (1 : Int))), ((s5.getD ((0 : Int) + q4).toNat zM).2).2)).getD ((0 : Int) + q4).toNat zM).1, (((s5.set ((0 : Int) + q4).toNat ((s5.getD ((0 : Int) + q4).toNat zM).1, (w ((w ((w ((w (q3 + (1 : Int))) + (1 : Int))) + (1 : Int))) + (1 : Int))), ((s5.getD ((0 : Int) + q4).toNat zM).2).2)).getD ((0 : Int) + q4).toNat zM).2).1, (w ((w ((w ((w ((w (q3 + (1 : Int))) + (1 : Int))) + (1 : Int))) + (1 : Int))) + (1 : Int))))); L2 (w ((w ((w ((w ((w ((w (q3 + (1 : Int))) + (1 : Int))) + (1 : Int))) + (1 : Int))) + (1 : Int))) + (1 : Int))) (w (q4 + (1 : Int))) s6) else none) else none)) else none) else none)) else none) else none) else some (q5, q3))
noncomputable def f31_l2 (K : Nat) (n : Nat) (q3 : Int) (q4 : Int) (q5 : List tM) : Option ((List tM) × Int) :=
  iter (X := Int × Int × List tM) (fun L x => (fun L2 => f31_b2 K L2 x.1 x.2.1 x.2.2) (fun v0 v1 v2 => L (v0, v1, v2))) n (q3, q4, q5)
noncomputable def f31_fr2 (q3 : Int) (q4 : Int) (q5 : List tM) : Fr := ⟨61, [(0, .v false [.row 0]), (1, .v false [.int .i64 q3]), (4, .v false [.int .i64 (0 : Int)]), (5, .v false [.int .i64 q4])], [], [some ⟨91, sM, q5, .io⟩]⟩
noncomputable def f31_k2 (K : Nat) (a0 : List tM) (a1 : Int) (lr : LR ((List tM) × Int)) : Ex → Fr → Option ((List tM) × Int) :=
  contC (f31E K) 1 lr f31C [1, 0, 1, 0] (finK (f31E K) Tryz.f31 [(.io, (.list 91 sM)), (.ro, sI)] [sI] (a0, a1, ()))
noncomputable def f31_g (K : Nat) (a0 : List tM) (a1 : Int) (I2 : Int → Int → (List tM) → Option ((List tM) × Int)) : Option ((List tM) × Int) :=
  I2 a1 (0 : Int) a0
noncomputable def f31G (K : Nat) (a0 : List tM) (a1 : Int) : Option ((List tM) × Int) :=
  f31_g K a0 a1 (fun d0 d1 d2 => f31_l2 K K d0 d1 d2)
noncomputable def f31M (K : Nat) : Mdl := ⟨[(.io, (.list 91 sM)), (.ro, sI)], [sI], fun x => f31G K x.1 x.2.1⟩
/-! laws.markVecS -/
noncomputable def f48C : Code := codeOf Tryz.f48
noncomputable def f48E (K : Nat) : Env := ⟨[], tys, eqs, mts, K, [0, 1, 4, 5, 9], [], []⟩
noncomputable def f48_b2 (K : Nat) (L2 : Int → Int → (List tV) → Option ((List tV) × Int)) (q3 : Int) (q4 : Int) (q5 : List tV) : Option ((List tV) × Int) :=
  (bif (decide (q4 < (q5.length : Int))) then (bif (decide (0 ≤ q4) && decide (q4 < (q5.length : Int))) then (bif (decide (0 ≤ q4) && decide (q4 < ((q5.set ((0 : Int) + q4).toNat (q3, (q5.getD ((0 : Int) + q4).toNat ((0 : Int), (0 : Int))).2)).length : Int))) then L2 (w ((w (q3 + (1 : Int))) + (1 : Int))) (w (q4 + (1 : Int))) ((q5.set ((0 : Int) + q4).toNat (q3, (q5.getD ((0 : Int) + q4).toNat ((0 : Int), (0 : Int))).2)).set ((0 : Int) + q4).toNat (((q5.set ((0 : Int) + q4).toNat (q3, (q5.getD ((0 : Int) + q4).toNat ((0 : Int), (0 : Int))).2)).getD ((0 : Int) + q4).toNat ((0 : Int), (0 : Int))).1, (w (q3 + (1 : Int))))) else none) else none) else some (q5, q3))
noncomputable def f48_l2 (K : Nat) (n : Nat) (q3 : Int) (q4 : Int) (q5 : List tV) : Option ((List tV) × Int) :=
  iter (X := Int × Int × List tV) (fun L x => (fun L2 => f48_b2 K L2 x.1 x.2.1 x.2.2) (fun v0 v1 v2 => L (v0, v1, v2))) n (q3, q4, q5)
noncomputable def f48_fr2 (q3 : Int) (q4 : Int) (q5 : List tV) : Fr := ⟨27, [(0, .v false [.row 0]), (1, .v false [.int .i64 q3]), (4, .v false [.int .i64 (0 : Int)]), (5, .v false [.int .i64 q4])], [], [some ⟨53, sV, q5, .io⟩]⟩
noncomputable def f48_k2 (K : Nat) (a0 : List tV) (a1 : Int) (lr : LR ((List tV) × Int)) : Ex → Fr → Option ((List tV) × Int) :=
  contC (f48E K) 1 lr f48C [1, 0, 1, 0] (finK (f48E K) Tryz.f48 [(.io, (.list 53 sV)), (.ro, sI)] [sI] (a0, a1, ()))
noncomputable def f48_g (K : Nat) (a0 : List tV) (a1 : Int) (I2 : Int → Int → (List tV) → Option ((List tV) × Int)) : Option ((List tV) × Int) :=
  I2 a1 (0 : Int) a0
noncomputable def f48G (K : Nat) (a0 : List tV) (a1 : Int) : Option ((List tV) × Int) :=
  f48_g K a0 a1 (fun d0 d1 d2 => f48_l2 K K d0 d1 d2)
noncomputable def f48M (K : Nat) : Mdl := ⟨[(.io, (.list 53 sV)), (.ro, sI)], [sI], fun x => f48G K x.1 x.2.1⟩
/-! laws.heldVecS -/
noncomputable def f49C : Code := codeOf Tryz.f49
noncomputable def f49E (K : Nat) : Env := ⟨[], tys, eqs, mts, K, [0, 1, 4, 5, 9, 18, 27], [], []⟩
noncomputable def f49_b2 (K : Nat) (a0 : List tV) (L2 : Int → Int → Option Int) (q3 : Int) (q4 : Int) : Option Int :=
  (bif (decide (q4 < (a0.length : Int))) then (bif (decide (0 ≤ q4) && decide (q4 < (a0.length : Int))) then (bif ((a0.getD ((0 : Int) + q4).toNat ((0 : Int), (0 : Int))).1 != q3) then some (-1 : Int) else (bif (decide (0 ≤ q4) && decide (q4 < (a0.length : Int))) then (bif ((a0.getD ((0 : Int) + q4).toNat ((0 : Int), (0 : Int))).2 != (w (q3 + (1 : Int)))) then some (-1 : Int) else L2 (w ((w (q3 + (1 : Int))) + (1 : Int))) (w (q4 + (1 : Int)))) else none)) else none) else some q3)
noncomputable def f49_l2 (K : Nat) (a0 : List tV) (n : Nat) (q3 : Int) (q4 : Int) : Option Int :=
  iter (X := Int × Int) (fun L x => (fun L2 => f49_b2 K a0 L2 x.1 x.2) (fun v0 v1 => L (v0, v1))) n (q3, q4)
noncomputable def f49_fr2 (a0 : List tV) (q3 : Int) (q4 : Int) : Fr := ⟨31, [(0, .v false [.row 0]), (1, .v false [.int .i64 q3]), (4, .v false [.int .i64 (0 : Int)]), (5, .v false [.int .i64 q4])], [], [some ⟨53, sV, a0, .ro⟩]⟩
noncomputable def f49_k2 (K : Nat) (a0 : List tV) (a1 : Int) (lr : LR Int) : Ex → Fr → Option Int :=
  contC (f49E K) 1 lr f49C [1, 0, 1, 0] (finK (f49E K) Tryz.f49 [(.ro, (.list 53 sV)), (.ro, sI)] [sI] (a0, a1, ()))
noncomputable def f49_g (K : Nat) (a0 : List tV) (a1 : Int) (I2 : Int → Int → Option Int) : Option Int :=
  I2 a1 (0 : Int)
noncomputable def f49G (K : Nat) (a0 : List tV) (a1 : Int) : Option Int :=
  f49_g K a0 a1 (fun d0 d1 => f49_l2 K a0 K d0 d1)
noncomputable def f49M (K : Nat) : Mdl := ⟨[(.ro, (.list 53 sV)), (.ro, sI)], [sI], fun x => f49G K x.1 x.2.1⟩
/-! laws.FnExactConnectedUnit -/
noncomputable def f9E (K : Nat) : Env := ⟨[(13, f13M K), (15, f15M K), (16, f16M K), (18, f18M K), (31, f31M K), (45, f45M K), (46, f46M K), (47, f47M K), (48, f48M K), (49, f49M K)], tys, eqs, mts, K, [0, 1, 2, 4, 6, 7, 8, 9, 10, 11, 12, 13, 14, 15, 16, 17, 22, 50, 55, 71, 79, 82, 100, 105, 108], [], []⟩
noncomputable def f9G (K : Nat) (a0 : Int) (a1 : Int × Int × Int) (a2 : List tM) : Option Bool :=
  (f13G K a2 (1048576 : Int)).bind fun y1 => (bif (decide (y1 < (0 : Int))) then some true else (f15G K a1).bind fun y2 => (f16G K a2).bind fun y3 => (f45G K a0 y2 y3).bind fun y4 => (f16G K a2).bind fun y5 => (f15G K a1).bind fun y6 => (f46G K a0 y6 y5).bind fun y7 => (f47G K y7.1 y4.1).bind fun y8 => (bif ((!(!(!y8))) || true) then (bif ((!(!(!y8))) || true) then (bif ((!(!(!y8))) || true) then (bif (bif (!y8) then true else (y7.2 != y4.2)) then some false else (f16G K a2).bind fun y9 => (f18G K y5 y9).bind fun y10 => (bif (!y10) then some false else (f31G K y5 (1 : Int)).bind fun y11 => (bif ((!(!(decide (y11.2 < (0 : Int))))) || true) then (bif ((!(!(decide (y11.2 < (0 : Int))))) || true) then ((bif (!(decide (y11.2 < (0 : Int)))) then f47G K y7.1 y4.1 else some false)).bind fun y12 => (bif ((!(!(decide (y11.2 < (0 : Int))))) || true) then (bif ((!(!(bif (decide (y11.2 < (0 : Int))) then true else (!y12)))) || true) then (bif ((!(!(bif (decide (y11.2 < (0 : Int))) then true else (!y12)))) || true) then (bif ((!(!(bif (decide (y11.2 < (0 : Int))) then true else (!y12)))) || true) then (bif (bif (bif (decide (y11.2 < (0 : Int))) then true else (!y12)) then true else (y7.2 != y4.2)) then some false else (f48G K y7.1 (1 : Int)).bind fun y13 => (f49G K y13.1 (1 : Int)).bind fun y14 => (bif (decide (y14 < (0 : Int))) then some false else (bif (y14 != y13.2) then some false else (f15G K a1).bind fun y15 => (f16G K a2).bind fun y16 => (f46G K a0 y15 y16).bind fun y17 => (f47G K y17.1 y4.1).bind fun y18 => (bif ((!(!(!y18))) || true) then (bif ((!(!(!y18))) || true) then (bif ((!(!(!y18))) || true) then (bif (bif (!y18) then true else (y17.2 != y4.2)) then some false else (f49G K y13.1 (1 : Int)).bind fun y19 => (bif (decide (y19 < (0 : Int))) then some false else (bif (y19 != y13.2) then some false else some true))) else none) else none) else none)))) else none) else none) else none) else none) else none) else none))) else none) else none) else none))
noncomputable def f9M (K : Nat) : Mdl := ⟨[(.ro, sI), (.ro, sL), (.ro, (.list 95 sM))], [.bool], fun x => f9G K x.1 x.2.1 x.2.2.1⟩
end Go.Proofs.YtmnciknpeefkfaaGreat.X
