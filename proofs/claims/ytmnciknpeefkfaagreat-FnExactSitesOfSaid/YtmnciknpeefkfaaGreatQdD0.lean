/- Functions of the program as plain Lean functions, and that the program does what they say. Printed by gen.py. -/
import Derived.Test.YtmnciknpeefkfaaGreatXLoop
import Derived.Test.YtmnciknpeefkfaaGreatXLib
import Derived.Test.YtmnciknpeefkfaaGreatProg
namespace Go.Proofs.YtmnciknpeefkfaaGreat.X
open Go
set_option maxRecDepth 100000
set_option linter.unusedVariables false
abbrev tM : Type := ((Int × Int × Int × Int) × Int × Int)
abbrev tA : Type := (Int × Int × Int × Int)
abbrev tL : Type := (Int × Int × Int)
abbrev tV : Type := (Int × Int)
abbrev sM : Sh := (.cons (.cons (.int .i64) (.cons (.int .i64) (.cons (.int .i64) (.int .i64)))) (.cons (.int .i64) (.int .i64)))
abbrev sA : Sh := (.cons (.int .i64) (.cons (.int .i64) (.cons (.int .i64) (.int .i64))))
abbrev sL : Sh := (.cons (.int .i64) (.cons (.int .i64) (.int .i64)))
abbrev sV : Sh := (.cons (.int .i64) (.int .i64))
abbrev sI : Sh := (.int .i64)
abbrev zM : tM := (((0 : Int), ((0 : Int), ((0 : Int), (0 : Int)))), ((0 : Int), (0 : Int)))
abbrev zA : tA := ((0 : Int), ((0 : Int), ((0 : Int), (0 : Int))))
noncomputable def tys : List (Nat × Ty) := [(2, .sc sI), (3, .sc sI), (4, .sc .bool), (9, .sc .str), (23, .st sL [(0, 1), (1, 1), (2, 1)]), (28, .st sL [(0, 1), (1, 1), (2, 1)]), (30, .sl 91 sM 48), (34, .sl 2 sI 8), (36, .st (.cons sI (.cons sL (.list 2 sI))) [(0, 1), (1, 3), (4, 1)]), (38, .sl 72 (.list 53 sV) 24), (42, .st (.cons sI (.cons sL (.list 2 sI))) [(0, 1), (1, 3), (4, 1)]), (53, .st sV [(0, 1), (1, 1)]), (72, .sl 53 sV 16), (89, .st sA [(0, 1), (1, 1), (2, 1), (3, 1)]), (91, .st sM [(0, 4), (4, 2)]), (165, .sl 89 sA 32), (182, .sc (.int .u64))]
noncomputable def eqs : List (Nat × List Sh) := [(28, [sI, sI, sI]), (53, [sI, sI])]
noncomputable def mts : List (Nat × MTy) := []
theorem tab_ok : tabB Tryz.prog tys eqs mts = true := by kernel_rfl
theorem mixed_ok : Tryz.prog.follows .mixedOrders = true := by kernel_rfl
/-! laws.szInt64S -/
noncomputable def f66E (K : Nat) : Env := ⟨[], tys, eqs, mts, K, [0, 1, 4, 10], [], []⟩
noncomputable def f66G (K : Nat) (a0 : List Int) (a1 : Int) : Option Int :=
  (bif (decide ((w (a1 - (a0.length : Int))) < (0 : Int))) then some (-1 : Int) else some (w (a1 - (a0.length : Int))))
noncomputable def f66M (K : Nat) : Mdl := ⟨[(.ro, (.list 2 sI)), (.ro, sI)], [sI], fun x => f66G K x.1 x.2.1⟩
/-! laws.szPattern -/
noncomputable def f19E (K : Nat) : Env := ⟨[(66, f66M K)], tys, eqs, mts, K, [0, 1, 2, 4, 10], [], []⟩
noncomputable def f19G (K : Nat) (a0 : Int × tL × List Int) (a1 : Int) : Option Int :=
  (f66G K a0.2.2 a1).bind fun y1 => (bif (decide (y1 < (0 : Int))) then some (-1 : Int) else some y1)
noncomputable def f19M (K : Nat) : Mdl := ⟨[(.ro, (.cons sI (.cons sL (.list 2 sI)))), (.ro, sI)], [sI], fun x => f19G K x.1 x.2.1⟩
/-! laws.toLattice -/
noncomputable def f15E (K : Nat) : Env := ⟨[], tys, eqs, mts, K, [0, 1, 2, 3], [], []⟩
noncomputable def f15G (K : Nat) (a0 : Int × Int × Int) : Option tL :=
  some a0
noncomputable def f15M (K : Nat) : Mdl := ⟨[(.ro, sL)], [sL], fun x => f15G K x.1⟩
/-! laws.toInt64S -/
noncomputable def f39C : Code := codeOf Tryz.f39
noncomputable def f39E (K : Nat) : Env := ⟨[], tys, eqs, mts, K, [0, 2, 3, 4, 11], [], []⟩
noncomputable def f39_b2 (K : Nat) (a0 : List Int) (L2 : Int → (List Int) → Option (List Int)) (q3 : Int) (q4 : List Int) : Option (List Int) :=
  (bif (decide (q3 < (a0.length : Int))) then (bif (decide (0 ≤ q3) && decide (q3 < (a0.length : Int))) then (bif (decide (0 ≤ q3) && decide (q3 < (q4.length : Int))) then L2 (w (q3 + (1 : Int))) (q4.set ((0 : Int) + q3).toNat (a0.getD ((0 : Int) + q3).toNat (0 : Int))) else none) else none) else some q4)
noncomputable def f39_l2 (K : Nat) (a0 : List Int) (n : Nat) (q3 : Int) (q4 : List Int) : Option (List Int) :=
  iter (X := Int × List Int) (fun L x => (fun L2 => f39_b2 K a0 L2 x.1 x.2) (fun v0 v1 => L (v0, v1))) n (q3, q4)
noncomputable def f39_fr2 (a0 : List Int) (q3 : Int) (q4 : List Int) : Fr := ⟨22, [(0, .v false [.row 0]), (2, .v false [.row 1]), (3, .v false [.row 2]), (4, .v false [.int .i64 q3])], [], [some ⟨2, sI, a0, .ro⟩, some ⟨2, sI, [], .own⟩, some ⟨2, sI, q4, .own⟩]⟩
noncomputable def f39_k2 (K : Nat) (a0 : List Int) (lr : LR (List Int)) : Ex → Fr → Option (List Int) :=
  contC (f39E K) 1 lr f39C [1, 1, 0, 1, 0] (finK (f39E K) Tryz.f39 [(.ro, (.list 2 sI))] [(.list 2 sI)] (a0, ()))
noncomputable def f39_g (K : Nat) (a0 : List Int) (I2 : Int → (List Int) → Option (List Int)) : Option (List Int) :=
  (bif (decide (0 ≤ (a0.length : Int)) && Nat.ble (a0.length : Int).toNat (lim 8) && ((a0.length : Int) == (a0.length : Int))) then I2 (0 : Int) (List.replicate (a0.length : Int).toNat (0 : Int)) else none)
noncomputable def f39G (K : Nat) (a0 : List Int) : Option (List Int) :=
  f39_g K a0 (fun d0 d1 => f39_l2 K a0 K d0 d1)
noncomputable def f39M (K : Nat) : Mdl := ⟨[(.ro, (.list 2 sI))], [(.list 2 sI)], fun x => f39G K x.1⟩
/-! laws.toPattern -/
noncomputable def f21E (K : Nat) : Env := ⟨[(15, f15M K), (39, f39M K)], tys, eqs, mts, K, [0, 1, 2, 3], [], []⟩
noncomputable def f21G (K : Nat) (a0 : Int × tL × List Int) : Option (Int × tL × List Int) :=
  (f15G K a0.2.1).bind fun y1 => (f39G K a0.2.2).bind fun y2 => some (a0.1, y1, y2)
noncomputable def f21M (K : Nat) : Mdl := ⟨[(.ro, (.cons sI (.cons sL (.list 2 sI))))], [(.cons sI (.cons sL (.list 2 sI)))], fun x => f21G K x.1⟩
/-! spec.IsFrame -/
noncomputable def f190E (K : Nat) : Env := ⟨[], tys, eqs, mts, K, [0, 2], [], []⟩
noncomputable def f190G (K : Nat) (a0 : Int) : Option Bool :=
  (bif ((!(!(a0 == (0 : Int)))) || true) then (bif ((!(!(a0 == (0 : Int)))) || true) then some (bif (a0 == (0 : Int)) then true else (a0 == (1 : Int))) else none) else none)
noncomputable def f190M (K : Nat) : Mdl := ⟨[(.ro, sI)], [.bool], fun x => f190G K x.1⟩
/-! spec.l01In -/
noncomputable def f59E (K : Nat) : Env := ⟨[], tys, eqs, mts, K, [0, 1, 2, 6], [], []⟩
noncomputable def f59G (K : Nat) (a0 : Int) (a1 : Int) (a2 : Int) : Option Bool :=
  (bif ((!(decide (a0 ≥ a1))) || true) then (bif ((!(decide (a0 ≥ a1))) || true) then (bif ((!(decide (a0 ≥ a1))) || true) then some (bif (decide (a0 ≥ a1)) then (decide (a0 ≤ a2)) else false) else none) else none) else none)
noncomputable def f59M (K : Nat) : Mdl := ⟨[(.ro, sI), (.ro, sI), (.ro, sI)], [.bool], fun x => f59G K x.1 x.2.1 x.2.2.1⟩
/-! spec.IsLattice -/
noncomputable def f191E (K : Nat) : Env := ⟨[(59, f59M K)], tys, eqs, mts, K, [0, 1, 2], [], []⟩
noncomputable def f191G (K : Nat) (a0 : Int × Int × Int) : Option Bool :=
  (f59G K a0.1 (1 : Int) (64 : Int)).bind fun y1 => (bif ((!y1) || true) then (bif ((!y1) || true) then ((bif y1 then f59G K a0.2.2 (1 : Int) (64 : Int) else some false)).bind fun y2 => (bif ((!(bif y1 then y2 else false)) || true) then (bif ((!(bif y1 then y2 else false)) || true) then (bif ((!(bif y1 then y2 else false)) || true) then (bif ((!(bif y1 then y2 else false)) || true) then (bif ((!(bif y1 then y2 else false)) || true) then ((bif (bif y1 then y2 else false) then f59G K a0.2.1 (0 : Int) (w (a0.1 - (1 : Int))) else some false)).bind fun y3 => (bif ((!(bif (bif y1 then y2 else false) then y3 else false)) || true) then (bif ((!(bif (bif y1 then y2 else false) then y3 else false)) || true) then (bif ((!(bif (bif y1 then y2 else false) then y3 else false)) || true) then (bif ((!(bif (bif y1 then y2 else false) then y3 else false)) || true) then (bif ((!(bif (bif y1 then y2 else false) then y3 else false)) || true) then (bif ((!(bif (bif y1 then y2 else false) then y3 else false)) || true) then some (bif (bif (bif y1 then y2 else false) then y3 else false) then (decide ((w (a0.1 * a0.2.2)) ≤ (64 : Int))) else false) else none) else none) else none) else none) else none) else none) else none) else none) else none) else none) else none) else none) else none)
noncomputable def f191M (K : Nat) : Mdl := ⟨[(.ro, sL)], [.bool], fun x => f191G K x.1⟩
/-! spec.l04Code -/
noncomputable def f133E (K : Nat) : Env := ⟨[(190, f190M K), (191, f191M K)], tys, eqs, mts, K, [0, 1, 3, 4, 12], [], []⟩
noncomputable def f133G (K : Nat) (a0 : Int) (a1 : Int × Int × Int) : Option Int :=
  (f190G K a0).bind fun y1 => (bif ((!(!(!y1))) || true) then ((bif (!(!y1)) then f191G K a1 else some false)).bind fun y2 => (bif ((!(!(!y1))) || true) then (bif (bif (!y1) then true else (!y2)) then some (1 : Int) else some (0 : Int)) else none) else none)
noncomputable def f133M (K : Nat) : Mdl := ⟨[(.ro, sI), (.ro, sL)], [sI], fun x => f133G K x.1 x.2.1⟩
/-! spec.l01Within -/
noncomputable def f90C : Code := codeOf Tryz.f90
noncomputable def f90E (K : Nat) : Env := ⟨[(59, f59M K)], tys, eqs, mts, K, [0, 1, 2, 3, 8, 9, 13, 23], [], []⟩
noncomputable def f90_b3 (K : Nat) (a0 : List Int) (a1 : Int) (a2 : Int) (a3 : Int) (L3 : Int → Option Bool) (q4 : Int) : Option Bool :=
  (bif (decide (q4 < (a0.length : Int))) then (bif (decide (0 ≤ q4) && decide (q4 < (a0.length : Int))) then (f59G K (a0.getD ((0 : Int) + q4).toNat (0 : Int)) a2 a3).bind fun y5 => (bif (!y5) then some false else L3 (w (q4 + (1 : Int)))) else none) else some (decide ((a0.length : Int) ≤ a1)))
noncomputable def f90_l3 (K : Nat) (a0 : List Int) (a1 : Int) (a2 : Int) (a3 : Int) (n : Nat) (q4 : Int) : Option Bool :=
  iter (X := Int) (fun L x => (fun L3 => f90_b3 K a0 a1 a2 a3 L3 x) (fun v0 => L v0)) n q4
noncomputable def f90_fr3 (a0 : List Int) (a1 : Int) (a2 : Int) (a3 : Int) (q4 : Int) : Fr := ⟨28, [(0, .v false [.row 0]), (1, .v false [.int .i64 a1]), (2, .v false [.int .i64 a2]), (3, .v false [.int .i64 a3]), (8, .v false [.bool false]), (9, .v false [.int .i64 q4])], [], [some ⟨2, sI, a0, .ro⟩]⟩
noncomputable def f90_k3 (K : Nat) (a0 : List Int) (a1 : Int) (a2 : Int) (a3 : Int) (lr : LR Bool) : Ex → Fr → Option Bool :=
  contC (f90E K) 1 lr f90C [1, 0, 1, 0] (finK (f90E K) Tryz.f90 [(.ro, (.list 2 sI)), (.ro, sI), (.ro, sI), (.ro, sI)] [.bool] (a0, a1, a2, a3, ()))
noncomputable def f90_g (K : Nat) (a0 : List Int) (a1 : Int) (a2 : Int) (a3 : Int) (I3 : Int → Option Bool) : Option Bool :=
  I3 (0 : Int)
noncomputable def f90G (K : Nat) (a0 : List Int) (a1 : Int) (a2 : Int) (a3 : Int) : Option Bool :=
  f90_g K a0 a1 a2 a3 (fun d0 => f90_l3 K a0 a1 a2 a3 K d0)
noncomputable def f90M (K : Nat) : Mdl := ⟨[(.ro, (.list 2 sI)), (.ro, sI), (.ro, sI), (.ro, sI)], [.bool], fun x => f90G K x.1 x.2.1 x.2.2.1 x.2.2.2.1⟩
/-! spec.IsPattern -/
noncomputable def f67E (K : Nat) : Env := ⟨[(90, f90M K), (133, f133M K)], tys, eqs, mts, K, [0, 1, 2], [], []⟩
noncomputable def f67G (K : Nat) (a0 : Int × tL × List Int) : Option Bool :=
  (f133G K a0.1 a0.2.1).bind fun y1 => (bif ((!(y1 == (0 : Int))) || true) then (bif ((!(y1 == (0 : Int))) || true) then (bif ((!(y1 == (0 : Int))) || true) then (bif ((!(y1 == (0 : Int))) || true) then (bif ((!(y1 == (0 : Int))) || true) then (bif ((!(y1 == (0 : Int))) || true) then (bif ((!(y1 == (0 : Int))) || true) then (bif ((!(y1 == (0 : Int))) || true) then (bif ((!(y1 == (0 : Int))) || true) then (bif ((!(y1 == (0 : Int))) || true) then (bif ((!(y1 == (0 : Int))) || true) then (bif ((!(bif (y1 == (0 : Int)) then ((a0.2.2.length : Int) == (w (a0.2.1.1 * a0.2.1.2.2))) else false)) || true) then (bif ((!(bif (y1 == (0 : Int)) then ((a0.2.2.length : Int) == (w (a0.2.1.1 * a0.2.1.2.2))) else false)) || true) then ((bif (bif (y1 == (0 : Int)) then ((a0.2.2.length : Int) == (w (a0.2.1.1 * a0.2.1.2.2))) else false) then f90G K a0.2.2 (64 : Int) (0 : Int) (9 : Int) else some false)).bind fun y2 => some (bif (bif (y1 == (0 : Int)) then ((a0.2.2.length : Int) == (w (a0.2.1.1 * a0.2.1.2.2))) else false) then y2 else false) else none) else none) else none) else none) else none) else none) else none) else none) else none) else none) else none) else none) else none)
noncomputable def f67M (K : Nat) : Mdl := ⟨[(.ro, (.cons sI (.cons sL (.list 2 sI))))], [.bool], fun x => f67G K x.1⟩
/-! spec.l03Cells -/
noncomputable def f129C : Code := codeOf Tryz.f129
noncomputable def f129E (K : Nat) : Env := ⟨[], tys, eqs, mts, K, [0, 1, 2, 3, 4, 5, 10, 16], [], []⟩
noncomputable def f129_b9 (K : Nat) (a0 : Int × Int × Int) (q7 : Int) (L6 : Int → (List tV) → Option (List tV)) (L9 : Int → (List tV) → Option (List tV)) (q10 : Int) (q11 : List tV) : Option (List tV) :=
  (bif (decide (q10 < a0.2.2)) then (bif (Nat.ble (q11.length + [(q7, q10)].length) (lim 16)) then L9 (w (q10 + (1 : Int))) (q11 ++ [(q7, q10)]) else none) else L6 (w (q7 + (1 : Int))) q11)
noncomputable def f129_l9 (K : Nat) (a0 : Int × Int × Int) (q7 : Int) (L6 : Int → (List tV) → Option (List tV)) (n : Nat) (q10 : Int) (q11 : List tV) : Option (List tV) :=
  iter (X := Int × List tV) (fun L x => (fun L9 => f129_b9 K a0 q7 L6 L9 x.1 x.2) (fun v0 v1 => L (v0, v1))) n (q10, q11)
noncomputable def f129_fr9 (a0 : Int × Int × Int) (q7 : Int) (q10 : Int) (q11 : List tV) : Fr := ⟨26, [(0, .v true [.int .i64 a0.1, .int .i64 a0.2.1, .int .i64 a0.2.2]), (1, .v false [.box 0 0]), (2, .v false [.row 0]), (3, .v false [.row 1]), (4, .v false [.int .i64 q7]), (5, .v false [.int .i64 q10]), (10, .v false [.bool (decide (q7 < a0.1))])], [some ⟨true, [.int .i64 a0.1, .int .i64 a0.2.1, .int .i64 a0.2.2]⟩], [some ⟨53, sV, [], .own⟩, some ⟨53, sV, q11, .own⟩]⟩
noncomputable def f129_b6 (K : Nat) (a0 : Int × Int × Int) (I9 : Int → Int → (List tV) → Option (List tV)) (L6 : Int → (List tV) → Option (List tV)) (q7 : Int) (q8 : List tV) : Option (List tV) :=
  (bif (decide (q7 < a0.1)) then I9 q7 (0 : Int) q8 else some q8)
noncomputable def f129_l6 (K : Nat) (a0 : Int × Int × Int) (n : Nat) (q7 : Int) (q8 : List tV) : Option (List tV) :=
  iter (X := Int × List tV) (fun L x => (fun L6 => f129_b6 K a0 (fun c0 d0 d1 => f129_l9 K a0 c0 L6 K d0 d1) L6 x.1 x.2) (fun v0 v1 => L (v0, v1))) n (q7, q8)
noncomputable def f129_fr6 (a0 : Int × Int × Int) (q7 : Int) (q8 : List tV) : Fr := ⟨26, [(0, .v true [.int .i64 a0.1, .int .i64 a0.2.1, .int .i64 a0.2.2]), (1, .v false [.box 0 0]), (2, .v false [.row 0]), (3, .v false [.row 1]), (4, .v false [.int .i64 q7])], [some ⟨true, [.int .i64 a0.1, .int .i64 a0.2.1, .int .i64 a0.2.2]⟩], [some ⟨53, sV, [], .own⟩, some ⟨53, sV, q8, .own⟩]⟩
noncomputable def f129_k6 (K : Nat) (a0 : Int × Int × Int) (lr : LR (List tV)) : Ex → Fr → Option (List tV) :=
  contC (f129E K) 0 lr f129C [1, 1, 0, 1, 0] (finK (f129E K) Tryz.f129 [(.ro, sL)] [(.list 53 sV)] (a0, ()))
noncomputable def f129_k9 (K : Nat) (a0 : Int × Int × Int) (F6 : Fr → Option (List tV)) (bq7 : Int) (bq8 : List tV) (lr : LR (List tV)) : Ex → Fr → Option (List tV) :=
  contC (f129E K) 0 lr (selC f129C [1, 1, 0, 1, 0, 0]) [1, 0, 0, 1, 0] (loopK 0 (f129_fr6 a0 bq7 bq8) F6 (f129_k6 K a0 lr))
noncomputable def f129_g (K : Nat) (a0 : Int × Int × Int) (I6 : Int → (List tV) → Option (List tV)) : Option (List tV) :=
  I6 (0 : Int) []
noncomputable def f129G (K : Nat) (a0 : Int × Int × Int) : Option (List tV) :=
  f129_g K a0 (fun d0 d1 => f129_l6 K a0 K d0 d1)
noncomputable def f129M (K : Nat) : Mdl := ⟨[(.ro, sL)], [(.list 53 sV)], fun x => f129G K x.1⟩
/-! spec.l03Basis -/
noncomputable def f192E (K : Nat) : Env := ⟨[], tys, eqs, mts, K, [0, 1, 2], [], []⟩
noncomputable def f192G (K : Nat) (a0 : Int × Int × Int) : Option (List tV) :=
  some [(a0.1, (0 : Int)), a0.2]
noncomputable def f192M (K : Nat) : Mdl := ⟨[(.ro, sL)], [(.list 53 sV)], fun x => f192G K x.1⟩
/-! spec.l02Unit -/
noncomputable def f193E (K : Nat) : Env := ⟨[], tys, eqs, mts, K, [0], [], []⟩
noncomputable def f193G (K : Nat) : Option tA :=
  some ((1 : Int), (0 : Int), (0 : Int), (1 : Int))
noncomputable def f193M (K : Nat) : Mdl := ⟨[], [sA], fun x => f193G K ⟩
/-! spec.l02Apply -/
noncomputable def f241E (K : Nat) : Env := ⟨[], tys, eqs, mts, K, [0, 1, 2, 3, 4], [], []⟩
noncomputable def f241G (K : Nat) (a0 : Int × Int × Int × Int) (a1 : Int × Int) : Option tV :=
  some ((w ((w (a0.1 * a1.1)) + (w (a0.2.1 * a1.2)))), (w ((w (a0.2.2.1 * a1.1)) + (w (a0.2.2.2 * a1.2)))))
noncomputable def f241M (K : Nat) : Mdl := ⟨[(.ro, sA), (.ro, sV)], [sV], fun x => f241G K x.1 x.2.1⟩
/-! spec.l01Add -/
noncomputable def f170E (K : Nat) : Env := ⟨[], tys, eqs, mts, K, [0, 1, 2, 3, 4], [], []⟩
noncomputable def f170G (K : Nat) (a0 : Int × Int) (a1 : Int × Int) : Option tV :=
  some ((w (a0.1 + a1.1)), (w (a0.2 + a1.2)))
noncomputable def f170M (K : Nat) : Mdl := ⟨[(.ro, sV), (.ro, sV)], [sV], fun x => f170G K x.1 x.2.1⟩
/-! spec.l05Apply -/
noncomputable def f197E (K : Nat) : Env := ⟨[(170, f170M K), (241, f241M K)], tys, eqs, mts, K, [0, 1, 2, 3, 4], [], []⟩
noncomputable def f197G (K : Nat) (a0 : tA × Int × Int) (a1 : Int × Int) : Option tV :=
  (f241G K a0.1 a1).bind fun y1 => (f170G K y1 a0.2).bind fun y2 => some y2
noncomputable def f197M (K : Nat) : Mdl := ⟨[(.ro, sM), (.ro, sV)], [sV], fun x => f197G K x.1 x.2.1⟩
/-! spec.l01Mod -/
noncomputable def f180E (K : Nat) : Env := ⟨[], tys, eqs, mts, K, [0, 1, 4, 9], [], []⟩
noncomputable def f180G (K : Nat) (a0 : Int) (a1 : Int) : Option Int :=
  (bif (a1 != 0) then (bif (decide ((a0.tmod a1) < (0 : Int))) then some (w ((a0.tmod a1) + a1)) else some (a0.tmod a1)) else none)
noncomputable def f180M (K : Nat) : Mdl := ⟨[(.ro, sI), (.ro, sI)], [sI], fun x => f180G K x.1 x.2.1⟩
/-! spec.l03Reduce -/
noncomputable def f114E (K : Nat) : Env := ⟨[(180, f180M K)], tys, eqs, mts, K, [0, 1, 2, 3, 4, 5, 6], [], []⟩
noncomputable def f114G (K : Nat) (a0 : Int × Int × Int) (a1 : Int × Int) : Option tV :=
  (f180G K a1.2 a0.2.2).bind fun y1 => (bif (a0.2.2 != 0) then (f180G K (w (a1.1 - (w ((w ((w (a1.2 - y1)).tdiv a0.2.2)) * a0.2.1)))) a0.1).bind fun y2 => some (y2, y1) else none)
noncomputable def f114M (K : Nat) : Mdl := ⟨[(.ro, sL), (.ro, sV)], [sV], fun x => f114G K x.1 x.2.1⟩
/-! spec.l03Number -/
noncomputable def f78E (K : Nat) : Env := ⟨[(114, f114M K)], tys, eqs, mts, K, [0, 1, 2, 3, 4], [], []⟩
noncomputable def f78G (K : Nat) (a0 : Int × Int × Int) (a1 : Int × Int) : Option Int :=
  (f114G K a0 a1).bind fun y1 => some (w ((w (y1.1 * a0.2.2)) + y1.2))
noncomputable def f78M (K : Nat) : Mdl := ⟨[(.ro, sL), (.ro, sV)], [sI], fun x => f78G K x.1 x.2.1⟩
/-! spec.l09At -/
noncomputable def f122E (K : Nat) : Env := ⟨[(78, f78M K)], tys, eqs, mts, K, [0, 1, 2, 3, 4], [], []⟩
noncomputable def f122G (K : Nat) (a0 : Int × tL × List Int) (a1 : Int × Int) : Option Int :=
  (f78G K a0.2.1 a1).bind fun y1 => (bif (decide (0 ≤ y1) && decide (y1 < (a0.2.2.length : Int))) then some (a0.2.2.getD ((0 : Int) + y1).toNat (0 : Int)) else none)
noncomputable def f122M (K : Nat) : Mdl := ⟨[(.ro, (.cons sI (.cons sL (.list 2 sI)))), (.ro, sV)], [sI], fun x => f122G K x.1 x.2.1⟩
/-! spec.l09Keeps -/
noncomputable def f137C : Code := codeOf Tryz.f137
noncomputable def f137E (K : Nat) : Env := ⟨[(122, f122M K), (129, f129M K), (197, f197M K)], tys, eqs, mts, K, [0, 1, 2, 3, 4, 5, 6, 13, 30], [], []⟩
noncomputable def f137_b6 (K : Nat) (a0 : Int × tL × List Int) (a1 : tA × Int × Int) (y1 : List tV) (L6 : Int → Option Bool) (q7 : Int) : Option Bool :=
  (bif (decide (q7 < (y1.length : Int))) then (bif (decide (0 ≤ q7) && decide (q7 < (y1.length : Int))) then (f197G K a1 (y1.getD ((0 : Int) + q7).toNat ((0 : Int), (0 : Int)))).bind fun y8 => (f122G K a0 y8).bind fun y9 => (bif (decide (0 ≤ q7) && decide (q7 < (y1.length : Int))) then (f122G K a0 (y1.getD ((0 : Int) + q7).toNat ((0 : Int), (0 : Int)))).bind fun y10 => (bif (y9 != y10) then some false else L6 (w (q7 + (1 : Int)))) else none) else none) else some true)
noncomputable def f137_l6 (K : Nat) (a0 : Int × tL × List Int) (a1 : tA × Int × Int) (y1 : List tV) (n : Nat) (q7 : Int) : Option Bool :=
  iter (X := Int) (fun L x => (fun L6 => f137_b6 K a0 a1 y1 L6 x) (fun v0 => L v0)) n q7
noncomputable def f137_fr6 (a0 : Int × tL × List Int) (a1 : tA × Int × Int) (y1 : List tV) (q7 : Int) : Fr := ⟨31, [(0, .v true [.int .i64 a0.1, .int .i64 a0.2.1.1, .int .i64 a0.2.1.2.1, .int .i64 a0.2.1.2.2, .row 0]), (1, .v true [.int .i64 a1.1.1, .int .i64 a1.1.2.1, .int .i64 a1.1.2.2.1, .int .i64 a1.1.2.2.2, .int .i64 a1.2.1, .int .i64 a1.2.2]), (2, .v false [.box 0 0]), (3, .v false [.box 1 0]), (4, .v false [.bool false]), (5, .v false [.row 1]), (6, .v false [.int .i64 q7])], [some ⟨true, [.int .i64 a0.1, .int .i64 a0.2.1.1, .int .i64 a0.2.1.2.1, .int .i64 a0.2.1.2.2, .row 0]⟩, some ⟨true, [.int .i64 a1.1.1, .int .i64 a1.1.2.1, .int .i64 a1.1.2.2.1, .int .i64 a1.1.2.2.2, .int .i64 a1.2.1, .int .i64 a1.2.2]⟩], [some ⟨2, sI, a0.2.2, .ro⟩, some ⟨53, sV, y1, .own⟩]⟩
noncomputable def f137_k6 (K : Nat) (a0 : Int × tL × List Int) (a1 : tA × Int × Int) (lr : LR Bool) : Ex → Fr → Option Bool :=
  contC (f137E K) 1 lr f137C [1, 1, 0, 1, 0] (finK (f137E K) Tryz.f137 [(.ro, (.cons sI (.cons sL (.list 2 sI)))), (.ro, sM)] [.bool] (a0, a1, ()))
noncomputable def f137_g (K : Nat) (a0 : Int × tL × List Int) (a1 : tA × Int × Int) (I6 : (List tV) → Int → Option Bool) : Option Bool :=
  (f129G K a0.2.1).bind fun y1 => I6 y1 (0 : Int)
noncomputable def f137G (K : Nat) (a0 : Int × tL × List Int) (a1 : tA × Int × Int) : Option Bool :=
  f137_g K a0 a1 (fun c0 d0 => f137_l6 K a0 a1 c0 K d0)
noncomputable def f137M (K : Nat) : Mdl := ⟨[(.ro, (.cons sI (.cons sL (.list 2 sI)))), (.ro, sM)], [.bool], fun x => f137G K x.1 x.2.1⟩
/-! spec.l01Divisor -/
noncomputable def f242E (K : Nat) (rec : Int → Int → Option Int) : Env := ⟨[(242, ⟨[(.ro, sI), (.ro, sI)], [sI], fun x => rec x.1 x.2.1⟩)], tys, eqs, mts, K, [0, 1, 4, 6], [], []⟩
noncomputable def f242_s (K : Nat) (rec : Int → Int → Option Int) (a0 : Int) (a1 : Int) : Option Int :=
  (bif (a1 == (0 : Int)) then some (if (w (0 - a0)) > a0 then (w (0 - a0)) else a0) else (bif (a1 != 0) then (rec a1 (a0.tmod a1)).bind fun y1 => some y1 else none))
noncomputable def f242R (K : Nat) : Nat → Int → Int → Option Int
  | 0 => fun _ _ => none
  | n + 1 => fun a0 a1 => f242_s K (f242R K n) a0 a1
noncomputable def f242G (K : Nat) (a0 : Int) (a1 : Int) : Option Int := f242R K K a0 a1
noncomputable def f242M (K : Nat) : Mdl := ⟨[(.ro, sI), (.ro, sI)], [sI], fun x => f242G K x.1 x.2.1⟩
/-! spec.l01Scale -/
noncomputable def f243E (K : Nat) : Env := ⟨[], tys, eqs, mts, K, [0, 1, 2, 4], [], []⟩
noncomputable def f243G (K : Nat) (a0 : Int × Int) (a1 : Int) : Option tV :=
  some ((w (a1 * a0.1)), (w (a1 * a0.2)))
noncomputable def f243M (K : Nat) : Mdl := ⟨[(.ro, sV), (.ro, sI)], [sV], fun x => f243G K x.1 x.2.1⟩
/-! spec.l03Hermite -/
noncomputable def f194C : Code := codeOf Tryz.f194
noncomputable def f194E (K : Nat) : Env := ⟨[(180, f180M K), (242, f242M K), (243, f243M K)], tys, eqs, mts, K, [0, 2, 3, 4, 5, 6, 7, 8, 13, 22, 50, 58, 62], [], []⟩
noncomputable def f194_b15 (K : Nat) (a0 : List tV) (q11 : Int) (q12 : Int) (L10 : Int → Int → Int → Int → Option tL) (L15 : Int → Int → Int → Int → Option tL) (q16 : Int) (q17 : Int) (q18 : Int) (q19 : Int) : Option tL :=
  (bif (q19 != (0 : Int)) then (bif (q19 != 0) then L15 q18 q19 (w (q16 - (w ((w (q17.tdiv q19)) * q18)))) (w (q17 - (w ((w (q17.tdiv q19)) * q19)))) else none) else (f242G K q11 q18).bind fun y20 => (bif (decide (y20 > (0 : Int))) then (f180G K q16 y20).bind fun y21 => L10 y20 (w (q12 + (1 : Int))) y21 q17 else L10 y20 (w (q12 + (1 : Int))) q16 q17))
noncomputable def f194_l15 (K : Nat) (a0 : List tV) (q11 : Int) (q12 : Int) (L10 : Int → Int → Int → Int → Option tL) (n : Nat) (q16 : Int) (q17 : Int) (q18 : Int) (q19 : Int) : Option tL :=
  iter (X := Int × Int × Int × Int) (fun L x => (fun L15 => f194_b15 K a0 q11 q12 L10 L15 x.1 x.2.1 x.2.2.1 x.2.2.2) (fun v0 v1 v2 v3 => L (v0, v1, v2, v3))) n (q16, q17, q18, q19)
noncomputable def f194_fr15 (a0 : List tV) (q11 : Int) (q12 : Int) (q16 : Int) (q17 : Int) (q18 : Int) (q19 : Int) : Fr := ⟨74, [(0, .v false [.row 0]), (2, .v false [.box 0 0]), (3, .v false [.box 1 0]), (4, .v false [.int .i64 q11]), (5, .v false [.int .i64 q12]), (6, .v false [.box 2 0]), (13, .v false [.bool (decide (q12 < (a0.length : Int)))])], [some ⟨true, [.int .i64 (0 : Int), .int .i64 (0 : Int), .int .i64 (0 : Int)]⟩, some ⟨true, [.int .i64 q16, .int .i64 q17]⟩, some ⟨true, [.int .i64 q18, .int .i64 q19]⟩], [some ⟨53, sV, a0, .ro⟩]⟩
noncomputable def f194_b10 (K : Nat) (a0 : List tV) (I15 : Int → Int → Int → Int → Int → Int → Option tL) (L10 : Int → Int → Int → Int → Option tL) (q11 : Int) (q12 : Int) (q13 : Int) (q14 : Int) : Option tL :=
  (bif (decide (q12 < (a0.length : Int))) then (bif (decide (0 ≤ q12) && decide (q12 < (a0.length : Int))) then I15 q11 q12 q13 q14 ((a0.getD ((0 : Int) + q12).toNat ((0 : Int), (0 : Int))).1) ((a0.getD ((0 : Int) + q12).toNat ((0 : Int), (0 : Int))).2) else none) else (bif (decide (q14 < (0 : Int))) then (f243G K (q13, q14) (-1 : Int)).bind fun y22 => (bif (decide (q11 > (0 : Int))) then (f180G K y22.1 q11).bind fun y23 => some (q11, y23, y22.2) else some (q11, y22)) else (bif (decide (q11 > (0 : Int))) then (f180G K q13 q11).bind fun y24 => some (q11, y24, q14) else some (q11, q13, q14))))
noncomputable def f194_l10 (K : Nat) (a0 : List tV) (n : Nat) (q11 : Int) (q12 : Int) (q13 : Int) (q14 : Int) : Option tL :=
  iter (X := Int × Int × Int × Int) (fun L x => (fun L10 => f194_b10 K a0 (fun c0 c1 d0 d1 d2 d3 => f194_l15 K a0 c0 c1 L10 K d0 d1 d2 d3) L10 x.1 x.2.1 x.2.2.1 x.2.2.2) (fun v0 v1 v2 v3 => L (v0, v1, v2, v3))) n (q11, q12, q13, q14)
noncomputable def f194_fr10 (a0 : List tV) (q11 : Int) (q12 : Int) (q13 : Int) (q14 : Int) : Fr := ⟨74, [(0, .v false [.row 0]), (2, .v false [.box 0 0]), (3, .v false [.box 1 0]), (4, .v false [.int .i64 q11]), (5, .v false [.int .i64 q12])], [some ⟨true, [.int .i64 (0 : Int), .int .i64 (0 : Int), .int .i64 (0 : Int)]⟩, some ⟨true, [.int .i64 q13, .int .i64 q14]⟩], [some ⟨53, sV, a0, .ro⟩]⟩
noncomputable def f194_k10 (K : Nat) (a0 : List tV) (lr : LR tL) : Ex → Fr → Option tL :=
  contC (f194E K) 1 lr f194C [1, 1, 0, 1, 0] (finK (f194E K) Tryz.f194 [(.ro, (.list 53 sV))] [sL] (a0, ()))
noncomputable def f194_k15 (K : Nat) (a0 : List tV) (F10 : Fr → Option tL) (bq11 : Int) (bq12 : Int) (bq13 : Int) (bq14 : Int) (lr : LR tL) : Ex → Fr → Option tL :=
  contC (f194E K) 1 lr (selC f194C [1, 1, 0, 1, 0, 0]) [1, 0, 0, 1, 0, 0] (loopK 1 (f194_fr10 a0 bq11 bq12 bq13 bq14) F10 (f194_k10 K a0 lr))
noncomputable def f194_g (K : Nat) (a0 : List tV) (I10 : Int → Int → Int → Int → Option tL) : Option tL :=
  I10 (0 : Int) (0 : Int) (0 : Int) (0 : Int)
noncomputable def f194G (K : Nat) (a0 : List tV) : Option tL :=
  f194_g K a0 (fun d0 d1 d2 d3 => f194_l10 K a0 K d0 d1 d2 d3)
noncomputable def f194M (K : Nat) : Mdl := ⟨[(.ro, (.list 53 sV))], [sL], fun x => f194G K x.1⟩
/-! spec.l09Full -/
noncomputable def f135C : Code := codeOf Tryz.f135
noncomputable def f135E (K : Nat) : Env := ⟨[(129, f129M K), (137, f137M K), (192, f192M K), (193, f193M K), (194, f194M K)], tys, eqs, mts, K, [0, 1, 2, 3, 4, 5, 15, 25], [], []⟩
noncomputable def f135_b6 (K : Nat) (a0 : Int × tL × List Int) (y1 : List tV) (L6 : Int → (List tV) → Option tL) (q7 : Int) (q8 : List tV) : Option tL :=
  (bif (decide (q7 < (y1.length : Int))) then (f193G K).bind fun y9 => (bif (decide (0 ≤ q7) && decide (q7 < (y1.length : Int))) then (f137G K a0 (y9, (y1.getD ((0 : Int) + q7).toNat ((0 : Int), (0 : Int))))).bind fun y10 => (bif y10 then (bif (decide (0 ≤ q7) && decide (q7 < (y1.length : Int))) then (bif (Nat.ble (q8.length + [(y1.getD ((0 : Int) + q7).toNat ((0 : Int), (0 : Int)))].length) (lim 16)) then L6 (w (q7 + (1 : Int))) (q8 ++ [(y1.getD ((0 : Int) + q7).toNat ((0 : Int), (0 : Int)))]) else none) else none) else L6 (w (q7 + (1 : Int))) q8) else none) else (f194G K q8).bind fun y11 => some y11)
noncomputable def f135_l6 (K : Nat) (a0 : Int × tL × List Int) (y1 : List tV) (n : Nat) (q7 : Int) (q8 : List tV) : Option tL :=
  iter (X := Int × List tV) (fun L x => (fun L6 => f135_b6 K a0 y1 L6 x.1 x.2) (fun v0 v1 => L (v0, v1))) n (q7, q8)
noncomputable def f135_fr6 (a0 : Int × tL × List Int) (y1 : List tV) (q7 : Int) (q8 : List tV) : Fr := ⟨35, [(0, .v true [.int .i64 a0.1, .int .i64 a0.2.1.1, .int .i64 a0.2.1.2.1, .int .i64 a0.2.1.2.2, .row 0]), (1, .v false [.box 0 0]), (2, .v false [.box 1 0]), (3, .v false [.row 1]), (4, .v false [.row 2]), (5, .v false [.int .i64 q7])], [some ⟨true, [.int .i64 a0.1, .int .i64 a0.2.1.1, .int .i64 a0.2.1.2.1, .int .i64 a0.2.1.2.2, .row 0]⟩, some ⟨true, [.int .i64 (0 : Int), .int .i64 (0 : Int), .int .i64 (0 : Int)]⟩], [some ⟨2, sI, a0.2.2, .ro⟩, some ⟨53, sV, y1, .own⟩, some ⟨53, sV, q8, .own⟩]⟩
noncomputable def f135_k6 (K : Nat) (a0 : Int × tL × List Int) (lr : LR tL) : Ex → Fr → Option tL :=
  contC (f135E K) 1 lr f135C [1, 1, 1, 0, 1, 0] (finK (f135E K) Tryz.f135 [(.ro, (.cons sI (.cons sL (.list 2 sI))))] [sL] (a0, ()))
noncomputable def f135_g (K : Nat) (a0 : Int × tL × List Int) (I6 : (List tV) → Int → (List tV) → Option tL) : Option tL :=
  (f129G K a0.2.1).bind fun y1 => (f192G K a0.2.1).bind fun y2 => I6 y1 (0 : Int) y2
noncomputable def f135G (K : Nat) (a0 : Int × tL × List Int) : Option tL :=
  f135_g K a0 (fun c0 d0 d1 => f135_l6 K a0 c0 K d0 d1)
noncomputable def f135M (K : Nat) : Mdl := ⟨[(.ro, (.cons sI (.cons sL (.list 2 sI))))], [sL], fun x => f135G K x.1⟩
/-! spec.l09On -/
noncomputable def f134C : Code := codeOf Tryz.f134
noncomputable def f134E (K : Nat) : Env := ⟨[(122, f122M K), (129, f129M K)], tys, eqs, mts, K, [0, 1, 2, 3, 4, 5, 6, 7, 18], [], []⟩
noncomputable def f134_b4 (K : Nat) (a0 : Int × tL × List Int) (a1 : Int × Int × Int) (y1 : List tV) (L4 : Int → (List Int) → Option (Int × tL × List Int)) (q5 : Int) (q6 : List Int) : Option (Int × tL × List Int) :=
  (bif (decide (q5 < (y1.length : Int))) then (bif (decide (0 ≤ q5) && decide (q5 < (y1.length : Int))) then (f122G K a0 (y1.getD ((0 : Int) + q5).toNat ((0 : Int), (0 : Int)))).bind fun y7 => (bif (Nat.ble (q6.length + [y7].length) (lim 8)) then L4 (w (q5 + (1 : Int))) (q6 ++ [y7]) else none) else none) else some (a0.1, a1, q6))
noncomputable def f134_l4 (K : Nat) (a0 : Int × tL × List Int) (a1 : Int × Int × Int) (y1 : List tV) (n : Nat) (q5 : Int) (q6 : List Int) : Option (Int × tL × List Int) :=
  iter (X := Int × List Int) (fun L x => (fun L4 => f134_b4 K a0 a1 y1 L4 x.1 x.2) (fun v0 v1 => L (v0, v1))) n (q5, q6)
noncomputable def f134_fr4 (a0 : Int × tL × List Int) (a1 : Int × Int × Int) (y1 : List tV) (q5 : Int) (q6 : List Int) : Fr := ⟨33, [(0, .v true [.int .i64 a0.1, .int .i64 a0.2.1.1, .int .i64 a0.2.1.2.1, .int .i64 a0.2.1.2.2, .row 0]), (1, .v true [.int .i64 a1.1, .int .i64 a1.2.1, .int .i64 a1.2.2]), (2, .v false [.box 0 0]), (3, .v false [.box 1 0]), (4, .v false [.box 2 0]), (5, .v false [.row 1]), (6, .v false [.box 3 0]), (7, .v false [.int .i64 q5])], [some ⟨true, [.int .i64 a0.1, .int .i64 a0.2.1.1, .int .i64 a0.2.1.2.1, .int .i64 a0.2.1.2.2, .row 0]⟩, some ⟨true, [.int .i64 a1.1, .int .i64 a1.2.1, .int .i64 a1.2.2]⟩, some ⟨true, [.int .i64 (0 : Int), .int .i64 (0 : Int), .int .i64 (0 : Int), .int .i64 (0 : Int), .row 2]⟩, some ⟨true, [.int .i64 a0.1, .int .i64 a1.1, .int .i64 a1.2.1, .int .i64 a1.2.2, .row 3]⟩], [some ⟨2, sI, a0.2.2, .ro⟩, some ⟨53, sV, y1, .own⟩, some ⟨2, sI, [], .own⟩, some ⟨2, sI, q6, .own⟩]⟩
noncomputable def f134_k4 (K : Nat) (a0 : Int × tL × List Int) (a1 : Int × Int × Int) (lr : LR (Int × tL × List Int)) : Ex → Fr → Option (Int × tL × List Int) :=
  contC (f134E K) 1 lr f134C [1, 1, 1, 0, 1, 0] (finK (f134E K) Tryz.f134 [(.ro, (.cons sI (.cons sL (.list 2 sI)))), (.ro, sL)] [(.cons sI (.cons sL (.list 2 sI)))] (a0, a1, ()))
noncomputable def f134_g (K : Nat) (a0 : Int × tL × List Int) (a1 : Int × Int × Int) (I4 : (List tV) → Int → (List Int) → Option (Int × tL × List Int)) : Option (Int × tL × List Int) :=
  (f129G K a1).bind fun y1 => I4 y1 (0 : Int) []
noncomputable def f134G (K : Nat) (a0 : Int × tL × List Int) (a1 : Int × Int × Int) : Option (Int × tL × List Int) :=
  f134_g K a0 a1 (fun c0 d0 d1 => f134_l4 K a0 a1 c0 K d0 d1)
noncomputable def f134M (K : Nat) : Mdl := ⟨[(.ro, (.cons sI (.cons sL (.list 2 sI)))), (.ro, sL)], [(.cons sI (.cons sL (.list 2 sI)))], fun x => f134G K x.1 x.2.1⟩
/-! spec.l09Lean -/
noncomputable def f68E (K : Nat) : Env := ⟨[(134, f134M K), (135, f135M K)], tys, eqs, mts, K, [0, 1, 2], [], []⟩
noncomputable def f68G (K : Nat) (a0 : Int × tL × List Int) : Option (Int × tL × List Int) :=
  (f135G K a0).bind fun y1 => (f134G K a0 y1).bind fun y2 => some y2
noncomputable def f68M (K : Nat) : Mdl := ⟨[(.ro, (.cons sI (.cons sL (.list 2 sI))))], [(.cons sI (.cons sL (.list 2 sI)))], fun x => f68G K x.1⟩
/-! spec.l04Norm -/
noncomputable def f275E (K : Nat) : Env := ⟨[], tys, eqs, mts, K, [0, 1, 3, 4, 5, 18], [], []⟩
noncomputable def f275G (K : Nat) (a0 : Int) (a1 : Int × Int) : Option Int :=
  (bif (a0 == (1 : Int)) then some (w ((w ((w (a1.1 * a1.1)) + (w (a1.2 * a1.2)))) + (w (a1.1 * a1.2)))) else some (w ((w (a1.1 * a1.1)) + (w (a1.2 * a1.2)))))
noncomputable def f275M (K : Nat) : Mdl := ⟨[(.ro, sI), (.ro, sV)], [sI], fun x => f275G K x.1 x.2.1⟩
/-! spec.l04Keeps -/
noncomputable def f244E (K : Nat) : Env := ⟨[(170, f170M K), (275, f275M K)], tys, eqs, mts, K, [0, 1, 3, 4, 5, 6], [], []⟩
noncomputable def f244G (K : Nat) (a0 : Int) (a1 : Int × Int × Int × Int) : Option Bool :=
  (f275G K a0 (a1.1, a1.2.2.1)).bind fun y1 => (bif ((!(y1 == (1 : Int))) || true) then (bif ((!(y1 == (1 : Int))) || true) then ((bif (y1 == (1 : Int)) then f275G K a0 (a1.2.1, a1.2.2.2) else some (0 : Int))).bind fun y2 => (bif ((!(y1 == (1 : Int))) || true) then (bif ((!(bif (y1 == (1 : Int)) then (y2 == (1 : Int)) else false)) || true) then (bif ((!(bif (y1 == (1 : Int)) then (y2 == (1 : Int)) else false)) || true) then (bif ((!(bif (y1 == (1 : Int)) then (y2 == (1 : Int)) else false)) || true) then ((bif (bif (y1 == (1 : Int)) then (y2 == (1 : Int)) else false) then f170G K (a1.1, a1.2.2.1) (a1.2.1, a1.2.2.2) else some ((0 : Int), (0 : Int)))).bind fun y3 => ((bif (bif (y1 == (1 : Int)) then (y2 == (1 : Int)) else false) then f275G K a0 y3 else some (0 : Int))).bind fun y4 => (bif ((!(bif (y1 == (1 : Int)) then (y2 == (1 : Int)) else false)) || true) then (bif ((!(bif (y1 == (1 : Int)) then (y2 == (1 : Int)) else false)) || true) then (bif ((!(bif (y1 == (1 : Int)) then (y2 == (1 : Int)) else false)) || true) then some (bif (bif (y1 == (1 : Int)) then (y2 == (1 : Int)) else false) then (y4 == (w ((2 : Int) + a0))) else false) else none) else none) else none) else none) else none) else none) else none) else none) else none)
noncomputable def f244M (K : Nat) : Mdl := ⟨[(.ro, sI), (.ro, sA)], [.bool], fun x => f244G K x.1 x.2.1⟩
/-! spec.l04Mats -/
noncomputable def f195C : Code := codeOf Tryz.f195
noncomputable def f195E (K : Nat) : Env := ⟨[(244, f244M K)], tys, eqs, mts, K, [0, 2, 3, 4, 5, 8, 28], [], []⟩
noncomputable def f195_b3 (K : Nat) (a0 : Int) (L3 : Int → (List tA) → Option (List tA)) (q4 : Int) (q5 : List tA) : Option (List tA) :=
  (bif (decide (q4 < (81 : Int))) then (f244G K a0 ((w ((w (q4.tdiv (27 : Int))) - (1 : Int))), (w (((w (q4.tdiv (9 : Int))).tmod (3 : Int)) - (1 : Int))), (w (((w (q4.tdiv (3 : Int))).tmod (3 : Int)) - (1 : Int))), (w ((q4.tmod (3 : Int)) - (1 : Int))))).bind fun y6 => (bif y6 then (bif (Nat.ble (q5.length + [((w ((w (q4.tdiv (27 : Int))) - (1 : Int))), (w (((w (q4.tdiv (9 : Int))).tmod (3 : Int)) - (1 : Int))), (w (((w (q4.tdiv (3 : Int))).tmod (3 : Int)) - (1 : Int))), (w ((q4.tmod (3 : Int)) - (1 : Int))))].length) (lim 32)) then L3 (w (q4 + (1 : Int))) (q5 ++ [((w ((w (q4.tdiv (27 : Int))) - (1 : Int))), (w (((w (q4.tdiv (9 : Int))).tmod (3 : Int)) - (1 : Int))), (w (((w (q4.tdiv (3 : Int))).tmod (3 : Int)) - (1 : Int))), (w ((q4.tmod (3 : Int)) - (1 : Int))))]) else none) else L3 (w (q4 + (1 : Int))) q5) else some q5)
noncomputable def f195_l3 (K : Nat) (a0 : Int) (n : Nat) (q4 : Int) (q5 : List tA) : Option (List tA) :=
  iter (X := Int × List tA) (fun L x => (fun L3 => f195_b3 K a0 L3 x.1 x.2) (fun v0 v1 => L (v0, v1))) n (q4, q5)
noncomputable def f195_fr3 (a0 : Int) (q4 : Int) (q5 : List tA) : Fr := ⟨34, [(0, .v false [.int .i64 a0]), (2, .v false [.row 0]), (3, .v false [.row 1]), (4, .v false [.int .i64 q4])], [], [some ⟨89, sA, [], .own⟩, some ⟨89, sA, q5, .own⟩]⟩
noncomputable def f195_k3 (K : Nat) (a0 : Int) (lr : LR (List tA)) : Ex → Fr → Option (List tA) :=
  contC (f195E K) 0 lr f195C [1, 1, 0, 1, 0] (finK (f195E K) Tryz.f195 [(.ro, sI)] [(.list 89 sA)] (a0, ()))
noncomputable def f195_g (K : Nat) (a0 : Int) (I3 : Int → (List tA) → Option (List tA)) : Option (List tA) :=
  I3 (0 : Int) []
noncomputable def f195G (K : Nat) (a0 : Int) : Option (List tA) :=
  f195_g K a0 (fun d0 d1 => f195_l3 K a0 K d0 d1)
noncomputable def f195M (K : Nat) : Mdl := ⟨[(.ro, sI)], [(.list 89 sA)], fun x => f195G K x.1⟩
/-! spec.l04Image -/
noncomputable def f196E (K : Nat) : Env := ⟨[(192, f192M K), (194, f194M K), (241, f241M K)], tys, eqs, mts, K, [0, 1, 2, 3, 4, 5], [], []⟩
noncomputable def f196G (K : Nat) (a0 : Int × Int × Int × Int) (a1 : Int × Int × Int) : Option tL :=
  (f192G K a1).bind fun y1 => (bif (decide (0 ≤ (0 : Int)) && decide ((0 : Int) < (y1.length : Int))) then (f241G K a0 (y1.getD ((0 : Int) + (0 : Int)).toNat ((0 : Int), (0 : Int)))).bind fun y2 => (bif (decide (0 ≤ (1 : Int)) && decide ((1 : Int) < (y1.length : Int))) then (f241G K a0 (y1.getD ((0 : Int) + (1 : Int)).toNat ((0 : Int), (0 : Int)))).bind fun y3 => (f194G K [y2, y3]).bind fun y4 => some y4 else none) else none)
noncomputable def f196M (K : Nat) : Mdl := ⟨[(.ro, sA), (.ro, sL)], [sL], fun x => f196G K x.1 x.2.1⟩
/-! spec.l04Stable -/
noncomputable def f136C : Code := codeOf Tryz.f136
noncomputable def f136E (K : Nat) : Env := ⟨[(195, f195M K), (196, f196M K)], tys, eqs, mts, K, [0, 1, 3, 4, 5, 6, 7, 14, 24], [], []⟩
noncomputable def f136_b4 (K : Nat) (a0 : Int) (a1 : Int × Int × Int) (y1 : List tA) (L4 : Int → (List tA) → Option (List tA)) (q5 : Int) (q6 : List tA) : Option (List tA) :=
  (bif (decide (q5 < (y1.length : Int))) then (bif (decide (0 ≤ q5) && decide (q5 < (y1.length : Int))) then (f196G K ((y1.getD ((0 : Int) + q5).toNat zA).1, ((y1.getD ((0 : Int) + q5).toNat zA).2).1, (((y1.getD ((0 : Int) + q5).toNat zA).2).2)) a1).bind fun y7 => (bif ((y7.1 == a1.1) && ((y7.2.1 == a1.2.1) && (y7.2.2 == a1.2.2))) then (bif (decide (0 ≤ q5) && decide (q5 < (y1.length : Int))) then (bif (Nat.ble (q6.length + [((y1.getD ((0 : Int) + q5).toNat zA).1, ((y1.getD ((0 : Int) + q5).toNat zA).2).1, (((y1.getD ((0 : Int) + q5).toNat zA).2).2))].length) (lim 32)) then L4 (w (q5 + (1 : Int))) (q6 ++ [((y1.getD ((0 : Int) + q5).toNat zA).1, ((y1.getD ((0 : Int) + q5).toNat zA).2).1, (((y1.getD ((0 : Int) + q5).toNat zA).2).2))]) else none) else none) else L4 (w (q5 + (1 : Int))) q6) else none) else some q6)
noncomputable def f136_l4 (K : Nat) (a0 : Int) (a1 : Int × Int × Int) (y1 : List tA) (n : Nat) (q5 : Int) (q6 : List tA) : Option (List tA) :=
  iter (X := Int × List tA) (fun L x => (fun L4 => f136_b4 K a0 a1 y1 L4 x.1 x.2) (fun v0 v1 => L (v0, v1))) n (q5, q6)
noncomputable def f136_fr4 (a0 : Int) (a1 : Int × Int × Int) (y1 : List tA) (q5 : Int) (q6 : List tA) : Fr := ⟨33, [(0, .v false [.int .i64 a0]), (1, .v true [.int .i64 a1.1, .int .i64 a1.2.1, .int .i64 a1.2.2]), (3, .v false [.box 0 0]), (4, .v false [.row 0]), (5, .v false [.row 1]), (6, .v false [.row 2]), (7, .v false [.int .i64 q5])], [some ⟨true, [.int .i64 a1.1, .int .i64 a1.2.1, .int .i64 a1.2.2]⟩], [some ⟨89, sA, [], .own⟩, some ⟨89, sA, y1, .own⟩, some ⟨89, sA, q6, .own⟩]⟩
noncomputable def f136_k4 (K : Nat) (a0 : Int) (a1 : Int × Int × Int) (lr : LR (List tA)) : Ex → Fr → Option (List tA) :=
  contC (f136E K) 0 lr f136C [1, 1, 1, 0, 1, 0] (finK (f136E K) Tryz.f136 [(.ro, sI), (.ro, sL)] [(.list 89 sA)] (a0, a1, ()))
noncomputable def f136_g (K : Nat) (a0 : Int) (a1 : Int × Int × Int) (I4 : (List tA) → Int → (List tA) → Option (List tA)) : Option (List tA) :=
  (f195G K a0).bind fun y1 => I4 y1 (0 : Int) []
noncomputable def f136G (K : Nat) (a0 : Int) (a1 : Int × Int × Int) : Option (List tA) :=
  f136_g K a0 a1 (fun c0 d0 d1 => f136_l4 K a0 a1 c0 K d0 d1)
noncomputable def f136M (K : Nat) : Mdl := ⟨[(.ro, sI), (.ro, sL)], [(.list 89 sA)], fun x => f136G K x.1 x.2.1⟩
/-! spec.l10Group -/
noncomputable def f69C : Code := codeOf Tryz.f69
noncomputable def f69E (K : Nat) : Env := ⟨[(129, f129M K), (136, f136M K), (137, f137M K)], tys, eqs, mts, K, [0, 1, 2, 3, 4, 5, 6, 7, 8, 21, 27, 41], [], []⟩
noncomputable def f69_b13 (K : Nat) (a0 : Int × tL × List Int) (q11 : Int) (y1 : List tA) (y2 : List tV) (L10 : Int → (List tM) → Option (List tM)) (L13 : Int → (List tM) → Option (List tM)) (q14 : Int) (q15 : List tM) : Option (List tM) :=
  (bif (decide (q14 < (y2.length : Int))) then (bif (decide (0 ≤ q11) && decide (q11 < (y1.length : Int))) then (bif (decide (0 ≤ q14) && decide (q14 < (y2.length : Int))) then (f137G K a0 (((y1.getD ((0 : Int) + q11).toNat zA).1, ((y1.getD ((0 : Int) + q11).toNat zA).2).1, (((y1.getD ((0 : Int) + q11).toNat zA).2).2)), (y2.getD ((0 : Int) + q14).toNat ((0 : Int), (0 : Int))))).bind fun y16 => (bif y16 then (bif (Nat.ble (q15.length + [(((y1.getD ((0 : Int) + q11).toNat zA).1, ((y1.getD ((0 : Int) + q11).toNat zA).2).1, (((y1.getD ((0 : Int) + q11).toNat zA).2).2)), (y2.getD ((0 : Int) + q14).toNat ((0 : Int), (0 : Int))))].length) (lim 48)) then L13 (w (q14 + (1 : Int))) (q15 ++ [(((y1.getD ((0 : Int) + q11).toNat zA).1, ((y1.getD ((0 : Int) + q11).toNat zA).2).1, (((y1.getD ((0 : Int) + q11).toNat zA).2).2)), (y2.getD ((0 : Int) + q14).toNat ((0 : Int), (0 : Int))))]) else none) else L13 (w (q14 + (1 : Int))) q15) else none) else none) else L10 (w (q11 + (1 : Int))) q15)
noncomputable def f69_l13 (K : Nat) (a0 : Int × tL × List Int) (q11 : Int) (y1 : List tA) (y2 : List tV) (L10 : Int → (List tM) → Option (List tM)) (n : Nat) (q14 : Int) (q15 : List tM) : Option (List tM) :=
  iter (X := Int × List tM) (fun L x => (fun L13 => f69_b13 K a0 q11 y1 y2 L10 L13 x.1 x.2) (fun v0 v1 => L (v0, v1))) n (q14, q15)
noncomputable def f69_fr13 (a0 : Int × tL × List Int) (q11 : Int) (y1 : List tA) (y2 : List tV) (q14 : Int) (q15 : List tM) : Fr := ⟨47, [(0, .v true [.int .i64 a0.1, .int .i64 a0.2.1.1, .int .i64 a0.2.1.2.1, .int .i64 a0.2.1.2.2, .row 0]), (1, .v false [.box 0 0]), (2, .v false [.row 1]), (3, .v false [.row 2]), (4, .v false [.row 3]), (5, .v false [.row 4]), (6, .v false [.int .i64 q11]), (7, .v false [.int .i64 q14]), (21, .v false [.bool (decide (q11 < (y1.length : Int)))])], [some ⟨true, [.int .i64 a0.1, .int .i64 a0.2.1.1, .int .i64 a0.2.1.2.1, .int .i64 a0.2.1.2.2, .row 0]⟩], [some ⟨2, sI, a0.2.2, .ro⟩, some ⟨91, sM, [], .own⟩, some ⟨89, sA, y1, .own⟩, some ⟨53, sV, y2, .own⟩, some ⟨91, sM, q15, .own⟩]⟩
noncomputable def f69_b10 (K : Nat) (a0 : Int × tL × List Int) (y1 : List tA) (y2 : List tV) (I13 : Int → Int → (List tM) → Option (List tM)) (L10 : Int → (List tM) → Option (List tM)) (q11 : Int) (q12 : List tM) : Option (List tM) :=
  (bif (decide (q11 < (y1.length : Int))) then I13 q11 (0 : Int) q12 else some q12)
noncomputable def f69_l10 (K : Nat) (a0 : Int × tL × List Int) (y1 : List tA) (y2 : List tV) (n : Nat) (q11 : Int) (q12 : List tM) : Option (List tM) :=
  iter (X := Int × List tM) (fun L x => (fun L10 => f69_b10 K a0 y1 y2 (fun c0 d0 d1 => f69_l13 K a0 c0 y1 y2 L10 K d0 d1) L10 x.1 x.2) (fun v0 v1 => L (v0, v1))) n (q11, q12)
noncomputable def f69_fr10 (a0 : Int × tL × List Int) (y1 : List tA) (y2 : List tV) (q11 : Int) (q12 : List tM) : Fr := ⟨47, [(0, .v true [.int .i64 a0.1, .int .i64 a0.2.1.1, .int .i64 a0.2.1.2.1, .int .i64 a0.2.1.2.2, .row 0]), (1, .v false [.box 0 0]), (2, .v false [.row 1]), (3, .v false [.row 2]), (4, .v false [.row 3]), (5, .v false [.row 4]), (6, .v false [.int .i64 q11])], [some ⟨true, [.int .i64 a0.1, .int .i64 a0.2.1.1, .int .i64 a0.2.1.2.1, .int .i64 a0.2.1.2.2, .row 0]⟩], [some ⟨2, sI, a0.2.2, .ro⟩, some ⟨91, sM, [], .own⟩, some ⟨89, sA, y1, .own⟩, some ⟨53, sV, y2, .own⟩, some ⟨91, sM, q12, .own⟩]⟩
noncomputable def f69_k10 (K : Nat) (a0 : Int × tL × List Int) (lr : LR (List tM)) : Ex → Fr → Option (List tM) :=
  contC (f69E K) 1 lr f69C [1, 1, 1, 0, 1, 0] (finK (f69E K) Tryz.f69 [(.ro, (.cons sI (.cons sL (.list 2 sI))))] [(.list 91 sM)] (a0, ()))
noncomputable def f69_k13 (K : Nat) (a0 : Int × tL × List Int) (y1 : List tA) (y2 : List tV) (F10 : Fr → Option (List tM)) (bq11 : Int) (bq12 : List tM) (lr : LR (List tM)) : Ex → Fr → Option (List tM) :=
  contC (f69E K) 1 lr (selC f69C [1, 1, 1, 0, 1, 0, 0]) [1, 0, 0, 1, 0] (loopK 1 (f69_fr10 a0 y1 y2 bq11 bq12) F10 (f69_k10 K a0 lr))
noncomputable def f69_g (K : Nat) (a0 : Int × tL × List Int) (I10 : (List tA) → (List tV) → Int → (List tM) → Option (List tM)) : Option (List tM) :=
  (f136G K a0.1 a0.2.1).bind fun y1 => (f129G K a0.2.1).bind fun y2 => I10 y1 y2 (0 : Int) []
noncomputable def f69G (K : Nat) (a0 : Int × tL × List Int) : Option (List tM) :=
  f69_g K a0 (fun c0 c1 d0 d1 => f69_l10 K a0 c0 c1 K d0 d1)
noncomputable def f69M (K : Nat) : Mdl := ⟨[(.ro, (.cons sI (.cons sL (.list 2 sI))))], [(.list 91 sM)], fun x => f69G K x.1⟩
/-! spec.l07Move -/
noncomputable def f147E (K : Nat) : Env := ⟨[(114, f114M K), (197, f197M K)], tys, eqs, mts, K, [0, 1, 2, 3, 4, 5, 6], [], []⟩
noncomputable def f147G (K : Nat) (a0 : Int × Int × Int) (a1 : tA × Int × Int) (a2 : Int × Int) : Option tV :=
  (f197G K a1 a2).bind fun y1 => (f114G K a0 y1).bind fun y2 => some y2
noncomputable def f147M (K : Nat) : Mdl := ⟨[(.ro, sL), (.ro, sM), (.ro, sV)], [sV], fun x => f147G K x.1 x.2.1 x.2.2.1⟩
/-! spec.l01Less -/
noncomputable def f171E (K : Nat) : Env := ⟨[], tys, eqs, mts, K, [0, 1, 2, 3, 4], [], []⟩
noncomputable def f171G (K : Nat) (a0 : Int × Int) (a1 : Int × Int) : Option Bool :=
  (bif ((!(!(decide (a0.1 < a1.1)))) || true) then (bif ((!(!(decide (a0.1 < a1.1)))) || true) then (bif ((!(!(decide (a0.1 < a1.1)))) || true) then (bif ((!(!(decide (a0.1 < a1.1)))) || true) then (bif ((!(!(decide (a0.1 < a1.1)))) || true) then (bif ((!(!(decide (a0.1 < a1.1)))) || true) then (bif ((!((!(decide (a0.1 < a1.1))) && (a0.1 == a1.1))) || true) then (bif ((!((!(decide (a0.1 < a1.1))) && (a0.1 == a1.1))) || true) then (bif ((!((!(decide (a0.1 < a1.1))) && (a0.1 == a1.1))) || true) then (bif ((!((!(decide (a0.1 < a1.1))) && (a0.1 == a1.1))) || true) then (bif ((!((!(decide (a0.1 < a1.1))) && (a0.1 == a1.1))) || true) then (bif ((!(!(decide (a0.1 < a1.1)))) || true) then some (bif (decide (a0.1 < a1.1)) then true else (bif (a0.1 == a1.1) then (decide (a0.2 < a1.2)) else false)) else none) else none) else none) else none) else none) else none) else none) else none) else none) else none) else none) else none)
noncomputable def f171M (K : Nat) : Mdl := ⟨[(.ro, sV), (.ro, sV)], [.bool], fun x => f171G K x.1 x.2.1⟩
/-! spec.l01Insert -/
noncomputable def f100C : Code := codeOf Tryz.f100
noncomputable def f100E (K : Nat) : Env := ⟨[(171, f171M K)], tys, eqs, mts, K, [0, 1, 3, 4, 5, 17, 31], [], []⟩
noncomputable def f100_b3 (K : Nat) (a0 : List tV) (a1 : Int × Int) (L3 : Int → Option (List tV)) (q4 : Int) : Option (List tV) :=
  (bif ((!(decide (q4 < (a0.length : Int)))) || true) then (bif ((!(decide (q4 < (a0.length : Int)))) || true) then (bif ((!(decide (q4 < (a0.length : Int)))) || (decide (0 ≤ q4) && decide (q4 < (a0.length : Int)))) then (bif ((!(decide (q4 < (a0.length : Int)))) || true) then (bif ((!(decide (q4 < (a0.length : Int)))) || true) then ((bif (decide (q4 < (a0.length : Int))) then f171G K (a0.getD ((0 : Int) + q4).toNat ((0 : Int), (0 : Int))) a1 else some false)).bind fun y5 => (bif (bif (decide (q4 < (a0.length : Int))) then y5 else false) then L3 (w (q4 + (1 : Int))) else (bif ((!(decide (q4 < (a0.length : Int)))) || true) then (bif ((!(decide (q4 < (a0.length : Int)))) || true) then (bif ((!(decide (q4 < (a0.length : Int)))) || (decide (0 ≤ q4) && decide (q4 < (a0.length : Int)))) then (bif ((!(decide (q4 < (a0.length : Int)))) || true) then (bif ((!(decide (q4 < (a0.length : Int)))) || true) then (bif ((!(decide (q4 < (a0.length : Int)))) || true) then (bif (bif (decide (q4 < (a0.length : Int))) then (((a0.getD ((0 : Int) + q4).toNat ((0 : Int), (0 : Int))).1 == a1.1) && ((a0.getD ((0 : Int) + q4).toNat ((0 : Int), (0 : Int))).2 == a1.2)) else false) then some a0 else (bif (decide (0 ≤ (0 : Int)) && decide ((0 : Int) ≤ q4) && decide (q4 ≤ (a0.length : Int))) then (bif (Nat.ble (0 + ((a0.take ((0 : Int) + q4).toNat).drop 0).length) (lim 16)) then (bif (Nat.ble (([] ++ ((a0.take ((0 : Int) + q4).toNat).drop 0)).length + [a1].length) (lim 16)) then (bif (decide (0 ≤ q4) && decide (q4 ≤ (a0.length : Int)) && decide ((a0.length : Int) ≤ (a0.length : Int))) then (bif (Nat.ble ((([] ++ ((a0.take ((0 : Int) + q4).toNat).drop 0)) ++ [a1]).length + ((a0.take ((0 : Int) + (a0.length : Int)).toNat).drop ((0 : Int) + q4).toNat).length) (lim 16)) then some ((([] ++ ((a0.take ((0 : Int) + q4).toNat).drop 0)) ++ [a1]) ++ ((a0.take ((0 : Int) + (a0.length : Int)).toNat).drop ((0 : Int) + q4).toNat)) else none) else none) else none) else none) else none)) else none) else none) else none) else none) else none) else none)) else none) else none) else none) else none) else none)
noncomputable def f100_l3 (K : Nat) (a0 : List tV) (a1 : Int × Int) (n : Nat) (q4 : Int) : Option (List tV) :=
  iter (X := Int) (fun L x => (fun L3 => f100_b3 K a0 a1 L3 x) (fun v0 => L v0)) n q4
noncomputable def f100_fr3 (a0 : List tV) (a1 : Int × Int) (q4 : Int) : Fr := ⟨45, [(0, .v false [.row 0]), (1, .v true [.int .i64 a1.1, .int .i64 a1.2]), (3, .v false [.box 0 0]), (4, .v false [.row 1]), (5, .v false [.int .i64 q4])], [some ⟨true, [.int .i64 a1.1, .int .i64 a1.2]⟩], [some ⟨53, sV, a0, .own⟩, some ⟨53, sV, [], .own⟩]⟩
noncomputable def f100_k3 (K : Nat) (a0 : List tV) (a1 : Int × Int) (lr : LR (List tV)) : Ex → Fr → Option (List tV) :=
  contC (f100E K) 1 lr f100C [1, 1, 0, 0] (finK (f100E K) Tryz.f100 [(.mv, (.list 53 sV)), (.ro, sV)] [(.list 53 sV)] (a0, a1, ()))
noncomputable def f100_g (K : Nat) (a0 : List tV) (a1 : Int × Int) (I3 : Int → Option (List tV)) : Option (List tV) :=
  I3 (0 : Int)
noncomputable def f100G (K : Nat) (a0 : List tV) (a1 : Int × Int) : Option (List tV) :=
  f100_g K a0 a1 (fun d0 => f100_l3 K a0 a1 K d0)
noncomputable def f100M (K : Nat) : Mdl := ⟨[(.mv, (.list 53 sV)), (.ro, sV)], [(.list 53 sV)], fun x => f100G K x.1 x.2.1⟩
/-! spec.l07Orbit -/
noncomputable def f77C : Code := codeOf Tryz.f77
noncomputable def f77E (K : Nat) : Env := ⟨[(100, f100M K), (147, f147M K)], tys, eqs, mts, K, [0, 1, 2, 3, 5, 6, 7, 8, 13], [], []⟩
noncomputable def f77_b4 (K : Nat) (a0 : Int × Int × Int) (a1 : List tM) (a2 : Int × Int) (L4 : Int → (List tV) → Option (List tV)) (q5 : Int) (q6 : List tV) : Option (List tV) :=
  (bif (decide (q5 < (a1.length : Int))) then (bif (decide (0 ≤ q5) && decide (q5 < (a1.length : Int))) then (f147G K a0 ((((a1.getD ((0 : Int) + q5).toNat zM).1).1, (((a1.getD ((0 : Int) + q5).toNat zM).1).2).1, ((((a1.getD ((0 : Int) + q5).toNat zM).1).2).2)), ((a1.getD ((0 : Int) + q5).toNat zM).2)) a2).bind fun y7 => (f100G K q6 y7).bind fun y8 => L4 (w (q5 + (1 : Int))) y8 else none) else some q6)
noncomputable def f77_l4 (K : Nat) (a0 : Int × Int × Int) (a1 : List tM) (a2 : Int × Int) (n : Nat) (q5 : Int) (q6 : List tV) : Option (List tV) :=
  iter (X := Int × List tV) (fun L x => (fun L4 => f77_b4 K a0 a1 a2 L4 x.1 x.2) (fun v0 v1 => L (v0, v1))) n (q5, q6)
noncomputable def f77_fr4 (a0 : Int × Int × Int) (a1 : List tM) (a2 : Int × Int) (q5 : Int) (q6 : List tV) : Fr := ⟨26, [(0, .v true [.int .i64 a0.1, .int .i64 a0.2.1, .int .i64 a0.2.2]), (1, .v false [.row 0]), (2, .v true [.int .i64 a2.1, .int .i64 a2.2]), (3, .v false [.box 0 0]), (5, .v false [.box 1 0]), (6, .v false [.row 1]), (7, .v false [.row 2]), (8, .v false [.int .i64 q5])], [some ⟨true, [.int .i64 a0.1, .int .i64 a0.2.1, .int .i64 a0.2.2]⟩, some ⟨true, [.int .i64 a2.1, .int .i64 a2.2]⟩], [some ⟨91, sM, a1, .ro⟩, some ⟨53, sV, [], .own⟩, some ⟨53, sV, q6, .own⟩]⟩
noncomputable def f77_k4 (K : Nat) (a0 : Int × Int × Int) (a1 : List tM) (a2 : Int × Int) (lr : LR (List tV)) : Ex → Fr → Option (List tV) :=
  contC (f77E K) 1 lr f77C [1, 1, 0, 1, 0] (finK (f77E K) Tryz.f77 [(.ro, sL), (.ro, (.list 91 sM)), (.ro, sV)] [(.list 53 sV)] (a0, a1, a2, ()))
noncomputable def f77_g (K : Nat) (a0 : Int × Int × Int) (a1 : List tM) (a2 : Int × Int) (I4 : Int → (List tV) → Option (List tV)) : Option (List tV) :=
  I4 (0 : Int) []
noncomputable def f77G (K : Nat) (a0 : Int × Int × Int) (a1 : List tM) (a2 : Int × Int) : Option (List tV) :=
  f77_g K a0 a1 a2 (fun d0 d1 => f77_l4 K a0 a1 a2 K d0 d1)
noncomputable def f77M (K : Nat) : Mdl := ⟨[(.ro, sL), (.ro, (.list 91 sM)), (.ro, sV)], [(.list 53 sV)], fun x => f77G K x.1 x.2.1 x.2.2.1⟩
/-! spec.l07Orbits -/
noncomputable def f60C : Code := codeOf Tryz.f60
noncomputable def f60E (K : Nat) : Env := ⟨[(77, f77M K), (129, f129M K)], tys, eqs, mts, K, [0, 1, 2, 4, 5, 6, 7, 8, 15, 32], [], []⟩
noncomputable def f60_b4 (K : Nat) (a0 : Int × Int × Int) (a1 : List tM) (y1 : List tV) (L4 : Int → (List (List tV)) → Option (List (List tV))) (q5 : Int) (q6 : List (List tV)) : Option (List (List tV)) :=
  (bif (decide (q5 < (y1.length : Int))) then (bif (decide (0 ≤ q5) && decide (q5 < (y1.length : Int))) then (f77G K a0 a1 (y1.getD ((0 : Int) + q5).toNat ((0 : Int), (0 : Int)))).bind fun y7 => (bif (decide (0 ≤ (0 : Int)) && decide ((0 : Int) < (y7.length : Int))) then (bif (decide (0 ≤ q5) && decide (q5 < (y1.length : Int))) then (bif (((y7.getD ((0 : Int) + (0 : Int)).toNat ((0 : Int), (0 : Int))).1 == (y1.getD ((0 : Int) + q5).toNat ((0 : Int), (0 : Int))).1) && ((y7.getD ((0 : Int) + (0 : Int)).toNat ((0 : Int), (0 : Int))).2 == (y1.getD ((0 : Int) + q5).toNat ((0 : Int), (0 : Int))).2)) then (bif (Nat.ble (q6.length + [y7].length) (lim 24)) then L4 (w (q5 + (1 : Int))) (q6 ++ [y7]) else none) else L4 (w (q5 + (1 : Int))) q6) else none) else none) else none) else some q6)
noncomputable def f60_l4 (K : Nat) (a0 : Int × Int × Int) (a1 : List tM) (y1 : List tV) (n : Nat) (q5 : Int) (q6 : List (List tV)) : Option (List (List tV)) :=
  iter (X := Int × List (List tV)) (fun L x => (fun L4 => f60_b4 K a0 a1 y1 L4 x.1 x.2) (fun v0 v1 => L (v0, v1))) n (q5, q6)
noncomputable def f60_fr4 (a0 : Int × Int × Int) (a1 : List tM) (y1 : List tV) (q5 : Int) (q6 : List (List tV)) : Fr := ⟨38, [(0, .v true [.int .i64 a0.1, .int .i64 a0.2.1, .int .i64 a0.2.2]), (1, .v false [.row 0]), (2, .v false [.box 0 0]), (4, .v false [.row 1]), (5, .v false [.row 2]), (6, .v false [.row 3]), (7, .v false [.int .i64 q5])], [some ⟨true, [.int .i64 a0.1, .int .i64 a0.2.1, .int .i64 a0.2.2]⟩], [some ⟨91, sM, a1, .ro⟩, some ⟨72, (.list 53 sV), [], .own⟩, some ⟨53, sV, y1, .own⟩, some ⟨72, (.list 53 sV), q6, .own⟩]⟩
noncomputable def f60_k4 (K : Nat) (a0 : Int × Int × Int) (a1 : List tM) (lr : LR (List (List tV))) : Ex → Fr → Option (List (List tV)) :=
  contC (f60E K) 1 lr f60C [1, 1, 1, 0, 1, 0] (finK (f60E K) Tryz.f60 [(.ro, sL), (.ro, (.list 91 sM))] [(.list 72 (.list 53 sV))] (a0, a1, ()))
noncomputable def f60_g (K : Nat) (a0 : Int × Int × Int) (a1 : List tM) (I4 : (List tV) → Int → (List (List tV)) → Option (List (List tV))) : Option (List (List tV)) :=
  (f129G K a0).bind fun y1 => I4 y1 (0 : Int) []
noncomputable def f60G (K : Nat) (a0 : Int × Int × Int) (a1 : List tM) : Option (List (List tV)) :=
  f60_g K a0 a1 (fun c0 d0 d1 => f60_l4 K a0 a1 c0 K d0 d1)
noncomputable def f60M (K : Nat) : Mdl := ⟨[(.ro, sL), (.ro, (.list 91 sM))], [(.list 72 (.list 53 sV))], fun x => f60G K x.1 x.2.1⟩
/-! spec.SitesOf -/
noncomputable def f20E (K : Nat) : Env := ⟨[(60, f60M K), (67, f67M K), (68, f68M K), (69, f69M K)], tys, eqs, mts, K, [0, 1, 2, 3, 4, 7], [], []⟩
noncomputable def f20G (K : Nat) (a0 : Int × tL × List Int) : Option ((List (List tV)) × Int) :=
  (f67G K a0).bind fun y1 => (bif (!y1) then some ([], (1 : Int)) else (f68G K a0).bind fun y2 => (f69G K y2).bind fun y3 => (f60G K y2.2.1 y3).bind fun y4 => some (y4, (0 : Int)))
noncomputable def f20M (K : Nat) : Mdl := ⟨[(.ro, (.cons sI (.cons sL (.list 2 sI))))], [(.list 72 (.list 53 sV)), sI], fun x => f20G K x.1⟩
/-! impl.within -/
noncomputable def f63E (K : Nat) : Env := ⟨[], tys, eqs, mts, K, [0, 1, 2, 6], [], []⟩
noncomputable def f63G (K : Nat) (a0 : Int) (a1 : Int) (a2 : Int) : Option Bool :=
  (bif ((!(decide (a0 ≥ a1))) || true) then (bif ((!(decide (a0 ≥ a1))) || true) then (bif ((!(decide (a0 ≥ a1))) || true) then some (bif (decide (a0 ≥ a1)) then (decide (a0 ≤ a2)) else false) else none) else none) else none)
noncomputable def f63M (K : Nat) : Mdl := ⟨[(.ro, sI), (.ro, sI), (.ro, sI)], [.bool], fun x => f63G K x.1 x.2.1 x.2.2.1⟩
/-! impl.IsFrame -/
noncomputable def f138E (K : Nat) : Env := ⟨[(63, f63M K)], tys, eqs, mts, K, [0, 2], [], []⟩
noncomputable def f138G (K : Nat) (a0 : Int) : Option Bool :=
  (f63G K a0 (0 : Int) (1 : Int)).bind fun y1 => some y1
noncomputable def f138M (K : Nat) : Mdl := ⟨[(.ro, sI)], [.bool], fun x => f138G K x.1⟩
/-! (impl.Lattice).index -/
noncomputable def f140E (K : Nat) : Env := ⟨[], tys, eqs, mts, K, [0, 1, 2], [], []⟩
noncomputable def f140G (K : Nat) (a0 : Int × Int × Int) : Option Int :=
  some (w (a0.1 * a0.2.2))
noncomputable def f140M (K : Nat) : Mdl := ⟨[(.ro, sL)], [sI], fun x => f140G K x.1⟩
/-! impl.IsLattice -/
noncomputable def f139E (K : Nat) : Env := ⟨[(63, f63M K), (140, f140M K)], tys, eqs, mts, K, [0, 1, 2], [], []⟩
noncomputable def f139G (K : Nat) (a0 : Int × Int × Int) : Option Bool :=
  (f63G K a0.1 (1 : Int) (64 : Int)).bind fun y1 => (bif ((!y1) || true) then (bif ((!y1) || true) then ((bif y1 then f63G K a0.2.2 (1 : Int) (64 : Int) else some false)).bind fun y2 => (bif ((!(bif y1 then y2 else false)) || true) then (bif ((!(bif y1 then y2 else false)) || true) then (bif ((!(bif y1 then y2 else false)) || true) then (bif ((!(bif y1 then y2 else false)) || true) then (bif ((!(bif y1 then y2 else false)) || true) then ((bif (bif y1 then y2 else false) then f63G K a0.2.1 (0 : Int) (w (a0.1 - (1 : Int))) else some false)).bind fun y3 => (bif ((!(bif (bif y1 then y2 else false) then y3 else false)) || true) then ((bif (bif (bif y1 then y2 else false) then y3 else false) then f140G K a0 else some (0 : Int))).bind fun y4 => (bif ((!(bif (bif y1 then y2 else false) then y3 else false)) || true) then some (bif (bif (bif y1 then y2 else false) then y3 else false) then (decide (y4 ≤ (64 : Int))) else false) else none) else none) else none) else none) else none) else none) else none) else none) else none)
noncomputable def f139M (K : Nat) : Mdl := ⟨[(.ro, sL)], [.bool], fun x => f139G K x.1⟩
/-! impl.allWithin$1 -/
noncomputable def f157E (K : Nat) : Env := ⟨[(63, f63M K)], tys, eqs, mts, K, [0, 1, 2, 4], [], []⟩
noncomputable def f157G (K : Nat) (a0 : Int) (a1 : Int) (a2 : Int) : Option Bool :=
  (f63G K a0 a1 a2).bind fun y1 => some (!y1)
noncomputable def f157M (K : Nat) : Mdl := ⟨[(.ro, sI), (.cap, sI), (.cap, sI)], [.bool], fun x => f157G K x.1 x.2.1 x.2.2.1⟩
/-! slices.IndexFunc[[]int64,int64] -/
noncomputable def f219C : Code := codeOf Tryz.f219
noncomputable def f219E (K : Nat) : Env := ⟨[], tys, eqs, mts, K, [0, 1, 4, 5, 7, 8, 9, 16], [], []⟩
noncomputable def f219_b3 (K : Nat) (a0 : List Int) (a1 : (Int → Option Bool)) (L3 : Int → Option Int) (q4 : Int) : Option Int :=
  (bif (decide (q4 < (a0.length : Int))) then (bif (decide (0 ≤ q4) && decide (q4 < (a0.length : Int))) then (a1 (a0.getD ((0 : Int) + q4).toNat (0 : Int))).bind fun y5 => (bif y5 then some q4 else L3 (w (q4 + (1 : Int)))) else none) else some (-1 : Int))
noncomputable def f219_l3 (K : Nat) (a0 : List Int) (a1 : (Int → Option Bool)) (n : Nat) (q4 : Int) : Option Int :=
  iter (X := Int) (fun L x => (fun L3 => f219_b3 K a0 a1 L3 x) (fun v0 => L v0)) n q4
noncomputable def f219_fr3 (a0 : List Int) (a1 : (Int → Option Bool)) (q4 : Int) : Fr := ⟨19, [(0, .v false [.row 0]), (1, .v false [.fv1 sI .bool a1]), (4, .v false [.int .i64 (0 : Int)]), (7, .v false [.int .i64 (a0.length : Int)]), (8, .v false [.int .i64 q4])], [], [some ⟨2, sI, a0, .ro⟩]⟩
noncomputable def f219_k3 (K : Nat) (a0 : List Int) (a1 : (Int → Option Bool)) (lr : LR Int) : Ex → Fr → Option Int :=
  contC (f219E K) 1 lr f219C [1, 0, 1, 0] (finK (f219E K) Tryz.f219 [(.ro, (.list 2 sI)), (.ro, (.fn1 sI .bool))] [sI] (a0, a1, ()))
noncomputable def f219_g (K : Nat) (a0 : List Int) (a1 : (Int → Option Bool)) (I3 : Int → Option Int) : Option Int :=
  I3 (0 : Int)
noncomputable def f219G (K : Nat) (a0 : List Int) (a1 : (Int → Option Bool)) : Option Int :=
  f219_g K a0 a1 (fun d0 => f219_l3 K a0 a1 K d0)
noncomputable def f219M (K : Nat) : Mdl := ⟨[(.ro, (.list 2 sI)), (.ro, (.fn1 sI .bool))], [sI], fun x => f219G K x.1 x.2.1⟩
/-! slices.ContainsFunc[[]int64,int64] -/
noncomputable def f156E (K : Nat) : Env := ⟨[(219, f219M K)], tys, eqs, mts, K, [0, 1, 4], [], []⟩
noncomputable def f156G (K : Nat) (a0 : List Int) (a1 : (Int → Option Bool)) : Option Bool :=
  (f219G K a0 a1).bind fun y1 => some (decide (y1 ≥ (0 : Int)))
noncomputable def f156M (K : Nat) : Mdl := ⟨[(.ro, (.list 2 sI)), (.ro, (.fn1 sI .bool))], [.bool], fun x => f156G K x.1 x.2.1⟩
/-! impl.allWithin -/
noncomputable def f93E (K : Nat) : Env := ⟨[(156, f156M K), (157, f157M K)], tys, eqs, mts, K, [0, 1, 2, 4, 5, 6], [], []⟩
noncomputable def f93G (K : Nat) (a0 : List Int) (a1 : Int) (a2 : Int) : Option Bool :=
  (f156G K a0 (fun z1 => f157G K z1 a1 a2)).bind fun y2 => some (!y2)
noncomputable def f93M (K : Nat) : Mdl := ⟨[(.ro, (.list 2 sI)), (.ro, sI), (.ro, sI)], [.bool], fun x => f93G K x.1 x.2.1 x.2.2.1⟩
/-! impl.IsPattern -/
noncomputable def f70E (K : Nat) : Env := ⟨[(93, f93M K), (138, f138M K), (139, f139M K), (140, f140M K)], tys, eqs, mts, K, [0, 1, 2], [], []⟩
noncomputable def f70G (K : Nat) (a0 : Int × tL × List Int) : Option Bool :=
  (f138G K a0.1).bind fun y1 => (bif ((!y1) || true) then (bif ((!y1) || true) then ((bif y1 then f139G K a0.2.1 else some false)).bind fun y2 => (bif ((!(bif y1 then y2 else false)) || true) then (bif ((!(bif y1 then y2 else false)) || true) then (bif ((!(bif y1 then y2 else false)) || true) then (bif ((!(bif y1 then y2 else false)) || true) then (bif ((!(bif y1 then y2 else false)) || true) then ((bif (bif y1 then y2 else false) then f140G K a0.2.1 else some (0 : Int))).bind fun y3 => (bif ((!(bif y1 then y2 else false)) || true) then (bif ((!(bif (bif y1 then y2 else false) then ((a0.2.2.length : Int) == y3) else false)) || true) then (bif ((!(bif (bif y1 then y2 else false) then ((a0.2.2.length : Int) == y3) else false)) || true) then ((bif (bif (bif y1 then y2 else false) then ((a0.2.2.length : Int) == y3) else false) then f93G K a0.2.2 (0 : Int) (9 : Int) else some false)).bind fun y4 => some (bif (bif (bif y1 then y2 else false) then ((a0.2.2.length : Int) == y3) else false) then y4 else false) else none) else none) else none) else none) else none) else none) else none) else none) else none) else none)
noncomputable def f70M (K : Nat) : Mdl := ⟨[(.ro, (.cons sI (.cons sL (.list 2 sI))))], [.bool], fun x => f70G K x.1⟩
/-! (impl.Lattice).basis -/
noncomputable def f198E (K : Nat) : Env := ⟨[], tys, eqs, mts, K, [0, 1, 2, 3], [], []⟩
noncomputable def f198G (K : Nat) (a0 : Int × Int × Int) : Option (tV × Int × Int) :=
  some ((a0.1, (0 : Int)), a0.2)
noncomputable def f198M (K : Nat) : Mdl := ⟨[(.ro, sL)], [sV, sV], fun x => f198G K x.1⟩
/-! (impl.Lattice).cells -/
noncomputable def f108C : Code := codeOf Tryz.f108
noncomputable def f108E (K : Nat) : Env := ⟨[], tys, eqs, mts, K, [0, 1, 2, 3, 4, 5, 8, 9, 10, 13, 14, 15], [], []⟩
noncomputable def f108_b9 (K : Nat) (a0 : Int × Int × Int) (q7 : Int) (L6 : Int → (List tV) → Option (List tV)) (L9 : Int → (List tV) → Option (List tV)) (q10 : Int) (q11 : List tV) : Option (List tV) :=
  (bif (decide (q10 < a0.2.2)) then (bif (Nat.ble (q11.length + [(q7, q10)].length) (lim 16)) then L9 (w (q10 + (1 : Int))) (q11 ++ [(q7, q10)]) else none) else L6 (w (q7 + (1 : Int))) q11)
noncomputable def f108_l9 (K : Nat) (a0 : Int × Int × Int) (q7 : Int) (L6 : Int → (List tV) → Option (List tV)) (n : Nat) (q10 : Int) (q11 : List tV) : Option (List tV) :=
  iter (X := Int × List tV) (fun L x => (fun L9 => f108_b9 K a0 q7 L6 L9 x.1 x.2) (fun v0 v1 => L (v0, v1))) n (q10, q11)
noncomputable def f108_fr9 (a0 : Int × Int × Int) (q7 : Int) (q10 : Int) (q11 : List tV) : Fr := ⟨26, [(0, .v true [.int .i64 a0.1, .int .i64 a0.2.1, .int .i64 a0.2.2]), (1, .v false [.box 0 0]), (2, .v false [.row 0]), (3, .v false [.row 1]), (4, .v false [.int .i64 q7]), (8, .v false [.int .i64 a0.1]), (9, .v false [.int .i64 q7]), (10, .v false [.bool (decide (q7 < a0.1))]), (13, .v false [.int .i64 a0.2.2]), (14, .v false [.int .i64 q10])], [some ⟨true, [.int .i64 a0.1, .int .i64 a0.2.1, .int .i64 a0.2.2]⟩], [some ⟨53, sV, [], .own⟩, some ⟨53, sV, q11, .own⟩]⟩
noncomputable def f108_b6 (K : Nat) (a0 : Int × Int × Int) (I9 : Int → Int → (List tV) → Option (List tV)) (L6 : Int → (List tV) → Option (List tV)) (q7 : Int) (q8 : List tV) : Option (List tV) :=
  (bif (decide (q7 < a0.1)) then I9 q7 (0 : Int) q8 else some q8)
noncomputable def f108_l6 (K : Nat) (a0 : Int × Int × Int) (n : Nat) (q7 : Int) (q8 : List tV) : Option (List tV) :=
  iter (X := Int × List tV) (fun L x => (fun L6 => f108_b6 K a0 (fun c0 d0 d1 => f108_l9 K a0 c0 L6 K d0 d1) L6 x.1 x.2) (fun v0 v1 => L (v0, v1))) n (q7, q8)
noncomputable def f108_fr6 (a0 : Int × Int × Int) (q7 : Int) (q8 : List tV) : Fr := ⟨26, [(0, .v true [.int .i64 a0.1, .int .i64 a0.2.1, .int .i64 a0.2.2]), (1, .v false [.box 0 0]), (2, .v false [.row 0]), (3, .v false [.row 1]), (8, .v false [.int .i64 a0.1]), (9, .v false [.int .i64 q7])], [some ⟨true, [.int .i64 a0.1, .int .i64 a0.2.1, .int .i64 a0.2.2]⟩], [some ⟨53, sV, [], .own⟩, some ⟨53, sV, q8, .own⟩]⟩
noncomputable def f108_k6 (K : Nat) (a0 : Int × Int × Int) (lr : LR (List tV)) : Ex → Fr → Option (List tV) :=
  contC (f108E K) 0 lr f108C [1, 1, 0, 1, 0] (finK (f108E K) Tryz.f108 [(.ro, sL)] [(.list 53 sV)] (a0, ()))
noncomputable def f108_k9 (K : Nat) (a0 : Int × Int × Int) (F6 : Fr → Option (List tV)) (bq7 : Int) (bq8 : List tV) (lr : LR (List tV)) : Ex → Fr → Option (List tV) :=
  contC (f108E K) 0 lr (selC f108C [1, 1, 0, 1, 0, 0]) [1, 1, 0, 0, 1, 1, 0] (loopK 0 (f108_fr6 a0 bq7 bq8) F6 (f108_k6 K a0 lr))
noncomputable def f108_g (K : Nat) (a0 : Int × Int × Int) (I6 : Int → (List tV) → Option (List tV)) : Option (List tV) :=
  I6 (0 : Int) []
noncomputable def f108G (K : Nat) (a0 : Int × Int × Int) : Option (List tV) :=
  f108_g K a0 (fun d0 d1 => f108_l6 K a0 K d0 d1)
noncomputable def f108M (K : Nat) : Mdl := ⟨[(.ro, sL)], [(.list 53 sV)], fun x => f108G K x.1⟩
/-! impl.unit -/
noncomputable def f199E (K : Nat) : Env := ⟨[], tys, eqs, mts, K, [0], [], []⟩
noncomputable def f199G (K : Nat) : Option tA :=
  some ((1 : Int), (0 : Int), (0 : Int), (1 : Int))
noncomputable def f199M (K : Nat) : Mdl := ⟨[], [sA], fun x => f199G K ⟩
/-! (impl.Mat).apply -/
noncomputable def f206E (K : Nat) : Env := ⟨[], tys, eqs, mts, K, [0, 1, 2, 3, 4], [], []⟩
noncomputable def f206G (K : Nat) (a0 : Int × Int × Int × Int) (a1 : Int × Int) : Option tV :=
  some ((w ((w (a0.1 * a1.1)) + (w (a0.2.1 * a1.2)))), (w ((w (a0.2.2.1 * a1.1)) + (w (a0.2.2.2 * a1.2)))))
noncomputable def f206M (K : Nat) : Mdl := ⟨[(.ro, sA), (.ro, sV)], [sV], fun x => f206G K x.1 x.2.1⟩
/-! (impl.Vec).add -/
noncomputable def f174E (K : Nat) : Env := ⟨[], tys, eqs, mts, K, [0, 1, 2, 3, 4], [], []⟩
noncomputable def f174G (K : Nat) (a0 : Int × Int) (a1 : Int × Int) : Option tV :=
  some ((w (a0.1 + a1.1)), (w (a0.2 + a1.2)))
noncomputable def f174M (K : Nat) : Mdl := ⟨[(.ro, sV), (.ro, sV)], [sV], fun x => f174G K x.1 x.2.1⟩
/-! (impl.Motion).apply -/
noncomputable def f207E (K : Nat) : Env := ⟨[(174, f174M K), (206, f206M K)], tys, eqs, mts, K, [0, 1, 2, 3, 4], [], []⟩
noncomputable def f207G (K : Nat) (a0 : tA × Int × Int) (a1 : Int × Int) : Option tV :=
  (f206G K a0.1 a1).bind fun y1 => (f174G K y1 a0.2).bind fun y2 => some y2
noncomputable def f207M (K : Nat) : Mdl := ⟨[(.ro, sM), (.ro, sV)], [sV], fun x => f207G K x.1 x.2.1⟩
/-! impl.mod -/
noncomputable def f183E (K : Nat) : Env := ⟨[], tys, eqs, mts, K, [0, 1, 4], [], []⟩
noncomputable def f183G (K : Nat) (a0 : Int) (a1 : Int) : Option Int :=
  (bif (a1 != 0) then (bif (a1 != 0) then some ((w ((a0.tmod a1) + a1)).tmod a1) else none) else none)
noncomputable def f183M (K : Nat) : Mdl := ⟨[(.ro, sI), (.ro, sI)], [sI], fun x => f183G K x.1 x.2.1⟩
/-! (impl.Lattice).reduce -/
noncomputable def f119E (K : Nat) : Env := ⟨[(183, f183M K)], tys, eqs, mts, K, [0, 1, 2, 3, 4, 5], [], []⟩
noncomputable def f119G (K : Nat) (a0 : Int × Int × Int) (a1 : Int × Int) : Option tV :=
  (f183G K a1.2 a0.2.2).bind fun y1 => (bif (a0.2.2 != 0) then (f183G K (w (a1.1 - (w ((w ((w (a1.2 - y1)).tdiv a0.2.2)) * a0.2.1)))) a0.1).bind fun y2 => some (y2, y1) else none)
noncomputable def f119M (K : Nat) : Mdl := ⟨[(.ro, sL), (.ro, sV)], [sV], fun x => f119G K x.1 x.2.1⟩
/-! (impl.Lattice).number -/
noncomputable def f82E (K : Nat) : Env := ⟨[], tys, eqs, mts, K, [0, 1, 2, 3, 4], [], []⟩
noncomputable def f82G (K : Nat) (a0 : Int × Int × Int) (a1 : Int × Int) : Option Int :=
  some (w ((w (a1.1 * a0.2.2)) + a1.2))
noncomputable def f82M (K : Nat) : Mdl := ⟨[(.ro, sL), (.ro, sV)], [sI], fun x => f82G K x.1 x.2.1⟩
/-! (impl.Pattern).at -/
noncomputable def f125E (K : Nat) : Env := ⟨[(82, f82M K), (119, f119M K)], tys, eqs, mts, K, [0, 1, 2, 3, 4], [], []⟩
noncomputable def f125G (K : Nat) (a0 : Int × tL × List Int) (a1 : Int × Int) : Option Int :=
  (f119G K a0.2.1 a1).bind fun y1 => (f82G K a0.2.1 y1).bind fun y2 => (bif (decide (0 ≤ y2) && decide (y2 < (a0.2.2.length : Int))) then some (a0.2.2.getD ((0 : Int) + y2).toNat (0 : Int)) else none)
noncomputable def f125M (K : Nat) : Mdl := ⟨[(.ro, (.cons sI (.cons sL (.list 2 sI)))), (.ro, sV)], [sI], fun x => f125G K x.1 x.2.1⟩
/-! (impl.Pattern).keeps -/
noncomputable def f145C : Code := codeOf Tryz.f145
noncomputable def f145E (K : Nat) : Env := ⟨[(108, f108M K), (125, f125M K), (207, f207M K)], tys, eqs, mts, K, [0, 1, 2, 3, 4, 5, 6, 9, 10, 11, 12, 26], [], []⟩
noncomputable def f145_b5 (K : Nat) (a0 : Int × tL × List Int) (a1 : tA × Int × Int) (y1 : List tV) (L5 : Int → Option Bool) (q6 : Int) : Option Bool :=
  (bif (decide (q6 < (y1.length : Int))) then (bif (decide (0 ≤ q6) && decide (q6 < (y1.length : Int))) then (f207G K a1 (y1.getD ((0 : Int) + q6).toNat ((0 : Int), (0 : Int)))).bind fun y7 => (f125G K a0 y7).bind fun y8 => (bif (decide (0 ≤ q6) && decide (q6 < (a0.2.2.length : Int))) then (bif (y8 != (a0.2.2.getD ((0 : Int) + q6).toNat (0 : Int))) then some false else L5 (w (q6 + (1 : Int)))) else none) else none) else some true)
noncomputable def f145_l5 (K : Nat) (a0 : Int × tL × List Int) (a1 : tA × Int × Int) (y1 : List tV) (n : Nat) (q6 : Int) : Option Bool :=
  iter (X := Int) (fun L x => (fun L5 => f145_b5 K a0 a1 y1 L5 x) (fun v0 => L v0)) n q6
noncomputable def f145_fr5 (a0 : Int × tL × List Int) (a1 : tA × Int × Int) (y1 : List tV) (q6 : Int) : Fr := ⟨28, [(0, .v true [.int .i64 a0.1, .int .i64 a0.2.1.1, .int .i64 a0.2.1.2.1, .int .i64 a0.2.1.2.2, .row 0]), (1, .v true [.int .i64 a1.1.1, .int .i64 a1.1.2.1, .int .i64 a1.1.2.2.1, .int .i64 a1.1.2.2.2, .int .i64 a1.2.1, .int .i64 a1.2.2]), (2, .v false [.box 0 0]), (3, .v false [.box 1 0]), (4, .v false [.bool false]), (9, .v false [.row 1]), (10, .v false [.int .i64 (y1.length : Int)]), (11, .v false [.int .i64 q6])], [some ⟨true, [.int .i64 a0.1, .int .i64 a0.2.1.1, .int .i64 a0.2.1.2.1, .int .i64 a0.2.1.2.2, .row 0]⟩, some ⟨true, [.int .i64 a1.1.1, .int .i64 a1.1.2.1, .int .i64 a1.1.2.2.1, .int .i64 a1.1.2.2.2, .int .i64 a1.2.1, .int .i64 a1.2.2]⟩], [some ⟨2, sI, a0.2.2, .ro⟩, some ⟨53, sV, y1, .own⟩]⟩
noncomputable def f145_k5 (K : Nat) (a0 : Int × tL × List Int) (a1 : tA × Int × Int) (lr : LR Bool) : Ex → Fr → Option Bool :=
  contC (f145E K) 1 lr f145C [1, 0, 1, 0] (finK (f145E K) Tryz.f145 [(.ro, (.cons sI (.cons sL (.list 2 sI)))), (.ro, sM)] [.bool] (a0, a1, ()))
noncomputable def f145_g (K : Nat) (a0 : Int × tL × List Int) (a1 : tA × Int × Int) (I5 : (List tV) → Int → Option Bool) : Option Bool :=
  (f108G K a0.2.1).bind fun y1 => I5 y1 (0 : Int)
noncomputable def f145G (K : Nat) (a0 : Int × tL × List Int) (a1 : tA × Int × Int) : Option Bool :=
  f145_g K a0 a1 (fun c0 d0 => f145_l5 K a0 a1 c0 K d0)
noncomputable def f145M (K : Nat) : Mdl := ⟨[(.ro, (.cons sI (.cons sL (.list 2 sI)))), (.ro, sM)], [.bool], fun x => f145G K x.1 x.2.1⟩
/-! (impl.Vec).times -/
noncomputable def f245E (K : Nat) : Env := ⟨[], tys, eqs, mts, K, [0, 1, 2, 4], [], []⟩
noncomputable def f245G (K : Nat) (a0 : Int × Int) (a1 : Int) : Option tV :=
  some ((w (a1 * a0.1)), (w (a1 * a0.2)))
noncomputable def f245M (K : Nat) : Mdl := ⟨[(.ro, sV), (.ro, sI)], [sV], fun x => f245G K x.1 x.2.1⟩
/-! impl.gcd -/
noncomputable def f246C : Code := codeOf Tryz.f246
noncomputable def f246E (K : Nat) : Env := ⟨[], tys, eqs, mts, K, [0, 1, 4, 6], [], []⟩
noncomputable def f246_b2 (K : Nat) (L2 : Int → Int → Option Int) (q3 : Int) (q4 : Int) : Option Int :=
  (bif (q4 != (0 : Int)) then (bif (q4 != 0) then L2 q4 (q3.tmod q4) else none) else some (if (w (0 - q3)) > q3 then (w (0 - q3)) else q3))
noncomputable def f246_l2 (K : Nat) (n : Nat) (q3 : Int) (q4 : Int) : Option Int :=
  iter (X := Int × Int) (fun L x => (fun L2 => f246_b2 K L2 x.1 x.2) (fun v0 v1 => L (v0, v1))) n (q3, q4)
noncomputable def f246_fr2 (q3 : Int) (q4 : Int) : Fr := ⟨15, [(0, .v false [.int .i64 q3]), (1, .v false [.int .i64 q4]), (4, .v false [.int .i64 (0 : Int)])], [], []⟩
noncomputable def f246_k2 (K : Nat) (a0 : Int) (a1 : Int) (lr : LR Int) : Ex → Fr → Option Int :=
  contC (f246E K) 0 lr f246C [1, 0, 0] (finK (f246E K) Tryz.f246 [(.ro, sI), (.ro, sI)] [sI] (a0, a1, ()))
noncomputable def f246_g (K : Nat) (a0 : Int) (a1 : Int) (I2 : Int → Int → Option Int) : Option Int :=
  I2 a0 a1
noncomputable def f246G (K : Nat) (a0 : Int) (a1 : Int) : Option Int :=
  f246_g K a0 a1 (fun d0 d1 => f246_l2 K K d0 d1)
noncomputable def f246M (K : Nat) : Mdl := ⟨[(.ro, sI), (.ro, sI)], [sI], fun x => f246G K x.1 x.2.1⟩
/-! impl.latticeOf -/
noncomputable def f200C : Code := codeOf Tryz.f200
noncomputable def f200E (K : Nat) : Env := ⟨[(174, f174M K), (183, f183M K), (245, f245M K), (246, f246M K)], tys, eqs, mts, K, [0, 2, 3, 4, 6, 7, 9, 10, 11, 12, 17, 37], [], []⟩
noncomputable def f200_b18 (K : Nat) (a0 : List tV) (q14 : Int) (q15 : Int) (L13 : Int → Int → Int → Int → Option tL) (L18 : Int → Int → Int → Int → Option tL) (q19 : Int) (q20 : Int) (q21 : Int) (q22 : Int) : Option tL :=
  (bif (q22 != (0 : Int)) then (bif (q22 != 0) then (f245G K (q21, q22) (w (0 - (w (q20.tdiv q22))))).bind fun y23 => (f174G K (q19, q20) y23).bind fun y24 => L18 q21 q22 y24.1 y24.2 else none) else (f246G K q14 q21).bind fun y25 => L13 y25 (w (q15 + (1 : Int))) q19 q20)
noncomputable def f200_l18 (K : Nat) (a0 : List tV) (q14 : Int) (q15 : Int) (L13 : Int → Int → Int → Int → Option tL) (n : Nat) (q19 : Int) (q20 : Int) (q21 : Int) (q22 : Int) : Option tL :=
  iter (X := Int × Int × Int × Int) (fun L x => (fun L18 => f200_b18 K a0 q14 q15 L13 L18 x.1 x.2.1 x.2.2.1 x.2.2.2) (fun v0 v1 v2 v3 => L (v0, v1, v2, v3))) n (q19, q20, q21, q22)
noncomputable def f200_fr18 (a0 : List tV) (q14 : Int) (q15 : Int) (q19 : Int) (q20 : Int) (q21 : Int) (q22 : Int) : Fr := ⟨48, [(0, .v false [.row 0]), (2, .v false [.box 0 0]), (3, .v false [.int .i64 q14]), (4, .v false [.box 1 0]), (6, .v false [.box 2 0]), (9, .v false [.row 0]), (10, .v false [.int .i64 (a0.length : Int)]), (11, .v false [.int .i64 q15]), (12, .v false [.bool (decide (q15 < (a0.length : Int)))])], [some ⟨true, [.int .i64 (0 : Int), .int .i64 (0 : Int), .int .i64 (0 : Int)]⟩, some ⟨true, [.int .i64 q19, .int .i64 q20]⟩, some ⟨true, [.int .i64 q21, .int .i64 q22]⟩], [some ⟨53, sV, a0, .ro⟩]⟩
noncomputable def f200_b13 (K : Nat) (a0 : List tV) (I18 : Int → Int → Int → Int → Int → Int → Option tL) (L13 : Int → Int → Int → Int → Option tL) (q14 : Int) (q15 : Int) (q16 : Int) (q17 : Int) : Option tL :=
  (bif (decide (q15 < (a0.length : Int))) then (bif (decide (0 ≤ q15) && decide (q15 < (a0.length : Int))) then I18 q14 q15 q16 q17 ((a0.getD ((0 : Int) + q15).toNat ((0 : Int), (0 : Int))).1) ((a0.getD ((0 : Int) + q15).toNat ((0 : Int), (0 : Int))).2) else none) else (bif (decide (q17 < (0 : Int))) then (f245G K (q16, q17) (-1 : Int)).bind fun y26 => (f183G K y26.1 q14).bind fun y27 => some (q14, y27, y26.2) else (f183G K q16 q14).bind fun y28 => some (q14, y28, q17)))
noncomputable def f200_l13 (K : Nat) (a0 : List tV) (n : Nat) (q14 : Int) (q15 : Int) (q16 : Int) (q17 : Int) : Option tL :=
  iter (X := Int × Int × Int × Int) (fun L x => (fun L13 => f200_b13 K a0 (fun c0 c1 d0 d1 d2 d3 => f200_l18 K a0 c0 c1 L13 K d0 d1 d2 d3) L13 x.1 x.2.1 x.2.2.1 x.2.2.2) (fun v0 v1 v2 v3 => L (v0, v1, v2, v3))) n (q14, q15, q16, q17)
noncomputable def f200_fr13 (a0 : List tV) (q14 : Int) (q15 : Int) (q16 : Int) (q17 : Int) : Fr := ⟨48, [(0, .v false [.row 0]), (2, .v false [.box 0 0]), (3, .v false [.int .i64 q14]), (4, .v false [.box 1 0]), (9, .v false [.row 0]), (10, .v false [.int .i64 (a0.length : Int)]), (11, .v false [.int .i64 q15])], [some ⟨true, [.int .i64 (0 : Int), .int .i64 (0 : Int), .int .i64 (0 : Int)]⟩, some ⟨true, [.int .i64 q16, .int .i64 q17]⟩], [some ⟨53, sV, a0, .ro⟩]⟩
noncomputable def f200_k13 (K : Nat) (a0 : List tV) (lr : LR tL) : Ex → Fr → Option tL :=
  contC (f200E K) 1 lr f200C [1, 1, 0, 1, 0] (finK (f200E K) Tryz.f200 [(.ro, (.list 53 sV))] [sL] (a0, ()))
noncomputable def f200_k18 (K : Nat) (a0 : List tV) (F13 : Fr → Option tL) (bq14 : Int) (bq15 : Int) (bq16 : Int) (bq17 : Int) (lr : LR tL) : Ex → Fr → Option tL :=
  contC (f200E K) 1 lr (selC f200C [1, 1, 0, 1, 0, 0]) [1, 1, 0, 0, 1, 0, 0] (loopK 1 (f200_fr13 a0 bq14 bq15 bq16 bq17) F13 (f200_k13 K a0 lr))
noncomputable def f200_g (K : Nat) (a0 : List tV) (I13 : Int → Int → Int → Int → Option tL) : Option tL :=
  I13 (0 : Int) (0 : Int) (0 : Int) (0 : Int)
noncomputable def f200G (K : Nat) (a0 : List tV) : Option tL :=
  f200_g K a0 (fun d0 d1 d2 d3 => f200_l13 K a0 K d0 d1 d2 d3)
noncomputable def f200M (K : Nat) : Mdl := ⟨[(.ro, (.list 53 sV))], [sL], fun x => f200G K x.1⟩
/-! (impl.Pattern).fullLattice -/
noncomputable def f142C : Code := codeOf Tryz.f142
noncomputable def f142E (K : Nat) : Env := ⟨[(108, f108M K), (145, f145M K), (198, f198M K), (199, f199M K), (200, f200M K)], tys, eqs, mts, K, [0, 1, 2, 3, 4, 5, 7, 19, 20, 21, 22, 29], [], []⟩
noncomputable def f142_b6 (K : Nat) (a0 : Int × tL × List Int) (y1 : tV × Int × Int) (y2 : List tV) (L6 : Int → (List tV) → Option tL) (q7 : Int) (q8 : List tV) : Option tL :=
  (bif (decide (q7 < (y2.length : Int))) then (bif (decide (0 ≤ q7) && decide (q7 < (y2.length : Int))) then (f199G K).bind fun y9 => (f145G K a0 (y9, (y2.getD ((0 : Int) + q7).toNat ((0 : Int), (0 : Int))))).bind fun y10 => (bif y10 then (bif (Nat.ble (q8.length + [(y2.getD ((0 : Int) + q7).toNat ((0 : Int), (0 : Int)))].length) (lim 16)) then L6 (w (q7 + (1 : Int))) (q8 ++ [(y2.getD ((0 : Int) + q7).toNat ((0 : Int), (0 : Int)))]) else none) else L6 (w (q7 + (1 : Int))) q8) else none) else (f200G K q8).bind fun y11 => some y11)
noncomputable def f142_l6 (K : Nat) (a0 : Int × tL × List Int) (y1 : tV × Int × Int) (y2 : List tV) (n : Nat) (q7 : Int) (q8 : List tV) : Option tL :=
  iter (X := Int × List tV) (fun L x => (fun L6 => f142_b6 K a0 y1 y2 L6 x.1 x.2) (fun v0 v1 => L (v0, v1))) n (q7, q8)
noncomputable def f142_fr6 (a0 : Int × tL × List Int) (y1 : tV × Int × Int) (y2 : List tV) (q7 : Int) (q8 : List tV) : Fr := ⟨37, [(0, .v true [.int .i64 a0.1, .int .i64 a0.2.1.1, .int .i64 a0.2.1.2.1, .int .i64 a0.2.1.2.2, .row 0]), (1, .v false [.box 0 0]), (2, .v false [.box 1 0]), (3, .v false [.box 2 0]), (4, .v false [.box 3 0]), (5, .v false [.row 1]), (19, .v false [.row 2]), (20, .v false [.int .i64 (y2.length : Int)]), (21, .v false [.int .i64 q7])], [some ⟨true, [.int .i64 a0.1, .int .i64 a0.2.1.1, .int .i64 a0.2.1.2.1, .int .i64 a0.2.1.2.2, .row 0]⟩, some ⟨true, [.int .i64 (0 : Int), .int .i64 (0 : Int), .int .i64 (0 : Int)]⟩, some ⟨true, [.int .i64 y1.1.1, .int .i64 y1.1.2]⟩, some ⟨true, [.int .i64 y1.2.1, .int .i64 y1.2.2]⟩], [some ⟨2, sI, a0.2.2, .ro⟩, some ⟨53, sV, q8, .own⟩, some ⟨53, sV, y2, .own⟩]⟩
noncomputable def f142_k6 (K : Nat) (a0 : Int × tL × List Int) (lr : LR tL) : Ex → Fr → Option tL :=
  contC (f142E K) 1 lr f142C [1, 1, 1, 0, 1, 0] (finK (f142E K) Tryz.f142 [(.ro, (.cons sI (.cons sL (.list 2 sI))))] [sL] (a0, ()))
noncomputable def f142_g (K : Nat) (a0 : Int × tL × List Int) (I6 : (tV × Int × Int) → (List tV) → Int → (List tV) → Option tL) : Option tL :=
  (f198G K a0.2.1).bind fun y1 => (f108G K a0.2.1).bind fun y2 => I6 y1 y2 (0 : Int) [y1.1, y1.2]
noncomputable def f142G (K : Nat) (a0 : Int × tL × List Int) : Option tL :=
  f142_g K a0 (fun c0 c1 d0 d1 => f142_l6 K a0 c0 c1 K d0 d1)
noncomputable def f142M (K : Nat) : Mdl := ⟨[(.ro, (.cons sI (.cons sL (.list 2 sI))))], [sL], fun x => f142G K x.1⟩
/-! (impl.Pattern).spread -/
noncomputable def f141C : Code := codeOf Tryz.f141
noncomputable def f141E (K : Nat) : Env := ⟨[(108, f108M K), (125, f125M K)], tys, eqs, mts, K, [0, 1, 2, 3, 4, 5, 7, 13, 14, 15, 16], [], []⟩
noncomputable def f141_b4 (K : Nat) (a0 : Int × tL × List Int) (a1 : Int × Int × Int) (y1 : List tV) (L4 : Int → (List Int) → Option (Int × tL × List Int)) (q5 : Int) (q6 : List Int) : Option (Int × tL × List Int) :=
  (bif (decide (q5 < (y1.length : Int))) then (bif (decide (0 ≤ q5) && decide (q5 < (y1.length : Int))) then (f125G K a0 (y1.getD ((0 : Int) + q5).toNat ((0 : Int), (0 : Int)))).bind fun y7 => (bif (Nat.ble (q6.length + [y7].length) (lim 8)) then L4 (w (q5 + (1 : Int))) (q6 ++ [y7]) else none) else none) else some (a0.1, a1, q6))
noncomputable def f141_l4 (K : Nat) (a0 : Int × tL × List Int) (a1 : Int × Int × Int) (y1 : List tV) (n : Nat) (q5 : Int) (q6 : List Int) : Option (Int × tL × List Int) :=
  iter (X := Int × List Int) (fun L x => (fun L4 => f141_b4 K a0 a1 y1 L4 x.1 x.2) (fun v0 v1 => L (v0, v1))) n (q5, q6)
noncomputable def f141_fr4 (a0 : Int × tL × List Int) (a1 : Int × Int × Int) (y1 : List tV) (q5 : Int) (q6 : List Int) : Fr := ⟨29, [(0, .v true [.int .i64 a0.1, .int .i64 a0.2.1.1, .int .i64 a0.2.1.2.1, .int .i64 a0.2.1.2.2, .row 0]), (1, .v true [.int .i64 a1.1, .int .i64 a1.2.1, .int .i64 a1.2.2]), (2, .v false [.box 0 0]), (3, .v false [.box 1 0]), (4, .v false [.box 2 0]), (5, .v false [.box 3 0]), (13, .v false [.row 1]), (14, .v false [.int .i64 (y1.length : Int)]), (15, .v false [.int .i64 q5])], [some ⟨true, [.int .i64 a0.1, .int .i64 a0.2.1.1, .int .i64 a0.2.1.2.1, .int .i64 a0.2.1.2.2, .row 0]⟩, some ⟨true, [.int .i64 a1.1, .int .i64 a1.2.1, .int .i64 a1.2.2]⟩, some ⟨true, [.int .i64 (0 : Int), .int .i64 (0 : Int), .int .i64 (0 : Int), .int .i64 (0 : Int), .row 2]⟩, some ⟨true, [.int .i64 a0.1, .int .i64 a1.1, .int .i64 a1.2.1, .int .i64 a1.2.2, .row 3]⟩], [some ⟨2, sI, a0.2.2, .ro⟩, some ⟨53, sV, y1, .own⟩, some ⟨2, sI, [], .own⟩, some ⟨2, sI, q6, .own⟩]⟩
noncomputable def f141_k4 (K : Nat) (a0 : Int × tL × List Int) (a1 : Int × Int × Int) (lr : LR (Int × tL × List Int)) : Ex → Fr → Option (Int × tL × List Int) :=
  contC (f141E K) 1 lr f141C [1, 1, 0, 1, 0] (finK (f141E K) Tryz.f141 [(.ro, (.cons sI (.cons sL (.list 2 sI)))), (.ro, sL)] [(.cons sI (.cons sL (.list 2 sI)))] (a0, a1, ()))
noncomputable def f141_g (K : Nat) (a0 : Int × tL × List Int) (a1 : Int × Int × Int) (I4 : (List tV) → Int → (List Int) → Option (Int × tL × List Int)) : Option (Int × tL × List Int) :=
  (f108G K a1).bind fun y1 => I4 y1 (0 : Int) []
noncomputable def f141G (K : Nat) (a0 : Int × tL × List Int) (a1 : Int × Int × Int) : Option (Int × tL × List Int) :=
  f141_g K a0 a1 (fun c0 d0 d1 => f141_l4 K a0 a1 c0 K d0 d1)
noncomputable def f141M (K : Nat) : Mdl := ⟨[(.ro, (.cons sI (.cons sL (.list 2 sI)))), (.ro, sL)], [(.cons sI (.cons sL (.list 2 sI)))], fun x => f141G K x.1 x.2.1⟩
/-! (impl.Pattern).lean -/
noncomputable def f71E (K : Nat) : Env := ⟨[(141, f141M K), (142, f142M K)], tys, eqs, mts, K, [0, 1, 2], [], []⟩
noncomputable def f71G (K : Nat) (a0 : Int × tL × List Int) : Option (Int × tL × List Int) :=
  (f142G K a0).bind fun y1 => (f141G K a0 y1).bind fun y2 => some y2
noncomputable def f71M (K : Nat) : Mdl := ⟨[(.ro, (.cons sI (.cons sL (.list 2 sI))))], [(.cons sI (.cons sL (.list 2 sI)))], fun x => f71G K x.1⟩
/-! impl.norm -/
noncomputable def f250E (K : Nat) : Env := ⟨[], tys, eqs, mts, K, [0, 1, 3, 4], [], []⟩
noncomputable def f250G (K : Nat) (a0 : Int) (a1 : Int × Int) : Option Int :=
  some (w ((w ((w (a1.1 * a1.1)) + (w ((w (a0 * a1.1)) * a1.2)))) + (w (a1.2 * a1.2))))
noncomputable def f250M (K : Nat) : Mdl := ⟨[(.ro, sI), (.ro, sV)], [sI], fun x => f250G K x.1 x.2.1⟩
/-! impl.pointMats -/
noncomputable def f203C : Code := codeOf Tryz.f203
noncomputable def f203E (K : Nat) : Env := ⟨[(206, f206M K), (250, f250M K)], tys, eqs, mts, K, [0, 2, 3, 4, 5, 6, 7, 8, 10, 11, 54], [], []⟩
noncomputable def f203_b8 (K : Nat) (a0 : Int) (L8 : Int → (List tA) → Option (List tA)) (q9 : Int) (q10 : List tA) : Option (List tA) :=
  (bif (decide (q9 < (81 : Int))) then (f206G K ((w ((w (q9.tdiv (27 : Int))) - (1 : Int))), (w (((w (q9.tdiv (9 : Int))).tmod (3 : Int)) - (1 : Int))), (w (((w (q9.tdiv (3 : Int))).tmod (3 : Int)) - (1 : Int))), (w ((q9.tmod (3 : Int)) - (1 : Int)))) ((1 : Int), (0 : Int))).bind fun y11 => (f206G K ((w ((w (q9.tdiv (27 : Int))) - (1 : Int))), (w (((w (q9.tdiv (9 : Int))).tmod (3 : Int)) - (1 : Int))), (w (((w (q9.tdiv (3 : Int))).tmod (3 : Int)) - (1 : Int))), (w ((q9.tmod (3 : Int)) - (1 : Int)))) ((0 : Int), (1 : Int))).bind fun y12 => (f206G K ((w ((w (q9.tdiv (27 : Int))) - (1 : Int))), (w (((w (q9.tdiv (9 : Int))).tmod (3 : Int)) - (1 : Int))), (w (((w (q9.tdiv (3 : Int))).tmod (3 : Int)) - (1 : Int))), (w ((q9.tmod (3 : Int)) - (1 : Int)))) ((1 : Int), (1 : Int))).bind fun y13 => (f250G K a0 y11).bind fun y14 => (bif ((!(y14 == (1 : Int))) || true) then (bif ((!(y14 == (1 : Int))) || true) then ((bif (y14 == (1 : Int)) then f250G K a0 y12 else some (0 : Int))).bind fun y15 => (bif ((!(y14 == (1 : Int))) || true) then (bif ((!(bif (y14 == (1 : Int)) then (y15 == (1 : Int)) else false)) || true) then (bif ((!(bif (y14 == (1 : Int)) then (y15 == (1 : Int)) else false)) || true) then ((bif (bif (y14 == (1 : Int)) then (y15 == (1 : Int)) else false) then f250G K a0 y13 else some (0 : Int))).bind fun y16 => (bif ((!(bif (y14 == (1 : Int)) then (y15 == (1 : Int)) else false)) || true) then (bif ((!(bif (y14 == (1 : Int)) then (y15 == (1 : Int)) else false)) || true) then (bif ((!(bif (y14 == (1 : Int)) then (y15 == (1 : Int)) else false)) || true) then (bif (bif (bif (y14 == (1 : Int)) then (y15 == (1 : Int)) else false) then (y16 == (w ((2 : Int) + a0))) else false) then (bif (Nat.ble (q10.length + [((w ((w (q9.tdiv (27 : Int))) - (1 : Int))), (w (((w (q9.tdiv (9 : Int))).tmod (3 : Int)) - (1 : Int))), (w (((w (q9.tdiv (3 : Int))).tmod (3 : Int)) - (1 : Int))), (w ((q9.tmod (3 : Int)) - (1 : Int))))].length) (lim 32)) then L8 (w (q9 + (1 : Int))) (q10 ++ [((w ((w (q9.tdiv (27 : Int))) - (1 : Int))), (w (((w (q9.tdiv (9 : Int))).tmod (3 : Int)) - (1 : Int))), (w (((w (q9.tdiv (3 : Int))).tmod (3 : Int)) - (1 : Int))), (w ((q9.tmod (3 : Int)) - (1 : Int))))]) else none) else L8 (w (q9 + (1 : Int))) q10) else none) else none) else none) else none) else none) else none) else none) else none) else some q10)
noncomputable def f203_l8 (K : Nat) (a0 : Int) (n : Nat) (q9 : Int) (q10 : List tA) : Option (List tA) :=
  iter (X := Int × List tA) (fun L x => (fun L8 => f203_b8 K a0 L8 x.1 x.2) (fun v0 v1 => L (v0, v1))) n (q9, q10)
noncomputable def f203_fr8 (a0 : Int) (q9 : Int) (q10 : List tA) : Fr := ⟨61, [(0, .v false [.int .i64 a0]), (2, .v false [.row 0]), (3, .v false [.row 1]), (10, .v false [.int .i64 q9])], [], [some ⟨89, sA, [], .own⟩, some ⟨89, sA, q10, .own⟩]⟩
noncomputable def f203_k8 (K : Nat) (a0 : Int) (lr : LR (List tA)) : Ex → Fr → Option (List tA) :=
  contC (f203E K) 0 lr f203C [1, 1, 0, 1, 0] (finK (f203E K) Tryz.f203 [(.ro, sI)] [(.list 89 sA)] (a0, ()))
noncomputable def f203_g (K : Nat) (a0 : Int) (I8 : Int → (List tA) → Option (List tA)) : Option (List tA) :=
  I8 (0 : Int) []
noncomputable def f203G (K : Nat) (a0 : Int) : Option (List tA) :=
  f203_g K a0 (fun d0 d1 => f203_l8 K a0 K d0 d1)
noncomputable def f203M (K : Nat) : Mdl := ⟨[(.ro, sI)], [(.list 89 sA)], fun x => f203G K x.1⟩
/-! (impl.Lattice).has -/
noncomputable def f205E (K : Nat) : Env := ⟨[(119, f119M K)], tys, eqs, mts, K, [0, 1, 2, 3, 4], [], []⟩
noncomputable def f205G (K : Nat) (a0 : Int × Int × Int) (a1 : Int × Int) : Option Bool :=
  (f119G K a0 a1).bind fun y1 => some ((y1.1 == (0 : Int)) && (y1.2 == (0 : Int)))
noncomputable def f205M (K : Nat) : Mdl := ⟨[(.ro, sL), (.ro, sV)], [.bool], fun x => f205G K x.1 x.2.1⟩
/-! impl.latticeMats$1 -/
noncomputable def f204E (K : Nat) : Env := ⟨[(205, f205M K), (206, f206M K)], tys, eqs, mts, K, [0, 1, 2, 3, 4, 5], [], []⟩
noncomputable def f204G (K : Nat) (a0 : Int × Int × Int × Int) (a1 : Int × Int × Int) (a2 : Int × Int) (a3 : Int × Int) : Option Bool :=
  (f206G K a0 a2).bind fun y1 => (f205G K a1 y1).bind fun y2 => (bif ((!(!(!y2))) || true) then (bif ((!(!(!y2))) || true) then (bif ((!(!(!y2))) || true) then ((bif (!(!y2)) then f206G K a0 a3 else some ((0 : Int), (0 : Int)))).bind fun y3 => ((bif (!(!y2)) then f205G K a1 y3 else some false)).bind fun y4 => (bif ((!(!(!y2))) || true) then some (bif (!y2) then true else (!y4)) else none) else none) else none) else none)
noncomputable def f204M (K : Nat) : Mdl := ⟨[(.ro, sA), (.cap, sL), (.cap, sV), (.cap, sV)], [.bool], fun x => f204G K x.1 x.2.1 x.2.2.1 x.2.2.2.1⟩
/-! slices.IndexFunc[[]impl.Mat,impl.Mat] -/
noncomputable def f249C : Code := codeOf Tryz.f249
noncomputable def f249E (K : Nat) : Env := ⟨[], tys, eqs, mts, K, [0, 1, 4, 5, 7, 8, 9, 16], [], []⟩
noncomputable def f249_b3 (K : Nat) (a0 : List tA) (a1 : (tA → Option Bool)) (L3 : Int → Option Int) (q4 : Int) : Option Int :=
  (bif (decide (q4 < (a0.length : Int))) then (bif (decide (0 ≤ q4) && decide (q4 < (a0.length : Int))) then (a1 ((a0.getD ((0 : Int) + q4).toNat zA).1, ((a0.getD ((0 : Int) + q4).toNat zA).2).1, (((a0.getD ((0 : Int) + q4).toNat zA).2).2))).bind fun y5 => (bif y5 then some q4 else L3 (w (q4 + (1 : Int)))) else none) else some (-1 : Int))
noncomputable def f249_l3 (K : Nat) (a0 : List tA) (a1 : (tA → Option Bool)) (n : Nat) (q4 : Int) : Option Int :=
  iter (X := Int) (fun L x => (fun L3 => f249_b3 K a0 a1 L3 x) (fun v0 => L v0)) n q4
noncomputable def f249_fr3 (a0 : List tA) (a1 : (tA → Option Bool)) (q4 : Int) : Fr := ⟨19, [(0, .v false [.row 0]), (1, .v false [.fv1 sA .bool a1]), (4, .v false [.int .i64 (0 : Int)]), (7, .v false [.int .i64 (a0.length : Int)]), (8, .v false [.int .i64 q4])], [], [some ⟨89, sA, a0, .ro⟩]⟩
noncomputable def f249_k3 (K : Nat) (a0 : List tA) (a1 : (tA → Option Bool)) (lr : LR Int) : Ex → Fr → Option Int :=
  contC (f249E K) 1 lr f249C [1, 0, 1, 0] (finK (f249E K) Tryz.f249 [(.ro, (.list 89 sA)), (.ro, (.fn1 sA .bool))] [sI] (a0, a1, ()))
noncomputable def f249_g (K : Nat) (a0 : List tA) (a1 : (tA → Option Bool)) (I3 : Int → Option Int) : Option Int :=
  I3 (0 : Int)
noncomputable def f249G (K : Nat) (a0 : List tA) (a1 : (tA → Option Bool)) : Option Int :=
  f249_g K a0 a1 (fun d0 => f249_l3 K a0 a1 K d0)
noncomputable def f249M (K : Nat) : Mdl := ⟨[(.ro, (.list 89 sA)), (.ro, (.fn1 sA .bool))], [sI], fun x => f249G K x.1 x.2.1⟩
/-! slices.DeleteFunc[[]impl.Mat,impl.Mat] -/
noncomputable def f202C : Code := codeOf Tryz.f202
noncomputable def f202E (K : Nat) : Env := ⟨[(249, f249M K)], tys, eqs, mts, K, [0, 1, 4, 5, 6, 7, 12, 19, 29], [], []⟩
noncomputable def f202_b4 (K : Nat) (a1 : (tA → Option Bool)) (y1 : Int) (L4 : Int → Int → (List tA) → Option (List tA)) (q5 : Int) (q6 : Int) (q7 : List tA) : Option (List tA) :=
  (bif (decide (q6 < (q7.length : Int))) then (bif (decide (0 ≤ q6) && decide (q6 < (q7.length : Int))) then (a1 ((q7.getD ((0 : Int) + q6).toNat zA).1, ((q7.getD ((0 : Int) + q6).toNat zA).2).1, (((q7.getD ((0 : Int) + q6).toNat zA).2).2))).bind fun y8 => (bif (!y8) then (bif (decide (0 ≤ q5) && decide (q5 < (q7.length : Int))) then L4 (w (q5 + (1 : Int))) (w (q6 + (1 : Int))) (q7.set ((0 : Int) + q5).toNat ((q7.getD ((0 : Int) + q6).toNat zA).1, ((q7.getD ((0 : Int) + q6).toNat zA).2).1, (((q7.getD ((0 : Int) + q6).toNat zA).2).2))) else none) else L4 q5 (w (q6 + (1 : Int))) q7) else none) else (bif (decide (0 ≤ q5) && decide (q5 ≤ (q7.length : Int)) && decide ((q7.length : Int) ≤ (q7.length : Int))) then (bif (decide (0 ≤ (0 : Int)) && decide ((0 : Int) ≤ q5) && decide (q5 ≤ ((clr q7 ((0 : Int) + q5).toNat (((0 : Int) + q5) + (((0 : Int) + (q7.length : Int)) - ((0 : Int) + q5))).toNat zA).length : Int))) then some ((clr q7 ((0 : Int) + q5).toNat (((0 : Int) + q5) + (((0 : Int) + (q7.length : Int)) - ((0 : Int) + q5))).toNat zA).take ((0 : Int) + q5).toNat) else none) else none))
noncomputable def f202_l4 (K : Nat) (a1 : (tA → Option Bool)) (y1 : Int) (n : Nat) (q5 : Int) (q6 : Int) (q7 : List tA) : Option (List tA) :=
  iter (X := Int × Int × List tA) (fun L x => (fun L4 => f202_b4 K a1 y1 L4 x.1 x.2.1 x.2.2) (fun v0 v1 v2 => L (v0, v1, v2))) n (q5, q6, q7)
noncomputable def f202_fr4 (a1 : (tA → Option Bool)) (y1 : Int) (q5 : Int) (q6 : Int) (q7 : List tA) : Fr := ⟨42, [(0, .v false [.row 0]), (1, .v false [.fv1 sA .bool a1]), (4, .v false [.row 1]), (5, .v false [.int .i64 q5]), (6, .v false [.int .i64 q6]), (12, .v false [.bool (y1 == (-1 : Int))])], [], [some ⟨89, sA, q7, .own⟩, some ⟨89, sA, [], .own⟩]⟩
noncomputable def f202_k4 (K : Nat) (a0 : List tA) (a1 : (tA → Option Bool)) (lr : LR (List tA)) : Ex → Fr → Option (List tA) :=
  contC (f202E K) 1 lr f202C [1, 1, 1, 0, 1, 0] (finK (f202E K) Tryz.f202 [(.mv, (.list 89 sA)), (.ro, (.fn1 sA .bool))] [(.list 89 sA)] (a0, a1, ()))
noncomputable def f202_g (K : Nat) (a0 : List tA) (a1 : (tA → Option Bool)) (I4 : Int → Int → Int → (List tA) → Option (List tA)) : Option (List tA) :=
  (f249G K a0 a1).bind fun y1 => (bif (y1 == (-1 : Int)) then some a0 else I4 y1 y1 (w (y1 + (1 : Int))) a0)
noncomputable def f202G (K : Nat) (a0 : List tA) (a1 : (tA → Option Bool)) : Option (List tA) :=
  f202_g K a0 a1 (fun c0 d0 d1 d2 => f202_l4 K a1 c0 K d0 d1 d2)
noncomputable def f202M (K : Nat) : Mdl := ⟨[(.mv, (.list 89 sA)), (.ro, (.fn1 sA .bool))], [(.list 89 sA)], fun x => f202G K x.1 x.2.1⟩
/-! impl.latticeMats -/
noncomputable def f144E (K : Nat) : Env := ⟨[(198, f198M K), (202, f202M K), (203, f203M K), (204, f204M K)], tys, eqs, mts, K, [0, 1, 3, 4, 5, 6], [], []⟩
noncomputable def f144G (K : Nat) (a0 : Int) (a1 : Int × Int × Int) : Option (List tA) :=
  (f198G K a1).bind fun y1 => (f203G K a0).bind fun y2 => (f202G K y2 (fun z3 => f204G K z3 a1 y1.1 y1.2)).bind fun y4 => some y4
noncomputable def f144M (K : Nat) : Mdl := ⟨[(.ro, sI), (.ro, sL)], [(.list 89 sA)], fun x => f144G K x.1 x.2.1⟩
/-! (impl.Pattern).groupOf -/
noncomputable def f73C : Code := codeOf Tryz.f73
noncomputable def f73E (K : Nat) : Env := ⟨[(108, f108M K), (144, f144M K), (145, f145M K)], tys, eqs, mts, K, [0, 1, 2, 3, 5, 7, 13, 14, 15, 16, 21, 22, 23, 24, 31], [], []⟩
noncomputable def f73_b14 (K : Nat) (a0 : Int × tL × List Int) (q11 : Int) (y1 : List tA) (y13 : List tV) (L10 : Int → (List tM) → Option (List tM)) (L14 : Int → (List tM) → Option (List tM)) (q15 : Int) (q16 : List tM) : Option (List tM) :=
  (bif (decide (q15 < (y13.length : Int))) then (bif (decide (0 ≤ q15) && decide (q15 < (y13.length : Int))) then (f145G K a0 (((y1.getD ((0 : Int) + q11).toNat zA).1, ((y1.getD ((0 : Int) + q11).toNat zA).2).1, (((y1.getD ((0 : Int) + q11).toNat zA).2).2)), (y13.getD ((0 : Int) + q15).toNat ((0 : Int), (0 : Int))))).bind fun y17 => (bif y17 then (bif (Nat.ble (q16.length + [(((y1.getD ((0 : Int) + q11).toNat zA).1, ((y1.getD ((0 : Int) + q11).toNat zA).2).1, (((y1.getD ((0 : Int) + q11).toNat zA).2).2)), (y13.getD ((0 : Int) + q15).toNat ((0 : Int), (0 : Int))))].length) (lim 48)) then L14 (w (q15 + (1 : Int))) (q16 ++ [(((y1.getD ((0 : Int) + q11).toNat zA).1, ((y1.getD ((0 : Int) + q11).toNat zA).2).1, (((y1.getD ((0 : Int) + q11).toNat zA).2).2)), (y13.getD ((0 : Int) + q15).toNat ((0 : Int), (0 : Int))))]) else none) else L14 (w (q15 + (1 : Int))) q16) else none) else L10 (w (q11 + (1 : Int))) q16)
noncomputable def f73_l14 (K : Nat) (a0 : Int × tL × List Int) (q11 : Int) (y1 : List tA) (y13 : List tV) (L10 : Int → (List tM) → Option (List tM)) (n : Nat) (q15 : Int) (q16 : List tM) : Option (List tM) :=
  iter (X := Int × List tM) (fun L x => (fun L14 => f73_b14 K a0 q11 y1 y13 L10 L14 x.1 x.2) (fun v0 v1 => L (v0, v1))) n (q15, q16)
noncomputable def f73_fr14 (a0 : Int × tL × List Int) (q11 : Int) (y1 : List tA) (y13 : List tV) (q15 : Int) (q16 : List tM) : Fr := ⟨41, [(0, .v true [.int .i64 a0.1, .int .i64 a0.2.1.1, .int .i64 a0.2.1.2.1, .int .i64 a0.2.1.2.2, .row 0]), (1, .v false [.box 0 0]), (2, .v false [.row 1]), (3, .v false [.row 2]), (5, .v false [.box 1 0]), (13, .v false [.row 3]), (14, .v false [.int .i64 (y1.length : Int)]), (15, .v false [.int .i64 q11]), (16, .v false [.bool (decide (q11 < (y1.length : Int)))]), (21, .v false [.row 4]), (22, .v false [.int .i64 (y13.length : Int)]), (23, .v false [.int .i64 q15])], [some ⟨true, [.int .i64 a0.1, .int .i64 a0.2.1.1, .int .i64 a0.2.1.2.1, .int .i64 a0.2.1.2.2, .row 0]⟩, some ⟨true, [.int .i64 ((y1.getD ((0 : Int) + q11).toNat zA).1), .int .i64 (((y1.getD ((0 : Int) + q11).toNat zA).2).1), .int .i64 ((((y1.getD ((0 : Int) + q11).toNat zA).2).2).1), .int .i64 ((((y1.getD ((0 : Int) + q11).toNat zA).2).2).2)]⟩], [some ⟨2, sI, a0.2.2, .ro⟩, some ⟨91, sM, [], .own⟩, some ⟨91, sM, q16, .own⟩, some ⟨89, sA, y1, .own⟩, some ⟨53, sV, y13, .own⟩]⟩
noncomputable def f73_b10 (K : Nat) (a0 : Int × tL × List Int) (y1 : List tA) (I14 : Int → (List tV) → Int → (List tM) → Option (List tM)) (L10 : Int → (List tM) → Option (List tM)) (q11 : Int) (q12 : List tM) : Option (List tM) :=
  (bif (decide (q11 < (y1.length : Int))) then (bif (decide (0 ≤ q11) && decide (q11 < (y1.length : Int))) then (f108G K a0.2.1).bind fun y13 => I14 q11 y13 (0 : Int) q12 else none) else some q12)
noncomputable def f73_l10 (K : Nat) (a0 : Int × tL × List Int) (y1 : List tA) (n : Nat) (q11 : Int) (q12 : List tM) : Option (List tM) :=
  iter (X := Int × List tM) (fun L x => (fun L10 => f73_b10 K a0 y1 (fun c0 c1 d0 d1 => f73_l14 K a0 c0 y1 c1 L10 K d0 d1) L10 x.1 x.2) (fun v0 v1 => L (v0, v1))) n (q11, q12)
noncomputable def f73_fr10 (a0 : Int × tL × List Int) (y1 : List tA) (q11 : Int) (q12 : List tM) : Fr := ⟨41, [(0, .v true [.int .i64 a0.1, .int .i64 a0.2.1.1, .int .i64 a0.2.1.2.1, .int .i64 a0.2.1.2.2, .row 0]), (1, .v false [.box 0 0]), (2, .v false [.row 1]), (3, .v false [.row 2]), (13, .v false [.row 3]), (14, .v false [.int .i64 (y1.length : Int)]), (15, .v false [.int .i64 q11])], [some ⟨true, [.int .i64 a0.1, .int .i64 a0.2.1.1, .int .i64 a0.2.1.2.1, .int .i64 a0.2.1.2.2, .row 0]⟩], [some ⟨2, sI, a0.2.2, .ro⟩, some ⟨91, sM, [], .own⟩, some ⟨91, sM, q12, .own⟩, some ⟨89, sA, y1, .own⟩]⟩
noncomputable def f73_k10 (K : Nat) (a0 : Int × tL × List Int) (lr : LR (List tM)) : Ex → Fr → Option (List tM) :=
  contC (f73E K) 1 lr f73C [1, 1, 0, 1, 0] (finK (f73E K) Tryz.f73 [(.ro, (.cons sI (.cons sL (.list 2 sI))))] [(.list 91 sM)] (a0, ()))
noncomputable def f73_k14 (K : Nat) (a0 : Int × tL × List Int) (y1 : List tA) (F10 : Fr → Option (List tM)) (bq11 : Int) (bq12 : List tM) (lr : LR (List tM)) : Ex → Fr → Option (List tM) :=
  contC (f73E K) 1 lr (selC f73C [1, 1, 0, 1, 0, 0]) [1, 1, 0, 0, 1, 1, 0] (loopK 1 (f73_fr10 a0 y1 bq11 bq12) F10 (f73_k10 K a0 lr))
noncomputable def f73_g (K : Nat) (a0 : Int × tL × List Int) (I10 : (List tA) → Int → (List tM) → Option (List tM)) : Option (List tM) :=
  (f144G K a0.1 a0.2.1).bind fun y1 => I10 y1 (0 : Int) []
noncomputable def f73G (K : Nat) (a0 : Int × tL × List Int) : Option (List tM) :=
  f73_g K a0 (fun c0 d0 d1 => f73_l10 K a0 c0 K d0 d1)
noncomputable def f73M (K : Nat) : Mdl := ⟨[(.ro, (.cons sI (.cons sL (.list 2 sI))))], [(.list 91 sM)], fun x => f73G K x.1⟩
/-! math/bits.Mul -/
noncomputable def f201G (K : Nat) (a0 : Int) (a1 : Int) : Option tV := mulF a0 a1
noncomputable def f201M (K : Nat) : Mdl := ⟨[(.ro, (.int .u64)), (.ro, (.int .u64))], [(.int .u64), (.int .u64)], fun x => f201G K x.1 x.2.1⟩
/-! slices.Repeat[[]int64,int64] -/
noncomputable def f143C : Code := codeOf Tryz.f143
noncomputable def f143E (K : Nat) : Env := ⟨[(201, f201M K)], tys, eqs, mts, K, [0, 1, 4, 5, 6, 7, 8, 10, 26, 37], [], []⟩
noncomputable def f143_b3 (K : Nat) (a0 : List Int) (a1 : Int) (y1 : Int × Int) (L3 : Int → (List Int) → Option (List Int)) (q4 : Int) (q5 : List Int) : Option (List Int) :=
  (bif (decide (q4 < (q5.length : Int))) then (bif (decide (0 ≤ q4) && decide (q4 ≤ (q5.length : Int)) && decide ((q5.length : Int) ≤ (q5.length : Int))) then (bif (decide (0 ≤ (0 : Int)) && decide ((0 : Int) ≤ q4) && decide (q4 ≤ (q5.length : Int))) then L3 (w (q4 + (bif decide ((((0 : Int) + (q5.length : Int)) - ((0 : Int) + q4)) ≤ (((0 : Int) + q4) - (0 : Int))) then (((0 : Int) + (q5.length : Int)) - ((0 : Int) + q4)) else (((0 : Int) + q4) - (0 : Int))))) (q5.take ((0 : Int) + q4).toNat ++ ((q5.take ((0 : Int) + (((0 : Int) + q4) - (0 : Int))).toNat).drop 0).take (bif decide ((((0 : Int) + (q5.length : Int)) - ((0 : Int) + q4)) ≤ (((0 : Int) + q4) - (0 : Int))) then (((0 : Int) + (q5.length : Int)) - ((0 : Int) + q4)) else (((0 : Int) + q4) - (0 : Int))).toNat ++ q5.drop (((0 : Int) + q4).toNat + (bif decide ((((0 : Int) + (q5.length : Int)) - ((0 : Int) + q4)) ≤ (((0 : Int) + q4) - (0 : Int))) then (((0 : Int) + (q5.length : Int)) - ((0 : Int) + q4)) else (((0 : Int) + q4) - (0 : Int))).toNat)) else none) else none) else some q5)
noncomputable def f143_l3 (K : Nat) (a0 : List Int) (a1 : Int) (y1 : Int × Int) (n : Nat) (q4 : Int) (q5 : List Int) : Option (List Int) :=
  iter (X := Int × List Int) (fun L x => (fun L3 => f143_b3 K a0 a1 y1 L3 x.1 x.2) (fun v0 v1 => L (v0, v1))) n (q4, q5)
noncomputable def f143_fr3 (a0 : List Int) (a1 : Int) (y1 : Int × Int) (q4 : Int) (q5 : List Int) : Fr := ⟨48, [(0, .v false [.row 0]), (1, .v false [.int .i64 a1]), (4, .v false [.row 1]), (5, .v false [.int .u64 y1.1]), (6, .v false [.int .u64 y1.2]), (7, .v false [.row 2]), (8, .v false [.int .i64 q4]), (10, .v false [.bool (decide (a1 < (0 : Int)))]), (26, .v false [.bool (bif (decide (y1.1 > (0 : Int))) then true else (decide (y1.2 > (9223372036854775807 : Int))))])], [], [some ⟨2, sI, a0, .ro⟩, some ⟨2, sI, [], .own⟩, some ⟨2, sI, q5, .own⟩]⟩
noncomputable def f143_k3 (K : Nat) (a0 : List Int) (a1 : Int) (lr : LR (List Int)) : Ex → Fr → Option (List Int) :=
  contC (f143E K) 1 lr f143C [1, 1, 1, 1, 1, 1, 0, 0] (finK (f143E K) Tryz.f143 [(.ro, (.list 2 sI)), (.ro, sI)] [(.list 2 sI)] (a0, a1, ()))
noncomputable def f143_g (K : Nat) (a0 : List Int) (a1 : Int) (I3 : tV → Int → (List Int) → Option (List Int)) : Option (List Int) :=
  (bif (decide (a1 < (0 : Int))) then none else (f201G K (IntKind.u64.wrap (a0.length : Int)) (IntKind.u64.wrap a1)).bind fun y1 => (bif ((!(!(decide (y1.1 > (0 : Int))))) || true) then (bif ((!(!(decide (y1.1 > (0 : Int))))) || true) then (bif (bif (decide (y1.1 > (0 : Int))) then true else (decide (y1.2 > (9223372036854775807 : Int)))) then none else (bif (decide (0 ≤ (w y1.2)) && Nat.ble (w y1.2).toNat (lim 8) && ((w y1.2) == (w y1.2))) then I3 y1 (bif decide (((List.replicate (w y1.2).toNat (0 : Int)).length : Int) ≤ (a0.length : Int)) then ((List.replicate (w y1.2).toNat (0 : Int)).length : Int) else (a0.length : Int)) ((List.replicate (w y1.2).toNat (0 : Int)).take 0 ++ ((a0.take ((0 : Int) + (a0.length : Int)).toNat).drop 0).take (bif decide (((List.replicate (w y1.2).toNat (0 : Int)).length : Int) ≤ (a0.length : Int)) then ((List.replicate (w y1.2).toNat (0 : Int)).length : Int) else (a0.length : Int)).toNat ++ (List.replicate (w y1.2).toNat (0 : Int)).drop (0 + (bif decide (((List.replicate (w y1.2).toNat (0 : Int)).length : Int) ≤ (a0.length : Int)) then ((List.replicate (w y1.2).toNat (0 : Int)).length : Int) else (a0.length : Int)).toNat)) else none)) else none) else none))
noncomputable def f143G (K : Nat) (a0 : List Int) (a1 : Int) : Option (List Int) :=
  f143_g K a0 a1 (fun c0 d0 d1 => f143_l3 K a0 a1 c0 K d0 d1)
noncomputable def f143M (K : Nat) : Mdl := ⟨[(.ro, (.list 2 sI)), (.ro, sI)], [(.list 2 sI)], fun x => f143G K x.1 x.2.1⟩
/-! (impl.Lattice).take -/
noncomputable def f150E (K : Nat) : Env := ⟨[(119, f119M K), (207, f207M K)], tys, eqs, mts, K, [0, 1, 2, 3, 4, 5, 6], [], []⟩
noncomputable def f150G (K : Nat) (a0 : Int × Int × Int) (a1 : tA × Int × Int) (a2 : Int × Int) : Option tV :=
  (f207G K a1 a2).bind fun y1 => (f119G K a0 y1).bind fun y2 => some y2
noncomputable def f150M (K : Nat) : Mdl := ⟨[(.ro, sL), (.ro, sM), (.ro, sV)], [sV], fun x => f150G K x.1 x.2.1 x.2.2.1⟩
/-! impl.compareNumbers -/
noncomputable def f179C : Code := codeOf Tryz.f179
noncomputable def f179E (K : Nat) : Env := ⟨[], tys, eqs, mts, K, [0, 1, 4, 5, 7, 8, 9, 19, 28], [], []⟩
noncomputable def f179_b2 (K : Nat) (a0 : List Int) (a1 : List Int) (L2 : Int → Option Int) (q3 : Int) : Option Int :=
  (bif (decide (q3 < (a0.length : Int))) then (bif (decide (0 ≤ q3) && decide (q3 < (a0.length : Int))) then (bif (decide (0 ≤ q3) && decide (q3 < (a1.length : Int))) then (bif ((a0.getD ((0 : Int) + q3).toNat (0 : Int)) != (a1.getD ((0 : Int) + q3).toNat (0 : Int))) then (bif (decide (0 ≤ q3) && decide (q3 < (a0.length : Int))) then (bif (decide (0 ≤ q3) && decide (q3 < (a1.length : Int))) then (bif (decide ((a0.getD ((0 : Int) + q3).toNat (0 : Int)) < (a1.getD ((0 : Int) + q3).toNat (0 : Int)))) then some (-1 : Int) else some (1 : Int)) else none) else none) else L2 (w (q3 + (1 : Int)))) else none) else none) else some (0 : Int))
noncomputable def f179_l2 (K : Nat) (a0 : List Int) (a1 : List Int) (n : Nat) (q3 : Int) : Option Int :=
  iter (X := Int) (fun L x => (fun L2 => f179_b2 K a0 a1 L2 x) (fun v0 => L v0)) n q3
noncomputable def f179_fr2 (a0 : List Int) (a1 : List Int) (q3 : Int) : Fr := ⟨30, [(0, .v false [.row 0]), (1, .v false [.row 1]), (4, .v false [.int .i64 (0 : Int)]), (7, .v false [.int .i64 (a0.length : Int)]), (8, .v false [.int .i64 q3])], [], [some ⟨2, sI, a0, .ro⟩, some ⟨2, sI, a1, .ro⟩]⟩
noncomputable def f179_k2 (K : Nat) (a0 : List Int) (a1 : List Int) (lr : LR Int) : Ex → Fr → Option Int :=
  contC (f179E K) 2 lr f179C [1, 0, 1, 0] (finK (f179E K) Tryz.f179 [(.ro, (.list 2 sI)), (.ro, (.list 2 sI))] [sI] (a0, a1, ()))
noncomputable def f179_g (K : Nat) (a0 : List Int) (a1 : List Int) (I2 : Int → Option Int) : Option Int :=
  I2 (0 : Int)
noncomputable def f179G (K : Nat) (a0 : List Int) (a1 : List Int) : Option Int :=
  f179_g K a0 a1 (fun d0 => f179_l2 K a0 a1 K d0)
noncomputable def f179M (K : Nat) : Mdl := ⟨[(.ro, (.list 2 sI)), (.ro, (.list 2 sI))], [sI], fun x => f179G K x.1 x.2.1⟩
/-! impl.compareVecs -/
noncomputable def f111E (K : Nat) : Env := ⟨[(179, f179M K)], tys, eqs, mts, K, [0, 1, 2, 3, 4], [], []⟩
noncomputable def f111G (K : Nat) (a0 : Int × Int) (a1 : Int × Int) : Option Int :=
  (f179G K [a0.1, a0.2] [a1.1, a1.2]).bind fun y1 => some y1
noncomputable def f111M (K : Nat) : Mdl := ⟨[(.ro, sV), (.ro, sV)], [sI], fun x => f111G K x.1 x.2.1⟩
/-! slices.SortFunc[[]impl.Vec,impl.Vec] -/
noncomputable def f110G (K : Nat) (a0 : List tV) (a1 : tV → tV → Option Int) : Option (List tV) := sortF sV a0 a1
noncomputable def f110M (K : Nat) : Mdl := ⟨[(.io, (.list 53 sV)), (.ro, (.fn2 sV sV sI))], [], fun x => f110G K x.1 x.2.1⟩
/-! slices.Compact[[]impl.Vec,impl.Vec] -/
noncomputable def f151C : Code := codeOf Tryz.f151
noncomputable def f151E (K : Nat) : Env := ⟨[], tys, eqs, mts, K, [0, 2, 3, 4, 5, 8, 13, 25, 32, 44], [], []⟩
noncomputable def f151_b9 (K : Nat) (a0 : List tV) (q8 : Int) (L9 : Int → Int → (List tV) → Option (List tV)) (q10 : Int) (q11 : Int) (q12 : List tV) : Option (List tV) :=
  (bif (decide (q11 < (((0 : Int) + (a0.length : Int)) - ((0 : Int) + q8)))) then (bif (decide (0 ≤ q11) && decide (q11 < (((0 : Int) + (a0.length : Int)) - ((0 : Int) + q8)))) then (bif (decide (0 ≤ (w (q11 - (1 : Int)))) && decide ((w (q11 - (1 : Int))) < (((0 : Int) + (a0.length : Int)) - ((0 : Int) + q8)))) then (bif (!(((q12.getD (((0 : Int) + q8) + q11).toNat ((0 : Int), (0 : Int))).1 == (q12.getD (((0 : Int) + q8) + (w (q11 - (1 : Int)))).toNat ((0 : Int), (0 : Int))).1) && ((q12.getD (((0 : Int) + q8) + q11).toNat ((0 : Int), (0 : Int))).2 == (q12.getD (((0 : Int) + q8) + (w (q11 - (1 : Int)))).toNat ((0 : Int), (0 : Int))).2))) then (bif (decide (0 ≤ q11) && decide (q11 < (((0 : Int) + (a0.length : Int)) - ((0 : Int) + q8)))) then (bif (decide (0 ≤ q10) && decide (q10 < (q12.length : Int))) then L9 (w (q10 + (1 : Int))) (w (q11 + (1 : Int))) (q12.set ((0 : Int) + q10).toNat (q12.getD (((0 : Int) + q8) + q11).toNat ((0 : Int), (0 : Int)))) else none) else none) else L9 q10 (w (q11 + (1 : Int))) q12) else none) else none) else (bif (decide (0 ≤ q10) && decide (q10 ≤ (q12.length : Int)) && decide ((q12.length : Int) ≤ (q12.length : Int))) then (bif (decide (0 ≤ (0 : Int)) && decide ((0 : Int) ≤ q10) && decide (q10 ≤ ((clr q12 ((0 : Int) + q10).toNat (((0 : Int) + q10) + (((0 : Int) + (q12.length : Int)) - ((0 : Int) + q10))).toNat ((0 : Int), (0 : Int))).length : Int))) then some ((clr q12 ((0 : Int) + q10).toNat (((0 : Int) + q10) + (((0 : Int) + (q12.length : Int)) - ((0 : Int) + q10))).toNat ((0 : Int), (0 : Int))).take ((0 : Int) + q10).toNat) else none) else none))
noncomputable def f151_l9 (K : Nat) (a0 : List tV) (q8 : Int) (n : Nat) (q10 : Int) (q11 : Int) (q12 : List tV) : Option (List tV) :=
  iter (X := Int × Int × List tV) (fun L x => (fun L9 => f151_b9 K a0 q8 L9 x.1 x.2.1 x.2.2) (fun v0 v1 v2 => L (v0, v1, v2))) n (q10, q11, q12)
noncomputable def f151_fr9 (a0 : List tV) (q8 : Int) (q10 : Int) (q11 : Int) (q12 : List tV) : Fr := ⟨61, [(0, .v false [.row 0]), (2, .v false [.row 1]), (3, .v false [.int .i64 q10]), (4, .v false [.view 0 ((0 : Int) + q8) ((0 : Int) + (a0.length : Int))]), (5, .v false [.int .i64 q11]), (8, .v false [.bool (decide ((a0.length : Int) < (2 : Int)))]), (13, .v false [.bool (decide (q8 < (a0.length : Int)))]), (25, .v false [.bool (((a0.getD ((0 : Int) + q8).toNat ((0 : Int), (0 : Int))).1 == (a0.getD ((0 : Int) + (w (q8 - (1 : Int)))).toNat ((0 : Int), (0 : Int))).1) && ((a0.getD ((0 : Int) + q8).toNat ((0 : Int), (0 : Int))).2 == (a0.getD ((0 : Int) + (w (q8 - (1 : Int)))).toNat ((0 : Int), (0 : Int))).2))])], [], [some ⟨53, sV, q12, .own⟩, some ⟨53, sV, [], .own⟩]⟩
noncomputable def f151_b7 (K : Nat) (a0 : List tV) (I9 : Int → Int → Int → (List tV) → Option (List tV)) (L7 : Int → Option (List tV)) (q8 : Int) : Option (List tV) :=
  (bif (decide (q8 < (a0.length : Int))) then (bif (decide (0 ≤ q8) && decide (q8 < (a0.length : Int))) then (bif (decide (0 ≤ (w (q8 - (1 : Int)))) && decide ((w (q8 - (1 : Int))) < (a0.length : Int))) then (bif (((a0.getD ((0 : Int) + q8).toNat ((0 : Int), (0 : Int))).1 == (a0.getD ((0 : Int) + (w (q8 - (1 : Int)))).toNat ((0 : Int), (0 : Int))).1) && ((a0.getD ((0 : Int) + q8).toNat ((0 : Int), (0 : Int))).2 == (a0.getD ((0 : Int) + (w (q8 - (1 : Int)))).toNat ((0 : Int), (0 : Int))).2)) then (bif (decide (0 ≤ q8) && decide (q8 ≤ (a0.length : Int)) && decide ((a0.length : Int) ≤ (a0.length : Int))) then I9 q8 q8 (1 : Int) a0 else none) else L7 (w (q8 + (1 : Int)))) else none) else none) else some a0)
noncomputable def f151_l7 (K : Nat) (a0 : List tV) (n : Nat) (q8 : Int) : Option (List tV) :=
  iter (X := Int) (fun L x => (fun L7 => f151_b7 K a0 (fun c0 d0 d1 d2 => f151_l9 K a0 c0 K d0 d1 d2) L7 x) (fun v0 => L v0)) n q8
noncomputable def f151_fr7 (a0 : List tV) (q8 : Int) : Fr := ⟨61, [(0, .v false [.row 0]), (2, .v false [.row 1]), (3, .v false [.int .i64 q8]), (8, .v false [.bool (decide ((a0.length : Int) < (2 : Int)))])], [], [some ⟨53, sV, a0, .own⟩, some ⟨53, sV, [], .own⟩]⟩
noncomputable def f151_k7 (K : Nat) (a0 : List tV) (lr : LR (List tV)) : Ex → Fr → Option (List tV) :=
  contC (f151E K) 1 lr f151C [1, 1, 0, 1, 0] (finK (f151E K) Tryz.f151 [(.mv, (.list 53 sV))] [(.list 53 sV)] (a0, ()))
noncomputable def f151_k9 (K : Nat) (a0 : List tV) (F7 : Fr → Option (List tV)) (bq8 : Int) (lr : LR (List tV)) : Ex → Fr → Option (List tV) :=
  contC (f151E K) 1 lr (selC f151C [1, 1, 0, 1, 0, 0]) [1, 0, 0, 1, 0, 1, 0, 1, 0] (loopK 1 (f151_fr7 a0 bq8) F7 (f151_k7 K a0 lr))
noncomputable def f151_g (K : Nat) (a0 : List tV) (I7 : Int → Option (List tV)) : Option (List tV) :=
  (bif (decide ((a0.length : Int) < (2 : Int))) then some a0 else I7 (1 : Int))
noncomputable def f151G (K : Nat) (a0 : List tV) : Option (List tV) :=
  f151_g K a0 (fun d0 => f151_l7 K a0 K d0)
noncomputable def f151M (K : Nat) : Mdl := ⟨[(.mv, (.list 53 sV))], [(.list 53 sV)], fun x => f151G K x.1⟩
/-! impl.orbitOf -/
noncomputable def f80C : Code := codeOf Tryz.f80
noncomputable def f80E (K : Nat) : Env := ⟨[(110, f110M K), (111, f111M K), (150, f150M K), (151, f151M K)], tys, eqs, mts, K, [0, 1, 2, 3, 5, 6, 7, 9, 11, 12, 13, 14], [], []⟩
noncomputable def f80_b3 (K : Nat) (a0 : Int × Int × Int) (a1 : List tM) (a2 : Int × Int) (L3 : Int → (List tV) → Option (List tV)) (q4 : Int) (q5 : List tV) : Option (List tV) :=
  (bif (decide (q4 < (a1.length : Int))) then (bif (decide (0 ≤ q4) && decide (q4 < (a1.length : Int))) then (f150G K a0 ((((a1.getD ((0 : Int) + q4).toNat zM).1).1, (((a1.getD ((0 : Int) + q4).toNat zM).1).2).1, ((((a1.getD ((0 : Int) + q4).toNat zM).1).2).2)), ((a1.getD ((0 : Int) + q4).toNat zM).2)) a2).bind fun y6 => (bif (Nat.ble (q5.length + [y6].length) (lim 16)) then L3 (w (q4 + (1 : Int))) (q5 ++ [y6]) else none) else none) else (f110G K q5 (fun z7 z8 => f111G K z7 z8)).bind fun y9 => (f151G K y9).bind fun y10 => some y10)
noncomputable def f80_l3 (K : Nat) (a0 : Int × Int × Int) (a1 : List tM) (a2 : Int × Int) (n : Nat) (q4 : Int) (q5 : List tV) : Option (List tV) :=
  iter (X := Int × List tV) (fun L x => (fun L3 => f80_b3 K a0 a1 a2 L3 x.1 x.2) (fun v0 v1 => L (v0, v1))) n (q4, q5)
noncomputable def f80_fr3 (a0 : Int × Int × Int) (a1 : List tM) (a2 : Int × Int) (q4 : Int) (q5 : List tV) : Fr := ⟨29, [(0, .v true [.int .i64 a0.1, .int .i64 a0.2.1, .int .i64 a0.2.2]), (1, .v false [.row 0]), (2, .v true [.int .i64 a2.1, .int .i64 a2.2]), (3, .v false [.box 0 0]), (5, .v false [.box 1 0]), (6, .v false [.row 1]), (7, .v false [.row 2]), (11, .v false [.row 0]), (12, .v false [.int .i64 (a1.length : Int)]), (13, .v false [.int .i64 q4])], [some ⟨true, [.int .i64 a0.1, .int .i64 a0.2.1, .int .i64 a0.2.2]⟩, some ⟨true, [.int .i64 a2.1, .int .i64 a2.2]⟩], [some ⟨91, sM, a1, .ro⟩, some ⟨53, sV, [], .own⟩, some ⟨53, sV, q5, .own⟩]⟩
noncomputable def f80_k3 (K : Nat) (a0 : Int × Int × Int) (a1 : List tM) (a2 : Int × Int) (lr : LR (List tV)) : Ex → Fr → Option (List tV) :=
  contC (f80E K) 1 lr f80C [1, 1, 0, 1, 0] (finK (f80E K) Tryz.f80 [(.ro, sL), (.ro, (.list 91 sM)), (.ro, sV)] [(.list 53 sV)] (a0, a1, a2, ()))
noncomputable def f80_g (K : Nat) (a0 : Int × Int × Int) (a1 : List tM) (a2 : Int × Int) (I3 : Int → (List tV) → Option (List tV)) : Option (List tV) :=
  I3 (0 : Int) []
noncomputable def f80G (K : Nat) (a0 : Int × Int × Int) (a1 : List tM) (a2 : Int × Int) : Option (List tV) :=
  f80_g K a0 a1 a2 (fun d0 d1 => f80_l3 K a0 a1 a2 K d0 d1)
noncomputable def f80M (K : Nat) : Mdl := ⟨[(.ro, sL), (.ro, (.list 91 sM)), (.ro, sV)], [(.list 53 sV)], fun x => f80G K x.1 x.2.1 x.2.2.1⟩
/-! impl.orbitsOf -/
noncomputable def f72C : Code := codeOf Tryz.f72
noncomputable def f72E (K : Nat) : Env := ⟨[(80, f80M K), (82, f82M K), (108, f108M K), (140, f140M K), (143, f143M K)], tys, eqs, mts, K, [0, 1, 2, 4, 5, 6, 7, 9, 10, 12, 19, 20, 21, 22, 31, 36, 37, 38, 39], [], []⟩
noncomputable def f72_b22 (K : Nat) (a0 : Int × Int × Int) (a1 : List tM) (q17 : Int) (q18 : List (List tV)) (q19 : List Int) (y3 : List tV) (y20 : Int) (y21 : List tV) (L16 : Int → (List (List tV)) → (List Int) → Option ((List (List tV)) × List Int)) (L22 : Int → (List Int) → Option ((List (List tV)) × List Int)) (q23 : Int) (q24 : List Int) : Option ((List (List tV)) × List Int) :=
  (bif (decide (q23 < (y21.length : Int))) then (bif (decide (0 ≤ q23) && decide (q23 < (y21.length : Int))) then (f82G K a0 (y21.getD ((0 : Int) + q23).toNat ((0 : Int), (0 : Int)))).bind fun y25 => (bif (decide (0 ≤ y25) && decide (y25 < (q24.length : Int))) then L22 (w (q23 + (1 : Int))) (q24.set ((0 : Int) + y25).toNat (q18.length : Int)) else none) else none) else (bif (Nat.ble (q18.length + [y21].length) (lim 24)) then L16 (w (q17 + (1 : Int))) (q18 ++ [y21]) q24 else none))
noncomputable def f72_l22 (K : Nat) (a0 : Int × Int × Int) (a1 : List tM) (q17 : Int) (q18 : List (List tV)) (q19 : List Int) (y3 : List tV) (y20 : Int) (y21 : List tV) (L16 : Int → (List (List tV)) → (List Int) → Option ((List (List tV)) × List Int)) (n : Nat) (q23 : Int) (q24 : List Int) : Option ((List (List tV)) × List Int) :=
  iter (X := Int × List Int) (fun L x => (fun L22 => f72_b22 K a0 a1 q17 q18 q19 y3 y20 y21 L16 L22 x.1 x.2) (fun v0 v1 => L (v0, v1))) n (q23, q24)
noncomputable def f72_fr22 (a0 : Int × Int × Int) (a1 : List tM) (q17 : Int) (q18 : List (List tV)) (q19 : List Int) (y3 : List tV) (y20 : Int) (y21 : List tV) (q23 : Int) (q24 : List Int) : Fr := ⟨57, [(0, .v true [.int .i64 a0.1, .int .i64 a0.2.1, .int .i64 a0.2.2]), (1, .v false [.row 0]), (2, .v false [.box 0 0]), (4, .v false [.row 1]), (5, .v false [.row 2]), (6, .v false [.row 3]), (7, .v false [.row 4]), (9, .v false [.box 1 0]), (10, .v false [.row 5]), (19, .v false [.row 6]), (20, .v false [.int .i64 (y3.length : Int)]), (21, .v false [.int .i64 q17]), (22, .v false [.bool (decide (q17 < (y3.length : Int)))]), (31, .v false [.bool (decide ((q19.getD ((0 : Int) + y20).toNat (0 : Int)) ≥ (0 : Int)))]), (36, .v false [.row 5]), (37, .v false [.int .i64 (y21.length : Int)]), (38, .v false [.int .i64 q23])], [some ⟨true, [.int .i64 a0.1, .int .i64 a0.2.1, .int .i64 a0.2.2]⟩, some ⟨true, [.int .i64 ((y3.getD ((0 : Int) + q17).toNat ((0 : Int), (0 : Int))).1), .int .i64 ((y3.getD ((0 : Int) + q17).toNat ((0 : Int), (0 : Int))).2)]⟩], [some ⟨91, sM, a1, .ro⟩, some ⟨72, (.list 53 sV), [], .own⟩, some ⟨2, sI, [], .own⟩, some ⟨72, (.list 53 sV), q18, .own⟩, some ⟨2, sI, q24, .own⟩, some ⟨53, sV, y21, .own⟩, some ⟨53, sV, y3, .own⟩]⟩
noncomputable def f72_b16 (K : Nat) (a0 : Int × Int × Int) (a1 : List tM) (y3 : List tV) (I22 : Int → (List (List tV)) → (List Int) → Int → (List tV) → Int → (List Int) → Option ((List (List tV)) × List Int)) (L16 : Int → (List (List tV)) → (List Int) → Option ((List (List tV)) × List Int)) (q17 : Int) (q18 : List (List tV)) (q19 : List Int) : Option ((List (List tV)) × List Int) :=
  (bif (decide (q17 < (y3.length : Int))) then (bif (decide (0 ≤ q17) && decide (q17 < (y3.length : Int))) then (f82G K a0 (y3.getD ((0 : Int) + q17).toNat ((0 : Int), (0 : Int)))).bind fun y20 => (bif (decide (0 ≤ y20) && decide (y20 < (q19.length : Int))) then (bif (decide ((q19.getD ((0 : Int) + y20).toNat (0 : Int)) ≥ (0 : Int))) then L16 (w (q17 + (1 : Int))) q18 q19 else (f80G K a0 a1 (y3.getD ((0 : Int) + q17).toNat ((0 : Int), (0 : Int)))).bind fun y21 => I22 q17 q18 q19 y20 y21 (0 : Int) q19) else none) else none) else some (q18, q19))
noncomputable def f72_l16 (K : Nat) (a0 : Int × Int × Int) (a1 : List tM) (y3 : List tV) (n : Nat) (q17 : Int) (q18 : List (List tV)) (q19 : List Int) : Option ((List (List tV)) × List Int) :=
  iter (X := Int × List (List tV) × List Int) (fun L x => (fun L16 => f72_b16 K a0 a1 y3 (fun c0 c1 c2 c3 c4 d0 d1 => f72_l22 K a0 a1 c0 c1 c2 y3 c3 c4 L16 K d0 d1) L16 x.1 x.2.1 x.2.2) (fun v0 v1 v2 => L (v0, v1, v2))) n (q17, q18, q19)
noncomputable def f72_fr16 (a0 : Int × Int × Int) (a1 : List tM) (y3 : List tV) (q17 : Int) (q18 : List (List tV)) (q19 : List Int) : Fr := ⟨57, [(0, .v true [.int .i64 a0.1, .int .i64 a0.2.1, .int .i64 a0.2.2]), (1, .v false [.row 0]), (2, .v false [.box 0 0]), (4, .v false [.row 1]), (5, .v false [.row 2]), (6, .v false [.row 3]), (7, .v false [.row 4]), (19, .v false [.row 5]), (20, .v false [.int .i64 (y3.length : Int)]), (21, .v false [.int .i64 q17])], [some ⟨true, [.int .i64 a0.1, .int .i64 a0.2.1, .int .i64 a0.2.2]⟩], [some ⟨91, sM, a1, .ro⟩, some ⟨72, (.list 53 sV), [], .own⟩, some ⟨2, sI, [], .own⟩, some ⟨72, (.list 53 sV), q18, .own⟩, some ⟨2, sI, q19, .own⟩, some ⟨53, sV, y3, .own⟩]⟩
noncomputable def f72_k16 (K : Nat) (a0 : Int × Int × Int) (a1 : List tM) (lr : LR ((List (List tV)) × List Int)) : Ex → Fr → Option ((List (List tV)) × List Int) :=
  contC (f72E K) 1 lr f72C [1, 1, 0, 1, 0] (finK (f72E K) Tryz.f72 [(.ro, sL), (.ro, (.list 91 sM))] [(.list 72 (.list 53 sV)), (.list 2 sI)] (a0, a1, ()))
noncomputable def f72_k22 (K : Nat) (a0 : Int × Int × Int) (a1 : List tM) (y3 : List tV) (F16 : Fr → Option ((List (List tV)) × List Int)) (bq17 : Int) (bq18 : List (List tV)) (bq19 : List Int) (lr : LR ((List (List tV)) × List Int)) : Ex → Fr → Option ((List (List tV)) × List Int) :=
  contC (f72E K) 1 lr (selC f72C [1, 1, 0, 1, 0, 0]) [1, 1, 0, 0, 1, 1, 1, 0, 1, 0] (loopK 1 (f72_fr16 a0 a1 y3 bq17 bq18 bq19) F16 (f72_k16 K a0 a1 lr))
noncomputable def f72_g (K : Nat) (a0 : Int × Int × Int) (a1 : List tM) (I16 : (List tV) → Int → (List (List tV)) → (List Int) → Option ((List (List tV)) × List Int)) : Option ((List (List tV)) × List Int) :=
  (f140G K a0).bind fun y1 => (f143G K [(-1 : Int)] y1).bind fun y2 => (f108G K a0).bind fun y3 => I16 y3 (0 : Int) [] y2
noncomputable def f72G (K : Nat) (a0 : Int × Int × Int) (a1 : List tM) : Option ((List (List tV)) × List Int) :=
  f72_g K a0 a1 (fun c0 d0 d1 d2 => f72_l16 K a0 a1 c0 K d0 d1 d2)
noncomputable def f72M (K : Nat) : Mdl := ⟨[(.ro, sL), (.ro, (.list 91 sM))], [(.list 72 (.list 53 sV)), (.list 2 sI)], fun x => f72G K x.1 x.2.1⟩
/-! impl.SitesOf -/
noncomputable def f22E (K : Nat) : Env := ⟨[(70, f70M K), (71, f71M K), (72, f72M K), (73, f73M K)], tys, eqs, mts, K, [0, 1, 2, 3, 4, 5, 9], [], []⟩
noncomputable def f22G (K : Nat) (a0 : Int × tL × List Int) : Option ((List (List tV)) × Int) :=
  (f70G K a0).bind fun y1 => (bif (!y1) then some ([], (1 : Int)) else (f71G K a0).bind fun y2 => (f73G K y2).bind fun y3 => (f72G K y2.2.1 y3).bind fun y4 => some (y4.1, (0 : Int)))
noncomputable def f22M (K : Nat) : Mdl := ⟨[(.ro, (.cons sI (.cons sL (.list 2 sI))))], [(.list 72 (.list 53 sV)), sI], fun x => f22G K x.1⟩
/-! laws.eqVec -/
noncomputable def f112E (K : Nat) : Env := ⟨[], tys, eqs, mts, K, [0, 1, 2, 3, 4, 9, 14], [], []⟩
noncomputable def f112G (K : Nat) (a0 : Int × Int) (a1 : Int × Int) : Option Bool :=
  (bif (a0.1 != a1.1) then some false else (bif (a0.2 != a1.2) then some false else some true))
noncomputable def f112M (K : Nat) : Mdl := ⟨[(.ro, sV), (.ro, sV)], [.bool], fun x => f112G K x.1 x.2.1⟩
/-! laws.eqVecS -/
noncomputable def f47C : Code := codeOf Tryz.f47
noncomputable def f47E (K : Nat) : Env := ⟨[(112, f112M K)], tys, eqs, mts, K, [0, 1, 4, 5, 10, 14, 26], [], []⟩
noncomputable def f47_b3 (K : Nat) (a0 : List tV) (a1 : List tV) (L3 : Int → Option Bool) (q4 : Int) : Option Bool :=
  (bif (decide (q4 < (a0.length : Int))) then (bif (decide (0 ≤ q4) && decide (q4 < (a0.length : Int))) then (bif (decide (0 ≤ q4) && decide (q4 < (a1.length : Int))) then (f112G K (a0.getD ((0 : Int) + q4).toNat ((0 : Int), (0 : Int))) (a1.getD ((0 : Int) + q4).toNat ((0 : Int), (0 : Int)))).bind fun y5 => (bif (!y5) then some false else L3 (w (q4 + (1 : Int)))) else none) else none) else some true)
noncomputable def f47_l3 (K : Nat) (a0 : List tV) (a1 : List tV) (n : Nat) (q4 : Int) : Option Bool :=
  iter (X := Int) (fun L x => (fun L3 => f47_b3 K a0 a1 L3 x) (fun v0 => L v0)) n q4
noncomputable def f47_fr3 (a0 : List tV) (a1 : List tV) (q4 : Int) : Fr := ⟨27, [(0, .v false [.row 0]), (1, .v false [.row 1]), (4, .v false [.bool false]), (5, .v false [.int .i64 q4]), (10, .v false [.bool ((a0.length : Int) != (a1.length : Int))])], [], [some ⟨53, sV, a0, .ro⟩, some ⟨53, sV, a1, .ro⟩]⟩
noncomputable def f47_k3 (K : Nat) (a0 : List tV) (a1 : List tV) (lr : LR Bool) : Ex → Fr → Option Bool :=
  contC (f47E K) 2 lr f47C [1, 1, 0, 1, 0] (finK (f47E K) Tryz.f47 [(.ro, (.list 53 sV)), (.ro, (.list 53 sV))] [.bool] (a0, a1, ()))
noncomputable def f47_g (K : Nat) (a0 : List tV) (a1 : List tV) (I3 : Int → Option Bool) : Option Bool :=
  (bif ((a0.length : Int) != (a1.length : Int)) then some false else I3 (0 : Int))
noncomputable def f47G (K : Nat) (a0 : List tV) (a1 : List tV) : Option Bool :=
  f47_g K a0 a1 (fun d0 => f47_l3 K a0 a1 K d0)
noncomputable def f47M (K : Nat) : Mdl := ⟨[(.ro, (.list 53 sV)), (.ro, (.list 53 sV))], [.bool], fun x => f47G K x.1 x.2.1⟩
/-! laws.eqVecSS -/
noncomputable def f23C : Code := codeOf Tryz.f23
noncomputable def f23E (K : Nat) : Env := ⟨[(47, f47M K)], tys, eqs, mts, K, [0, 1, 4, 5, 10, 14, 26], [], []⟩
noncomputable def f23_b3 (K : Nat) (a0 : List (List tV)) (a1 : List (List tV)) (L3 : Int → Option Bool) (q4 : Int) : Option Bool :=
  (bif (decide (q4 < (a0.length : Int))) then (bif (decide (0 ≤ q4) && decide (q4 < (a0.length : Int))) then (bif (decide (0 ≤ q4) && decide (q4 < (a1.length : Int))) then (f47G K (a0.getD ((0 : Int) + q4).toNat []) (a1.getD ((0 : Int) + q4).toNat [])).bind fun y5 => (bif (!y5) then some false else L3 (w (q4 + (1 : Int)))) else none) else none) else some true)
noncomputable def f23_l3 (K : Nat) (a0 : List (List tV)) (a1 : List (List tV)) (n : Nat) (q4 : Int) : Option Bool :=
  iter (X := Int) (fun L x => (fun L3 => f23_b3 K a0 a1 L3 x) (fun v0 => L v0)) n q4
noncomputable def f23_fr3 (a0 : List (List tV)) (a1 : List (List tV)) (q4 : Int) : Fr := ⟨27, [(0, .v false [.row 0]), (1, .v false [.row 1]), (4, .v false [.bool false]), (5, .v false [.int .i64 q4]), (10, .v false [.bool ((a0.length : Int) != (a1.length : Int))])], [], [some ⟨72, (.list 53 sV), a0, .ro⟩, some ⟨72, (.list 53 sV), a1, .ro⟩]⟩
noncomputable def f23_k3 (K : Nat) (a0 : List (List tV)) (a1 : List (List tV)) (lr : LR Bool) : Ex → Fr → Option Bool :=
  contC (f23E K) 2 lr f23C [1, 1, 0, 1, 0] (finK (f23E K) Tryz.f23 [(.ro, (.list 72 (.list 53 sV))), (.ro, (.list 72 (.list 53 sV)))] [.bool] (a0, a1, ()))
noncomputable def f23_g (K : Nat) (a0 : List (List tV)) (a1 : List (List tV)) (I3 : Int → Option Bool) : Option Bool :=
  (bif ((a0.length : Int) != (a1.length : Int)) then some false else I3 (0 : Int))
noncomputable def f23G (K : Nat) (a0 : List (List tV)) (a1 : List (List tV)) : Option Bool :=
  f23_g K a0 a1 (fun d0 => f23_l3 K a0 a1 K d0)
noncomputable def f23M (K : Nat) : Mdl := ⟨[(.ro, (.list 72 (.list 53 sV))), (.ro, (.list 72 (.list 53 sV)))], [.bool], fun x => f23G K x.1 x.2.1⟩
/-! laws.eqLattice -/
noncomputable def f74E (K : Nat) : Env := ⟨[], tys, eqs, mts, K, [0, 1, 2, 3, 4, 9, 14, 19], [], []⟩
noncomputable def f74G (K : Nat) (a0 : Int × Int × Int) (a1 : Int × Int × Int) : Option Bool :=
  (bif (a0.1 != a1.1) then some false else (bif (a0.2.1 != a1.2.1) then some false else (bif (a0.2.2 != a1.2.2) then some false else some true)))
noncomputable def f74M (K : Nat) : Mdl := ⟨[(.ro, sL), (.ro, sL)], [.bool], fun x => f74G K x.1 x.2.1⟩
/-! laws.eqInt64S -/
noncomputable def f41C : Code := codeOf Tryz.f41
noncomputable def f41E (K : Nat) : Env := ⟨[], tys, eqs, mts, K, [0, 1, 4, 5, 10, 14, 25], [], []⟩
noncomputable def f41_b2 (K : Nat) (a0 : List Int) (a1 : List Int) (L2 : Int → Option Bool) (q3 : Int) : Option Bool :=
  (bif (decide (q3 < (a0.length : Int))) then (bif (decide (0 ≤ q3) && decide (q3 < (a0.length : Int))) then (bif (decide (0 ≤ q3) && decide (q3 < (a1.length : Int))) then (bif ((a0.getD ((0 : Int) + q3).toNat (0 : Int)) != (a1.getD ((0 : Int) + q3).toNat (0 : Int))) then some false else L2 (w (q3 + (1 : Int)))) else none) else none) else some true)
noncomputable def f41_l2 (K : Nat) (a0 : List Int) (a1 : List Int) (n : Nat) (q3 : Int) : Option Bool :=
  iter (X := Int) (fun L x => (fun L2 => f41_b2 K a0 a1 L2 x) (fun v0 => L v0)) n q3
noncomputable def f41_fr2 (a0 : List Int) (a1 : List Int) (q3 : Int) : Fr := ⟨26, [(0, .v false [.row 0]), (1, .v false [.row 1]), (4, .v false [.bool false]), (5, .v false [.int .i64 q3]), (10, .v false [.bool ((a0.length : Int) != (a1.length : Int))])], [], [some ⟨2, sI, a0, .ro⟩, some ⟨2, sI, a1, .ro⟩]⟩
noncomputable def f41_k2 (K : Nat) (a0 : List Int) (a1 : List Int) (lr : LR Bool) : Ex → Fr → Option Bool :=
  contC (f41E K) 2 lr f41C [1, 1, 0, 1, 0] (finK (f41E K) Tryz.f41 [(.ro, (.list 2 sI)), (.ro, (.list 2 sI))] [.bool] (a0, a1, ()))
noncomputable def f41_g (K : Nat) (a0 : List Int) (a1 : List Int) (I2 : Int → Option Bool) : Option Bool :=
  (bif ((a0.length : Int) != (a1.length : Int)) then some false else I2 (0 : Int))
noncomputable def f41G (K : Nat) (a0 : List Int) (a1 : List Int) : Option Bool :=
  f41_g K a0 a1 (fun d0 => f41_l2 K a0 a1 K d0)
noncomputable def f41M (K : Nat) : Mdl := ⟨[(.ro, (.list 2 sI)), (.ro, (.list 2 sI))], [.bool], fun x => f41G K x.1 x.2.1⟩
/-! laws.eqPattern -/
noncomputable def f24E (K : Nat) : Env := ⟨[(41, f41M K), (74, f74M K)], tys, eqs, mts, K, [0, 1, 2, 3, 4, 9, 15, 21], [], []⟩
noncomputable def f24G (K : Nat) (a0 : Int × tL × List Int) (a1 : Int × tL × List Int) : Option Bool :=
  (bif (a0.1 != a1.1) then some false else (f74G K a0.2.1 a1.2.1).bind fun y1 => (bif (!y1) then some false else (f41G K a0.2.2 a1.2.2).bind fun y2 => (bif (!y2) then some false else some true)))
noncomputable def f24M (K : Nat) : Mdl := ⟨[(.ro, (.cons sI (.cons sL (.list 2 sI)))), (.ro, (.cons sI (.cons sL (.list 2 sI))))], [.bool], fun x => f24G K x.1 x.2.1⟩
/-! laws.markInt64S -/
noncomputable def f42C : Code := codeOf Tryz.f42
noncomputable def f42E (K : Nat) : Env := ⟨[], tys, eqs, mts, K, [0, 1, 4, 5, 9], [], []⟩
noncomputable def f42_b2 (K : Nat) (L2 : Int → Int → (List Int) → Option ((List Int) × Int)) (q3 : Int) (q4 : Int) (q5 : List Int) : Option ((List Int) × Int) :=
  (bif (decide (q4 < (q5.length : Int))) then (bif (decide (0 ≤ q4) && decide (q4 < (q5.length : Int))) then L2 (w (q3 + (1 : Int))) (w (q4 + (1 : Int))) (q5.set ((0 : Int) + q4).toNat q3) else none) else some (q5, q3))
noncomputable def f42_l2 (K : Nat) (n : Nat) (q3 : Int) (q4 : Int) (q5 : List Int) : Option ((List Int) × Int) :=
  iter (X := Int × Int × List Int) (fun L x => (fun L2 => f42_b2 K L2 x.1 x.2.1 x.2.2) (fun v0 v1 v2 => L (v0, v1, v2))) n (q3, q4, q5)
noncomputable def f42_fr2 (q3 : Int) (q4 : Int) (q5 : List Int) : Fr := ⟨19, [(0, .v false [.row 0]), (1, .v false [.int .i64 q3]), (4, .v false [.int .i64 (0 : Int)]), (5, .v false [.int .i64 q4])], [], [some ⟨2, sI, q5, .io⟩]⟩
noncomputable def f42_k2 (K : Nat) (a0 : List Int) (a1 : Int) (lr : LR ((List Int) × Int)) : Ex → Fr → Option ((List Int) × Int) :=
  contC (f42E K) 1 lr f42C [1, 0, 1, 0] (finK (f42E K) Tryz.f42 [(.io, (.list 2 sI)), (.ro, sI)] [sI] (a0, a1, ()))
noncomputable def f42_g (K : Nat) (a0 : List Int) (a1 : Int) (I2 : Int → Int → (List Int) → Option ((List Int) × Int)) : Option ((List Int) × Int) :=
  I2 a1 (0 : Int) a0
noncomputable def f42G (K : Nat) (a0 : List Int) (a1 : Int) : Option ((List Int) × Int) :=
  f42_g K a0 a1 (fun d0 d1 d2 => f42_l2 K K d0 d1 d2)
noncomputable def f42M (K : Nat) : Mdl := ⟨[(.io, (.list 2 sI)), (.ro, sI)], [sI], fun x => f42G K x.1 x.2.1⟩
/-! laws.markPattern -/
noncomputable def f25E (K : Nat) : Env := ⟨[(42, f42M K)], tys, eqs, mts, K, [0, 1, 2, 4], [], []⟩
noncomputable def f25G (K : Nat) (a0 : Int × tL × List Int) (a1 : Int) : Option ((Int × tL × List Int) × Int) :=
  (f42G K a0.2.2 a1).bind fun y1 => some ((a0.1, a0.2.1, y1.1), y1.2)
noncomputable def f25M (K : Nat) : Mdl := ⟨[(.io, (.cons sI (.cons sL (.list 2 sI)))), (.ro, sI)], [sI], fun x => f25G K x.1 x.2.1⟩
/-! laws.markVecS -/
noncomputable def f48C : Code := codeOf Tryz.f48
noncomputable def f48E (K : Nat) : Env := ⟨[], tys, eqs, mts, K, [0, 1, 4, 5, 9], [], []⟩
noncomputable def f48_b2 (K : Nat) (L2 : Int → Int → (List tV) → Option ((List tV) × Int)) (q3 : Int) (q4 : Int) (q5 : List tV) : Option ((List tV) × Int) :=
  (bif (decide (q4 < (q5.length : Int))) then (bif (decide (0 ≤ q4) && decide (q4 < (q5.length : Int))) then (bif (decide (0 ≤ q4) && decide (q4 < ((q5.set ((0 : Int) + q4).toNat (q3, (q5.getD ((0 : Int) + q4).toNat ((0 : Int), (0 : Int))).2)).length : Int))) then L2 (w ((w (q3 + (1 : Int))) + (1 : Int))) (w (q4 + (1 : Int))) ((q5.set ((0 : Int) + q4).toNat (q3, (q5.getD ((0 : Int) + q4).toNat ((0 : Int), (0 : Int))).2)).set ((0 : Int) + q4).toNat (((q5.set ((0 : Int) + q4).toNat (q3, (q5.getD ((0 : Int) + q4).toNat ((0 : Int), (0 : Int))).2)).getD ((0 : Int) + q4).toNat ((0 : Int), (0 : Int))).1, (w (q3 + (1 : Int))))) else none) else none) else some (q5, q3))
noncomputable def f48_l2 (K : Nat) (n : Nat) (q3 : Int) (q4 : Int) (q5 : List tV) : Option ((List tV) × Int) :=
  iter (X := Int × Int × List tV) (fun L x => (fun L2 => f48_b2 K L2 x.1 x.2.1 x.2.2) (fun v0 v1 v2 => L (v0, v1, v2))) n (q3, q4, q5)
noncomputable def f48_fr2 (q3 : Int) (q4 : Int) (q5 : List tV) : Fr := ⟨27, [(0, .v false [.row 0]), (1, .v false [.int .i64 q3]), (4, .v false [.int .i64 (0 : Int)]), (5, .v false [.int .i64 q4])], [], [some ⟨53, sV, q5, .io⟩]⟩
noncomputable def f48_k2 (K : Nat) (a0 : List tV) (a1 : Int) (lr : LR ((List tV) × Int)) : Ex → Fr → Option ((List tV) × Int) :=
  contC (f48E K) 1 lr f48C [1, 0, 1, 0] (finK (f48E K) Tryz.f48 [(.io, (.list 53 sV)), (.ro, sI)] [sI] (a0, a1, ()))
noncomputable def f48_g (K : Nat) (a0 : List tV) (a1 : Int) (I2 : Int → Int → (List tV) → Option ((List tV) × Int)) : Option ((List tV) × Int) :=
  I2 a1 (0 : Int) a0
noncomputable def f48G (K : Nat) (a0 : List tV) (a1 : Int) : Option ((List tV) × Int) :=
  f48_g K a0 a1 (fun d0 d1 d2 => f48_l2 K K d0 d1 d2)
noncomputable def f48M (K : Nat) : Mdl := ⟨[(.io, (.list 53 sV)), (.ro, sI)], [sI], fun x => f48G K x.1 x.2.1⟩
/-! laws.markVecSS -/
noncomputable def f26C : Code := codeOf Tryz.f26
noncomputable def f26E (K : Nat) : Env := ⟨[(48, f48M K)], tys, eqs, mts, K, [0, 1, 4, 5, 9], [], []⟩
noncomputable def f26_b3 (K : Nat) (L3 : Int → Int → (List (List tV)) → Option ((List (List tV)) × Int)) (q4 : Int) (q5 : Int) (q6 : List (List tV)) : Option ((List (List tV)) × Int) :=
  (bif (decide (q5 < (q6.length : Int))) then (bif (decide (0 ≤ q5) && decide (q5 < (q6.length : Int))) then (f48G K (q6.getD ((0 : Int) + q5).toNat []) q4).bind fun y7 => L3 y7.2 (w (q5 + (1 : Int))) (q6.set ((0 : Int) + q5).toNat y7.1) else none) else some (q6, q4))
noncomputable def f26_l3 (K : Nat) (n : Nat) (q4 : Int) (q5 : Int) (q6 : List (List tV)) : Option ((List (List tV)) × Int) :=
  iter (X := Int × Int × List (List tV)) (fun L x => (fun L3 => f26_b3 K L3 x.1 x.2.1 x.2.2) (fun v0 v1 v2 => L (v0, v1, v2))) n (q4, q5, q6)
noncomputable def f26_fr3 (q4 : Int) (q5 : Int) (q6 : List (List tV)) : Fr := ⟨19, [(0, .v false [.row 0]), (1, .v false [.int .i64 q4]), (4, .v false [.int .i64 (0 : Int)]), (5, .v false [.int .i64 q5])], [], [some ⟨72, (.list 53 sV), q6, .io⟩]⟩
noncomputable def f26_k3 (K : Nat) (a0 : List (List tV)) (a1 : Int) (lr : LR ((List (List tV)) × Int)) : Ex → Fr → Option ((List (List tV)) × Int) :=
  contC (f26E K) 1 lr f26C [1, 0, 1, 0] (finK (f26E K) Tryz.f26 [(.io, (.list 72 (.list 53 sV))), (.ro, sI)] [sI] (a0, a1, ()))
noncomputable def f26_g (K : Nat) (a0 : List (List tV)) (a1 : Int) (I3 : Int → Int → (List (List tV)) → Option ((List (List tV)) × Int)) : Option ((List (List tV)) × Int) :=
  I3 a1 (0 : Int) a0
noncomputable def f26G (K : Nat) (a0 : List (List tV)) (a1 : Int) : Option ((List (List tV)) × Int) :=
  f26_g K a0 a1 (fun d0 d1 d2 => f26_l3 K K d0 d1 d2)
noncomputable def f26M (K : Nat) : Mdl := ⟨[(.io, (.list 72 (.list 53 sV))), (.ro, sI)], [sI], fun x => f26G K x.1 x.2.1⟩
/-! laws.heldVecS -/
noncomputable def f49C : Code := codeOf Tryz.f49
noncomputable def f49E (K : Nat) : Env := ⟨[], tys, eqs, mts, K, [0, 1, 4, 5, 9, 18, 27], [], []⟩
noncomputable def f49_b2 (K : Nat) (a0 : List tV) (L2 : Int → Int → Option Int) (q3 : Int) (q4 : Int) : Option Int :=
  (bif (decide (q4 < (a0.length : Int))) then (bif (decide (0 ≤ q4) && decide (q4 < (a0.length : Int))) then (bif ((a0.getD ((0 : Int) + q4).toNat ((0 : Int), (0 : Int))).1 != q3) then some (-1 : Int) else (bif (decide (0 ≤ q4) && decide (q4 < (a0.length : Int))) then (bif ((a0.getD ((0 : Int) + q4).toNat ((0 : Int), (0 : Int))).2 != (w (q3 + (1 : Int)))) then some (-1 : Int) else L2 (w ((w (q3 + (1 : Int))) + (1 : Int))) (w (q4 + (1 : Int)))) else none)) else none) else some q3)
noncomputable def f49_l2 (K : Nat) (a0 : List tV) (n : Nat) (q3 : Int) (q4 : Int) : Option Int :=
  iter (X := Int × Int) (fun L x => (fun L2 => f49_b2 K a0 L2 x.1 x.2) (fun v0 v1 => L (v0, v1))) n (q3, q4)
noncomputable def f49_fr2 (a0 : List tV) (q3 : Int) (q4 : Int) : Fr := ⟨31, [(0, .v false [.row 0]), (1, .v false [.int .i64 q3]), (4, .v false [.int .i64 (0 : Int)]), (5, .v false [.int .i64 q4])], [], [some ⟨53, sV, a0, .ro⟩]⟩
noncomputable def f49_k2 (K : Nat) (a0 : List tV) (a1 : Int) (lr : LR Int) : Ex → Fr → Option Int :=
  contC (f49E K) 1 lr f49C [1, 0, 1, 0] (finK (f49E K) Tryz.f49 [(.ro, (.list 53 sV)), (.ro, sI)] [sI] (a0, a1, ()))
noncomputable def f49_g (K : Nat) (a0 : List tV) (a1 : Int) (I2 : Int → Int → Option Int) : Option Int :=
  I2 a1 (0 : Int)
noncomputable def f49G (K : Nat) (a0 : List tV) (a1 : Int) : Option Int :=
  f49_g K a0 a1 (fun d0 d1 => f49_l2 K a0 K d0 d1)
noncomputable def f49M (K : Nat) : Mdl := ⟨[(.ro, (.list 53 sV)), (.ro, sI)], [sI], fun x => f49G K x.1 x.2.1⟩
/-! laws.heldVecSS -/
noncomputable def f27C : Code := codeOf Tryz.f27
noncomputable def f27E (K : Nat) : Env := ⟨[(49, f49M K)], tys, eqs, mts, K, [0, 1, 4, 5, 9, 19], [], []⟩
noncomputable def f27_b3 (K : Nat) (a0 : List (List tV)) (L3 : Int → Int → Option Int) (q4 : Int) (q5 : Int) : Option Int :=
  (bif (decide (q5 < (a0.length : Int))) then (bif (decide (0 ≤ q5) && decide (q5 < (a0.length : Int))) then (f49G K (a0.getD ((0 : Int) + q5).toNat []) q4).bind fun y6 => (bif (decide (y6 < (0 : Int))) then some (-1 : Int) else L3 y6 (w (q5 + (1 : Int)))) else none) else some q4)
noncomputable def f27_l3 (K : Nat) (a0 : List (List tV)) (n : Nat) (q4 : Int) (q5 : Int) : Option Int :=
  iter (X := Int × Int) (fun L x => (fun L3 => f27_b3 K a0 L3 x.1 x.2) (fun v0 v1 => L (v0, v1))) n (q4, q5)
noncomputable def f27_fr3 (a0 : List (List tV)) (q4 : Int) (q5 : Int) : Fr := ⟨21, [(0, .v false [.row 0]), (1, .v false [.int .i64 q4]), (4, .v false [.int .i64 (0 : Int)]), (5, .v false [.int .i64 q5])], [], [some ⟨72, (.list 53 sV), a0, .ro⟩]⟩
noncomputable def f27_k3 (K : Nat) (a0 : List (List tV)) (a1 : Int) (lr : LR Int) : Ex → Fr → Option Int :=
  contC (f27E K) 1 lr f27C [1, 0, 1, 0] (finK (f27E K) Tryz.f27 [(.ro, (.list 72 (.list 53 sV))), (.ro, sI)] [sI] (a0, a1, ()))
noncomputable def f27_g (K : Nat) (a0 : List (List tV)) (a1 : Int) (I3 : Int → Int → Option Int) : Option Int :=
  I3 a1 (0 : Int)
noncomputable def f27G (K : Nat) (a0 : List (List tV)) (a1 : Int) : Option Int :=
  f27_g K a0 a1 (fun d0 d1 => f27_l3 K a0 K d0 d1)
noncomputable def f27M (K : Nat) : Mdl := ⟨[(.ro, (.list 72 (.list 53 sV))), (.ro, sI)], [sI], fun x => f27G K x.1 x.2.1⟩
/-! laws.FnExactSitesOf -/
noncomputable def f4E (K : Nat) : Env := ⟨[(19, f19M K), (20, f20M K), (21, f21M K), (22, f22M K), (23, f23M K), (24, f24M K), (25, f25M K), (26, f26M K), (27, f27M K)], tys, eqs, mts, K, [0, 1, 2, 3, 4, 5, 6, 7, 8, 9, 10, 11, 12, 13, 18, 40, 45, 61, 69, 72, 87, 92, 95], [], []⟩
noncomputable def f4G (K : Nat) (a0 : Int × tL × List Int) : Option Bool :=
  (f19G K a0 (1048576 : Int)).bind fun y1 => (bif (decide (y1 < (0 : Int))) then some true else (f21G K a0).bind fun y2 => (f20G K y2).bind fun y3 => (f21G K a0).bind fun y4 => (f22G K y4).bind fun y5 => (f23G K y5.1 y3.1).bind fun y6 => (bif ((!(!(!y6))) || true) then (bif ((!(!(!y6))) || true) then (bif ((!(!(!y6))) || true) then (bif (bif (!y6) then true else (y5.2 != y3.2)) then some false else (f21G K a0).bind fun y7 => (f24G K y4 y7).bind fun y8 => (bif (!y8) then some false else (f25G K y4 (1 : Int)).bind fun y9 => (bif ((!(!(decide (y9.2 < (0 : Int))))) || true) then (bif ((!(!(decide (y9.2 < (0 : Int))))) || true) then ((bif (!(decide (y9.2 < (0 : Int)))) then f23G K y5.1 y3.1 else some false)).bind fun y10 => (bif ((!(!(decide (y9.2 < (0 : Int))))) || true) then (bif ((!(!(bif (decide (y9.2 < (0 : Int))) then true else (!y10)))) || true) then (bif ((!(!(bif (decide (y9.2 < (0 : Int))) then true else (!y10)))) || true) then (bif ((!(!(bif (decide (y9.2 < (0 : Int))) then true else (!y10)))) || true) then (bif (bif (bif (decide (y9.2 < (0 : Int))) then true else (!y10)) then true else (y5.2 != y3.2)) then some false else (f26G K y5.1 (1 : Int)).bind fun y11 => (f27G K y11.1 (1 : Int)).bind fun y12 => (bif (decide (y12 < (0 : Int))) then some false else (bif (y12 != y11.2) then some false else (f21G K a0).bind fun y13 => (f22G K y13).bind fun y14 => (f23G K y14.1 y3.1).bind fun y15 => (bif ((!(!(!y15))) || true) then (bif ((!(!(!y15))) || true) then (bif ((!(!(!y15))) || true) then (bif (bif (!y15) then true else (y14.2 != y3.2)) then some false else (f27G K y11.1 (1 : Int)).bind fun y16 => (bif (decide (y16 < (0 : Int))) then some false else (bif (y16 != y11.2) then some false else some true))) else none) else none) else none)))) else none) else none) else none) else none) else none) else none))) else none) else none) else none))
noncomputable def f4M (K : Nat) : Mdl := ⟨[(.ro, (.cons sI (.cons sL (.list 2 sI))))], [.bool], fun x => f4G K x.1⟩
end Go.Proofs.YtmnciknpeefkfaaGreat.X
