/- Functions of the program as plain Lean functions, and that the program does what they say. Printed by gen.py. -/
import Derived.Test.YtbgdojniimdihaaXLoop
import Derived.Test.YtbgdojniimdihaaProg
namespace Go.Proofs.Ytbgdojniimdihaa.X
open Go
set_option maxRecDepth 100000
set_option linter.unusedVariables false
noncomputable def tys : List (Nat × Ty) := [(2, .sc (.int .i64)), (3, .sc (.int .i64)), (4, .sc .bool), (23, .st (.cons (.int .i64) (.cons (.int .i64) (.int .i64))) [(0, 1), (1, 1), (2, 1)]), (24, .sl 2 (.int .i64) 8), (26, .st (.cons (.int .i64) (.cons (.cons (.int .i64) (.cons (.int .i64) (.int .i64))) (.list 2 (.int .i64)))) [(0, 1), (1, 3), (4, 1)]), (34, .st (.cons (.int .i64) (.cons (.int .i64) (.int .i64))) [(0, 1), (1, 1), (2, 1)]), (36, .st (.cons (.int .i64) (.cons (.cons (.int .i64) (.cons (.int .i64) (.int .i64))) (.list 2 (.int .i64)))) [(0, 1), (1, 3), (4, 1)]), (49, .sl 88 (.cons (.cons (.int .i64) (.cons (.int .i64) (.cons (.int .i64) (.int .i64)))) (.cons (.int .i64) (.int .i64))) 48), (51, .sl 60 (.cons (.int .i64) (.int .i64)) 16), (57, .st (.cons (.int .i64) (.int .i64)) [(0, 1), (1, 1)]), (60, .st (.cons (.int .i64) (.int .i64)) [(0, 1), (1, 1)]), (86, .st (.cons (.int .i64) (.cons (.int .i64) (.cons (.int .i64) (.int .i64)))) [(0, 1), (1, 1), (2, 1), (3, 1)]), (88, .st (.cons (.cons (.int .i64) (.cons (.int .i64) (.cons (.int .i64) (.int .i64)))) (.cons (.int .i64) (.int .i64))) [(0, 4), (4, 2)]), (129, .sl 86 (.cons (.int .i64) (.cons (.int .i64) (.cons (.int .i64) (.int .i64)))) 32)]
noncomputable def eqs : List (Nat × List Sh) := [(23, [(.int .i64), (.int .i64), (.int .i64)]), (60, [(.int .i64), (.int .i64)]), (86, [(.int .i64), (.int .i64), (.int .i64), (.int .i64)])]
theorem tab_ok : tabB Try.prog tys eqs = true := by kernel_rfl
theorem mixed_ok : Try.prog.follows .mixedOrders = true := by kernel_rfl
/-! laws.szInt64S -/
noncomputable def f48E (K : Nat) : Env := ⟨[], tys, eqs, K, [0, 1, 4, 10]⟩
noncomputable def f48G (K : Nat) (a0 : List Int) (a1 : Int) : Option Int :=
  (bif (decide ((w (a1 - (a0.length : Int))) < (0 : Int))) then some (-1 : Int) else some (w (a1 - (a0.length : Int))))
noncomputable def f48M (K : Nat) : Mdl := ⟨[(.ro, (.list 2 (.int .i64))), (.ro, (.int .i64))], [(.int .i64)], fun x => f48G K x.1 x.2.1⟩
/-! laws.szPattern -/
noncomputable def f14E (K : Nat) : Env := ⟨[(48, f48M K)], tys, eqs, K, [0, 1, 2, 4, 10]⟩
noncomputable def f14G (K : Nat) (a0 : Int × (Int × Int × Int) × List Int) (a1 : Int) : Option Int :=
  (f48G K a0.2.2 a1).bind fun y1 => (bif (decide (y1 < (0 : Int))) then some (-1 : Int) else some y1)
noncomputable def f14M (K : Nat) : Mdl := ⟨[(.ro, (.cons (.int .i64) (.cons (.cons (.int .i64) (.cons (.int .i64) (.int .i64))) (.list 2 (.int .i64))))), (.ro, (.int .i64))], [(.int .i64)], fun x => f14G K x.1 x.2.1⟩
/-! laws.toLattice -/
noncomputable def f22E (K : Nat) : Env := ⟨[], tys, eqs, K, [0, 1, 2, 3]⟩
noncomputable def f22G (K : Nat) (a0 : Int × Int × Int) : Option (Int × Int × Int) :=
  some a0
noncomputable def f22M (K : Nat) : Mdl := ⟨[(.ro, (.cons (.int .i64) (.cons (.int .i64) (.int .i64))))], [(.cons (.int .i64) (.cons (.int .i64) (.int .i64)))], fun x => f22G K x.1⟩
/-! laws.toInt64S -/
noncomputable def f53C : Code := codeOf Try.f53
noncomputable def f53E (K : Nat) : Env := ⟨[], tys, eqs, K, [0, 2, 3, 4, 11]⟩
noncomputable def f53_b2 (K : Nat) (a0 : List Int) (L2 : Int → (List Int) → Option (List Int)) (q3 : Int) (q4 : List Int) : Option (List Int) :=
  (bif (decide (q3 < (a0.length : Int))) then (bif (decide (0 ≤ q3) && decide (q3 < (a0.length : Int))) then (bif (decide (0 ≤ q3) && decide (q3 < (q4.length : Int))) then L2 (w (q3 + (1 : Int))) (q4.set ((0 : Int) + q3).toNat (a0.getD ((0 : Int) + q3).toNat (0 : Int))) else none) else none) else some q4)
noncomputable def f53_l2 (K : Nat) (a0 : List Int) (n : Nat) (q3 : Int) (q4 : List Int) : Option (List Int) :=
  iter (X := Int × List Int) (fun L x => (fun L2 => f53_b2 K a0 L2 x.1 x.2) (fun v0 v1 => L (v0, v1))) n (q3, q4)
noncomputable def f53_fr2 (a0 : List Int) (q3 : Int) (q4 : List Int) : Fr := ⟨22, [(0, .v false [.row 0]), (2, .v false [.row 1]), (3, .v false [.row 2]), (4, .v false [.int .i64 q3])], [], [some ⟨2, (.int .i64), a0, .ro⟩, some ⟨2, (.int .i64), [], .own⟩, some ⟨2, (.int .i64), q4, .own⟩]⟩
noncomputable def f53_k2 (K : Nat) (a0 : List Int) (lr : LR (List Int)) : Ex → Fr → Option (List Int) :=
  contC (f53E K) 1 lr f53C [1, 1, 0, 1, 0] (finK (f53E K) Try.f53 [(.ro, (.list 2 (.int .i64)))] [(.list 2 (.int .i64))] (a0, ()))
noncomputable def f53_g (K : Nat) (a0 : List Int) (I2 : Int → (List Int) → Option (List Int)) : Option (List Int) :=
  (bif (decide (0 ≤ (a0.length : Int)) && Nat.ble (a0.length : Int).toNat (lim 8) && ((a0.length : Int) == (a0.length : Int))) then I2 (0 : Int) (List.replicate (a0.length : Int).toNat (0 : Int)) else none)
noncomputable def f53G (K : Nat) (a0 : List Int) : Option (List Int) :=
  f53_g K a0 (fun d0 d1 => f53_l2 K a0 K d0 d1)
noncomputable def f53M (K : Nat) : Mdl := ⟨[(.ro, (.list 2 (.int .i64)))], [(.list 2 (.int .i64))], fun x => f53G K x.1⟩
/-! laws.toPattern -/
noncomputable def f16E (K : Nat) : Env := ⟨[(22, f22M K), (53, f53M K)], tys, eqs, K, [0, 1, 2, 3]⟩
noncomputable def f16G (K : Nat) (a0 : Int × (Int × Int × Int) × List Int) : Option (Int × (Int × Int × Int) × List Int) :=
  (f22G K a0.2.1).bind fun y1 => (f53G K a0.2.2).bind fun y2 => some (a0.1, y1, y2)
noncomputable def f16M (K : Nat) : Mdl := ⟨[(.ro, (.cons (.int .i64) (.cons (.cons (.int .i64) (.cons (.int .i64) (.int .i64))) (.list 2 (.int .i64)))))], [(.cons (.int .i64) (.cons (.cons (.int .i64) (.cons (.int .i64) (.int .i64))) (.list 2 (.int .i64))))], fun x => f16G K x.1⟩
/-! spec.IsFrame -/
noncomputable def f131E (K : Nat) : Env := ⟨[], tys, eqs, K, [0, 2]⟩
noncomputable def f131G (K : Nat) (a0 : Int) : Option Bool :=
  (bif ((!(!(a0 == (0 : Int)))) || true) then (bif ((!(!(a0 == (0 : Int)))) || true) then some (bif (a0 == (0 : Int)) then true else (a0 == (1 : Int))) else none) else none)
noncomputable def f131M (K : Nat) : Mdl := ⟨[(.ro, (.int .i64))], [.bool], fun x => f131G K x.1⟩
/-! spec.l01In -/
noncomputable def f111E (K : Nat) : Env := ⟨[], tys, eqs, K, [0, 1, 2, 6]⟩
noncomputable def f111G (K : Nat) (a0 : Int) (a1 : Int) (a2 : Int) : Option Bool :=
  (bif ((!(decide (a0 ≥ a1))) || true) then (bif ((!(decide (a0 ≥ a1))) || true) then (bif ((!(decide (a0 ≥ a1))) || true) then some (bif (decide (a0 ≥ a1)) then (decide (a0 ≤ a2)) else false) else none) else none) else none)
noncomputable def f111M (K : Nat) : Mdl := ⟨[(.ro, (.int .i64)), (.ro, (.int .i64)), (.ro, (.int .i64))], [.bool], fun x => f111G K x.1 x.2.1 x.2.2.1⟩
/-! spec.IsLattice -/
noncomputable def f132E (K : Nat) : Env := ⟨[(111, f111M K)], tys, eqs, K, [0, 1, 2]⟩
noncomputable def f132G (K : Nat) (a0 : Int × Int × Int) : Option Bool :=
  (f111G K a0.1 (1 : Int) (64 : Int)).bind fun y1 => (bif ((!y1) || true) then (bif ((!y1) || true) then ((bif y1 then f111G K a0.2.2 (1 : Int) (64 : Int) else some false)).bind fun y2 => (bif ((!(bif y1 then y2 else false)) || true) then (bif ((!(bif y1 then y2 else false)) || true) then (bif ((!(bif y1 then y2 else false)) || true) then (bif ((!(bif y1 then y2 else false)) || true) then (bif ((!(bif y1 then y2 else false)) || true) then ((bif (bif y1 then y2 else false) then f111G K a0.2.1 (0 : Int) (w (a0.1 - (1 : Int))) else some false)).bind fun y3 => (bif ((!(bif (bif y1 then y2 else false) then y3 else false)) || true) then (bif ((!(bif (bif y1 then y2 else false) then y3 else false)) || true) then (bif ((!(bif (bif y1 then y2 else false) then y3 else false)) || true) then (bif ((!(bif (bif y1 then y2 else false) then y3 else false)) || true) then (bif ((!(bif (bif y1 then y2 else false) then y3 else false)) || true) then (bif ((!(bif (bif y1 then y2 else false) then y3 else false)) || true) then some (bif (bif (bif y1 then y2 else false) then y3 else false) then (decide ((w (a0.1 * a0.2.2)) ≤ (64 : Int))) else false) else none) else none) else none) else none) else none) else none) else none) else none) else none) else none) else none) else none) else none)
noncomputable def f132M (K : Nat) : Mdl := ⟨[(.ro, (.cons (.int .i64) (.cons (.int .i64) (.int .i64))))], [.bool], fun x => f132G K x.1⟩
/-! spec.l04Code -/
noncomputable def f87E (K : Nat) : Env := ⟨[(131, f131M K), (132, f132M K)], tys, eqs, K, [0, 1, 3, 4, 12]⟩
noncomputable def f87G (K : Nat) (a0 : Int) (a1 : Int × Int × Int) : Option Int :=
  (f131G K a0).bind fun y1 => (bif ((!(!(!y1))) || true) then ((bif (!(!y1)) then f132G K a1 else some false)).bind fun y2 => (bif ((!(!(!y1))) || true) then (bif (bif (!y1) then true else (!y2)) then some (1 : Int) else some (0 : Int)) else none) else none)
noncomputable def f87M (K : Nat) : Mdl := ⟨[(.ro, (.int .i64)), (.ro, (.cons (.int .i64) (.cons (.int .i64) (.int .i64))))], [(.int .i64)], fun x => f87G K x.1 x.2.1⟩
/-! spec.l01Within -/
noncomputable def f88C : Code := codeOf Try.f88
noncomputable def f88E (K : Nat) : Env := ⟨[(111, f111M K)], tys, eqs, K, [0, 1, 2, 3, 8, 9, 13, 23]⟩
noncomputable def f88_b3 (K : Nat) (a0 : List Int) (a1 : Int) (a2 : Int) (a3 : Int) (L3 : Int → Option Bool) (q4 : Int) : Option Bool :=
  (bif (decide (q4 < (a0.length : Int))) then (bif (decide (0 ≤ q4) && decide (q4 < (a0.length : Int))) then (f111G K (a0.getD ((0 : Int) + q4).toNat (0 : Int)) a2 a3).bind fun y5 => (bif (!y5) then some false else L3 (w (q4 + (1 : Int)))) else none) else some (decide ((a0.length : Int) ≤ a1)))
noncomputable def f88_l3 (K : Nat) (a0 : List Int) (a1 : Int) (a2 : Int) (a3 : Int) (n : Nat) (q4 : Int) : Option Bool :=
  iter (X := Int) (fun L x => (fun L3 => f88_b3 K a0 a1 a2 a3 L3 x) (fun v0 => L v0)) n q4
noncomputable def f88_fr3 (a0 : List Int) (a1 : Int) (a2 : Int) (a3 : Int) (q4 : Int) : Fr := ⟨28, [(0, .v false [.row 0]), (1, .v false [.int .i64 a1]), (2, .v false [.int .i64 a2]), (3, .v false [.int .i64 a3]), (8, .v false [.bool false]), (9, .v false [.int .i64 q4])], [], [some ⟨2, (.int .i64), a0, .ro⟩]⟩
noncomputable def f88_k3 (K : Nat) (a0 : List Int) (a1 : Int) (a2 : Int) (a3 : Int) (lr : LR Bool) : Ex → Fr → Option Bool :=
  contC (f88E K) 1 lr f88C [1, 0, 1, 0] (finK (f88E K) Try.f88 [(.ro, (.list 2 (.int .i64))), (.ro, (.int .i64)), (.ro, (.int .i64)), (.ro, (.int .i64))] [.bool] (a0, a1, a2, a3, ()))
noncomputable def f88_g (K : Nat) (a0 : List Int) (a1 : Int) (a2 : Int) (a3 : Int) (I3 : Int → Option Bool) : Option Bool :=
  I3 (0 : Int)
noncomputable def f88G (K : Nat) (a0 : List Int) (a1 : Int) (a2 : Int) (a3 : Int) : Option Bool :=
  f88_g K a0 a1 a2 a3 (fun d0 => f88_l3 K a0 a1 a2 a3 K d0)
noncomputable def f88M (K : Nat) : Mdl := ⟨[(.ro, (.list 2 (.int .i64))), (.ro, (.int .i64)), (.ro, (.int .i64)), (.ro, (.int .i64))], [.bool], fun x => f88G K x.1 x.2.1 x.2.2.1 x.2.2.2.1⟩
/-! spec.IsPattern -/
noncomputable def f49E (K : Nat) : Env := ⟨[(87, f87M K), (88, f88M K)], tys, eqs, K, [0, 1, 2]⟩
noncomputable def f49G (K : Nat) (a0 : Int × (Int × Int × Int) × List Int) : Option Bool :=
  (f87G K a0.1 a0.2.1).bind fun y1 => (bif ((!(y1 == (0 : Int))) || true) then (bif ((!(y1 == (0 : Int))) || true) then (bif ((!(y1 == (0 : Int))) || true) then (bif ((!(y1 == (0 : Int))) || true) then (bif ((!(y1 == (0 : Int))) || true) then (bif ((!(y1 == (0 : Int))) || true) then (bif ((!(y1 == (0 : Int))) || true) then (bif ((!(y1 == (0 : Int))) || true) then (bif ((!(y1 == (0 : Int))) || true) then (bif ((!(y1 == (0 : Int))) || true) then (bif ((!(y1 == (0 : Int))) || true) then (bif ((!(bif (y1 == (0 : Int)) then ((a0.2.2.length : Int) == (w (a0.2.1.1 * a0.2.1.2.2))) else false)) || true) then (bif ((!(bif (y1 == (0 : Int)) then ((a0.2.2.length : Int) == (w (a0.2.1.1 * a0.2.1.2.2))) else false)) || true) then ((bif (bif (y1 == (0 : Int)) then ((a0.2.2.length : Int) == (w (a0.2.1.1 * a0.2.1.2.2))) else false) then f88G K a0.2.2 (64 : Int) (0 : Int) (9 : Int) else some false)).bind fun y2 => some (bif (bif (y1 == (0 : Int)) then ((a0.2.2.length : Int) == (w (a0.2.1.1 * a0.2.1.2.2))) else false) then y2 else false) else none) else none) else none) else none) else none) else none) else none) else none) else none) else none) else none) else none) else none)
noncomputable def f49M (K : Nat) : Mdl := ⟨[(.ro, (.cons (.int .i64) (.cons (.cons (.int .i64) (.cons (.int .i64) (.int .i64))) (.list 2 (.int .i64)))))], [.bool], fun x => f49G K x.1⟩
/-! spec.l03Cells -/
noncomputable def f72C : Code := codeOf Try.f72
noncomputable def f72E (K : Nat) : Env := ⟨[], tys, eqs, K, [0, 1, 2, 3, 4, 5, 10, 16]⟩
noncomputable def f72_b9 (K : Nat) (a0 : Int × Int × Int) (q7 : Int) (L6 : Int → (List (Int × Int)) → Option (List (Int × Int))) (L9 : Int → (List (Int × Int)) → Option (List (Int × Int))) (q10 : Int) (q11 : List (Int × Int)) : Option (List (Int × Int)) :=
  (bif (decide (q10 < a0.2.2)) then (bif (Nat.ble (q11.length + [(q7, q10)].length) (lim 16)) then L9 (w (q10 + (1 : Int))) (q11 ++ [(q7, q10)]) else none) else L6 (w (q7 + (1 : Int))) q11)
noncomputable def f72_l9 (K : Nat) (a0 : Int × Int × Int) (q7 : Int) (L6 : Int → (List (Int × Int)) → Option (List (Int × Int))) (n : Nat) (q10 : Int) (q11 : List (Int × Int)) : Option (List (Int × Int)) :=
  iter (X := Int × List (Int × Int)) (fun L x => (fun L9 => f72_b9 K a0 q7 L6 L9 x.1 x.2) (fun v0 v1 => L (v0, v1))) n (q10, q11)
noncomputable def f72_fr9 (a0 : Int × Int × Int) (q7 : Int) (q10 : Int) (q11 : List (Int × Int)) : Fr := ⟨26, [(0, .v true [.int .i64 a0.1, .int .i64 a0.2.1, .int .i64 a0.2.2]), (1, .v false [.box 0 0]), (2, .v false [.row 0]), (3, .v false [.row 1]), (4, .v false [.int .i64 q7]), (5, .v false [.int .i64 q10]), (10, .v false [.bool (decide (q7 < a0.1))])], [some ⟨true, [.int .i64 a0.1, .int .i64 a0.2.1, .int .i64 a0.2.2]⟩], [some ⟨60, (.cons (.int .i64) (.int .i64)), [], .own⟩, some ⟨60, (.cons (.int .i64) (.int .i64)), q11, .own⟩]⟩
noncomputable def f72_b6 (K : Nat) (a0 : Int × Int × Int) (I9 : Int → Int → (List (Int × Int)) → Option (List (Int × Int))) (L6 : Int → (List (Int × Int)) → Option (List (Int × Int))) (q7 : Int) (q8 : List (Int × Int)) : Option (List (Int × Int)) :=
  (bif (decide (q7 < a0.1)) then I9 q7 (0 : Int) q8 else some q8)
noncomputable def f72_l6 (K : Nat) (a0 : Int × Int × Int) (n : Nat) (q7 : Int) (q8 : List (Int × Int)) : Option (List (Int × Int)) :=
  iter (X := Int × List (Int × Int)) (fun L x => (fun L6 => f72_b6 K a0 (fun c0 d0 d1 => f72_l9 K a0 c0 L6 K d0 d1) L6 x.1 x.2) (fun v0 v1 => L (v0, v1))) n (q7, q8)
noncomputable def f72_fr6 (a0 : Int × Int × Int) (q7 : Int) (q8 : List (Int × Int)) : Fr := ⟨26, [(0, .v true [.int .i64 a0.1, .int .i64 a0.2.1, .int .i64 a0.2.2]), (1, .v false [.box 0 0]), (2, .v false [.row 0]), (3, .v false [.row 1]), (4, .v false [.int .i64 q7])], [some ⟨true, [.int .i64 a0.1, .int .i64 a0.2.1, .int .i64 a0.2.2]⟩], [some ⟨60, (.cons (.int .i64) (.int .i64)), [], .own⟩, some ⟨60, (.cons (.int .i64) (.int .i64)), q8, .own⟩]⟩
noncomputable def f72_k6 (K : Nat) (a0 : Int × Int × Int) (lr : LR (List (Int × Int))) : Ex → Fr → Option (List (Int × Int)) :=
  contC (f72E K) 0 lr f72C [1, 1, 0, 1, 0] (finK (f72E K) Try.f72 [(.ro, (.cons (.int .i64) (.cons (.int .i64) (.int .i64))))] [(.list 60 (.cons (.int .i64) (.int .i64)))] (a0, ()))
noncomputable def f72_k9 (K : Nat) (a0 : Int × Int × Int) (F6 : Fr → Option (List (Int × Int))) (bq7 : Int) (bq8 : List (Int × Int)) (lr : LR (List (Int × Int))) : Ex → Fr → Option (List (Int × Int)) :=
  contC (f72E K) 0 lr (selC f72C [1, 1, 0, 1, 0, 0]) [1, 0, 0, 1, 0] (loopK 0 (f72_fr6 a0 bq7 bq8) F6 (f72_k6 K a0 lr))
noncomputable def f72_g (K : Nat) (a0 : Int × Int × Int) (I6 : Int → (List (Int × Int)) → Option (List (Int × Int))) : Option (List (Int × Int)) :=
  I6 (0 : Int) []
noncomputable def f72G (K : Nat) (a0 : Int × Int × Int) : Option (List (Int × Int)) :=
  f72_g K a0 (fun d0 d1 => f72_l6 K a0 K d0 d1)
noncomputable def f72M (K : Nat) : Mdl := ⟨[(.ro, (.cons (.int .i64) (.cons (.int .i64) (.int .i64))))], [(.list 60 (.cons (.int .i64) (.int .i64)))], fun x => f72G K x.1⟩
/-! spec.l03Basis -/
noncomputable def f136E (K : Nat) : Env := ⟨[], tys, eqs, K, [0, 1, 2]⟩
noncomputable def f136G (K : Nat) (a0 : Int × Int × Int) : Option (List (Int × Int)) :=
  some [(a0.1, (0 : Int)), a0.2]
noncomputable def f136M (K : Nat) : Mdl := ⟨[(.ro, (.cons (.int .i64) (.cons (.int .i64) (.int .i64))))], [(.list 60 (.cons (.int .i64) (.int .i64)))], fun x => f136G K x.1⟩
/-! spec.l02Unit -/
noncomputable def f137E (K : Nat) : Env := ⟨[], tys, eqs, K, [0]⟩
noncomputable def f137G (K : Nat) : Option (Int × Int × Int × Int) :=
  some ((1 : Int), (0 : Int), (0 : Int), (1 : Int))
noncomputable def f137M (K : Nat) : Mdl := ⟨[], [(.cons (.int .i64) (.cons (.int .i64) (.cons (.int .i64) (.int .i64))))], fun x => f137G K ⟩
/-! spec.l02Apply -/
noncomputable def f158E (K : Nat) : Env := ⟨[], tys, eqs, K, [0, 1, 2, 3, 4]⟩
noncomputable def f158G (K : Nat) (a0 : Int × Int × Int × Int) (a1 : Int × Int) : Option (Int × Int) :=
  some ((w ((w (a0.1 * a1.1)) + (w (a0.2.1 * a1.2)))), (w ((w (a0.2.2.1 * a1.1)) + (w (a0.2.2.2 * a1.2)))))
noncomputable def f158M (K : Nat) : Mdl := ⟨[(.ro, (.cons (.int .i64) (.cons (.int .i64) (.cons (.int .i64) (.int .i64))))), (.ro, (.cons (.int .i64) (.int .i64)))], [(.cons (.int .i64) (.int .i64))], fun x => f158G K x.1 x.2.1⟩
/-! spec.l01Add -/
noncomputable def f157E (K : Nat) : Env := ⟨[], tys, eqs, K, [0, 1, 2, 3, 4]⟩
noncomputable def f157G (K : Nat) (a0 : Int × Int) (a1 : Int × Int) : Option (Int × Int) :=
  some ((w (a0.1 + a1.1)), (w (a0.2 + a1.2)))
noncomputable def f157M (K : Nat) : Mdl := ⟨[(.ro, (.cons (.int .i64) (.int .i64))), (.ro, (.cons (.int .i64) (.int .i64)))], [(.cons (.int .i64) (.int .i64))], fun x => f157G K x.1 x.2.1⟩
/-! spec.l05Apply -/
noncomputable def f113E (K : Nat) : Env := ⟨[(157, f157M K), (158, f158M K)], tys, eqs, K, [0, 1, 2, 3, 4]⟩
noncomputable def f113G (K : Nat) (a0 : (Int × Int × Int × Int) × Int × Int) (a1 : Int × Int) : Option (Int × Int) :=
  (f158G K a0.1 a1).bind fun y1 => (f157G K y1 a0.2).bind fun y2 => some y2
noncomputable def f113M (K : Nat) : Mdl := ⟨[(.ro, (.cons (.cons (.int .i64) (.cons (.int .i64) (.cons (.int .i64) (.int .i64)))) (.cons (.int .i64) (.int .i64)))), (.ro, (.cons (.int .i64) (.int .i64)))], [(.cons (.int .i64) (.int .i64))], fun x => f113G K x.1 x.2.1⟩
/-! spec.l01Mod -/
noncomputable def f156E (K : Nat) : Env := ⟨[], tys, eqs, K, [0, 1, 4, 9]⟩
noncomputable def f156G (K : Nat) (a0 : Int) (a1 : Int) : Option Int :=
  (bif (a1 != 0) then (bif (decide ((a0.tmod a1) < (0 : Int))) then some (w ((a0.tmod a1) + a1)) else some (a0.tmod a1)) else none)
noncomputable def f156M (K : Nat) : Mdl := ⟨[(.ro, (.int .i64)), (.ro, (.int .i64))], [(.int .i64)], fun x => f156G K x.1 x.2.1⟩
/-! spec.l03Reduce -/
noncomputable def f112E (K : Nat) : Env := ⟨[(156, f156M K)], tys, eqs, K, [0, 1, 2, 3, 4, 5, 6]⟩
noncomputable def f112G (K : Nat) (a0 : Int × Int × Int) (a1 : Int × Int) : Option (Int × Int) :=
  (f156G K a1.2 a0.2.2).bind fun y1 => (bif (a0.2.2 != 0) then (f156G K (w (a1.1 - (w ((w ((w (a1.2 - y1)).tdiv a0.2.2)) * a0.2.1)))) a0.1).bind fun y2 => some (y2, y1) else none)
noncomputable def f112M (K : Nat) : Mdl := ⟨[(.ro, (.cons (.int .i64) (.cons (.int .i64) (.int .i64)))), (.ro, (.cons (.int .i64) (.int .i64)))], [(.cons (.int .i64) (.int .i64))], fun x => f112G K x.1 x.2.1⟩
/-! spec.l03Number -/
noncomputable def f104E (K : Nat) : Env := ⟨[(112, f112M K)], tys, eqs, K, [0, 1, 2, 3, 4]⟩
noncomputable def f104G (K : Nat) (a0 : Int × Int × Int) (a1 : Int × Int) : Option Int :=
  (f112G K a0 a1).bind fun y1 => some (w ((w (y1.1 * a0.2.2)) + y1.2))
noncomputable def f104M (K : Nat) : Mdl := ⟨[(.ro, (.cons (.int .i64) (.cons (.int .i64) (.int .i64)))), (.ro, (.cons (.int .i64) (.int .i64)))], [(.int .i64)], fun x => f104G K x.1 x.2.1⟩
/-! spec.l09At -/
noncomputable def f135E (K : Nat) : Env := ⟨[(104, f104M K)], tys, eqs, K, [0, 1, 2, 3, 4]⟩
noncomputable def f135G (K : Nat) (a0 : Int × (Int × Int × Int) × List Int) (a1 : Int × Int) : Option Int :=
  (f104G K a0.2.1 a1).bind fun y1 => (bif (decide (0 ≤ y1) && decide (y1 < (a0.2.2.length : Int))) then some (a0.2.2.getD ((0 : Int) + y1).toNat (0 : Int)) else none)
noncomputable def f135M (K : Nat) : Mdl := ⟨[(.ro, (.cons (.int .i64) (.cons (.cons (.int .i64) (.cons (.int .i64) (.int .i64))) (.list 2 (.int .i64))))), (.ro, (.cons (.int .i64) (.int .i64)))], [(.int .i64)], fun x => f135G K x.1 x.2.1⟩
/-! spec.l09Keeps -/
noncomputable def f90C : Code := codeOf Try.f90
noncomputable def f90E (K : Nat) : Env := ⟨[(72, f72M K), (113, f113M K), (135, f135M K)], tys, eqs, K, [0, 1, 2, 3, 4, 5, 6, 13, 30]⟩
noncomputable def f90_b6 (K : Nat) (a0 : Int × (Int × Int × Int) × List Int) (a1 : (Int × Int × Int × Int) × Int × Int) (y1 : List (Int × Int)) (L6 : Int → Option Bool) (q7 : Int) : Option Bool :=
  (bif (decide (q7 < (y1.length : Int))) then (bif (decide (0 ≤ q7) && decide (q7 < (y1.length : Int))) then (f113G K a1 (y1.getD ((0 : Int) + q7).toNat ((0 : Int), (0 : Int)))).bind fun y8 => (f135G K a0 y8).bind fun y9 => (bif (decide (0 ≤ q7) && decide (q7 < (y1.length : Int))) then (f135G K a0 (y1.getD ((0 : Int) + q7).toNat ((0 : Int), (0 : Int)))).bind fun y10 => (bif (y9 != y10) then some false else L6 (w (q7 + (1 : Int)))) else none) else none) else some true)
noncomputable def f90_l6 (K : Nat) (a0 : Int × (Int × Int × Int) × List Int) (a1 : (Int × Int × Int × Int) × Int × Int) (y1 : List (Int × Int)) (n : Nat) (q7 : Int) : Option Bool :=
  iter (X := Int) (fun L x => (fun L6 => f90_b6 K a0 a1 y1 L6 x) (fun v0 => L v0)) n q7
noncomputable def f90_fr6 (a0 : Int × (Int × Int × Int) × List Int) (a1 : (Int × Int × Int × Int) × Int × Int) (y1 : List (Int × Int)) (q7 : Int) : Fr := ⟨31, [(0, .v true [.int .i64 a0.1, .int .i64 a0.2.1.1, .int .i64 a0.2.1.2.1, .int .i64 a0.2.1.2.2, .row 0]), (1, .v true [.int .i64 a1.1.1, .int .i64 a1.1.2.1, .int .i64 a1.1.2.2.1, .int .i64 a1.1.2.2.2, .int .i64 a1.2.1, .int .i64 a1.2.2]), (2, .v false [.box 0 0]), (3, .v false [.box 1 0]), (4, .v false [.bool false]), (5, .v false [.row 1]), (6, .v false [.int .i64 q7])], [some ⟨true, [.int .i64 a0.1, .int .i64 a0.2.1.1, .int .i64 a0.2.1.2.1, .int .i64 a0.2.1.2.2, .row 0]⟩, some ⟨true, [.int .i64 a1.1.1, .int .i64 a1.1.2.1, .int .i64 a1.1.2.2.1, .int .i64 a1.1.2.2.2, .int .i64 a1.2.1, .int .i64 a1.2.2]⟩], [some ⟨2, (.int .i64), a0.2.2, .ro⟩, some ⟨60, (.cons (.int .i64) (.int .i64)), y1, .own⟩]⟩
noncomputable def f90_k6 (K : Nat) (a0 : Int × (Int × Int × Int) × List Int) (a1 : (Int × Int × Int × Int) × Int × Int) (lr : LR Bool) : Ex → Fr → Option Bool :=
  contC (f90E K) 1 lr f90C [1, 1, 0, 1, 0] (finK (f90E K) Try.f90 [(.ro, (.cons (.int .i64) (.cons (.cons (.int .i64) (.cons (.int .i64) (.int .i64))) (.list 2 (.int .i64))))), (.ro, (.cons (.cons (.int .i64) (.cons (.int .i64) (.cons (.int .i64) (.int .i64)))) (.cons (.int .i64) (.int .i64))))] [.bool] (a0, a1, ()))
noncomputable def f90_g (K : Nat) (a0 : Int × (Int × Int × Int) × List Int) (a1 : (Int × Int × Int × Int) × Int × Int) (I6 : (List (Int × Int)) → Int → Option Bool) : Option Bool :=
  (f72G K a0.2.1).bind fun y1 => I6 y1 (0 : Int)
noncomputable def f90G (K : Nat) (a0 : Int × (Int × Int × Int) × List Int) (a1 : (Int × Int × Int × Int) × Int × Int) : Option Bool :=
  f90_g K a0 a1 (fun c0 d0 => f90_l6 K a0 a1 c0 K d0)
noncomputable def f90M (K : Nat) : Mdl := ⟨[(.ro, (.cons (.int .i64) (.cons (.cons (.int .i64) (.cons (.int .i64) (.int .i64))) (.list 2 (.int .i64))))), (.ro, (.cons (.cons (.int .i64) (.cons (.int .i64) (.cons (.int .i64) (.int .i64)))) (.cons (.int .i64) (.int .i64))))], [.bool], fun x => f90G K x.1 x.2.1⟩
/-! spec.l01Divisor -/
noncomputable def f175E (K : Nat) (rec : Int → Int → Option Int) : Env := ⟨[(175, ⟨[(.ro, (.int .i64)), (.ro, (.int .i64))], [(.int .i64)], fun x => rec x.1 x.2.1⟩)], tys, eqs, K, [0, 1, 4, 6]⟩
noncomputable def f175_s (K : Nat) (rec : Int → Int → Option Int) (a0 : Int) (a1 : Int) : Option Int :=
  (bif (a1 == (0 : Int)) then some (if (w (0 - a0)) > a0 then (w (0 - a0)) else a0) else (bif (a1 != 0) then (rec a1 (a0.tmod a1)).bind fun y1 => some y1 else none))
noncomputable def f175R (K : Nat) : Nat → Int → Int → Option Int
  | 0 => fun _ _ => none
  | n + 1 => fun a0 a1 => f175_s K (f175R K n) a0 a1
noncomputable def f175G (K : Nat) (a0 : Int) (a1 : Int) : Option Int := f175R K K a0 a1
noncomputable def f175M (K : Nat) : Mdl := ⟨[(.ro, (.int .i64)), (.ro, (.int .i64))], [(.int .i64)], fun x => f175G K x.1 x.2.1⟩
/-! spec.l01Scale -/
noncomputable def f176E (K : Nat) : Env := ⟨[], tys, eqs, K, [0, 1, 2, 4]⟩
noncomputable def f176G (K : Nat) (a0 : Int × Int) (a1 : Int) : Option (Int × Int) :=
  some ((w (a1 * a0.1)), (w (a1 * a0.2)))
noncomputable def f176M (K : Nat) : Mdl := ⟨[(.ro, (.cons (.int .i64) (.int .i64))), (.ro, (.int .i64))], [(.cons (.int .i64) (.int .i64))], fun x => f176G K x.1 x.2.1⟩
/-! spec.l03Hermite -/
noncomputable def f138C : Code := codeOf Try.f138
noncomputable def f138E (K : Nat) : Env := ⟨[(156, f156M K), (175, f175M K), (176, f176M K)], tys, eqs, K, [0, 2, 3, 4, 5, 6, 7, 8, 13, 22, 50, 58, 62]⟩
noncomputable def f138_b15 (K : Nat) (a0 : List (Int × Int)) (q11 : Int) (q12 : Int) (L10 : Int → Int → Int → Int → Option (Int × Int × Int)) (L15 : Int → Int → Int → Int → Option (Int × Int × Int)) (q16 : Int) (q17 : Int) (q18 : Int) (q19 : Int) : Option (Int × Int × Int) :=
  (bif (q19 != (0 : Int)) then (bif (q19 != 0) then L15 q18 q19 (w (q16 - (w ((w (q17.tdiv q19)) * q18)))) (w (q17 - (w ((w (q17.tdiv q19)) * q19)))) else none) else (f175G K q11 q18).bind fun y20 => (bif (decide (y20 > (0 : Int))) then (f156G K q16 y20).bind fun y21 => L10 y20 (w (q12 + (1 : Int))) y21 q17 else L10 y20 (w (q12 + (1 : Int))) q16 q17))
noncomputable def f138_l15 (K : Nat) (a0 : List (Int × Int)) (q11 : Int) (q12 : Int) (L10 : Int → Int → Int → Int → Option (Int × Int × Int)) (n : Nat) (q16 : Int) (q17 : Int) (q18 : Int) (q19 : Int) : Option (Int × Int × Int) :=
  iter (X := Int × Int × Int × Int) (fun L x => (fun L15 => f138_b15 K a0 q11 q12 L10 L15 x.1 x.2.1 x.2.2.1 x.2.2.2) (fun v0 v1 v2 v3 => L (v0, v1, v2, v3))) n (q16, q17, q18, q19)
noncomputable def f138_fr15 (a0 : List (Int × Int)) (q11 : Int) (q12 : Int) (q16 : Int) (q17 : Int) (q18 : Int) (q19 : Int) : Fr := ⟨74, [(0, .v false [.row 0]), (2, .v false [.box 0 0]), (3, .v false [.box 1 0]), (4, .v false [.int .i64 q11]), (5, .v false [.int .i64 q12]), (6, .v false [.box 2 0]), (13, .v false [.bool (decide (q12 < (a0.length : Int)))])], [some ⟨true, [.int .i64 (0 : Int), .int .i64 (0 : Int), .int .i64 (0 : Int)]⟩, some ⟨true, [.int .i64 q16, .int .i64 q17]⟩, some ⟨true, [.int .i64 q18, .int .i64 q19]⟩], [some ⟨60, (.cons (.int .i64) (.int .i64)), a0, .ro⟩]⟩
noncomputable def f138_b10 (K : Nat) (a0 : List (Int × Int)) (I15 : Int → Int → Int → Int → Int → Int → Option (Int × Int × Int)) (L10 : Int → Int → Int → Int → Option (Int × Int × Int)) (q11 : Int) (q12 : Int) (q13 : Int) (q14 : Int) : Option (Int × Int × Int) :=
  (bif (decide (q12 < (a0.length : Int))) then (bif (decide (0 ≤ q12) && decide (q12 < (a0.length : Int))) then I15 q11 q12 q13 q14 ((a0.getD ((0 : Int) + q12).toNat ((0 : Int), (0 : Int))).1) ((a0.getD ((0 : Int) + q12).toNat ((0 : Int), (0 : Int))).2) else none) else (bif (decide (q14 < (0 : Int))) then (f176G K (q13, q14) (-1 : Int)).bind fun y22 => (bif (decide (q11 > (0 : Int))) then (f156G K y22.1 q11).bind fun y23 => some (q11, y23, y22.2) else some (q11, y22)) else (bif (decide (q11 > (0 : Int))) then (f156G K q13 q11).bind fun y24 => some (q11, y24, q14) else some (q11, q13, q14))))
noncomputable def f138_l10 (K : Nat) (a0 : List (Int × Int)) (n : Nat) (q11 : Int) (q12 : Int) (q13 : Int) (q14 : Int) : Option (Int × Int × Int) :=
  iter (X := Int × Int × Int × Int) (fun L x => (fun L10 => f138_b10 K a0 (fun c0 c1 d0 d1 d2 d3 => f138_l15 K a0 c0 c1 L10 K d0 d1 d2 d3) L10 x.1 x.2.1 x.2.2.1 x.2.2.2) (fun v0 v1 v2 v3 => L (v0, v1, v2, v3))) n (q11, q12, q13, q14)
noncomputable def f138_fr10 (a0 : List (Int × Int)) (q11 : Int) (q12 : Int) (q13 : Int) (q14 : Int) : Fr := ⟨74, [(0, .v false [.row 0]), (2, .v false [.box 0 0]), (3, .v false [.box 1 0]), (4, .v false [.int .i64 q11]), (5, .v false [.int .i64 q12])], [some ⟨true, [.int .i64 (0 : Int), .int .i64 (0 : Int), .int .i64 (0 : Int)]⟩, some ⟨true, [.int .i64 q13, .int .i64 q14]⟩], [some ⟨60, (.cons (.int .i64) (.int .i64)), a0, .ro⟩]⟩
noncomputable def f138_k10 (K : Nat) (a0 : List (Int × Int)) (lr : LR (Int × Int × Int)) : Ex → Fr → Option (Int × Int × Int) :=
  contC (f138E K) 1 lr f138C [1, 1, 0, 1, 0] (finK (f138E K) Try.f138 [(.ro, (.list 60 (.cons (.int .i64) (.int .i64))))] [(.cons (.int .i64) (.cons (.int .i64) (.int .i64)))] (a0, ()))
noncomputable def f138_k15 (K : Nat) (a0 : List (Int × Int)) (F10 : Fr → Option (Int × Int × Int)) (bq11 : Int) (bq12 : Int) (bq13 : Int) (bq14 : Int) (lr : LR (Int × Int × Int)) : Ex → Fr → Option (Int × Int × Int) :=
  contC (f138E K) 1 lr (selC f138C [1, 1, 0, 1, 0, 0]) [1, 0, 0, 1, 0, 0] (loopK 1 (f138_fr10 a0 bq11 bq12 bq13 bq14) F10 (f138_k10 K a0 lr))
noncomputable def f138_g (K : Nat) (a0 : List (Int × Int)) (I10 : Int → Int → Int → Int → Option (Int × Int × Int)) : Option (Int × Int × Int) :=
  I10 (0 : Int) (0 : Int) (0 : Int) (0 : Int)
noncomputable def f138G (K : Nat) (a0 : List (Int × Int)) : Option (Int × Int × Int) :=
  f138_g K a0 (fun d0 d1 d2 d3 => f138_l10 K a0 K d0 d1 d2 d3)
noncomputable def f138M (K : Nat) : Mdl := ⟨[(.ro, (.list 60 (.cons (.int .i64) (.int .i64))))], [(.cons (.int .i64) (.cons (.int .i64) (.int .i64)))], fun x => f138G K x.1⟩
/-! spec.l09Full -/
noncomputable def f92C : Code := codeOf Try.f92
noncomputable def f92E (K : Nat) : Env := ⟨[(72, f72M K), (90, f90M K), (136, f136M K), (137, f137M K), (138, f138M K)], tys, eqs, K, [0, 1, 2, 3, 4, 5, 15, 25]⟩
noncomputable def f92_b6 (K : Nat) (a0 : Int × (Int × Int × Int) × List Int) (y1 : List (Int × Int)) (L6 : Int → (List (Int × Int)) → Option (Int × Int × Int)) (q7 : Int) (q8 : List (Int × Int)) : Option (Int × Int × Int) :=
  (bif (decide (q7 < (y1.length : Int))) then (f137G K).bind fun y9 => (bif (decide (0 ≤ q7) && decide (q7 < (y1.length : Int))) then (f90G K a0 (y9, (y1.getD ((0 : Int) + q7).toNat ((0 : Int), (0 : Int))))).bind fun y10 => (bif y10 then (bif (decide (0 ≤ q7) && decide (q7 < (y1.length : Int))) then (bif (Nat.ble (q8.length + [(y1.getD ((0 : Int) + q7).toNat ((0 : Int), (0 : Int)))].length) (lim 16)) then L6 (w (q7 + (1 : Int))) (q8 ++ [(y1.getD ((0 : Int) + q7).toNat ((0 : Int), (0 : Int)))]) else none) else none) else L6 (w (q7 + (1 : Int))) q8) else none) else (f138G K q8).bind fun y11 => some y11)
noncomputable def f92_l6 (K : Nat) (a0 : Int × (Int × Int × Int) × List Int) (y1 : List (Int × Int)) (n : Nat) (q7 : Int) (q8 : List (Int × Int)) : Option (Int × Int × Int) :=
  iter (X := Int × List (Int × Int)) (fun L x => (fun L6 => f92_b6 K a0 y1 L6 x.1 x.2) (fun v0 v1 => L (v0, v1))) n (q7, q8)
noncomputable def f92_fr6 (a0 : Int × (Int × Int × Int) × List Int) (y1 : List (Int × Int)) (q7 : Int) (q8 : List (Int × Int)) : Fr := ⟨35, [(0, .v true [.int .i64 a0.1, .int .i64 a0.2.1.1, .int .i64 a0.2.1.2.1, .int .i64 a0.2.1.2.2, .row 0]), (1, .v false [.box 0 0]), (2, .v false [.box 1 0]), (3, .v false [.row 1]), (4, .v false [.row 2]), (5, .v false [.int .i64 q7])], [some ⟨true, [.int .i64 a0.1, .int .i64 a0.2.1.1, .int .i64 a0.2.1.2.1, .int .i64 a0.2.1.2.2, .row 0]⟩, some ⟨true, [.int .i64 (0 : Int), .int .i64 (0 : Int), .int .i64 (0 : Int)]⟩], [some ⟨2, (.int .i64), a0.2.2, .ro⟩, some ⟨60, (.cons (.int .i64) (.int .i64)), y1, .own⟩, some ⟨60, (.cons (.int .i64) (.int .i64)), q8, .own⟩]⟩
noncomputable def f92_k6 (K : Nat) (a0 : Int × (Int × Int × Int) × List Int) (lr : LR (Int × Int × Int)) : Ex → Fr → Option (Int × Int × Int) :=
  contC (f92E K) 1 lr f92C [1, 1, 1, 0, 1, 0] (finK (f92E K) Try.f92 [(.ro, (.cons (.int .i64) (.cons (.cons (.int .i64) (.cons (.int .i64) (.int .i64))) (.list 2 (.int .i64)))))] [(.cons (.int .i64) (.cons (.int .i64) (.int .i64)))] (a0, ()))
noncomputable def f92_g (K : Nat) (a0 : Int × (Int × Int × Int) × List Int) (I6 : (List (Int × Int)) → Int → (List (Int × Int)) → Option (Int × Int × Int)) : Option (Int × Int × Int) :=
  (f72G K a0.2.1).bind fun y1 => (f136G K a0.2.1).bind fun y2 => I6 y1 (0 : Int) y2
noncomputable def f92G (K : Nat) (a0 : Int × (Int × Int × Int) × List Int) : Option (Int × Int × Int) :=
  f92_g K a0 (fun c0 d0 d1 => f92_l6 K a0 c0 K d0 d1)
noncomputable def f92M (K : Nat) : Mdl := ⟨[(.ro, (.cons (.int .i64) (.cons (.cons (.int .i64) (.cons (.int .i64) (.int .i64))) (.list 2 (.int .i64)))))], [(.cons (.int .i64) (.cons (.int .i64) (.int .i64)))], fun x => f92G K x.1⟩
/-! spec.l09On -/
noncomputable def f91C : Code := codeOf Try.f91
noncomputable def f91E (K : Nat) : Env := ⟨[(72, f72M K), (135, f135M K)], tys, eqs, K, [0, 1, 2, 3, 4, 5, 6, 7, 18]⟩
noncomputable def f91_b4 (K : Nat) (a0 : Int × (Int × Int × Int) × List Int) (a1 : Int × Int × Int) (y1 : List (Int × Int)) (L4 : Int → (List Int) → Option (Int × (Int × Int × Int) × List Int)) (q5 : Int) (q6 : List Int) : Option (Int × (Int × Int × Int) × List Int) :=
  (bif (decide (q5 < (y1.length : Int))) then (bif (decide (0 ≤ q5) && decide (q5 < (y1.length : Int))) then (f135G K a0 (y1.getD ((0 : Int) + q5).toNat ((0 : Int), (0 : Int)))).bind fun y7 => (bif (Nat.ble (q6.length + [y7].length) (lim 8)) then L4 (w (q5 + (1 : Int))) (q6 ++ [y7]) else none) else none) else some (a0.1, a1, q6))
noncomputable def f91_l4 (K : Nat) (a0 : Int × (Int × Int × Int) × List Int) (a1 : Int × Int × Int) (y1 : List (Int × Int)) (n : Nat) (q5 : Int) (q6 : List Int) : Option (Int × (Int × Int × Int) × List Int) :=
  iter (X := Int × List Int) (fun L x => (fun L4 => f91_b4 K a0 a1 y1 L4 x.1 x.2) (fun v0 v1 => L (v0, v1))) n (q5, q6)
noncomputable def f91_fr4 (a0 : Int × (Int × Int × Int) × List Int) (a1 : Int × Int × Int) (y1 : List (Int × Int)) (q5 : Int) (q6 : List Int) : Fr := ⟨33, [(0, .v true [.int .i64 a0.1, .int .i64 a0.2.1.1, .int .i64 a0.2.1.2.1, .int .i64 a0.2.1.2.2, .row 0]), (1, .v true [.int .i64 a1.1, .int .i64 a1.2.1, .int .i64 a1.2.2]), (2, .v false [.box 0 0]), (3, .v false [.box 1 0]), (4, .v false [.box 2 0]), (5, .v false [.row 1]), (6, .v false [.box 3 0]), (7, .v false [.int .i64 q5])], [some ⟨true, [.int .i64 a0.1, .int .i64 a0.2.1.1, .int .i64 a0.2.1.2.1, .int .i64 a0.2.1.2.2, .row 0]⟩, some ⟨true, [.int .i64 a1.1, .int .i64 a1.2.1, .int .i64 a1.2.2]⟩, some ⟨true, [.int .i64 (0 : Int), .int .i64 (0 : Int), .int .i64 (0 : Int), .int .i64 (0 : Int), .row 2]⟩, some ⟨true, [.int .i64 a0.1, .int .i64 a1.1, .int .i64 a1.2.1, .int .i64 a1.2.2, .row 3]⟩], [some ⟨2, (.int .i64), a0.2.2, .ro⟩, some ⟨60, (.cons (.int .i64) (.int .i64)), y1, .own⟩, some ⟨2, (.int .i64), [], .own⟩, some ⟨2, (.int .i64), q6, .own⟩]⟩
noncomputable def f91_k4 (K : Nat) (a0 : Int × (Int × Int × Int) × List Int) (a1 : Int × Int × Int) (lr : LR (Int × (Int × Int × Int) × List Int)) : Ex → Fr → Option (Int × (Int × Int × Int) × List Int) :=
  contC (f91E K) 1 lr f91C [1, 1, 1, 0, 1, 0] (finK (f91E K) Try.f91 [(.ro, (.cons (.int .i64) (.cons (.cons (.int .i64) (.cons (.int .i64) (.int .i64))) (.list 2 (.int .i64))))), (.ro, (.cons (.int .i64) (.cons (.int .i64) (.int .i64))))] [(.cons (.int .i64) (.cons (.cons (.int .i64) (.cons (.int .i64) (.int .i64))) (.list 2 (.int .i64))))] (a0, a1, ()))
noncomputable def f91_g (K : Nat) (a0 : Int × (Int × Int × Int) × List Int) (a1 : Int × Int × Int) (I4 : (List (Int × Int)) → Int → (List Int) → Option (Int × (Int × Int × Int) × List Int)) : Option (Int × (Int × Int × Int) × List Int) :=
  (f72G K a1).bind fun y1 => I4 y1 (0 : Int) []
noncomputable def f91G (K : Nat) (a0 : Int × (Int × Int × Int) × List Int) (a1 : Int × Int × Int) : Option (Int × (Int × Int × Int) × List Int) :=
  f91_g K a0 a1 (fun c0 d0 d1 => f91_l4 K a0 a1 c0 K d0 d1)
noncomputable def f91M (K : Nat) : Mdl := ⟨[(.ro, (.cons (.int .i64) (.cons (.cons (.int .i64) (.cons (.int .i64) (.int .i64))) (.list 2 (.int .i64))))), (.ro, (.cons (.int .i64) (.cons (.int .i64) (.int .i64))))], [(.cons (.int .i64) (.cons (.cons (.int .i64) (.cons (.int .i64) (.int .i64))) (.list 2 (.int .i64))))], fun x => f91G K x.1 x.2.1⟩
/-! spec.l09Lean -/
noncomputable def f51E (K : Nat) : Env := ⟨[(91, f91M K), (92, f92M K)], tys, eqs, K, [0, 1, 2]⟩
noncomputable def f51G (K : Nat) (a0 : Int × (Int × Int × Int) × List Int) : Option (Int × (Int × Int × Int) × List Int) :=
  (f92G K a0).bind fun y1 => (f91G K a0 y1).bind fun y2 => some y2
noncomputable def f51M (K : Nat) : Mdl := ⟨[(.ro, (.cons (.int .i64) (.cons (.cons (.int .i64) (.cons (.int .i64) (.int .i64))) (.list 2 (.int .i64)))))], [(.cons (.int .i64) (.cons (.cons (.int .i64) (.cons (.int .i64) (.int .i64))) (.list 2 (.int .i64))))], fun x => f51G K x.1⟩
/-! spec.l04Norm -/
noncomputable def f197E (K : Nat) : Env := ⟨[], tys, eqs, K, [0, 1, 3, 4, 5, 18]⟩
noncomputable def f197G (K : Nat) (a0 : Int) (a1 : Int × Int) : Option Int :=
  (bif (a0 == (1 : Int)) then some (w ((w ((w (a1.1 * a1.1)) + (w (a1.2 * a1.2)))) + (w (a1.1 * a1.2)))) else some (w ((w (a1.1 * a1.1)) + (w (a1.2 * a1.2)))))
noncomputable def f197M (K : Nat) : Mdl := ⟨[(.ro, (.int .i64)), (.ro, (.cons (.int .i64) (.int .i64)))], [(.int .i64)], fun x => f197G K x.1 x.2.1⟩
/-! spec.l04Keeps -/
noncomputable def f174E (K : Nat) : Env := ⟨[(157, f157M K), (197, f197M K)], tys, eqs, K, [0, 1, 3, 4, 5, 6]⟩
noncomputable def f174G (K : Nat) (a0 : Int) (a1 : Int × Int × Int × Int) : Option Bool :=
  (f197G K a0 (a1.1, a1.2.2.1)).bind fun y1 => (bif ((!(y1 == (1 : Int))) || true) then (bif ((!(y1 == (1 : Int))) || true) then ((bif (y1 == (1 : Int)) then f197G K a0 (a1.2.1, a1.2.2.2) else some (0 : Int))).bind fun y2 => (bif ((!(y1 == (1 : Int))) || true) then (bif ((!(bif (y1 == (1 : Int)) then (y2 == (1 : Int)) else false)) || true) then (bif ((!(bif (y1 == (1 : Int)) then (y2 == (1 : Int)) else false)) || true) then (bif ((!(bif (y1 == (1 : Int)) then (y2 == (1 : Int)) else false)) || true) then ((bif (bif (y1 == (1 : Int)) then (y2 == (1 : Int)) else false) then f157G K (a1.1, a1.2.2.1) (a1.2.1, a1.2.2.2) else some ((0 : Int), (0 : Int)))).bind fun y3 => ((bif (bif (y1 == (1 : Int)) then (y2 == (1 : Int)) else false) then f197G K a0 y3 else some (0 : Int))).bind fun y4 => (bif ((!(bif (y1 == (1 : Int)) then (y2 == (1 : Int)) else false)) || true) then (bif ((!(bif (y1 == (1 : Int)) then (y2 == (1 : Int)) else false)) || true) then (bif ((!(bif (y1 == (1 : Int)) then (y2 == (1 : Int)) else false)) || true) then some (bif (bif (y1 == (1 : Int)) then (y2 == (1 : Int)) else false) then (y4 == (w ((2 : Int) + a0))) else false) else none) else none) else none) else none) else none) else none) else none) else none) else none)
noncomputable def f174M (K : Nat) : Mdl := ⟨[(.ro, (.int .i64)), (.ro, (.cons (.int .i64) (.cons (.int .i64) (.cons (.int .i64) (.int .i64)))))], [.bool], fun x => f174G K x.1 x.2.1⟩
/-! spec.l04Mats -/
noncomputable def f133C : Code := codeOf Try.f133
noncomputable def f133E (K : Nat) : Env := ⟨[(174, f174M K)], tys, eqs, K, [0, 2, 3, 4, 5, 8, 28]⟩
noncomputable def f133_b3 (K : Nat) (a0 : Int) (L3 : Int → (List (Int × Int × Int × Int)) → Option (List (Int × Int × Int × Int))) (q4 : Int) (q5 : List (Int × Int × Int × Int)) : Option (List (Int × Int × Int × Int)) :=
  (bif (decide (q4 < (81 : Int))) then (f174G K a0 ((w ((w (q4.tdiv (27 : Int))) - (1 : Int))), (w (((w (q4.tdiv (9 : Int))).tmod (3 : Int)) - (1 : Int))), (w (((w (q4.tdiv (3 : Int))).tmod (3 : Int)) - (1 : Int))), (w ((q4.tmod (3 : Int)) - (1 : Int))))).bind fun y6 => (bif y6 then (bif (Nat.ble (q5.length + [((w ((w (q4.tdiv (27 : Int))) - (1 : Int))), (w (((w (q4.tdiv (9 : Int))).tmod (3 : Int)) - (1 : Int))), (w (((w (q4.tdiv (3 : Int))).tmod (3 : Int)) - (1 : Int))), (w ((q4.tmod (3 : Int)) - (1 : Int))))].length) (lim 32)) then L3 (w (q4 + (1 : Int))) (q5 ++ [((w ((w (q4.tdiv (27 : Int))) - (1 : Int))), (w (((w (q4.tdiv (9 : Int))).tmod (3 : Int)) - (1 : Int))), (w (((w (q4.tdiv (3 : Int))).tmod (3 : Int)) - (1 : Int))), (w ((q4.tmod (3 : Int)) - (1 : Int))))]) else none) else L3 (w (q4 + (1 : Int))) q5) else some q5)
noncomputable def f133_l3 (K : Nat) (a0 : Int) (n : Nat) (q4 : Int) (q5 : List (Int × Int × Int × Int)) : Option (List (Int × Int × Int × Int)) :=
  iter (X := Int × List (Int × Int × Int × Int)) (fun L x => (fun L3 => f133_b3 K a0 L3 x.1 x.2) (fun v0 v1 => L (v0, v1))) n (q4, q5)
noncomputable def f133_fr3 (a0 : Int) (q4 : Int) (q5 : List (Int × Int × Int × Int)) : Fr := ⟨34, [(0, .v false [.int .i64 a0]), (2, .v false [.row 0]), (3, .v false [.row 1]), (4, .v false [.int .i64 q4])], [], [some ⟨86, (.cons (.int .i64) (.cons (.int .i64) (.cons (.int .i64) (.int .i64)))), [], .own⟩, some ⟨86, (.cons (.int .i64) (.cons (.int .i64) (.cons (.int .i64) (.int .i64)))), q5, .own⟩]⟩
noncomputable def f133_k3 (K : Nat) (a0 : Int) (lr : LR (List (Int × Int × Int × Int))) : Ex → Fr → Option (List (Int × Int × Int × Int)) :=
  contC (f133E K) 0 lr f133C [1, 1, 0, 1, 0] (finK (f133E K) Try.f133 [(.ro, (.int .i64))] [(.list 86 (.cons (.int .i64) (.cons (.int .i64) (.cons (.int .i64) (.int .i64)))))] (a0, ()))
noncomputable def f133_g (K : Nat) (a0 : Int) (I3 : Int → (List (Int × Int × Int × Int)) → Option (List (Int × Int × Int × Int))) : Option (List (Int × Int × Int × Int)) :=
  I3 (0 : Int) []
noncomputable def f133G (K : Nat) (a0 : Int) : Option (List (Int × Int × Int × Int)) :=
  f133_g K a0 (fun d0 d1 => f133_l3 K a0 K d0 d1)
noncomputable def f133M (K : Nat) : Mdl := ⟨[(.ro, (.int .i64))], [(.list 86 (.cons (.int .i64) (.cons (.int .i64) (.cons (.int .i64) (.int .i64)))))], fun x => f133G K x.1⟩
/-! spec.l04Image -/
noncomputable def f134E (K : Nat) : Env := ⟨[(136, f136M K), (138, f138M K), (158, f158M K)], tys, eqs, K, [0, 1, 2, 3, 4, 5]⟩
noncomputable def f134G (K : Nat) (a0 : Int × Int × Int × Int) (a1 : Int × Int × Int) : Option (Int × Int × Int) :=
  (f136G K a1).bind fun y1 => (bif (decide (0 ≤ (0 : Int)) && decide ((0 : Int) < (y1.length : Int))) then (f158G K a0 (y1.getD ((0 : Int) + (0 : Int)).toNat ((0 : Int), (0 : Int)))).bind fun y2 => (bif (decide (0 ≤ (1 : Int)) && decide ((1 : Int) < (y1.length : Int))) then (f158G K a0 (y1.getD ((0 : Int) + (1 : Int)).toNat ((0 : Int), (0 : Int)))).bind fun y3 => (f138G K [y2, y3]).bind fun y4 => some y4 else none) else none)
noncomputable def f134M (K : Nat) : Mdl := ⟨[(.ro, (.cons (.int .i64) (.cons (.int .i64) (.cons (.int .i64) (.int .i64))))), (.ro, (.cons (.int .i64) (.cons (.int .i64) (.int .i64))))], [(.cons (.int .i64) (.cons (.int .i64) (.int .i64)))], fun x => f134G K x.1 x.2.1⟩
/-! spec.l04Stable -/
noncomputable def f89C : Code := codeOf Try.f89
noncomputable def f89E (K : Nat) : Env := ⟨[(133, f133M K), (134, f134M K)], tys, eqs, K, [0, 1, 3, 4, 5, 6, 7, 14, 24]⟩
noncomputable def f89_b4 (K : Nat) (a0 : Int) (a1 : Int × Int × Int) (y1 : List (Int × Int × Int × Int)) (L4 : Int → (List (Int × Int × Int × Int)) → Option (List (Int × Int × Int × Int))) (q5 : Int) (q6 : List (Int × Int × Int × Int)) : Option (List (Int × Int × Int × Int)) :=
  (bif (decide (q5 < (y1.length : Int))) then (bif (decide (0 ≤ q5) && decide (q5 < (y1.length : Int))) then (f134G K ((y1.getD ((0 : Int) + q5).toNat ((0 : Int), ((0 : Int), ((0 : Int), (0 : Int))))).1, ((y1.getD ((0 : Int) + q5).toNat ((0 : Int), ((0 : Int), ((0 : Int), (0 : Int))))).2).1, (((y1.getD ((0 : Int) + q5).toNat ((0 : Int), ((0 : Int), ((0 : Int), (0 : Int))))).2).2)) a1).bind fun y7 => (bif ((y7.1 == a1.1) && ((y7.2.1 == a1.2.1) && (y7.2.2 == a1.2.2))) then (bif (decide (0 ≤ q5) && decide (q5 < (y1.length : Int))) then (bif (Nat.ble (q6.length + [((y1.getD ((0 : Int) + q5).toNat ((0 : Int), ((0 : Int), ((0 : Int), (0 : Int))))).1, ((y1.getD ((0 : Int) + q5).toNat ((0 : Int), ((0 : Int), ((0 : Int), (0 : Int))))).2).1, (((y1.getD ((0 : Int) + q5).toNat ((0 : Int), ((0 : Int), ((0 : Int), (0 : Int))))).2).2))].length) (lim 32)) then L4 (w (q5 + (1 : Int))) (q6 ++ [((y1.getD ((0 : Int) + q5).toNat ((0 : Int), ((0 : Int), ((0 : Int), (0 : Int))))).1, ((y1.getD ((0 : Int) + q5).toNat ((0 : Int), ((0 : Int), ((0 : Int), (0 : Int))))).2).1, (((y1.getD ((0 : Int) + q5).toNat ((0 : Int), ((0 : Int), ((0 : Int), (0 : Int))))).2).2))]) else none) else none) else L4 (w (q5 + (1 : Int))) q6) else none) else some q6)
noncomputable def f89_l4 (K : Nat) (a0 : Int) (a1 : Int × Int × Int) (y1 : List (Int × Int × Int × Int)) (n : Nat) (q5 : Int) (q6 : List (Int × Int × Int × Int)) : Option (List (Int × Int × Int × Int)) :=
  iter (X := Int × List (Int × Int × Int × Int)) (fun L x => (fun L4 => f89_b4 K a0 a1 y1 L4 x.1 x.2) (fun v0 v1 => L (v0, v1))) n (q5, q6)
noncomputable def f89_fr4 (a0 : Int) (a1 : Int × Int × Int) (y1 : List (Int × Int × Int × Int)) (q5 : Int) (q6 : List (Int × Int × Int × Int)) : Fr := ⟨33, [(0, .v false [.int .i64 a0]), (1, .v true [.int .i64 a1.1, .int .i64 a1.2.1, .int .i64 a1.2.2]), (3, .v false [.box 0 0]), (4, .v false [.row 0]), (5, .v false [.row 1]), (6, .v false [.row 2]), (7, .v false [.int .i64 q5])], [some ⟨true, [.int .i64 a1.1, .int .i64 a1.2.1, .int .i64 a1.2.2]⟩], [some ⟨86, (.cons (.int .i64) (.cons (.int .i64) (.cons (.int .i64) (.int .i64)))), [], .own⟩, some ⟨86, (.cons (.int .i64) (.cons (.int .i64) (.cons (.int .i64) (.int .i64)))), y1, .own⟩, some ⟨86, (.cons (.int .i64) (.cons (.int .i64) (.cons (.int .i64) (.int .i64)))), q6, .own⟩]⟩
noncomputable def f89_k4 (K : Nat) (a0 : Int) (a1 : Int × Int × Int) (lr : LR (List (Int × Int × Int × Int))) : Ex → Fr → Option (List (Int × Int × Int × Int)) :=
  contC (f89E K) 0 lr f89C [1, 1, 1, 0, 1, 0] (finK (f89E K) Try.f89 [(.ro, (.int .i64)), (.ro, (.cons (.int .i64) (.cons (.int .i64) (.int .i64))))] [(.list 86 (.cons (.int .i64) (.cons (.int .i64) (.cons (.int .i64) (.int .i64)))))] (a0, a1, ()))
noncomputable def f89_g (K : Nat) (a0 : Int) (a1 : Int × Int × Int) (I4 : (List (Int × Int × Int × Int)) → Int → (List (Int × Int × Int × Int)) → Option (List (Int × Int × Int × Int))) : Option (List (Int × Int × Int × Int)) :=
  (f133G K a0).bind fun y1 => I4 y1 (0 : Int) []
noncomputable def f89G (K : Nat) (a0 : Int) (a1 : Int × Int × Int) : Option (List (Int × Int × Int × Int)) :=
  f89_g K a0 a1 (fun c0 d0 d1 => f89_l4 K a0 a1 c0 K d0 d1)
noncomputable def f89M (K : Nat) : Mdl := ⟨[(.ro, (.int .i64)), (.ro, (.cons (.int .i64) (.cons (.int .i64) (.int .i64))))], [(.list 86 (.cons (.int .i64) (.cons (.int .i64) (.cons (.int .i64) (.int .i64)))))], fun x => f89G K x.1 x.2.1⟩
/-! spec.l10Group -/
noncomputable def f50C : Code := codeOf Try.f50
noncomputable def f50E (K : Nat) : Env := ⟨[(72, f72M K), (89, f89M K), (90, f90M K)], tys, eqs, K, [0, 1, 2, 3, 4, 5, 6, 7, 8, 21, 27, 41]⟩
noncomputable def f50_b13 (K : Nat) (a0 : Int × (Int × Int × Int) × List Int) (q11 : Int) (y1 : List (Int × Int × Int × Int)) (y2 : List (Int × Int)) (L10 : Int → (List ((Int × Int × Int × Int) × Int × Int)) → Option (List ((Int × Int × Int × Int) × Int × Int))) (L13 : Int → (List ((Int × Int × Int × Int) × Int × Int)) → Option (List ((Int × Int × Int × Int) × Int × Int))) (q14 : Int) (q15 : List ((Int × Int × Int × Int) × Int × Int)) : Option (List ((Int × Int × Int × Int) × Int × Int)) :=
  (bif (decide (q14 < (y2.length : Int))) then (bif (decide (0 ≤ q11) && decide (q11 < (y1.length : Int))) then (bif (decide (0 ≤ q14) && decide (q14 < (y2.length : Int))) then (f90G K a0 (((y1.getD ((0 : Int) + q11).toNat ((0 : Int), ((0 : Int), ((0 : Int), (0 : Int))))).1, ((y1.getD ((0 : Int) + q11).toNat ((0 : Int), ((0 : Int), ((0 : Int), (0 : Int))))).2).1, (((y1.getD ((0 : Int) + q11).toNat ((0 : Int), ((0 : Int), ((0 : Int), (0 : Int))))).2).2)), (y2.getD ((0 : Int) + q14).toNat ((0 : Int), (0 : Int))))).bind fun y16 => (bif y16 then (bif (Nat.ble (q15.length + [(((y1.getD ((0 : Int) + q11).toNat ((0 : Int), ((0 : Int), ((0 : Int), (0 : Int))))).1, ((y1.getD ((0 : Int) + q11).toNat ((0 : Int), ((0 : Int), ((0 : Int), (0 : Int))))).2).1, (((y1.getD ((0 : Int) + q11).toNat ((0 : Int), ((0 : Int), ((0 : Int), (0 : Int))))).2).2)), (y2.getD ((0 : Int) + q14).toNat ((0 : Int), (0 : Int))))].length) (lim 48)) then L13 (w (q14 + (1 : Int))) (q15 ++ [(((y1.getD ((0 : Int) + q11).toNat ((0 : Int), ((0 : Int), ((0 : Int), (0 : Int))))).1, ((y1.getD ((0 : Int) + q11).toNat ((0 : Int), ((0 : Int), ((0 : Int), (0 : Int))))).2).1, (((y1.getD ((0 : Int) + q11).toNat ((0 : Int), ((0 : Int), ((0 : Int), (0 : Int))))).2).2)), (y2.getD ((0 : Int) + q14).toNat ((0 : Int), (0 : Int))))]) else none) else L13 (w (q14 + (1 : Int))) q15) else none) else none) else L10 (w (q11 + (1 : Int))) q15)
noncomputable def f50_l13 (K : Nat) (a0 : Int × (Int × Int × Int) × List Int) (q11 : Int) (y1 : List (Int × Int × Int × Int)) (y2 : List (Int × Int)) (L10 : Int → (List ((Int × Int × Int × Int) × Int × Int)) → Option (List ((Int × Int × Int × Int) × Int × Int))) (n : Nat) (q14 : Int) (q15 : List ((Int × Int × Int × Int) × Int × Int)) : Option (List ((Int × Int × Int × Int) × Int × Int)) :=
  iter (X := Int × List ((Int × Int × Int × Int) × Int × Int)) (fun L x => (fun L13 => f50_b13 K a0 q11 y1 y2 L10 L13 x.1 x.2) (fun v0 v1 => L (v0, v1))) n (q14, q15)
noncomputable def f50_fr13 (a0 : Int × (Int × Int × Int) × List Int) (q11 : Int) (y1 : List (Int × Int × Int × Int)) (y2 : List (Int × Int)) (q14 : Int) (q15 : List ((Int × Int × Int × Int) × Int × Int)) : Fr := ⟨47, [(0, .v true [.int .i64 a0.1, .int .i64 a0.2.1.1, .int .i64 a0.2.1.2.1, .int .i64 a0.2.1.2.2, .row 0]), (1, .v false [.box 0 0]), (2, .v false [.row 1]), (3, .v false [.row 2]), (4, .v false [.row 3]), (5, .v false [.row 4]), (6, .v false [.int .i64 q11]), (7, .v false [.int .i64 q14]), (21, .v false [.bool (decide (q11 < (y1.length : Int)))])], [some ⟨true, [.int .i64 a0.1, .int .i64 a0.2.1.1, .int .i64 a0.2.1.2.1, .int .i64 a0.2.1.2.2, .row 0]⟩], [some ⟨2, (.int .i64), a0.2.2, .ro⟩, some ⟨88, (.cons (.cons (.int .i64) (.cons (.int .i64) (.cons (.int .i64) (.int .i64)))) (.cons (.int .i64) (.int .i64))), [], .own⟩, some ⟨86, (.cons (.int .i64) (.cons (.int .i64) (.cons (.int .i64) (.int .i64)))), y1, .own⟩, some ⟨60, (.cons (.int .i64) (.int .i64)), y2, .own⟩, some ⟨88, (.cons (.cons (.int .i64) (.cons (.int .i64) (.cons (.int .i64) (.int .i64)))) (.cons (.int .i64) (.int .i64))), q15, .own⟩]⟩
noncomputable def f50_b10 (K : Nat) (a0 : Int × (Int × Int × Int) × List Int) (y1 : List (Int × Int × Int × Int)) (y2 : List (Int × Int)) (I13 : Int → Int → (List ((Int × Int × Int × Int) × Int × Int)) → Option (List ((Int × Int × Int × Int) × Int × Int))) (L10 : Int → (List ((Int × Int × Int × Int) × Int × Int)) → Option (List ((Int × Int × Int × Int) × Int × Int))) (q11 : Int) (q12 : List ((Int × Int × Int × Int) × Int × Int)) : Option (List ((Int × Int × Int × Int) × Int × Int)) :=
  (bif (decide (q11 < (y1.length : Int))) then I13 q11 (0 : Int) q12 else some q12)
noncomputable def f50_l10 (K : Nat) (a0 : Int × (Int × Int × Int) × List Int) (y1 : List (Int × Int × Int × Int)) (y2 : List (Int × Int)) (n : Nat) (q11 : Int) (q12 : List ((Int × Int × Int × Int) × Int × Int)) : Option (List ((Int × Int × Int × Int) × Int × Int)) :=
  iter (X := Int × List ((Int × Int × Int × Int) × Int × Int)) (fun L x => (fun L10 => f50_b10 K a0 y1 y2 (fun c0 d0 d1 => f50_l13 K a0 c0 y1 y2 L10 K d0 d1) L10 x.1 x.2) (fun v0 v1 => L (v0, v1))) n (q11, q12)
noncomputable def f50_fr10 (a0 : Int × (Int × Int × Int) × List Int) (y1 : List (Int × Int × Int × Int)) (y2 : List (Int × Int)) (q11 : Int) (q12 : List ((Int × Int × Int × Int) × Int × Int)) : Fr := ⟨47, [(0, .v true [.int .i64 a0.1, .int .i64 a0.2.1.1, .int .i64 a0.2.1.2.1, .int .i64 a0.2.1.2.2, .row 0]), (1, .v false [.box 0 0]), (2, .v false [.row 1]), (3, .v false [.row 2]), (4, .v false [.row 3]), (5, .v false [.row 4]), (6, .v false [.int .i64 q11])], [some ⟨true, [.int .i64 a0.1, .int .i64 a0.2.1.1, .int .i64 a0.2.1.2.1, .int .i64 a0.2.1.2.2, .row 0]⟩], [some ⟨2, (.int .i64), a0.2.2, .ro⟩, some ⟨88, (.cons (.cons (.int .i64) (.cons (.int .i64) (.cons (.int .i64) (.int .i64)))) (.cons (.int .i64) (.int .i64))), [], .own⟩, some ⟨86, (.cons (.int .i64) (.cons (.int .i64) (.cons (.int .i64) (.int .i64)))), y1, .own⟩, some ⟨60, (.cons (.int .i64) (.int .i64)), y2, .own⟩, some ⟨88, (.cons (.cons (.int .i64) (.cons (.int .i64) (.cons (.int .i64) (.int .i64)))) (.cons (.int .i64) (.int .i64))), q12, .own⟩]⟩
noncomputable def f50_k10 (K : Nat) (a0 : Int × (Int × Int × Int) × List Int) (lr : LR (List ((Int × Int × Int × Int) × Int × Int))) : Ex → Fr → Option (List ((Int × Int × Int × Int) × Int × Int)) :=
  contC (f50E K) 1 lr f50C [1, 1, 1, 0, 1, 0] (finK (f50E K) Try.f50 [(.ro, (.cons (.int .i64) (.cons (.cons (.int .i64) (.cons (.int .i64) (.int .i64))) (.list 2 (.int .i64)))))] [(.list 88 (.cons (.cons (.int .i64) (.cons (.int .i64) (.cons (.int .i64) (.int .i64)))) (.cons (.int .i64) (.int .i64))))] (a0, ()))
noncomputable def f50_k13 (K : Nat) (a0 : Int × (Int × Int × Int) × List Int) (y1 : List (Int × Int × Int × Int)) (y2 : List (Int × Int)) (F10 : Fr → Option (List ((Int × Int × Int × Int) × Int × Int))) (bq11 : Int) (bq12 : List ((Int × Int × Int × Int) × Int × Int)) (lr : LR (List ((Int × Int × Int × Int) × Int × Int))) : Ex → Fr → Option (List ((Int × Int × Int × Int) × Int × Int)) :=
  contC (f50E K) 1 lr (selC f50C [1, 1, 1, 0, 1, 0, 0]) [1, 0, 0, 1, 0] (loopK 1 (f50_fr10 a0 y1 y2 bq11 bq12) F10 (f50_k10 K a0 lr))
noncomputable def f50_g (K : Nat) (a0 : Int × (Int × Int × Int) × List Int) (I10 : (List (Int × Int × Int × Int)) → (List (Int × Int)) → Int → (List ((Int × Int × Int × Int) × Int × Int)) → Option (List ((Int × Int × Int × Int) × Int × Int))) : Option (List ((Int × Int × Int × Int) × Int × Int)) :=
  (f89G K a0.1 a0.2.1).bind fun y1 => (f72G K a0.2.1).bind fun y2 => I10 y1 y2 (0 : Int) []
noncomputable def f50G (K : Nat) (a0 : Int × (Int × Int × Int) × List Int) : Option (List ((Int × Int × Int × Int) × Int × Int)) :=
  f50_g K a0 (fun c0 c1 d0 d1 => f50_l10 K a0 c0 c1 K d0 d1)
noncomputable def f50M (K : Nat) : Mdl := ⟨[(.ro, (.cons (.int .i64) (.cons (.cons (.int .i64) (.cons (.int .i64) (.int .i64))) (.list 2 (.int .i64)))))], [(.list 88 (.cons (.cons (.int .i64) (.cons (.int .i64) (.cons (.int .i64) (.int .i64)))) (.cons (.int .i64) (.int .i64))))], fun x => f50G K x.1⟩
/-! spec.l02Det -/
noncomputable def f52E (K : Nat) : Env := ⟨[], tys, eqs, K, [0, 1, 2]⟩
noncomputable def f52G (K : Nat) (a0 : Int × Int × Int × Int) : Option Int :=
  some (w ((w (a0.1 * a0.2.2.2)) - (w (a0.2.1 * a0.2.2.1))))
noncomputable def f52M (K : Nat) : Mdl := ⟨[(.ro, (.cons (.int .i64) (.cons (.int .i64) (.cons (.int .i64) (.int .i64)))))], [(.int .i64)], fun x => f52G K x.1⟩
/-! spec.IsHanded -/
noncomputable def f15C : Code := codeOf Try.f15
noncomputable def f15E (K : Nat) : Env := ⟨[(49, f49M K), (50, f50M K), (51, f51M K), (52, f52M K)], tys, eqs, K, [0, 1, 2, 3, 4, 5, 8, 15, 24]⟩
noncomputable def f15_b6 (K : Nat) (a0 : Int × (Int × Int × Int) × List Int) (y1 : Bool) (y3 : List ((Int × Int × Int × Int) × Int × Int)) (L6 : Int → Option (Bool × Int)) (q7 : Int) : Option (Bool × Int) :=
  (bif (decide (q7 < (y3.length : Int))) then (bif (decide (0 ≤ q7) && decide (q7 < (y3.length : Int))) then (f52G K (((y3.getD ((0 : Int) + q7).toNat (((0 : Int), ((0 : Int), ((0 : Int), (0 : Int)))), ((0 : Int), (0 : Int)))).1).1, (((y3.getD ((0 : Int) + q7).toNat (((0 : Int), ((0 : Int), ((0 : Int), (0 : Int)))), ((0 : Int), (0 : Int)))).1).2).1, ((((y3.getD ((0 : Int) + q7).toNat (((0 : Int), ((0 : Int), ((0 : Int), (0 : Int)))), ((0 : Int), (0 : Int)))).1).2).2))).bind fun y8 => (bif (y8 == (-1 : Int)) then some (false, (0 : Int)) else L6 (w (q7 + (1 : Int)))) else none) else some (true, (0 : Int)))
noncomputable def f15_l6 (K : Nat) (a0 : Int × (Int × Int × Int) × List Int) (y1 : Bool) (y3 : List ((Int × Int × Int × Int) × Int × Int)) (n : Nat) (q7 : Int) : Option (Bool × Int) :=
  iter (X := Int) (fun L x => (fun L6 => f15_b6 K a0 y1 y3 L6 x) (fun v0 => L v0)) n q7
noncomputable def f15_fr6 (a0 : Int × (Int × Int × Int) × List Int) (y1 : Bool) (y3 : List ((Int × Int × Int × Int) × Int × Int)) (q7 : Int) : Fr := ⟨25, [(0, .v true [.int .i64 a0.1, .int .i64 a0.2.1.1, .int .i64 a0.2.1.2.1, .int .i64 a0.2.1.2.2, .row 0]), (1, .v false [.box 0 0]), (2, .v false [.bool false]), (3, .v false [.int .i64 (0 : Int)]), (4, .v false [.row 1]), (5, .v false [.int .i64 q7]), (8, .v false [.bool (!y1)])], [some ⟨true, [.int .i64 a0.1, .int .i64 a0.2.1.1, .int .i64 a0.2.1.2.1, .int .i64 a0.2.1.2.2, .row 0]⟩], [some ⟨2, (.int .i64), a0.2.2, .ro⟩, some ⟨88, (.cons (.cons (.int .i64) (.cons (.int .i64) (.cons (.int .i64) (.int .i64)))) (.cons (.int .i64) (.int .i64))), y3, .own⟩]⟩
noncomputable def f15_k6 (K : Nat) (a0 : Int × (Int × Int × Int) × List Int) (lr : LR (Bool × Int)) : Ex → Fr → Option (Bool × Int) :=
  contC (f15E K) 1 lr f15C [1, 1, 1, 0, 1, 0] (finK (f15E K) Try.f15 [(.ro, (.cons (.int .i64) (.cons (.cons (.int .i64) (.cons (.int .i64) (.int .i64))) (.list 2 (.int .i64)))))] [.bool, (.int .i64)] (a0, ()))
noncomputable def f15_g (K : Nat) (a0 : Int × (Int × Int × Int) × List Int) (I6 : Bool → (List ((Int × Int × Int × Int) × Int × Int)) → Int → Option (Bool × Int)) : Option (Bool × Int) :=
  (f49G K a0).bind fun y1 => (bif (!y1) then some (false, (1 : Int)) else (f51G K a0).bind fun y2 => (f50G K y2).bind fun y3 => I6 y1 y3 (0 : Int))
noncomputable def f15G (K : Nat) (a0 : Int × (Int × Int × Int) × List Int) : Option (Bool × Int) :=
  f15_g K a0 (fun c0 c1 d0 => f15_l6 K a0 c0 c1 K d0)
noncomputable def f15M (K : Nat) : Mdl := ⟨[(.ro, (.cons (.int .i64) (.cons (.cons (.int .i64) (.cons (.int .i64) (.int .i64))) (.list 2 (.int .i64)))))], [.bool, (.int .i64)], fun x => f15G K x.1⟩
/-! impl.within -/
noncomputable def f114E (K : Nat) : Env := ⟨[], tys, eqs, K, [0, 1, 2, 6]⟩
noncomputable def f114G (K : Nat) (a0 : Int) (a1 : Int) (a2 : Int) : Option Bool :=
  (bif ((!(decide (a0 ≥ a1))) || true) then (bif ((!(decide (a0 ≥ a1))) || true) then (bif ((!(decide (a0 ≥ a1))) || true) then some (bif (decide (a0 ≥ a1)) then (decide (a0 ≤ a2)) else false) else none) else none) else none)
noncomputable def f114M (K : Nat) : Mdl := ⟨[(.ro, (.int .i64)), (.ro, (.int .i64)), (.ro, (.int .i64))], [.bool], fun x => f114G K x.1 x.2.1 x.2.2.1⟩
/-! impl.IsFrame -/
noncomputable def f93E (K : Nat) : Env := ⟨[(114, f114M K)], tys, eqs, K, [0, 2]⟩
noncomputable def f93G (K : Nat) (a0 : Int) : Option Bool :=
  (f114G K a0 (0 : Int) (1 : Int)).bind fun y1 => some y1
noncomputable def f93M (K : Nat) : Mdl := ⟨[(.ro, (.int .i64))], [.bool], fun x => f93G K x.1⟩
/-! (impl.Lattice).index -/
noncomputable def f95E (K : Nat) : Env := ⟨[], tys, eqs, K, [0, 1, 2]⟩
noncomputable def f95G (K : Nat) (a0 : Int × Int × Int) : Option Int :=
  some (w (a0.1 * a0.2.2))
noncomputable def f95M (K : Nat) : Mdl := ⟨[(.ro, (.cons (.int .i64) (.cons (.int .i64) (.int .i64))))], [(.int .i64)], fun x => f95G K x.1⟩
/-! impl.IsLattice -/
noncomputable def f94E (K : Nat) : Env := ⟨[(95, f95M K), (114, f114M K)], tys, eqs, K, [0, 1, 2]⟩
noncomputable def f94G (K : Nat) (a0 : Int × Int × Int) : Option Bool :=
  (f114G K a0.1 (1 : Int) (64 : Int)).bind fun y1 => (bif ((!y1) || true) then (bif ((!y1) || true) then ((bif y1 then f114G K a0.2.2 (1 : Int) (64 : Int) else some false)).bind fun y2 => (bif ((!(bif y1 then y2 else false)) || true) then (bif ((!(bif y1 then y2 else false)) || true) then (bif ((!(bif y1 then y2 else false)) || true) then (bif ((!(bif y1 then y2 else false)) || true) then (bif ((!(bif y1 then y2 else false)) || true) then ((bif (bif y1 then y2 else false) then f114G K a0.2.1 (0 : Int) (w (a0.1 - (1 : Int))) else some false)).bind fun y3 => (bif ((!(bif (bif y1 then y2 else false) then y3 else false)) || true) then ((bif (bif (bif y1 then y2 else false) then y3 else false) then f95G K a0 else some (0 : Int))).bind fun y4 => (bif ((!(bif (bif y1 then y2 else false) then y3 else false)) || true) then some (bif (bif (bif y1 then y2 else false) then y3 else false) then (decide (y4 ≤ (64 : Int))) else false) else none) else none) else none) else none) else none) else none) else none) else none) else none)
noncomputable def f94M (K : Nat) : Mdl := ⟨[(.ro, (.cons (.int .i64) (.cons (.int .i64) (.int .i64))))], [.bool], fun x => f94G K x.1⟩
/-! impl.allWithin$1 -/
noncomputable def f140E (K : Nat) : Env := ⟨[(114, f114M K)], tys, eqs, K, [0, 1, 2, 4]⟩
noncomputable def f140G (K : Nat) (a0 : Int) (a1 : Int) (a2 : Int) : Option Bool :=
  (f114G K a0 a1 a2).bind fun y1 => some (!y1)
noncomputable def f140M (K : Nat) : Mdl := ⟨[(.ro, (.int .i64)), (.cap, (.int .i64)), (.cap, (.int .i64))], [.bool], fun x => f140G K x.1 x.2.1 x.2.2.1⟩
/-! slices.IndexFunc[[]int64,int64] -/
noncomputable def f177C : Code := codeOf Try.f177
noncomputable def f177E (K : Nat) : Env := ⟨[], tys, eqs, K, [0, 1, 4, 5, 7, 8, 9, 16]⟩
noncomputable def f177_b3 (K : Nat) (a0 : List Int) (a1 : (Int → Option Bool)) (L3 : Int → Option Int) (q4 : Int) : Option Int :=
  (bif (decide (q4 < (a0.length : Int))) then (bif (decide (0 ≤ q4) && decide (q4 < (a0.length : Int))) then (a1 (a0.getD ((0 : Int) + q4).toNat (0 : Int))).bind fun y5 => (bif y5 then some q4 else L3 (w (q4 + (1 : Int)))) else none) else some (-1 : Int))
noncomputable def f177_l3 (K : Nat) (a0 : List Int) (a1 : (Int → Option Bool)) (n : Nat) (q4 : Int) : Option Int :=
  iter (X := Int) (fun L x => (fun L3 => f177_b3 K a0 a1 L3 x) (fun v0 => L v0)) n q4
noncomputable def f177_fr3 (a0 : List Int) (a1 : (Int → Option Bool)) (q4 : Int) : Fr := ⟨19, [(0, .v false [.row 0]), (1, .v false [.fv1 (.int .i64) .bool a1]), (4, .v false [.int .i64 (0 : Int)]), (7, .v false [.int .i64 (a0.length : Int)]), (8, .v false [.int .i64 q4])], [], [some ⟨2, (.int .i64), a0, .ro⟩]⟩
noncomputable def f177_k3 (K : Nat) (a0 : List Int) (a1 : (Int → Option Bool)) (lr : LR Int) : Ex → Fr → Option Int :=
  contC (f177E K) 1 lr f177C [1, 0, 1, 0] (finK (f177E K) Try.f177 [(.ro, (.list 2 (.int .i64))), (.ro, (.fn1 (.int .i64) .bool))] [(.int .i64)] (a0, a1, ()))
noncomputable def f177_g (K : Nat) (a0 : List Int) (a1 : (Int → Option Bool)) (I3 : Int → Option Int) : Option Int :=
  I3 (0 : Int)
noncomputable def f177G (K : Nat) (a0 : List Int) (a1 : (Int → Option Bool)) : Option Int :=
  f177_g K a0 a1 (fun d0 => f177_l3 K a0 a1 K d0)
noncomputable def f177M (K : Nat) : Mdl := ⟨[(.ro, (.list 2 (.int .i64))), (.ro, (.fn1 (.int .i64) .bool))], [(.int .i64)], fun x => f177G K x.1 x.2.1⟩
/-! slices.ContainsFunc[[]int64,int64] -/
noncomputable def f139E (K : Nat) : Env := ⟨[(177, f177M K)], tys, eqs, K, [0, 1, 4]⟩
noncomputable def f139G (K : Nat) (a0 : List Int) (a1 : (Int → Option Bool)) : Option Bool :=
  (f177G K a0 a1).bind fun y1 => some (decide (y1 ≥ (0 : Int)))
noncomputable def f139M (K : Nat) : Mdl := ⟨[(.ro, (.list 2 (.int .i64))), (.ro, (.fn1 (.int .i64) .bool))], [.bool], fun x => f139G K x.1 x.2.1⟩
/-! impl.allWithin -/
noncomputable def f96E (K : Nat) : Env := ⟨[(139, f139M K), (140, f140M K)], tys, eqs, K, [0, 1, 2, 4, 5, 6]⟩
noncomputable def f96G (K : Nat) (a0 : List Int) (a1 : Int) (a2 : Int) : Option Bool :=
  (f139G K a0 (fun z1 => f140G K z1 a1 a2)).bind fun y2 => some (!y2)
noncomputable def f96M (K : Nat) : Mdl := ⟨[(.ro, (.list 2 (.int .i64))), (.ro, (.int .i64)), (.ro, (.int .i64))], [.bool], fun x => f96G K x.1 x.2.1 x.2.2.1⟩
/-! impl.IsPattern -/
noncomputable def f54E (K : Nat) : Env := ⟨[(93, f93M K), (94, f94M K), (95, f95M K), (96, f96M K)], tys, eqs, K, [0, 1, 2]⟩
noncomputable def f54G (K : Nat) (a0 : Int × (Int × Int × Int) × List Int) : Option Bool :=
  (f93G K a0.1).bind fun y1 => (bif ((!y1) || true) then (bif ((!y1) || true) then ((bif y1 then f94G K a0.2.1 else some false)).bind fun y2 => (bif ((!(bif y1 then y2 else false)) || true) then (bif ((!(bif y1 then y2 else false)) || true) then (bif ((!(bif y1 then y2 else false)) || true) then (bif ((!(bif y1 then y2 else false)) || true) then (bif ((!(bif y1 then y2 else false)) || true) then ((bif (bif y1 then y2 else false) then f95G K a0.2.1 else some (0 : Int))).bind fun y3 => (bif ((!(bif y1 then y2 else false)) || true) then (bif ((!(bif (bif y1 then y2 else false) then ((a0.2.2.length : Int) == y3) else false)) || true) then (bif ((!(bif (bif y1 then y2 else false) then ((a0.2.2.length : Int) == y3) else false)) || true) then ((bif (bif (bif y1 then y2 else false) then ((a0.2.2.length : Int) == y3) else false) then f96G K a0.2.2 (0 : Int) (9 : Int) else some false)).bind fun y4 => some (bif (bif (bif y1 then y2 else false) then ((a0.2.2.length : Int) == y3) else false) then y4 else false) else none) else none) else none) else none) else none) else none) else none) else none) else none) else none)
noncomputable def f54M (K : Nat) : Mdl := ⟨[(.ro, (.cons (.int .i64) (.cons (.cons (.int .i64) (.cons (.int .i64) (.int .i64))) (.list 2 (.int .i64)))))], [.bool], fun x => f54G K x.1⟩
/-! (impl.Lattice).basis -/
noncomputable def f142E (K : Nat) : Env := ⟨[], tys, eqs, K, [0, 1, 2, 3]⟩
noncomputable def f142G (K : Nat) (a0 : Int × Int × Int) : Option ((Int × Int) × Int × Int) :=
  some ((a0.1, (0 : Int)), a0.2)
noncomputable def f142M (K : Nat) : Mdl := ⟨[(.ro, (.cons (.int .i64) (.cons (.int .i64) (.int .i64))))], [(.cons (.int .i64) (.int .i64)), (.cons (.int .i64) (.int .i64))], fun x => f142G K x.1⟩
/-! (impl.Lattice).cells -/
noncomputable def f75C : Code := codeOf Try.f75
noncomputable def f75E (K : Nat) : Env := ⟨[], tys, eqs, K, [0, 1, 2, 3, 4, 5, 8, 9, 10, 13, 14, 15]⟩
noncomputable def f75_b9 (K : Nat) (a0 : Int × Int × Int) (q7 : Int) (L6 : Int → (List (Int × Int)) → Option (List (Int × Int))) (L9 : Int → (List (Int × Int)) → Option (List (Int × Int))) (q10 : Int) (q11 : List (Int × Int)) : Option (List (Int × Int)) :=
  (bif (decide (q10 < a0.2.2)) then (bif (Nat.ble (q11.length + [(q7, q10)].length) (lim 16)) then L9 (w (q10 + (1 : Int))) (q11 ++ [(q7, q10)]) else none) else L6 (w (q7 + (1 : Int))) q11)
noncomputable def f75_l9 (K : Nat) (a0 : Int × Int × Int) (q7 : Int) (L6 : Int → (List (Int × Int)) → Option (List (Int × Int))) (n : Nat) (q10 : Int) (q11 : List (Int × Int)) : Option (List (Int × Int)) :=
  iter (X := Int × List (Int × Int)) (fun L x => (fun L9 => f75_b9 K a0 q7 L6 L9 x.1 x.2) (fun v0 v1 => L (v0, v1))) n (q10, q11)
noncomputable def f75_fr9 (a0 : Int × Int × Int) (q7 : Int) (q10 : Int) (q11 : List (Int × Int)) : Fr := ⟨26, [(0, .v true [.int .i64 a0.1, .int .i64 a0.2.1, .int .i64 a0.2.2]), (1, .v false [.box 0 0]), (2, .v false [.row 0]), (3, .v false [.row 1]), (4, .v false [.int .i64 q7]), (8, .v false [.int .i64 a0.1]), (9, .v false [.int .i64 q7]), (10, .v false [.bool (decide (q7 < a0.1))]), (13, .v false [.int .i64 a0.2.2]), (14, .v false [.int .i64 q10])], [some ⟨true, [.int .i64 a0.1, .int .i64 a0.2.1, .int .i64 a0.2.2]⟩], [some ⟨60, (.cons (.int .i64) (.int .i64)), [], .own⟩, some ⟨60, (.cons (.int .i64) (.int .i64)), q11, .own⟩]⟩
noncomputable def f75_b6 (K : Nat) (a0 : Int × Int × Int) (I9 : Int → Int → (List (Int × Int)) → Option (List (Int × Int))) (L6 : Int → (List (Int × Int)) → Option (List (Int × Int))) (q7 : Int) (q8 : List (Int × Int)) : Option (List (Int × Int)) :=
  (bif (decide (q7 < a0.1)) then I9 q7 (0 : Int) q8 else some q8)
noncomputable def f75_l6 (K : Nat) (a0 : Int × Int × Int) (n : Nat) (q7 : Int) (q8 : List (Int × Int)) : Option (List (Int × Int)) :=
  iter (X := Int × List (Int × Int)) (fun L x => (fun L6 => f75_b6 K a0 (fun c0 d0 d1 => f75_l9 K a0 c0 L6 K d0 d1) L6 x.1 x.2) (fun v0 v1 => L (v0, v1))) n (q7, q8)
noncomputable def f75_fr6 (a0 : Int × Int × Int) (q7 : Int) (q8 : List (Int × Int)) : Fr := ⟨26, [(0, .v true [.int .i64 a0.1, .int .i64 a0.2.1, .int .i64 a0.2.2]), (1, .v false [.box 0 0]), (2, .v false [.row 0]), (3, .v false [.row 1]), (8, .v false [.int .i64 a0.1]), (9, .v false [.int .i64 q7])], [some ⟨true, [.int .i64 a0.1, .int .i64 a0.2.1, .int .i64 a0.2.2]⟩], [some ⟨60, (.cons (.int .i64) (.int .i64)), [], .own⟩, some ⟨60, (.cons (.int .i64) (.int .i64)), q8, .own⟩]⟩
noncomputable def f75_k6 (K : Nat) (a0 : Int × Int × Int) (lr : LR (List (Int × Int))) : Ex → Fr → Option (List (Int × Int)) :=
  contC (f75E K) 0 lr f75C [1, 1, 0, 1, 0] (finK (f75E K) Try.f75 [(.ro, (.cons (.int .i64) (.cons (.int .i64) (.int .i64))))] [(.list 60 (.cons (.int .i64) (.int .i64)))] (a0, ()))
noncomputable def f75_k9 (K : Nat) (a0 : Int × Int × Int) (F6 : Fr → Option (List (Int × Int))) (bq7 : Int) (bq8 : List (Int × Int)) (lr : LR (List (Int × Int))) : Ex → Fr → Option (List (Int × Int)) :=
  contC (f75E K) 0 lr (selC f75C [1, 1, 0, 1, 0, 0]) [1, 1, 0, 0, 1, 1, 0] (loopK 0 (f75_fr6 a0 bq7 bq8) F6 (f75_k6 K a0 lr))
noncomputable def f75_g (K : Nat) (a0 : Int × Int × Int) (I6 : Int → (List (Int × Int)) → Option (List (Int × Int))) : Option (List (Int × Int)) :=
  I6 (0 : Int) []
noncomputable def f75G (K : Nat) (a0 : Int × Int × Int) : Option (List (Int × Int)) :=
  f75_g K a0 (fun d0 d1 => f75_l6 K a0 K d0 d1)
noncomputable def f75M (K : Nat) : Mdl := ⟨[(.ro, (.cons (.int .i64) (.cons (.int .i64) (.int .i64))))], [(.list 60 (.cons (.int .i64) (.int .i64)))], fun x => f75G K x.1⟩
/-! impl.unit -/
noncomputable def f119E (K : Nat) : Env := ⟨[], tys, eqs, K, [0]⟩
noncomputable def f119G (K : Nat) : Option (Int × Int × Int × Int) :=
  some ((1 : Int), (0 : Int), (0 : Int), (1 : Int))
noncomputable def f119M (K : Nat) : Mdl := ⟨[], [(.cons (.int .i64) (.cons (.int .i64) (.cons (.int .i64) (.int .i64))))], fun x => f119G K ⟩
/-! (impl.Mat).apply -/
noncomputable def f165E (K : Nat) : Env := ⟨[], tys, eqs, K, [0, 1, 2, 3, 4]⟩
noncomputable def f165G (K : Nat) (a0 : Int × Int × Int × Int) (a1 : Int × Int) : Option (Int × Int) :=
  some ((w ((w (a0.1 * a1.1)) + (w (a0.2.1 * a1.2)))), (w ((w (a0.2.2.1 * a1.1)) + (w (a0.2.2.2 * a1.2)))))
noncomputable def f165M (K : Nat) : Mdl := ⟨[(.ro, (.cons (.int .i64) (.cons (.int .i64) (.cons (.int .i64) (.int .i64))))), (.ro, (.cons (.int .i64) (.int .i64)))], [(.cons (.int .i64) (.int .i64))], fun x => f165G K x.1 x.2.1⟩
/-! (impl.Vec).add -/
noncomputable def f178E (K : Nat) : Env := ⟨[], tys, eqs, K, [0, 1, 2, 3, 4]⟩
noncomputable def f178G (K : Nat) (a0 : Int × Int) (a1 : Int × Int) : Option (Int × Int) :=
  some ((w (a0.1 + a1.1)), (w (a0.2 + a1.2)))
noncomputable def f178M (K : Nat) : Mdl := ⟨[(.ro, (.cons (.int .i64) (.int .i64))), (.ro, (.cons (.int .i64) (.int .i64)))], [(.cons (.int .i64) (.int .i64))], fun x => f178G K x.1 x.2.1⟩
/-! (impl.Motion).apply -/
noncomputable def f160E (K : Nat) : Env := ⟨[(165, f165M K), (178, f178M K)], tys, eqs, K, [0, 1, 2, 3, 4]⟩
noncomputable def f160G (K : Nat) (a0 : (Int × Int × Int × Int) × Int × Int) (a1 : Int × Int) : Option (Int × Int) :=
  (f165G K a0.1 a1).bind fun y1 => (f178G K y1 a0.2).bind fun y2 => some y2
noncomputable def f160M (K : Nat) : Mdl := ⟨[(.ro, (.cons (.cons (.int .i64) (.cons (.int .i64) (.cons (.int .i64) (.int .i64)))) (.cons (.int .i64) (.int .i64)))), (.ro, (.cons (.int .i64) (.int .i64)))], [(.cons (.int .i64) (.int .i64))], fun x => f160G K x.1 x.2.1⟩
/-! impl.mod -/
noncomputable def f180E (K : Nat) : Env := ⟨[], tys, eqs, K, [0, 1, 4]⟩
noncomputable def f180G (K : Nat) (a0 : Int) (a1 : Int) : Option Int :=
  (bif (a1 != 0) then (bif (a1 != 0) then some ((w ((a0.tmod a1) + a1)).tmod a1) else none) else none)
noncomputable def f180M (K : Nat) : Mdl := ⟨[(.ro, (.int .i64)), (.ro, (.int .i64))], [(.int .i64)], fun x => f180G K x.1 x.2.1⟩
/-! (impl.Lattice).reduce -/
noncomputable def f159E (K : Nat) : Env := ⟨[(180, f180M K)], tys, eqs, K, [0, 1, 2, 3, 4, 5]⟩
noncomputable def f159G (K : Nat) (a0 : Int × Int × Int) (a1 : Int × Int) : Option (Int × Int) :=
  (f180G K a1.2 a0.2.2).bind fun y1 => (bif (a0.2.2 != 0) then (f180G K (w (a1.1 - (w ((w ((w (a1.2 - y1)).tdiv a0.2.2)) * a0.2.1)))) a0.1).bind fun y2 => some (y2, y1) else none)
noncomputable def f159M (K : Nat) : Mdl := ⟨[(.ro, (.cons (.int .i64) (.cons (.int .i64) (.int .i64)))), (.ro, (.cons (.int .i64) (.int .i64)))], [(.cons (.int .i64) (.int .i64))], fun x => f159G K x.1 x.2.1⟩
/-! (impl.Lattice).number -/
noncomputable def f173E (K : Nat) : Env := ⟨[], tys, eqs, K, [0, 1, 2, 3, 4]⟩
noncomputable def f173G (K : Nat) (a0 : Int × Int × Int) (a1 : Int × Int) : Option Int :=
  some (w ((w (a1.1 * a0.2.2)) + a1.2))
noncomputable def f173M (K : Nat) : Mdl := ⟨[(.ro, (.cons (.int .i64) (.cons (.int .i64) (.int .i64)))), (.ro, (.cons (.int .i64) (.int .i64)))], [(.int .i64)], fun x => f173G K x.1 x.2.1⟩
/-! (impl.Pattern).at -/
noncomputable def f141E (K : Nat) : Env := ⟨[(159, f159M K), (173, f173M K)], tys, eqs, K, [0, 1, 2, 3, 4]⟩
noncomputable def f141G (K : Nat) (a0 : Int × (Int × Int × Int) × List Int) (a1 : Int × Int) : Option Int :=
  (f159G K a0.2.1 a1).bind fun y1 => (f173G K a0.2.1 y1).bind fun y2 => (bif (decide (0 ≤ y2) && decide (y2 < (a0.2.2.length : Int))) then some (a0.2.2.getD ((0 : Int) + y2).toNat (0 : Int)) else none)
noncomputable def f141M (K : Nat) : Mdl := ⟨[(.ro, (.cons (.int .i64) (.cons (.cons (.int .i64) (.cons (.int .i64) (.int .i64))) (.list 2 (.int .i64))))), (.ro, (.cons (.int .i64) (.int .i64)))], [(.int .i64)], fun x => f141G K x.1 x.2.1⟩
/-! (impl.Pattern).keeps -/
noncomputable def f117C : Code := codeOf Try.f117
noncomputable def f117E (K : Nat) : Env := ⟨[(75, f75M K), (141, f141M K), (160, f160M K)], tys, eqs, K, [0, 1, 2, 3, 4, 5, 6, 9, 10, 11, 12, 26]⟩
noncomputable def f117_b5 (K : Nat) (a0 : Int × (Int × Int × Int) × List Int) (a1 : (Int × Int × Int × Int) × Int × Int) (y1 : List (Int × Int)) (L5 : Int → Option Bool) (q6 : Int) : Option Bool :=
  (bif (decide (q6 < (y1.length : Int))) then (bif (decide (0 ≤ q6) && decide (q6 < (y1.length : Int))) then (f160G K a1 (y1.getD ((0 : Int) + q6).toNat ((0 : Int), (0 : Int)))).bind fun y7 => (f141G K a0 y7).bind fun y8 => (bif (decide (0 ≤ q6) && decide (q6 < (a0.2.2.length : Int))) then (bif (y8 != (a0.2.2.getD ((0 : Int) + q6).toNat (0 : Int))) then some false else L5 (w (q6 + (1 : Int)))) else none) else none) else some true)
noncomputable def f117_l5 (K : Nat) (a0 : Int × (Int × Int × Int) × List Int) (a1 : (Int × Int × Int × Int) × Int × Int) (y1 : List (Int × Int)) (n : Nat) (q6 : Int) : Option Bool :=
  iter (X := Int) (fun L x => (fun L5 => f117_b5 K a0 a1 y1 L5 x) (fun v0 => L v0)) n q6
noncomputable def f117_fr5 (a0 : Int × (Int × Int × Int) × List Int) (a1 : (Int × Int × Int × Int) × Int × Int) (y1 : List (Int × Int)) (q6 : Int) : Fr := ⟨28, [(0, .v true [.int .i64 a0.1, .int .i64 a0.2.1.1, .int .i64 a0.2.1.2.1, .int .i64 a0.2.1.2.2, .row 0]), (1, .v true [.int .i64 a1.1.1, .int .i64 a1.1.2.1, .int .i64 a1.1.2.2.1, .int .i64 a1.1.2.2.2, .int .i64 a1.2.1, .int .i64 a1.2.2]), (2, .v false [.box 0 0]), (3, .v false [.box 1 0]), (4, .v false [.bool false]), (9, .v false [.row 1]), (10, .v false [.int .i64 (y1.length : Int)]), (11, .v false [.int .i64 q6])], [some ⟨true, [.int .i64 a0.1, .int .i64 a0.2.1.1, .int .i64 a0.2.1.2.1, .int .i64 a0.2.1.2.2, .row 0]⟩, some ⟨true, [.int .i64 a1.1.1, .int .i64 a1.1.2.1, .int .i64 a1.1.2.2.1, .int .i64 a1.1.2.2.2, .int .i64 a1.2.1, .int .i64 a1.2.2]⟩], [some ⟨2, (.int .i64), a0.2.2, .ro⟩, some ⟨60, (.cons (.int .i64) (.int .i64)), y1, .own⟩]⟩
noncomputable def f117_k5 (K : Nat) (a0 : Int × (Int × Int × Int) × List Int) (a1 : (Int × Int × Int × Int) × Int × Int) (lr : LR Bool) : Ex → Fr → Option Bool :=
  contC (f117E K) 1 lr f117C [1, 0, 1, 0] (finK (f117E K) Try.f117 [(.ro, (.cons (.int .i64) (.cons (.cons (.int .i64) (.cons (.int .i64) (.int .i64))) (.list 2 (.int .i64))))), (.ro, (.cons (.cons (.int .i64) (.cons (.int .i64) (.cons (.int .i64) (.int .i64)))) (.cons (.int .i64) (.int .i64))))] [.bool] (a0, a1, ()))
noncomputable def f117_g (K : Nat) (a0 : Int × (Int × Int × Int) × List Int) (a1 : (Int × Int × Int × Int) × Int × Int) (I5 : (List (Int × Int)) → Int → Option Bool) : Option Bool :=
  (f75G K a0.2.1).bind fun y1 => I5 y1 (0 : Int)
noncomputable def f117G (K : Nat) (a0 : Int × (Int × Int × Int) × List Int) (a1 : (Int × Int × Int × Int) × Int × Int) : Option Bool :=
  f117_g K a0 a1 (fun c0 d0 => f117_l5 K a0 a1 c0 K d0)
noncomputable def f117M (K : Nat) : Mdl := ⟨[(.ro, (.cons (.int .i64) (.cons (.cons (.int .i64) (.cons (.int .i64) (.int .i64))) (.list 2 (.int .i64))))), (.ro, (.cons (.cons (.int .i64) (.cons (.int .i64) (.cons (.int .i64) (.int .i64)))) (.cons (.int .i64) (.int .i64))))], [.bool], fun x => f117G K x.1 x.2.1⟩
/-! (impl.Vec).times -/
noncomputable def f179E (K : Nat) : Env := ⟨[], tys, eqs, K, [0, 1, 2, 4]⟩
noncomputable def f179G (K : Nat) (a0 : Int × Int) (a1 : Int) : Option (Int × Int) :=
  some ((w (a1 * a0.1)), (w (a1 * a0.2)))
noncomputable def f179M (K : Nat) : Mdl := ⟨[(.ro, (.cons (.int .i64) (.int .i64))), (.ro, (.int .i64))], [(.cons (.int .i64) (.int .i64))], fun x => f179G K x.1 x.2.1⟩
/-! impl.gcd -/
noncomputable def f146C : Code := codeOf Try.f146
noncomputable def f146E (K : Nat) : Env := ⟨[], tys, eqs, K, [0, 1, 4, 6]⟩
noncomputable def f146_b2 (K : Nat) (L2 : Int → Int → Option Int) (q3 : Int) (q4 : Int) : Option Int :=
  (bif (q4 != (0 : Int)) then (bif (q4 != 0) then L2 q4 (q3.tmod q4) else none) else some (if (w (0 - q3)) > q3 then (w (0 - q3)) else q3))
noncomputable def f146_l2 (K : Nat) (n : Nat) (q3 : Int) (q4 : Int) : Option Int :=
  iter (X := Int × Int) (fun L x => (fun L2 => f146_b2 K L2 x.1 x.2) (fun v0 v1 => L (v0, v1))) n (q3, q4)
noncomputable def f146_fr2 (q3 : Int) (q4 : Int) : Fr := ⟨15, [(0, .v false [.int .i64 q3]), (1, .v false [.int .i64 q4]), (4, .v false [.int .i64 (0 : Int)])], [], []⟩
noncomputable def f146_k2 (K : Nat) (a0 : Int) (a1 : Int) (lr : LR Int) : Ex → Fr → Option Int :=
  contC (f146E K) 0 lr f146C [1, 0, 0] (finK (f146E K) Try.f146 [(.ro, (.int .i64)), (.ro, (.int .i64))] [(.int .i64)] (a0, a1, ()))
noncomputable def f146_g (K : Nat) (a0 : Int) (a1 : Int) (I2 : Int → Int → Option Int) : Option Int :=
  I2 a0 a1
noncomputable def f146G (K : Nat) (a0 : Int) (a1 : Int) : Option Int :=
  f146_g K a0 a1 (fun d0 d1 => f146_l2 K K d0 d1)
noncomputable def f146M (K : Nat) : Mdl := ⟨[(.ro, (.int .i64)), (.ro, (.int .i64))], [(.int .i64)], fun x => f146G K x.1 x.2.1⟩
/-! impl.latticeOf -/
noncomputable def f143C : Code := codeOf Try.f143
noncomputable def f143E (K : Nat) : Env := ⟨[(146, f146M K), (178, f178M K), (179, f179M K), (180, f180M K)], tys, eqs, K, [0, 2, 3, 4, 6, 7, 9, 10, 11, 12, 17, 37]⟩
noncomputable def f143_b18 (K : Nat) (a0 : List (Int × Int)) (q14 : Int) (q15 : Int) (L13 : Int → Int → Int → Int → Option (Int × Int × Int)) (L18 : Int → Int → Int → Int → Option (Int × Int × Int)) (q19 : Int) (q20 : Int) (q21 : Int) (q22 : Int) : Option (Int × Int × Int) :=
  (bif (q22 != (0 : Int)) then (bif (q22 != 0) then (f179G K (q21, q22) (w (0 - (w (q20.tdiv q22))))).bind fun y23 => (f178G K (q19, q20) y23).bind fun y24 => L18 q21 q22 y24.1 y24.2 else none) else (f146G K q14 q21).bind fun y25 => L13 y25 (w (q15 + (1 : Int))) q19 q20)
noncomputable def f143_l18 (K : Nat) (a0 : List (Int × Int)) (q14 : Int) (q15 : Int) (L13 : Int → Int → Int → Int → Option (Int × Int × Int)) (n : Nat) (q19 : Int) (q20 : Int) (q21 : Int) (q22 : Int) : Option (Int × Int × Int) :=
  iter (X := Int × Int × Int × Int) (fun L x => (fun L18 => f143_b18 K a0 q14 q15 L13 L18 x.1 x.2.1 x.2.2.1 x.2.2.2) (fun v0 v1 v2 v3 => L (v0, v1, v2, v3))) n (q19, q20, q21, q22)
noncomputable def f143_fr18 (a0 : List (Int × Int)) (q14 : Int) (q15 : Int) (q19 : Int) (q20 : Int) (q21 : Int) (q22 : Int) : Fr := ⟨48, [(0, .v false [.row 0]), (2, .v false [.box 0 0]), (3, .v false [.int .i64 q14]), (4, .v false [.box 1 0]), (6, .v false [.box 2 0]), (9, .v false [.row 0]), (10, .v false [.int .i64 (a0.length : Int)]), (11, .v false [.int .i64 q15]), (12, .v false [.bool (decide (q15 < (a0.length : Int)))])], [some ⟨true, [.int .i64 (0 : Int), .int .i64 (0 : Int), .int .i64 (0 : Int)]⟩, some ⟨true, [.int .i64 q19, .int .i64 q20]⟩, some ⟨true, [.int .i64 q21, .int .i64 q22]⟩], [some ⟨60, (.cons (.int .i64) (.int .i64)), a0, .ro⟩]⟩
noncomputable def f143_b13 (K : Nat) (a0 : List (Int × Int)) (I18 : Int → Int → Int → Int → Int → Int → Option (Int × Int × Int)) (L13 : Int → Int → Int → Int → Option (Int × Int × Int)) (q14 : Int) (q15 : Int) (q16 : Int) (q17 : Int) : Option (Int × Int × Int) :=
  (bif (decide (q15 < (a0.length : Int))) then (bif (decide (0 ≤ q15) && decide (q15 < (a0.length : Int))) then I18 q14 q15 q16 q17 ((a0.getD ((0 : Int) + q15).toNat ((0 : Int), (0 : Int))).1) ((a0.getD ((0 : Int) + q15).toNat ((0 : Int), (0 : Int))).2) else none) else (bif (decide (q17 < (0 : Int))) then (f179G K (q16, q17) (-1 : Int)).bind fun y26 => (f180G K y26.1 q14).bind fun y27 => some (q14, y27, y26.2) else (f180G K q16 q14).bind fun y28 => some (q14, y28, q17)))
noncomputable def f143_l13 (K : Nat) (a0 : List (Int × Int)) (n : Nat) (q14 : Int) (q15 : Int) (q16 : Int) (q17 : Int) : Option (Int × Int × Int) :=
  iter (X := Int × Int × Int × Int) (fun L x => (fun L13 => f143_b13 K a0 (fun c0 c1 d0 d1 d2 d3 => f143_l18 K a0 c0 c1 L13 K d0 d1 d2 d3) L13 x.1 x.2.1 x.2.2.1 x.2.2.2) (fun v0 v1 v2 v3 => L (v0, v1, v2, v3))) n (q14, q15, q16, q17)
noncomputable def f143_fr13 (a0 : List (Int × Int)) (q14 : Int) (q15 : Int) (q16 : Int) (q17 : Int) : Fr := ⟨48, [(0, .v false [.row 0]), (2, .v false [.box 0 0]), (3, .v false [.int .i64 q14]), (4, .v false [.box 1 0]), (9, .v false [.row 0]), (10, .v false [.int .i64 (a0.length : Int)]), (11, .v false [.int .i64 q15])], [some ⟨true, [.int .i64 (0 : Int), .int .i64 (0 : Int), .int .i64 (0 : Int)]⟩, some ⟨true, [.int .i64 q16, .int .i64 q17]⟩], [some ⟨60, (.cons (.int .i64) (.int .i64)), a0, .ro⟩]⟩
noncomputable def f143_k13 (K : Nat) (a0 : List (Int × Int)) (lr : LR (Int × Int × Int)) : Ex → Fr → Option (Int × Int × Int) :=
  contC (f143E K) 1 lr f143C [1, 1, 0, 1, 0] (finK (f143E K) Try.f143 [(.ro, (.list 60 (.cons (.int .i64) (.int .i64))))] [(.cons (.int .i64) (.cons (.int .i64) (.int .i64)))] (a0, ()))
noncomputable def f143_k18 (K : Nat) (a0 : List (Int × Int)) (F13 : Fr → Option (Int × Int × Int)) (bq14 : Int) (bq15 : Int) (bq16 : Int) (bq17 : Int) (lr : LR (Int × Int × Int)) : Ex → Fr → Option (Int × Int × Int) :=
  contC (f143E K) 1 lr (selC f143C [1, 1, 0, 1, 0, 0]) [1, 1, 0, 0, 1, 0, 0] (loopK 1 (f143_fr13 a0 bq14 bq15 bq16 bq17) F13 (f143_k13 K a0 lr))
noncomputable def f143_g (K : Nat) (a0 : List (Int × Int)) (I13 : Int → Int → Int → Int → Option (Int × Int × Int)) : Option (Int × Int × Int) :=
  I13 (0 : Int) (0 : Int) (0 : Int) (0 : Int)
noncomputable def f143G (K : Nat) (a0 : List (Int × Int)) : Option (Int × Int × Int) :=
  f143_g K a0 (fun d0 d1 d2 d3 => f143_l13 K a0 K d0 d1 d2 d3)
noncomputable def f143M (K : Nat) : Mdl := ⟨[(.ro, (.list 60 (.cons (.int .i64) (.int .i64))))], [(.cons (.int .i64) (.cons (.int .i64) (.int .i64)))], fun x => f143G K x.1⟩
/-! (impl.Pattern).fullLattice -/
noncomputable def f98C : Code := codeOf Try.f98
noncomputable def f98E (K : Nat) : Env := ⟨[(75, f75M K), (117, f117M K), (119, f119M K), (142, f142M K), (143, f143M K)], tys, eqs, K, [0, 1, 2, 3, 4, 5, 7, 19, 20, 21, 22, 29]⟩
noncomputable def f98_b6 (K : Nat) (a0 : Int × (Int × Int × Int) × List Int) (y1 : (Int × Int) × Int × Int) (y2 : List (Int × Int)) (L6 : Int → (List (Int × Int)) → Option (Int × Int × Int)) (q7 : Int) (q8 : List (Int × Int)) : Option (Int × Int × Int) :=
  (bif (decide (q7 < (y2.length : Int))) then (bif (decide (0 ≤ q7) && decide (q7 < (y2.length : Int))) then (f119G K).bind fun y9 => (f117G K a0 (y9, (y2.getD ((0 : Int) + q7).toNat ((0 : Int), (0 : Int))))).bind fun y10 => (bif y10 then (bif (Nat.ble (q8.length + [(y2.getD ((0 : Int) + q7).toNat ((0 : Int), (0 : Int)))].length) (lim 16)) then L6 (w (q7 + (1 : Int))) (q8 ++ [(y2.getD ((0 : Int) + q7).toNat ((0 : Int), (0 : Int)))]) else none) else L6 (w (q7 + (1 : Int))) q8) else none) else (f143G K q8).bind fun y11 => some y11)
noncomputable def f98_l6 (K : Nat) (a0 : Int × (Int × Int × Int) × List Int) (y1 : (Int × Int) × Int × Int) (y2 : List (Int × Int)) (n : Nat) (q7 : Int) (q8 : List (Int × Int)) : Option (Int × Int × Int) :=
  iter (X := Int × List (Int × Int)) (fun L x => (fun L6 => f98_b6 K a0 y1 y2 L6 x.1 x.2) (fun v0 v1 => L (v0, v1))) n (q7, q8)
noncomputable def f98_fr6 (a0 : Int × (Int × Int × Int) × List Int) (y1 : (Int × Int) × Int × Int) (y2 : List (Int × Int)) (q7 : Int) (q8 : List (Int × Int)) : Fr := ⟨37, [(0, .v true [.int .i64 a0.1, .int .i64 a0.2.1.1, .int .i64 a0.2.1.2.1, .int .i64 a0.2.1.2.2, .row 0]), (1, .v false [.box 0 0]), (2, .v false [.box 1 0]), (3, .v false [.box 2 0]), (4, .v false [.box 3 0]), (5, .v false [.row 1]), (19, .v false [.row 2]), (20, .v false [.int .i64 (y2.length : Int)]), (21, .v false [.int .i64 q7])], [some ⟨true, [.int .i64 a0.1, .int .i64 a0.2.1.1, .int .i64 a0.2.1.2.1, .int .i64 a0.2.1.2.2, .row 0]⟩, some ⟨true, [.int .i64 (0 : Int), .int .i64 (0 : Int), .int .i64 (0 : Int)]⟩, some ⟨true, [.int .i64 y1.1.1, .int .i64 y1.1.2]⟩, some ⟨true, [.int .i64 y1.2.1, .int .i64 y1.2.2]⟩], [some ⟨2, (.int .i64), a0.2.2, .ro⟩, some ⟨60, (.cons (.int .i64) (.int .i64)), q8, .own⟩, some ⟨60, (.cons (.int .i64) (.int .i64)), y2, .own⟩]⟩
noncomputable def f98_k6 (K : Nat) (a0 : Int × (Int × Int × Int) × List Int) (lr : LR (Int × Int × Int)) : Ex → Fr → Option (Int × Int × Int) :=
  contC (f98E K) 1 lr f98C [1, 1, 1, 0, 1, 0] (finK (f98E K) Try.f98 [(.ro, (.cons (.int .i64) (.cons (.cons (.int .i64) (.cons (.int .i64) (.int .i64))) (.list 2 (.int .i64)))))] [(.cons (.int .i64) (.cons (.int .i64) (.int .i64)))] (a0, ()))
noncomputable def f98_g (K : Nat) (a0 : Int × (Int × Int × Int) × List Int) (I6 : ((Int × Int) × Int × Int) → (List (Int × Int)) → Int → (List (Int × Int)) → Option (Int × Int × Int)) : Option (Int × Int × Int) :=
  (f142G K a0.2.1).bind fun y1 => (f75G K a0.2.1).bind fun y2 => I6 y1 y2 (0 : Int) [y1.1, y1.2]
noncomputable def f98G (K : Nat) (a0 : Int × (Int × Int × Int) × List Int) : Option (Int × Int × Int) :=
  f98_g K a0 (fun c0 c1 d0 d1 => f98_l6 K a0 c0 c1 K d0 d1)
noncomputable def f98M (K : Nat) : Mdl := ⟨[(.ro, (.cons (.int .i64) (.cons (.cons (.int .i64) (.cons (.int .i64) (.int .i64))) (.list 2 (.int .i64)))))], [(.cons (.int .i64) (.cons (.int .i64) (.int .i64)))], fun x => f98G K x.1⟩
/-! (impl.Pattern).spread -/
noncomputable def f97C : Code := codeOf Try.f97
noncomputable def f97E (K : Nat) : Env := ⟨[(75, f75M K), (141, f141M K)], tys, eqs, K, [0, 1, 2, 3, 4, 5, 7, 13, 14, 15, 16]⟩
noncomputable def f97_b4 (K : Nat) (a0 : Int × (Int × Int × Int) × List Int) (a1 : Int × Int × Int) (y1 : List (Int × Int)) (L4 : Int → (List Int) → Option (Int × (Int × Int × Int) × List Int)) (q5 : Int) (q6 : List Int) : Option (Int × (Int × Int × Int) × List Int) :=
  (bif (decide (q5 < (y1.length : Int))) then (bif (decide (0 ≤ q5) && decide (q5 < (y1.length : Int))) then (f141G K a0 (y1.getD ((0 : Int) + q5).toNat ((0 : Int), (0 : Int)))).bind fun y7 => (bif (Nat.ble (q6.length + [y7].length) (lim 8)) then L4 (w (q5 + (1 : Int))) (q6 ++ [y7]) else none) else none) else some (a0.1, a1, q6))
noncomputable def f97_l4 (K : Nat) (a0 : Int × (Int × Int × Int) × List Int) (a1 : Int × Int × Int) (y1 : List (Int × Int)) (n : Nat) (q5 : Int) (q6 : List Int) : Option (Int × (Int × Int × Int) × List Int) :=
  iter (X := Int × List Int) (fun L x => (fun L4 => f97_b4 K a0 a1 y1 L4 x.1 x.2) (fun v0 v1 => L (v0, v1))) n (q5, q6)
noncomputable def f97_fr4 (a0 : Int × (Int × Int × Int) × List Int) (a1 : Int × Int × Int) (y1 : List (Int × Int)) (q5 : Int) (q6 : List Int) : Fr := ⟨29, [(0, .v true [.int .i64 a0.1, .int .i64 a0.2.1.1, .int .i64 a0.2.1.2.1, .int .i64 a0.2.1.2.2, .row 0]), (1, .v true [.int .i64 a1.1, .int .i64 a1.2.1, .int .i64 a1.2.2]), (2, .v false [.box 0 0]), (3, .v false [.box 1 0]), (4, .v false [.box 2 0]), (5, .v false [.box 3 0]), (13, .v false [.row 1]), (14, .v false [.int .i64 (y1.length : Int)]), (15, .v false [.int .i64 q5])], [some ⟨true, [.int .i64 a0.1, .int .i64 a0.2.1.1, .int .i64 a0.2.1.2.1, .int .i64 a0.2.1.2.2, .row 0]⟩, some ⟨true, [.int .i64 a1.1, .int .i64 a1.2.1, .int .i64 a1.2.2]⟩, some ⟨true, [.int .i64 (0 : Int), .int .i64 (0 : Int), .int .i64 (0 : Int), .int .i64 (0 : Int), .row 2]⟩, some ⟨true, [.int .i64 a0.1, .int .i64 a1.1, .int .i64 a1.2.1, .int .i64 a1.2.2, .row 3]⟩], [some ⟨2, (.int .i64), a0.2.2, .ro⟩, some ⟨60, (.cons (.int .i64) (.int .i64)), y1, .own⟩, some ⟨2, (.int .i64), [], .own⟩, some ⟨2, (.int .i64), q6, .own⟩]⟩
noncomputable def f97_k4 (K : Nat) (a0 : Int × (Int × Int × Int) × List Int) (a1 : Int × Int × Int) (lr : LR (Int × (Int × Int × Int) × List Int)) : Ex → Fr → Option (Int × (Int × Int × Int) × List Int) :=
  contC (f97E K) 1 lr f97C [1, 1, 0, 1, 0] (finK (f97E K) Try.f97 [(.ro, (.cons (.int .i64) (.cons (.cons (.int .i64) (.cons (.int .i64) (.int .i64))) (.list 2 (.int .i64))))), (.ro, (.cons (.int .i64) (.cons (.int .i64) (.int .i64))))] [(.cons (.int .i64) (.cons (.cons (.int .i64) (.cons (.int .i64) (.int .i64))) (.list 2 (.int .i64))))] (a0, a1, ()))
noncomputable def f97_g (K : Nat) (a0 : Int × (Int × Int × Int) × List Int) (a1 : Int × Int × Int) (I4 : (List (Int × Int)) → Int → (List Int) → Option (Int × (Int × Int × Int) × List Int)) : Option (Int × (Int × Int × Int) × List Int) :=
  (f75G K a1).bind fun y1 => I4 y1 (0 : Int) []
noncomputable def f97G (K : Nat) (a0 : Int × (Int × Int × Int) × List Int) (a1 : Int × Int × Int) : Option (Int × (Int × Int × Int) × List Int) :=
  f97_g K a0 a1 (fun c0 d0 d1 => f97_l4 K a0 a1 c0 K d0 d1)
noncomputable def f97M (K : Nat) : Mdl := ⟨[(.ro, (.cons (.int .i64) (.cons (.cons (.int .i64) (.cons (.int .i64) (.int .i64))) (.list 2 (.int .i64))))), (.ro, (.cons (.int .i64) (.cons (.int .i64) (.int .i64))))], [(.cons (.int .i64) (.cons (.cons (.int .i64) (.cons (.int .i64) (.int .i64))) (.list 2 (.int .i64))))], fun x => f97G K x.1 x.2.1⟩
/-! (impl.Pattern).lean -/
noncomputable def f55E (K : Nat) : Env := ⟨[(97, f97M K), (98, f98M K)], tys, eqs, K, [0, 1, 2]⟩
noncomputable def f55G (K : Nat) (a0 : Int × (Int × Int × Int) × List Int) : Option (Int × (Int × Int × Int) × List Int) :=
  (f98G K a0).bind fun y1 => (f97G K a0 y1).bind fun y2 => some y2
noncomputable def f55M (K : Nat) : Mdl := ⟨[(.ro, (.cons (.int .i64) (.cons (.cons (.int .i64) (.cons (.int .i64) (.int .i64))) (.list 2 (.int .i64)))))], [(.cons (.int .i64) (.cons (.cons (.int .i64) (.cons (.int .i64) (.int .i64))) (.list 2 (.int .i64))))], fun x => f55G K x.1⟩
/-! impl.norm -/
noncomputable def f194E (K : Nat) : Env := ⟨[], tys, eqs, K, [0, 1, 3, 4]⟩
noncomputable def f194G (K : Nat) (a0 : Int) (a1 : Int × Int) : Option Int :=
  some (w ((w ((w (a1.1 * a1.1)) + (w ((w (a0 * a1.1)) * a1.2)))) + (w (a1.2 * a1.2))))
noncomputable def f194M (K : Nat) : Mdl := ⟨[(.ro, (.int .i64)), (.ro, (.cons (.int .i64) (.int .i64)))], [(.int .i64)], fun x => f194G K x.1 x.2.1⟩
/-! impl.pointMats -/
noncomputable def f162C : Code := codeOf Try.f162
noncomputable def f162E (K : Nat) : Env := ⟨[(165, f165M K), (194, f194M K)], tys, eqs, K, [0, 2, 3, 4, 5, 6, 7, 8, 10, 11, 54]⟩
noncomputable def f162_b8 (K : Nat) (a0 : Int) (L8 : Int → (List (Int × Int × Int × Int)) → Option (List (Int × Int × Int × Int))) (q9 : Int) (q10 : List (Int × Int × Int × Int)) : Option (List (Int × Int × Int × Int)) :=
  (bif (decide (q9 < (81 : Int))) then (f165G K ((w ((w (q9.tdiv (27 : Int))) - (1 : Int))), (w (((w (q9.tdiv (9 : Int))).tmod (3 : Int)) - (1 : Int))), (w (((w (q9.tdiv (3 : Int))).tmod (3 : Int)) - (1 : Int))), (w ((q9.tmod (3 : Int)) - (1 : Int)))) ((1 : Int), (0 : Int))).bind fun y11 => (f165G K ((w ((w (q9.tdiv (27 : Int))) - (1 : Int))), (w (((w (q9.tdiv (9 : Int))).tmod (3 : Int)) - (1 : Int))), (w (((w (q9.tdiv (3 : Int))).tmod (3 : Int)) - (1 : Int))), (w ((q9.tmod (3 : Int)) - (1 : Int)))) ((0 : Int), (1 : Int))).bind fun y12 => (f165G K ((w ((w (q9.tdiv (27 : Int))) - (1 : Int))), (w (((w (q9.tdiv (9 : Int))).tmod (3 : Int)) - (1 : Int))), (w (((w (q9.tdiv (3 : Int))).tmod (3 : Int)) - (1 : Int))), (w ((q9.tmod (3 : Int)) - (1 : Int)))) ((1 : Int), (1 : Int))).bind fun y13 => (f194G K a0 y11).bind fun y14 => (bif ((!(y14 == (1 : Int))) || true) then (bif ((!(y14 == (1 : Int))) || true) then ((bif (y14 == (1 : Int)) then f194G K a0 y12 else some (0 : Int))).bind fun y15 => (bif ((!(y14 == (1 : Int))) || true) then (bif ((!(bif (y14 == (1 : Int)) then (y15 == (1 : Int)) else false)) || true) then (bif ((!(bif (y14 == (1 : Int)) then (y15 == (1 : Int)) else false)) || true) then ((bif (bif (y14 == (1 : Int)) then (y15 == (1 : Int)) else false) then f194G K a0 y13 else some (0 : Int))).bind fun y16 => (bif ((!(bif (y14 == (1 : Int)) then (y15 == (1 : Int)) else false)) || true) then (bif ((!(bif (y14 == (1 : Int)) then (y15 == (1 : Int)) else false)) || true) then (bif ((!(bif (y14 == (1 : Int)) then (y15 == (1 : Int)) else false)) || true) then (bif (bif (bif (y14 == (1 : Int)) then (y15 == (1 : Int)) else false) then (y16 == (w ((2 : Int) + a0))) else false) then (bif (Nat.ble (q10.length + [((w ((w (q9.tdiv (27 : Int))) - (1 : Int))), (w (((w (q9.tdiv (9 : Int))).tmod (3 : Int)) - (1 : Int))), (w (((w (q9.tdiv (3 : Int))).tmod (3 : Int)) - (1 : Int))), (w ((q9.tmod (3 : Int)) - (1 : Int))))].length) (lim 32)) then L8 (w (q9 + (1 : Int))) (q10 ++ [((w ((w (q9.tdiv (27 : Int))) - (1 : Int))), (w (((w (q9.tdiv (9 : Int))).tmod (3 : Int)) - (1 : Int))), (w (((w (q9.tdiv (3 : Int))).tmod (3 : Int)) - (1 : Int))), (w ((q9.tmod (3 : Int)) - (1 : Int))))]) else none) else L8 (w (q9 + (1 : Int))) q10) else none) else none) else none) else none) else none) else none) else none) else none) else some q10)
noncomputable def f162_l8 (K : Nat) (a0 : Int) (n : Nat) (q9 : Int) (q10 : List (Int × Int × Int × Int)) : Option (List (Int × Int × Int × Int)) :=
  iter (X := Int × List (Int × Int × Int × Int)) (fun L x => (fun L8 => f162_b8 K a0 L8 x.1 x.2) (fun v0 v1 => L (v0, v1))) n (q9, q10)
noncomputable def f162_fr8 (a0 : Int) (q9 : Int) (q10 : List (Int × Int × Int × Int)) : Fr := ⟨61, [(0, .v false [.int .i64 a0]), (2, .v false [.row 0]), (3, .v false [.row 1]), (10, .v false [.int .i64 q9])], [], [some ⟨86, (.cons (.int .i64) (.cons (.int .i64) (.cons (.int .i64) (.int .i64)))), [], .own⟩, some ⟨86, (.cons (.int .i64) (.cons (.int .i64) (.cons (.int .i64) (.int .i64)))), q10, .own⟩]⟩
noncomputable def f162_k8 (K : Nat) (a0 : Int) (lr : LR (List (Int × Int × Int × Int))) : Ex → Fr → Option (List (Int × Int × Int × Int)) :=
  contC (f162E K) 0 lr f162C [1, 1, 0, 1, 0] (finK (f162E K) Try.f162 [(.ro, (.int .i64))] [(.list 86 (.cons (.int .i64) (.cons (.int .i64) (.cons (.int .i64) (.int .i64)))))] (a0, ()))
noncomputable def f162_g (K : Nat) (a0 : Int) (I8 : Int → (List (Int × Int × Int × Int)) → Option (List (Int × Int × Int × Int))) : Option (List (Int × Int × Int × Int)) :=
  I8 (0 : Int) []
noncomputable def f162G (K : Nat) (a0 : Int) : Option (List (Int × Int × Int × Int)) :=
  f162_g K a0 (fun d0 d1 => f162_l8 K a0 K d0 d1)
noncomputable def f162M (K : Nat) : Mdl := ⟨[(.ro, (.int .i64))], [(.list 86 (.cons (.int .i64) (.cons (.int .i64) (.cons (.int .i64) (.int .i64)))))], fun x => f162G K x.1⟩
/-! (impl.Lattice).has -/
noncomputable def f164E (K : Nat) : Env := ⟨[(159, f159M K)], tys, eqs, K, [0, 1, 2, 3, 4]⟩
noncomputable def f164G (K : Nat) (a0 : Int × Int × Int) (a1 : Int × Int) : Option Bool :=
  (f159G K a0 a1).bind fun y1 => some ((y1.1 == (0 : Int)) && (y1.2 == (0 : Int)))
noncomputable def f164M (K : Nat) : Mdl := ⟨[(.ro, (.cons (.int .i64) (.cons (.int .i64) (.int .i64)))), (.ro, (.cons (.int .i64) (.int .i64)))], [.bool], fun x => f164G K x.1 x.2.1⟩
/-! impl.latticeMats$1 -/
noncomputable def f163E (K : Nat) : Env := ⟨[(164, f164M K), (165, f165M K)], tys, eqs, K, [0, 1, 2, 3, 4, 5]⟩
noncomputable def f163G (K : Nat) (a0 : Int × Int × Int × Int) (a1 : Int × Int × Int) (a2 : Int × Int) (a3 : Int × Int) : Option Bool :=
  (f165G K a0 a2).bind fun y1 => (f164G K a1 y1).bind fun y2 => (bif ((!(!(!y2))) || true) then (bif ((!(!(!y2))) || true) then (bif ((!(!(!y2))) || true) then ((bif (!(!y2)) then f165G K a0 a3 else some ((0 : Int), (0 : Int)))).bind fun y3 => ((bif (!(!y2)) then f164G K a1 y3 else some false)).bind fun y4 => (bif ((!(!(!y2))) || true) then some (bif (!y2) then true else (!y4)) else none) else none) else none) else none)
noncomputable def f163M (K : Nat) : Mdl := ⟨[(.ro, (.cons (.int .i64) (.cons (.int .i64) (.cons (.int .i64) (.int .i64))))), (.cap, (.cons (.int .i64) (.cons (.int .i64) (.int .i64)))), (.cap, (.cons (.int .i64) (.int .i64))), (.cap, (.cons (.int .i64) (.int .i64)))], [.bool], fun x => f163G K x.1 x.2.1 x.2.2.1 x.2.2.2.1⟩
/-! slices.IndexFunc[[]impl.Mat,impl.Mat] -/
noncomputable def f193C : Code := codeOf Try.f193
noncomputable def f193E (K : Nat) : Env := ⟨[], tys, eqs, K, [0, 1, 4, 5, 7, 8, 9, 16]⟩
noncomputable def f193_b3 (K : Nat) (a0 : List (Int × Int × Int × Int)) (a1 : ((Int × Int × Int × Int) → Option Bool)) (L3 : Int → Option Int) (q4 : Int) : Option Int :=
  (bif (decide (q4 < (a0.length : Int))) then (bif (decide (0 ≤ q4) && decide (q4 < (a0.length : Int))) then (a1 ((a0.getD ((0 : Int) + q4).toNat ((0 : Int), ((0 : Int), ((0 : Int), (0 : Int))))).1, ((a0.getD ((0 : Int) + q4).toNat ((0 : Int), ((0 : Int), ((0 : Int), (0 : Int))))).2).1, (((a0.getD ((0 : Int) + q4).toNat ((0 : Int), ((0 : Int), ((0 : Int), (0 : Int))))).2).2))).bind fun y5 => (bif y5 then some q4 else L3 (w (q4 + (1 : Int)))) else none) else some (-1 : Int))
noncomputable def f193_l3 (K : Nat) (a0 : List (Int × Int × Int × Int)) (a1 : ((Int × Int × Int × Int) → Option Bool)) (n : Nat) (q4 : Int) : Option Int :=
  iter (X := Int) (fun L x => (fun L3 => f193_b3 K a0 a1 L3 x) (fun v0 => L v0)) n q4
noncomputable def f193_fr3 (a0 : List (Int × Int × Int × Int)) (a1 : ((Int × Int × Int × Int) → Option Bool)) (q4 : Int) : Fr := ⟨19, [(0, .v false [.row 0]), (1, .v false [.fv1 (.cons (.int .i64) (.cons (.int .i64) (.cons (.int .i64) (.int .i64)))) .bool a1]), (4, .v false [.int .i64 (0 : Int)]), (7, .v false [.int .i64 (a0.length : Int)]), (8, .v false [.int .i64 q4])], [], [some ⟨86, (.cons (.int .i64) (.cons (.int .i64) (.cons (.int .i64) (.int .i64)))), a0, .ro⟩]⟩
noncomputable def f193_k3 (K : Nat) (a0 : List (Int × Int × Int × Int)) (a1 : ((Int × Int × Int × Int) → Option Bool)) (lr : LR Int) : Ex → Fr → Option Int :=
  contC (f193E K) 1 lr f193C [1, 0, 1, 0] (finK (f193E K) Try.f193 [(.ro, (.list 86 (.cons (.int .i64) (.cons (.int .i64) (.cons (.int .i64) (.int .i64)))))), (.ro, (.fn1 (.cons (.int .i64) (.cons (.int .i64) (.cons (.int .i64) (.int .i64)))) .bool))] [(.int .i64)] (a0, a1, ()))
noncomputable def f193_g (K : Nat) (a0 : List (Int × Int × Int × Int)) (a1 : ((Int × Int × Int × Int) → Option Bool)) (I3 : Int → Option Int) : Option Int :=
  I3 (0 : Int)
noncomputable def f193G (K : Nat) (a0 : List (Int × Int × Int × Int)) (a1 : ((Int × Int × Int × Int) → Option Bool)) : Option Int :=
  f193_g K a0 a1 (fun d0 => f193_l3 K a0 a1 K d0)
noncomputable def f193M (K : Nat) : Mdl := ⟨[(.ro, (.list 86 (.cons (.int .i64) (.cons (.int .i64) (.cons (.int .i64) (.int .i64)))))), (.ro, (.fn1 (.cons (.int .i64) (.cons (.int .i64) (.cons (.int .i64) (.int .i64)))) .bool))], [(.int .i64)], fun x => f193G K x.1 x.2.1⟩
/-! slices.DeleteFunc[[]impl.Mat,impl.Mat] -/
noncomputable def f161C : Code := codeOf Try.f161
noncomputable def f161E (K : Nat) : Env := ⟨[(193, f193M K)], tys, eqs, K, [0, 1, 4, 5, 6, 7, 12, 19, 29]⟩
noncomputable def f161_b4 (K : Nat) (a1 : ((Int × Int × Int × Int) → Option Bool)) (y1 : Int) (L4 : Int → Int → (List (Int × Int × Int × Int)) → Option (List (Int × Int × Int × Int))) (q5 : Int) (q6 : Int) (q7 : List (Int × Int × Int × Int)) : Option (List (Int × Int × Int × Int)) :=
  (bif (decide (q6 < (q7.length : Int))) then (bif (decide (0 ≤ q6) && decide (q6 < (q7.length : Int))) then (a1 ((q7.getD ((0 : Int) + q6).toNat ((0 : Int), ((0 : Int), ((0 : Int), (0 : Int))))).1, ((q7.getD ((0 : Int) + q6).toNat ((0 : Int), ((0 : Int), ((0 : Int), (0 : Int))))).2).1, (((q7.getD ((0 : Int) + q6).toNat ((0 : Int), ((0 : Int), ((0 : Int), (0 : Int))))).2).2))).bind fun y8 => (bif (!y8) then (bif (decide (0 ≤ q5) && decide (q5 < (q7.length : Int))) then L4 (w (q5 + (1 : Int))) (w (q6 + (1 : Int))) (q7.set ((0 : Int) + q5).toNat ((q7.getD ((0 : Int) + q6).toNat ((0 : Int), ((0 : Int), ((0 : Int), (0 : Int))))).1, ((q7.getD ((0 : Int) + q6).toNat ((0 : Int), ((0 : Int), ((0 : Int), (0 : Int))))).2).1, (((q7.getD ((0 : Int) + q6).toNat ((0 : Int), ((0 : Int), ((0 : Int), (0 : Int))))).2).2))) else none) else L4 q5 (w (q6 + (1 : Int))) q7) else none) else (bif (decide (0 ≤ q5) && decide (q5 ≤ (q7.length : Int)) && decide ((q7.length : Int) ≤ (q7.length : Int))) then (bif (decide (0 ≤ (0 : Int)) && decide ((0 : Int) ≤ q5) && decide (q5 ≤ ((clr q7 ((0 : Int) + q5).toNat (((0 : Int) + q5) + (((0 : Int) + (q7.length : Int)) - ((0 : Int) + q5))).toNat ((0 : Int), ((0 : Int), ((0 : Int), (0 : Int))))).length : Int))) then some ((clr q7 ((0 : Int) + q5).toNat (((0 : Int) + q5) + (((0 : Int) + (q7.length : Int)) - ((0 : Int) + q5))).toNat ((0 : Int), ((0 : Int), ((0 : Int), (0 : Int))))).take ((0 : Int) + q5).toNat) else none) else none))
noncomputable def f161_l4 (K : Nat) (a1 : ((Int × Int × Int × Int) → Option Bool)) (y1 : Int) (n : Nat) (q5 : Int) (q6 : Int) (q7 : List (Int × Int × Int × Int)) : Option (List (Int × Int × Int × Int)) :=
  iter (X := Int × Int × List (Int × Int × Int × Int)) (fun L x => (fun L4 => f161_b4 K a1 y1 L4 x.1 x.2.1 x.2.2) (fun v0 v1 v2 => L (v0, v1, v2))) n (q5, q6, q7)
noncomputable def f161_fr4 (a1 : ((Int × Int × Int × Int) → Option Bool)) (y1 : Int) (q5 : Int) (q6 : Int) (q7 : List (Int × Int × Int × Int)) : Fr := ⟨42, [(0, .v false [.row 0]), (1, .v false [.fv1 (.cons (.int .i64) (.cons (.int .i64) (.cons (.int .i64) (.int .i64)))) .bool a1]), (4, .v false [.row 1]), (5, .v false [.int .i64 q5]), (6, .v false [.int .i64 q6]), (12, .v false [.bool (y1 == (-1 : Int))])], [], [some ⟨86, (.cons (.int .i64) (.cons (.int .i64) (.cons (.int .i64) (.int .i64)))), q7, .own⟩, some ⟨86, (.cons (.int .i64) (.cons (.int .i64) (.cons (.int .i64) (.int .i64)))), [], .own⟩]⟩
noncomputable def f161_k4 (K : Nat) (a0 : List (Int × Int × Int × Int)) (a1 : ((Int × Int × Int × Int) → Option Bool)) (lr : LR (List (Int × Int × Int × Int))) : Ex → Fr → Option (List (Int × Int × Int × Int)) :=
  contC (f161E K) 1 lr f161C [1, 1, 1, 0, 1, 0] (finK (f161E K) Try.f161 [(.mv, (.list 86 (.cons (.int .i64) (.cons (.int .i64) (.cons (.int .i64) (.int .i64)))))), (.ro, (.fn1 (.cons (.int .i64) (.cons (.int .i64) (.cons (.int .i64) (.int .i64)))) .bool))] [(.list 86 (.cons (.int .i64) (.cons (.int .i64) (.cons (.int .i64) (.int .i64)))))] (a0, a1, ()))
noncomputable def f161_g (K : Nat) (a0 : List (Int × Int × Int × Int)) (a1 : ((Int × Int × Int × Int) → Option Bool)) (I4 : Int → Int → Int → (List (Int × Int × Int × Int)) → Option (List (Int × Int × Int × Int))) : Option (List (Int × Int × Int × Int)) :=
  (f193G K a0 a1).bind fun y1 => (bif (y1 == (-1 : Int)) then some a0 else I4 y1 y1 (w (y1 + (1 : Int))) a0)
noncomputable def f161G (K : Nat) (a0 : List (Int × Int × Int × Int)) (a1 : ((Int × Int × Int × Int) → Option Bool)) : Option (List (Int × Int × Int × Int)) :=
  f161_g K a0 a1 (fun c0 d0 d1 d2 => f161_l4 K a1 c0 K d0 d1 d2)
noncomputable def f161M (K : Nat) : Mdl := ⟨[(.mv, (.list 86 (.cons (.int .i64) (.cons (.int .i64) (.cons (.int .i64) (.int .i64)))))), (.ro, (.fn1 (.cons (.int .i64) (.cons (.int .i64) (.cons (.int .i64) (.int .i64)))) .bool))], [(.list 86 (.cons (.int .i64) (.cons (.int .i64) (.cons (.int .i64) (.int .i64)))))], fun x => f161G K x.1 x.2.1⟩
/-! impl.latticeMats -/
noncomputable def f116E (K : Nat) : Env := ⟨[(142, f142M K), (161, f161M K), (162, f162M K), (163, f163M K)], tys, eqs, K, [0, 1, 3, 4, 5, 6]⟩
noncomputable def f116G (K : Nat) (a0 : Int) (a1 : Int × Int × Int) : Option (List (Int × Int × Int × Int)) :=
  (f142G K a1).bind fun y1 => (f162G K a0).bind fun y2 => (f161G K y2 (fun z3 => f163G K z3 a1 y1.1 y1.2)).bind fun y4 => some y4
noncomputable def f116M (K : Nat) : Mdl := ⟨[(.ro, (.int .i64)), (.ro, (.cons (.int .i64) (.cons (.int .i64) (.int .i64))))], [(.list 86 (.cons (.int .i64) (.cons (.int .i64) (.cons (.int .i64) (.int .i64)))))], fun x => f116G K x.1 x.2.1⟩
/-! (impl.Pattern).groupOf -/
noncomputable def f69C : Code := codeOf Try.f69
noncomputable def f69E (K : Nat) : Env := ⟨[(75, f75M K), (116, f116M K), (117, f117M K)], tys, eqs, K, [0, 1, 2, 3, 5, 7, 13, 14, 15, 16, 21, 22, 23, 24, 31]⟩
noncomputable def f69_b14 (K : Nat) (a0 : Int × (Int × Int × Int) × List Int) (q11 : Int) (y1 : List (Int × Int × Int × Int)) (y13 : List (Int × Int)) (L10 : Int → (List ((Int × Int × Int × Int) × Int × Int)) → Option (List ((Int × Int × Int × Int) × Int × Int))) (L14 : Int → (List ((Int × Int × Int × Int) × Int × Int)) → Option (List ((Int × Int × Int × Int) × Int × Int))) (q15 : Int) (q16 : List ((Int × Int × Int × Int) × Int × Int)) : Option (List ((Int × Int × Int × Int) × Int × Int)) :=
  (bif (decide (q15 < (y13.length : Int))) then (bif (decide (0 ≤ q15) && decide (q15 < (y13.length : Int))) then (f117G K a0 (((y1.getD ((0 : Int) + q11).toNat ((0 : Int), ((0 : Int), ((0 : Int), (0 : Int))))).1, ((y1.getD ((0 : Int) + q11).toNat ((0 : Int), ((0 : Int), ((0 : Int), (0 : Int))))).2).1, (((y1.getD ((0 : Int) + q11).toNat ((0 : Int), ((0 : Int), ((0 : Int), (0 : Int))))).2).2)), (y13.getD ((0 : Int) + q15).toNat ((0 : Int), (0 : Int))))).bind fun y17 => (bif y17 then (bif (Nat.ble (q16.length + [(((y1.getD ((0 : Int) + q11).toNat ((0 : Int), ((0 : Int), ((0 : Int), (0 : Int))))).1, ((y1.getD ((0 : Int) + q11).toNat ((0 : Int), ((0 : Int), ((0 : Int), (0 : Int))))).2).1, (((y1.getD ((0 : Int) + q11).toNat ((0 : Int), ((0 : Int), ((0 : Int), (0 : Int))))).2).2)), (y13.getD ((0 : Int) + q15).toNat ((0 : Int), (0 : Int))))].length) (lim 48)) then L14 (w (q15 + (1 : Int))) (q16 ++ [(((y1.getD ((0 : Int) + q11).toNat ((0 : Int), ((0 : Int), ((0 : Int), (0 : Int))))).1, ((y1.getD ((0 : Int) + q11).toNat ((0 : Int), ((0 : Int), ((0 : Int), (0 : Int))))).2).1, (((y1.getD ((0 : Int) + q11).toNat ((0 : Int), ((0 : Int), ((0 : Int), (0 : Int))))).2).2)), (y13.getD ((0 : Int) + q15).toNat ((0 : Int), (0 : Int))))]) else none) else L14 (w (q15 + (1 : Int))) q16) else none) else L10 (w (q11 + (1 : Int))) q16)
noncomputable def f69_l14 (K : Nat) (a0 : Int × (Int × Int × Int) × List Int) (q11 : Int) (y1 : List (Int × Int × Int × Int)) (y13 : List (Int × Int)) (L10 : Int → (List ((Int × Int × Int × Int) × Int × Int)) → Option (List ((Int × Int × Int × Int) × Int × Int))) (n : Nat) (q15 : Int) (q16 : List ((Int × Int × Int × Int) × Int × Int)) : Option (List ((Int × Int × Int × Int) × Int × Int)) :=
  iter (X := Int × List ((Int × Int × Int × Int) × Int × Int)) (fun L x => (fun L14 => f69_b14 K a0 q11 y1 y13 L10 L14 x.1 x.2) (fun v0 v1 => L (v0, v1))) n (q15, q16)
noncomputable def f69_fr14 (a0 : Int × (Int × Int × Int) × List Int) (q11 : Int) (y1 : List (Int × Int × Int × Int)) (y13 : List (Int × Int)) (q15 : Int) (q16 : List ((Int × Int × Int × Int) × Int × Int)) : Fr := ⟨41, [(0, .v true [.int .i64 a0.1, .int .i64 a0.2.1.1, .int .i64 a0.2.1.2.1, .int .i64 a0.2.1.2.2, .row 0]), (1, .v false [.box 0 0]), (2, .v false [.row 1]), (3, .v false [.row 2]), (5, .v false [.box 1 0]), (13, .v false [.row 3]), (14, .v false [.int .i64 (y1.length : Int)]), (15, .v false [.int .i64 q11]), (16, .v false [.bool (decide (q11 < (y1.length : Int)))]), (21, .v false [.row 4]), (22, .v false [.int .i64 (y13.length : Int)]), (23, .v false [.int .i64 q15])], [some ⟨true, [.int .i64 a0.1, .int .i64 a0.2.1.1, .int .i64 a0.2.1.2.1, .int .i64 a0.2.1.2.2, .row 0]⟩, some ⟨true, [.int .i64 ((y1.getD ((0 : Int) + q11).toNat ((0 : Int), ((0 : Int), ((0 : Int), (0 : Int))))).1), .int .i64 (((y1.getD ((0 : Int) + q11).toNat ((0 : Int), ((0 : Int), ((0 : Int), (0 : Int))))).2).1), .int .i64 ((((y1.getD ((0 : Int) + q11).toNat ((0 : Int), ((0 : Int), ((0 : Int), (0 : Int))))).2).2).1), .int .i64 ((((y1.getD ((0 : Int) + q11).toNat ((0 : Int), ((0 : Int), ((0 : Int), (0 : Int))))).2).2).2)]⟩], [some ⟨2, (.int .i64), a0.2.2, .ro⟩, some ⟨88, (.cons (.cons (.int .i64) (.cons (.int .i64) (.cons (.int .i64) (.int .i64)))) (.cons (.int .i64) (.int .i64))), [], .own⟩, some ⟨88, (.cons (.cons (.int .i64) (.cons (.int .i64) (.cons (.int .i64) (.int .i64)))) (.cons (.int .i64) (.int .i64))), q16, .own⟩, some ⟨86, (.cons (.int .i64) (.cons (.int .i64) (.cons (.int .i64) (.int .i64)))), y1, .own⟩, some ⟨60, (.cons (.int .i64) (.int .i64)), y13, .own⟩]⟩
noncomputable def f69_b10 (K : Nat) (a0 : Int × (Int × Int × Int) × List Int) (y1 : List (Int × Int × Int × Int)) (I14 : Int → (List (Int × Int)) → Int → (List ((Int × Int × Int × Int) × Int × Int)) → Option (List ((Int × Int × Int × Int) × Int × Int))) (L10 : Int → (List ((Int × Int × Int × Int) × Int × Int)) → Option (List ((Int × Int × Int × Int) × Int × Int))) (q11 : Int) (q12 : List ((Int × Int × Int × Int) × Int × Int)) : Option (List ((Int × Int × Int × Int) × Int × Int)) :=
  (bif (decide (q11 < (y1.length : Int))) then (bif (decide (0 ≤ q11) && decide (q11 < (y1.length : Int))) then (f75G K a0.2.1).bind fun y13 => I14 q11 y13 (0 : Int) q12 else none) else some q12)
noncomputable def f69_l10 (K : Nat) (a0 : Int × (Int × Int × Int) × List Int) (y1 : List (Int × Int × Int × Int)) (n : Nat) (q11 : Int) (q12 : List ((Int × Int × Int × Int) × Int × Int)) : Option (List ((Int × Int × Int × Int) × Int × Int)) :=
  iter (X := Int × List ((Int × Int × Int × Int) × Int × Int)) (fun L x => (fun L10 => f69_b10 K a0 y1 (fun c0 c1 d0 d1 => f69_l14 K a0 c0 y1 c1 L10 K d0 d1) L10 x.1 x.2) (fun v0 v1 => L (v0, v1))) n (q11, q12)
noncomputable def f69_fr10 (a0 : Int × (Int × Int × Int) × List Int) (y1 : List (Int × Int × Int × Int)) (q11 : Int) (q12 : List ((Int × Int × Int × Int) × Int × Int)) : Fr := ⟨41, [(0, .v true [.int .i64 a0.1, .int .i64 a0.2.1.1, .int .i64 a0.2.1.2.1, .int .i64 a0.2.1.2.2, .row 0]), (1, .v false [.box 0 0]), (2, .v false [.row 1]), (3, .v false [.row 2]), (13, .v false [.row 3]), (14, .v false [.int .i64 (y1.length : Int)]), (15, .v false [.int .i64 q11])], [some ⟨true, [.int .i64 a0.1, .int .i64 a0.2.1.1, .int .i64 a0.2.1.2.1, .int .i64 a0.2.1.2.2, .row 0]⟩], [some ⟨2, (.int .i64), a0.2.2, .ro⟩, some ⟨88, (.cons (.cons (.int .i64) (.cons (.int .i64) (.cons (.int .i64) (.int .i64)))) (.cons (.int .i64) (.int .i64))), [], .own⟩, some ⟨88, (.cons (.cons (.int .i64) (.cons (.int .i64) (.cons (.int .i64) (.int .i64)))) (.cons (.int .i64) (.int .i64))), q12, .own⟩, some ⟨86, (.cons (.int .i64) (.cons (.int .i64) (.cons (.int .i64) (.int .i64)))), y1, .own⟩]⟩
noncomputable def f69_k10 (K : Nat) (a0 : Int × (Int × Int × Int) × List Int) (lr : LR (List ((Int × Int × Int × Int) × Int × Int))) : Ex → Fr → Option (List ((Int × Int × Int × Int) × Int × Int)) :=
  contC (f69E K) 1 lr f69C [1, 1, 0, 1, 0] (finK (f69E K) Try.f69 [(.ro, (.cons (.int .i64) (.cons (.cons (.int .i64) (.cons (.int .i64) (.int .i64))) (.list 2 (.int .i64)))))] [(.list 88 (.cons (.cons (.int .i64) (.cons (.int .i64) (.cons (.int .i64) (.int .i64)))) (.cons (.int .i64) (.int .i64))))] (a0, ()))
noncomputable def f69_k14 (K : Nat) (a0 : Int × (Int × Int × Int) × List Int) (y1 : List (Int × Int × Int × Int)) (F10 : Fr → Option (List ((Int × Int × Int × Int) × Int × Int))) (bq11 : Int) (bq12 : List ((Int × Int × Int × Int) × Int × Int)) (lr : LR (List ((Int × Int × Int × Int) × Int × Int))) : Ex → Fr → Option (List ((Int × Int × Int × Int) × Int × Int)) :=
  contC (f69E K) 1 lr (selC f69C [1, 1, 0, 1, 0, 0]) [1, 1, 0, 0, 1, 1, 0] (loopK 1 (f69_fr10 a0 y1 bq11 bq12) F10 (f69_k10 K a0 lr))
noncomputable def f69_g (K : Nat) (a0 : Int × (Int × Int × Int) × List Int) (I10 : (List (Int × Int × Int × Int)) → Int → (List ((Int × Int × Int × Int) × Int × Int)) → Option (List ((Int × Int × Int × Int) × Int × Int))) : Option (List ((Int × Int × Int × Int) × Int × Int)) :=
  (f116G K a0.1 a0.2.1).bind fun y1 => I10 y1 (0 : Int) []
noncomputable def f69G (K : Nat) (a0 : Int × (Int × Int × Int) × List Int) : Option (List ((Int × Int × Int × Int) × Int × Int)) :=
  f69_g K a0 (fun c0 d0 d1 => f69_l10 K a0 c0 K d0 d1)
noncomputable def f69M (K : Nat) : Mdl := ⟨[(.ro, (.cons (.int .i64) (.cons (.cons (.int .i64) (.cons (.int .i64) (.int .i64))) (.list 2 (.int .i64)))))], [(.list 88 (.cons (.cons (.int .i64) (.cons (.int .i64) (.cons (.int .i64) (.int .i64)))) (.cons (.int .i64) (.int .i64))))], fun x => f69G K x.1⟩
/-! (impl.Mat).det -/
noncomputable def f76E (K : Nat) : Env := ⟨[], tys, eqs, K, [0, 1, 2]⟩
noncomputable def f76G (K : Nat) (a0 : Int × Int × Int × Int) : Option Int :=
  some (w ((w (a0.1 * a0.2.2.2)) - (w (a0.2.1 * a0.2.2.1))))
noncomputable def f76M (K : Nat) : Mdl := ⟨[(.ro, (.cons (.int .i64) (.cons (.int .i64) (.cons (.int .i64) (.int .i64)))))], [(.int .i64)], fun x => f76G K x.1⟩
/-! (impl.Mat).order -/
noncomputable def f77E (K : Nat) : Env := ⟨[(76, f76M K), (119, f119M K)], tys, eqs, K, [0, 1, 2, 3, 9, 13, 24, 32, 40]⟩
noncomputable def f77G (K : Nat) (a0 : Int × Int × Int × Int) : Option Int :=
  (f119G K).bind fun y1 => (bif ((a0.1 == y1.1) && ((a0.2.1 == y1.2.1) && ((a0.2.2.1 == y1.2.2.1) && (a0.2.2.2 == y1.2.2.2)))) then some (1 : Int) else (f76G K a0).bind fun y2 => (bif ((!(y2 == (-1 : Int))) || true) then (bif ((!(y2 == (-1 : Int))) || true) then (bif (bif (y2 == (-1 : Int)) then ((w (a0.1 + a0.2.2.2)) == (0 : Int)) else false) then (bif (bif (y2 == (-1 : Int)) then ((w (a0.1 + a0.2.2.2)) == (0 : Int)) else false) then some (2 : Int) else (f76G K a0).bind fun y3 => (bif ((!(y3 == (1 : Int))) || true) then (bif ((!(y3 == (1 : Int))) || true) then (bif (bif (y3 == (1 : Int)) then ((w (a0.1 + a0.2.2.2)) == (-1 : Int)) else false) then some (3 : Int) else (f76G K a0).bind fun y4 => (bif ((!(y4 == (1 : Int))) || true) then (bif ((!(y4 == (1 : Int))) || true) then (bif (bif (y4 == (1 : Int)) then ((w (a0.1 + a0.2.2.2)) == (0 : Int)) else false) then some (4 : Int) else (f76G K a0).bind fun y5 => (bif ((!(y5 == (1 : Int))) || true) then (bif ((!(y5 == (1 : Int))) || true) then (bif (bif (y5 == (1 : Int)) then ((w (a0.1 + a0.2.2.2)) == (1 : Int)) else false) then some (6 : Int) else some (0 : Int)) else none) else none)) else none) else none)) else none) else none)) else (bif ((a0.1 == (-1 : Int)) && ((a0.2.1 == (0 : Int)) && ((a0.2.2.1 == (0 : Int)) && (a0.2.2.2 == (-1 : Int))))) then some (2 : Int) else (f76G K a0).bind fun y6 => (bif ((!(y6 == (1 : Int))) || true) then (bif ((!(y6 == (1 : Int))) || true) then (bif (bif (y6 == (1 : Int)) then ((w (a0.1 + a0.2.2.2)) == (-1 : Int)) else false) then some (3 : Int) else (f76G K a0).bind fun y7 => (bif ((!(y7 == (1 : Int))) || true) then (bif ((!(y7 == (1 : Int))) || true) then (bif (bif (y7 == (1 : Int)) then ((w (a0.1 + a0.2.2.2)) == (0 : Int)) else false) then some (4 : Int) else (f76G K a0).bind fun y8 => (bif ((!(y8 == (1 : Int))) || true) then (bif ((!(y8 == (1 : Int))) || true) then (bif (bif (y8 == (1 : Int)) then ((w (a0.1 + a0.2.2.2)) == (1 : Int)) else false) then some (6 : Int) else some (0 : Int)) else none) else none)) else none) else none)) else none) else none))) else none) else none))
noncomputable def f77M (K : Nat) : Mdl := ⟨[(.ro, (.cons (.int .i64) (.cons (.int .i64) (.cons (.int .i64) (.int .i64)))))], [(.int .i64)], fun x => f77G K x.1⟩
/-! (impl.Mat).isReflection -/
noncomputable def f144E (K : Nat) : Env := ⟨[(76, f76M K), (77, f77M K)], tys, eqs, K, [0, 1, 2]⟩
noncomputable def f144G (K : Nat) (a0 : Int × Int × Int × Int) : Option Bool :=
  (f76G K a0).bind fun y1 => (bif ((!(y1 == (-1 : Int))) || true) then ((bif (y1 == (-1 : Int)) then f77G K a0 else some (0 : Int))).bind fun y2 => (bif ((!(y1 == (-1 : Int))) || true) then some (bif (y1 == (-1 : Int)) then (y2 == (2 : Int)) else false) else none) else none)
noncomputable def f144M (K : Nat) : Mdl := ⟨[(.ro, (.cons (.int .i64) (.cons (.int .i64) (.cons (.int .i64) (.int .i64)))))], [.bool], fun x => f144G K x.1⟩
/-! impl.isCoordinate -/
noncomputable def f169E (K : Nat) : Env := ⟨[(114, f114M K)], tys, eqs, K, [0, 2]⟩
noncomputable def f169G (K : Nat) (a0 : Int) : Option Bool :=
  (f114G K a0 (-1000 : Int) (1000 : Int)).bind fun y1 => some y1
noncomputable def f169M (K : Nat) : Mdl := ⟨[(.ro, (.int .i64))], [.bool], fun x => f169G K x.1⟩
/-! (impl.Mat).isSmall -/
noncomputable def f209E (K : Nat) : Env := ⟨[(169, f169M K)], tys, eqs, K, [0, 1, 2]⟩
noncomputable def f209G (K : Nat) (a0 : Int × Int × Int × Int) : Option Bool :=
  (f169G K a0.1).bind fun y1 => (bif ((!y1) || true) then (bif ((!y1) || true) then ((bif y1 then f169G K a0.2.1 else some false)).bind fun y2 => (bif ((!(bif y1 then y2 else false)) || true) then (bif ((!(bif y1 then y2 else false)) || true) then ((bif (bif y1 then y2 else false) then f169G K a0.2.2.1 else some false)).bind fun y3 => (bif ((!(bif (bif y1 then y2 else false) then y3 else false)) || true) then (bif ((!(bif (bif y1 then y2 else false) then y3 else false)) || true) then ((bif (bif (bif y1 then y2 else false) then y3 else false) then f169G K a0.2.2.2 else some false)).bind fun y4 => some (bif (bif (bif y1 then y2 else false) then y3 else false) then y4 else false) else none) else none) else none) else none) else none) else none)
noncomputable def f209M (K : Nat) : Mdl := ⟨[(.ro, (.cons (.int .i64) (.cons (.int .i64) (.cons (.int .i64) (.int .i64)))))], [.bool], fun x => f209G K x.1⟩
/-! impl.IsMat -/
noncomputable def f198E (K : Nat) : Env := ⟨[(76, f76M K), (209, f209M K)], tys, eqs, K, [0, 1, 2]⟩
noncomputable def f198G (K : Nat) (a0 : Int × Int × Int × Int) : Option Bool :=
  (f209G K a0).bind fun y1 => (bif ((!y1) || true) then ((bif y1 then f76G K a0 else some (0 : Int))).bind fun y2 => (bif ((!y1) || true) then (bif ((!y1) || true) then (bif ((!(y1 && (!(y2 == (1 : Int))))) || true) then ((bif (y1 && (!(y2 == (1 : Int)))) then f76G K a0 else some (0 : Int))).bind fun y3 => (bif ((!(y1 && (!(y2 == (1 : Int))))) || true) then (bif ((!y1) || true) then some (bif y1 then (bif (y2 == (1 : Int)) then true else (y3 == (-1 : Int))) else false) else none) else none) else none) else none) else none) else none)
noncomputable def f198M (K : Nat) : Mdl := ⟨[(.ro, (.cons (.int .i64) (.cons (.int .i64) (.cons (.int .i64) (.int .i64)))))], [.bool], fun x => f198G K x.1⟩
/-! impl.compareNumbers -/
noncomputable def f188C : Code := codeOf Try.f188
noncomputable def f188E (K : Nat) : Env := ⟨[], tys, eqs, K, [0, 1, 4, 5, 7, 8, 9, 19, 28]⟩
noncomputable def f188_b2 (K : Nat) (a0 : List Int) (a1 : List Int) (L2 : Int → Option Int) (q3 : Int) : Option Int :=
  (bif (decide (q3 < (a0.length : Int))) then (bif (decide (0 ≤ q3) && decide (q3 < (a0.length : Int))) then (bif (decide (0 ≤ q3) && decide (q3 < (a1.length : Int))) then (bif ((a0.getD ((0 : Int) + q3).toNat (0 : Int)) != (a1.getD ((0 : Int) + q3).toNat (0 : Int))) then (bif (decide (0 ≤ q3) && decide (q3 < (a0.length : Int))) then (bif (decide (0 ≤ q3) && decide (q3 < (a1.length : Int))) then (bif (decide ((a0.getD ((0 : Int) + q3).toNat (0 : Int)) < (a1.getD ((0 : Int) + q3).toNat (0 : Int)))) then some (-1 : Int) else some (1 : Int)) else none) else none) else L2 (w (q3 + (1 : Int)))) else none) else none) else some (0 : Int))
noncomputable def f188_l2 (K : Nat) (a0 : List Int) (a1 : List Int) (n : Nat) (q3 : Int) : Option Int :=
  iter (X := Int) (fun L x => (fun L2 => f188_b2 K a0 a1 L2 x) (fun v0 => L v0)) n q3
noncomputable def f188_fr2 (a0 : List Int) (a1 : List Int) (q3 : Int) : Fr := ⟨30, [(0, .v false [.row 0]), (1, .v false [.row 1]), (4, .v false [.int .i64 (0 : Int)]), (7, .v false [.int .i64 (a0.length : Int)]), (8, .v false [.int .i64 q3])], [], [some ⟨2, (.int .i64), a0, .ro⟩, some ⟨2, (.int .i64), a1, .ro⟩]⟩
noncomputable def f188_k2 (K : Nat) (a0 : List Int) (a1 : List Int) (lr : LR Int) : Ex → Fr → Option Int :=
  contC (f188E K) 2 lr f188C [1, 0, 1, 0] (finK (f188E K) Try.f188 [(.ro, (.list 2 (.int .i64))), (.ro, (.list 2 (.int .i64)))] [(.int .i64)] (a0, a1, ()))
noncomputable def f188_g (K : Nat) (a0 : List Int) (a1 : List Int) (I2 : Int → Option Int) : Option Int :=
  I2 (0 : Int)
noncomputable def f188G (K : Nat) (a0 : List Int) (a1 : List Int) : Option Int :=
  f188_g K a0 a1 (fun d0 => f188_l2 K a0 a1 K d0)
noncomputable def f188M (K : Nat) : Mdl := ⟨[(.ro, (.list 2 (.int .i64))), (.ro, (.list 2 (.int .i64)))], [(.int .i64)], fun x => f188G K x.1 x.2.1⟩
/-! impl.compareVecs -/
noncomputable def f154E (K : Nat) : Env := ⟨[(188, f188M K)], tys, eqs, K, [0, 1, 2, 3, 4]⟩
noncomputable def f154G (K : Nat) (a0 : Int × Int) (a1 : Int × Int) : Option Int :=
  (f188G K [a0.1, a0.2] [a1.1, a1.2]).bind fun y1 => some y1
noncomputable def f154M (K : Nat) : Mdl := ⟨[(.ro, (.cons (.int .i64) (.int .i64))), (.ro, (.cons (.int .i64) (.int .i64)))], [(.int .i64)], fun x => f154G K x.1 x.2.1⟩
/-! impl.IsVec -/
noncomputable def f125E (K : Nat) : Env := ⟨[(169, f169M K)], tys, eqs, K, [0, 1, 2]⟩
noncomputable def f125G (K : Nat) (a0 : Int × Int) : Option Bool :=
  (f169G K a0.1).bind fun y1 => (bif ((!y1) || true) then (bif ((!y1) || true) then ((bif y1 then f169G K a0.2 else some false)).bind fun y2 => some (bif y1 then y2 else false) else none) else none)
noncomputable def f125M (K : Nat) : Mdl := ⟨[(.ro, (.cons (.int .i64) (.int .i64)))], [.bool], fun x => f125G K x.1⟩
/-! impl.limited -/
noncomputable def f199E (K : Nat) : Env := ⟨[(125, f125M K)], tys, eqs, K, [0, 1, 2, 3, 6]⟩
noncomputable def f199G (K : Nat) (a0 : Int × Int) : Option ((Int × Int) × Int) :=
  (f125G K a0).bind fun y1 => (bif (!y1) then some (((0 : Int), (0 : Int)), (3 : Int)) else some (a0, (0 : Int)))
noncomputable def f199M (K : Nat) : Mdl := ⟨[(.ro, (.cons (.int .i64) (.int .i64)))], [(.cons (.int .i64) (.int .i64)), (.int .i64)], fun x => f199G K x.1⟩
/-! impl.AxisOf -/
noncomputable def f181E (K : Nat) : Env := ⟨[(144, f144M K), (146, f146M K), (154, f154M K), (179, f179M K), (198, f198M K), (199, f199M K)], tys, eqs, K, [0, 1, 2, 3, 4, 5, 8, 12, 22, 46]⟩
noncomputable def f181G (K : Nat) (a0 : Int × Int × Int × Int) : Option ((Int × Int) × Int) :=
  (f198G K a0).bind fun y1 => (bif (!y1) then some (((0 : Int), (0 : Int)), (1 : Int)) else (f144G K a0).bind fun y2 => (bif (!y2) then some (((0 : Int), (0 : Int)), (5 : Int)) else (bif ((a0.2.1 == (0 : Int)) && ((w ((1 : Int) - a0.1)) == (0 : Int))) then (f146G K (w ((1 : Int) - a0.2.2.2)) a0.2.2.1).bind fun y3 => (bif (y3 != 0) then (bif (y3 != 0) then (f154G K ((w ((w ((1 : Int) - a0.2.2.2)).tdiv y3)), (w (a0.2.2.1.tdiv y3))) ((0 : Int), (0 : Int))).bind fun y4 => (bif (decide (y4 < (0 : Int))) then (f179G K ((w ((w ((1 : Int) - a0.2.2.2)).tdiv y3)), (w (a0.2.2.1.tdiv y3))) (-1 : Int)).bind fun y5 => (f199G K y5).bind fun y6 => some y6 else (f199G K ((w ((w ((1 : Int) - a0.2.2.2)).tdiv y3)), (w (a0.2.2.1.tdiv y3)))).bind fun y7 => some y7) else none) else none) else (f146G K a0.2.1 (w ((1 : Int) - a0.1))).bind fun y8 => (bif (y8 != 0) then (bif (y8 != 0) then (f154G K ((w (a0.2.1.tdiv y8)), (w ((w ((1 : Int) - a0.1)).tdiv y8))) ((0 : Int), (0 : Int))).bind fun y9 => (bif (decide (y9 < (0 : Int))) then (f179G K ((w (a0.2.1.tdiv y8)), (w ((w ((1 : Int) - a0.1)).tdiv y8))) (-1 : Int)).bind fun y10 => (f199G K y10).bind fun y11 => some y11 else (f199G K ((w (a0.2.1.tdiv y8)), (w ((w ((1 : Int) - a0.1)).tdiv y8)))).bind fun y12 => some y12) else none) else none))))
noncomputable def f181M (K : Nat) : Mdl := ⟨[(.ro, (.cons (.int .i64) (.cons (.int .i64) (.cons (.int .i64) (.int .i64)))))], [(.cons (.int .i64) (.int .i64)), (.int .i64)], fun x => f181G K x.1⟩
/-! (impl.Mat).axis -/
noncomputable def f149E (K : Nat) : Env := ⟨[(181, f181M K)], tys, eqs, K, [0, 1, 2, 3]⟩
noncomputable def f149G (K : Nat) (a0 : Int × Int × Int × Int) : Option (Int × Int) :=
  (f181G K a0).bind fun y1 => some y1.1
noncomputable def f149M (K : Nat) : Mdl := ⟨[(.ro, (.cons (.int .i64) (.cons (.int .i64) (.cons (.int .i64) (.int .i64)))))], [(.cons (.int .i64) (.int .i64))], fun x => f149G K x.1⟩
/-! impl.alongAxis -/
noncomputable def f145E (K : Nat) : Env := ⟨[(149, f149M K), (165, f165M K), (178, f178M K)], tys, eqs, K, [0, 1, 2, 3, 4, 5, 6, 16]⟩
noncomputable def f145G (K : Nat) (a0 : Int × Int × Int × Int) (a1 : Int × Int) : Option Int :=
  (f165G K a0 a1).bind fun y1 => (f178G K a1 y1).bind fun y2 => (f149G K a0).bind fun y3 => (bif (y3.1 != (0 : Int)) then (bif (y3.1 != 0) then some (w (y2.1.tdiv y3.1)) else none) else (bif (y3.2 != 0) then some (w (y2.2.tdiv y3.2)) else none))
noncomputable def f145M (K : Nat) : Mdl := ⟨[(.ro, (.cons (.int .i64) (.cons (.int .i64) (.cons (.int .i64) (.int .i64))))), (.ro, (.cons (.int .i64) (.int .i64)))], [(.int .i64)], fun x => f145G K x.1 x.2.1⟩
/-! (impl.Lattice).mayReflect -/
noncomputable def f99E (K : Nat) : Env := ⟨[(142, f142M K), (144, f144M K), (145, f145M K), (146, f146M K)], tys, eqs, K, [0, 1, 2, 3, 4, 5, 6, 10]⟩
noncomputable def f99G (K : Nat) (a0 : Int × Int × Int) (a1 : (Int × Int × Int × Int) × Int × Int) : Option Bool :=
  (f144G K a1.1).bind fun y1 => (bif (!y1) then some false else (f142G K a0).bind fun y2 => (f145G K a1.1 a1.2).bind fun y3 => (f145G K a1.1 y2.1).bind fun y4 => (f145G K a1.1 y2.2).bind fun y5 => (f146G K y4 y5).bind fun y6 => (bif (y6 != 0) then some ((y3.tmod y6) == (0 : Int)) else none))
noncomputable def f99M (K : Nat) : Mdl := ⟨[(.ro, (.cons (.int .i64) (.cons (.int .i64) (.int .i64)))), (.ro, (.cons (.cons (.int .i64) (.cons (.int .i64) (.cons (.int .i64) (.int .i64)))) (.cons (.int .i64) (.int .i64))))], [.bool], fun x => f99G K x.1 x.2.1⟩
/-! (impl.Lattice).multipleIn -/
noncomputable def f148C : Code := codeOf Try.f148
noncomputable def f148E (K : Nat) : Env := ⟨[(164, f164M K), (178, f178M K)], tys, eqs, K, [0, 1, 2, 3, 4, 5, 10]⟩
noncomputable def f148_b4 (K : Nat) (a0 : Int × Int × Int) (a1 : Int × Int) (L4 : Int → Int → Option (Int × Int)) (q5 : Int) (q6 : Int) : Option (Int × Int) :=
  (f164G K a0 (q5, q6)).bind fun y7 => (bif (!y7) then (f178G K (q5, q6) a1).bind fun y8 => L4 y8.1 y8.2 else some (q5, q6))
noncomputable def f148_l4 (K : Nat) (a0 : Int × Int × Int) (a1 : Int × Int) (n : Nat) (q5 : Int) (q6 : Int) : Option (Int × Int) :=
  iter (X := Int × Int) (fun L x => (fun L4 => f148_b4 K a0 a1 L4 x.1 x.2) (fun v0 v1 => L (v0, v1))) n (q5, q6)
noncomputable def f148_fr4 (a0 : Int × Int × Int) (a1 : Int × Int) (q5 : Int) (q6 : Int) : Fr := ⟨15, [(0, .v true [.int .i64 a0.1, .int .i64 a0.2.1, .int .i64 a0.2.2]), (1, .v true [.int .i64 a1.1, .int .i64 a1.2]), (2, .v false [.box 0 0]), (3, .v false [.box 1 0]), (4, .v false [.box 2 0]), (5, .v false [.box 3 0])], [some ⟨true, [.int .i64 a0.1, .int .i64 a0.2.1, .int .i64 a0.2.2]⟩, some ⟨true, [.int .i64 a1.1, .int .i64 a1.2]⟩, some ⟨true, [.int .i64 (0 : Int), .int .i64 (0 : Int)]⟩, some ⟨true, [.int .i64 q5, .int .i64 q6]⟩], []⟩
noncomputable def f148_k4 (K : Nat) (a0 : Int × Int × Int) (a1 : Int × Int) (lr : LR (Int × Int)) : Ex → Fr → Option (Int × Int) :=
  contC (f148E K) 0 lr f148C [1, 1, 0, 0] (finK (f148E K) Try.f148 [(.ro, (.cons (.int .i64) (.cons (.int .i64) (.int .i64)))), (.ro, (.cons (.int .i64) (.int .i64)))] [(.cons (.int .i64) (.int .i64))] (a0, a1, ()))
noncomputable def f148_g (K : Nat) (a0 : Int × Int × Int) (a1 : Int × Int) (I4 : Int → Int → Option (Int × Int)) : Option (Int × Int) :=
  I4 a1.1 a1.2
noncomputable def f148G (K : Nat) (a0 : Int × Int × Int) (a1 : Int × Int) : Option (Int × Int) :=
  f148_g K a0 a1 (fun d0 d1 => f148_l4 K a0 a1 K d0 d1)
noncomputable def f148M (K : Nat) : Mdl := ⟨[(.ro, (.cons (.int .i64) (.cons (.int .i64) (.int .i64)))), (.ro, (.cons (.int .i64) (.int .i64)))], [(.cons (.int .i64) (.int .i64))], fun x => f148G K x.1 x.2.1⟩
/-! (impl.Mat).negative -/
noncomputable def f150E (K : Nat) : Env := ⟨[], tys, eqs, K, [0, 1, 2]⟩
noncomputable def f150G (K : Nat) (a0 : Int × Int × Int × Int) : Option (Int × Int × Int × Int) :=
  some ((w (0 - a0.1)), (w (0 - a0.2.1)), (w (0 - a0.2.2.1)), (w (0 - a0.2.2.2)))
noncomputable def f150M (K : Nat) : Mdl := ⟨[(.ro, (.cons (.int .i64) (.cons (.int .i64) (.cons (.int .i64) (.int .i64)))))], [(.cons (.int .i64) (.cons (.int .i64) (.cons (.int .i64) (.int .i64))))], fun x => f150G K x.1⟩
/-! impl.det -/
noncomputable def f147E (K : Nat) : Env := ⟨[], tys, eqs, K, [0, 1, 2, 3, 4]⟩
noncomputable def f147G (K : Nat) (a0 : Int × Int) (a1 : Int × Int) : Option Int :=
  some (w ((w (a0.1 * a1.2)) - (w (a0.2 * a1.1))))
noncomputable def f147M (K : Nat) : Mdl := ⟨[(.ro, (.cons (.int .i64) (.int .i64))), (.ro, (.cons (.int .i64) (.int .i64)))], [(.int .i64)], fun x => f147G K x.1 x.2.1⟩
/-! (impl.Lattice).isCentred -/
noncomputable def f100E (K : Nat) : Env := ⟨[(95, f95M K), (147, f147M K), (148, f148M K), (149, f149M K), (150, f150M K)], tys, eqs, K, [0, 1, 2, 3, 4, 5]⟩
noncomputable def f100G (K : Nat) (a0 : Int × Int × Int) (a1 : Int × Int × Int × Int) : Option Bool :=
  (f149G K a1).bind fun y1 => (f148G K a0 y1).bind fun y2 => (f150G K a1).bind fun y3 => (f149G K y3).bind fun y4 => (f148G K a0 y4).bind fun y5 => (f147G K y2 y5).bind fun y6 => (f95G K a0).bind fun y7 => some ((if (w (0 - y6)) > y6 then (w (0 - y6)) else y6) != y7)
noncomputable def f100M (K : Nat) : Mdl := ⟨[(.ro, (.cons (.int .i64) (.cons (.int .i64) (.int .i64)))), (.ro, (.cons (.int .i64) (.cons (.int .i64) (.cons (.int .i64) (.int .i64)))))], [.bool], fun x => f100G K x.1 x.2.1⟩
/-! (impl.Pattern).lines -/
noncomputable def f56C : Code := codeOf Try.f56
noncomputable def f56E (K : Nat) : Env := ⟨[(69, f69M K), (76, f76M K), (99, f99M K), (100, f100M K)], tys, eqs, K, [0, 1, 2, 3, 4, 5, 7, 9, 10, 11, 12, 17, 22, 30]⟩
noncomputable def f56_b14 (K : Nat) (a0 : Int × (Int × Int × Int) × List Int) (y1 : List ((Int × Int × Int × Int) × Int × Int)) (L14 : Int → Int → Int → Option (Int × Int)) (q15 : Int) (q16 : Int) (q17 : Int) : Option (Int × Int) :=
  (bif (decide (q15 < (y1.length : Int))) then (bif (decide (0 ≤ q15) && decide (q15 < (y1.length : Int))) then (f76G K (((y1.getD ((0 : Int) + q15).toNat (((0 : Int), ((0 : Int), ((0 : Int), (0 : Int)))), ((0 : Int), (0 : Int)))).1).1, (((y1.getD ((0 : Int) + q15).toNat (((0 : Int), ((0 : Int), ((0 : Int), (0 : Int)))), ((0 : Int), (0 : Int)))).1).2).1, ((((y1.getD ((0 : Int) + q15).toNat (((0 : Int), ((0 : Int), ((0 : Int), (0 : Int)))), ((0 : Int), (0 : Int)))).1).2).2))).bind fun y18 => (bif (y18 == (1 : Int)) then L14 (w (q15 + (1 : Int))) q16 q17 else (f99G K a0.2.1 ((((y1.getD ((0 : Int) + q15).toNat (((0 : Int), ((0 : Int), ((0 : Int), (0 : Int)))), ((0 : Int), (0 : Int)))).1).1, (((y1.getD ((0 : Int) + q15).toNat (((0 : Int), ((0 : Int), ((0 : Int), (0 : Int)))), ((0 : Int), (0 : Int)))).1).2).1, ((((y1.getD ((0 : Int) + q15).toNat (((0 : Int), ((0 : Int), ((0 : Int), (0 : Int)))), ((0 : Int), (0 : Int)))).1).2).2)), ((y1.getD ((0 : Int) + q15).toNat (((0 : Int), ((0 : Int), ((0 : Int), (0 : Int)))), ((0 : Int), (0 : Int)))).2))).bind fun y19 => (bif (!y19) then L14 (w (q15 + (1 : Int))) (w (q16 + (2 : Int))) q17 else (f100G K a0.2.1 (((y1.getD ((0 : Int) + q15).toNat (((0 : Int), ((0 : Int), ((0 : Int), (0 : Int)))), ((0 : Int), (0 : Int)))).1).1, (((y1.getD ((0 : Int) + q15).toNat (((0 : Int), ((0 : Int), ((0 : Int), (0 : Int)))), ((0 : Int), (0 : Int)))).1).2).1, ((((y1.getD ((0 : Int) + q15).toNat (((0 : Int), ((0 : Int), ((0 : Int), (0 : Int)))), ((0 : Int), (0 : Int)))).1).2).2))).bind fun y20 => (bif y20 then L14 (w (q15 + (1 : Int))) (w (q16 + (1 : Int))) (w (q17 + (1 : Int))) else L14 (w (q15 + (1 : Int))) q16 (w (q17 + (2 : Int)))))) else none) else some (q17, q16))
noncomputable def f56_l14 (K : Nat) (a0 : Int × (Int × Int × Int) × List Int) (y1 : List ((Int × Int × Int × Int) × Int × Int)) (n : Nat) (q15 : Int) (q16 : Int) (q17 : Int) : Option (Int × Int) :=
  iter (X := Int × Int × Int) (fun L x => (fun L14 => f56_b14 K a0 y1 L14 x.1 x.2.1 x.2.2) (fun v0 v1 v2 => L (v0, v1, v2))) n (q15, q16, q17)
noncomputable def f56_fr14 (a0 : Int × (Int × Int × Int) × List Int) (y1 : List ((Int × Int × Int × Int) × Int × Int)) (q15 : Int) (q16 : Int) (q17 : Int) : Fr := ⟨43, [(0, .v true [.int .i64 a0.1, .int .i64 a0.2.1.1, .int .i64 a0.2.1.2.1, .int .i64 a0.2.1.2.2, .row 0]), (1, .v false [.box 0 0]), (2, .v false [.int .i64 (0 : Int)]), (3, .v false [.int .i64 (0 : Int)]), (4, .v false [.int .i64 q17]), (5, .v false [.int .i64 q16]), (9, .v false [.row 1]), (10, .v false [.int .i64 (y1.length : Int)]), (11, .v false [.int .i64 q15])], [some ⟨true, [.int .i64 a0.1, .int .i64 a0.2.1.1, .int .i64 a0.2.1.2.1, .int .i64 a0.2.1.2.2, .row 0]⟩], [some ⟨2, (.int .i64), a0.2.2, .ro⟩, some ⟨88, (.cons (.cons (.int .i64) (.cons (.int .i64) (.cons (.int .i64) (.int .i64)))) (.cons (.int .i64) (.int .i64))), y1, .own⟩]⟩
noncomputable def f56_k14 (K : Nat) (a0 : Int × (Int × Int × Int) × List Int) (lr : LR (Int × Int)) : Ex → Fr → Option (Int × Int) :=
  contC (f56E K) 1 lr f56C [1, 1, 0, 1, 0] (finK (f56E K) Try.f56 [(.ro, (.cons (.int .i64) (.cons (.cons (.int .i64) (.cons (.int .i64) (.int .i64))) (.list 2 (.int .i64)))))] [(.int .i64), (.int .i64)] (a0, ()))
noncomputable def f56_g (K : Nat) (a0 : Int × (Int × Int × Int) × List Int) (I14 : (List ((Int × Int × Int × Int) × Int × Int)) → Int → Int → Int → Option (Int × Int)) : Option (Int × Int) :=
  (f69G K a0).bind fun y1 => I14 y1 (0 : Int) (0 : Int) (0 : Int)
noncomputable def f56G (K : Nat) (a0 : Int × (Int × Int × Int) × List Int) : Option (Int × Int) :=
  f56_g K a0 (fun c0 d0 d1 d2 => f56_l14 K a0 c0 K d0 d1 d2)
noncomputable def f56M (K : Nat) : Mdl := ⟨[(.ro, (.cons (.int .i64) (.cons (.cons (.int .i64) (.cons (.int .i64) (.int .i64))) (.list 2 (.int .i64)))))], [(.int .i64), (.int .i64)], fun x => f56G K x.1⟩
/-! impl.IsHanded -/
noncomputable def f17E (K : Nat) : Env := ⟨[(54, f54M K), (55, f55M K), (56, f56M K)], tys, eqs, K, [0, 1, 2, 3, 4, 5, 8]⟩
noncomputable def f17G (K : Nat) (a0 : Int × (Int × Int × Int) × List Int) : Option (Bool × Int) :=
  (f54G K a0).bind fun y1 => (bif (!y1) then some (false, (1 : Int)) else (f55G K a0).bind fun y2 => (f56G K y2).bind fun y3 => some (((w (y3.1 + y3.2)) == (0 : Int)), (0 : Int)))
noncomputable def f17M (K : Nat) : Mdl := ⟨[(.ro, (.cons (.int .i64) (.cons (.cons (.int .i64) (.cons (.int .i64) (.int .i64))) (.list 2 (.int .i64)))))], [.bool, (.int .i64)], fun x => f17G K x.1⟩
/-! laws.eqLattice -/
noncomputable def f42E (K : Nat) : Env := ⟨[], tys, eqs, K, [0, 1, 2, 3, 4, 9, 14, 19]⟩
noncomputable def f42G (K : Nat) (a0 : Int × Int × Int) (a1 : Int × Int × Int) : Option Bool :=
  (bif (a0.1 != a1.1) then some false else (bif (a0.2.1 != a1.2.1) then some false else (bif (a0.2.2 != a1.2.2) then some false else some true)))
noncomputable def f42M (K : Nat) : Mdl := ⟨[(.ro, (.cons (.int .i64) (.cons (.int .i64) (.int .i64)))), (.ro, (.cons (.int .i64) (.cons (.int .i64) (.int .i64))))], [.bool], fun x => f42G K x.1 x.2.1⟩
/-! laws.eqInt64S -/
noncomputable def f57C : Code := codeOf Try.f57
noncomputable def f57E (K : Nat) : Env := ⟨[], tys, eqs, K, [0, 1, 4, 5, 10, 14, 25]⟩
noncomputable def f57_b2 (K : Nat) (a0 : List Int) (a1 : List Int) (L2 : Int → Option Bool) (q3 : Int) : Option Bool :=
  (bif (decide (q3 < (a0.length : Int))) then (bif (decide (0 ≤ q3) && decide (q3 < (a0.length : Int))) then (bif (decide (0 ≤ q3) && decide (q3 < (a1.length : Int))) then (bif ((a0.getD ((0 : Int) + q3).toNat (0 : Int)) != (a1.getD ((0 : Int) + q3).toNat (0 : Int))) then some false else L2 (w (q3 + (1 : Int)))) else none) else none) else some true)
noncomputable def f57_l2 (K : Nat) (a0 : List Int) (a1 : List Int) (n : Nat) (q3 : Int) : Option Bool :=
  iter (X := Int) (fun L x => (fun L2 => f57_b2 K a0 a1 L2 x) (fun v0 => L v0)) n q3
noncomputable def f57_fr2 (a0 : List Int) (a1 : List Int) (q3 : Int) : Fr := ⟨26, [(0, .v false [.row 0]), (1, .v false [.row 1]), (4, .v false [.bool false]), (5, .v false [.int .i64 q3]), (10, .v false [.bool ((a0.length : Int) != (a1.length : Int))])], [], [some ⟨2, (.int .i64), a0, .ro⟩, some ⟨2, (.int .i64), a1, .ro⟩]⟩
noncomputable def f57_k2 (K : Nat) (a0 : List Int) (a1 : List Int) (lr : LR Bool) : Ex → Fr → Option Bool :=
  contC (f57E K) 2 lr f57C [1, 1, 0, 1, 0] (finK (f57E K) Try.f57 [(.ro, (.list 2 (.int .i64))), (.ro, (.list 2 (.int .i64)))] [.bool] (a0, a1, ()))
noncomputable def f57_g (K : Nat) (a0 : List Int) (a1 : List Int) (I2 : Int → Option Bool) : Option Bool :=
  (bif ((a0.length : Int) != (a1.length : Int)) then some false else I2 (0 : Int))
noncomputable def f57G (K : Nat) (a0 : List Int) (a1 : List Int) : Option Bool :=
  f57_g K a0 a1 (fun d0 => f57_l2 K a0 a1 K d0)
noncomputable def f57M (K : Nat) : Mdl := ⟨[(.ro, (.list 2 (.int .i64))), (.ro, (.list 2 (.int .i64)))], [.bool], fun x => f57G K x.1 x.2.1⟩
/-! laws.eqPattern -/
noncomputable def f18E (K : Nat) : Env := ⟨[(42, f42M K), (57, f57M K)], tys, eqs, K, [0, 1, 2, 3, 4, 9, 15, 21]⟩
noncomputable def f18G (K : Nat) (a0 : Int × (Int × Int × Int) × List Int) (a1 : Int × (Int × Int × Int) × List Int) : Option Bool :=
  (bif (a0.1 != a1.1) then some false else (f42G K a0.2.1 a1.2.1).bind fun y1 => (bif (!y1) then some false else (f57G K a0.2.2 a1.2.2).bind fun y2 => (bif (!y2) then some false else some true)))
noncomputable def f18M (K : Nat) : Mdl := ⟨[(.ro, (.cons (.int .i64) (.cons (.cons (.int .i64) (.cons (.int .i64) (.int .i64))) (.list 2 (.int .i64))))), (.ro, (.cons (.int .i64) (.cons (.cons (.int .i64) (.cons (.int .i64) (.int .i64))) (.list 2 (.int .i64)))))], [.bool], fun x => f18G K x.1 x.2.1⟩
/-! laws.FnExactIsHanded -/
noncomputable def f4E (K : Nat) : Env := ⟨[(14, f14M K), (15, f15M K), (16, f16M K), (17, f17M K), (18, f18M K)], tys, eqs, K, [0, 1, 2, 3, 4, 5, 6, 7, 8, 13, 34, 39]⟩
noncomputable def f4G (K : Nat) (a0 : Int × (Int × Int × Int) × List Int) : Option Bool :=
  (f14G K a0 (1048576 : Int)).bind fun y1 => (bif (decide (y1 < (0 : Int))) then some true else (f16G K a0).bind fun y2 => (f15G K y2).bind fun y3 => (f16G K a0).bind fun y4 => (f17G K y4).bind fun y5 => (bif ((!(!(y5.1 != y3.1))) || true) then (bif ((!(!(y5.1 != y3.1))) || true) then (bif ((!(!(y5.1 != y3.1))) || true) then (bif (bif (y5.1 != y3.1) then true else (y5.2 != y3.2)) then some false else (f16G K a0).bind fun y6 => (f18G K y4 y6).bind fun y7 => (bif (!y7) then some false else some true)) else none) else none) else none))
noncomputable def f4M (K : Nat) : Mdl := ⟨[(.ro, (.cons (.int .i64) (.cons (.cons (.int .i64) (.cons (.int .i64) (.int .i64))) (.list 2 (.int .i64)))))], [.bool], fun x => f4G K x.1⟩
/-! spec.l01Has -/
noncomputable def f71C : Code := codeOf Try.f71
noncomputable def f71E (K : Nat) : Env := ⟨[], tys, eqs, K, [0, 1, 4, 5, 9, 17]⟩
noncomputable def f71_b2 (K : Nat) (a0 : List Int) (a1 : Int) (L2 : Int → Option Bool) (q3 : Int) : Option Bool :=
  (bif (decide (q3 < (a0.length : Int))) then (bif (decide (0 ≤ q3) && decide (q3 < (a0.length : Int))) then (bif ((a0.getD ((0 : Int) + q3).toNat (0 : Int)) == a1) then some true else L2 (w (q3 + (1 : Int)))) else none) else some false)
noncomputable def f71_l2 (K : Nat) (a0 : List Int) (a1 : Int) (n : Nat) (q3 : Int) : Option Bool :=
  iter (X := Int) (fun L x => (fun L2 => f71_b2 K a0 a1 L2 x) (fun v0 => L v0)) n q3
noncomputable def f71_fr2 (a0 : List Int) (a1 : Int) (q3 : Int) : Fr := ⟨18, [(0, .v false [.row 0]), (1, .v false [.int .i64 a1]), (4, .v false [.bool false]), (5, .v false [.int .i64 q3])], [], [some ⟨2, (.int .i64), a0, .ro⟩]⟩
noncomputable def f71_k2 (K : Nat) (a0 : List Int) (a1 : Int) (lr : LR Bool) : Ex → Fr → Option Bool :=
  contC (f71E K) 1 lr f71C [1, 0, 1, 0] (finK (f71E K) Try.f71 [(.ro, (.list 2 (.int .i64))), (.ro, (.int .i64))] [.bool] (a0, a1, ()))
noncomputable def f71_g (K : Nat) (a0 : List Int) (a1 : Int) (I2 : Int → Option Bool) : Option Bool :=
  I2 (0 : Int)
noncomputable def f71G (K : Nat) (a0 : List Int) (a1 : Int) : Option Bool :=
  f71_g K a0 a1 (fun d0 => f71_l2 K a0 a1 K d0)
noncomputable def f71M (K : Nat) : Mdl := ⟨[(.ro, (.list 2 (.int .i64))), (.ro, (.int .i64))], [.bool], fun x => f71G K x.1 x.2.1⟩
/-! spec.l02Multiply -/
noncomputable def f166E (K : Nat) : Env := ⟨[], tys, eqs, K, [0, 1, 2, 3, 4]⟩
noncomputable def f166G (K : Nat) (a0 : Int × Int × Int × Int) (a1 : Int × Int × Int × Int) : Option (Int × Int × Int × Int) :=
  some ((w ((w (a0.1 * a1.1)) + (w (a0.2.1 * a1.2.2.1)))), (w ((w (a0.1 * a1.2.1)) + (w (a0.2.1 * a1.2.2.2)))), (w ((w (a0.2.2.1 * a1.1)) + (w (a0.2.2.2 * a1.2.2.1)))), (w ((w (a0.2.2.1 * a1.2.1)) + (w (a0.2.2.2 * a1.2.2.2)))))
noncomputable def f166M (K : Nat) : Mdl := ⟨[(.ro, (.cons (.int .i64) (.cons (.int .i64) (.cons (.int .i64) (.int .i64))))), (.ro, (.cons (.int .i64) (.cons (.int .i64) (.cons (.int .i64) (.int .i64)))))], [(.cons (.int .i64) (.cons (.int .i64) (.cons (.int .i64) (.int .i64))))], fun x => f166G K x.1 x.2.1⟩
/-! spec.IsVec -/
noncomputable def f120E (K : Nat) : Env := ⟨[(111, f111M K)], tys, eqs, K, [0, 1, 2]⟩
noncomputable def f120G (K : Nat) (a0 : Int × Int) : Option Bool :=
  (f111G K a0.1 (-1000 : Int) (1000 : Int)).bind fun y1 => (bif ((!y1) || true) then (bif ((!y1) || true) then ((bif y1 then f111G K a0.2 (-1000 : Int) (1000 : Int) else some false)).bind fun y2 => some (bif y1 then y2 else false) else none) else none)
noncomputable def f120M (K : Nat) : Mdl := ⟨[(.ro, (.cons (.int .i64) (.int .i64)))], [.bool], fun x => f120G K x.1⟩
/-! spec.l02Small -/
noncomputable def f167E (K : Nat) : Env := ⟨[(120, f120M K)], tys, eqs, K, [0, 1, 2]⟩
noncomputable def f167G (K : Nat) (a0 : Int × Int × Int × Int) : Option Bool :=
  (f120G K (a0.1, a0.2.1)).bind fun y1 => (bif ((!y1) || true) then (bif ((!y1) || true) then (bif ((!y1) || true) then (bif ((!y1) || true) then (bif ((!y1) || true) then ((bif y1 then f120G K a0.2.2 else some false)).bind fun y2 => some (bif y1 then y2 else false) else none) else none) else none) else none) else none)
noncomputable def f167M (K : Nat) : Mdl := ⟨[(.ro, (.cons (.int .i64) (.cons (.int .i64) (.cons (.int .i64) (.int .i64)))))], [.bool], fun x => f167G K x.1⟩
/-! spec.l02Order -/
noncomputable def f118C : Code := codeOf Try.f118
noncomputable def f118E (K : Nat) : Env := ⟨[(137, f137M K), (166, f166M K), (167, f167M K)], tys, eqs, K, [0, 1, 2, 3, 4, 7, 15, 18]⟩
noncomputable def f118_b6 (K : Nat) (a0 : Int × Int × Int × Int) (L6 : Int → Int → Int → Int → Int → Option Int) (q7 : Int) (q8 : Int) (q9 : Int) (q10 : Int) (q11 : Int) : Option Int :=
  (bif (decide (q7 ≤ (6 : Int))) then (f166G K a0 (q8, q9, q10, q11)).bind fun y12 => (f167G K y12).bind fun y13 => (bif (!y13) then some (0 : Int) else (f137G K).bind fun y14 => (bif ((y12.1 == y14.1) && ((y12.2.1 == y14.2.1) && ((y12.2.2.1 == y14.2.2.1) && (y12.2.2.2 == y14.2.2.2)))) then some q7 else L6 (w (q7 + (1 : Int))) y12.1 y12.2.1 y12.2.2.1 y12.2.2.2)) else some (0 : Int))
noncomputable def f118_l6 (K : Nat) (a0 : Int × Int × Int × Int) (n : Nat) (q7 : Int) (q8 : Int) (q9 : Int) (q10 : Int) (q11 : Int) : Option Int :=
  iter (X := Int × Int × Int × Int × Int) (fun L x => (fun L6 => f118_b6 K a0 L6 x.1 x.2.1 x.2.2.1 x.2.2.2.1 x.2.2.2.2) (fun v0 v1 v2 v3 v4 => L (v0, v1, v2, v3, v4))) n (q7, q8, q9, q10, q11)
noncomputable def f118_fr6 (a0 : Int × Int × Int × Int) (q7 : Int) (q8 : Int) (q9 : Int) (q10 : Int) (q11 : Int) : Fr := ⟨20, [(0, .v true [.int .i64 a0.1, .int .i64 a0.2.1, .int .i64 a0.2.2.1, .int .i64 a0.2.2.2]), (1, .v false [.box 0 0]), (2, .v false [.int .i64 (0 : Int)]), (3, .v false [.box 1 0]), (4, .v false [.int .i64 q7])], [some ⟨true, [.int .i64 a0.1, .int .i64 a0.2.1, .int .i64 a0.2.2.1, .int .i64 a0.2.2.2]⟩, some ⟨true, [.int .i64 q8, .int .i64 q9, .int .i64 q10, .int .i64 q11]⟩], []⟩
noncomputable def f118_k6 (K : Nat) (a0 : Int × Int × Int × Int) (lr : LR Int) : Ex → Fr → Option Int :=
  contC (f118E K) 0 lr f118C [1, 1, 0, 1, 0] (finK (f118E K) Try.f118 [(.ro, (.cons (.int .i64) (.cons (.int .i64) (.cons (.int .i64) (.int .i64)))))] [(.int .i64)] (a0, ()))
noncomputable def f118_g (K : Nat) (a0 : Int × Int × Int × Int) (I6 : Int → Int → Int → Int → Int → Option Int) : Option Int :=
  (f137G K).bind fun y1 => I6 (1 : Int) y1.1 y1.2.1 y1.2.2.1 y1.2.2.2
noncomputable def f118G (K : Nat) (a0 : Int × Int × Int × Int) : Option Int :=
  f118_g K a0 (fun d0 d1 d2 d3 d4 => f118_l6 K a0 K d0 d1 d2 d3 d4)
noncomputable def f118M (K : Nat) : Mdl := ⟨[(.ro, (.cons (.int .i64) (.cons (.int .i64) (.cons (.int .i64) (.int .i64)))))], [(.int .i64)], fun x => f118G K x.1⟩
/-! spec.l02Kind -/
noncomputable def f73E (K : Nat) : Env := ⟨[(52, f52M K), (118, f118M K)], tys, eqs, K, [0, 1, 2, 3, 9]⟩
noncomputable def f73G (K : Nat) (a0 : Int × Int × Int × Int) : Option Int :=
  (f52G K a0).bind fun y1 => (bif (y1 == (1 : Int)) then (f118G K a0).bind fun y2 => some y2 else (f118G K a0).bind fun y3 => (bif (y3 == (2 : Int)) then some (-2 : Int) else some (0 : Int)))
noncomputable def f73M (K : Nat) : Mdl := ⟨[(.ro, (.cons (.int .i64) (.cons (.int .i64) (.cons (.int .i64) (.int .i64)))))], [(.int .i64)], fun x => f73G K x.1⟩
/-! spec.l07Move -/
noncomputable def f66E (K : Nat) : Env := ⟨[(112, f112M K), (113, f113M K)], tys, eqs, K, [0, 1, 2, 3, 4, 5, 6]⟩
noncomputable def f66G (K : Nat) (a0 : Int × Int × Int) (a1 : (Int × Int × Int × Int) × Int × Int) (a2 : Int × Int) : Option (Int × Int) :=
  (f113G K a1 a2).bind fun y1 => (f112G K a0 y1).bind fun y2 => some y2
noncomputable def f66M (K : Nat) : Mdl := ⟨[(.ro, (.cons (.int .i64) (.cons (.int .i64) (.int .i64)))), (.ro, (.cons (.cons (.int .i64) (.cons (.int .i64) (.cons (.int .i64) (.int .i64)))) (.cons (.int .i64) (.int .i64)))), (.ro, (.cons (.int .i64) (.int .i64)))], [(.cons (.int .i64) (.int .i64))], fun x => f66G K x.1 x.2.1 x.2.2.1⟩
/-! spec.l14Fixing -/
noncomputable def f74C : Code := codeOf Try.f74
noncomputable def f74E (K : Nat) : Env := ⟨[(66, f66M K)], tys, eqs, K, [0, 1, 2, 3, 5, 6, 7, 8, 12, 23]⟩
noncomputable def f74_b3 (K : Nat) (a0 : Int × Int × Int) (a1 : List ((Int × Int × Int × Int) × Int × Int)) (a2 : Int × Int) (L3 : Int → Int → Option Int) (q4 : Int) (q5 : Int) : Option Int :=
  (bif (decide (q5 < (a1.length : Int))) then (bif (decide (0 ≤ q5) && decide (q5 < (a1.length : Int))) then (f66G K a0 ((((a1.getD ((0 : Int) + q5).toNat (((0 : Int), ((0 : Int), ((0 : Int), (0 : Int)))), ((0 : Int), (0 : Int)))).1).1, (((a1.getD ((0 : Int) + q5).toNat (((0 : Int), ((0 : Int), ((0 : Int), (0 : Int)))), ((0 : Int), (0 : Int)))).1).2).1, ((((a1.getD ((0 : Int) + q5).toNat (((0 : Int), ((0 : Int), ((0 : Int), (0 : Int)))), ((0 : Int), (0 : Int)))).1).2).2)), ((a1.getD ((0 : Int) + q5).toNat (((0 : Int), ((0 : Int), ((0 : Int), (0 : Int)))), ((0 : Int), (0 : Int)))).2)) a2).bind fun y6 => (bif ((y6.1 == a2.1) && (y6.2 == a2.2)) then L3 (w (q4 + (1 : Int))) (w (q5 + (1 : Int))) else L3 q4 (w (q5 + (1 : Int)))) else none) else some q4)
noncomputable def f74_l3 (K : Nat) (a0 : Int × Int × Int) (a1 : List ((Int × Int × Int × Int) × Int × Int)) (a2 : Int × Int) (n : Nat) (q4 : Int) (q5 : Int) : Option Int :=
  iter (X := Int × Int) (fun L x => (fun L3 => f74_b3 K a0 a1 a2 L3 x.1 x.2) (fun v0 v1 => L (v0, v1))) n (q4, q5)
noncomputable def f74_fr3 (a0 : Int × Int × Int) (a1 : List ((Int × Int × Int × Int) × Int × Int)) (a2 : Int × Int) (q4 : Int) (q5 : Int) : Fr := ⟨27, [(0, .v true [.int .i64 a0.1, .int .i64 a0.2.1, .int .i64 a0.2.2]), (1, .v false [.row 0]), (2, .v true [.int .i64 a2.1, .int .i64 a2.2]), (3, .v false [.box 0 0]), (5, .v false [.box 1 0]), (6, .v false [.int .i64 (0 : Int)]), (7, .v false [.int .i64 q4]), (8, .v false [.int .i64 q5])], [some ⟨true, [.int .i64 a0.1, .int .i64 a0.2.1, .int .i64 a0.2.2]⟩, some ⟨true, [.int .i64 a2.1, .int .i64 a2.2]⟩], [some ⟨88, (.cons (.cons (.int .i64) (.cons (.int .i64) (.cons (.int .i64) (.int .i64)))) (.cons (.int .i64) (.int .i64))), a1, .ro⟩]⟩
noncomputable def f74_k3 (K : Nat) (a0 : Int × Int × Int) (a1 : List ((Int × Int × Int × Int) × Int × Int)) (a2 : Int × Int) (lr : LR Int) : Ex → Fr → Option Int :=
  contC (f74E K) 1 lr f74C [1, 1, 0, 1, 0] (finK (f74E K) Try.f74 [(.ro, (.cons (.int .i64) (.cons (.int .i64) (.int .i64)))), (.ro, (.list 88 (.cons (.cons (.int .i64) (.cons (.int .i64) (.cons (.int .i64) (.int .i64)))) (.cons (.int .i64) (.int .i64))))), (.ro, (.cons (.int .i64) (.int .i64)))] [(.int .i64)] (a0, a1, a2, ()))
noncomputable def f74_g (K : Nat) (a0 : Int × Int × Int) (a1 : List ((Int × Int × Int × Int) × Int × Int)) (a2 : Int × Int) (I3 : Int → Int → Option Int) : Option Int :=
  I3 (0 : Int) (0 : Int)
noncomputable def f74G (K : Nat) (a0 : Int × Int × Int) (a1 : List ((Int × Int × Int × Int) × Int × Int)) (a2 : Int × Int) : Option Int :=
  f74_g K a0 a1 a2 (fun d0 d1 => f74_l3 K a0 a1 a2 K d0 d1)
noncomputable def f74M (K : Nat) : Mdl := ⟨[(.ro, (.cons (.int .i64) (.cons (.int .i64) (.int .i64)))), (.ro, (.list 88 (.cons (.cons (.int .i64) (.cons (.int .i64) (.cons (.int .i64) (.int .i64)))) (.cons (.int .i64) (.int .i64))))), (.ro, (.cons (.int .i64) (.int .i64)))], [(.int .i64)], fun x => f74G K x.1 x.2.1 x.2.2.1⟩
/-! spec.TurningSites -/
noncomputable def f34C : Code := codeOf Try.f34
noncomputable def f34E (K : Nat) : Env := ⟨[(49, f49M K), (50, f50M K), (51, f51M K), (71, f71M K), (72, f72M K), (73, f73M K), (74, f74M K)], tys, eqs, K, [0, 1, 2, 4, 5, 6, 7, 8, 9, 10, 11, 12, 13, 17, 33, 43, 55, 66]⟩
noncomputable def f34_b14 (K : Nat) (a0 : Int × (Int × Int × Int) × List Int) (a1 : Int) (q9 : Int) (q10 : List ((Int × Int × Int × Int) × Int × Int)) (y1 : Bool) (y2 : Bool) (y3 : Int × (Int × Int × Int) × List Int) (y4 : List ((Int × Int × Int × Int) × Int × Int)) (y5 : List (Int × Int)) (L14 : Int → (List (Int × Int)) → Option ((List (Int × Int)) × Int)) (q15 : Int) (q16 : List (Int × Int)) : Option ((List (Int × Int)) × Int) :=
  (bif (decide (q15 < (y5.length : Int))) then (bif (decide (0 ≤ q15) && decide (q15 < (y5.length : Int))) then (f74G K y3.2.1 q10 (y5.getD ((0 : Int) + q15).toNat ((0 : Int), (0 : Int)))).bind fun y17 => (bif (decide (y17 > (0 : Int))) then (bif (decide (0 ≤ q15) && decide (q15 < (y5.length : Int))) then (bif (Nat.ble (q16.length + [(y5.getD ((0 : Int) + q15).toNat ((0 : Int), (0 : Int)))].length) (lim 16)) then L14 (w (q15 + (1 : Int))) (q16 ++ [(y5.getD ((0 : Int) + q15).toNat ((0 : Int), (0 : Int)))]) else none) else none) else L14 (w (q15 + (1 : Int))) q16) else none) else some (q16, (0 : Int)))
noncomputable def f34_l14 (K : Nat) (a0 : Int × (Int × Int × Int) × List Int) (a1 : Int) (q9 : Int) (q10 : List ((Int × Int × Int × Int) × Int × Int)) (y1 : Bool) (y2 : Bool) (y3 : Int × (Int × Int × Int) × List Int) (y4 : List ((Int × Int × Int × Int) × Int × Int)) (y5 : List (Int × Int)) (n : Nat) (q15 : Int) (q16 : List (Int × Int)) : Option ((List (Int × Int)) × Int) :=
  iter (X := Int × List (Int × Int)) (fun L x => (fun L14 => f34_b14 K a0 a1 q9 q10 y1 y2 y3 y4 y5 L14 x.1 x.2) (fun v0 v1 => L (v0, v1))) n (q15, q16)
noncomputable def f34_fr14 (a0 : Int × (Int × Int × Int) × List Int) (a1 : Int) (q9 : Int) (q10 : List ((Int × Int × Int × Int) × Int × Int)) (y1 : Bool) (y2 : Bool) (y3 : Int × (Int × Int × Int) × List Int) (y4 : List ((Int × Int × Int × Int) × Int × Int)) (y5 : List (Int × Int)) (q15 : Int) (q16 : List (Int × Int)) : Fr := ⟨75, [(0, .v true [.int .i64 a0.1, .int .i64 a0.2.1.1, .int .i64 a0.2.1.2.1, .int .i64 a0.2.1.2.2, .row 0]), (1, .v false [.int .i64 a1]), (2, .v false [.box 0 0]), (4, .v false [.row 1]), (5, .v false [.int .i64 (0 : Int)]), (6, .v false [.box 1 0]), (7, .v false [.row 2]), (8, .v false [.row 3]), (9, .v false [.row 4]), (10, .v false [.int .i64 q9]), (11, .v false [.row 5]), (12, .v false [.int .i64 q15]), (13, .v false [.bool (!y1)]), (17, .v false [.bool (!y2)]), (33, .v false [.bool (decide (q9 < (y4.length : Int)))])], [some ⟨true, [.int .i64 a0.1, .int .i64 a0.2.1.1, .int .i64 a0.2.1.2.1, .int .i64 a0.2.1.2.2, .row 0]⟩, some ⟨true, [.int .i64 y3.1, .int .i64 y3.2.1.1, .int .i64 y3.2.1.2.1, .int .i64 y3.2.1.2.2, .row 6]⟩], [some ⟨2, (.int .i64), a0.2.2, .ro⟩, some ⟨60, (.cons (.int .i64) (.int .i64)), [], .own⟩, some ⟨88, (.cons (.cons (.int .i64) (.cons (.int .i64) (.cons (.int .i64) (.int .i64)))) (.cons (.int .i64) (.int .i64))), y4, .own⟩, some ⟨60, (.cons (.int .i64) (.int .i64)), y5, .own⟩, some ⟨88, (.cons (.cons (.int .i64) (.cons (.int .i64) (.cons (.int .i64) (.int .i64)))) (.cons (.int .i64) (.int .i64))), q10, .own⟩, some ⟨60, (.cons (.int .i64) (.int .i64)), q16, .own⟩, some ⟨2, (.int .i64), y3.2.2, .own⟩]⟩
noncomputable def f34_b8 (K : Nat) (a0 : Int × (Int × Int × Int) × List Int) (a1 : Int) (y1 : Bool) (y2 : Bool) (y3 : Int × (Int × Int × Int) × List Int) (y4 : List ((Int × Int × Int × Int) × Int × Int)) (y5 : List (Int × Int)) (I14 : Int → (List ((Int × Int × Int × Int) × Int × Int)) → Bool → Bool → (Int × (Int × Int × Int) × List Int) → (List ((Int × Int × Int × Int) × Int × Int)) → (List (Int × Int)) → Int → (List (Int × Int)) → Option ((List (Int × Int)) × Int)) (L8 : Int → (List ((Int × Int × Int × Int) × Int × Int)) → Option ((List (Int × Int)) × Int)) (q9 : Int) (q10 : List ((Int × Int × Int × Int) × Int × Int)) : Option ((List (Int × Int)) × Int) :=
  (bif (decide (q9 < (y4.length : Int))) then (bif (decide (0 ≤ q9) && decide (q9 < (y4.length : Int))) then (f73G K (((y4.getD ((0 : Int) + q9).toNat (((0 : Int), ((0 : Int), ((0 : Int), (0 : Int)))), ((0 : Int), (0 : Int)))).1).1, (((y4.getD ((0 : Int) + q9).toNat (((0 : Int), ((0 : Int), ((0 : Int), (0 : Int)))), ((0 : Int), (0 : Int)))).1).2).1, ((((y4.getD ((0 : Int) + q9).toNat (((0 : Int), ((0 : Int), ((0 : Int), (0 : Int)))), ((0 : Int), (0 : Int)))).1).2).2))).bind fun y11 => (bif (y11 == a1) then (bif (decide (0 ≤ q9) && decide (q9 < (y4.length : Int))) then (bif (Nat.ble (q10.length + [((((y4.getD ((0 : Int) + q9).toNat (((0 : Int), ((0 : Int), ((0 : Int), (0 : Int)))), ((0 : Int), (0 : Int)))).1).1, (((y4.getD ((0 : Int) + q9).toNat (((0 : Int), ((0 : Int), ((0 : Int), (0 : Int)))), ((0 : Int), (0 : Int)))).1).2).1, ((((y4.getD ((0 : Int) + q9).toNat (((0 : Int), ((0 : Int), ((0 : Int), (0 : Int)))), ((0 : Int), (0 : Int)))).1).2).2)), ((y4.getD ((0 : Int) + q9).toNat (((0 : Int), ((0 : Int), ((0 : Int), (0 : Int)))), ((0 : Int), (0 : Int)))).2))].length) (lim 48)) then L8 (w (q9 + (1 : Int))) (q10 ++ [((((y4.getD ((0 : Int) + q9).toNat (((0 : Int), ((0 : Int), ((0 : Int), (0 : Int)))), ((0 : Int), (0 : Int)))).1).1, (((y4.getD ((0 : Int) + q9).toNat (((0 : Int), ((0 : Int), ((0 : Int), (0 : Int)))), ((0 : Int), (0 : Int)))).1).2).1, ((((y4.getD ((0 : Int) + q9).toNat (((0 : Int), ((0 : Int), ((0 : Int), (0 : Int)))), ((0 : Int), (0 : Int)))).1).2).2)), ((y4.getD ((0 : Int) + q9).toNat (((0 : Int), ((0 : Int), ((0 : Int), (0 : Int)))), ((0 : Int), (0 : Int)))).2))]) else none) else none) else L8 (w (q9 + (1 : Int))) q10) else none) else I14 q9 q10 y1 y2 y3 y4 y5 (0 : Int) [])
noncomputable def f34_l8 (K : Nat) (a0 : Int × (Int × Int × Int) × List Int) (a1 : Int) (y1 : Bool) (y2 : Bool) (y3 : Int × (Int × Int × Int) × List Int) (y4 : List ((Int × Int × Int × Int) × Int × Int)) (y5 : List (Int × Int)) (n : Nat) (q9 : Int) (q10 : List ((Int × Int × Int × Int) × Int × Int)) : Option ((List (Int × Int)) × Int) :=
  iter (X := Int × List ((Int × Int × Int × Int) × Int × Int)) (fun L x => (fun L8 => f34_b8 K a0 a1 y1 y2 y3 y4 y5 (fun c0 c1 c2 c3 c4 c5 c6 d0 d1 => f34_l14 K a0 a1 c0 c1 c2 c3 c4 c5 c6 K d0 d1) L8 x.1 x.2) (fun v0 v1 => L (v0, v1))) n (q9, q10)
noncomputable def f34_fr8 (a0 : Int × (Int × Int × Int) × List Int) (a1 : Int) (y1 : Bool) (y2 : Bool) (y3 : Int × (Int × Int × Int) × List Int) (y4 : List ((Int × Int × Int × Int) × Int × Int)) (y5 : List (Int × Int)) (q9 : Int) (q10 : List ((Int × Int × Int × Int) × Int × Int)) : Fr := ⟨75, [(0, .v true [.int .i64 a0.1, .int .i64 a0.2.1.1, .int .i64 a0.2.1.2.1, .int .i64 a0.2.1.2.2, .row 0]), (1, .v false [.int .i64 a1]), (2, .v false [.box 0 0]), (4, .v false [.row 1]), (5, .v false [.int .i64 (0 : Int)]), (6, .v false [.box 1 0]), (7, .v false [.row 2]), (8, .v false [.row 3]), (9, .v false [.row 4]), (10, .v false [.int .i64 q9]), (13, .v false [.bool (!y1)]), (17, .v false [.bool (!y2)])], [some ⟨true, [.int .i64 a0.1, .int .i64 a0.2.1.1, .int .i64 a0.2.1.2.1, .int .i64 a0.2.1.2.2, .row 0]⟩, some ⟨true, [.int .i64 y3.1, .int .i64 y3.2.1.1, .int .i64 y3.2.1.2.1, .int .i64 y3.2.1.2.2, .row 5]⟩], [some ⟨2, (.int .i64), a0.2.2, .ro⟩, some ⟨60, (.cons (.int .i64) (.int .i64)), [], .own⟩, some ⟨88, (.cons (.cons (.int .i64) (.cons (.int .i64) (.cons (.int .i64) (.int .i64)))) (.cons (.int .i64) (.int .i64))), y4, .own⟩, some ⟨60, (.cons (.int .i64) (.int .i64)), y5, .own⟩, some ⟨88, (.cons (.cons (.int .i64) (.cons (.int .i64) (.cons (.int .i64) (.int .i64)))) (.cons (.int .i64) (.int .i64))), q10, .own⟩, some ⟨2, (.int .i64), y3.2.2, .own⟩]⟩
noncomputable def f34_k8 (K : Nat) (a0 : Int × (Int × Int × Int) × List Int) (a1 : Int) (lr : LR ((List (Int × Int)) × Int)) : Ex → Fr → Option ((List (Int × Int)) × Int) :=
  contC (f34E K) 1 lr f34C [1, 1, 1, 1, 1, 0, 1, 0] (finK (f34E K) Try.f34 [(.ro, (.cons (.int .i64) (.cons (.cons (.int .i64) (.cons (.int .i64) (.int .i64))) (.list 2 (.int .i64))))), (.ro, (.int .i64))] [(.list 60 (.cons (.int .i64) (.int .i64))), (.int .i64)] (a0, a1, ()))
noncomputable def f34_k14 (K : Nat) (a0 : Int × (Int × Int × Int) × List Int) (a1 : Int) (lr : LR ((List (Int × Int)) × Int)) : Ex → Fr → Option ((List (Int × Int)) × Int) :=
  contC (f34E K) 1 lr f34C [1, 1, 1, 1, 1, 1, 1, 0, 1, 0] (finK (f34E K) Try.f34 [(.ro, (.cons (.int .i64) (.cons (.cons (.int .i64) (.cons (.int .i64) (.int .i64))) (.list 2 (.int .i64))))), (.ro, (.int .i64))] [(.list 60 (.cons (.int .i64) (.int .i64))), (.int .i64)] (a0, a1, ()))
noncomputable def f34_g (K : Nat) (a0 : Int × (Int × Int × Int) × List Int) (a1 : Int) (I8 : Bool → Bool → (Int × (Int × Int × Int) × List Int) → (List ((Int × Int × Int × Int) × Int × Int)) → (List (Int × Int)) → Int → (List ((Int × Int × Int × Int) × Int × Int)) → Option ((List (Int × Int)) × Int)) : Option ((List (Int × Int)) × Int) :=
  (f49G K a0).bind fun y1 => (bif (!y1) then some ([], (1 : Int)) else (f71G K [(2 : Int), (3 : Int), (4 : Int), (6 : Int)] a1).bind fun y2 => (bif (!y2) then some ([], (2 : Int)) else (f51G K a0).bind fun y3 => (f50G K y3).bind fun y4 => (f72G K y3.2.1).bind fun y5 => I8 y1 y2 y3 y4 y5 (0 : Int) []))
noncomputable def f34G (K : Nat) (a0 : Int × (Int × Int × Int) × List Int) (a1 : Int) : Option ((List (Int × Int)) × Int) :=
  f34_g K a0 a1 (fun c0 c1 c2 c3 c4 d0 d1 => f34_l8 K a0 a1 c0 c1 c2 c3 c4 K d0 d1)
noncomputable def f34M (K : Nat) : Mdl := ⟨[(.ro, (.cons (.int .i64) (.cons (.cons (.int .i64) (.cons (.int .i64) (.int .i64))) (.list 2 (.int .i64))))), (.ro, (.int .i64))], [(.list 60 (.cons (.int .i64) (.int .i64))), (.int .i64)], fun x => f34G K x.1 x.2.1⟩
/-! (impl.Lattice).take -/
noncomputable def f115E (K : Nat) : Env := ⟨[(159, f159M K), (160, f160M K)], tys, eqs, K, [0, 1, 2, 3, 4, 5, 6]⟩
noncomputable def f115G (K : Nat) (a0 : Int × Int × Int) (a1 : (Int × Int × Int × Int) × Int × Int) (a2 : Int × Int) : Option (Int × Int) :=
  (f160G K a1 a2).bind fun y1 => (f159G K a0 y1).bind fun y2 => some y2
noncomputable def f115M (K : Nat) : Mdl := ⟨[(.ro, (.cons (.int .i64) (.cons (.int .i64) (.int .i64)))), (.ro, (.cons (.cons (.int .i64) (.cons (.int .i64) (.cons (.int .i64) (.int .i64)))) (.cons (.int .i64) (.int .i64)))), (.ro, (.cons (.int .i64) (.int .i64)))], [(.cons (.int .i64) (.int .i64))], fun x => f115G K x.1 x.2.1 x.2.2.1⟩
/-! impl.stabiliserOf -/
noncomputable def f68C : Code := codeOf Try.f68
noncomputable def f68E (K : Nat) : Env := ⟨[(115, f115M K)], tys, eqs, K, [0, 1, 2, 3, 5, 6, 7, 9, 11, 12, 13, 14, 22]⟩
noncomputable def f68_b3 (K : Nat) (a0 : Int × Int × Int) (a1 : List ((Int × Int × Int × Int) × Int × Int)) (a2 : Int × Int) (L3 : Int → (List ((Int × Int × Int × Int) × Int × Int)) → Option (List ((Int × Int × Int × Int) × Int × Int))) (q4 : Int) (q5 : List ((Int × Int × Int × Int) × Int × Int)) : Option (List ((Int × Int × Int × Int) × Int × Int)) :=
  (bif (decide (q4 < (a1.length : Int))) then (bif (decide (0 ≤ q4) && decide (q4 < (a1.length : Int))) then (f115G K a0 ((((a1.getD ((0 : Int) + q4).toNat (((0 : Int), ((0 : Int), ((0 : Int), (0 : Int)))), ((0 : Int), (0 : Int)))).1).1, (((a1.getD ((0 : Int) + q4).toNat (((0 : Int), ((0 : Int), ((0 : Int), (0 : Int)))), ((0 : Int), (0 : Int)))).1).2).1, ((((a1.getD ((0 : Int) + q4).toNat (((0 : Int), ((0 : Int), ((0 : Int), (0 : Int)))), ((0 : Int), (0 : Int)))).1).2).2)), ((a1.getD ((0 : Int) + q4).toNat (((0 : Int), ((0 : Int), ((0 : Int), (0 : Int)))), ((0 : Int), (0 : Int)))).2)) a2).bind fun y6 => (bif ((y6.1 == a2.1) && (y6.2 == a2.2)) then (bif (Nat.ble (q5.length + [((((a1.getD ((0 : Int) + q4).toNat (((0 : Int), ((0 : Int), ((0 : Int), (0 : Int)))), ((0 : Int), (0 : Int)))).1).1, (((a1.getD ((0 : Int) + q4).toNat (((0 : Int), ((0 : Int), ((0 : Int), (0 : Int)))), ((0 : Int), (0 : Int)))).1).2).1, ((((a1.getD ((0 : Int) + q4).toNat (((0 : Int), ((0 : Int), ((0 : Int), (0 : Int)))), ((0 : Int), (0 : Int)))).1).2).2)), ((a1.getD ((0 : Int) + q4).toNat (((0 : Int), ((0 : Int), ((0 : Int), (0 : Int)))), ((0 : Int), (0 : Int)))).2))].length) (lim 48)) then L3 (w (q4 + (1 : Int))) (q5 ++ [((((a1.getD ((0 : Int) + q4).toNat (((0 : Int), ((0 : Int), ((0 : Int), (0 : Int)))), ((0 : Int), (0 : Int)))).1).1, (((a1.getD ((0 : Int) + q4).toNat (((0 : Int), ((0 : Int), ((0 : Int), (0 : Int)))), ((0 : Int), (0 : Int)))).1).2).1, ((((a1.getD ((0 : Int) + q4).toNat (((0 : Int), ((0 : Int), ((0 : Int), (0 : Int)))), ((0 : Int), (0 : Int)))).1).2).2)), ((a1.getD ((0 : Int) + q4).toNat (((0 : Int), ((0 : Int), ((0 : Int), (0 : Int)))), ((0 : Int), (0 : Int)))).2))]) else none) else L3 (w (q4 + (1 : Int))) q5) else none) else some q5)
noncomputable def f68_l3 (K : Nat) (a0 : Int × Int × Int) (a1 : List ((Int × Int × Int × Int) × Int × Int)) (a2 : Int × Int) (n : Nat) (q4 : Int) (q5 : List ((Int × Int × Int × Int) × Int × Int)) : Option (List ((Int × Int × Int × Int) × Int × Int)) :=
  iter (X := Int × List ((Int × Int × Int × Int) × Int × Int)) (fun L x => (fun L3 => f68_b3 K a0 a1 a2 L3 x.1 x.2) (fun v0 v1 => L (v0, v1))) n (q4, q5)
noncomputable def f68_fr3 (a0 : Int × Int × Int) (a1 : List ((Int × Int × Int × Int) × Int × Int)) (a2 : Int × Int) (q4 : Int) (q5 : List ((Int × Int × Int × Int) × Int × Int)) : Fr := ⟨29, [(0, .v true [.int .i64 a0.1, .int .i64 a0.2.1, .int .i64 a0.2.2]), (1, .v false [.row 0]), (2, .v true [.int .i64 a2.1, .int .i64 a2.2]), (3, .v false [.box 0 0]), (5, .v false [.box 1 0]), (6, .v false [.row 1]), (7, .v false [.row 2]), (11, .v false [.row 0]), (12, .v false [.int .i64 (a1.length : Int)]), (13, .v false [.int .i64 q4])], [some ⟨true, [.int .i64 a0.1, .int .i64 a0.2.1, .int .i64 a0.2.2]⟩, some ⟨true, [.int .i64 a2.1, .int .i64 a2.2]⟩], [some ⟨88, (.cons (.cons (.int .i64) (.cons (.int .i64) (.cons (.int .i64) (.int .i64)))) (.cons (.int .i64) (.int .i64))), a1, .ro⟩, some ⟨88, (.cons (.cons (.int .i64) (.cons (.int .i64) (.cons (.int .i64) (.int .i64)))) (.cons (.int .i64) (.int .i64))), [], .own⟩, some ⟨88, (.cons (.cons (.int .i64) (.cons (.int .i64) (.cons (.int .i64) (.int .i64)))) (.cons (.int .i64) (.int .i64))), q5, .own⟩]⟩
noncomputable def f68_k3 (K : Nat) (a0 : Int × Int × Int) (a1 : List ((Int × Int × Int × Int) × Int × Int)) (a2 : Int × Int) (lr : LR (List ((Int × Int × Int × Int) × Int × Int))) : Ex → Fr → Option (List ((Int × Int × Int × Int) × Int × Int)) :=
  contC (f68E K) 1 lr f68C [1, 1, 0, 1, 0] (finK (f68E K) Try.f68 [(.ro, (.cons (.int .i64) (.cons (.int .i64) (.int .i64)))), (.ro, (.list 88 (.cons (.cons (.int .i64) (.cons (.int .i64) (.cons (.int .i64) (.int .i64)))) (.cons (.int .i64) (.int .i64))))), (.ro, (.cons (.int .i64) (.int .i64)))] [(.list 88 (.cons (.cons (.int .i64) (.cons (.int .i64) (.cons (.int .i64) (.int .i64)))) (.cons (.int .i64) (.int .i64))))] (a0, a1, a2, ()))
noncomputable def f68_g (K : Nat) (a0 : Int × Int × Int) (a1 : List ((Int × Int × Int × Int) × Int × Int)) (a2 : Int × Int) (I3 : Int → (List ((Int × Int × Int × Int) × Int × Int)) → Option (List ((Int × Int × Int × Int) × Int × Int))) : Option (List ((Int × Int × Int × Int) × Int × Int)) :=
  I3 (0 : Int) []
noncomputable def f68G (K : Nat) (a0 : Int × Int × Int) (a1 : List ((Int × Int × Int × Int) × Int × Int)) (a2 : Int × Int) : Option (List ((Int × Int × Int × Int) × Int × Int)) :=
  f68_g K a0 a1 a2 (fun d0 d1 => f68_l3 K a0 a1 a2 K d0 d1)
noncomputable def f68M (K : Nat) : Mdl := ⟨[(.ro, (.cons (.int .i64) (.cons (.int .i64) (.int .i64)))), (.ro, (.list 88 (.cons (.cons (.int .i64) (.cons (.int .i64) (.cons (.int .i64) (.int .i64)))) (.cons (.int .i64) (.int .i64))))), (.ro, (.cons (.int .i64) (.int .i64)))], [(.list 88 (.cons (.cons (.int .i64) (.cons (.int .i64) (.cons (.int .i64) (.int .i64)))) (.cons (.int .i64) (.int .i64))))], fun x => f68G K x.1 x.2.1 x.2.2.1⟩
/-! impl.TurningSites -/
noncomputable def f35C : Code := codeOf Try.f35
noncomputable def f35E (K : Nat) : Env := ⟨[(54, f54M K), (55, f55M K), (68, f68M K), (69, f69M K), (75, f75M K), (76, f76M K), (77, f77M K)], tys, eqs, K, [0, 1, 2, 4, 5, 6, 7, 8, 10, 12, 15, 29, 37, 38, 39, 40, 47, 48, 49, 50, 63]⟩
noncomputable def f35_b17 (K : Nat) (a0 : Int × (Int × Int × Int) × List Int) (a1 : Int) (q11 : Int) (q12 : List (Int × Int)) (y1 : Bool) (y2 : Int × (Int × Int × Int) × List Int) (y3 : List ((Int × Int × Int × Int) × Int × Int)) (y4 : List (Int × Int)) (y13 : List ((Int × Int × Int × Int) × Int × Int)) (L10 : Int → (List (Int × Int)) → Option ((List (Int × Int)) × Int)) (L17 : Int → Option ((List (Int × Int)) × Int)) (q18 : Int) : Option ((List (Int × Int)) × Int) :=
  (bif (decide (q18 < (y13.length : Int))) then (bif (decide (0 ≤ q18) && decide (q18 < (y13.length : Int))) then (f76G K (((y13.getD ((0 : Int) + q18).toNat (((0 : Int), ((0 : Int), ((0 : Int), (0 : Int)))), ((0 : Int), (0 : Int)))).1).1, (((y13.getD ((0 : Int) + q18).toNat (((0 : Int), ((0 : Int), ((0 : Int), (0 : Int)))), ((0 : Int), (0 : Int)))).1).2).1, ((((y13.getD ((0 : Int) + q18).toNat (((0 : Int), ((0 : Int), ((0 : Int), (0 : Int)))), ((0 : Int), (0 : Int)))).1).2).2))).bind fun y19 => (bif ((!(y19 == (1 : Int))) || true) then (bif ((!(y19 == (1 : Int))) || true) then ((bif (y19 == (1 : Int)) then f77G K (((y13.getD ((0 : Int) + q18).toNat (((0 : Int), ((0 : Int), ((0 : Int), (0 : Int)))), ((0 : Int), (0 : Int)))).1).1, (((y13.getD ((0 : Int) + q18).toNat (((0 : Int), ((0 : Int), ((0 : Int), (0 : Int)))), ((0 : Int), (0 : Int)))).1).2).1, ((((y13.getD ((0 : Int) + q18).toNat (((0 : Int), ((0 : Int), ((0 : Int), (0 : Int)))), ((0 : Int), (0 : Int)))).1).2).2)) else some (0 : Int))).bind fun y20 => (bif ((!(y19 == (1 : Int))) || true) then (bif ((!(y19 == (1 : Int))) || true) then (bif (bif (y19 == (1 : Int)) then (y20 == a1) else false) then (bif (Nat.ble (q12.length + [(y4.getD ((0 : Int) + q11).toNat ((0 : Int), (0 : Int)))].length) (lim 16)) then L10 (w (q11 + (1 : Int))) (q12 ++ [(y4.getD ((0 : Int) + q11).toNat ((0 : Int), (0 : Int)))]) else none) else L17 (w (q18 + (1 : Int)))) else none) else none) else none) else none) else none) else L10 (w (q11 + (1 : Int))) q12)
noncomputable def f35_l17 (K : Nat) (a0 : Int × (Int × Int × Int) × List Int) (a1 : Int) (q11 : Int) (q12 : List (Int × Int)) (y1 : Bool) (y2 : Int × (Int × Int × Int) × List Int) (y3 : List ((Int × Int × Int × Int) × Int × Int)) (y4 : List (Int × Int)) (y13 : List ((Int × Int × Int × Int) × Int × Int)) (L10 : Int → (List (Int × Int)) → Option ((List (Int × Int)) × Int)) (n : Nat) (q18 : Int) : Option ((List (Int × Int)) × Int) :=
  iter (X := Int) (fun L x => (fun L17 => f35_b17 K a0 a1 q11 q12 y1 y2 y3 y4 y13 L10 L17 x) (fun v0 => L v0)) n q18
noncomputable def f35_fr17 (a0 : Int × (Int × Int × Int) × List Int) (a1 : Int) (q11 : Int) (q12 : List (Int × Int)) (y1 : Bool) (y2 : Int × (Int × Int × Int) × List Int) (y3 : List ((Int × Int × Int × Int) × Int × Int)) (y4 : List (Int × Int)) (y13 : List ((Int × Int × Int × Int) × Int × Int)) (q18 : Int) : Fr := ⟨71, [(0, .v true [.int .i64 a0.1, .int .i64 a0.2.1.1, .int .i64 a0.2.1.2.1, .int .i64 a0.2.1.2.2, .row 0]), (1, .v false [.int .i64 a1]), (2, .v false [.box 0 0]), (4, .v false [.row 1]), (5, .v false [.int .i64 (0 : Int)]), (6, .v false [.box 1 0]), (7, .v false [.row 2]), (8, .v false [.row 3]), (10, .v false [.box 2 0]), (15, .v false [.bool (!y1)]), (29, .v false [.bool (bif (bif (bif (a1 != (2 : Int)) then (a1 != (3 : Int)) else false) then (a1 != (4 : Int)) else false) then (a1 != (6 : Int)) else false)]), (37, .v false [.row 4]), (38, .v false [.int .i64 (y4.length : Int)]), (39, .v false [.int .i64 q11]), (40, .v false [.bool (decide (q11 < (y4.length : Int)))]), (47, .v false [.row 5]), (48, .v false [.int .i64 (y13.length : Int)]), (49, .v false [.int .i64 q18])], [some ⟨true, [.int .i64 a0.1, .int .i64 a0.2.1.1, .int .i64 a0.2.1.2.1, .int .i64 a0.2.1.2.2, .row 0]⟩, some ⟨true, [.int .i64 y2.1, .int .i64 y2.2.1.1, .int .i64 y2.2.1.2.1, .int .i64 y2.2.1.2.2, .row 6]⟩, some ⟨true, [.int .i64 ((y4.getD ((0 : Int) + q11).toNat ((0 : Int), (0 : Int))).1), .int .i64 ((y4.getD ((0 : Int) + q11).toNat ((0 : Int), (0 : Int))).2)]⟩], [some ⟨2, (.int .i64), a0.2.2, .ro⟩, some ⟨60, (.cons (.int .i64) (.int .i64)), [], .own⟩, some ⟨60, (.cons (.int .i64) (.int .i64)), q12, .own⟩, some ⟨88, (.cons (.cons (.int .i64) (.cons (.int .i64) (.cons (.int .i64) (.int .i64)))) (.cons (.int .i64) (.int .i64))), y3, .own⟩, some ⟨60, (.cons (.int .i64) (.int .i64)), y4, .own⟩, some ⟨88, (.cons (.cons (.int .i64) (.cons (.int .i64) (.cons (.int .i64) (.int .i64)))) (.cons (.int .i64) (.int .i64))), y13, .own⟩, some ⟨2, (.int .i64), y2.2.2, .own⟩]⟩
noncomputable def f35_b10 (K : Nat) (a0 : Int × (Int × Int × Int) × List Int) (a1 : Int) (y1 : Bool) (y2 : Int × (Int × Int × Int) × List Int) (y3 : List ((Int × Int × Int × Int) × Int × Int)) (y4 : List (Int × Int)) (I17 : Int → (List (Int × Int)) → (List ((Int × Int × Int × Int) × Int × Int)) → Int → Option ((List (Int × Int)) × Int)) (L10 : Int → (List (Int × Int)) → Option ((List (Int × Int)) × Int)) (q11 : Int) (q12 : List (Int × Int)) : Option ((List (Int × Int)) × Int) :=
  (bif (decide (q11 < (y4.length : Int))) then (bif (decide (0 ≤ q11) && decide (q11 < (y4.length : Int))) then (f68G K y2.2.1 y3 (y4.getD ((0 : Int) + q11).toNat ((0 : Int), (0 : Int)))).bind fun y13 => I17 q11 q12 y13 (0 : Int) else none) else some (q12, (0 : Int)))
noncomputable def f35_l10 (K : Nat) (a0 : Int × (Int × Int × Int) × List Int) (a1 : Int) (y1 : Bool) (y2 : Int × (Int × Int × Int) × List Int) (y3 : List ((Int × Int × Int × Int) × Int × Int)) (y4 : List (Int × Int)) (n : Nat) (q11 : Int) (q12 : List (Int × Int)) : Option ((List (Int × Int)) × Int) :=
  iter (X := Int × List (Int × Int)) (fun L x => (fun L10 => f35_b10 K a0 a1 y1 y2 y3 y4 (fun c0 c1 c2 d0 => f35_l17 K a0 a1 c0 c1 y1 y2 y3 y4 c2 L10 K d0) L10 x.1 x.2) (fun v0 v1 => L (v0, v1))) n (q11, q12)
noncomputable def f35_fr10 (a0 : Int × (Int × Int × Int) × List Int) (a1 : Int) (y1 : Bool) (y2 : Int × (Int × Int × Int) × List Int) (y3 : List ((Int × Int × Int × Int) × Int × Int)) (y4 : List (Int × Int)) (q11 : Int) (q12 : List (Int × Int)) : Fr := ⟨71, [(0, .v true [.int .i64 a0.1, .int .i64 a0.2.1.1, .int .i64 a0.2.1.2.1, .int .i64 a0.2.1.2.2, .row 0]), (1, .v false [.int .i64 a1]), (2, .v false [.box 0 0]), (4, .v false [.row 1]), (5, .v false [.int .i64 (0 : Int)]), (6, .v false [.box 1 0]), (7, .v false [.row 2]), (8, .v false [.row 3]), (15, .v false [.bool (!y1)]), (29, .v false [.bool (bif (bif (bif (a1 != (2 : Int)) then (a1 != (3 : Int)) else false) then (a1 != (4 : Int)) else false) then (a1 != (6 : Int)) else false)]), (37, .v false [.row 4]), (38, .v false [.int .i64 (y4.length : Int)]), (39, .v false [.int .i64 q11])], [some ⟨true, [.int .i64 a0.1, .int .i64 a0.2.1.1, .int .i64 a0.2.1.2.1, .int .i64 a0.2.1.2.2, .row 0]⟩, some ⟨true, [.int .i64 y2.1, .int .i64 y2.2.1.1, .int .i64 y2.2.1.2.1, .int .i64 y2.2.1.2.2, .row 5]⟩], [some ⟨2, (.int .i64), a0.2.2, .ro⟩, some ⟨60, (.cons (.int .i64) (.int .i64)), [], .own⟩, some ⟨60, (.cons (.int .i64) (.int .i64)), q12, .own⟩, some ⟨88, (.cons (.cons (.int .i64) (.cons (.int .i64) (.cons (.int .i64) (.int .i64)))) (.cons (.int .i64) (.int .i64))), y3, .own⟩, some ⟨60, (.cons (.int .i64) (.int .i64)), y4, .own⟩, some ⟨2, (.int .i64), y2.2.2, .own⟩]⟩
noncomputable def f35_k10 (K : Nat) (a0 : Int × (Int × Int × Int) × List Int) (a1 : Int) (lr : LR ((List (Int × Int)) × Int)) : Ex → Fr → Option ((List (Int × Int)) × Int) :=
  contC (f35E K) 1 lr f35C [1, 1, 1, 1, 1, 0, 1, 0] (finK (f35E K) Try.f35 [(.ro, (.cons (.int .i64) (.cons (.cons (.int .i64) (.cons (.int .i64) (.int .i64))) (.list 2 (.int .i64))))), (.ro, (.int .i64))] [(.list 60 (.cons (.int .i64) (.int .i64))), (.int .i64)] (a0, a1, ()))
noncomputable def f35_k17 (K : Nat) (a0 : Int × (Int × Int × Int) × List Int) (a1 : Int) (y1 : Bool) (y2 : Int × (Int × Int × Int) × List Int) (y3 : List ((Int × Int × Int × Int) × Int × Int)) (y4 : List (Int × Int)) (F10 : Fr → Option ((List (Int × Int)) × Int)) (bq11 : Int) (bq12 : List (Int × Int)) (lr : LR ((List (Int × Int)) × Int)) : Ex → Fr → Option ((List (Int × Int)) × Int) :=
  contC (f35E K) 1 lr (selC f35C [1, 1, 1, 1, 1, 0, 1, 0, 0]) [1, 1, 0, 0, 1, 1, 0] (loopK 1 (f35_fr10 a0 a1 y1 y2 y3 y4 bq11 bq12) F10 (f35_k10 K a0 a1 lr))
noncomputable def f35_g (K : Nat) (a0 : Int × (Int × Int × Int) × List Int) (a1 : Int) (I10 : Bool → (Int × (Int × Int × Int) × List Int) → (List ((Int × Int × Int × Int) × Int × Int)) → (List (Int × Int)) → Int → (List (Int × Int)) → Option ((List (Int × Int)) × Int)) : Option ((List (Int × Int)) × Int) :=
  (f54G K a0).bind fun y1 => (bif (!y1) then some ([], (1 : Int)) else (bif ((!(a1 != (2 : Int))) || true) then (bif ((!(a1 != (2 : Int))) || true) then (bif ((!(bif (a1 != (2 : Int)) then (a1 != (3 : Int)) else false)) || true) then (bif ((!(bif (a1 != (2 : Int)) then (a1 != (3 : Int)) else false)) || true) then (bif ((!(bif (bif (a1 != (2 : Int)) then (a1 != (3 : Int)) else false) then (a1 != (4 : Int)) else false)) || true) then (bif ((!(bif (bif (a1 != (2 : Int)) then (a1 != (3 : Int)) else false) then (a1 != (4 : Int)) else false)) || true) then (bif (bif (bif (bif (a1 != (2 : Int)) then (a1 != (3 : Int)) else false) then (a1 != (4 : Int)) else false) then (a1 != (6 : Int)) else false) then some ([], (2 : Int)) else (f55G K a0).bind fun y2 => (f69G K y2).bind fun y3 => (f75G K y2.2.1).bind fun y4 => I10 y1 y2 y3 y4 (0 : Int) []) else none) else none) else none) else none) else none) else none))
noncomputable def f35G (K : Nat) (a0 : Int × (Int × Int × Int) × List Int) (a1 : Int) : Option ((List (Int × Int)) × Int) :=
  f35_g K a0 a1 (fun c0 c1 c2 c3 d0 d1 => f35_l10 K a0 a1 c0 c1 c2 c3 K d0 d1)
noncomputable def f35M (K : Nat) : Mdl := ⟨[(.ro, (.cons (.int .i64) (.cons (.cons (.int .i64) (.cons (.int .i64) (.int .i64))) (.list 2 (.int .i64))))), (.ro, (.int .i64))], [(.list 60 (.cons (.int .i64) (.int .i64))), (.int .i64)], fun x => f35G K x.1 x.2.1⟩
/-! laws.eqVec -/
noncomputable def f64E (K : Nat) : Env := ⟨[], tys, eqs, K, [0, 1, 2, 3, 4, 9, 14]⟩
noncomputable def f64G (K : Nat) (a0 : Int × Int) (a1 : Int × Int) : Option Bool :=
  (bif (a0.1 != a1.1) then some false else (bif (a0.2 != a1.2) then some false else some true))
noncomputable def f64M (K : Nat) : Mdl := ⟨[(.ro, (.cons (.int .i64) (.int .i64))), (.ro, (.cons (.int .i64) (.int .i64)))], [.bool], fun x => f64G K x.1 x.2.1⟩
/-! laws.eqVecS -/
noncomputable def f27C : Code := codeOf Try.f27
noncomputable def f27E (K : Nat) : Env := ⟨[(64, f64M K)], tys, eqs, K, [0, 1, 4, 5, 10, 14, 26]⟩
noncomputable def f27_b3 (K : Nat) (a0 : List (Int × Int)) (a1 : List (Int × Int)) (L3 : Int → Option Bool) (q4 : Int) : Option Bool :=
  (bif (decide (q4 < (a0.length : Int))) then (bif (decide (0 ≤ q4) && decide (q4 < (a0.length : Int))) then (bif (decide (0 ≤ q4) && decide (q4 < (a1.length : Int))) then (f64G K (a0.getD ((0 : Int) + q4).toNat ((0 : Int), (0 : Int))) (a1.getD ((0 : Int) + q4).toNat ((0 : Int), (0 : Int)))).bind fun y5 => (bif (!y5) then some false else L3 (w (q4 + (1 : Int)))) else none) else none) else some true)
noncomputable def f27_l3 (K : Nat) (a0 : List (Int × Int)) (a1 : List (Int × Int)) (n : Nat) (q4 : Int) : Option Bool :=
  iter (X := Int) (fun L x => (fun L3 => f27_b3 K a0 a1 L3 x) (fun v0 => L v0)) n q4
noncomputable def f27_fr3 (a0 : List (Int × Int)) (a1 : List (Int × Int)) (q4 : Int) : Fr := ⟨27, [(0, .v false [.row 0]), (1, .v false [.row 1]), (4, .v false [.bool false]), (5, .v false [.int .i64 q4]), (10, .v false [.bool ((a0.length : Int) != (a1.length : Int))])], [], [some ⟨60, (.cons (.int .i64) (.int .i64)), a0, .ro⟩, some ⟨60, (.cons (.int .i64) (.int .i64)), a1, .ro⟩]⟩
noncomputable def f27_k3 (K : Nat) (a0 : List (Int × Int)) (a1 : List (Int × Int)) (lr : LR Bool) : Ex → Fr → Option Bool :=
  contC (f27E K) 2 lr f27C [1, 1, 0, 1, 0] (finK (f27E K) Try.f27 [(.ro, (.list 60 (.cons (.int .i64) (.int .i64)))), (.ro, (.list 60 (.cons (.int .i64) (.int .i64))))] [.bool] (a0, a1, ()))
noncomputable def f27_g (K : Nat) (a0 : List (Int × Int)) (a1 : List (Int × Int)) (I3 : Int → Option Bool) : Option Bool :=
  (bif ((a0.length : Int) != (a1.length : Int)) then some false else I3 (0 : Int))
noncomputable def f27G (K : Nat) (a0 : List (Int × Int)) (a1 : List (Int × Int)) : Option Bool :=
  f27_g K a0 a1 (fun d0 => f27_l3 K a0 a1 K d0)
noncomputable def f27M (K : Nat) : Mdl := ⟨[(.ro, (.list 60 (.cons (.int .i64) (.int .i64)))), (.ro, (.list 60 (.cons (.int .i64) (.int .i64))))], [.bool], fun x => f27G K x.1 x.2.1⟩
/-! laws.markInt64S -/
noncomputable def f70C : Code := codeOf Try.f70
noncomputable def f70E (K : Nat) : Env := ⟨[], tys, eqs, K, [0, 1, 4, 5, 9]⟩
noncomputable def f70_b2 (K : Nat) (L2 : Int → Int → (List Int) → Option ((List Int) × Int)) (q3 : Int) (q4 : Int) (q5 : List Int) : Option ((List Int) × Int) :=
  (bif (decide (q4 < (q5.length : Int))) then (bif (decide (0 ≤ q4) && decide (q4 < (q5.length : Int))) then L2 (w (q3 + (1 : Int))) (w (q4 + (1 : Int))) (q5.set ((0 : Int) + q4).toNat q3) else none) else some (q5, q3))
noncomputable def f70_l2 (K : Nat) (n : Nat) (q3 : Int) (q4 : Int) (q5 : List Int) : Option ((List Int) × Int) :=
  iter (X := Int × Int × List Int) (fun L x => (fun L2 => f70_b2 K L2 x.1 x.2.1 x.2.2) (fun v0 v1 v2 => L (v0, v1, v2))) n (q3, q4, q5)
noncomputable def f70_fr2 (q3 : Int) (q4 : Int) (q5 : List Int) : Fr := ⟨19, [(0, .v false [.row 0]), (1, .v false [.int .i64 q3]), (4, .v false [.int .i64 (0 : Int)]), (5, .v false [.int .i64 q4])], [], [some ⟨2, (.int .i64), q5, .io⟩]⟩
noncomputable def f70_k2 (K : Nat) (a0 : List Int) (a1 : Int) (lr : LR ((List Int) × Int)) : Ex → Fr → Option ((List Int) × Int) :=
  contC (f70E K) 1 lr f70C [1, 0, 1, 0] (finK (f70E K) Try.f70 [(.io, (.list 2 (.int .i64))), (.ro, (.int .i64))] [(.int .i64)] (a0, a1, ()))
noncomputable def f70_g (K : Nat) (a0 : List Int) (a1 : Int) (I2 : Int → Int → (List Int) → Option ((List Int) × Int)) : Option ((List Int) × Int) :=
  I2 a1 (0 : Int) a0
noncomputable def f70G (K : Nat) (a0 : List Int) (a1 : Int) : Option ((List Int) × Int) :=
  f70_g K a0 a1 (fun d0 d1 d2 => f70_l2 K K d0 d1 d2)
noncomputable def f70M (K : Nat) : Mdl := ⟨[(.io, (.list 2 (.int .i64))), (.ro, (.int .i64))], [(.int .i64)], fun x => f70G K x.1 x.2.1⟩
/-! laws.markPattern -/
noncomputable def f31E (K : Nat) : Env := ⟨[(70, f70M K)], tys, eqs, K, [0, 1, 2, 4]⟩
noncomputable def f31G (K : Nat) (a0 : Int × (Int × Int × Int) × List Int) (a1 : Int) : Option Int :=
  (f70G K a0.2.2 a1).bind fun y1 => some y1.2
noncomputable def f31M (K : Nat) : Mdl := ⟨[(.mv, (.cons (.int .i64) (.cons (.cons (.int .i64) (.cons (.int .i64) (.int .i64))) (.list 2 (.int .i64))))), (.ro, (.int .i64))], [(.int .i64)], fun x => f31G K x.1 x.2.1⟩
/-! laws.markVecS -/
noncomputable def f36C : Code := codeOf Try.f36
noncomputable def f36E (K : Nat) : Env := ⟨[], tys, eqs, K, [0, 1, 4, 5, 9]⟩
noncomputable def f36_b2 (K : Nat) (L2 : Int → Int → (List (Int × Int)) → Option ((List (Int × Int)) × Int)) (q3 : Int) (q4 : Int) (q5 : List (Int × Int)) : Option ((List (Int × Int)) × Int) :=
  (bif (decide (q4 < (q5.length : Int))) then (bif (decide (0 ≤ q4) && decide (q4 < (q5.length : Int))) then (bif (decide (0 ≤ q4) && decide (q4 < ((q5.set ((0 : Int) + q4).toNat (q3, (q5.getD ((0 : Int) + q4).toNat ((0 : Int), (0 : Int))).2)).length : Int))) then L2 (w ((w (q3 + (1 : Int))) + (1 : Int))) (w (q4 + (1 : Int))) ((q5.set ((0 : Int) + q4).toNat (q3, (q5.getD ((0 : Int) + q4).toNat ((0 : Int), (0 : Int))).2)).set ((0 : Int) + q4).toNat (((q5.set ((0 : Int) + q4).toNat (q3, (q5.getD ((0 : Int) + q4).toNat ((0 : Int), (0 : Int))).2)).getD ((0 : Int) + q4).toNat ((0 : Int), (0 : Int))).1, (w (q3 + (1 : Int))))) else none) else none) else some (q5, q3))
noncomputable def f36_l2 (K : Nat) (n : Nat) (q3 : Int) (q4 : Int) (q5 : List (Int × Int)) : Option ((List (Int × Int)) × Int) :=
  iter (X := Int × Int × List (Int × Int)) (fun L x => (fun L2 => f36_b2 K L2 x.1 x.2.1 x.2.2) (fun v0 v1 v2 => L (v0, v1, v2))) n (q3, q4, q5)
noncomputable def f36_fr2 (q3 : Int) (q4 : Int) (q5 : List (Int × Int)) : Fr := ⟨27, [(0, .v false [.row 0]), (1, .v false [.int .i64 q3]), (4, .v false [.int .i64 (0 : Int)]), (5, .v false [.int .i64 q4])], [], [some ⟨60, (.cons (.int .i64) (.int .i64)), q5, .io⟩]⟩
noncomputable def f36_k2 (K : Nat) (a0 : List (Int × Int)) (a1 : Int) (lr : LR ((List (Int × Int)) × Int)) : Ex → Fr → Option ((List (Int × Int)) × Int) :=
  contC (f36E K) 1 lr f36C [1, 0, 1, 0] (finK (f36E K) Try.f36 [(.io, (.list 60 (.cons (.int .i64) (.int .i64)))), (.ro, (.int .i64))] [(.int .i64)] (a0, a1, ()))
noncomputable def f36_g (K : Nat) (a0 : List (Int × Int)) (a1 : Int) (I2 : Int → Int → (List (Int × Int)) → Option ((List (Int × Int)) × Int)) : Option ((List (Int × Int)) × Int) :=
  I2 a1 (0 : Int) a0
noncomputable def f36G (K : Nat) (a0 : List (Int × Int)) (a1 : Int) : Option ((List (Int × Int)) × Int) :=
  f36_g K a0 a1 (fun d0 d1 d2 => f36_l2 K K d0 d1 d2)
noncomputable def f36M (K : Nat) : Mdl := ⟨[(.io, (.list 60 (.cons (.int .i64) (.int .i64)))), (.ro, (.int .i64))], [(.int .i64)], fun x => f36G K x.1 x.2.1⟩
/-! laws.heldVecS -/
noncomputable def f37C : Code := codeOf Try.f37
noncomputable def f37E (K : Nat) : Env := ⟨[], tys, eqs, K, [0, 1, 4, 5, 9, 18, 27]⟩
noncomputable def f37_b2 (K : Nat) (a0 : List (Int × Int)) (L2 : Int → Int → Option Int) (q3 : Int) (q4 : Int) : Option Int :=
  (bif (decide (q4 < (a0.length : Int))) then (bif (decide (0 ≤ q4) && decide (q4 < (a0.length : Int))) then (bif ((a0.getD ((0 : Int) + q4).toNat ((0 : Int), (0 : Int))).1 != q3) then some (-1 : Int) else (bif (decide (0 ≤ q4) && decide (q4 < (a0.length : Int))) then (bif ((a0.getD ((0 : Int) + q4).toNat ((0 : Int), (0 : Int))).2 != (w (q3 + (1 : Int)))) then some (-1 : Int) else L2 (w ((w (q3 + (1 : Int))) + (1 : Int))) (w (q4 + (1 : Int)))) else none)) else none) else some q3)
noncomputable def f37_l2 (K : Nat) (a0 : List (Int × Int)) (n : Nat) (q3 : Int) (q4 : Int) : Option Int :=
  iter (X := Int × Int) (fun L x => (fun L2 => f37_b2 K a0 L2 x.1 x.2) (fun v0 v1 => L (v0, v1))) n (q3, q4)
noncomputable def f37_fr2 (a0 : List (Int × Int)) (q3 : Int) (q4 : Int) : Fr := ⟨31, [(0, .v false [.row 0]), (1, .v false [.int .i64 q3]), (4, .v false [.int .i64 (0 : Int)]), (5, .v false [.int .i64 q4])], [], [some ⟨60, (.cons (.int .i64) (.int .i64)), a0, .ro⟩]⟩
noncomputable def f37_k2 (K : Nat) (a0 : List (Int × Int)) (a1 : Int) (lr : LR Int) : Ex → Fr → Option Int :=
  contC (f37E K) 1 lr f37C [1, 0, 1, 0] (finK (f37E K) Try.f37 [(.ro, (.list 60 (.cons (.int .i64) (.int .i64)))), (.ro, (.int .i64))] [(.int .i64)] (a0, a1, ()))
noncomputable def f37_g (K : Nat) (a0 : List (Int × Int)) (a1 : Int) (I2 : Int → Int → Option Int) : Option Int :=
  I2 a1 (0 : Int)
noncomputable def f37G (K : Nat) (a0 : List (Int × Int)) (a1 : Int) : Option Int :=
  f37_g K a0 a1 (fun d0 d1 => f37_l2 K a0 K d0 d1)
noncomputable def f37M (K : Nat) : Mdl := ⟨[(.ro, (.list 60 (.cons (.int .i64) (.int .i64)))), (.ro, (.int .i64))], [(.int .i64)], fun x => f37G K x.1 x.2.1⟩
/-! laws.FnExactTurningSites -/
noncomputable def f7E (K : Nat) : Env := ⟨[(14, f14M K), (16, f16M K), (18, f18M K), (27, f27M K), (31, f31M K), (34, f34M K), (35, f35M K), (36, f36M K), (37, f37M K)], tys, eqs, K, [0, 1, 2, 4, 5, 6, 7, 8, 9, 10, 11, 12, 13, 14, 15, 20, 44, 49, 65, 73, 76, 92, 97, 100]⟩
noncomputable def f7G (K : Nat) (a0 : Int × (Int × Int × Int) × List Int) (a1 : Int) : Option Bool :=
  (f14G K a0 (1048576 : Int)).bind fun y1 => (bif (decide (y1 < (0 : Int))) then some true else (f16G K a0).bind fun y2 => (f34G K y2 a1).bind fun y3 => (f16G K a0).bind fun y4 => (f35G K y4 a1).bind fun y5 => (f27G K y5.1 y3.1).bind fun y6 => (bif ((!(!(!y6))) || true) then (bif ((!(!(!y6))) || true) then (bif ((!(!(!y6))) || true) then (bif (bif (!y6) then true else (y5.2 != y3.2)) then some false else (f16G K a0).bind fun y7 => (f18G K y4 y7).bind fun y8 => (bif (!y8) then some false else (f31G K y4 (1 : Int)).bind fun y9 => (bif ((!(!(decide (y9 < (0 : Int))))) || true) then (bif ((!(!(decide (y9 < (0 : Int))))) || true) then ((bif (!(decide (y9 < (0 : Int)))) then f27G K y5.1 y3.1 else some false)).bind fun y10 => (bif ((!(!(decide (y9 < (0 : Int))))) || true) then (bif ((!(!(bif (decide (y9 < (0 : Int))) then true else (!y10)))) || true) then (bif ((!(!(bif (decide (y9 < (0 : Int))) then true else (!y10)))) || true) then (bif ((!(!(bif (decide (y9 < (0 : Int))) then true else (!y10)))) || true) then (bif (bif (bif (decide (y9 < (0 : Int))) then true else (!y10)) then true else (y5.2 != y3.2)) then some false else (f36G K y5.1 (1 : Int)).bind fun y11 => (f37G K y11.1 (1 : Int)).bind fun y12 => (bif (decide (y12 < (0 : Int))) then some false else (bif (y12 != y11.2) then some false else (f16G K a0).bind fun y13 => (f35G K y13 a1).bind fun y14 => (f27G K y14.1 y3.1).bind fun y15 => (bif ((!(!(!y15))) || true) then (bif ((!(!(!y15))) || true) then (bif ((!(!(!y15))) || true) then (bif (bif (!y15) then true else (y14.2 != y3.2)) then some false else (f37G K y11.1 (1 : Int)).bind fun y16 => (bif (decide (y16 < (0 : Int))) then some false else (bif (y16 != y11.2) then some false else some true))) else none) else none) else none)))) else none) else none) else none) else none) else none) else none))) else none) else none) else none))
noncomputable def f7M (K : Nat) : Mdl := ⟨[(.ro, (.cons (.int .i64) (.cons (.cons (.int .i64) (.cons (.int .i64) (.int .i64))) (.list 2 (.int .i64))))), (.ro, (.int .i64))], [.bool], fun x => f7G K x.1 x.2.1⟩
/-! laws.toVec -/
noncomputable def f29E (K : Nat) : Env := ⟨[], tys, eqs, K, [0, 1, 2, 3]⟩
noncomputable def f29G (K : Nat) (a0 : Int × Int) : Option (Int × Int) :=
  some a0
noncomputable def f29M (K : Nat) : Mdl := ⟨[(.ro, (.cons (.int .i64) (.int .i64)))], [(.cons (.int .i64) (.int .i64))], fun x => f29G K x.1⟩
/-! spec.l07Cell -/
noncomputable def f65E (K : Nat) : Env := ⟨[(111, f111M K)], tys, eqs, K, [0, 1, 2, 3, 4]⟩
noncomputable def f65G (K : Nat) (a0 : Int × Int × Int) (a1 : Int × Int) : Option Bool :=
  (f111G K a1.1 (0 : Int) (w (a0.1 - (1 : Int)))).bind fun y1 => (bif ((!y1) || true) then (bif ((!y1) || true) then (bif ((!y1) || true) then (bif ((!y1) || true) then (bif ((!y1) || true) then ((bif y1 then f111G K a1.2 (0 : Int) (w (a0.2.2 - (1 : Int))) else some false)).bind fun y2 => some (bif y1 then y2 else false) else none) else none) else none) else none) else none)
noncomputable def f65M (K : Nat) : Mdl := ⟨[(.ro, (.cons (.int .i64) (.cons (.int .i64) (.int .i64)))), (.ro, (.cons (.int .i64) (.int .i64)))], [.bool], fun x => f65G K x.1 x.2.1⟩
/-! spec.SiteSymmetries -/
noncomputable def f28C : Code := codeOf Try.f28
noncomputable def f28E (K : Nat) : Env := ⟨[(49, f49M K), (50, f50M K), (51, f51M K), (65, f65M K), (66, f66M K)], tys, eqs, K, [0, 1, 2, 3, 4, 5, 6, 7, 8, 9, 12, 19, 26, 38]⟩
noncomputable def f28_b7 (K : Nat) (a0 : Int × (Int × Int × Int) × List Int) (a1 : Int × Int) (y1 : Bool) (y2 : Int × (Int × Int × Int) × List Int) (y3 : Bool) (y4 : List ((Int × Int × Int × Int) × Int × Int)) (L7 : Int → (List ((Int × Int × Int × Int) × Int × Int)) → Option ((List ((Int × Int × Int × Int) × Int × Int)) × Int)) (q8 : Int) (q9 : List ((Int × Int × Int × Int) × Int × Int)) : Option ((List ((Int × Int × Int × Int) × Int × Int)) × Int) :=
  (bif (decide (q8 < (y4.length : Int))) then (bif (decide (0 ≤ q8) && decide (q8 < (y4.length : Int))) then (f66G K y2.2.1 ((((y4.getD ((0 : Int) + q8).toNat (((0 : Int), ((0 : Int), ((0 : Int), (0 : Int)))), ((0 : Int), (0 : Int)))).1).1, (((y4.getD ((0 : Int) + q8).toNat (((0 : Int), ((0 : Int), ((0 : Int), (0 : Int)))), ((0 : Int), (0 : Int)))).1).2).1, ((((y4.getD ((0 : Int) + q8).toNat (((0 : Int), ((0 : Int), ((0 : Int), (0 : Int)))), ((0 : Int), (0 : Int)))).1).2).2)), ((y4.getD ((0 : Int) + q8).toNat (((0 : Int), ((0 : Int), ((0 : Int), (0 : Int)))), ((0 : Int), (0 : Int)))).2)) a1).bind fun y10 => (bif ((y10.1 == a1.1) && (y10.2 == a1.2)) then (bif (decide (0 ≤ q8) && decide (q8 < (y4.length : Int))) then (bif (Nat.ble (q9.length + [((((y4.getD ((0 : Int) + q8).toNat (((0 : Int), ((0 : Int), ((0 : Int), (0 : Int)))), ((0 : Int), (0 : Int)))).1).1, (((y4.getD ((0 : Int) + q8).toNat (((0 : Int), ((0 : Int), ((0 : Int), (0 : Int)))), ((0 : Int), (0 : Int)))).1).2).1, ((((y4.getD ((0 : Int) + q8).toNat (((0 : Int), ((0 : Int), ((0 : Int), (0 : Int)))), ((0 : Int), (0 : Int)))).1).2).2)), ((y4.getD ((0 : Int) + q8).toNat (((0 : Int), ((0 : Int), ((0 : Int), (0 : Int)))), ((0 : Int), (0 : Int)))).2))].length) (lim 48)) then L7 (w (q8 + (1 : Int))) (q9 ++ [((((y4.getD ((0 : Int) + q8).toNat (((0 : Int), ((0 : Int), ((0 : Int), (0 : Int)))), ((0 : Int), (0 : Int)))).1).1, (((y4.getD ((0 : Int) + q8).toNat (((0 : Int), ((0 : Int), ((0 : Int), (0 : Int)))), ((0 : Int), (0 : Int)))).1).2).1, ((((y4.getD ((0 : Int) + q8).toNat (((0 : Int), ((0 : Int), ((0 : Int), (0 : Int)))), ((0 : Int), (0 : Int)))).1).2).2)), ((y4.getD ((0 : Int) + q8).toNat (((0 : Int), ((0 : Int), ((0 : Int), (0 : Int)))), ((0 : Int), (0 : Int)))).2))]) else none) else none) else L7 (w (q8 + (1 : Int))) q9) else none) else some (q9, (0 : Int)))
noncomputable def f28_l7 (K : Nat) (a0 : Int × (Int × Int × Int) × List Int) (a1 : Int × Int) (y1 : Bool) (y2 : Int × (Int × Int × Int) × List Int) (y3 : Bool) (y4 : List ((Int × Int × Int × Int) × Int × Int)) (n : Nat) (q8 : Int) (q9 : List ((Int × Int × Int × Int) × Int × Int)) : Option ((List ((Int × Int × Int × Int) × Int × Int)) × Int) :=
  iter (X := Int × List ((Int × Int × Int × Int) × Int × Int)) (fun L x => (fun L7 => f28_b7 K a0 a1 y1 y2 y3 y4 L7 x.1 x.2) (fun v0 v1 => L (v0, v1))) n (q8, q9)
noncomputable def f28_fr7 (a0 : Int × (Int × Int × Int) × List Int) (a1 : Int × Int) (y1 : Bool) (y2 : Int × (Int × Int × Int) × List Int) (y3 : Bool) (y4 : List ((Int × Int × Int × Int) × Int × Int)) (q8 : Int) (q9 : List ((Int × Int × Int × Int) × Int × Int)) : Fr := ⟨47, [(0, .v true [.int .i64 a0.1, .int .i64 a0.2.1.1, .int .i64 a0.2.1.2.1, .int .i64 a0.2.1.2.2, .row 0]), (1, .v true [.int .i64 a1.1, .int .i64 a1.2]), (2, .v false [.box 0 0]), (3, .v false [.box 1 0]), (4, .v false [.row 1]), (5, .v false [.int .i64 (0 : Int)]), (6, .v false [.box 2 0]), (7, .v false [.row 2]), (8, .v false [.row 3]), (9, .v false [.int .i64 q8]), (12, .v false [.bool (!y1)]), (19, .v false [.bool (!y3)])], [some ⟨true, [.int .i64 a0.1, .int .i64 a0.2.1.1, .int .i64 a0.2.1.2.1, .int .i64 a0.2.1.2.2, .row 0]⟩, some ⟨true, [.int .i64 a1.1, .int .i64 a1.2]⟩, some ⟨true, [.int .i64 y2.1, .int .i64 y2.2.1.1, .int .i64 y2.2.1.2.1, .int .i64 y2.2.1.2.2, .row 4]⟩], [some ⟨2, (.int .i64), a0.2.2, .ro⟩, some ⟨88, (.cons (.cons (.int .i64) (.cons (.int .i64) (.cons (.int .i64) (.int .i64)))) (.cons (.int .i64) (.int .i64))), [], .own⟩, some ⟨88, (.cons (.cons (.int .i64) (.cons (.int .i64) (.cons (.int .i64) (.int .i64)))) (.cons (.int .i64) (.int .i64))), y4, .own⟩, some ⟨88, (.cons (.cons (.int .i64) (.cons (.int .i64) (.cons (.int .i64) (.int .i64)))) (.cons (.int .i64) (.int .i64))), q9, .own⟩, some ⟨2, (.int .i64), y2.2.2, .own⟩]⟩
noncomputable def f28_k7 (K : Nat) (a0 : Int × (Int × Int × Int) × List Int) (a1 : Int × Int) (lr : LR ((List ((Int × Int × Int × Int) × Int × Int)) × Int)) : Ex → Fr → Option ((List ((Int × Int × Int × Int) × Int × Int)) × Int) :=
  contC (f28E K) 1 lr f28C [1, 1, 1, 1, 1, 1, 0, 1, 0] (finK (f28E K) Try.f28 [(.ro, (.cons (.int .i64) (.cons (.cons (.int .i64) (.cons (.int .i64) (.int .i64))) (.list 2 (.int .i64))))), (.ro, (.cons (.int .i64) (.int .i64)))] [(.list 88 (.cons (.cons (.int .i64) (.cons (.int .i64) (.cons (.int .i64) (.int .i64)))) (.cons (.int .i64) (.int .i64)))), (.int .i64)] (a0, a1, ()))
noncomputable def f28_g (K : Nat) (a0 : Int × (Int × Int × Int) × List Int) (a1 : Int × Int) (I7 : Bool → (Int × (Int × Int × Int) × List Int) → Bool → (List ((Int × Int × Int × Int) × Int × Int)) → Int → (List ((Int × Int × Int × Int) × Int × Int)) → Option ((List ((Int × Int × Int × Int) × Int × Int)) × Int)) : Option ((List ((Int × Int × Int × Int) × Int × Int)) × Int) :=
  (f49G K a0).bind fun y1 => (bif (!y1) then some ([], (1 : Int)) else (f51G K a0).bind fun y2 => (f65G K y2.2.1 a1).bind fun y3 => (bif (!y3) then some ([], (2 : Int)) else (f50G K y2).bind fun y4 => I7 y1 y2 y3 y4 (0 : Int) []))
noncomputable def f28G (K : Nat) (a0 : Int × (Int × Int × Int) × List Int) (a1 : Int × Int) : Option ((List ((Int × Int × Int × Int) × Int × Int)) × Int) :=
  f28_g K a0 a1 (fun c0 c1 c2 c3 d0 d1 => f28_l7 K a0 a1 c0 c1 c2 c3 K d0 d1)
noncomputable def f28M (K : Nat) : Mdl := ⟨[(.ro, (.cons (.int .i64) (.cons (.cons (.int .i64) (.cons (.int .i64) (.int .i64))) (.list 2 (.int .i64))))), (.ro, (.cons (.int .i64) (.int .i64)))], [(.list 88 (.cons (.cons (.int .i64) (.cons (.int .i64) (.cons (.int .i64) (.int .i64)))) (.cons (.int .i64) (.int .i64)))), (.int .i64)], fun x => f28G K x.1 x.2.1⟩
/-! (impl.Lattice).isCell -/
noncomputable def f67E (K : Nat) : Env := ⟨[(114, f114M K)], tys, eqs, K, [0, 1, 2, 3, 4]⟩
noncomputable def f67G (K : Nat) (a0 : Int × Int × Int) (a1 : Int × Int) : Option Bool :=
  (f114G K a1.1 (0 : Int) (w (a0.1 - (1 : Int)))).bind fun y1 => (bif ((!y1) || true) then (bif ((!y1) || true) then (bif ((!y1) || true) then (bif ((!y1) || true) then (bif ((!y1) || true) then ((bif y1 then f114G K a1.2 (0 : Int) (w (a0.2.2 - (1 : Int))) else some false)).bind fun y2 => some (bif y1 then y2 else false) else none) else none) else none) else none) else none)
noncomputable def f67M (K : Nat) : Mdl := ⟨[(.ro, (.cons (.int .i64) (.cons (.int .i64) (.int .i64)))), (.ro, (.cons (.int .i64) (.int .i64)))], [.bool], fun x => f67G K x.1 x.2.1⟩
/-! impl.SiteSymmetries -/
noncomputable def f30E (K : Nat) : Env := ⟨[(54, f54M K), (55, f55M K), (67, f67M K), (68, f68M K), (69, f69M K)], tys, eqs, K, [0, 1, 2, 3, 4, 5, 6, 9, 16]⟩
noncomputable def f30G (K : Nat) (a0 : Int × (Int × Int × Int) × List Int) (a1 : Int × Int) : Option ((List ((Int × Int × Int × Int) × Int × Int)) × Int) :=
  (f54G K a0).bind fun y1 => (bif (!y1) then some ([], (1 : Int)) else (f55G K a0).bind fun y2 => (f67G K y2.2.1 a1).bind fun y3 => (bif (!y3) then some ([], (2 : Int)) else (f69G K y2).bind fun y4 => (f68G K y2.2.1 y4 a1).bind fun y5 => some (y5, (0 : Int))))
noncomputable def f30M (K : Nat) : Mdl := ⟨[(.ro, (.cons (.int .i64) (.cons (.cons (.int .i64) (.cons (.int .i64) (.int .i64))) (.list 2 (.int .i64))))), (.ro, (.cons (.int .i64) (.int .i64)))], [(.list 88 (.cons (.cons (.int .i64) (.cons (.int .i64) (.cons (.int .i64) (.int .i64)))) (.cons (.int .i64) (.int .i64)))), (.int .i64)], fun x => f30G K x.1 x.2.1⟩
/-! laws.eqMat -/
noncomputable def f110E (K : Nat) : Env := ⟨[], tys, eqs, K, [0, 1, 2, 3, 4, 9, 14, 19, 24]⟩
noncomputable def f110G (K : Nat) (a0 : Int × Int × Int × Int) (a1 : Int × Int × Int × Int) : Option Bool :=
  (bif (a0.1 != a1.1) then some false else (bif (a0.2.1 != a1.2.1) then some false else (bif (a0.2.2.1 != a1.2.2.1) then some false else (bif (a0.2.2.2 != a1.2.2.2) then some false else some true))))
noncomputable def f110M (K : Nat) : Mdl := ⟨[(.ro, (.cons (.int .i64) (.cons (.int .i64) (.cons (.int .i64) (.int .i64))))), (.ro, (.cons (.int .i64) (.cons (.int .i64) (.cons (.int .i64) (.int .i64)))))], [.bool], fun x => f110G K x.1 x.2.1⟩
/-! laws.eqMotion -/
noncomputable def f63E (K : Nat) : Env := ⟨[(64, f64M K), (110, f110M K)], tys, eqs, K, [0, 1, 2, 3, 4, 10, 16]⟩
noncomputable def f63G (K : Nat) (a0 : (Int × Int × Int × Int) × Int × Int) (a1 : (Int × Int × Int × Int) × Int × Int) : Option Bool :=
  (f110G K a0.1 a1.1).bind fun y1 => (bif (!y1) then some false else (f64G K a0.2 a1.2).bind fun y2 => (bif (!y2) then some false else some true))
noncomputable def f63M (K : Nat) : Mdl := ⟨[(.ro, (.cons (.cons (.int .i64) (.cons (.int .i64) (.cons (.int .i64) (.int .i64)))) (.cons (.int .i64) (.int .i64)))), (.ro, (.cons (.cons (.int .i64) (.cons (.int .i64) (.cons (.int .i64) (.int .i64)))) (.cons (.int .i64) (.int .i64))))], [.bool], fun x => f63G K x.1 x.2.1⟩
/-! laws.eqMotionS -/
noncomputable def f26C : Code := codeOf Try.f26
noncomputable def f26E (K : Nat) : Env := ⟨[(63, f63M K)], tys, eqs, K, [0, 1, 4, 5, 10, 14, 26]⟩
noncomputable def f26_b3 (K : Nat) (a0 : List ((Int × Int × Int × Int) × Int × Int)) (a1 : List ((Int × Int × Int × Int) × Int × Int)) (L3 : Int → Option Bool) (q4 : Int) : Option Bool :=
  (bif (decide (q4 < (a0.length : Int))) then (bif (decide (0 ≤ q4) && decide (q4 < (a0.length : Int))) then (bif (decide (0 ≤ q4) && decide (q4 < (a1.length : Int))) then (f63G K ((((a0.getD ((0 : Int) + q4).toNat (((0 : Int), ((0 : Int), ((0 : Int), (0 : Int)))), ((0 : Int), (0 : Int)))).1).1, (((a0.getD ((0 : Int) + q4).toNat (((0 : Int), ((0 : Int), ((0 : Int), (0 : Int)))), ((0 : Int), (0 : Int)))).1).2).1, ((((a0.getD ((0 : Int) + q4).toNat (((0 : Int), ((0 : Int), ((0 : Int), (0 : Int)))), ((0 : Int), (0 : Int)))).1).2).2)), ((a0.getD ((0 : Int) + q4).toNat (((0 : Int), ((0 : Int), ((0 : Int), (0 : Int)))), ((0 : Int), (0 : Int)))).2)) ((((a1.getD ((0 : Int) + q4).toNat (((0 : Int), ((0 : Int), ((0 : Int), (0 : Int)))), ((0 : Int), (0 : Int)))).1).1, (((a1.getD ((0 : Int) + q4).toNat (((0 : Int), ((0 : Int), ((0 : Int), (0 : Int)))), ((0 : Int), (0 : Int)))).1).2).1, ((((a1.getD ((0 : Int) + q4).toNat (((0 : Int), ((0 : Int), ((0 : Int), (0 : Int)))), ((0 : Int), (0 : Int)))).1).2).2)), ((a1.getD ((0 : Int) + q4).toNat (((0 : Int), ((0 : Int), ((0 : Int), (0 : Int)))), ((0 : Int), (0 : Int)))).2))).bind fun y5 => (bif (!y5) then some false else L3 (w (q4 + (1 : Int)))) else none) else none) else some true)
noncomputable def f26_l3 (K : Nat) (a0 : List ((Int × Int × Int × Int) × Int × Int)) (a1 : List ((Int × Int × Int × Int) × Int × Int)) (n : Nat) (q4 : Int) : Option Bool :=
  iter (X := Int) (fun L x => (fun L3 => f26_b3 K a0 a1 L3 x) (fun v0 => L v0)) n q4
noncomputable def f26_fr3 (a0 : List ((Int × Int × Int × Int) × Int × Int)) (a1 : List ((Int × Int × Int × Int) × Int × Int)) (q4 : Int) : Fr := ⟨27, [(0, .v false [.row 0]), (1, .v false [.row 1]), (4, .v false [.bool false]), (5, .v false [.int .i64 q4]), (10, .v false [.bool ((a0.length : Int) != (a1.length : Int))])], [], [some ⟨88, (.cons (.cons (.int .i64) (.cons (.int .i64) (.cons (.int .i64) (.int .i64)))) (.cons (.int .i64) (.int .i64))), a0, .ro⟩, some ⟨88, (.cons (.cons (.int .i64) (.cons (.int .i64) (.cons (.int .i64) (.int .i64)))) (.cons (.int .i64) (.int .i64))), a1, .ro⟩]⟩
noncomputable def f26_k3 (K : Nat) (a0 : List ((Int × Int × Int × Int) × Int × Int)) (a1 : List ((Int × Int × Int × Int) × Int × Int)) (lr : LR Bool) : Ex → Fr → Option Bool :=
  contC (f26E K) 2 lr f26C [1, 1, 0, 1, 0] (finK (f26E K) Try.f26 [(.ro, (.list 88 (.cons (.cons (.int .i64) (.cons (.int .i64) (.cons (.int .i64) (.int .i64)))) (.cons (.int .i64) (.int .i64))))), (.ro, (.list 88 (.cons (.cons (.int .i64) (.cons (.int .i64) (.cons (.int .i64) (.int .i64)))) (.cons (.int .i64) (.int .i64)))))] [.bool] (a0, a1, ()))
noncomputable def f26_g (K : Nat) (a0 : List ((Int × Int × Int × Int) × Int × Int)) (a1 : List ((Int × Int × Int × Int) × Int × Int)) (I3 : Int → Option Bool) : Option Bool :=
  (bif ((a0.length : Int) != (a1.length : Int)) then some false else I3 (0 : Int))
noncomputable def f26G (K : Nat) (a0 : List ((Int × Int × Int × Int) × Int × Int)) (a1 : List ((Int × Int × Int × Int) × Int × Int)) : Option Bool :=
  f26_g K a0 a1 (fun d0 => f26_l3 K a0 a1 K d0)
noncomputable def f26M (K : Nat) : Mdl := ⟨[(.ro, (.list 88 (.cons (.cons (.int .i64) (.cons (.int .i64) (.cons (.int .i64) (.int .i64)))) (.cons (.int .i64) (.int .i64))))), (.ro, (.list 88 (.cons (.cons (.int .i64) (.cons (.int .i64) (.cons (.int .i64) (.int .i64)))) (.cons (.int .i64) (.int .i64)))))], [.bool], fun x => f26G K x.1 x.2.1⟩
/-! laws.markMotionS -/
noncomputable def f32C : Code := codeOf Try.f32
noncomputable def f32E (K : Nat) : Env := ⟨[], tys, eqs, K, [0, 1, 4, 5, 9]⟩
noncomputable def f32_b2 (K : Nat) (L2 : Int → Int → (List ((Int × Int × Int × Int) × Int × Int)) → Option ((List ((Int × Int × Int × Int) × Int × Int)) × Int)) (q3 : Int) (q4 : Int) (q5 : List ((Int × Int × Int × Int) × Int × Int)) : Option ((List ((Int × Int × Int × Int) × Int × Int)) × Int) :=
  (bif (decide (q4 < (q5.length : Int))) then (bif (decide (0 ≤ q4) && decide (q4 < (q5.length : Int))) then (bif (decide (0 ≤ q4) && decide (q4 < ((q5.set ((0 : Int) + q4).toNat ((q3, ((q5.getD ((0 : Int) + q4).toNat (((0 : Int), ((0 : Int), ((0 : Int), (0 : Int)))), ((0 : Int), (0 : Int)))).1).2), (q5.getD ((0 : Int) + q4).toNat (((0 : Int), ((0 : Int), ((0 : Int), (0 : Int)))), ((0 : Int), (0 : Int)))).2)).length : Int))) then (let s4 := ((q5.set ((0 : Int) + q4).toNat ((q3, ((q5.getD ((0 : Int) + q4).toNat (((0 : Int), ((0 : Int), ((0 : Int), (0 : Int)))), ((0 : Int), (0 : Int)))).1).2), (q5.getD ((0 : Int) + q4).toNat (((0 : Int), ((0 : Int), ((0 : Int), (0 : Int)))), ((0 : Int), (0 : Int)))).2)).set ((0 : Int) + q4).toNat (((((q5.set ((0 : Int) + q4).toNat ((q3, ((q5.getD ((0 : Int) + q4).toNat (((0 : Int), ((0 : Int), ((0 : Int), (0 : Int)))), ((0 : Int), (0 : Int)))).1).2), (q5.getD ((0 : Int) + q4).toNat (((0 : Int), ((0 : Int), ((0 : Int), (0 : Int)))), ((0 : Int), (0 : Int)))).2)).getD ((0 : Int) + q4).toNat (((0 : Int), ((0 : Int), ((0 : Int), (0 : Int)))), ((0 : Int), (0 : Int)))).1).1, (w (q3 + (1 : Int))), ((((q5.set ((0 : Int) + q4).toNat ((q3, ((q5.getD ((0 : Int) + q4).toNat (((0 : Int), ((0 : Int), ((0 : Int), (0 : Int)))), ((0 : Int), (0 : Int)))).1).2), (q5.getD ((0 : Int) + q4).toNat (((0 : Int), ((0 : Int), ((0 : Int), (0 : Int)))), ((0 : Int), (0 : Int)))).2)).getD ((0 : Int) + q4).toNat (((0 : Int), ((0 : Int), ((0 : Int), (0 : Int)))), ((0 : Int), (0 : Int)))).1).2).2), ((q5.set ((0 : Int) + q4).toNat ((q3, ((q5.getD ((0 : Int) + q4).toNat (((0 : Int), ((0 : Int), ((0 : Int), (0 : Int)))), ((0 : Int), (0 : Int)))).1).2), (q5.getD ((0 : Int) + q4).toNat (((0 : Int), ((0 : Int), ((0 : Int), (0 : Int)))), ((0 : Int), (0 : Int)))).2)).getD ((0 : Int) + q4).toNat (((0 : Int), ((0 : Int), ((0 : Int), (0 : Int)))), ((0 : Int), (0 : Int)))).2)); (bif (decide (0 ≤ q4) && decide (q4 < (s4.length : Int))) then (bif (decide (0 ≤ q4) && decide (q4 < ((s4.set ((0 : Int) + q4).toNat ((((s4.getD ((0 : Int) + q4).toNat (((0 : Int), ((0 : Int), ((0 : Int), (0 : Int)))), ((0 : Int), (0 : Int)))).1).1, (((s4.getD ((0 : Int) + q4).toNat (((0 : Int), ((0 : Int), ((0 : Int), (0 : Int)))), ((0 : Int), (0 : Int)))).1).2).1, (w ((w (q3 + (1 : Int))) + (1 : Int))), ((((s4.getD ((0 : Int) + q4).toNat (((0 : Int), ((0 : Int), ((0 : Int), (0 : Int)))), ((0 : Int), (0 : Int)))).1).2).2).2), (s4.getD ((0 : Int) + q4).toNat (((0 : Int), ((0 : Int), ((0 : Int), (0 : Int)))), ((0 : Int), (0 : Int)))).2)).length : Int))) then (let s5 := ((s4.set ((0 : Int) + q4).toNat ((((s4.getD ((0 : Int) + q4).toNat (((0 : Int), ((0 : Int), ((0 : Int), (0 : Int)))), ((0 : Int), (0 : Int)))).1).1, (((s4.getD ((0 : Int) + q4).toNat (((0 : Int), ((0 : Int), ((0 : Int), (0 : Int)))), ((0 : Int), (0 : Int)))).1).2).1, (w ((w (q3 + (1 : Int))) + (1 : Int))), ((((s4.getD ((0 : Int) + q4).toNat (((0 : Int), ((0 : Int), ((0 : Int), (0 : Int)))), ((0 : Int), (0 : Int)))).1).2).2).2), (s4.getD ((0 : Int) + q4).toNat (((0 : Int), ((0 : Int), ((0 : Int), (0 : Int)))), ((0 : Int), (0 : Int)))).2)).set ((0 : Int) + q4).toNat (((((s4.set ((0 : Int) + q4).toNat ((((s4.getD ((0 : Int) + q4).toNat (((0 : Int), ((0 : Int), ((0 : Int), (0 : Int)))), ((0 : Int), (0 : Int)))).1).1, (((s4.getD ((0 : Int) + q4).toNat (((0 : Int), ((0 : Int), ((0 : Int), (0 : Int)))), ((0 : Int), (0 : Int)))).1).2).1, (w ((w (q3 + (1 : Int))) + (1 : Int))), ((((s4.getD ((0 : Int) + q4).toNat (((0 : Int), ((0 : Int), ((0 : Int), (0 : Int)))), ((0 : Int), (0 : Int)))).1).2).2).2), (s4.getD ((0 : Int) + q4).toNat (((0 : Int), ((0 : Int), ((0 : Int), (0 : Int)))), ((0 : Int), (0 : Int)))).2)).getD ((0 : Int) + q4).toNat (((0 : Int), ((0 : Int), ((0 : Int), (0 : Int)))), ((0 : Int), (0 : Int)))).1).1, ((((s4.set ((0 : Int) + q4).toNat ((((s4.getD ((0 : Int) + q4).toNat (((0 : Int), ((0 : Int), ((0 : Int), (0 : Int)))), ((0 : Int), (0 : Int)))).1).1, (((s4.getD ((0 : Int) + q4).toNat (((0 : Int), ((0 : Int), ((0 : Int), (0 : Int)))), ((0 : Int), (0 : Int)))).1).2).1, (w ((w (q3 + (1 : Int))) + (1 : Int))), ((((s4.getD ((0 : Int) + q4).toNat (((0 : Int), ((0 : Int), ((0 : Int), (0 : Int)))), ((0 : Int), (0 : Int)))).1).2).2).2), (s4.getD ((0 : Int) + q4).toNat (((0 : Int), ((0 : Int), ((0 : Int), (0 : Int)))), ((0 : Int), (0 : Int)))).2)).getD ((0 : Int) + q4).toNat (((0 : Int), ((0 : Int), ((0 : Int), (0 : Int)))), ((0 : Int), (0 : Int)))).1).2).1, (((((s4.set ((0 : Int) + q4).toNat ((((s4.getD ((0 : Int) + q4).toNat (((0 : Int), ((0 : Int), ((0 : Int), (0 : Int)))), ((0 : Int), (0 : Int)))).1).1, (((s4.getD ((0 : Int) + q4).toNat (((0 : Int), ((0 : Int), ((0 : Int), (0 : Int)))), ((0 : Int), (0 : Int)))).1).2).1, (w ((w (q3 + (1 : Int))) + (1 : Int))), ((((s4.getD ((0 : Int) + q4).toNat (((0 : Int), ((0 : Int), ((0 : Int), (0 : Int)))), ((0 : Int), (0 : Int)))).1).2).2).2), (s4.getD ((0 : Int) + q4).toNat (((0 : Int), ((0 : Int), ((0 : Int), (0 : Int)))), ((0 : Int), (0 : Int)))).2)).getD ((0 : Int) + q4).toNat (((0 : Int), ((0 : Int), ((0 : Int), (0 : Int)))), ((0 : Int), (0 : Int)))).1).2).2).1, (w ((w ((w (q3 + (1 : Int))) + (1 : Int))) + (1 : Int)))), ((s4.set ((0 : Int) + q4).toNat ((((s4.getD ((0 : Int) + q4).toNat (((0 : Int), ((0 : Int), ((0 : Int), (0 : Int)))), ((0 : Int), (0 : Int)))).1).1, (((s4.getD ((0 : Int) + q4).toNat (((0 : Int), ((0 : Int), ((0 : Int), (0 : Int)))), ((0 : Int), (0 : Int)))).1).2).1, (w ((w (q3 + (1 : Int))) + (1 : Int))), ((((s4.getD ((0 : Int) + q4).toNat (((0 : Int), ((0 : Int), ((0 : Int), (0 : Int)))), ((0 : Int), (0 : Int)))).1).2).2).2), (s4.getD ((0 : Int) + q4).toNat (((0 : Int), ((0 : Int), ((0 : Int), (0 : Int)))), ((0 : Int), (0 : Int)))).2)).getD ((0 : Int) + q4).toNat (((0 : Int), ((0 : Int), ((0 : Int), (0 : Int)))), ((0 : Int), (0 : Int)))).2)); (bif (decide (0 ≤ q4) && decide (q4 < (s5.length : Int))) then (bif (decide (0 ≤ q4) && decide (q4 < ((s5.set ((0 : Int) + q4).toNat ((s5.getD ((0 : Int) + q4).toNat (((0 : Int), ((0 : Int), ((0 : Int), (0 : Int)))), ((0 : Int), (0 : Int)))).1, (w ((w ((w ((w (q3 + (1 : Int))) + (1 : Int))) + (1 : Int))) + (1 : Int))), ((s5.getD ((0 : Int) + q4).toNat (((0 : Int), ((0 : Int), ((0 : Int), (0 : Int)))), ((0 : Int), (0 : Int)))).2).2)).length : Int))) then (let s6 := ((s5.set ((0 : Int) + q4).toNat ((s5.getD ((0 : Int) + q4).toNat (((0 : Int), ((0 : Int), ((0 : Int), (0 : Int)))), ((0 : Int), (0 : Int)))).1, (w ((w ((w ((w (q3 + (1 : Int))) + (1 : Int))) + (1 : Int))) + (1 : Int))), ((s5.getD ((0 : Int) + q4).toNat (((0 : Int), ((0 : Int), ((0 : Int), (0 : Int)))), ((0 : Int), (0 : Int)))).2).2)).set ((0 : Int) + q4).toNat (((s5.set ((0 : Int) + q4).toNat ((s5.getD ((0 : Int) + q4).toNat (((0 : Int), ((0 : Int), ((0 : Int), (0 : Int)))), ((0 : Int), (0 : Int)))).1, (w ((w ((w ((w (q3 + (1 : Int))) + (1 : Int))) + (1 : Int))) + (1 : Int))), ((s5.getD ((0 : Int) + q4).toNat (((0 : Int), ((0 : Int), ((0 : Int), (0 : Int)))), ((0 : Int), (0 : Int)))).2).2)).getD ((0 : Int) + q4).toNat (((0 : Int), ((0 : Int), ((0 : Int), (0 : Int)))), ((0 : Int), (0 : Int)))).1, (((s5.set ((0 : Int) + q4).toNat ((s5.getD ((0 : Int) + q4).toNat (((0 : Int), ((0 : Int), ((0 : Int), (0 : Int)))), ((0 : Int), (0 : Int)))).1, (w ((w ((w ((w (q3 + (1 : Int))) + (1 : Int))) + (1 : Int))) + (1 : Int))), ((s5.getD ((0 : Int) + q4).toNat (((0 : Int), ((0 : Int), ((0 : Int), (0 : Int)))), ((0 : Int), (0 : Int)))).2).2)).getD ((0 : Int) + q4).toNat (((0 : Int), ((0 : Int), ((0 : Int), (0 : Int)))), ((0 : Int), (0 : Int)))).2).1, (w ((w ((w ((w ((w (q3 + (1 : Int))) + (1 : Int))) + (1 : Int))) + (1 : Int))) + (1 : Int))))); L2 (w ((w ((w ((w ((w ((w (q3 + (1 : Int))) + (1 : Int))) + (1 : Int))) + (1 : Int))) + (1 : Int))) + (1 : Int))) (w (q4 + (1 : Int))) s6) else none) else none)) else none) else none)) else none) else none) else some (q5, q3))
noncomputable def f32_l2 (K : Nat) (n : Nat) (q3 : Int) (q4 : Int) (q5 : List ((Int × Int × Int × Int) × Int × Int)) : Option ((List ((Int × Int × Int × Int) × Int × Int)) × Int) :=
  iter (X := Int × Int × List ((Int × Int × Int × Int) × Int × Int)) (fun L x => (fun L2 => f32_b2 K L2 x.1 x.2.1 x.2.2) (fun v0 v1 v2 => L (v0, v1, v2))) n (q3, q4, q5)
noncomputable def f32_fr2 (q3 : Int) (q4 : Int) (q5 : List ((Int × Int × Int × Int) × Int × Int)) : Fr := ⟨61, [(0, .v false [.row 0]), (1, .v false [.int .i64 q3]), (4, .v false [.int .i64 (0 : Int)]), (5, .v false [.int .i64 q4])], [], [some ⟨88, (.cons (.cons (.int .i64) (.cons (.int .i64) (.cons (.int .i64) (.int .i64)))) (.cons (.int .i64) (.int .i64))), q5, .io⟩]⟩
noncomputable def f32_k2 (K : Nat) (a0 : List ((Int × Int × Int × Int) × Int × Int)) (a1 : Int) (lr : LR ((List ((Int × Int × Int × Int) × Int × Int)) × Int)) : Ex → Fr → Option ((List ((Int × Int × Int × Int) × Int × Int)) × Int) :=
  contC (f32E K) 1 lr f32C [1, 0, 1, 0] (finK (f32E K) Try.f32 [(.io, (.list 88 (.cons (.cons (.int .i64) (.cons (.int .i64) (.cons (.int .i64) (.int .i64)))) (.cons (.int .i64) (.int .i64))))), (.ro, (.int .i64))] [(.int .i64)] (a0, a1, ()))
noncomputable def f32_g (K : Nat) (a0 : List ((Int × Int × Int × Int) × Int × Int)) (a1 : Int) (I2 : Int → Int → (List ((Int × Int × Int × Int) × Int × Int)) → Option ((List ((Int × Int × Int × Int) × Int × Int)) × Int)) : Option ((List ((Int × Int × Int × Int) × Int × Int)) × Int) :=
  I2 a1 (0 : Int) a0
noncomputable def f32G (K : Nat) (a0 : List ((Int × Int × Int × Int) × Int × Int)) (a1 : Int) : Option ((List ((Int × Int × Int × Int) × Int × Int)) × Int) :=
  f32_g K a0 a1 (fun d0 d1 d2 => f32_l2 K K d0 d1 d2)
noncomputable def f32M (K : Nat) : Mdl := ⟨[(.io, (.list 88 (.cons (.cons (.int .i64) (.cons (.int .i64) (.cons (.int .i64) (.int .i64)))) (.cons (.int .i64) (.int .i64))))), (.ro, (.int .i64))], [(.int .i64)], fun x => f32G K x.1 x.2.1⟩
/-! laws.heldMotionS -/
noncomputable def f33C : Code := codeOf Try.f33
noncomputable def f33E (K : Nat) : Env := ⟨[], tys, eqs, K, [0, 1, 4, 5, 9, 19, 29, 39, 49, 59, 69]⟩
noncomputable def f33_b2 (K : Nat) (a0 : List ((Int × Int × Int × Int) × Int × Int)) (L2 : Int → Int → Option Int) (q3 : Int) (q4 : Int) : Option Int :=
  (bif (decide (q4 < (a0.length : Int))) then (bif (decide (0 ≤ q4) && decide (q4 < (a0.length : Int))) then (bif (((a0.getD ((0 : Int) + q4).toNat (((0 : Int), ((0 : Int), ((0 : Int), (0 : Int)))), ((0 : Int), (0 : Int)))).1).1 != q3) then some (-1 : Int) else (bif (decide (0 ≤ q4) && decide (q4 < (a0.length : Int))) then (bif ((((a0.getD ((0 : Int) + q4).toNat (((0 : Int), ((0 : Int), ((0 : Int), (0 : Int)))), ((0 : Int), (0 : Int)))).1).2).1 != (w (q3 + (1 : Int)))) then some (-1 : Int) else (bif (decide (0 ≤ q4) && decide (q4 < (a0.length : Int))) then (bif (((((a0.getD ((0 : Int) + q4).toNat (((0 : Int), ((0 : Int), ((0 : Int), (0 : Int)))), ((0 : Int), (0 : Int)))).1).2).2).1 != (w ((w (q3 + (1 : Int))) + (1 : Int)))) then some (-1 : Int) else (bif (decide (0 ≤ q4) && decide (q4 < (a0.length : Int))) then (bif (((((a0.getD ((0 : Int) + q4).toNat (((0 : Int), ((0 : Int), ((0 : Int), (0 : Int)))), ((0 : Int), (0 : Int)))).1).2).2).2 != (w ((w ((w (q3 + (1 : Int))) + (1 : Int))) + (1 : Int)))) then some (-1 : Int) else (bif (decide (0 ≤ q4) && decide (q4 < (a0.length : Int))) then (bif (((a0.getD ((0 : Int) + q4).toNat (((0 : Int), ((0 : Int), ((0 : Int), (0 : Int)))), ((0 : Int), (0 : Int)))).2).1 != (w ((w ((w ((w (q3 + (1 : Int))) + (1 : Int))) + (1 : Int))) + (1 : Int)))) then some (-1 : Int) else (bif (decide (0 ≤ q4) && decide (q4 < (a0.length : Int))) then (bif (((a0.getD ((0 : Int) + q4).toNat (((0 : Int), ((0 : Int), ((0 : Int), (0 : Int)))), ((0 : Int), (0 : Int)))).2).2 != (w ((w ((w ((w ((w (q3 + (1 : Int))) + (1 : Int))) + (1 : Int))) + (1 : Int))) + (1 : Int)))) then some (-1 : Int) else L2 (w ((w ((w ((w ((w ((w (q3 + (1 : Int))) + (1 : Int))) + (1 : Int))) + (1 : Int))) + (1 : Int))) + (1 : Int))) (w (q4 + (1 : Int)))) else none)) else none)) else none)) else none)) else none)) else none) else some q3)
noncomputable def f33_l2 (K : Nat) (a0 : List ((Int × Int × Int × Int) × Int × Int)) (n : Nat) (q3 : Int) (q4 : Int) : Option Int :=
  iter (X := Int × Int) (fun L x => (fun L2 => f33_b2 K a0 L2 x.1 x.2) (fun v0 v1 => L (v0, v1))) n (q3, q4)
noncomputable def f33_fr2 (a0 : List ((Int × Int × Int × Int) × Int × Int)) (q3 : Int) (q4 : Int) : Fr := ⟨73, [(0, .v false [.row 0]), (1, .v false [.int .i64 q3]), (4, .v false [.int .i64 (0 : Int)]), (5, .v false [.int .i64 q4])], [], [some ⟨88, (.cons (.cons (.int .i64) (.cons (.int .i64) (.cons (.int .i64) (.int .i64)))) (.cons (.int .i64) (.int .i64))), a0, .ro⟩]⟩
noncomputable def f33_k2 (K : Nat) (a0 : List ((Int × Int × Int × Int) × Int × Int)) (a1 : Int) (lr : LR Int) : Ex → Fr → Option Int :=
  contC (f33E K) 1 lr f33C [1, 0, 1, 0] (finK (f33E K) Try.f33 [(.ro, (.list 88 (.cons (.cons (.int .i64) (.cons (.int .i64) (.cons (.int .i64) (.int .i64)))) (.cons (.int .i64) (.int .i64))))), (.ro, (.int .i64))] [(.int .i64)] (a0, a1, ()))
noncomputable def f33_g (K : Nat) (a0 : List ((Int × Int × Int × Int) × Int × Int)) (a1 : Int) (I2 : Int → Int → Option Int) : Option Int :=
  I2 a1 (0 : Int)
noncomputable def f33G (K : Nat) (a0 : List ((Int × Int × Int × Int) × Int × Int)) (a1 : Int) : Option Int :=
  f33_g K a0 a1 (fun d0 d1 => f33_l2 K a0 K d0 d1)
noncomputable def f33M (K : Nat) : Mdl := ⟨[(.ro, (.list 88 (.cons (.cons (.int .i64) (.cons (.int .i64) (.cons (.int .i64) (.int .i64)))) (.cons (.int .i64) (.int .i64))))), (.ro, (.int .i64))], [(.int .i64)], fun x => f33G K x.1 x.2.1⟩
/-! laws.FnExactSiteSymmetries -/
noncomputable def f6E (K : Nat) : Env := ⟨[(14, f14M K), (16, f16M K), (18, f18M K), (26, f26M K), (28, f28M K), (29, f29M K), (30, f30M K), (31, f31M K), (32, f32M K), (33, f33M K)], tys, eqs, K, [0, 1, 2, 3, 4, 5, 6, 7, 8, 9, 10, 11, 12, 13, 14, 15, 20, 46, 51, 67, 75, 78, 95, 100, 103]⟩
noncomputable def f6G (K : Nat) (a0 : Int × (Int × Int × Int) × List Int) (a1 : Int × Int) : Option Bool :=
  (f14G K a0 (1048576 : Int)).bind fun y1 => (bif (decide (y1 < (0 : Int))) then some true else (f16G K a0).bind fun y2 => (f29G K a1).bind fun y3 => (f28G K y2 y3).bind fun y4 => (f16G K a0).bind fun y5 => (f29G K a1).bind fun y6 => (f30G K y5 y6).bind fun y7 => (f26G K y7.1 y4.1).bind fun y8 => (bif ((!(!(!y8))) || true) then (bif ((!(!(!y8))) || true) then (bif ((!(!(!y8))) || true) then (bif (bif (!y8) then true else (y7.2 != y4.2)) then some false else (f16G K a0).bind fun y9 => (f18G K y5 y9).bind fun y10 => (bif (!y10) then some false else (f31G K y5 (1 : Int)).bind fun y11 => (bif ((!(!(decide (y11 < (0 : Int))))) || true) then (bif ((!(!(decide (y11 < (0 : Int))))) || true) then ((bif (!(decide (y11 < (0 : Int)))) then f26G K y7.1 y4.1 else some false)).bind fun y12 => (bif ((!(!(decide (y11 < (0 : Int))))) || true) then (bif ((!(!(bif (decide (y11 < (0 : Int))) then true else (!y12)))) || true) then (bif ((!(!(bif (decide (y11 < (0 : Int))) then true else (!y12)))) || true) then (bif ((!(!(bif (decide (y11 < (0 : Int))) then true else (!y12)))) || true) then (bif (bif (bif (decide (y11 < (0 : Int))) then true else (!y12)) then true else (y7.2 != y4.2)) then some false else (f32G K y7.1 (1 : Int)).bind fun y13 => (f33G K y13.1 (1 : Int)).bind fun y14 => (bif (decide (y14 < (0 : Int))) then some false else (bif (y14 != y13.2) then some false else (f16G K a0).bind fun y15 => (f29G K a1).bind fun y16 => (f30G K y15 y16).bind fun y17 => (f26G K y17.1 y4.1).bind fun y18 => (bif ((!(!(!y18))) || true) then (bif ((!(!(!y18))) || true) then (bif ((!(!(!y18))) || true) then (bif (bif (!y18) then true else (y17.2 != y4.2)) then some false else (f33G K y13.1 (1 : Int)).bind fun y19 => (bif (decide (y19 < (0 : Int))) then some false else (bif (y19 != y13.2) then some false else some true))) else none) else none) else none)))) else none) else none) else none) else none) else none) else none))) else none) else none) else none))
noncomputable def f6M (K : Nat) : Mdl := ⟨[(.ro, (.cons (.int .i64) (.cons (.cons (.int .i64) (.cons (.int .i64) (.int .i64))) (.list 2 (.int .i64))))), (.ro, (.cons (.int .i64) (.int .i64)))], [.bool], fun x => f6G K x.1 x.2.1⟩
end Go.Proofs.Ytbgdojniimdihaa.X
