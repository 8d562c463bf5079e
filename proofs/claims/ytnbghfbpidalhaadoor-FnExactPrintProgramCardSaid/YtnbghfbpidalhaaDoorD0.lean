/- Functions of the program as plain Lean functions, and that the program does what they say. Printed by gen.py. -/
import Derived.Test.YtnbghfbpidalhaaDoorXLoop
import Derived.Test.YtnbghfbpidalhaaDoorXStr
import Derived.Test.YtnbghfbpidalhaaDoorProg
namespace Go.Proofs.YtnbghfbpidalhaaDoor.X
open Go
set_option maxRecDepth 100000
set_option linter.unusedVariables false
noncomputable def tys : List (Nat × Ty) := [(2, .sc (.int .i64)), (3, .sc (.int .i64)), (4, .sc .bool), (5, .sc (.int .u8)), (9, .sc .str), (23, .st (.cons (.int .i64) (.cons (.int .i64) (.int .i64))) [(0, 1), (1, 1), (2, 1)]), (24, .sl 2 (.int .i64) 8), (26, .st (.cons (.int .i64) (.cons (.cons (.int .i64) (.cons (.int .i64) (.int .i64))) (.list 2 (.int .i64)))) [(0, 1), (1, 3), (4, 1)]), (30, .st (.cons (.int .i64) (.cons (.int .i64) (.int .i64))) [(0, 1), (1, 1), (2, 1)]), (32, .st (.cons (.int .i64) (.cons (.cons (.int .i64) (.cons (.int .i64) (.int .i64))) (.list 2 (.int .i64)))) [(0, 1), (1, 3), (4, 1)]), (38, .sl 43 (.cons (.int .i64) (.int .i64)) 16), (43, .st (.cons (.int .i64) (.int .i64)) [(0, 1), (1, 1)]), (63, .sl 5 (.int .u8) 1), (70, .sl 9 .str 16)]
noncomputable def eqs : List (Nat × List Sh) := []
noncomputable def mts : List (Nat × MTy) := []
theorem tab_ok : tabB Tryd.prog tys eqs mts = true := by kernel_rfl
theorem mixed_ok : Tryd.prog.follows .mixedOrders = true := by kernel_rfl
/-! laws.szInt64S -/
noncomputable def f9E (K : Nat) : Env := ⟨[], tys, eqs, mts, K, [0, 1, 4, 10], [], []⟩
noncomputable def f9G (K : Nat) (a0 : List Int) (a1 : Int) : Option Int :=
  (bif (decide ((w (a1 - (a0.length : Int))) < (0 : Int))) then some (-1 : Int) else some (w (a1 - (a0.length : Int))))
noncomputable def f9M (K : Nat) : Mdl := ⟨[(.ro, (.list 2 (.int .i64))), (.ro, (.int .i64))], [(.int .i64)], fun x => f9G K x.1 x.2.1⟩
/-! laws.szPattern -/
noncomputable def f4E (K : Nat) : Env := ⟨[(9, f9M K)], tys, eqs, mts, K, [0, 1, 2, 4, 10], [], []⟩
noncomputable def f4G (K : Nat) (a0 : Int × (Int × Int × Int) × List Int) (a1 : Int) : Option Int :=
  (f9G K a0.2.2 a1).bind fun y1 => (bif (decide (y1 < (0 : Int))) then some (-1 : Int) else some y1)
noncomputable def f4M (K : Nat) : Mdl := ⟨[(.ro, (.cons (.int .i64) (.cons (.cons (.int .i64) (.cons (.int .i64) (.int .i64))) (.list 2 (.int .i64))))), (.ro, (.int .i64))], [(.int .i64)], fun x => f4G K x.1 x.2.1⟩
/-! laws.toLattice -/
noncomputable def f14E (K : Nat) : Env := ⟨[], tys, eqs, mts, K, [0, 1, 2, 3], [], []⟩
noncomputable def f14G (K : Nat) (a0 : Int × Int × Int) : Option (Int × Int × Int) :=
  some a0
noncomputable def f14M (K : Nat) : Mdl := ⟨[(.ro, (.cons (.int .i64) (.cons (.int .i64) (.int .i64))))], [(.cons (.int .i64) (.cons (.int .i64) (.int .i64)))], fun x => f14G K x.1⟩
/-! laws.toInt64S -/
noncomputable def f15C : Code := codeOf Tryd.f15
noncomputable def f15E (K : Nat) : Env := ⟨[], tys, eqs, mts, K, [0, 2, 3, 4, 11], [], []⟩
noncomputable def f15_b2 (K : Nat) (a0 : List Int) (L2 : Int → (List Int) → Option (List Int)) (q3 : Int) (q4 : List Int) : Option (List Int) :=
  (bif (decide (q3 < (a0.length : Int))) then (bif (decide (0 ≤ q3) && decide (q3 < (a0.length : Int))) then (bif (decide (0 ≤ q3) && decide (q3 < (q4.length : Int))) then L2 (w (q3 + (1 : Int))) (q4.set ((0 : Int) + q3).toNat (a0.getD ((0 : Int) + q3).toNat (0 : Int))) else none) else none) else some q4)
noncomputable def f15_l2 (K : Nat) (a0 : List Int) (n : Nat) (q3 : Int) (q4 : List Int) : Option (List Int) :=
  iter (X := Int × List Int) (fun L x => (fun L2 => f15_b2 K a0 L2 x.1 x.2) (fun v0 v1 => L (v0, v1))) n (q3, q4)
noncomputable def f15_fr2 (a0 : List Int) (q3 : Int) (q4 : List Int) : Fr := ⟨22, [(0, .v false [.row 0]), (2, .v false [.row 1]), (3, .v false [.row 2]), (4, .v false [.int .i64 q3])], [], [some ⟨2, (.int .i64), a0, .ro⟩, some ⟨2, (.int .i64), [], .own⟩, some ⟨2, (.int .i64), q4, .own⟩]⟩
noncomputable def f15_k2 (K : Nat) (a0 : List Int) (lr : LR (List Int)) : Ex → Fr → Option (List Int) :=
  contC (f15E K) 1 lr f15C [1, 1, 0, 1, 0] (finK (f15E K) Tryd.f15 [(.ro, (.list 2 (.int .i64)))] [(.list 2 (.int .i64))] (a0, ()))
noncomputable def f15_g (K : Nat) (a0 : List Int) (I2 : Int → (List Int) → Option (List Int)) : Option (List Int) :=
  (bif (decide (0 ≤ (a0.length : Int)) && Nat.ble (a0.length : Int).toNat (lim 8) && ((a0.length : Int) == (a0.length : Int))) then I2 (0 : Int) (List.replicate (a0.length : Int).toNat (0 : Int)) else none)
noncomputable def f15G (K : Nat) (a0 : List Int) : Option (List Int) :=
  f15_g K a0 (fun d0 d1 => f15_l2 K a0 K d0 d1)
noncomputable def f15M (K : Nat) : Mdl := ⟨[(.ro, (.list 2 (.int .i64)))], [(.list 2 (.int .i64))], fun x => f15G K x.1⟩
/-! laws.toPattern -/
noncomputable def f6E (K : Nat) : Env := ⟨[(14, f14M K), (15, f15M K)], tys, eqs, mts, K, [0, 1, 2, 3], [], []⟩
noncomputable def f6G (K : Nat) (a0 : Int × (Int × Int × Int) × List Int) : Option (Int × (Int × Int × Int) × List Int) :=
  (f14G K a0.2.1).bind fun y1 => (f15G K a0.2.2).bind fun y2 => some (a0.1, y1, y2)
noncomputable def f6M (K : Nat) : Mdl := ⟨[(.ro, (.cons (.int .i64) (.cons (.cons (.int .i64) (.cons (.int .i64) (.int .i64))) (.list 2 (.int .i64)))))], [(.cons (.int .i64) (.cons (.cons (.int .i64) (.cons (.int .i64) (.int .i64))) (.list 2 (.int .i64))))], fun x => f6G K x.1⟩
/-! spec.IsFrame -/
noncomputable def f35E (K : Nat) : Env := ⟨[], tys, eqs, mts, K, [0, 2], [], []⟩
noncomputable def f35G (K : Nat) (a0 : Int) : Option Bool :=
  (bif ((!(!(a0 == (0 : Int)))) || true) then (bif ((!(!(a0 == (0 : Int)))) || true) then some (bif (a0 == (0 : Int)) then true else (a0 == (1 : Int))) else none) else none)
noncomputable def f35M (K : Nat) : Mdl := ⟨[(.ro, (.int .i64))], [.bool], fun x => f35G K x.1⟩
/-! spec.l01In -/
noncomputable def f37E (K : Nat) : Env := ⟨[], tys, eqs, mts, K, [0, 1, 2, 6], [], []⟩
noncomputable def f37G (K : Nat) (a0 : Int) (a1 : Int) (a2 : Int) : Option Bool :=
  (bif ((!(decide (a0 ≥ a1))) || true) then (bif ((!(decide (a0 ≥ a1))) || true) then (bif ((!(decide (a0 ≥ a1))) || true) then some (bif (decide (a0 ≥ a1)) then (decide (a0 ≤ a2)) else false) else none) else none) else none)
noncomputable def f37M (K : Nat) : Mdl := ⟨[(.ro, (.int .i64)), (.ro, (.int .i64)), (.ro, (.int .i64))], [.bool], fun x => f37G K x.1 x.2.1 x.2.2.1⟩
/-! spec.IsLattice -/
noncomputable def f36E (K : Nat) : Env := ⟨[(37, f37M K)], tys, eqs, mts, K, [0, 1, 2], [], []⟩
noncomputable def f36G (K : Nat) (a0 : Int × Int × Int) : Option Bool :=
  (f37G K a0.1 (1 : Int) (64 : Int)).bind fun y1 => (bif ((!y1) || true) then (bif ((!y1) || true) then ((bif y1 then f37G K a0.2.2 (1 : Int) (64 : Int) else some false)).bind fun y2 => (bif ((!(bif y1 then y2 else false)) || true) then (bif ((!(bif y1 then y2 else false)) || true) then (bif ((!(bif y1 then y2 else false)) || true) then (bif ((!(bif y1 then y2 else false)) || true) then (bif ((!(bif y1 then y2 else false)) || true) then ((bif (bif y1 then y2 else false) then f37G K a0.2.1 (0 : Int) (w (a0.1 - (1 : Int))) else some false)).bind fun y3 => (bif ((!(bif (bif y1 then y2 else false) then y3 else false)) || true) then (bif ((!(bif (bif y1 then y2 else false) then y3 else false)) || true) then (bif ((!(bif (bif y1 then y2 else false) then y3 else false)) || true) then (bif ((!(bif (bif y1 then y2 else false) then y3 else false)) || true) then (bif ((!(bif (bif y1 then y2 else false) then y3 else false)) || true) then (bif ((!(bif (bif y1 then y2 else false) then y3 else false)) || true) then some (bif (bif (bif y1 then y2 else false) then y3 else false) then (decide ((w (a0.1 * a0.2.2)) ≤ (64 : Int))) else false) else none) else none) else none) else none) else none) else none) else none) else none) else none) else none) else none) else none) else none)
noncomputable def f36M (K : Nat) : Mdl := ⟨[(.ro, (.cons (.int .i64) (.cons (.int .i64) (.int .i64))))], [.bool], fun x => f36G K x.1⟩
/-! spec.l04Code -/
noncomputable def f22E (K : Nat) : Env := ⟨[(35, f35M K), (36, f36M K)], tys, eqs, mts, K, [0, 1, 3, 4, 12], [], []⟩
noncomputable def f22G (K : Nat) (a0 : Int) (a1 : Int × Int × Int) : Option Int :=
  (f35G K a0).bind fun y1 => (bif ((!(!(!y1))) || true) then ((bif (!(!y1)) then f36G K a1 else some false)).bind fun y2 => (bif ((!(!(!y1))) || true) then (bif (bif (!y1) then true else (!y2)) then some (1 : Int) else some (0 : Int)) else none) else none)
noncomputable def f22M (K : Nat) : Mdl := ⟨[(.ro, (.int .i64)), (.ro, (.cons (.int .i64) (.cons (.int .i64) (.int .i64))))], [(.int .i64)], fun x => f22G K x.1 x.2.1⟩
/-! spec.l01Within -/
noncomputable def f23C : Code := codeOf Tryd.f23
noncomputable def f23E (K : Nat) : Env := ⟨[(37, f37M K)], tys, eqs, mts, K, [0, 1, 2, 3, 8, 9, 13, 23], [], []⟩
noncomputable def f23_b3 (K : Nat) (a0 : List Int) (a1 : Int) (a2 : Int) (a3 : Int) (L3 : Int → Option Bool) (q4 : Int) : Option Bool :=
  (bif (decide (q4 < (a0.length : Int))) then (bif (decide (0 ≤ q4) && decide (q4 < (a0.length : Int))) then (f37G K (a0.getD ((0 : Int) + q4).toNat (0 : Int)) a2 a3).bind fun y5 => (bif (!y5) then some false else L3 (w (q4 + (1 : Int)))) else none) else some (decide ((a0.length : Int) ≤ a1)))
noncomputable def f23_l3 (K : Nat) (a0 : List Int) (a1 : Int) (a2 : Int) (a3 : Int) (n : Nat) (q4 : Int) : Option Bool :=
  iter (X := Int) (fun L x => (fun L3 => f23_b3 K a0 a1 a2 a3 L3 x) (fun v0 => L v0)) n q4
noncomputable def f23_fr3 (a0 : List Int) (a1 : Int) (a2 : Int) (a3 : Int) (q4 : Int) : Fr := ⟨28, [(0, .v false [.row 0]), (1, .v false [.int .i64 a1]), (2, .v false [.int .i64 a2]), (3, .v false [.int .i64 a3]), (8, .v false [.bool false]), (9, .v false [.int .i64 q4])], [], [some ⟨2, (.int .i64), a0, .ro⟩]⟩
noncomputable def f23_k3 (K : Nat) (a0 : List Int) (a1 : Int) (a2 : Int) (a3 : Int) (lr : LR Bool) : Ex → Fr → Option Bool :=
  contC (f23E K) 1 lr f23C [1, 0, 1, 0] (finK (f23E K) Tryd.f23 [(.ro, (.list 2 (.int .i64))), (.ro, (.int .i64)), (.ro, (.int .i64)), (.ro, (.int .i64))] [.bool] (a0, a1, a2, a3, ()))
noncomputable def f23_g (K : Nat) (a0 : List Int) (a1 : Int) (a2 : Int) (a3 : Int) (I3 : Int → Option Bool) : Option Bool :=
  I3 (0 : Int)
noncomputable def f23G (K : Nat) (a0 : List Int) (a1 : Int) (a2 : Int) (a3 : Int) : Option Bool :=
  f23_g K a0 a1 a2 a3 (fun d0 => f23_l3 K a0 a1 a2 a3 K d0)
noncomputable def f23M (K : Nat) : Mdl := ⟨[(.ro, (.list 2 (.int .i64))), (.ro, (.int .i64)), (.ro, (.int .i64)), (.ro, (.int .i64))], [.bool], fun x => f23G K x.1 x.2.1 x.2.2.1 x.2.2.2.1⟩
/-! spec.IsPattern -/
noncomputable def f10E (K : Nat) : Env := ⟨[(22, f22M K), (23, f23M K)], tys, eqs, mts, K, [0, 1, 2], [], []⟩
noncomputable def f10G (K : Nat) (a0 : Int × (Int × Int × Int) × List Int) : Option Bool :=
  (f22G K a0.1 a0.2.1).bind fun y1 => (bif ((!(y1 == (0 : Int))) || true) then (bif ((!(y1 == (0 : Int))) || true) then (bif ((!(y1 == (0 : Int))) || true) then (bif ((!(y1 == (0 : Int))) || true) then (bif ((!(y1 == (0 : Int))) || true) then (bif ((!(y1 == (0 : Int))) || true) then (bif ((!(y1 == (0 : Int))) || true) then (bif ((!(y1 == (0 : Int))) || true) then (bif ((!(y1 == (0 : Int))) || true) then (bif ((!(y1 == (0 : Int))) || true) then (bif ((!(y1 == (0 : Int))) || true) then (bif ((!(bif (y1 == (0 : Int)) then ((a0.2.2.length : Int) == (w (a0.2.1.1 * a0.2.1.2.2))) else false)) || true) then (bif ((!(bif (y1 == (0 : Int)) then ((a0.2.2.length : Int) == (w (a0.2.1.1 * a0.2.1.2.2))) else false)) || true) then ((bif (bif (y1 == (0 : Int)) then ((a0.2.2.length : Int) == (w (a0.2.1.1 * a0.2.1.2.2))) else false) then f23G K a0.2.2 (64 : Int) (0 : Int) (9 : Int) else some false)).bind fun y2 => some (bif (bif (y1 == (0 : Int)) then ((a0.2.2.length : Int) == (w (a0.2.1.1 * a0.2.1.2.2))) else false) then y2 else false) else none) else none) else none) else none) else none) else none) else none) else none) else none) else none) else none) else none) else none)
noncomputable def f10M (K : Nat) : Mdl := ⟨[(.ro, (.cons (.int .i64) (.cons (.cons (.int .i64) (.cons (.int .i64) (.int .i64))) (.list 2 (.int .i64)))))], [.bool], fun x => f10G K x.1⟩
/-! spec.l03Cells -/
noncomputable def f11C : Code := codeOf Tryd.f11
noncomputable def f11E (K : Nat) : Env := ⟨[], tys, eqs, mts, K, [0, 1, 2, 3, 4, 5, 10, 16], [], []⟩
noncomputable def f11_b9 (K : Nat) (a0 : Int × Int × Int) (q7 : Int) (L6 : Int → (List (Int × Int)) → Option (List (Int × Int))) (L9 : Int → (List (Int × Int)) → Option (List (Int × Int))) (q10 : Int) (q11 : List (Int × Int)) : Option (List (Int × Int)) :=
  (bif (decide (q10 < a0.2.2)) then (bif (Nat.ble (q11.length + [(q7, q10)].length) (lim 16)) then L9 (w (q10 + (1 : Int))) (q11 ++ [(q7, q10)]) else none) else L6 (w (q7 + (1 : Int))) q11)
noncomputable def f11_l9 (K : Nat) (a0 : Int × Int × Int) (q7 : Int) (L6 : Int → (List (Int × Int)) → Option (List (Int × Int))) (n : Nat) (q10 : Int) (q11 : List (Int × Int)) : Option (List (Int × Int)) :=
  iter (X := Int × List (Int × Int)) (fun L x => (fun L9 => f11_b9 K a0 q7 L6 L9 x.1 x.2) (fun v0 v1 => L (v0, v1))) n (q10, q11)
noncomputable def f11_fr9 (a0 : Int × Int × Int) (q7 : Int) (q10 : Int) (q11 : List (Int × Int)) : Fr := ⟨26, [(0, .v true [.int .i64 a0.1, .int .i64 a0.2.1, .int .i64 a0.2.2]), (1, .v false [.box 0 0]), (2, .v false [.row 0]), (3, .v false [.row 1]), (4, .v false [.int .i64 q7]), (5, .v false [.int .i64 q10]), (10, .v false [.bool (decide (q7 < a0.1))])], [some ⟨true, [.int .i64 a0.1, .int .i64 a0.2.1, .int .i64 a0.2.2]⟩], [some ⟨43, (.cons (.int .i64) (.int .i64)), [], .own⟩, some ⟨43, (.cons (.int .i64) (.int .i64)), q11, .own⟩]⟩
noncomputable def f11_b6 (K : Nat) (a0 : Int × Int × Int) (I9 : Int → Int → (List (Int × Int)) → Option (List (Int × Int))) (L6 : Int → (List (Int × Int)) → Option (List (Int × Int))) (q7 : Int) (q8 : List (Int × Int)) : Option (List (Int × Int)) :=
  (bif (decide (q7 < a0.1)) then I9 q7 (0 : Int) q8 else some q8)
noncomputable def f11_l6 (K : Nat) (a0 : Int × Int × Int) (n : Nat) (q7 : Int) (q8 : List (Int × Int)) : Option (List (Int × Int)) :=
  iter (X := Int × List (Int × Int)) (fun L x => (fun L6 => f11_b6 K a0 (fun c0 d0 d1 => f11_l9 K a0 c0 L6 K d0 d1) L6 x.1 x.2) (fun v0 v1 => L (v0, v1))) n (q7, q8)
noncomputable def f11_fr6 (a0 : Int × Int × Int) (q7 : Int) (q8 : List (Int × Int)) : Fr := ⟨26, [(0, .v true [.int .i64 a0.1, .int .i64 a0.2.1, .int .i64 a0.2.2]), (1, .v false [.box 0 0]), (2, .v false [.row 0]), (3, .v false [.row 1]), (4, .v false [.int .i64 q7])], [some ⟨true, [.int .i64 a0.1, .int .i64 a0.2.1, .int .i64 a0.2.2]⟩], [some ⟨43, (.cons (.int .i64) (.int .i64)), [], .own⟩, some ⟨43, (.cons (.int .i64) (.int .i64)), q8, .own⟩]⟩
noncomputable def f11_k6 (K : Nat) (a0 : Int × Int × Int) (lr : LR (List (Int × Int))) : Ex → Fr → Option (List (Int × Int)) :=
  contC (f11E K) 0 lr f11C [1, 1, 0, 1, 0] (finK (f11E K) Tryd.f11 [(.ro, (.cons (.int .i64) (.cons (.int .i64) (.int .i64))))] [(.list 43 (.cons (.int .i64) (.int .i64)))] (a0, ()))
noncomputable def f11_k9 (K : Nat) (a0 : Int × Int × Int) (F6 : Fr → Option (List (Int × Int))) (bq7 : Int) (bq8 : List (Int × Int)) (lr : LR (List (Int × Int))) : Ex → Fr → Option (List (Int × Int)) :=
  contC (f11E K) 0 lr (selC f11C [1, 1, 0, 1, 0, 0]) [1, 0, 0, 1, 0] (loopK 0 (f11_fr6 a0 bq7 bq8) F6 (f11_k6 K a0 lr))
noncomputable def f11_g (K : Nat) (a0 : Int × Int × Int) (I6 : Int → (List (Int × Int)) → Option (List (Int × Int))) : Option (List (Int × Int)) :=
  I6 (0 : Int) []
noncomputable def f11G (K : Nat) (a0 : Int × Int × Int) : Option (List (Int × Int)) :=
  f11_g K a0 (fun d0 d1 => f11_l6 K a0 K d0 d1)
noncomputable def f11M (K : Nat) : Mdl := ⟨[(.ro, (.cons (.int .i64) (.cons (.int .i64) (.int .i64))))], [(.list 43 (.cons (.int .i64) (.int .i64)))], fun x => f11G K x.1⟩
/-! spec.l01Dec -/
noncomputable def f26E (K : Nat) (rec : Int → Option ByteArray) : Env := ⟨[(26, ⟨[(.ro, (.int .i64))], [.str], fun x => rec x.1⟩)], tys, eqs, mts, K, [0, 2, 4], [], []⟩
noncomputable def f26_s (K : Nat) (rec : Int → Option ByteArray) (a0 : Int) : Option ByteArray :=
  (bif (decide (a0 < (10 : Int))) then some (strOfNums [(IntKind.u8.wrap (w ((48 : Int) + a0)))]) else (rec (w (a0.tdiv (10 : Int)))).bind fun y1 => (bif (Nat.ble (y1.size + (strOfNums [(IntKind.u8.wrap (w ((48 : Int) + (a0.tmod (10 : Int)))))]).size) 9223372036854775807) then some (y1 ++ (strOfNums [(IntKind.u8.wrap (w ((48 : Int) + (a0.tmod (10 : Int)))))])) else none))
noncomputable def f26R (K : Nat) : Nat → Int → Option ByteArray
  | 0 => fun _ => none
  | n + 1 => fun a0 => f26_s K (f26R K n) a0
noncomputable def f26G (K : Nat) (a0 : Int) : Option ByteArray := f26R K K a0
noncomputable def f26M (K : Nat) : Mdl := ⟨[(.ro, (.int .i64))], [.str], fun x => f26G K x.1⟩
/-! spec.l01Number -/
noncomputable def f40E (K : Nat) : Env := ⟨[(26, f26M K)], tys, eqs, mts, K, [0, 2, 4], [], []⟩
noncomputable def f40G (K : Nat) (a0 : Int) : Option ByteArray :=
  (bif (decide (a0 < (0 : Int))) then (f26G K (w (0 - a0))).bind fun y1 => (bif (Nat.ble ((bs [45]).size + y1.size) 9223372036854775807) then some ((bs [45]) ++ y1) else none) else (f26G K a0).bind fun y2 => some y2)
noncomputable def f40M (K : Nat) : Mdl := ⟨[(.ro, (.int .i64))], [.str], fun x => f40G K x.1⟩
/-! spec.l01Join -/
noncomputable def f38C : Code := codeOf Tryd.f38
noncomputable def f38E (K : Nat) : Env := ⟨[(40, f40M K)], tys, eqs, mts, K, [0, 1, 4, 5, 6, 10, 14], [], []⟩
noncomputable def f38_b3 (K : Nat) (a0 : List Int) (a1 : ByteArray) (L3 : ByteArray → Int → Option ByteArray) (q4 : ByteArray) (q5 : Int) : Option ByteArray :=
  (bif (decide (q5 < (a0.length : Int))) then (bif (decide (q5 > (0 : Int))) then (bif (Nat.ble (q4.size + a1.size) 9223372036854775807) then (bif (decide (0 ≤ q5) && decide (q5 < (a0.length : Int))) then (f40G K (a0.getD ((0 : Int) + q5).toNat (0 : Int))).bind fun y6 => (bif (Nat.ble ((q4 ++ a1).size + y6.size) 9223372036854775807) then L3 ((q4 ++ a1) ++ y6) (w (q5 + (1 : Int))) else none) else none) else none) else (bif (decide (0 ≤ q5) && decide (q5 < (a0.length : Int))) then (f40G K (a0.getD ((0 : Int) + q5).toNat (0 : Int))).bind fun y7 => (bif (Nat.ble (q4.size + y7.size) 9223372036854775807) then L3 (q4 ++ y7) (w (q5 + (1 : Int))) else none) else none)) else some q4)
noncomputable def f38_l3 (K : Nat) (a0 : List Int) (a1 : ByteArray) (n : Nat) (q4 : ByteArray) (q5 : Int) : Option ByteArray :=
  iter (X := ByteArray × Int) (fun L x => (fun L3 => f38_b3 K a0 a1 L3 x.1 x.2) (fun v0 v1 => L (v0, v1))) n (q4, q5)
noncomputable def f38_fr3 (a0 : List Int) (a1 : ByteArray) (q4 : ByteArray) (q5 : Int) : Fr := ⟨26, [(0, .v false [.row 0]), (1, .v false [.str a1]), (4, .v false [.str ByteArray.empty]), (5, .v false [.str q4]), (6, .v false [.int .i64 q5])], [], [some ⟨2, (.int .i64), a0, .ro⟩]⟩
noncomputable def f38_k3 (K : Nat) (a0 : List Int) (a1 : ByteArray) (lr : LR ByteArray) : Ex → Fr → Option ByteArray :=
  contC (f38E K) 1 lr f38C [1, 1, 0, 1, 0] (finK (f38E K) Tryd.f38 [(.ro, (.list 2 (.int .i64))), (.ro, .str)] [.str] (a0, a1, ()))
noncomputable def f38_g (K : Nat) (a0 : List Int) (a1 : ByteArray) (I3 : ByteArray → Int → Option ByteArray) : Option ByteArray :=
  I3 ByteArray.empty (0 : Int)
noncomputable def f38G (K : Nat) (a0 : List Int) (a1 : ByteArray) : Option ByteArray :=
  f38_g K a0 a1 (fun d0 d1 => f38_l3 K a0 a1 K d0 d1)
noncomputable def f38M (K : Nat) : Mdl := ⟨[(.ro, (.list 2 (.int .i64))), (.ro, .str)], [.str], fun x => f38G K x.1 x.2.1⟩
/-! spec.LatticeText -/
noncomputable def f24E (K : Nat) : Env := ⟨[(36, f36M K), (38, f38M K)], tys, eqs, mts, K, [0, 1, 2, 5], [], []⟩
noncomputable def f24G (K : Nat) (a0 : Int × Int × Int) : Option ByteArray :=
  (f36G K a0).bind fun y1 => (bif (!y1) then some ByteArray.empty else (f38G K [a0.1, a0.2.1, a0.2.2] (bs [44])).bind fun y2 => some y2)
noncomputable def f24M (K : Nat) : Mdl := ⟨[(.ro, (.cons (.int .i64) (.cons (.int .i64) (.int .i64))))], [.str], fun x => f24G K x.1⟩
/-! spec.l28Head -/
noncomputable def f12E (K : Nat) : Env := ⟨[(24, f24M K)], tys, eqs, mts, K, [0, 1, 2], [], []⟩
noncomputable def f12G (K : Nat) (a0 : Int × (Int × Int × Int) × List Int) : Option ByteArray :=
  (bif (decide (0 ≤ a0.1) && decide (a0.1 ≤ (w (a0.1 + (1 : Int)))) && decide ((w (a0.1 + (1 : Int))) ≤ ((bs [83, 72]).size : Int))) then (bif (Nat.ble ((bs [102, 114, 97, 109, 101, 32]).size + ((bs [83, 72]).extract a0.1.toNat (w (a0.1 + (1 : Int))).toNat).size) 9223372036854775807) then (bif (Nat.ble (((bs [102, 114, 97, 109, 101, 32]) ++ ((bs [83, 72]).extract a0.1.toNat (w (a0.1 + (1 : Int))).toNat)).size + (bs [10, 108, 97, 116, 116, 105, 99, 101, 32]).size) 9223372036854775807) then (f24G K a0.2.1).bind fun y1 => (bif (Nat.ble ((((bs [102, 114, 97, 109, 101, 32]) ++ ((bs [83, 72]).extract a0.1.toNat (w (a0.1 + (1 : Int))).toNat)) ++ (bs [10, 108, 97, 116, 116, 105, 99, 101, 32])).size + y1.size) 9223372036854775807) then (bif (Nat.ble (((((bs [102, 114, 97, 109, 101, 32]) ++ ((bs [83, 72]).extract a0.1.toNat (w (a0.1 + (1 : Int))).toNat)) ++ (bs [10, 108, 97, 116, 116, 105, 99, 101, 32])) ++ y1).size + (bs [10]).size) 9223372036854775807) then some (((((bs [102, 114, 97, 109, 101, 32]) ++ ((bs [83, 72]).extract a0.1.toNat (w (a0.1 + (1 : Int))).toNat)) ++ (bs [10, 108, 97, 116, 116, 105, 99, 101, 32])) ++ y1) ++ (bs [10])) else none) else none) else none) else none) else none)
noncomputable def f12M (K : Nat) : Mdl := ⟨[(.ro, (.cons (.int .i64) (.cons (.cons (.int .i64) (.cons (.int .i64) (.int .i64))) (.list 2 (.int .i64)))))], [.str], fun x => f12G K x.1⟩
/-! spec.IsVec -/
noncomputable def f39E (K : Nat) : Env := ⟨[(37, f37M K)], tys, eqs, mts, K, [0, 1, 2], [], []⟩
noncomputable def f39G (K : Nat) (a0 : Int × Int) : Option Bool :=
  (f37G K a0.1 (-1000 : Int) (1000 : Int)).bind fun y1 => (bif ((!y1) || true) then (bif ((!y1) || true) then ((bif y1 then f37G K a0.2 (-1000 : Int) (1000 : Int) else some false)).bind fun y2 => some (bif y1 then y2 else false) else none) else none)
noncomputable def f39M (K : Nat) : Mdl := ⟨[(.ro, (.cons (.int .i64) (.int .i64)))], [.bool], fun x => f39G K x.1⟩
/-! spec.VecText -/
noncomputable def f25E (K : Nat) : Env := ⟨[(39, f39M K), (40, f40M K)], tys, eqs, mts, K, [0, 1, 2, 5], [], []⟩
noncomputable def f25G (K : Nat) (a0 : Int × Int) : Option ByteArray :=
  (f39G K a0).bind fun y1 => (bif (!y1) then some ByteArray.empty else (f40G K a0.1).bind fun y2 => (bif (Nat.ble (y2.size + (bs [44]).size) 9223372036854775807) then (f40G K a0.2).bind fun y3 => (bif (Nat.ble ((y2 ++ (bs [44])).size + y3.size) 9223372036854775807) then some ((y2 ++ (bs [44])) ++ y3) else none) else none))
noncomputable def f25M (K : Nat) : Mdl := ⟨[(.ro, (.cons (.int .i64) (.int .i64)))], [.str], fun x => f25G K x.1⟩
/-! spec.l28Mark -/
noncomputable def f13E (K : Nat) : Env := ⟨[(25, f25M K), (26, f26M K)], tys, eqs, mts, K, [0, 1, 2, 4], [], []⟩
noncomputable def f13G (K : Nat) (a0 : Int × Int) (a1 : Int) : Option ByteArray :=
  (f25G K a0).bind fun y1 => (bif (Nat.ble ((bs [109, 97, 114, 107, 32]).size + y1.size) 9223372036854775807) then (bif (Nat.ble (((bs [109, 97, 114, 107, 32]) ++ y1).size + (bs [32]).size) 9223372036854775807) then (f26G K a1).bind fun y2 => (bif (Nat.ble ((((bs [109, 97, 114, 107, 32]) ++ y1) ++ (bs [32])).size + y2.size) 9223372036854775807) then (bif (Nat.ble (((((bs [109, 97, 114, 107, 32]) ++ y1) ++ (bs [32])) ++ y2).size + (bs [10]).size) 9223372036854775807) then some (((((bs [109, 97, 114, 107, 32]) ++ y1) ++ (bs [32])) ++ y2) ++ (bs [10])) else none) else none) else none) else none)
noncomputable def f13M (K : Nat) : Mdl := ⟨[(.ro, (.cons (.int .i64) (.int .i64))), (.ro, (.int .i64))], [.str], fun x => f13G K x.1 x.2.1⟩
/-! spec.PrintProgram -/
noncomputable def f5C : Code := codeOf Tryd.f5
noncomputable def f5E (K : Nat) : Env := ⟨[(10, f10M K), (11, f11M K), (12, f12M K), (13, f13M K)], tys, eqs, mts, K, [0, 1, 2, 3, 4, 5, 6, 7, 10, 19, 27, 43], [], []⟩
noncomputable def f5_b6 (K : Nat) (a0 : Int × (Int × Int × Int) × List Int) (y1 : Bool) (y2 : List (Int × Int)) (L6 : ByteArray → Int → Int → Option (ByteArray × Int)) (q7 : ByteArray) (q8 : Int) (q9 : Int) : Option (ByteArray × Int) :=
  (bif (decide (q9 < (y2.length : Int))) then (bif (decide (0 ≤ q9) && decide (q9 < (a0.2.2.length : Int))) then (bif (decide ((a0.2.2.getD ((0 : Int) + q9).toNat (0 : Int)) > (0 : Int))) then (bif (decide (0 ≤ q9) && decide (q9 < (y2.length : Int))) then (bif (decide (0 ≤ q9) && decide (q9 < (a0.2.2.length : Int))) then (f13G K (y2.getD ((0 : Int) + q9).toNat ((0 : Int), (0 : Int))) (a0.2.2.getD ((0 : Int) + q9).toNat (0 : Int))).bind fun y10 => (bif (Nat.ble (q7.size + y10.size) 9223372036854775807) then L6 (q7 ++ y10) (w (q8 + (1 : Int))) (w (q9 + (1 : Int))) else none) else none) else none) else L6 q7 q8 (w (q9 + (1 : Int)))) else none) else (bif (decide (q8 > (40 : Int))) then some (ByteArray.empty, (3 : Int)) else some (q7, (0 : Int))))
noncomputable def f5_l6 (K : Nat) (a0 : Int × (Int × Int × Int) × List Int) (y1 : Bool) (y2 : List (Int × Int)) (n : Nat) (q7 : ByteArray) (q8 : Int) (q9 : Int) : Option (ByteArray × Int) :=
  iter (X := ByteArray × Int × Int) (fun L x => (fun L6 => f5_b6 K a0 y1 y2 L6 x.1 x.2.1 x.2.2) (fun v0 v1 v2 => L (v0, v1, v2))) n (q7, q8, q9)
noncomputable def f5_fr6 (a0 : Int × (Int × Int × Int) × List Int) (y1 : Bool) (y2 : List (Int × Int)) (q7 : ByteArray) (q8 : Int) (q9 : Int) : Fr := ⟨45, [(0, .v true [.int .i64 a0.1, .int .i64 a0.2.1.1, .int .i64 a0.2.1.2.1, .int .i64 a0.2.1.2.2, .row 0]), (1, .v false [.box 0 0]), (2, .v false [.str ByteArray.empty]), (3, .v false [.int .i64 (0 : Int)]), (4, .v false [.row 1]), (5, .v false [.str q7]), (6, .v false [.int .i64 q8]), (7, .v false [.int .i64 q9]), (10, .v false [.bool (!y1)])], [some ⟨true, [.int .i64 a0.1, .int .i64 a0.2.1.1, .int .i64 a0.2.1.2.1, .int .i64 a0.2.1.2.2, .row 0]⟩], [some ⟨2, (.int .i64), a0.2.2, .ro⟩, some ⟨43, (.cons (.int .i64) (.int .i64)), y2, .own⟩]⟩
noncomputable def f5_k6 (K : Nat) (a0 : Int × (Int × Int × Int) × List Int) (lr : LR (ByteArray × Int)) : Ex → Fr → Option (ByteArray × Int) :=
  contC (f5E K) 1 lr f5C [1, 1, 1, 1, 0, 1, 0] (finK (f5E K) Tryd.f5 [(.ro, (.cons (.int .i64) (.cons (.cons (.int .i64) (.cons (.int .i64) (.int .i64))) (.list 2 (.int .i64)))))] [.str, (.int .i64)] (a0, ()))
noncomputable def f5_g (K : Nat) (a0 : Int × (Int × Int × Int) × List Int) (I6 : Bool → (List (Int × Int)) → ByteArray → Int → Int → Option (ByteArray × Int)) : Option (ByteArray × Int) :=
  (f10G K a0).bind fun y1 => (bif (!y1) then some (ByteArray.empty, (1 : Int)) else (f11G K a0.2.1).bind fun y2 => (f12G K a0).bind fun y3 => I6 y1 y2 y3 (0 : Int) (0 : Int))
noncomputable def f5G (K : Nat) (a0 : Int × (Int × Int × Int) × List Int) : Option (ByteArray × Int) :=
  f5_g K a0 (fun c0 c1 d0 d1 d2 => f5_l6 K a0 c0 c1 K d0 d1 d2)
noncomputable def f5M (K : Nat) : Mdl := ⟨[(.ro, (.cons (.int .i64) (.cons (.cons (.int .i64) (.cons (.int .i64) (.int .i64))) (.list 2 (.int .i64)))))], [.str, (.int .i64)], fun x => f5G K x.1⟩
/-! impl.within -/
noncomputable def f41E (K : Nat) : Env := ⟨[], tys, eqs, mts, K, [0, 1, 2, 6], [], []⟩
noncomputable def f41G (K : Nat) (a0 : Int) (a1 : Int) (a2 : Int) : Option Bool :=
  (bif ((!(decide (a0 ≥ a1))) || true) then (bif ((!(decide (a0 ≥ a1))) || true) then (bif ((!(decide (a0 ≥ a1))) || true) then some (bif (decide (a0 ≥ a1)) then (decide (a0 ≤ a2)) else false) else none) else none) else none)
noncomputable def f41M (K : Nat) : Mdl := ⟨[(.ro, (.int .i64)), (.ro, (.int .i64)), (.ro, (.int .i64))], [.bool], fun x => f41G K x.1 x.2.1 x.2.2.1⟩
/-! impl.IsFrame -/
noncomputable def f27E (K : Nat) : Env := ⟨[(41, f41M K)], tys, eqs, mts, K, [0, 2], [], []⟩
noncomputable def f27G (K : Nat) (a0 : Int) : Option Bool :=
  (f41G K a0 (0 : Int) (1 : Int)).bind fun y1 => some y1
noncomputable def f27M (K : Nat) : Mdl := ⟨[(.ro, (.int .i64))], [.bool], fun x => f27G K x.1⟩
/-! (impl.Lattice).index -/
noncomputable def f29E (K : Nat) : Env := ⟨[], tys, eqs, mts, K, [0, 1, 2], [], []⟩
noncomputable def f29G (K : Nat) (a0 : Int × Int × Int) : Option Int :=
  some (w (a0.1 * a0.2.2))
noncomputable def f29M (K : Nat) : Mdl := ⟨[(.ro, (.cons (.int .i64) (.cons (.int .i64) (.int .i64))))], [(.int .i64)], fun x => f29G K x.1⟩
/-! impl.IsLattice -/
noncomputable def f28E (K : Nat) : Env := ⟨[(29, f29M K), (41, f41M K)], tys, eqs, mts, K, [0, 1, 2], [], []⟩
noncomputable def f28G (K : Nat) (a0 : Int × Int × Int) : Option Bool :=
  (f41G K a0.1 (1 : Int) (64 : Int)).bind fun y1 => (bif ((!y1) || true) then (bif ((!y1) || true) then ((bif y1 then f41G K a0.2.2 (1 : Int) (64 : Int) else some false)).bind fun y2 => (bif ((!(bif y1 then y2 else false)) || true) then (bif ((!(bif y1 then y2 else false)) || true) then (bif ((!(bif y1 then y2 else false)) || true) then (bif ((!(bif y1 then y2 else false)) || true) then (bif ((!(bif y1 then y2 else false)) || true) then ((bif (bif y1 then y2 else false) then f41G K a0.2.1 (0 : Int) (w (a0.1 - (1 : Int))) else some false)).bind fun y3 => (bif ((!(bif (bif y1 then y2 else false) then y3 else false)) || true) then ((bif (bif (bif y1 then y2 else false) then y3 else false) then f29G K a0 else some (0 : Int))).bind fun y4 => (bif ((!(bif (bif y1 then y2 else false) then y3 else false)) || true) then some (bif (bif (bif y1 then y2 else false) then y3 else false) then (decide (y4 ≤ (64 : Int))) else false) else none) else none) else none) else none) else none) else none) else none) else none) else none)
noncomputable def f28M (K : Nat) : Mdl := ⟨[(.ro, (.cons (.int .i64) (.cons (.int .i64) (.int .i64))))], [.bool], fun x => f28G K x.1⟩
/-! impl.allWithin$1 -/
noncomputable def f43E (K : Nat) : Env := ⟨[(41, f41M K)], tys, eqs, mts, K, [0, 1, 2, 4], [], []⟩
noncomputable def f43G (K : Nat) (a0 : Int) (a1 : Int) (a2 : Int) : Option Bool :=
  (f41G K a0 a1 a2).bind fun y1 => some (!y1)
noncomputable def f43M (K : Nat) : Mdl := ⟨[(.ro, (.int .i64)), (.cap, (.int .i64)), (.cap, (.int .i64))], [.bool], fun x => f43G K x.1 x.2.1 x.2.2.1⟩
/-! slices.IndexFunc[[]int64,int64] -/
noncomputable def f49C : Code := codeOf Tryd.f49
noncomputable def f49E (K : Nat) : Env := ⟨[], tys, eqs, mts, K, [0, 1, 4, 5, 7, 8, 9, 16], [], []⟩
noncomputable def f49_b3 (K : Nat) (a0 : List Int) (a1 : (Int → Option Bool)) (L3 : Int → Option Int) (q4 : Int) : Option Int :=
  (bif (decide (q4 < (a0.length : Int))) then (bif (decide (0 ≤ q4) && decide (q4 < (a0.length : Int))) then (a1 (a0.getD ((0 : Int) + q4).toNat (0 : Int))).bind fun y5 => (bif y5 then some q4 else L3 (w (q4 + (1 : Int)))) else none) else some (-1 : Int))
noncomputable def f49_l3 (K : Nat) (a0 : List Int) (a1 : (Int → Option Bool)) (n : Nat) (q4 : Int) : Option Int :=
  iter (X := Int) (fun L x => (fun L3 => f49_b3 K a0 a1 L3 x) (fun v0 => L v0)) n q4
noncomputable def f49_fr3 (a0 : List Int) (a1 : (Int → Option Bool)) (q4 : Int) : Fr := ⟨19, [(0, .v false [.row 0]), (1, .v false [.fv1 (.int .i64) .bool a1]), (4, .v false [.int .i64 (0 : Int)]), (7, .v false [.int .i64 (a0.length : Int)]), (8, .v false [.int .i64 q4])], [], [some ⟨2, (.int .i64), a0, .ro⟩]⟩
noncomputable def f49_k3 (K : Nat) (a0 : List Int) (a1 : (Int → Option Bool)) (lr : LR Int) : Ex → Fr → Option Int :=
  contC (f49E K) 1 lr f49C [1, 0, 1, 0] (finK (f49E K) Tryd.f49 [(.ro, (.list 2 (.int .i64))), (.ro, (.fn1 (.int .i64) .bool))] [(.int .i64)] (a0, a1, ()))
noncomputable def f49_g (K : Nat) (a0 : List Int) (a1 : (Int → Option Bool)) (I3 : Int → Option Int) : Option Int :=
  I3 (0 : Int)
noncomputable def f49G (K : Nat) (a0 : List Int) (a1 : (Int → Option Bool)) : Option Int :=
  f49_g K a0 a1 (fun d0 => f49_l3 K a0 a1 K d0)
noncomputable def f49M (K : Nat) : Mdl := ⟨[(.ro, (.list 2 (.int .i64))), (.ro, (.fn1 (.int .i64) .bool))], [(.int .i64)], fun x => f49G K x.1 x.2.1⟩
/-! slices.ContainsFunc[[]int64,int64] -/
noncomputable def f42E (K : Nat) : Env := ⟨[(49, f49M K)], tys, eqs, mts, K, [0, 1, 4], [], []⟩
noncomputable def f42G (K : Nat) (a0 : List Int) (a1 : (Int → Option Bool)) : Option Bool :=
  (f49G K a0 a1).bind fun y1 => some (decide (y1 ≥ (0 : Int)))
noncomputable def f42M (K : Nat) : Mdl := ⟨[(.ro, (.list 2 (.int .i64))), (.ro, (.fn1 (.int .i64) .bool))], [.bool], fun x => f42G K x.1 x.2.1⟩
/-! impl.allWithin -/
noncomputable def f30E (K : Nat) : Env := ⟨[(42, f42M K), (43, f43M K)], tys, eqs, mts, K, [0, 1, 2, 4, 5, 6], [], []⟩
noncomputable def f30G (K : Nat) (a0 : List Int) (a1 : Int) (a2 : Int) : Option Bool :=
  (f42G K a0 (fun z1 => f43G K z1 a1 a2)).bind fun y2 => some (!y2)
noncomputable def f30M (K : Nat) : Mdl := ⟨[(.ro, (.list 2 (.int .i64))), (.ro, (.int .i64)), (.ro, (.int .i64))], [.bool], fun x => f30G K x.1 x.2.1 x.2.2.1⟩
/-! impl.IsPattern -/
noncomputable def f16E (K : Nat) : Env := ⟨[(27, f27M K), (28, f28M K), (29, f29M K), (30, f30M K)], tys, eqs, mts, K, [0, 1, 2], [], []⟩
noncomputable def f16G (K : Nat) (a0 : Int × (Int × Int × Int) × List Int) : Option Bool :=
  (f27G K a0.1).bind fun y1 => (bif ((!y1) || true) then (bif ((!y1) || true) then ((bif y1 then f28G K a0.2.1 else some false)).bind fun y2 => (bif ((!(bif y1 then y2 else false)) || true) then (bif ((!(bif y1 then y2 else false)) || true) then (bif ((!(bif y1 then y2 else false)) || true) then (bif ((!(bif y1 then y2 else false)) || true) then (bif ((!(bif y1 then y2 else false)) || true) then ((bif (bif y1 then y2 else false) then f29G K a0.2.1 else some (0 : Int))).bind fun y3 => (bif ((!(bif y1 then y2 else false)) || true) then (bif ((!(bif (bif y1 then y2 else false) then ((a0.2.2.length : Int) == y3) else false)) || true) then (bif ((!(bif (bif y1 then y2 else false) then ((a0.2.2.length : Int) == y3) else false)) || true) then ((bif (bif (bif y1 then y2 else false) then ((a0.2.2.length : Int) == y3) else false) then f30G K a0.2.2 (0 : Int) (9 : Int) else some false)).bind fun y4 => some (bif (bif (bif y1 then y2 else false) then ((a0.2.2.length : Int) == y3) else false) then y4 else false) else none) else none) else none) else none) else none) else none) else none) else none) else none) else none)
noncomputable def f16M (K : Nat) : Mdl := ⟨[(.ro, (.cons (.int .i64) (.cons (.cons (.int .i64) (.cons (.int .i64) (.int .i64))) (.list 2 (.int .i64)))))], [.bool], fun x => f16G K x.1⟩
/-! (impl.Lattice).cells -/
noncomputable def f18C : Code := codeOf Tryd.f18
noncomputable def f18E (K : Nat) : Env := ⟨[], tys, eqs, mts, K, [0, 1, 2, 3, 4, 5, 8, 9, 10, 13, 14, 15], [], []⟩
noncomputable def f18_b9 (K : Nat) (a0 : Int × Int × Int) (q7 : Int) (L6 : Int → (List (Int × Int)) → Option (List (Int × Int))) (L9 : Int → (List (Int × Int)) → Option (List (Int × Int))) (q10 : Int) (q11 : List (Int × Int)) : Option (List (Int × Int)) :=
  (bif (decide (q10 < a0.2.2)) then (bif (Nat.ble (q11.length + [(q7, q10)].length) (lim 16)) then L9 (w (q10 + (1 : Int))) (q11 ++ [(q7, q10)]) else none) else L6 (w (q7 + (1 : Int))) q11)
noncomputable def f18_l9 (K : Nat) (a0 : Int × Int × Int) (q7 : Int) (L6 : Int → (List (Int × Int)) → Option (List (Int × Int))) (n : Nat) (q10 : Int) (q11 : List (Int × Int)) : Option (List (Int × Int)) :=
  iter (X := Int × List (Int × Int)) (fun L x => (fun L9 => f18_b9 K a0 q7 L6 L9 x.1 x.2) (fun v0 v1 => L (v0, v1))) n (q10, q11)
noncomputable def f18_fr9 (a0 : Int × Int × Int) (q7 : Int) (q10 : Int) (q11 : List (Int × Int)) : Fr := ⟨26, [(0, .v true [.int .i64 a0.1, .int .i64 a0.2.1, .int .i64 a0.2.2]), (1, .v false [.box 0 0]), (2, .v false [.row 0]), (3, .v false [.row 1]), (4, .v false [.int .i64 q7]), (8, .v false [.int .i64 a0.1]), (9, .v false [.int .i64 q7]), (10, .v false [.bool (decide (q7 < a0.1))]), (13, .v false [.int .i64 a0.2.2]), (14, .v false [.int .i64 q10])], [some ⟨true, [.int .i64 a0.1, .int .i64 a0.2.1, .int .i64 a0.2.2]⟩], [some ⟨43, (.cons (.int .i64) (.int .i64)), [], .own⟩, some ⟨43, (.cons (.int .i64) (.int .i64)), q11, .own⟩]⟩
noncomputable def f18_b6 (K : Nat) (a0 : Int × Int × Int) (I9 : Int → Int → (List (Int × Int)) → Option (List (Int × Int))) (L6 : Int → (List (Int × Int)) → Option (List (Int × Int))) (q7 : Int) (q8 : List (Int × Int)) : Option (List (Int × Int)) :=
  (bif (decide (q7 < a0.1)) then I9 q7 (0 : Int) q8 else some q8)
noncomputable def f18_l6 (K : Nat) (a0 : Int × Int × Int) (n : Nat) (q7 : Int) (q8 : List (Int × Int)) : Option (List (Int × Int)) :=
  iter (X := Int × List (Int × Int)) (fun L x => (fun L6 => f18_b6 K a0 (fun c0 d0 d1 => f18_l9 K a0 c0 L6 K d0 d1) L6 x.1 x.2) (fun v0 v1 => L (v0, v1))) n (q7, q8)
noncomputable def f18_fr6 (a0 : Int × Int × Int) (q7 : Int) (q8 : List (Int × Int)) : Fr := ⟨26, [(0, .v true [.int .i64 a0.1, .int .i64 a0.2.1, .int .i64 a0.2.2]), (1, .v false [.box 0 0]), (2, .v false [.row 0]), (3, .v false [.row 1]), (8, .v false [.int .i64 a0.1]), (9, .v false [.int .i64 q7])], [some ⟨true, [.int .i64 a0.1, .int .i64 a0.2.1, .int .i64 a0.2.2]⟩], [some ⟨43, (.cons (.int .i64) (.int .i64)), [], .own⟩, some ⟨43, (.cons (.int .i64) (.int .i64)), q8, .own⟩]⟩
noncomputable def f18_k6 (K : Nat) (a0 : Int × Int × Int) (lr : LR (List (Int × Int))) : Ex → Fr → Option (List (Int × Int)) :=
  contC (f18E K) 0 lr f18C [1, 1, 0, 1, 0] (finK (f18E K) Tryd.f18 [(.ro, (.cons (.int .i64) (.cons (.int .i64) (.int .i64))))] [(.list 43 (.cons (.int .i64) (.int .i64)))] (a0, ()))
noncomputable def f18_k9 (K : Nat) (a0 : Int × Int × Int) (F6 : Fr → Option (List (Int × Int))) (bq7 : Int) (bq8 : List (Int × Int)) (lr : LR (List (Int × Int))) : Ex → Fr → Option (List (Int × Int)) :=
  contC (f18E K) 0 lr (selC f18C [1, 1, 0, 1, 0, 0]) [1, 1, 0, 0, 1, 1, 0] (loopK 0 (f18_fr6 a0 bq7 bq8) F6 (f18_k6 K a0 lr))
noncomputable def f18_g (K : Nat) (a0 : Int × Int × Int) (I6 : Int → (List (Int × Int)) → Option (List (Int × Int))) : Option (List (Int × Int)) :=
  I6 (0 : Int) []
noncomputable def f18G (K : Nat) (a0 : Int × Int × Int) : Option (List (Int × Int)) :=
  f18_g K a0 (fun d0 d1 => f18_l6 K a0 K d0 d1)
noncomputable def f18M (K : Nat) : Mdl := ⟨[(.ro, (.cons (.int .i64) (.cons (.int .i64) (.int .i64))))], [(.list 43 (.cons (.int .i64) (.int .i64)))], fun x => f18G K x.1⟩
/-! impl.mod -/
noncomputable def f50E (K : Nat) : Env := ⟨[], tys, eqs, mts, K, [0, 1, 4], [], []⟩
noncomputable def f50G (K : Nat) (a0 : Int) (a1 : Int) : Option Int :=
  (bif (a1 != 0) then (bif (a1 != 0) then some ((w ((a0.tmod a1) + a1)).tmod a1) else none) else none)
noncomputable def f50M (K : Nat) : Mdl := ⟨[(.ro, (.int .i64)), (.ro, (.int .i64))], [(.int .i64)], fun x => f50G K x.1 x.2.1⟩
/-! (impl.Lattice).reduce -/
noncomputable def f45E (K : Nat) : Env := ⟨[(50, f50M K)], tys, eqs, mts, K, [0, 1, 2, 3, 4, 5], [], []⟩
noncomputable def f45G (K : Nat) (a0 : Int × Int × Int) (a1 : Int × Int) : Option (Int × Int) :=
  (f50G K a1.2 a0.2.2).bind fun y1 => (bif (a0.2.2 != 0) then (f50G K (w (a1.1 - (w ((w ((w (a1.2 - y1)).tdiv a0.2.2)) * a0.2.1)))) a0.1).bind fun y2 => some (y2, y1) else none)
noncomputable def f45M (K : Nat) : Mdl := ⟨[(.ro, (.cons (.int .i64) (.cons (.int .i64) (.int .i64)))), (.ro, (.cons (.int .i64) (.int .i64)))], [(.cons (.int .i64) (.int .i64))], fun x => f45G K x.1 x.2.1⟩
/-! (impl.Lattice).number -/
noncomputable def f44E (K : Nat) : Env := ⟨[], tys, eqs, mts, K, [0, 1, 2, 3, 4], [], []⟩
noncomputable def f44G (K : Nat) (a0 : Int × Int × Int) (a1 : Int × Int) : Option Int :=
  some (w ((w (a1.1 * a0.2.2)) + a1.2))
noncomputable def f44M (K : Nat) : Mdl := ⟨[(.ro, (.cons (.int .i64) (.cons (.int .i64) (.int .i64)))), (.ro, (.cons (.int .i64) (.int .i64)))], [(.int .i64)], fun x => f44G K x.1 x.2.1⟩
/-! (impl.Pattern).at -/
noncomputable def f31E (K : Nat) : Env := ⟨[(44, f44M K), (45, f45M K)], tys, eqs, mts, K, [0, 1, 2, 3, 4], [], []⟩
noncomputable def f31G (K : Nat) (a0 : Int × (Int × Int × Int) × List Int) (a1 : Int × Int) : Option Int :=
  (f45G K a0.2.1 a1).bind fun y1 => (f44G K a0.2.1 y1).bind fun y2 => (bif (decide (0 ≤ y2) && decide (y2 < (a0.2.2.length : Int))) then some (a0.2.2.getD ((0 : Int) + y2).toNat (0 : Int)) else none)
noncomputable def f31M (K : Nat) : Mdl := ⟨[(.ro, (.cons (.int .i64) (.cons (.cons (.int .i64) (.cons (.int .i64) (.int .i64))) (.list 2 (.int .i64))))), (.ro, (.cons (.int .i64) (.int .i64)))], [(.int .i64)], fun x => f31G K x.1 x.2.1⟩
/-! impl.isCoordinate -/
noncomputable def f51E (K : Nat) : Env := ⟨[(41, f41M K)], tys, eqs, mts, K, [0, 2], [], []⟩
noncomputable def f51G (K : Nat) (a0 : Int) : Option Bool :=
  (f41G K a0 (-1000 : Int) (1000 : Int)).bind fun y1 => some y1
noncomputable def f51M (K : Nat) : Mdl := ⟨[(.ro, (.int .i64))], [.bool], fun x => f51G K x.1⟩
/-! impl.IsVec -/
noncomputable def f46E (K : Nat) : Env := ⟨[(51, f51M K)], tys, eqs, mts, K, [0, 1, 2], [], []⟩
noncomputable def f46G (K : Nat) (a0 : Int × Int) : Option Bool :=
  (f51G K a0.1).bind fun y1 => (bif ((!y1) || true) then (bif ((!y1) || true) then ((bif y1 then f51G K a0.2 else some false)).bind fun y2 => some (bif y1 then y2 else false) else none) else none)
noncomputable def f46M (K : Nat) : Mdl := ⟨[(.ro, (.cons (.int .i64) (.int .i64)))], [.bool], fun x => f46G K x.1⟩
/-! strconv.FormatInt -/
noncomputable def f48G (K : Nat) (a0 : Int) (a1 : Int) : Option ByteArray := fmtF a0 a1
noncomputable def f48M (K : Nat) : Mdl := ⟨[(.ro, (.int .i64)), (.ro, (.int .i64))], [.str], fun x => f48G K x.1 x.2.1⟩
/-! impl.text -/
noncomputable def f33E (K : Nat) : Env := ⟨[(48, f48M K)], tys, eqs, mts, K, [0, 2], [], []⟩
noncomputable def f33G (K : Nat) (a0 : Int) : Option ByteArray :=
  (f48G K a0 (10 : Int)).bind fun y1 => some y1
noncomputable def f33M (K : Nat) : Mdl := ⟨[(.ro, (.int .i64))], [.str], fun x => f33G K x.1⟩
/-! strings.Join -/
noncomputable def f52G (K : Nat) (a0 : List ByteArray) (a1 : ByteArray) : Option ByteArray := joinF a0 a1
noncomputable def f52M (K : Nat) : Mdl := ⟨[(.mv, (.list 9 .str)), (.ro, .str)], [.str], fun x => f52G K x.1 x.2.1⟩
/-! impl.joined -/
noncomputable def f47C : Code := codeOf Tryd.f47
noncomputable def f47E (K : Nat) : Env := ⟨[(33, f33M K), (52, f52M K)], tys, eqs, mts, K, [0, 1, 4, 5, 7, 9, 10, 11, 12], [], []⟩
noncomputable def f47_b3 (K : Nat) (a0 : ByteArray) (a1 : List Int) (L3 : Int → (List ByteArray) → Option ByteArray) (q4 : Int) (q5 : List ByteArray) : Option ByteArray :=
  (bif (decide (q4 < (a1.length : Int))) then (bif (decide (0 ≤ q4) && decide (q4 < (a1.length : Int))) then (f33G K (a1.getD ((0 : Int) + q4).toNat (0 : Int))).bind fun y6 => (bif (Nat.ble (q5.length + [y6].length) (lim 16)) then L3 (w (q4 + (1 : Int))) (q5 ++ [y6]) else none) else none) else (f52G K q5 a0).bind fun y7 => some y7)
noncomputable def f47_l3 (K : Nat) (a0 : ByteArray) (a1 : List Int) (n : Nat) (q4 : Int) (q5 : List ByteArray) : Option ByteArray :=
  iter (X := Int × List ByteArray) (fun L x => (fun L3 => f47_b3 K a0 a1 L3 x.1 x.2) (fun v0 v1 => L (v0, v1))) n (q4, q5)
noncomputable def f47_fr3 (a0 : ByteArray) (a1 : List Int) (q4 : Int) (q5 : List ByteArray) : Fr := ⟨24, [(0, .v false [.str a0]), (1, .v false [.row 0]), (4, .v false [.str ByteArray.empty]), (5, .v false [.row 1]), (9, .v false [.row 0]), (10, .v false [.int .i64 (a1.length : Int)]), (11, .v false [.int .i64 q4])], [], [some ⟨2, (.int .i64), a1, .ro⟩, some ⟨9, .str, q5, .own⟩]⟩
noncomputable def f47_k3 (K : Nat) (a0 : ByteArray) (a1 : List Int) (lr : LR ByteArray) : Ex → Fr → Option ByteArray :=
  contC (f47E K) 1 lr f47C [1, 1, 0, 1, 0] (finK (f47E K) Tryd.f47 [(.ro, .str), (.ro, (.list 2 (.int .i64)))] [.str] (a0, a1, ()))
noncomputable def f47_g (K : Nat) (a0 : ByteArray) (a1 : List Int) (I3 : Int → (List ByteArray) → Option ByteArray) : Option ByteArray :=
  I3 (0 : Int) []
noncomputable def f47G (K : Nat) (a0 : ByteArray) (a1 : List Int) : Option ByteArray :=
  f47_g K a0 a1 (fun d0 d1 => f47_l3 K a0 a1 K d0 d1)
noncomputable def f47M (K : Nat) : Mdl := ⟨[(.ro, .str), (.ro, (.list 2 (.int .i64)))], [.str], fun x => f47G K x.1 x.2.1⟩
/-! impl.VecText -/
noncomputable def f32E (K : Nat) : Env := ⟨[(46, f46M K), (47, f47M K)], tys, eqs, mts, K, [0, 1, 2, 5], [], []⟩
noncomputable def f32G (K : Nat) (a0 : Int × Int) : Option ByteArray :=
  (f46G K a0).bind fun y1 => (bif (!y1) then some ByteArray.empty else (f47G K (bs [44]) [a0.1, a0.2]).bind fun y2 => some y2)
noncomputable def f32M (K : Nat) : Mdl := ⟨[(.ro, (.cons (.int .i64) (.int .i64)))], [.str], fun x => f32G K x.1⟩
/-! impl.markLines -/
noncomputable def f17C : Code := codeOf Tryd.f17
noncomputable def f17E (K : Nat) : Env := ⟨[(31, f31M K), (32, f32M K), (33, f33M K)], tys, eqs, mts, K, [0, 1, 2, 4, 5, 6, 7, 9, 10, 11, 12, 13, 14, 21, 36], [], []⟩
noncomputable def f17_b5 (K : Nat) (a0 : Int × (Int × Int × Int) × List Int) (a1 : List (Int × Int)) (L5 : ByteArray → Int → Int → Option (ByteArray × Int)) (q6 : ByteArray) (q7 : Int) (q8 : Int) : Option (ByteArray × Int) :=
  (bif (decide (q8 < (a1.length : Int))) then (bif (decide (0 ≤ q8) && decide (q8 < (a1.length : Int))) then (f31G K a0 (a1.getD ((0 : Int) + q8).toNat ((0 : Int), (0 : Int)))).bind fun y9 => (bif (y9 != (0 : Int)) then (f32G K (a1.getD ((0 : Int) + q8).toNat ((0 : Int), (0 : Int)))).bind fun y10 => (bif (Nat.ble ((bs [109, 97, 114, 107, 32]).size + y10.size) 9223372036854775807) then (bif (Nat.ble (((bs [109, 97, 114, 107, 32]) ++ y10).size + (bs [32]).size) 9223372036854775807) then (f33G K y9).bind fun y11 => (bif (Nat.ble ((((bs [109, 97, 114, 107, 32]) ++ y10) ++ (bs [32])).size + y11.size) 9223372036854775807) then (bif (Nat.ble (((((bs [109, 97, 114, 107, 32]) ++ y10) ++ (bs [32])) ++ y11).size + (bs [10]).size) 9223372036854775807) then (bif (Nat.ble (q6.size + (((((bs [109, 97, 114, 107, 32]) ++ y10) ++ (bs [32])) ++ y11) ++ (bs [10])).size) 9223372036854775807) then L5 (q6 ++ (((((bs [109, 97, 114, 107, 32]) ++ y10) ++ (bs [32])) ++ y11) ++ (bs [10]))) (w (q7 + (1 : Int))) (w (q8 + (1 : Int))) else none) else none) else none) else none) else none) else L5 q6 q7 (w (q8 + (1 : Int)))) else none) else (bif (decide (q7 > (40 : Int))) then some (ByteArray.empty, (3 : Int)) else some (q6, (0 : Int))))
noncomputable def f17_l5 (K : Nat) (a0 : Int × (Int × Int × Int) × List Int) (a1 : List (Int × Int)) (n : Nat) (q6 : ByteArray) (q7 : Int) (q8 : Int) : Option (ByteArray × Int) :=
  iter (X := ByteArray × Int × Int) (fun L x => (fun L5 => f17_b5 K a0 a1 L5 x.1 x.2.1 x.2.2) (fun v0 v1 v2 => L (v0, v1, v2))) n (q6, q7, q8)
noncomputable def f17_fr5 (a0 : Int × (Int × Int × Int) × List Int) (a1 : List (Int × Int)) (q6 : ByteArray) (q7 : Int) (q8 : Int) : Fr := ⟨38, [(0, .v true [.int .i64 a0.1, .int .i64 a0.2.1.1, .int .i64 a0.2.1.2.1, .int .i64 a0.2.1.2.2, .row 0]), (1, .v false [.row 1]), (2, .v false [.box 0 0]), (4, .v false [.str ByteArray.empty]), (5, .v false [.int .i64 (0 : Int)]), (6, .v false [.str q6]), (7, .v false [.int .i64 q7]), (11, .v false [.row 1]), (12, .v false [.int .i64 (a1.length : Int)]), (13, .v false [.int .i64 q8])], [some ⟨true, [.int .i64 a0.1, .int .i64 a0.2.1.1, .int .i64 a0.2.1.2.1, .int .i64 a0.2.1.2.2, .row 0]⟩], [some ⟨2, (.int .i64), a0.2.2, .ro⟩, some ⟨43, (.cons (.int .i64) (.int .i64)), a1, .ro⟩]⟩
noncomputable def f17_k5 (K : Nat) (a0 : Int × (Int × Int × Int) × List Int) (a1 : List (Int × Int)) (lr : LR (ByteArray × Int)) : Ex → Fr → Option (ByteArray × Int) :=
  contC (f17E K) 2 lr f17C [1, 1, 0, 1, 0] (finK (f17E K) Tryd.f17 [(.ro, (.cons (.int .i64) (.cons (.cons (.int .i64) (.cons (.int .i64) (.int .i64))) (.list 2 (.int .i64))))), (.ro, (.list 43 (.cons (.int .i64) (.int .i64))))] [.str, (.int .i64)] (a0, a1, ()))
noncomputable def f17_g (K : Nat) (a0 : Int × (Int × Int × Int) × List Int) (a1 : List (Int × Int)) (I5 : ByteArray → Int → Int → Option (ByteArray × Int)) : Option (ByteArray × Int) :=
  I5 ByteArray.empty (0 : Int) (0 : Int)
noncomputable def f17G (K : Nat) (a0 : Int × (Int × Int × Int) × List Int) (a1 : List (Int × Int)) : Option (ByteArray × Int) :=
  f17_g K a0 a1 (fun d0 d1 d2 => f17_l5 K a0 a1 K d0 d1 d2)
noncomputable def f17M (K : Nat) : Mdl := ⟨[(.ro, (.cons (.int .i64) (.cons (.cons (.int .i64) (.cons (.int .i64) (.int .i64))) (.list 2 (.int .i64))))), (.ro, (.list 43 (.cons (.int .i64) (.int .i64))))], [.str, (.int .i64)], fun x => f17G K x.1 x.2.1⟩
/-! impl.LatticeText -/
noncomputable def f34E (K : Nat) : Env := ⟨[(28, f28M K), (47, f47M K)], tys, eqs, mts, K, [0, 1, 2, 5], [], []⟩
noncomputable def f34G (K : Nat) (a0 : Int × Int × Int) : Option ByteArray :=
  (f28G K a0).bind fun y1 => (bif (!y1) then some ByteArray.empty else (f47G K (bs [44]) [a0.1, a0.2.1, a0.2.2]).bind fun y2 => some y2)
noncomputable def f34M (K : Nat) : Mdl := ⟨[(.ro, (.cons (.int .i64) (.cons (.int .i64) (.int .i64))))], [.str], fun x => f34G K x.1⟩
/-! impl.firstLines -/
noncomputable def f19E (K : Nat) : Env := ⟨[(34, f34M K)], tys, eqs, mts, K, [0, 1, 2], [], []⟩
noncomputable def f19G (K : Nat) (a0 : Int × (Int × Int × Int) × List Int) : Option ByteArray :=
  (bif (decide (0 ≤ a0.1) && decide (a0.1 ≤ (w (a0.1 + (1 : Int)))) && decide ((w (a0.1 + (1 : Int))) ≤ ((bs [83, 72]).size : Int))) then (bif (Nat.ble ((bs [102, 114, 97, 109, 101, 32]).size + ((bs [83, 72]).extract a0.1.toNat (w (a0.1 + (1 : Int))).toNat).size) 9223372036854775807) then (bif (Nat.ble (((bs [102, 114, 97, 109, 101, 32]) ++ ((bs [83, 72]).extract a0.1.toNat (w (a0.1 + (1 : Int))).toNat)).size + (bs [10, 108, 97, 116, 116, 105, 99, 101, 32]).size) 9223372036854775807) then (f34G K a0.2.1).bind fun y1 => (bif (Nat.ble ((((bs [102, 114, 97, 109, 101, 32]) ++ ((bs [83, 72]).extract a0.1.toNat (w (a0.1 + (1 : Int))).toNat)) ++ (bs [10, 108, 97, 116, 116, 105, 99, 101, 32])).size + y1.size) 9223372036854775807) then (bif (Nat.ble (((((bs [102, 114, 97, 109, 101, 32]) ++ ((bs [83, 72]).extract a0.1.toNat (w (a0.1 + (1 : Int))).toNat)) ++ (bs [10, 108, 97, 116, 116, 105, 99, 101, 32])) ++ y1).size + (bs [10]).size) 9223372036854775807) then some (((((bs [102, 114, 97, 109, 101, 32]) ++ ((bs [83, 72]).extract a0.1.toNat (w (a0.1 + (1 : Int))).toNat)) ++ (bs [10, 108, 97, 116, 116, 105, 99, 101, 32])) ++ y1) ++ (bs [10])) else none) else none) else none) else none) else none)
noncomputable def f19M (K : Nat) : Mdl := ⟨[(.ro, (.cons (.int .i64) (.cons (.cons (.int .i64) (.cons (.int .i64) (.int .i64))) (.list 2 (.int .i64)))))], [.str], fun x => f19G K x.1⟩
/-! impl.PrintProgram -/
noncomputable def f7E (K : Nat) : Env := ⟨[(16, f16M K), (17, f17M K), (18, f18M K), (19, f19M K)], tys, eqs, mts, K, [0, 1, 2, 3, 4, 5, 8, 18], [], []⟩
noncomputable def f7G (K : Nat) (a0 : Int × (Int × Int × Int) × List Int) : Option (ByteArray × Int) :=
  (f16G K a0).bind fun y1 => (bif (!y1) then some (ByteArray.empty, (1 : Int)) else (f18G K a0.2.1).bind fun y2 => (f17G K a0 y2).bind fun y3 => (bif (y3.2 != (0 : Int)) then some (ByteArray.empty, y3.2) else (f19G K a0).bind fun y4 => (bif (Nat.ble (y4.size + y3.1.size) 9223372036854775807) then some ((y4 ++ y3.1), (0 : Int)) else none)))
noncomputable def f7M (K : Nat) : Mdl := ⟨[(.ro, (.cons (.int .i64) (.cons (.cons (.int .i64) (.cons (.int .i64) (.int .i64))) (.list 2 (.int .i64)))))], [.str, (.int .i64)], fun x => f7G K x.1⟩
/-! laws.eqLattice -/
noncomputable def f20E (K : Nat) : Env := ⟨[], tys, eqs, mts, K, [0, 1, 2, 3, 4, 9, 14, 19], [], []⟩
noncomputable def f20G (K : Nat) (a0 : Int × Int × Int) (a1 : Int × Int × Int) : Option Bool :=
  (bif (a0.1 != a1.1) then some false else (bif (a0.2.1 != a1.2.1) then some false else (bif (a0.2.2 != a1.2.2) then some false else some true)))
noncomputable def f20M (K : Nat) : Mdl := ⟨[(.ro, (.cons (.int .i64) (.cons (.int .i64) (.int .i64)))), (.ro, (.cons (.int .i64) (.cons (.int .i64) (.int .i64))))], [.bool], fun x => f20G K x.1 x.2.1⟩
/-! laws.eqInt64S -/
noncomputable def f21C : Code := codeOf Tryd.f21
noncomputable def f21E (K : Nat) : Env := ⟨[], tys, eqs, mts, K, [0, 1, 4, 5, 10, 14, 25], [], []⟩
noncomputable def f21_b2 (K : Nat) (a0 : List Int) (a1 : List Int) (L2 : Int → Option Bool) (q3 : Int) : Option Bool :=
  (bif (decide (q3 < (a0.length : Int))) then (bif (decide (0 ≤ q3) && decide (q3 < (a0.length : Int))) then (bif (decide (0 ≤ q3) && decide (q3 < (a1.length : Int))) then (bif ((a0.getD ((0 : Int) + q3).toNat (0 : Int)) != (a1.getD ((0 : Int) + q3).toNat (0 : Int))) then some false else L2 (w (q3 + (1 : Int)))) else none) else none) else some true)
noncomputable def f21_l2 (K : Nat) (a0 : List Int) (a1 : List Int) (n : Nat) (q3 : Int) : Option Bool :=
  iter (X := Int) (fun L x => (fun L2 => f21_b2 K a0 a1 L2 x) (fun v0 => L v0)) n q3
noncomputable def f21_fr2 (a0 : List Int) (a1 : List Int) (q3 : Int) : Fr := ⟨26, [(0, .v false [.row 0]), (1, .v false [.row 1]), (4, .v false [.bool false]), (5, .v false [.int .i64 q3]), (10, .v false [.bool ((a0.length : Int) != (a1.length : Int))])], [], [some ⟨2, (.int .i64), a0, .ro⟩, some ⟨2, (.int .i64), a1, .ro⟩]⟩
noncomputable def f21_k2 (K : Nat) (a0 : List Int) (a1 : List Int) (lr : LR Bool) : Ex → Fr → Option Bool :=
  contC (f21E K) 2 lr f21C [1, 1, 0, 1, 0] (finK (f21E K) Tryd.f21 [(.ro, (.list 2 (.int .i64))), (.ro, (.list 2 (.int .i64)))] [.bool] (a0, a1, ()))
noncomputable def f21_g (K : Nat) (a0 : List Int) (a1 : List Int) (I2 : Int → Option Bool) : Option Bool :=
  (bif ((a0.length : Int) != (a1.length : Int)) then some false else I2 (0 : Int))
noncomputable def f21G (K : Nat) (a0 : List Int) (a1 : List Int) : Option Bool :=
  f21_g K a0 a1 (fun d0 => f21_l2 K a0 a1 K d0)
noncomputable def f21M (K : Nat) : Mdl := ⟨[(.ro, (.list 2 (.int .i64))), (.ro, (.list 2 (.int .i64)))], [.bool], fun x => f21G K x.1 x.2.1⟩
/-! laws.eqPattern -/
noncomputable def f8E (K : Nat) : Env := ⟨[(20, f20M K), (21, f21M K)], tys, eqs, mts, K, [0, 1, 2, 3, 4, 9, 15, 21], [], []⟩
noncomputable def f8G (K : Nat) (a0 : Int × (Int × Int × Int) × List Int) (a1 : Int × (Int × Int × Int) × List Int) : Option Bool :=
  (bif (a0.1 != a1.1) then some false else (f20G K a0.2.1 a1.2.1).bind fun y1 => (bif (!y1) then some false else (f21G K a0.2.2 a1.2.2).bind fun y2 => (bif (!y2) then some false else some true)))
noncomputable def f8M (K : Nat) : Mdl := ⟨[(.ro, (.cons (.int .i64) (.cons (.cons (.int .i64) (.cons (.int .i64) (.int .i64))) (.list 2 (.int .i64))))), (.ro, (.cons (.int .i64) (.cons (.cons (.int .i64) (.cons (.int .i64) (.int .i64))) (.list 2 (.int .i64)))))], [.bool], fun x => f8G K x.1 x.2.1⟩
/-! laws.FnExactPrintProgram -/
noncomputable def f3E (K : Nat) : Env := ⟨[(4, f4M K), (5, f5M K), (6, f6M K), (7, f7M K), (8, f8M K)], tys, eqs, mts, K, [0, 1, 2, 3, 4, 5, 6, 7, 8, 13, 34, 39], [], []⟩
noncomputable def f3G (K : Nat) (a0 : Int × (Int × Int × Int) × List Int) : Option Bool :=
  (f4G K a0 (1048576 : Int)).bind fun y1 => (bif (decide (y1 < (0 : Int))) then some true else (f6G K a0).bind fun y2 => (f5G K y2).bind fun y3 => (f6G K a0).bind fun y4 => (f7G K y4).bind fun y5 => (bif ((!(!(y5.1 != y3.1))) || true) then (bif ((!(!(y5.1 != y3.1))) || true) then (bif ((!(!(y5.1 != y3.1))) || true) then (bif (bif (y5.1 != y3.1) then true else (y5.2 != y3.2)) then some false else (f6G K a0).bind fun y6 => (f8G K y4 y6).bind fun y7 => (bif (!y7) then some false else some true)) else none) else none) else none))
noncomputable def f3M (K : Nat) : Mdl := ⟨[(.ro, (.cons (.int .i64) (.cons (.cons (.int .i64) (.cons (.int .i64) (.int .i64))) (.list 2 (.int .i64)))))], [.bool], fun x => f3G K x.1⟩
end Go.Proofs.YtnbghfbpidalhaaDoor.X
