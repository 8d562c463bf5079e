/- Functions of the program as plain Lean functions, and that the program does what they say. Printed by gen.py. -/
import Derived.Test.YtfccacobkcglcaaGreatXLoop
import Derived.Test.YtfccacobkcglcaaGreatXLib
import Derived.Test.YtfccacobkcglcaaGreatProg
namespace Go.Proofs.YtfccacobkcglcaaGreat.X
open Go
set_option maxRecDepth 100000
set_option linter.unusedVariables false
abbrev tM : Type := ((Int × Int × Int × Int) × Int × Int)
abbrev tA : Type := (Int × Int × Int × Int)
abbrev tL : Type := (Int × Int × Int)
abbrev tV : Type := (Int × Int)
abbrev sM : Sh := (.cons (.cons (.int .i64) (.cons (.int .i64) (.cons (.int .i64) (.int .i64)))) (.cons (.int .i64) (.int .i64)))
abbrev sA : Sh := (.cons (.int .i64) (.cons (.int .i64) (.cons (.int .i64) (.int .i64))))
abbrev sL : Sh := (.cons (.int .i64) (.cons (.int .i64) (.int .i64)))
abbrev sV : Sh := (.cons (.int .i64) (.int .i64))
abbrev sI : Sh := (.int .i64)
abbrev zM : tM := (((0 : Int), ((0 : Int), ((0 : Int), (0 : Int)))), ((0 : Int), (0 : Int)))
abbrev zA : tA := ((0 : Int), ((0 : Int), ((0 : Int), (0 : Int))))
noncomputable section
def tys : List (Nat × Ty) := [(2, .sc sI), (3, .sc sI), (4, .sc .bool), (9, .sc .str), (26, .sl 149 (.cons sV sI) 24), (31, .st sL [(0, 1), (1, 1), (2, 1)]), (32, .sl 2 sI 8), (34, .st (.cons sI (.cons sL (.list 2 sI))) [(0, 1), (1, 3), (4, 1)]), (43, .st sL [(0, 1), (1, 1), (2, 1)]), (45, .st (.cons sI (.cons sL (.list 2 sI))) [(0, 1), (1, 3), (4, 1)]), (64, .sl 84 (.list 79 sV) 24), (68, .sl 95 sM 48), (79, .st sV [(0, 1), (1, 1)]), (84, .sl 79 sV 16), (93, .st sA [(0, 1), (1, 1), (2, 1), (3, 1)]), (95, .st sM [(0, 4), (4, 2)]), (149, .st (.cons sV sI) [(0, 2), (2, 1)]), (252, .sl 26 (.list 149 (.cons sV sI)) 24), (269, .sc (.int .u64))]
def eqs : List (Nat × List Sh) := [(31, [sI, sI, sI]), (79, [sI, sI]), (93, [sI, sI, sI, sI]), (95, [sI, sI, sI, sI, sI, sI])]
def mts : List (Nat × MTy) := [(300, ⟨95, 4, sM, .bool⟩)]
theorem tab_ok : tabB Tryz.prog tys eqs mts = true := by kernel_rfl
theorem mixed_ok : Tryz.prog.follows .mixedOrders = true := by kernel_rfl
def f132E (K : Nat) : Env := ⟨[], tys, eqs, mts, K, [0, 1, 4, 10], [], []⟩
def f132G (K : Nat) (a0 : List Int) (a1 : Int) : Option Int :=
  (bif (decide ((w (a1 - (a0.length : Int))) < (0 : Int))) then some (-1 : Int) else some (w (a1 - (a0.length : Int))))
def f132M (K : Nat) : Mdl := ⟨[(.ro, (.list 2 sI)), (.ro, sI)], [sI], fun x => f132G K x.1 x.2.1⟩
def f29E (K : Nat) : Env := ⟨[(132, f132M K)], tys, eqs, mts, K, [0, 1, 2, 4, 10], [], []⟩
def f29G (K : Nat) (a0 : Int × tL × List Int) (a1 : Int) : Option Int :=
  (f132G K a0.2.2 a1).bind fun y1 => (bif (decide (y1 < (0 : Int))) then some (-1 : Int) else some y1)
def f29M (K : Nat) : Mdl := ⟨[(.ro, (.cons sI (.cons sL (.list 2 sI)))), (.ro, sI)], [sI], fun x => f29G K x.1 x.2.1⟩
def f44E (K : Nat) : Env := ⟨[], tys, eqs, mts, K, [0, 1, 2, 3], [], []⟩
def f44G (K : Nat) (a0 : Int × Int × Int) : Option tL :=
  some a0
def f44M (K : Nat) : Mdl := ⟨[(.ro, sL)], [sL], fun x => f44G K x.1⟩
def f137C : Code := codeOf Tryz.f137
def f137E (K : Nat) : Env := ⟨[], tys, eqs, mts, K, [0, 2, 3, 4, 11], [], []⟩
def f137_b2 (K : Nat) (a0 : List Int) (L2 : Int → (List Int) → Option (List Int)) (q3 : Int) (q4 : List Int) : Option (List Int) :=
  (bif (decide (q3 < (a0.length : Int))) then (bif (decide (0 ≤ q3) && decide (q3 < (a0.length : Int))) then (bif (decide (0 ≤ q3) && decide (q3 < (q4.length : Int))) then L2 (w (q3 + (1 : Int))) (q4.set ((0 : Int) + q3).toNat (a0.getD ((0 : Int) + q3).toNat (0 : Int))) else none) else none) else some q4)
def f137_l2 (K : Nat) (a0 : List Int) (n : Nat) (q3 : Int) (q4 : List Int) : Option (List Int) :=
  iter (X := Int × List Int) (fun L x => (fun L2 => f137_b2 K a0 L2 x.1 x.2) (fun v0 v1 => L (v0, v1))) n (q3, q4)
def f137_fr2 (a0 : List Int) (q3 : Int) (q4 : List Int) : Fr := ⟨22, [(0, .v false [.row 0]), (2, .v false [.row 1]), (3, .v false [.row 2]), (4, .v false [.int .i64 q3])], [], [some ⟨2, sI, a0, .ro⟩, some ⟨2, sI, [], .own⟩, some ⟨2, sI, q4, .own⟩]⟩
def f137_k2 (K : Nat) (a0 : List Int) (lr : LR (List Int)) : Ex → Fr → Option (List Int) :=
  contC (f137E K) 1 lr f137C [1, 1, 0, 1, 0] (finK (f137E K) Tryz.f137 [(.ro, (.list 2 sI))] [(.list 2 sI)] (a0, ()))
def f137_g (K : Nat) (a0 : List Int) (I2 : Int → (List Int) → Option (List Int)) : Option (List Int) :=
  (bif (decide (0 ≤ (a0.length : Int)) && Nat.ble (a0.length : Int).toNat (lim 8) && ((a0.length : Int) == (a0.length : Int))) then I2 (0 : Int) (List.replicate (a0.length : Int).toNat (0 : Int)) else none)
def f137G (K : Nat) (a0 : List Int) : Option (List Int) :=
  f137_g K a0 (fun d0 d1 => f137_l2 K a0 K d0 d1)
def f137M (K : Nat) : Mdl := ⟨[(.ro, (.list 2 sI))], [(.list 2 sI)], fun x => f137G K x.1⟩
def f31E (K : Nat) : Env := ⟨[(44, f44M K), (137, f137M K)], tys, eqs, mts, K, [0, 1, 2, 3], [], []⟩
def f31G (K : Nat) (a0 : Int × tL × List Int) : Option (Int × tL × List Int) :=
  (f44G K a0.2.1).bind fun y1 => (f137G K a0.2.2).bind fun y2 => some (a0.1, y1, y2)
def f31M (K : Nat) : Mdl := ⟨[(.ro, (.cons sI (.cons sL (.list 2 sI))))], [(.cons sI (.cons sL (.list 2 sI)))], fun x => f31G K x.1⟩
def f252E (K : Nat) : Env := ⟨[], tys, eqs, mts, K, [0, 1, 4, 5, 6, 7, 8, 9, 10, 11, 12, 13, 14, 38, 39, 41, 45, 49, 53, 57, 62, 67, 72, 77, 81, 86, 91, 95, 100, 106, 110], [], []⟩
def f252G (K : Nat) (a0 : ByteArray) (a1 : Int) : Option (Int × (List tM) × Bool) :=
  (bif (a0 == (bs [112, 49])) then some ((0 : Int), [], true) else (bif (a0 == (bs [112, 50])) then some ((0 : Int), [(((-1 : Int), (0 : Int), (0 : Int), (-1 : Int)), (0 : Int), (0 : Int))], true) else (bif (a0 == (bs [112, 109])) then some ((0 : Int), [(((1 : Int), (0 : Int), (0 : Int), (-1 : Int)), (0 : Int), (0 : Int))], true) else (bif (a0 == (bs [112, 103])) then some ((0 : Int), [(((1 : Int), (0 : Int), (0 : Int), (-1 : Int)), a1, (0 : Int))], true) else (bif (a0 == (bs [99, 109])) then some ((0 : Int), [(((0 : Int), (1 : Int), (1 : Int), (0 : Int)), (0 : Int), (0 : Int))], true) else (bif (a0 == (bs [112, 109, 109])) then some ((0 : Int), [(((1 : Int), (0 : Int), (0 : Int), (-1 : Int)), (0 : Int), (0 : Int)), (((-1 : Int), (0 : Int), (0 : Int), (-1 : Int)), (0 : Int), (0 : Int))], true) else (bif (a0 == (bs [112, 109, 103])) then some ((0 : Int), [(((1 : Int), (0 : Int), (0 : Int), (-1 : Int)), a1, (0 : Int)), (((-1 : Int), (0 : Int), (0 : Int), (-1 : Int)), (0 : Int), (0 : Int))], true) else (bif (a0 == (bs [112, 103, 103])) then some ((0 : Int), [(((1 : Int), (0 : Int), (0 : Int), (-1 : Int)), a1, a1), (((-1 : Int), (0 : Int), (0 : Int), (-1 : Int)), (0 : Int), (0 : Int))], true) else (bif (a0 == (bs [99, 109, 109])) then some ((0 : Int), [(((0 : Int), (1 : Int), (1 : Int), (0 : Int)), (0 : Int), (0 : Int)), (((-1 : Int), (0 : Int), (0 : Int), (-1 : Int)), (0 : Int), (0 : Int))], true) else (bif (a0 == (bs [112, 52])) then some ((0 : Int), [(((0 : Int), (-1 : Int), (1 : Int), (0 : Int)), (0 : Int), (0 : Int))], true) else (bif (a0 == (bs [112, 52, 109])) then some ((0 : Int), [(((0 : Int), (-1 : Int), (1 : Int), (0 : Int)), (0 : Int), (0 : Int)), (((1 : Int), (0 : Int), (0 : Int), (-1 : Int)), (0 : Int), (0 : Int))], true) else (bif (a0 == (bs [112, 52, 103])) then some ((0 : Int), [(((0 : Int), (-1 : Int), (1 : Int), (0 : Int)), (0 : Int), (0 : Int)), (((1 : Int), (0 : Int), (0 : Int), (-1 : Int)), a1, a1)], true) else (bif (a0 == (bs [112, 51])) then some ((1 : Int), [(((-1 : Int), (-1 : Int), (1 : Int), (0 : Int)), (0 : Int), (0 : Int))], true) else (bif (a0 == (bs [112, 51, 109, 49])) then some ((1 : Int), [(((-1 : Int), (-1 : Int), (1 : Int), (0 : Int)), (0 : Int), (0 : Int)), (((0 : Int), (1 : Int), (1 : Int), (0 : Int)), (0 : Int), (0 : Int))], true) else (bif (a0 == (bs [112, 51, 49, 109])) then some ((1 : Int), [(((-1 : Int), (-1 : Int), (1 : Int), (0 : Int)), (0 : Int), (0 : Int)), (((1 : Int), (1 : Int), (0 : Int), (-1 : Int)), (0 : Int), (0 : Int))], true) else (bif (a0 == (bs [112, 54])) then some ((1 : Int), [(((0 : Int), (-1 : Int), (1 : Int), (1 : Int)), (0 : Int), (0 : Int))], true) else (bif (a0 == (bs [112, 54, 109])) then some ((1 : Int), [(((0 : Int), (-1 : Int), (1 : Int), (1 : Int)), (0 : Int), (0 : Int)), (((0 : Int), (1 : Int), (1 : Int), (0 : Int)), (0 : Int), (0 : Int))], true) else some ((0 : Int), [], false))))))))))))))))))
def f252M (K : Nat) : Mdl := ⟨[(.ro, .str), (.ro, sI)], [sI, (.list 95 sM), .bool], fun x => f252G K x.1 x.2.1⟩
def f141E (K : Nat) : Env := ⟨[], tys, eqs, mts, K, [0, 1, 2, 6], [], []⟩
def f141G (K : Nat) (a0 a1 a2 : Int) : Option Bool :=
  (bif ((!(decide (a0 ≥ a1))) || true) then (bif ((!(decide (a0 ≥ a1))) || true) then (bif ((!(decide (a0 ≥ a1))) || true) then some (bif (decide (a0 ≥ a1)) then (decide (a0 ≤ a2)) else false) else none) else none) else none)
def f141M (K : Nat) : Mdl := ⟨[(.ro, sI), (.ro, sI), (.ro, sI)], [.bool], fun x => f141G K x.1 x.2.1 x.2.2.1⟩
def f233E (K : Nat) : Env := ⟨[], tys, eqs, mts, K, [0], [], []⟩
def f233G (K : Nat) : Option tA :=
  some ((1 : Int), (0 : Int), (0 : Int), (1 : Int))
def f233M (K : Nat) : Mdl := ⟨[], [sA], fun x => f233G K ⟩
def f306E (K : Nat) : Env := ⟨[(233, f233M K)], tys, eqs, mts, K, [0], [], []⟩
def f306G (K : Nat) : Option tM :=
  (f233G K).bind fun y1 => some (y1, (0 : Int), (0 : Int))
def f306M (K : Nat) : Mdl := ⟨[], [sM], fun x => f306G K ⟩
def f351E (K : Nat) : Env := ⟨[], tys, eqs, mts, K, [0, 1, 2, 3, 4], [], []⟩
def f351G (K : Nat) (a0 a1 : Int × Int × Int × Int) : Option tA :=
  some ((w ((w (a0.1 * a1.1)) + (w (a0.2.1 * a1.2.2.1)))), (w ((w (a0.1 * a1.2.1)) + (w (a0.2.1 * a1.2.2.2)))), (w ((w (a0.2.2.1 * a1.1)) + (w (a0.2.2.2 * a1.2.2.1)))), (w ((w (a0.2.2.1 * a1.2.1)) + (w (a0.2.2.2 * a1.2.2.2)))))
def f351M (K : Nat) : Mdl := ⟨[(.ro, sA), (.ro, sA)], [sA], fun x => f351G K x.1 x.2.1⟩
def f341E (K : Nat) : Env := ⟨[], tys, eqs, mts, K, [0, 1, 2, 3, 4], [], []⟩
def f341G (K : Nat) (a0 : Int × Int × Int × Int) (a1 : Int × Int) : Option tV :=
  some ((w ((w (a0.1 * a1.1)) + (w (a0.2.1 * a1.2)))), (w ((w (a0.2.2.1 * a1.1)) + (w (a0.2.2.2 * a1.2)))))
def f341M (K : Nat) : Mdl := ⟨[(.ro, sA), (.ro, sV)], [sV], fun x => f341G K x.1 x.2.1⟩
def f340E (K : Nat) : Env := ⟨[], tys, eqs, mts, K, [0, 1, 2, 3, 4], [], []⟩
def f340G (K : Nat) (a0 a1 : Int × Int) : Option tV :=
  some ((w (a0.1 + a1.1)), (w (a0.2 + a1.2)))
def f340M (K : Nat) : Mdl := ⟨[(.ro, sV), (.ro, sV)], [sV], fun x => f340G K x.1 x.2.1⟩
def f307E (K : Nat) : Env := ⟨[(340, f340M K), (341, f341M K), (351, f351M K)], tys, eqs, mts, K, [0, 1, 2, 3, 4], [], []⟩
def f307G (K : Nat) (a0 a1 : tA × Int × Int) : Option tM :=
  (f351G K a0.1 a1.1).bind fun y1 => (f341G K a0.1 a1.2).bind fun y2 => (f340G K y2 a0.2).bind fun y3 => some (y1, y3)
def f307M (K : Nat) : Mdl := ⟨[(.ro, sM), (.ro, sM)], [sM], fun x => f307G K x.1 x.2.1⟩
def f255E (K : Nat) : Env := ⟨[], tys, eqs, mts, K, [0, 1, 4, 9], [], []⟩
def f255G (K : Nat) (a0 a1 : Int) : Option Int :=
  (bif (a1 != 0) then (bif (decide ((a0.tmod a1) < (0 : Int))) then some (w ((a0.tmod a1) + a1)) else some (a0.tmod a1)) else none)
def f255M (K : Nat) : Mdl := ⟨[(.ro, sI), (.ro, sI)], [sI], fun x => f255G K x.1 x.2.1⟩
def f153E (K : Nat) : Env := ⟨[(255, f255M K)], tys, eqs, mts, K, [0, 1, 2, 3, 4, 5, 6], [], []⟩
def f153G (K : Nat) (a0 : Int × Int × Int) (a1 : Int × Int) : Option tV :=
  (f255G K a1.2 a0.2.2).bind fun y1 => (bif (a0.2.2 != 0) then (f255G K (w (a1.1 - (w ((w ((w (a1.2 - y1)).tdiv a0.2.2)) * a0.2.1)))) a0.1).bind fun y2 => some (y2, y1) else none)
def f153M (K : Nat) : Mdl := ⟨[(.ro, sL), (.ro, sV)], [sV], fun x => f153G K x.1 x.2.1⟩
def f303E (K : Nat) : Env := ⟨[(153, f153M K)], tys, eqs, mts, K, [0, 1, 2, 3, 4], [], []⟩
def f303G (K : Nat) (a0 : Int × Int × Int) (a1 : tA × Int × Int) : Option tM :=
  (f153G K a0 a1.2).bind fun y1 => some (a1.1, y1)
def f303M (K : Nat) : Mdl := ⟨[(.ro, sL), (.ro, sM)], [sM], fun x => f303G K x.1 x.2.1⟩
def f398E (K : Nat) : Env := ⟨[], tys, eqs, mts, K, [0, 1, 2], [], []⟩
def f398G (K : Nat) (a0 : Int × Int × Int × Int) : Option (List Int) :=
  some [a0.1, a0.2.1, a0.2.2.1, a0.2.2.2]
def f398M (K : Nat) : Mdl := ⟨[(.ro, sA)], [(.list 2 sI)], fun x => f398G K x.1⟩
def f397C : Code := codeOf Tryz.f397
def f397E (K : Nat) : Env := ⟨[], tys, eqs, mts, K, [0, 1, 4, 5, 15, 26], [], []⟩
def f397_b2 (K : Nat) (a0 a1 : List Int) (L2 : Int → Option Bool) (q3 : Int) : Option Bool :=
  (bif ((!(decide (q3 < (a0.length : Int)))) || true) then (bif ((!(decide (q3 < (a0.length : Int)))) || true) then (bif ((!(decide (q3 < (a0.length : Int)))) || true) then (bif ((!(decide (q3 < (a0.length : Int)))) || true) then (bif (bif (decide (q3 < (a0.length : Int))) then (decide (q3 < (a1.length : Int))) else false) then (bif (decide (0 ≤ q3) && decide (q3 < (a0.length : Int))) then (bif (decide (0 ≤ q3) && decide (q3 < (a1.length : Int))) then (bif ((a0.getD ((0 : Int) + q3).toNat (0 : Int)) != (a1.getD ((0 : Int) + q3).toNat (0 : Int))) then (bif (decide (0 ≤ q3) && decide (q3 < (a0.length : Int))) then (bif (decide (0 ≤ q3) && decide (q3 < (a1.length : Int))) then some (decide ((a0.getD ((0 : Int) + q3).toNat (0 : Int)) < (a1.getD ((0 : Int) + q3).toNat (0 : Int)))) else none) else none) else L2 (w (q3 + (1 : Int)))) else none) else none) else some (decide ((a0.length : Int) < (a1.length : Int)))) else none) else none) else none) else none)
def f397_l2 (K : Nat) (a0 a1 : List Int) (n : Nat) (q3 : Int) : Option Bool :=
  iter (X := Int) (fun L x => (fun L2 => f397_b2 K a0 a1 L2 x) (fun v0 => L v0)) n q3
def f397_fr2 (a0 a1 : List Int) (q3 : Int) : Fr := ⟨41, [(0, .v false [.row 0]), (1, .v false [.row 1]), (4, .v false [.bool false]), (5, .v false [.int .i64 q3])], [], [some ⟨2, sI, a0, .ro⟩, some ⟨2, sI, a1, .ro⟩]⟩
def f397_k2 (K : Nat) (a0 a1 : List Int) (lr : LR Bool) : Ex → Fr → Option Bool :=
  contC (f397E K) 2 lr f397C [1, 0, 1, 0] (finK (f397E K) Tryz.f397 [(.ro, (.list 2 sI)), (.ro, (.list 2 sI))] [.bool] (a0, a1, ()))
def f397_g (K : Nat) (a0 a1 : List Int) (I2 : Int → Option Bool) : Option Bool :=
  I2 (0 : Int)
def f397G (K : Nat) (a0 a1 : List Int) : Option Bool :=
  f397_g K a0 a1 (fun d0 => f397_l2 K a0 a1 K d0)
def f397M (K : Nat) : Mdl := ⟨[(.ro, (.list 2 sI)), (.ro, (.list 2 sI))], [.bool], fun x => f397G K x.1 x.2.1⟩
def f350E (K : Nat) : Env := ⟨[(397, f397M K), (398, f398M K)], tys, eqs, mts, K, [0, 1, 2, 3, 4], [], []⟩
def f350G (K : Nat) (a0 a1 : Int × Int × Int × Int) : Option Bool :=
  (f398G K a0).bind fun y1 => (f398G K a1).bind fun y2 => (f397G K y1 y2).bind fun y3 => some y3
def f350M (K : Nat) : Mdl := ⟨[(.ro, sA), (.ro, sA)], [.bool], fun x => f350G K x.1 x.2.1⟩
def f339E (K : Nat) : Env := ⟨[], tys, eqs, mts, K, [0, 1, 2, 3, 4], [], []⟩
def f339G (K : Nat) (a0 a1 : Int × Int) : Option Bool :=
  (bif ((!(!(decide (a0.1 < a1.1)))) || true) then (bif ((!(!(decide (a0.1 < a1.1)))) || true) then (bif ((!(!(decide (a0.1 < a1.1)))) || true) then (bif ((!(!(decide (a0.1 < a1.1)))) || true) then (bif ((!(!(decide (a0.1 < a1.1)))) || true) then (bif ((!(!(decide (a0.1 < a1.1)))) || true) then (bif ((!((!(decide (a0.1 < a1.1))) && (a0.1 == a1.1))) || true) then (bif ((!((!(decide (a0.1 < a1.1))) && (a0.1 == a1.1))) || true) then (bif ((!((!(decide (a0.1 < a1.1))) && (a0.1 == a1.1))) || true) then (bif ((!((!(decide (a0.1 < a1.1))) && (a0.1 == a1.1))) || true) then (bif ((!((!(decide (a0.1 < a1.1))) && (a0.1 == a1.1))) || true) then (bif ((!(!(decide (a0.1 < a1.1)))) || true) then some (bif (decide (a0.1 < a1.1)) then true else (bif (a0.1 == a1.1) then (decide (a0.2 < a1.2)) else false)) else none) else none) else none) else none) else none) else none) else none) else none) else none) else none) else none) else none)
def f339M (K : Nat) : Mdl := ⟨[(.ro, sV), (.ro, sV)], [.bool], fun x => f339G K x.1 x.2.1⟩
def f304E (K : Nat) : Env := ⟨[(339, f339M K), (350, f350M K)], tys, eqs, mts, K, [0, 1, 2, 3, 4, 9], [], []⟩
def f304G (K : Nat) (a0 a1 : tA × Int × Int) : Option Bool :=
  (bif (!((a0.1.1 == a1.1.1) && ((a0.1.2.1 == a1.1.2.1) && ((a0.1.2.2.1 == a1.1.2.2.1) && (a0.1.2.2.2 == a1.1.2.2.2))))) then (f350G K a0.1 a1.1).bind fun y1 => some y1 else (f339G K a0.2 a1.2).bind fun y2 => some y2)
def f304M (K : Nat) : Mdl := ⟨[(.ro, sM), (.ro, sM)], [.bool], fun x => f304G K x.1 x.2.1⟩
def f328C : Code := codeOf Tryz.f328
def f328E (K : Nat) : Env := ⟨[(304, f304M K)], tys, eqs, mts, K, [0, 1, 3, 4, 5, 6, 7, 12, 22], [], []⟩
def f328_b6 (K : Nat) (a0 : List tM) (a1 : tA × Int × Int) (L6 : Int → Int → Option Int) (q7 q8 : Int) : Option Int :=
  (bif (decide (q7 < q8)) then (bif (decide (0 ≤ (w ((w (q7 + q8)).tdiv (2 : Int)))) && decide ((w ((w (q7 + q8)).tdiv (2 : Int))) < (a0.length : Int))) then (f304G K ((((a0.getD ((0 : Int) + (w ((w (q7 + q8)).tdiv (2 : Int)))).toNat zM).1).1, (((a0.getD ((0 : Int) + (w ((w (q7 + q8)).tdiv (2 : Int)))).toNat zM).1).2).1, ((((a0.getD ((0 : Int) + (w ((w (q7 + q8)).tdiv (2 : Int)))).toNat zM).1).2).2)), ((a0.getD ((0 : Int) + (w ((w (q7 + q8)).tdiv (2 : Int)))).toNat zM).2)) a1).bind fun y9 => (bif y9 then L6 (w ((w ((w (q7 + q8)).tdiv (2 : Int))) + (1 : Int))) q8 else L6 q7 (w ((w (q7 + q8)).tdiv (2 : Int)))) else none) else some q7)
def f328_l6 (K : Nat) (a0 : List tM) (a1 : tA × Int × Int) (n : Nat) (q7 q8 : Int) : Option Int :=
  iter (X := Int × Int) (fun L x => (fun L6 => f328_b6 K a0 a1 L6 x.1 x.2) (fun v0 v1 => L (v0, v1))) n (q7, q8)
def f328_fr6 (a0 : List tM) (a1 : tA × Int × Int) (q7 q8 : Int) : Fr := ⟨27, [(0, .v false [.row 0]), (1, .v true [.int .i64 a1.1.1, .int .i64 a1.1.2.1, .int .i64 a1.1.2.2.1, .int .i64 a1.1.2.2.2, .int .i64 a1.2.1, .int .i64 a1.2.2]), (3, .v false [.box 0 0]), (4, .v false [.int .i64 (0 : Int)]), (5, .v false [.int .i64 q7]), (6, .v false [.int .i64 q8])], [some ⟨true, [.int .i64 a1.1.1, .int .i64 a1.1.2.1, .int .i64 a1.1.2.2.1, .int .i64 a1.1.2.2.2, .int .i64 a1.2.1, .int .i64 a1.2.2]⟩], [some ⟨95, sM, a0, .ro⟩]⟩
def f328_k6 (K : Nat) (a0 : List tM) (a1 : tA × Int × Int) (lr : LR Int) : Ex → Fr → Option Int :=
  contC (f328E K) 1 lr f328C [1, 1, 0, 0] (finK (f328E K) Tryz.f328 [(.ro, (.list 95 sM)), (.ro, sM)] [sI] (a0, a1, ()))
def f328_g (K : Nat) (a0 : List tM) (a1 : tA × Int × Int) (I6 : Int → Int → Option Int) : Option Int :=
  I6 (0 : Int) (a0.length : Int)
def f328G (K : Nat) (a0 : List tM) (a1 : tA × Int × Int) : Option Int :=
  f328_g K a0 a1 (fun d0 d1 => f328_l6 K a0 a1 K d0 d1)
def f328M (K : Nat) : Mdl := ⟨[(.ro, (.list 95 sM)), (.ro, sM)], [sI], fun x => f328G K x.1 x.2.1⟩
def f305E (K : Nat) : Env := ⟨[(328, f328M K)], tys, eqs, mts, K, [0, 1, 3, 4, 5], [], []⟩
def f305G (K : Nat) (a0 : List tM) (a1 : tA × Int × Int) : Option Bool :=
  (f328G K a0 a1).bind fun y1 => (bif ((!(decide (y1 < (a0.length : Int)))) || true) then (bif ((!(decide (y1 < (a0.length : Int)))) || true) then (bif ((!(decide (y1 < (a0.length : Int)))) || (decide (0 ≤ y1) && decide (y1 < (a0.length : Int)))) then (bif ((!(decide (y1 < (a0.length : Int)))) || true) then (bif ((!(decide (y1 < (a0.length : Int)))) || true) then (bif ((!(decide (y1 < (a0.length : Int)))) || true) then some (bif (decide (y1 < (a0.length : Int))) then ((((a0.getD ((0 : Int) + y1).toNat zM).1).1 == a1.1.1) && (((((a0.getD ((0 : Int) + y1).toNat zM).1).2).1 == a1.1.2.1) && ((((((a0.getD ((0 : Int) + y1).toNat zM).1).2).2).1 == a1.1.2.2.1) && ((((((a0.getD ((0 : Int) + y1).toNat zM).1).2).2).2 == a1.1.2.2.2) && ((((a0.getD ((0 : Int) + y1).toNat zM).2).1 == a1.2.1) && (((a0.getD ((0 : Int) + y1).toNat zM).2).2 == a1.2.2)))))) else false) else none) else none) else none) else none) else none) else none)
def f305M (K : Nat) : Mdl := ⟨[(.ro, (.list 95 sM)), (.ro, sM)], [.bool], fun x => f305G K x.1 x.2.1⟩
def f324E (K : Nat) : Env := ⟨[(328, f328M K)], tys, eqs, mts, K, [0, 1, 3, 4, 5, 20], [], []⟩
def f324G (K : Nat) (a0 : List tM) (a1 : tA × Int × Int) : Option (List tM) :=
  (f328G K a0 a1).bind fun y1 => (bif ((!(decide (y1 < (a0.length : Int)))) || true) then (bif ((!(decide (y1 < (a0.length : Int)))) || true) then (bif ((!(decide (y1 < (a0.length : Int)))) || (decide (0 ≤ y1) && decide (y1 < (a0.length : Int)))) then (bif ((!(decide (y1 < (a0.length : Int)))) || true) then (bif ((!(decide (y1 < (a0.length : Int)))) || true) then (bif ((!(decide (y1 < (a0.length : Int)))) || true) then (bif (bif (decide (y1 < (a0.length : Int))) then ((((a0.getD ((0 : Int) + y1).toNat zM).1).1 == a1.1.1) && (((((a0.getD ((0 : Int) + y1).toNat zM).1).2).1 == a1.1.2.1) && ((((((a0.getD ((0 : Int) + y1).toNat zM).1).2).2).1 == a1.1.2.2.1) && ((((((a0.getD ((0 : Int) + y1).toNat zM).1).2).2).2 == a1.1.2.2.2) && ((((a0.getD ((0 : Int) + y1).toNat zM).2).1 == a1.2.1) && (((a0.getD ((0 : Int) + y1).toNat zM).2).2 == a1.2.2)))))) else false) then some a0 else (bif (decide (0 ≤ (0 : Int)) && decide ((0 : Int) ≤ y1) && decide (y1 ≤ (a0.length : Int))) then (bif (Nat.ble (0 + ((a0.take ((0 : Int) + y1).toNat).drop 0).length) (lim 48)) then (bif (Nat.ble (([] ++ ((a0.take ((0 : Int) + y1).toNat).drop 0)).length + [a1].length) (lim 48)) then (bif (decide (0 ≤ y1) && decide (y1 ≤ (a0.length : Int)) && decide ((a0.length : Int) ≤ (a0.length : Int))) then (bif (Nat.ble ((([] ++ ((a0.take ((0 : Int) + y1).toNat).drop 0)) ++ [a1]).length + ((a0.take ((0 : Int) + (a0.length : Int)).toNat).drop ((0 : Int) + y1).toNat).length) (lim 48)) then some ((([] ++ ((a0.take ((0 : Int) + y1).toNat).drop 0)) ++ [a1]) ++ ((a0.take ((0 : Int) + (a0.length : Int)).toNat).drop ((0 : Int) + y1).toNat)) else none) else none) else none) else none) else none)) else none) else none) else none) else none) else none) else none)
def f324M (K : Nat) : Mdl := ⟨[(.mv, (.list 95 sM)), (.ro, sM)], [(.list 95 sM)], fun x => f324G K x.1 x.2.1⟩
def f253C : Code := codeOf Tryz.f253
def f253E (K : Nat) : Env := ⟨[(303, f303M K), (305, f305M K), (306, f306M K), (307, f307M K), (324, f324M K)], tys, eqs, mts, K, [0, 1, 2, 4, 5, 6, 7, 8, 9, 17, 23, 40], [], []⟩
def f253_b21 (K : Nat) (a0 : Int × Int × Int) (a1 : List tM) (q18 : Int) (q20 : List tM) (L17 L21 : Int → (List tM) → (List tM) → Option (List tM)) (q22 : Int) (q23 q24 : List tM) : Option (List tM) :=
  (bif (decide (q22 < (a1.length : Int))) then (bif (decide (0 ≤ q22) && decide (q22 < (a1.length : Int))) then (bif (decide (0 ≤ q18) && decide (q18 < (q24.length : Int))) then (f307G K ((((a1.getD ((0 : Int) + q22).toNat zM).1).1, (((a1.getD ((0 : Int) + q22).toNat zM).1).2).1, ((((a1.getD ((0 : Int) + q22).toNat zM).1).2).2)), ((a1.getD ((0 : Int) + q22).toNat zM).2)) ((((q24.getD ((0 : Int) + q18).toNat zM).1).1, (((q24.getD ((0 : Int) + q18).toNat zM).1).2).1, ((((q24.getD ((0 : Int) + q18).toNat zM).1).2).2)), ((q24.getD ((0 : Int) + q18).toNat zM).2))).bind fun y25 => (f303G K a0 y25).bind fun y26 => (f305G K q23 y26).bind fun y27 => (bif (!y27) then (f324G K q23 y26).bind fun y28 => (bif (Nat.ble (q24.length + [y26].length) (lim 48)) then L21 (w (q22 + (1 : Int))) y28 (q24 ++ [y26]) else none) else L21 (w (q22 + (1 : Int))) q23 q24) else none) else none) else L17 (w (q18 + (1 : Int))) q23 q24)
def f253_l21 (K : Nat) (a0 : Int × Int × Int) (a1 : List tM) (q18 : Int) (q20 : List tM) (L17 : Int → (List tM) → (List tM) → Option (List tM)) (n : Nat) (q22 : Int) (q23 q24 : List tM) : Option (List tM) :=
  iter (X := Int × List tM × List tM) (fun L x => (fun L21 => f253_b21 K a0 a1 q18 q20 L17 L21 x.1 x.2.1 x.2.2) (fun v0 v1 v2 => L (v0, v1, v2))) n (q22, q23, q24)
def f253_fr21 (a0 : Int × Int × Int) (a1 : List tM) (q18 : Int) (q20 : List tM) (q22 : Int) (q23 q24 : List tM) : Fr := ⟨49, [(0, .v true [.int .i64 a0.1, .int .i64 a0.2.1, .int .i64 a0.2.2]), (1, .v false [.row 0]), (2, .v false [.box 0 0]), (4, .v false [.row 1]), (5, .v false [.row 2]), (6, .v false [.row 3]), (7, .v false [.int .i64 q18]), (8, .v false [.int .i64 q22]), (17, .v false [.bool (decide (q18 < (q20.length : Int)))])], [some ⟨true, [.int .i64 a0.1, .int .i64 a0.2.1, .int .i64 a0.2.2]⟩], [some ⟨95, sM, a1, .ro⟩, some ⟨95, sM, [], .own⟩, some ⟨95, sM, q23, .own⟩, some ⟨95, sM, q24, .own⟩]⟩
def f253_b17 (K : Nat) (a0 : Int × Int × Int) (a1 : List tM) (I21 : Int → (List tM) → Int → (List tM) → (List tM) → Option (List tM)) (L17 : Int → (List tM) → (List tM) → Option (List tM)) (q18 : Int) (q19 q20 : List tM) : Option (List tM) :=
  (bif (decide (q18 < (q20.length : Int))) then I21 q18 q20 (0 : Int) q19 q20 else some q19)
def f253_l17 (K : Nat) (a0 : Int × Int × Int) (a1 : List tM) (n : Nat) (q18 : Int) (q19 q20 : List tM) : Option (List tM) :=
  iter (X := Int × List tM × List tM) (fun L x => (fun L17 => f253_b17 K a0 a1 (fun c0 c1 d0 d1 d2 => f253_l21 K a0 a1 c0 c1 L17 K d0 d1 d2) L17 x.1 x.2.1 x.2.2) (fun v0 v1 v2 => L (v0, v1, v2))) n (q18, q19, q20)
def f253_fr17 (a0 : Int × Int × Int) (a1 : List tM) (q18 : Int) (q19 q20 : List tM) : Fr := ⟨49, [(0, .v true [.int .i64 a0.1, .int .i64 a0.2.1, .int .i64 a0.2.2]), (1, .v false [.row 0]), (2, .v false [.box 0 0]), (4, .v false [.row 1]), (5, .v false [.row 2]), (6, .v false [.row 3]), (7, .v false [.int .i64 q18])], [some ⟨true, [.int .i64 a0.1, .int .i64 a0.2.1, .int .i64 a0.2.2]⟩], [some ⟨95, sM, a1, .ro⟩, some ⟨95, sM, [], .own⟩, some ⟨95, sM, q19, .own⟩, some ⟨95, sM, q20, .own⟩]⟩
def f253_k17 (K : Nat) (a0 : Int × Int × Int) (a1 : List tM) (lr : LR (List tM)) : Ex → Fr → Option (List tM) :=
  contC (f253E K) 1 lr f253C [1, 1, 1, 0, 1, 0] (finK (f253E K) Tryz.f253 [(.ro, sL), (.ro, (.list 95 sM))] [(.list 95 sM)] (a0, a1, ()))
def f253_k21 (K : Nat) (a0 : Int × Int × Int) (a1 : List tM) (F17 : Fr → Option (List tM)) (bq18 : Int) (bq19 bq20 : List tM) (lr : LR (List tM)) : Ex → Fr → Option (List tM) :=
  contC (f253E K) 1 lr (selC f253C [1, 1, 1, 0, 1, 0, 0]) [1, 0, 0, 1, 0] (loopK 1 (f253_fr17 a0 a1 bq18 bq19 bq20) F17 (f253_k17 K a0 a1 lr))
def f253_g (K : Nat) (a0 : Int × Int × Int) (a1 : List tM) (I17 : Int → (List tM) → (List tM) → Option (List tM)) : Option (List tM) :=
  (f306G K).bind fun y1 => (f306G K).bind fun y2 => I17 (0 : Int) [y1] [y2]
def f253G (K : Nat) (a0 : Int × Int × Int) (a1 : List tM) : Option (List tM) :=
  f253_g K a0 a1 (fun d0 d1 d2 => f253_l17 K a0 a1 K d0 d1 d2)
def f253M (K : Nat) : Mdl := ⟨[(.ro, sL), (.ro, (.list 95 sM))], [(.list 95 sM)], fun x => f253G K x.1 x.2.1⟩
def f143E (K : Nat) : Env := ⟨[(141, f141M K), (252, f252M K), (253, f253M K)], tys, eqs, mts, K, [0, 1, 4, 5, 6, 7, 8, 9, 10, 11, 19, 23], [], []⟩
def f143G (K : Nat) (a0 : ByteArray) (a1 : Int) : Option (Int × tL × (List tM) × Int) :=
  (f252G K a0 a1).bind fun y1 => (bif (!y1.2.2) then some ((0 : Int), ((0 : Int), (0 : Int), (0 : Int)), [], (4 : Int)) else (f141G K a1 (1 : Int) (4 : Int)).bind fun y2 => (bif (!y2) then some ((0 : Int), ((0 : Int), (0 : Int), (0 : Int)), [], (2 : Int)) else (f253G K ((w ((2 : Int) * a1)), (0 : Int), (w ((2 : Int) * a1))) y1.2.1).bind fun y3 => some (y1.1, ((w ((2 : Int) * a1)), (0 : Int), (w ((2 : Int) * a1))), y3, (0 : Int))))
def f143M (K : Nat) : Mdl := ⟨[(.ro, .str), (.ro, sI)], [sI, sL, (.list 95 sM), sI], fun x => f143G K x.1 x.2.1⟩
def f113E (K : Nat) : Env := ⟨[(143, f143M K)], tys, eqs, mts, K, [0, 1, 4, 5, 6, 7], [], []⟩
def f113G (K : Nat) (a0 : ByteArray) (a1 : Int) : Option (Int × tL × (List tM) × Int) :=
  (f143G K a0 a1).bind fun y1 => some y1
def f113M (K : Nat) : Mdl := ⟨[(.ro, .str), (.ro, sI)], [sI, sL, (.list 95 sM), sI], fun x => f113G K x.1 x.2.1⟩
def f316E (K : Nat) : Env := ⟨[], tys, eqs, mts, K, [0, 2], [], []⟩
def f316G (K : Nat) (a0 : Int) : Option Bool :=
  (bif ((!(!(a0 == (0 : Int)))) || true) then (bif ((!(!(a0 == (0 : Int)))) || true) then some (bif (a0 == (0 : Int)) then true else (a0 == (1 : Int))) else none) else none)
def f316M (K : Nat) : Mdl := ⟨[(.ro, sI)], [.bool], fun x => f316G K x.1⟩
def f317E (K : Nat) : Env := ⟨[(141, f141M K)], tys, eqs, mts, K, [0, 1, 2], [], []⟩
def f317G (K : Nat) (a0 : Int × Int × Int) : Option Bool :=
  (f141G K a0.1 (1 : Int) (64 : Int)).bind fun y1 => (bif ((!y1) || true) then (bif ((!y1) || true) then ((bif y1 then f141G K a0.2.2 (1 : Int) (64 : Int) else some false)).bind fun y2 => (bif ((!(bif y1 then y2 else false)) || true) then (bif ((!(bif y1 then y2 else false)) || true) then (bif ((!(bif y1 then y2 else false)) || true) then (bif ((!(bif y1 then y2 else false)) || true) then (bif ((!(bif y1 then y2 else false)) || true) then ((bif (bif y1 then y2 else false) then f141G K a0.2.1 (0 : Int) (w (a0.1 - (1 : Int))) else some false)).bind fun y3 => (bif ((!(bif (bif y1 then y2 else false) then y3 else false)) || true) then (bif ((!(bif (bif y1 then y2 else false) then y3 else false)) || true) then (bif ((!(bif (bif y1 then y2 else false) then y3 else false)) || true) then (bif ((!(bif (bif y1 then y2 else false) then y3 else false)) || true) then (bif ((!(bif (bif y1 then y2 else false) then y3 else false)) || true) then (bif ((!(bif (bif y1 then y2 else false) then y3 else false)) || true) then some (bif (bif (bif y1 then y2 else false) then y3 else false) then (decide ((w (a0.1 * a0.2.2)) ≤ (64 : Int))) else false) else none) else none) else none) else none) else none) else none) else none) else none) else none) else none) else none) else none) else none)
def f317M (K : Nat) : Mdl := ⟨[(.ro, sL)], [.bool], fun x => f317G K x.1⟩
def f229E (K : Nat) : Env := ⟨[(316, f316M K), (317, f317M K)], tys, eqs, mts, K, [0, 1, 3, 4, 12], [], []⟩
def f229G (K : Nat) (a0 : Int) (a1 : Int × Int × Int) : Option Int :=
  (f316G K a0).bind fun y1 => (bif ((!(!(!y1))) || true) then ((bif (!(!y1)) then f317G K a1 else some false)).bind fun y2 => (bif ((!(!(!y1))) || true) then (bif (bif (!y1) then true else (!y2)) then some (1 : Int) else some (0 : Int)) else none) else none)
def f229M (K : Nat) : Mdl := ⟨[(.ro, sI), (.ro, sL)], [sI], fun x => f229G K x.1 x.2.1⟩
def f245C : Code := codeOf Tryz.f245
def f245E (K : Nat) : Env := ⟨[(141, f141M K)], tys, eqs, mts, K, [0, 1, 2, 3, 8, 9, 13, 23], [], []⟩
def f245_b3 (K : Nat) (a0 : List Int) (a1 a2 a3 : Int) (L3 : Int → Option Bool) (q4 : Int) : Option Bool :=
  (bif (decide (q4 < (a0.length : Int))) then (bif (decide (0 ≤ q4) && decide (q4 < (a0.length : Int))) then (f141G K (a0.getD ((0 : Int) + q4).toNat (0 : Int)) a2 a3).bind fun y5 => (bif (!y5) then some false else L3 (w (q4 + (1 : Int)))) else none) else some (decide ((a0.length : Int) ≤ a1)))
def f245_l3 (K : Nat) (a0 : List Int) (a1 a2 a3 : Int) (n : Nat) (q4 : Int) : Option Bool :=
  iter (X := Int) (fun L x => (fun L3 => f245_b3 K a0 a1 a2 a3 L3 x) (fun v0 => L v0)) n q4
def f245_fr3 (a0 : List Int) (a1 a2 a3 q4 : Int) : Fr := ⟨28, [(0, .v false [.row 0]), (1, .v false [.int .i64 a1]), (2, .v false [.int .i64 a2]), (3, .v false [.int .i64 a3]), (8, .v false [.bool false]), (9, .v false [.int .i64 q4])], [], [some ⟨2, sI, a0, .ro⟩]⟩
def f245_k3 (K : Nat) (a0 : List Int) (a1 a2 a3 : Int) (lr : LR Bool) : Ex → Fr → Option Bool :=
  contC (f245E K) 1 lr f245C [1, 0, 1, 0] (finK (f245E K) Tryz.f245 [(.ro, (.list 2 sI)), (.ro, sI), (.ro, sI), (.ro, sI)] [.bool] (a0, a1, a2, a3, ()))
def f245_g (K : Nat) (a0 : List Int) (a1 a2 a3 : Int) (I3 : Int → Option Bool) : Option Bool :=
  I3 (0 : Int)
def f245G (K : Nat) (a0 : List Int) (a1 a2 a3 : Int) : Option Bool :=
  f245_g K a0 a1 a2 a3 (fun d0 => f245_l3 K a0 a1 a2 a3 K d0)
def f245M (K : Nat) : Mdl := ⟨[(.ro, (.list 2 sI)), (.ro, sI), (.ro, sI), (.ro, sI)], [.bool], fun x => f245G K x.1 x.2.1 x.2.2.1 x.2.2.2.1⟩
def f133E (K : Nat) : Env := ⟨[(229, f229M K), (245, f245M K)], tys, eqs, mts, K, [0, 1, 2], [], []⟩
def f133G (K : Nat) (a0 : Int × tL × List Int) : Option Bool :=
  (f229G K a0.1 a0.2.1).bind fun y1 => (bif ((!(y1 == (0 : Int))) || true) then (bif ((!(y1 == (0 : Int))) || true) then (bif ((!(y1 == (0 : Int))) || true) then (bif ((!(y1 == (0 : Int))) || true) then (bif ((!(y1 == (0 : Int))) || true) then (bif ((!(y1 == (0 : Int))) || true) then (bif ((!(y1 == (0 : Int))) || true) then (bif ((!(y1 == (0 : Int))) || true) then (bif ((!(y1 == (0 : Int))) || true) then (bif ((!(y1 == (0 : Int))) || true) then (bif ((!(y1 == (0 : Int))) || true) then (bif ((!(bif (y1 == (0 : Int)) then ((a0.2.2.length : Int) == (w (a0.2.1.1 * a0.2.1.2.2))) else false)) || true) then (bif ((!(bif (y1 == (0 : Int)) then ((a0.2.2.length : Int) == (w (a0.2.1.1 * a0.2.1.2.2))) else false)) || true) then ((bif (bif (y1 == (0 : Int)) then ((a0.2.2.length : Int) == (w (a0.2.1.1 * a0.2.1.2.2))) else false) then f245G K a0.2.2 (64 : Int) (0 : Int) (9 : Int) else some false)).bind fun y2 => some (bif (bif (y1 == (0 : Int)) then ((a0.2.2.length : Int) == (w (a0.2.1.1 * a0.2.1.2.2))) else false) then y2 else false) else none) else none) else none) else none) else none) else none) else none) else none) else none) else none) else none) else none) else none)
def f133M (K : Nat) : Mdl := ⟨[(.ro, (.cons sI (.cons sL (.list 2 sI))))], [.bool], fun x => f133G K x.1⟩
def f232C : Code := codeOf Tryz.f232
def f232E (K : Nat) : Env := ⟨[], tys, eqs, mts, K, [0, 1, 2, 3, 4, 5, 10, 16], [], []⟩
def f232_b9 (K : Nat) (a0 : Int × Int × Int) (q7 : Int) (L6 L9 : Int → (List tV) → Option (List tV)) (q10 : Int) (q11 : List tV) : Option (List tV) :=
  (bif (decide (q10 < a0.2.2)) then (bif (Nat.ble (q11.length + [(q7, q10)].length) (lim 16)) then L9 (w (q10 + (1 : Int))) (q11 ++ [(q7, q10)]) else none) else L6 (w (q7 + (1 : Int))) q11)
def f232_l9 (K : Nat) (a0 : Int × Int × Int) (q7 : Int) (L6 : Int → (List tV) → Option (List tV)) (n : Nat) (q10 : Int) (q11 : List tV) : Option (List tV) :=
  iter (X := Int × List tV) (fun L x => (fun L9 => f232_b9 K a0 q7 L6 L9 x.1 x.2) (fun v0 v1 => L (v0, v1))) n (q10, q11)
def f232_fr9 (a0 : Int × Int × Int) (q7 q10 : Int) (q11 : List tV) : Fr := ⟨26, [(0, .v true [.int .i64 a0.1, .int .i64 a0.2.1, .int .i64 a0.2.2]), (1, .v false [.box 0 0]), (2, .v false [.row 0]), (3, .v false [.row 1]), (4, .v false [.int .i64 q7]), (5, .v false [.int .i64 q10]), (10, .v false [.bool (decide (q7 < a0.1))])], [some ⟨true, [.int .i64 a0.1, .int .i64 a0.2.1, .int .i64 a0.2.2]⟩], [some ⟨79, sV, [], .own⟩, some ⟨79, sV, q11, .own⟩]⟩
def f232_b6 (K : Nat) (a0 : Int × Int × Int) (I9 : Int → Int → (List tV) → Option (List tV)) (L6 : Int → (List tV) → Option (List tV)) (q7 : Int) (q8 : List tV) : Option (List tV) :=
  (bif (decide (q7 < a0.1)) then I9 q7 (0 : Int) q8 else some q8)
def f232_l6 (K : Nat) (a0 : Int × Int × Int) (n : Nat) (q7 : Int) (q8 : List tV) : Option (List tV) :=
  iter (X := Int × List tV) (fun L x => (fun L6 => f232_b6 K a0 (fun c0 d0 d1 => f232_l9 K a0 c0 L6 K d0 d1) L6 x.1 x.2) (fun v0 v1 => L (v0, v1))) n (q7, q8)
def f232_fr6 (a0 : Int × Int × Int) (q7 : Int) (q8 : List tV) : Fr := ⟨26, [(0, .v true [.int .i64 a0.1, .int .i64 a0.2.1, .int .i64 a0.2.2]), (1, .v false [.box 0 0]), (2, .v false [.row 0]), (3, .v false [.row 1]), (4, .v false [.int .i64 q7])], [some ⟨true, [.int .i64 a0.1, .int .i64 a0.2.1, .int .i64 a0.2.2]⟩], [some ⟨79, sV, [], .own⟩, some ⟨79, sV, q8, .own⟩]⟩
def f232_k6 (K : Nat) (a0 : Int × Int × Int) (lr : LR (List tV)) : Ex → Fr → Option (List tV) :=
  contC (f232E K) 0 lr f232C [1, 1, 0, 1, 0] (finK (f232E K) Tryz.f232 [(.ro, sL)] [(.list 79 sV)] (a0, ()))
def f232_k9 (K : Nat) (a0 : Int × Int × Int) (F6 : Fr → Option (List tV)) (bq7 : Int) (bq8 : List tV) (lr : LR (List tV)) : Ex → Fr → Option (List tV) :=
  contC (f232E K) 0 lr (selC f232C [1, 1, 0, 1, 0, 0]) [1, 0, 0, 1, 0] (loopK 0 (f232_fr6 a0 bq7 bq8) F6 (f232_k6 K a0 lr))
def f232_g (K : Nat) (a0 : Int × Int × Int) (I6 : Int → (List tV) → Option (List tV)) : Option (List tV) :=
  I6 (0 : Int) []
def f232G (K : Nat) (a0 : Int × Int × Int) : Option (List tV) :=
  f232_g K a0 (fun d0 d1 => f232_l6 K a0 K d0 d1)
def f232M (K : Nat) : Mdl := ⟨[(.ro, sL)], [(.list 79 sV)], fun x => f232G K x.1⟩
def f284E (K : Nat) : Env := ⟨[(340, f340M K), (341, f341M K)], tys, eqs, mts, K, [0, 1, 2, 3, 4], [], []⟩
def f284G (K : Nat) (a0 : tA × Int × Int) (a1 : Int × Int) : Option tV :=
  (f341G K a0.1 a1).bind fun y1 => (f340G K y1 a0.2).bind fun y2 => some y2
def f284M (K : Nat) : Mdl := ⟨[(.ro, sM), (.ro, sV)], [sV], fun x => f284G K x.1 x.2.1⟩
def f127E (K : Nat) : Env := ⟨[(153, f153M K)], tys, eqs, mts, K, [0, 1, 2, 3, 4], [], []⟩
def f127G (K : Nat) (a0 : Int × Int × Int) (a1 : Int × Int) : Option Int :=
  (f153G K a0 a1).bind fun y1 => some (w ((w (y1.1 * a0.2.2)) + y1.2))
def f127M (K : Nat) : Mdl := ⟨[(.ro, sL), (.ro, sV)], [sI], fun x => f127G K x.1 x.2.1⟩
def f136E (K : Nat) : Env := ⟨[(127, f127M K)], tys, eqs, mts, K, [0, 1, 2, 3, 4], [], []⟩
def f136G (K : Nat) (a0 : Int × tL × List Int) (a1 : Int × Int) : Option Int :=
  (f127G K a0.2.1 a1).bind fun y1 => (bif (decide (0 ≤ y1) && decide (y1 < (a0.2.2.length : Int))) then some (a0.2.2.getD ((0 : Int) + y1).toNat (0 : Int)) else none)
def f136M (K : Nat) : Mdl := ⟨[(.ro, (.cons sI (.cons sL (.list 2 sI)))), (.ro, sV)], [sI], fun x => f136G K x.1 x.2.1⟩
def f246C : Code := codeOf Tryz.f246
def f246E (K : Nat) : Env := ⟨[(136, f136M K), (232, f232M K), (284, f284M K)], tys, eqs, mts, K, [0, 1, 2, 3, 4, 5, 6, 13, 30], [], []⟩
def f246_b6 (K : Nat) (a0 : Int × tL × List Int) (a1 : tA × Int × Int) (y1 : List tV) (L6 : Int → Option Bool) (q7 : Int) : Option Bool :=
  (bif (decide (q7 < (y1.length : Int))) then (bif (decide (0 ≤ q7) && decide (q7 < (y1.length : Int))) then (f284G K a1 (y1.getD ((0 : Int) + q7).toNat ((0 : Int), (0 : Int)))).bind fun y8 => (f136G K a0 y8).bind fun y9 => (bif (decide (0 ≤ q7) && decide (q7 < (y1.length : Int))) then (f136G K a0 (y1.getD ((0 : Int) + q7).toNat ((0 : Int), (0 : Int)))).bind fun y10 => (bif (y9 != y10) then some false else L6 (w (q7 + (1 : Int)))) else none) else none) else some true)
def f246_l6 (K : Nat) (a0 : Int × tL × List Int) (a1 : tA × Int × Int) (y1 : List tV) (n : Nat) (q7 : Int) : Option Bool :=
  iter (X := Int) (fun L x => (fun L6 => f246_b6 K a0 a1 y1 L6 x) (fun v0 => L v0)) n q7
def f246_fr6 (a0 : Int × tL × List Int) (a1 : tA × Int × Int) (y1 : List tV) (q7 : Int) : Fr := ⟨31, [(0, .v true [.int .i64 a0.1, .int .i64 a0.2.1.1, .int .i64 a0.2.1.2.1, .int .i64 a0.2.1.2.2, .row 0]), (1, .v true [.int .i64 a1.1.1, .int .i64 a1.1.2.1, .int .i64 a1.1.2.2.1, .int .i64 a1.1.2.2.2, .int .i64 a1.2.1, .int .i64 a1.2.2]), (2, .v false [.box 0 0]), (3, .v false [.box 1 0]), (4, .v false [.bool false]), (5, .v false [.row 1]), (6, .v false [.int .i64 q7])], [some ⟨true, [.int .i64 a0.1, .int .i64 a0.2.1.1, .int .i64 a0.2.1.2.1, .int .i64 a0.2.1.2.2, .row 0]⟩, some ⟨true, [.int .i64 a1.1.1, .int .i64 a1.1.2.1, .int .i64 a1.1.2.2.1, .int .i64 a1.1.2.2.2, .int .i64 a1.2.1, .int .i64 a1.2.2]⟩], [some ⟨2, sI, a0.2.2, .ro⟩, some ⟨79, sV, y1, .own⟩]⟩
def f246_k6 (K : Nat) (a0 : Int × tL × List Int) (a1 : tA × Int × Int) (lr : LR Bool) : Ex → Fr → Option Bool :=
  contC (f246E K) 1 lr f246C [1, 1, 0, 1, 0] (finK (f246E K) Tryz.f246 [(.ro, (.cons sI (.cons sL (.list 2 sI)))), (.ro, sM)] [.bool] (a0, a1, ()))
def f246_g (K : Nat) (a0 : Int × tL × List Int) (a1 : tA × Int × Int) (I6 : (List tV) → Int → Option Bool) : Option Bool :=
  (f232G K a0.2.1).bind fun y1 => I6 y1 (0 : Int)
def f246G (K : Nat) (a0 : Int × tL × List Int) (a1 : tA × Int × Int) : Option Bool :=
  f246_g K a0 a1 (fun c0 d0 => f246_l6 K a0 a1 c0 K d0)
def f246M (K : Nat) : Mdl := ⟨[(.ro, (.cons sI (.cons sL (.list 2 sI)))), (.ro, sM)], [.bool], fun x => f246G K x.1 x.2.1⟩
def f134C : Code := codeOf Tryz.f134
def f134E (K : Nat) : Env := ⟨[(246, f246M K)], tys, eqs, mts, K, [0, 1, 2, 4, 5, 9, 18], [], []⟩
def f134_b3 (K : Nat) (a0 : Int × tL × List Int) (a1 : List tM) (L3 : Int → Option Bool) (q4 : Int) : Option Bool :=
  (bif (decide (q4 < (a1.length : Int))) then (bif (decide (0 ≤ q4) && decide (q4 < (a1.length : Int))) then (f246G K a0 ((((a1.getD ((0 : Int) + q4).toNat zM).1).1, (((a1.getD ((0 : Int) + q4).toNat zM).1).2).1, ((((a1.getD ((0 : Int) + q4).toNat zM).1).2).2)), ((a1.getD ((0 : Int) + q4).toNat zM).2))).bind fun y5 => (bif (!y5) then some false else L3 (w (q4 + (1 : Int)))) else none) else some true)
def f134_l3 (K : Nat) (a0 : Int × tL × List Int) (a1 : List tM) (n : Nat) (q4 : Int) : Option Bool :=
  iter (X := Int) (fun L x => (fun L3 => f134_b3 K a0 a1 L3 x) (fun v0 => L v0)) n q4
def f134_fr3 (a0 : Int × tL × List Int) (a1 : List tM) (q4 : Int) : Fr := ⟨19, [(0, .v true [.int .i64 a0.1, .int .i64 a0.2.1.1, .int .i64 a0.2.1.2.1, .int .i64 a0.2.1.2.2, .row 0]), (1, .v false [.row 1]), (2, .v false [.box 0 0]), (4, .v false [.bool false]), (5, .v false [.int .i64 q4])], [some ⟨true, [.int .i64 a0.1, .int .i64 a0.2.1.1, .int .i64 a0.2.1.2.1, .int .i64 a0.2.1.2.2, .row 0]⟩], [some ⟨2, sI, a0.2.2, .ro⟩, some ⟨95, sM, a1, .ro⟩]⟩
def f134_k3 (K : Nat) (a0 : Int × tL × List Int) (a1 : List tM) (lr : LR Bool) : Ex → Fr → Option Bool :=
  contC (f134E K) 2 lr f134C [1, 0, 1, 0] (finK (f134E K) Tryz.f134 [(.ro, (.cons sI (.cons sL (.list 2 sI)))), (.ro, (.list 95 sM))] [.bool] (a0, a1, ()))
def f134_g (K : Nat) (a0 : Int × tL × List Int) (a1 : List tM) (I3 : Int → Option Bool) : Option Bool :=
  I3 (0 : Int)
def f134G (K : Nat) (a0 : Int × tL × List Int) (a1 : List tM) : Option Bool :=
  f134_g K a0 a1 (fun d0 => f134_l3 K a0 a1 K d0)
def f134M (K : Nat) : Mdl := ⟨[(.ro, (.cons sI (.cons sL (.list 2 sI)))), (.ro, (.list 95 sM))], [.bool], fun x => f134G K x.1 x.2.1⟩
def f185E (K : Nat) : Env := ⟨[(153, f153M K), (284, f284M K)], tys, eqs, mts, K, [0, 1, 2, 3, 4, 5, 6], [], []⟩
def f185G (K : Nat) (a0 : Int × Int × Int) (a1 : tA × Int × Int) (a2 : Int × Int) : Option tV :=
  (f284G K a1 a2).bind fun y1 => (f153G K a0 y1).bind fun y2 => some y2
def f185M (K : Nat) : Mdl := ⟨[(.ro, sL), (.ro, sM), (.ro, sV)], [sV], fun x => f185G K x.1 x.2.1 x.2.2.1⟩
def f280C : Code := codeOf Tryz.f280
def f280E (K : Nat) : Env := ⟨[(339, f339M K)], tys, eqs, mts, K, [0, 1, 3, 4, 5, 17, 31], [], []⟩
def f280_b3 (K : Nat) (a0 : List tV) (a1 : Int × Int) (L3 : Int → Option (List tV)) (q4 : Int) : Option (List tV) :=
  (bif ((!(decide (q4 < (a0.length : Int)))) || true) then (bif ((!(decide (q4 < (a0.length : Int)))) || true) then (bif ((!(decide (q4 < (a0.length : Int)))) || (decide (0 ≤ q4) && decide (q4 < (a0.length : Int)))) then (bif ((!(decide (q4 < (a0.length : Int)))) || true) then (bif ((!(decide (q4 < (a0.length : Int)))) || true) then ((bif (decide (q4 < (a0.length : Int))) then f339G K (a0.getD ((0 : Int) + q4).toNat ((0 : Int), (0 : Int))) a1 else some false)).bind fun y5 => (bif (bif (decide (q4 < (a0.length : Int))) then y5 else false) then L3 (w (q4 + (1 : Int))) else (bif ((!(decide (q4 < (a0.length : Int)))) || true) then (bif ((!(decide (q4 < (a0.length : Int)))) || true) then (bif ((!(decide (q4 < (a0.length : Int)))) || (decide (0 ≤ q4) && decide (q4 < (a0.length : Int)))) then (bif ((!(decide (q4 < (a0.length : Int)))) || true) then (bif ((!(decide (q4 < (a0.length : Int)))) || true) then (bif ((!(decide (q4 < (a0.length : Int)))) || true) then (bif (bif (decide (q4 < (a0.length : Int))) then (((a0.getD ((0 : Int) + q4).toNat ((0 : Int), (0 : Int))).1 == a1.1) && ((a0.getD ((0 : Int) + q4).toNat ((0 : Int), (0 : Int))).2 == a1.2)) else false) then some a0 else (bif (decide (0 ≤ (0 : Int)) && decide ((0 : Int) ≤ q4) && decide (q4 ≤ (a0.length : Int))) then (bif (Nat.ble (0 + ((a0.take ((0 : Int) + q4).toNat).drop 0).length) (lim 16)) then (bif (Nat.ble (([] ++ ((a0.take ((0 : Int) + q4).toNat).drop 0)).length + [a1].length) (lim 16)) then (bif (decide (0 ≤ q4) && decide (q4 ≤ (a0.length : Int)) && decide ((a0.length : Int) ≤ (a0.length : Int))) then (bif (Nat.ble ((([] ++ ((a0.take ((0 : Int) + q4).toNat).drop 0)) ++ [a1]).length + ((a0.take ((0 : Int) + (a0.length : Int)).toNat).drop ((0 : Int) + q4).toNat).length) (lim 16)) then some ((([] ++ ((a0.take ((0 : Int) + q4).toNat).drop 0)) ++ [a1]) ++ ((a0.take ((0 : Int) + (a0.length : Int)).toNat).drop ((0 : Int) + q4).toNat)) else none) else none) else none) else none) else none)) else none) else none) else none) else none) else none) else none)) else none) else none) else none) else none) else none)
def f280_l3 (K : Nat) (a0 : List tV) (a1 : Int × Int) (n : Nat) (q4 : Int) : Option (List tV) :=
  iter (X := Int) (fun L x => (fun L3 => f280_b3 K a0 a1 L3 x) (fun v0 => L v0)) n q4
def f280_fr3 (a0 : List tV) (a1 : Int × Int) (q4 : Int) : Fr := ⟨45, [(0, .v false [.row 0]), (1, .v true [.int .i64 a1.1, .int .i64 a1.2]), (3, .v false [.box 0 0]), (4, .v false [.row 1]), (5, .v false [.int .i64 q4])], [some ⟨true, [.int .i64 a1.1, .int .i64 a1.2]⟩], [some ⟨79, sV, a0, .own⟩, some ⟨79, sV, [], .own⟩]⟩
def f280_k3 (K : Nat) (a0 : List tV) (a1 : Int × Int) (lr : LR (List tV)) : Ex → Fr → Option (List tV) :=
  contC (f280E K) 1 lr f280C [1, 1, 0, 0] (finK (f280E K) Tryz.f280 [(.mv, (.list 79 sV)), (.ro, sV)] [(.list 79 sV)] (a0, a1, ()))
def f280_g (K : Nat) (a0 : List tV) (a1 : Int × Int) (I3 : Int → Option (List tV)) : Option (List tV) :=
  I3 (0 : Int)
def f280G (K : Nat) (a0 : List tV) (a1 : Int × Int) : Option (List tV) :=
  f280_g K a0 a1 (fun d0 => f280_l3 K a0 a1 K d0)
def f280M (K : Nat) : Mdl := ⟨[(.mv, (.list 79 sV)), (.ro, sV)], [(.list 79 sV)], fun x => f280G K x.1 x.2.1⟩
def f247C : Code := codeOf Tryz.f247
def f247E (K : Nat) : Env := ⟨[(185, f185M K), (280, f280M K)], tys, eqs, mts, K, [0, 1, 2, 3, 5, 6, 7, 8, 13], [], []⟩
def f247_b4 (K : Nat) (a0 : Int × Int × Int) (a1 : List tM) (a2 : Int × Int) (L4 : Int → (List tV) → Option (List tV)) (q5 : Int) (q6 : List tV) : Option (List tV) :=
  (bif (decide (q5 < (a1.length : Int))) then (bif (decide (0 ≤ q5) && decide (q5 < (a1.length : Int))) then (f185G K a0 ((((a1.getD ((0 : Int) + q5).toNat zM).1).1, (((a1.getD ((0 : Int) + q5).toNat zM).1).2).1, ((((a1.getD ((0 : Int) + q5).toNat zM).1).2).2)), ((a1.getD ((0 : Int) + q5).toNat zM).2)) a2).bind fun y7 => (f280G K q6 y7).bind fun y8 => L4 (w (q5 + (1 : Int))) y8 else none) else some q6)
def f247_l4 (K : Nat) (a0 : Int × Int × Int) (a1 : List tM) (a2 : Int × Int) (n : Nat) (q5 : Int) (q6 : List tV) : Option (List tV) :=
  iter (X := Int × List tV) (fun L x => (fun L4 => f247_b4 K a0 a1 a2 L4 x.1 x.2) (fun v0 v1 => L (v0, v1))) n (q5, q6)
def f247_fr4 (a0 : Int × Int × Int) (a1 : List tM) (a2 : Int × Int) (q5 : Int) (q6 : List tV) : Fr := ⟨26, [(0, .v true [.int .i64 a0.1, .int .i64 a0.2.1, .int .i64 a0.2.2]), (1, .v false [.row 0]), (2, .v true [.int .i64 a2.1, .int .i64 a2.2]), (3, .v false [.box 0 0]), (5, .v false [.box 1 0]), (6, .v false [.row 1]), (7, .v false [.row 2]), (8, .v false [.int .i64 q5])], [some ⟨true, [.int .i64 a0.1, .int .i64 a0.2.1, .int .i64 a0.2.2]⟩, some ⟨true, [.int .i64 a2.1, .int .i64 a2.2]⟩], [some ⟨95, sM, a1, .ro⟩, some ⟨79, sV, [], .own⟩, some ⟨79, sV, q6, .own⟩]⟩
def f247_k4 (K : Nat) (a0 : Int × Int × Int) (a1 : List tM) (a2 : Int × Int) (lr : LR (List tV)) : Ex → Fr → Option (List tV) :=
  contC (f247E K) 1 lr f247C [1, 1, 0, 1, 0] (finK (f247E K) Tryz.f247 [(.ro, sL), (.ro, (.list 95 sM)), (.ro, sV)] [(.list 79 sV)] (a0, a1, a2, ()))
def f247_g (K : Nat) (a0 : Int × Int × Int) (a1 : List tM) (a2 : Int × Int) (I4 : Int → (List tV) → Option (List tV)) : Option (List tV) :=
  I4 (0 : Int) []
def f247G (K : Nat) (a0 : Int × Int × Int) (a1 : List tM) (a2 : Int × Int) : Option (List tV) :=
  f247_g K a0 a1 a2 (fun d0 d1 => f247_l4 K a0 a1 a2 K d0 d1)
def f247M (K : Nat) : Mdl := ⟨[(.ro, sL), (.ro, (.list 95 sM)), (.ro, sV)], [(.list 79 sV)], fun x => f247G K x.1 x.2.1 x.2.2.1⟩
def f135C : Code := codeOf Tryz.f135
def f135E (K : Nat) : Env := ⟨[(232, f232M K), (247, f247M K)], tys, eqs, mts, K, [0, 1, 2, 4, 5, 6, 7, 8, 15, 32], [], []⟩
def f135_b4 (K : Nat) (a0 : Int × Int × Int) (a1 : List tM) (y1 : List tV) (L4 : Int → (List (List tV)) → Option (List (List tV))) (q5 : Int) (q6 : List (List tV)) : Option (List (List tV)) :=
  (bif (decide (q5 < (y1.length : Int))) then (bif (decide (0 ≤ q5) && decide (q5 < (y1.length : Int))) then (f247G K a0 a1 (y1.getD ((0 : Int) + q5).toNat ((0 : Int), (0 : Int)))).bind fun y7 => (bif (decide (0 ≤ (0 : Int)) && decide ((0 : Int) < (y7.length : Int))) then (bif (decide (0 ≤ q5) && decide (q5 < (y1.length : Int))) then (bif (((y7.getD ((0 : Int) + (0 : Int)).toNat ((0 : Int), (0 : Int))).1 == (y1.getD ((0 : Int) + q5).toNat ((0 : Int), (0 : Int))).1) && ((y7.getD ((0 : Int) + (0 : Int)).toNat ((0 : Int), (0 : Int))).2 == (y1.getD ((0 : Int) + q5).toNat ((0 : Int), (0 : Int))).2)) then (bif (Nat.ble (q6.length + [y7].length) (lim 24)) then L4 (w (q5 + (1 : Int))) (q6 ++ [y7]) else none) else L4 (w (q5 + (1 : Int))) q6) else none) else none) else none) else some q6)
def f135_l4 (K : Nat) (a0 : Int × Int × Int) (a1 : List tM) (y1 : List tV) (n : Nat) (q5 : Int) (q6 : List (List tV)) : Option (List (List tV)) :=
  iter (X := Int × List (List tV)) (fun L x => (fun L4 => f135_b4 K a0 a1 y1 L4 x.1 x.2) (fun v0 v1 => L (v0, v1))) n (q5, q6)
def f135_fr4 (a0 : Int × Int × Int) (a1 : List tM) (y1 : List tV) (q5 : Int) (q6 : List (List tV)) : Fr := ⟨38, [(0, .v true [.int .i64 a0.1, .int .i64 a0.2.1, .int .i64 a0.2.2]), (1, .v false [.row 0]), (2, .v false [.box 0 0]), (4, .v false [.row 1]), (5, .v false [.row 2]), (6, .v false [.row 3]), (7, .v false [.int .i64 q5])], [some ⟨true, [.int .i64 a0.1, .int .i64 a0.2.1, .int .i64 a0.2.2]⟩], [some ⟨95, sM, a1, .ro⟩, some ⟨84, (.list 79 sV), [], .own⟩, some ⟨79, sV, y1, .own⟩, some ⟨84, (.list 79 sV), q6, .own⟩]⟩
def f135_k4 (K : Nat) (a0 : Int × Int × Int) (a1 : List tM) (lr : LR (List (List tV))) : Ex → Fr → Option (List (List tV)) :=
  contC (f135E K) 1 lr f135C [1, 1, 1, 0, 1, 0] (finK (f135E K) Tryz.f135 [(.ro, sL), (.ro, (.list 95 sM))] [(.list 84 (.list 79 sV))] (a0, a1, ()))
def f135_g (K : Nat) (a0 : Int × Int × Int) (a1 : List tM) (I4 : (List tV) → Int → (List (List tV)) → Option (List (List tV))) : Option (List (List tV)) :=
  (f232G K a0).bind fun y1 => I4 y1 (0 : Int) []
def f135G (K : Nat) (a0 : Int × Int × Int) (a1 : List tM) : Option (List (List tV)) :=
  f135_g K a0 a1 (fun c0 d0 d1 => f135_l4 K a0 a1 c0 K d0 d1)
def f135M (K : Nat) : Mdl := ⟨[(.ro, sL), (.ro, (.list 95 sM))], [(.list 84 (.list 79 sV))], fun x => f135G K x.1 x.2.1⟩
def f30C : Code := codeOf Tryz.f30
def f30E (K : Nat) : Env := ⟨[(113, f113M K), (133, f133M K), (134, f134M K), (135, f135M K), (136, f136M K)], tys, eqs, mts, K, [0, 1, 2, 5, 6, 7, 8, 9, 10, 11, 12, 13, 14, 15, 24, 28, 43, 47, 59, 71], [], []⟩
def f30_b8 (K : Nat) (a0 : ByteArray) (a1 : Int) (a2 : Int × tL × List Int) (y1 : Int × tL × (List tM) × Int) (y2 y3 y4 : Bool) (y5 : List (List tV)) (L8 : Int → (List (tV × Int)) → Option ((List (tV × Int)) × Int)) (q9 : Int) (q10 : List (tV × Int)) : Option ((List (tV × Int)) × Int) :=
  (bif (decide (q9 < (y5.length : Int))) then (bif (decide (0 ≤ q9) && decide (q9 < (y5.length : Int))) then (bif (decide (0 ≤ (0 : Int)) && decide ((0 : Int) < ((y5.getD ((0 : Int) + q9).toNat []).length : Int))) then (f136G K a2 ((y5.getD ((0 : Int) + q9).toNat []).getD ((0 : Int) + (0 : Int)).toNat ((0 : Int), (0 : Int)))).bind fun y11 => (bif (decide (y11 > (0 : Int))) then (bif (decide (0 ≤ q9) && decide (q9 < (y5.length : Int))) then (bif (decide (0 ≤ (0 : Int)) && decide ((0 : Int) < ((y5.getD ((0 : Int) + q9).toNat []).length : Int))) then (bif (Nat.ble (q10.length + [(((y5.getD ((0 : Int) + q9).toNat []).getD ((0 : Int) + (0 : Int)).toNat ((0 : Int), (0 : Int))), y11)].length) (lim 24)) then L8 (w (q9 + (1 : Int))) (q10 ++ [(((y5.getD ((0 : Int) + q9).toNat []).getD ((0 : Int) + (0 : Int)).toNat ((0 : Int), (0 : Int))), y11)]) else none) else none) else none) else L8 (w (q9 + (1 : Int))) q10) else none) else none) else some (q10, (0 : Int)))
def f30_l8 (K : Nat) (a0 : ByteArray) (a1 : Int) (a2 : Int × tL × List Int) (y1 : Int × tL × (List tM) × Int) (y2 y3 y4 : Bool) (y5 : List (List tV)) (n : Nat) (q9 : Int) (q10 : List (tV × Int)) : Option ((List (tV × Int)) × Int) :=
  iter (X := Int × List (tV × Int)) (fun L x => (fun L8 => f30_b8 K a0 a1 a2 y1 y2 y3 y4 y5 L8 x.1 x.2) (fun v0 v1 => L (v0, v1))) n (q9, q10)
def f30_fr8 (a0 : ByteArray) (a1 : Int) (a2 : Int × tL × List Int) (y1 : Int × tL × (List tM) × Int) (y2 y3 y4 : Bool) (y5 : List (List tV)) (q9 : Int) (q10 : List (tV × Int)) : Fr := ⟨84, [(0, .v false [.str a0]), (1, .v false [.int .i64 a1]), (2, .v true [.int .i64 a2.1, .int .i64 a2.2.1.1, .int .i64 a2.2.1.2.1, .int .i64 a2.2.1.2.2, .row 0]), (5, .v false [.box 0 0]), (6, .v false [.row 1]), (7, .v false [.int .i64 (0 : Int)]), (8, .v false [.int .i64 y1.1]), (9, .v false [.box 1 0]), (10, .v false [.row 2]), (11, .v false [.int .i64 y1.2.2.2]), (12, .v false [.row 3]), (13, .v false [.row 4]), (14, .v false [.int .i64 q9]), (24, .v false [.bool (y1.2.2.2 != (0 : Int))]), (28, .v false [.bool (bif y2 then (bif (a2.1 != y1.1) then true else (!((a2.2.1.1 == y1.2.1.1) && ((a2.2.1.2.1 == y1.2.1.2.1) && (a2.2.1.2.2 == y1.2.1.2.2))))) else false)]), (43, .v false [.bool (!y3)]), (47, .v false [.bool (!y4)])], [some ⟨true, [.int .i64 a2.1, .int .i64 a2.2.1.1, .int .i64 a2.2.1.2.1, .int .i64 a2.2.1.2.2, .row 0]⟩, some ⟨true, [.int .i64 y1.2.1.1, .int .i64 y1.2.1.2.1, .int .i64 y1.2.1.2.2]⟩], [some ⟨2, sI, a2.2.2, .ro⟩, some ⟨149, (.cons sV sI), [], .own⟩, some ⟨95, sM, y1.2.2.1, .own⟩, some ⟨84, (.list 79 sV), y5, .own⟩, some ⟨149, (.cons sV sI), q10, .own⟩]⟩
def f30_k8 (K : Nat) (a0 : ByteArray) (a1 : Int) (a2 : Int × tL × List Int) (lr : LR ((List (tV × Int)) × Int)) : Ex → Fr → Option ((List (tV × Int)) × Int) :=
  contC (f30E K) 1 lr f30C [1, 1, 1, 1, 1, 0, 1, 0] (finK (f30E K) Tryz.f30 [(.ro, .str), (.ro, sI), (.ro, (.cons sI (.cons sL (.list 2 sI))))] [(.list 149 (.cons sV sI)), sI] (a0, a1, a2, ()))
def f30_g (K : Nat) (a0 : ByteArray) (a1 : Int) (a2 : Int × tL × List Int) (I8 : (Int × tL × (List tM) × Int) → Bool → Bool → Bool → (List (List tV)) → Int → (List (tV × Int)) → Option ((List (tV × Int)) × Int)) : Option ((List (tV × Int)) × Int) :=
  (f113G K a0 a1).bind fun y1 => (bif (y1.2.2.2 != (0 : Int)) then some ([], y1.2.2.2) else (f133G K a2).bind fun y2 => (bif ((!y2) || true) then (bif ((!y2) || true) then (bif ((!y2) || true) then (bif ((!y2) || true) then (bif ((!y2) || true) then (bif ((!(y2 && (!(a2.1 != y1.1)))) || true) then (bif ((!(y2 && (!(a2.1 != y1.1)))) || true) then (bif ((!(y2 && (!(a2.1 != y1.1)))) || true) then (bif ((!(y2 && (!(a2.1 != y1.1)))) || true) then (bif ((!y2) || true) then (bif (bif y2 then (bif (a2.1 != y1.1) then true else (!((a2.2.1.1 == y1.2.1.1) && ((a2.2.1.2.1 == y1.2.1.2.1) && (a2.2.1.2.2 == y1.2.1.2.2))))) else false) then some ([], (2 : Int)) else (f133G K a2).bind fun y3 => (bif (!y3) then some ([], (1 : Int)) else (f134G K a2 y1.2.2.1).bind fun y4 => (bif (!y4) then some ([], (5 : Int)) else (f135G K y1.2.1 y1.2.2.1).bind fun y5 => I8 y1 y2 y3 y4 y5 (0 : Int) []))) else none) else none) else none) else none) else none) else none) else none) else none) else none) else none))
def f30G (K : Nat) (a0 : ByteArray) (a1 : Int) (a2 : Int × tL × List Int) : Option ((List (tV × Int)) × Int) :=
  f30_g K a0 a1 a2 (fun c0 c1 c2 c3 c4 d0 d1 => f30_l8 K a0 a1 a2 c0 c1 c2 c3 c4 K d0 d1)
def f30M (K : Nat) : Mdl := ⟨[(.ro, .str), (.ro, sI), (.ro, (.cons sI (.cons sL (.list 2 sI))))], [(.list 149 (.cons sV sI)), sI], fun x => f30G K x.1 x.2.1 x.2.2.1⟩
def f204E (K : Nat) : Env := ⟨[], tys, eqs, mts, K, [0, 1, 4, 5, 6, 7, 8, 9, 10, 11, 12, 13, 14, 15, 16, 32, 33, 35, 39, 44, 50, 55, 61, 68, 75, 81, 85, 91, 98, 102, 108, 114, 118], [], []⟩
def f204G (K : Nat) (a0 : ByteArray) (a1 : Int) : Option (Int × (List tM) × Bool) :=
  (bif (a0 == (bs [112, 49])) then some ((0 : Int), [], true) else (bif (a0 == (bs [112, 50])) then some ((0 : Int), [(((-1 : Int), (0 : Int), (0 : Int), (-1 : Int)), (0 : Int), (0 : Int))], true) else (bif (a0 == (bs [112, 109])) then some ((0 : Int), [(((1 : Int), (0 : Int), (0 : Int), (-1 : Int)), (0 : Int), (0 : Int))], true) else (bif (a0 == (bs [112, 103])) then some ((0 : Int), [(((1 : Int), (0 : Int), (0 : Int), (-1 : Int)), a1, (0 : Int))], true) else (bif (a0 == (bs [99, 109])) then some ((0 : Int), [(((0 : Int), (1 : Int), (1 : Int), (0 : Int)), (0 : Int), (0 : Int))], true) else (bif (a0 == (bs [112, 109, 109])) then some ((0 : Int), [(((1 : Int), (0 : Int), (0 : Int), (-1 : Int)), (0 : Int), (0 : Int)), (((-1 : Int), (0 : Int), (0 : Int), (-1 : Int)), (0 : Int), (0 : Int))], true) else (bif (a0 == (bs [112, 109, 103])) then some ((0 : Int), [(((1 : Int), (0 : Int), (0 : Int), (-1 : Int)), a1, (0 : Int)), (((-1 : Int), (0 : Int), (0 : Int), (-1 : Int)), (0 : Int), (0 : Int))], true) else (bif (a0 == (bs [112, 103, 103])) then some ((0 : Int), [(((1 : Int), (0 : Int), (0 : Int), (-1 : Int)), a1, a1), (((-1 : Int), (0 : Int), (0 : Int), (-1 : Int)), (0 : Int), (0 : Int))], true) else (bif (a0 == (bs [99, 109, 109])) then some ((0 : Int), [(((0 : Int), (1 : Int), (1 : Int), (0 : Int)), (0 : Int), (0 : Int)), (((-1 : Int), (0 : Int), (0 : Int), (-1 : Int)), (0 : Int), (0 : Int))], true) else (bif (a0 == (bs [112, 52])) then some ((0 : Int), [(((0 : Int), (-1 : Int), (1 : Int), (0 : Int)), (0 : Int), (0 : Int))], true) else (bif (a0 == (bs [112, 52, 109])) then some ((0 : Int), [(((0 : Int), (-1 : Int), (1 : Int), (0 : Int)), (0 : Int), (0 : Int)), (((1 : Int), (0 : Int), (0 : Int), (-1 : Int)), (0 : Int), (0 : Int))], true) else (bif (a0 == (bs [112, 52, 103])) then some ((0 : Int), [(((0 : Int), (-1 : Int), (1 : Int), (0 : Int)), (0 : Int), (0 : Int)), (((1 : Int), (0 : Int), (0 : Int), (-1 : Int)), a1, a1)], true) else (bif (a0 == (bs [112, 51])) then some ((1 : Int), [(((-1 : Int), (-1 : Int), (1 : Int), (0 : Int)), (0 : Int), (0 : Int))], true) else (bif (a0 == (bs [112, 51, 109, 49])) then some ((1 : Int), [(((-1 : Int), (-1 : Int), (1 : Int), (0 : Int)), (0 : Int), (0 : Int)), (((0 : Int), (1 : Int), (1 : Int), (0 : Int)), (0 : Int), (0 : Int))], true) else (bif (a0 == (bs [112, 51, 49, 109])) then some ((1 : Int), [(((-1 : Int), (-1 : Int), (1 : Int), (0 : Int)), (0 : Int), (0 : Int)), (((1 : Int), (1 : Int), (0 : Int), (-1 : Int)), (0 : Int), (0 : Int))], true) else (bif (a0 == (bs [112, 54])) then some ((1 : Int), [(((0 : Int), (-1 : Int), (1 : Int), (1 : Int)), (0 : Int), (0 : Int))], true) else (bif (a0 == (bs [112, 54, 109])) then some ((1 : Int), [(((0 : Int), (-1 : Int), (1 : Int), (1 : Int)), (0 : Int), (0 : Int)), (((0 : Int), (1 : Int), (1 : Int), (0 : Int)), (0 : Int), (0 : Int))], true) else some ((0 : Int), [], false))))))))))))))))))
def f204M (K : Nat) : Mdl := ⟨[(.ro, .str), (.ro, sI)], [sI, (.list 95 sM), .bool], fun x => f204G K x.1 x.2.1⟩
def f146E (K : Nat) : Env := ⟨[], tys, eqs, mts, K, [0, 1, 2, 6], [], []⟩
def f146G (K : Nat) (a0 a1 a2 : Int) : Option Bool :=
  (bif ((!(decide (a0 ≥ a1))) || true) then (bif ((!(decide (a0 ≥ a1))) || true) then (bif ((!(decide (a0 ≥ a1))) || true) then some (bif (decide (a0 ≥ a1)) then (decide (a0 ≤ a2)) else false) else none) else none) else none)
def f146M (K : Nat) : Mdl := ⟨[(.ro, sI), (.ro, sI), (.ro, sI)], [.bool], fun x => f146G K x.1 x.2.1 x.2.2.1⟩
def f231E (K : Nat) : Env := ⟨[], tys, eqs, mts, K, [0], [], []⟩
def f231G (K : Nat) : Option tA :=
  some ((1 : Int), (0 : Int), (0 : Int), (1 : Int))
def f231M (K : Nat) : Mdl := ⟨[], [sA], fun x => f231G K ⟩
def f347E (K : Nat) : Env := ⟨[], tys, eqs, mts, K, [0, 1, 2, 3, 4], [], []⟩
def f347G (K : Nat) (a0 a1 : Int × Int × Int × Int) : Option tA :=
  some ((w ((w (a0.1 * a1.1)) + (w (a0.2.1 * a1.2.2.1)))), (w ((w (a0.1 * a1.2.1)) + (w (a0.2.1 * a1.2.2.2)))), (w ((w (a0.2.2.1 * a1.1)) + (w (a0.2.2.2 * a1.2.2.1)))), (w ((w (a0.2.2.1 * a1.2.1)) + (w (a0.2.2.2 * a1.2.2.2)))))
def f347M (K : Nat) : Mdl := ⟨[(.ro, sA), (.ro, sA)], [sA], fun x => f347G K x.1 x.2.1⟩
def f288E (K : Nat) : Env := ⟨[], tys, eqs, mts, K, [0, 1, 2, 3, 4], [], []⟩
def f288G (K : Nat) (a0 : Int × Int × Int × Int) (a1 : Int × Int) : Option tV :=
  some ((w ((w (a0.1 * a1.1)) + (w (a0.2.1 * a1.2)))), (w ((w (a0.2.2.1 * a1.1)) + (w (a0.2.2.2 * a1.2)))))
def f288M (K : Nat) : Mdl := ⟨[(.ro, sA), (.ro, sV)], [sV], fun x => f288G K x.1 x.2.1⟩
def f289E (K : Nat) : Env := ⟨[], tys, eqs, mts, K, [0, 1, 2, 3, 4], [], []⟩
def f289G (K : Nat) (a0 a1 : Int × Int) : Option tV :=
  some ((w (a0.1 + a1.1)), (w (a0.2 + a1.2)))
def f289M (K : Nat) : Mdl := ⟨[(.ro, sV), (.ro, sV)], [sV], fun x => f289G K x.1 x.2.1⟩
def f298E (K : Nat) : Env := ⟨[(288, f288M K), (289, f289M K), (347, f347M K)], tys, eqs, mts, K, [0, 1, 2, 3, 4], [], []⟩
def f298G (K : Nat) (a0 a1 : tA × Int × Int) : Option tM :=
  (f347G K a0.1 a1.1).bind fun y1 => (f288G K a0.1 a1.2).bind fun y2 => (f289G K y2 a0.2).bind fun y3 => some (y1, y3)
def f298M (K : Nat) : Mdl := ⟨[(.ro, sM), (.ro, sM)], [sM], fun x => f298G K x.1 x.2.1⟩
def f260E (K : Nat) : Env := ⟨[], tys, eqs, mts, K, [0, 1, 4], [], []⟩
def f260G (K : Nat) (a0 a1 : Int) : Option Int :=
  (bif (a1 != 0) then (bif (a1 != 0) then some ((w ((a0.tmod a1) + a1)).tmod a1) else none) else none)
def f260M (K : Nat) : Mdl := ⟨[(.ro, sI), (.ro, sI)], [sI], fun x => f260G K x.1 x.2.1⟩
def f161E (K : Nat) : Env := ⟨[(260, f260M K)], tys, eqs, mts, K, [0, 1, 2, 3, 4, 5], [], []⟩
def f161G (K : Nat) (a0 : Int × Int × Int) (a1 : Int × Int) : Option tV :=
  (f260G K a1.2 a0.2.2).bind fun y1 => (bif (a0.2.2 != 0) then (f260G K (w (a1.1 - (w ((w ((w (a1.2 - y1)).tdiv a0.2.2)) * a0.2.1)))) a0.1).bind fun y2 => some (y2, y1) else none)
def f161M (K : Nat) : Mdl := ⟨[(.ro, sL), (.ro, sV)], [sV], fun x => f161G K x.1 x.2.1⟩
def f297E (K : Nat) : Env := ⟨[(161, f161M K)], tys, eqs, mts, K, [0, 1, 2, 3, 4], [], []⟩
def f297G (K : Nat) (a0 : Int × Int × Int) (a1 : tA × Int × Int) : Option tM :=
  (f161G K a0 a1.2).bind fun y1 => some (a1.1, y1)
def f297M (K : Nat) : Mdl := ⟨[(.ro, sL), (.ro, sM)], [sM], fun x => f297G K x.1 x.2.1⟩
def f332C : Code := codeOf Tryz.f332
def f332E (K : Nat) : Env := ⟨[], tys, eqs, mts, K, [0, 1, 4, 5, 7, 8, 9, 19, 28], [], []⟩
def f332_b2 (K : Nat) (a0 a1 : List Int) (L2 : Int → Option Int) (q3 : Int) : Option Int :=
  (bif (decide (q3 < (a0.length : Int))) then (bif (decide (0 ≤ q3) && decide (q3 < (a0.length : Int))) then (bif (decide (0 ≤ q3) && decide (q3 < (a1.length : Int))) then (bif ((a0.getD ((0 : Int) + q3).toNat (0 : Int)) != (a1.getD ((0 : Int) + q3).toNat (0 : Int))) then (bif (decide (0 ≤ q3) && decide (q3 < (a0.length : Int))) then (bif (decide (0 ≤ q3) && decide (q3 < (a1.length : Int))) then (bif (decide ((a0.getD ((0 : Int) + q3).toNat (0 : Int)) < (a1.getD ((0 : Int) + q3).toNat (0 : Int)))) then some (-1 : Int) else some (1 : Int)) else none) else none) else L2 (w (q3 + (1 : Int)))) else none) else none) else some (0 : Int))
def f332_l2 (K : Nat) (a0 a1 : List Int) (n : Nat) (q3 : Int) : Option Int :=
  iter (X := Int) (fun L x => (fun L2 => f332_b2 K a0 a1 L2 x) (fun v0 => L v0)) n q3
def f332_fr2 (a0 a1 : List Int) (q3 : Int) : Fr := ⟨30, [(0, .v false [.row 0]), (1, .v false [.row 1]), (4, .v false [.int .i64 (0 : Int)]), (7, .v false [.int .i64 (a0.length : Int)]), (8, .v false [.int .i64 q3])], [], [some ⟨2, sI, a0, .ro⟩, some ⟨2, sI, a1, .ro⟩]⟩
def f332_k2 (K : Nat) (a0 a1 : List Int) (lr : LR Int) : Ex → Fr → Option Int :=
  contC (f332E K) 2 lr f332C [1, 0, 1, 0] (finK (f332E K) Tryz.f332 [(.ro, (.list 2 sI)), (.ro, (.list 2 sI))] [sI] (a0, a1, ()))
def f332_g (K : Nat) (a0 a1 : List Int) (I2 : Int → Option Int) : Option Int :=
  I2 (0 : Int)
def f332G (K : Nat) (a0 a1 : List Int) : Option Int :=
  f332_g K a0 a1 (fun d0 => f332_l2 K a0 a1 K d0)
def f332M (K : Nat) : Mdl := ⟨[(.ro, (.list 2 sI)), (.ro, (.list 2 sI))], [sI], fun x => f332G K x.1 x.2.1⟩
def f349E (K : Nat) : Env := ⟨[(332, f332M K)], tys, eqs, mts, K, [0, 1, 2, 3, 4], [], []⟩
def f349G (K : Nat) (a0 a1 : Int × Int × Int × Int) : Option Int :=
  (f332G K [a0.1, a0.2.1, a0.2.2.1, a0.2.2.2] [a1.1, a1.2.1, a1.2.2.1, a1.2.2.2]).bind fun y1 => some y1
def f349M (K : Nat) : Mdl := ⟨[(.ro, sA), (.ro, sA)], [sI], fun x => f349G K x.1 x.2.1⟩
def f269E (K : Nat) : Env := ⟨[(332, f332M K)], tys, eqs, mts, K, [0, 1, 2, 3, 4], [], []⟩
def f269G (K : Nat) (a0 a1 : Int × Int) : Option Int :=
  (f332G K [a0.1, a0.2] [a1.1, a1.2]).bind fun y1 => some y1
def f269M (K : Nat) : Mdl := ⟨[(.ro, sV), (.ro, sV)], [sI], fun x => f269G K x.1 x.2.1⟩
def f300E (K : Nat) : Env := ⟨[(269, f269M K), (349, f349M K)], tys, eqs, mts, K, [0, 1, 2, 3, 4, 5, 12], [], []⟩
def f300G (K : Nat) (a0 a1 : tA × Int × Int) : Option Int :=
  (f349G K a0.1 a1.1).bind fun y1 => (bif (y1 != (0 : Int)) then some y1 else (f269G K a0.2 a1.2).bind fun y2 => some y2)
def f300M (K : Nat) : Mdl := ⟨[(.ro, sM), (.ro, sM)], [sI], fun x => f300G K x.1 x.2.1⟩
def f299G (K : Nat) (a0 : List tM) (a1 : tM → tM → Option Int) : Option (List tM) := sortF sM a0 a1
def f299M (K : Nat) : Mdl := ⟨[(.io, (.list 95 sM)), (.ro, (.fn2 sM sM sI))], [], fun x => f299G K x.1 x.2.1⟩
def f205C : Code := codeOf Tryz.f205
def f205E (K : Nat) : Env := ⟨[(231, f231M K), (297, f297M K), (298, f298M K), (299, f299M K), (300, f300M K)], tys, eqs, mts, K, [0, 1, 2, 4, 5, 6, 7, 9, 10, 22, 25, 26, 27, 28, 42], [], []⟩
def f205_b16 (K : Nat) (a0 : Int × Int × Int) (a1 : List tM) (q13 : Int) (q15 : List tM) (L12 : Int → (List (tM × Bool)) → (List tM) → Option (List tM)) (L16 : Int → (List (tM × Bool)) → (List tM) → Option (List tM)) (q17 : Int) (q18 : List (tM × Bool)) (q19 : List tM) : Option (List tM) :=
  (bif (decide (q17 < (a1.length : Int))) then (bif (decide (0 ≤ q17) && decide (q17 < (a1.length : Int))) then (bif (decide (0 ≤ q13) && decide (q13 < (q19.length : Int))) then (f298G K ((((a1.getD ((0 : Int) + q17).toNat zM).1).1, (((a1.getD ((0 : Int) + q17).toNat zM).1).2).1, ((((a1.getD ((0 : Int) + q17).toNat zM).1).2).2)), ((a1.getD ((0 : Int) + q17).toNat zM).2)) ((((q19.getD ((0 : Int) + q13).toNat zM).1).1, (((q19.getD ((0 : Int) + q13).toNat zM).1).2).1, ((((q19.getD ((0 : Int) + q13).toNat zM).1).2).2)), ((q19.getD ((0 : Int) + q13).toNat zM).2))).bind fun y20 => (f297G K a0 y20).bind fun y21 => (bif (!((mfind (eqSh sM) q18 y21).getD false)) then (bif (Nat.ble (q19.length + [y21].length) (lim 48)) then L16 (w (q17 + (1 : Int))) (mput (eqSh sM) q18 y21 true) (q19 ++ [y21]) else none) else L16 (w (q17 + (1 : Int))) q18 q19) else none) else none) else L12 (w (q13 + (1 : Int))) q18 q19)
def f205_l16 (K : Nat) (a0 : Int × Int × Int) (a1 : List tM) (q13 : Int) (q15 : List tM) (L12 : Int → (List (tM × Bool)) → (List tM) → Option (List tM)) (n : Nat) (q17 : Int) (q18 : List (tM × Bool)) (q19 : List tM) : Option (List tM) :=
  iter (X := Int × List (tM × Bool) × List tM) (fun L x => (fun L16 => f205_b16 K a0 a1 q13 q15 L12 L16 x.1 x.2.1 x.2.2) (fun v0 v1 v2 => L (v0, v1, v2))) n (q17, q18, q19)
def f205_fr16 (a0 : Int × Int × Int) (a1 : List tM) (q13 : Int) (q15 : List tM) (q17 : Int) (q18 : List (tM × Bool)) (q19 : List tM) : Fr := ⟨53, [(0, .v true [.int .i64 a0.1, .int .i64 a0.2.1, .int .i64 a0.2.2]), (1, .v false [.row 0]), (2, .v false [.box 0 0]), (4, .v false [.row 1]), (5, .v false [.row 2]), (6, .v false [.mp 1]), (7, .v false [.int .i64 q13]), (22, .v false [.bool (decide (q13 < (q15.length : Int)))]), (25, .v false [.row 0]), (26, .v false [.int .i64 (a1.length : Int)]), (27, .v false [.int .i64 q17])], [some ⟨true, [.int .i64 a0.1, .int .i64 a0.2.1, .int .i64 a0.2.2]⟩, some ⟨true, [.mc sM .bool q18]⟩], [some ⟨95, sM, a1, .ro⟩, some ⟨95, sM, [], .own⟩, some ⟨95, sM, q19, .own⟩]⟩
def f205_b12 (K : Nat) (a0 : Int × Int × Int) (a1 : List tM) (I16 : Int → (List tM) → Int → (List (tM × Bool)) → (List tM) → Option (List tM)) (L12 : Int → (List (tM × Bool)) → (List tM) → Option (List tM)) (q13 : Int) (q14 : List (tM × Bool)) (q15 : List tM) : Option (List tM) :=
  (bif (decide (q13 < (q15.length : Int))) then I16 q13 q15 (0 : Int) q14 q15 else (f299G K q15 (fun z22 z23 => f300G K z22 z23)).bind fun y24 => some y24)
def f205_l12 (K : Nat) (a0 : Int × Int × Int) (a1 : List tM) (n : Nat) (q13 : Int) (q14 : List (tM × Bool)) (q15 : List tM) : Option (List tM) :=
  iter (X := Int × List (tM × Bool) × List tM) (fun L x => (fun L12 => f205_b12 K a0 a1 (fun c0 c1 d0 d1 d2 => f205_l16 K a0 a1 c0 c1 L12 K d0 d1 d2) L12 x.1 x.2.1 x.2.2) (fun v0 v1 v2 => L (v0, v1, v2))) n (q13, q14, q15)
def f205_fr12 (a0 : Int × Int × Int) (a1 : List tM) (q13 : Int) (q14 : List (tM × Bool)) (q15 : List tM) : Fr := ⟨53, [(0, .v true [.int .i64 a0.1, .int .i64 a0.2.1, .int .i64 a0.2.2]), (1, .v false [.row 0]), (2, .v false [.box 0 0]), (4, .v false [.row 1]), (5, .v false [.row 2]), (6, .v false [.mp 1]), (7, .v false [.int .i64 q13])], [some ⟨true, [.int .i64 a0.1, .int .i64 a0.2.1, .int .i64 a0.2.2]⟩, some ⟨true, [.mc sM .bool q14]⟩], [some ⟨95, sM, a1, .ro⟩, some ⟨95, sM, [], .own⟩, some ⟨95, sM, q15, .own⟩]⟩
def f205_k12 (K : Nat) (a0 : Int × Int × Int) (a1 : List tM) (lr : LR (List tM)) : Ex → Fr → Option (List tM) :=
  contC (f205E K) 1 lr f205C [1, 1, 1, 0, 1, 0] (finK (f205E K) Tryz.f205 [(.ro, sL), (.ro, (.list 95 sM))] [(.list 95 sM)] (a0, a1, ()))
def f205_k16 (K : Nat) (a0 : Int × Int × Int) (a1 : List tM) (F12 : Fr → Option (List tM)) (bq13 : Int) (bq14 : List (tM × Bool)) (bq15 : List tM) (lr : LR (List tM)) : Ex → Fr → Option (List tM) :=
  contC (f205E K) 1 lr (selC f205C [1, 1, 1, 0, 1, 0, 0]) [1, 0, 0, 1, 0] (loopK 1 (f205_fr12 a0 a1 bq13 bq14 bq15) F12 (f205_k12 K a0 a1 lr))
def f205_g (K : Nat) (a0 : Int × Int × Int) (a1 : List tM) (I12 : Int → (List (tM × Bool)) → (List tM) → Option (List tM)) : Option (List tM) :=
  (f231G K).bind fun y1 => (bif (decide (0 ≤ (0 : Int)) && decide ((0 : Int) < ([(y1, (0 : Int), (0 : Int))].length : Int))) then I12 (0 : Int) (mput (eqSh sM) [] (((([(y1, (0 : Int), (0 : Int))].getD ((0 : Int) + (0 : Int)).toNat zM).1).1, ((([(y1, (0 : Int), (0 : Int))].getD ((0 : Int) + (0 : Int)).toNat zM).1).2).1, (((([(y1, (0 : Int), (0 : Int))].getD ((0 : Int) + (0 : Int)).toNat zM).1).2).2)), (([(y1, (0 : Int), (0 : Int))].getD ((0 : Int) + (0 : Int)).toNat zM).2)) true) [(y1, (0 : Int), (0 : Int))] else none)
def f205G (K : Nat) (a0 : Int × Int × Int) (a1 : List tM) : Option (List tM) :=
  f205_g K a0 a1 (fun d0 d1 d2 => f205_l12 K a0 a1 K d0 d1 d2)
def f205M (K : Nat) : Mdl := ⟨[(.ro, sL), (.ro, (.list 95 sM))], [(.list 95 sM)], fun x => f205G K x.1 x.2.1⟩
def f86E (K : Nat) : Env := ⟨[(146, f146M K), (204, f204M K), (205, f205M K)], tys, eqs, mts, K, [0, 1, 4, 5, 6, 7, 8, 9, 10, 11, 20, 24], [], []⟩
def f86G (K : Nat) (a0 : ByteArray) (a1 : Int) : Option (Int × tL × (List tM) × Int) :=
  (f204G K a0 a1).bind fun y1 => (bif (!y1.2.2) then some ((0 : Int), ((0 : Int), (0 : Int), (0 : Int)), [], (4 : Int)) else (f146G K a1 (1 : Int) (4 : Int)).bind fun y2 => (bif (!y2) then some ((0 : Int), ((0 : Int), (0 : Int), (0 : Int)), [], (2 : Int)) else (f205G K ((w ((2 : Int) * a1)), (0 : Int), (w ((2 : Int) * a1))) y1.2.1).bind fun y3 => some (y1.1, ((w ((2 : Int) * a1)), (0 : Int), (w ((2 : Int) * a1))), y3, (0 : Int))))
def f86M (K : Nat) : Mdl := ⟨[(.ro, .str), (.ro, sI)], [sI, sL, (.list 95 sM), sI], fun x => f86G K x.1 x.2.1⟩
def f183E (K : Nat) : Env := ⟨[(146, f146M K)], tys, eqs, mts, K, [0, 1, 2, 3, 4], [], []⟩
def f183G (K : Nat) (a0 : Int × Int × Int) (a1 : Int × Int) : Option Bool :=
  (f146G K a1.1 (0 : Int) (w (a0.1 - (1 : Int)))).bind fun y1 => (bif ((!y1) || true) then (bif ((!y1) || true) then (bif ((!y1) || true) then (bif ((!y1) || true) then (bif ((!y1) || true) then ((bif y1 then f146G K a1.2 (0 : Int) (w (a0.2.2 - (1 : Int))) else some false)).bind fun y2 => some (bif y1 then y2 else false) else none) else none) else none) else none) else none)
def f183M (K : Nat) : Mdl := ⟨[(.ro, sL), (.ro, sV)], [.bool], fun x => f183G K x.1 x.2.1⟩
def f206E (K : Nat) : Env := ⟨[(146, f146M K)], tys, eqs, mts, K, [0, 2], [], []⟩
def f206G (K : Nat) (a0 : Int) : Option Bool :=
  (f146G K a0 (0 : Int) (9 : Int)).bind fun y1 => some y1
def f206M (K : Nat) : Mdl := ⟨[(.ro, sI)], [.bool], fun x => f206G K x.1⟩
def f320E (K : Nat) : Env := ⟨[(183, f183M K), (206, f206M K)], tys, eqs, mts, K, [0, 1, 2, 3], [], []⟩
def f320G (K : Nat) (a0 : tV × Int) (a1 : Int × Int × Int) : Option Bool :=
  (f183G K a1 a0.1).bind fun y1 => (bif ((!(!(!y1))) || true) then (bif ((!(!(!y1))) || true) then ((bif (!(!y1)) then f206G K a0.2 else some false)).bind fun y2 => (bif ((!(!(!y1))) || true) then some (bif (!y1) then true else (!y2)) else none) else none) else none)
def f320M (K : Nat) : Mdl := ⟨[(.ro, (.cons sV sI)), (.cap, sL)], [.bool], fun x => f320G K x.1 x.2.1⟩
def f244C : Code := codeOf Tryz.f244
def f244E (K : Nat) : Env := ⟨[], tys, eqs, mts, K, [0, 1, 4, 5, 7, 8, 9, 16], [], []⟩
def f244_b3 (K : Nat) (a0 : List (tV × Int)) (a1 : ((tV × Int) → Option Bool)) (L3 : Int → Option Int) (q4 : Int) : Option Int :=
  (bif (decide (q4 < (a0.length : Int))) then (bif (decide (0 ≤ q4) && decide (q4 < (a0.length : Int))) then (a1 (((a0.getD ((0 : Int) + q4).toNat (((0 : Int), (0 : Int)), (0 : Int))).1), (a0.getD ((0 : Int) + q4).toNat (((0 : Int), (0 : Int)), (0 : Int))).2)).bind fun y5 => (bif y5 then some q4 else L3 (w (q4 + (1 : Int)))) else none) else some (-1 : Int))
def f244_l3 (K : Nat) (a0 : List (tV × Int)) (a1 : ((tV × Int) → Option Bool)) (n : Nat) (q4 : Int) : Option Int :=
  iter (X := Int) (fun L x => (fun L3 => f244_b3 K a0 a1 L3 x) (fun v0 => L v0)) n q4
def f244_fr3 (a0 : List (tV × Int)) (a1 : ((tV × Int) → Option Bool)) (q4 : Int) : Fr := ⟨19, [(0, .v false [.row 0]), (1, .v false [.fv1 (.cons sV sI) .bool a1]), (4, .v false [.int .i64 (0 : Int)]), (7, .v false [.int .i64 (a0.length : Int)]), (8, .v false [.int .i64 q4])], [], [some ⟨149, (.cons sV sI), a0, .ro⟩]⟩
def f244_k3 (K : Nat) (a0 : List (tV × Int)) (a1 : ((tV × Int) → Option Bool)) (lr : LR Int) : Ex → Fr → Option Int :=
  contC (f244E K) 1 lr f244C [1, 0, 1, 0] (finK (f244E K) Tryz.f244 [(.ro, (.list 149 (.cons sV sI))), (.ro, (.fn1 (.cons sV sI) .bool))] [sI] (a0, a1, ()))
def f244_g (K : Nat) (a0 : List (tV × Int)) (a1 : ((tV × Int) → Option Bool)) (I3 : Int → Option Int) : Option Int :=
  I3 (0 : Int)
def f244G (K : Nat) (a0 : List (tV × Int)) (a1 : ((tV × Int) → Option Bool)) : Option Int :=
  f244_g K a0 a1 (fun d0 => f244_l3 K a0 a1 K d0)
def f244M (K : Nat) : Mdl := ⟨[(.ro, (.list 149 (.cons sV sI))), (.ro, (.fn1 (.cons sV sI) .bool))], [sI], fun x => f244G K x.1 x.2.1⟩
def f131E (K : Nat) : Env := ⟨[(244, f244M K)], tys, eqs, mts, K, [0, 1, 4], [], []⟩
def f131G (K : Nat) (a0 : List (tV × Int)) (a1 : ((tV × Int) → Option Bool)) : Option Bool :=
  (f244G K a0 a1).bind fun y1 => some (decide (y1 ≥ (0 : Int)))
def f131M (K : Nat) : Mdl := ⟨[(.ro, (.list 149 (.cons sV sI))), (.ro, (.fn1 (.cons sV sI) .bool))], [.bool], fun x => f131G K x.1 x.2.1⟩
def f240E (K : Nat) : Env := ⟨[(131, f131M K), (320, f320M K)], tys, eqs, mts, K, [0, 1, 2, 4], [], []⟩
def f240G (K : Nat) (a0 : Int × Int × Int) (a1 : List (tV × Int)) : Option Bool :=
  (bif ((!(decide ((a1.length : Int) ≤ (100 : Int)))) || true) then (bif ((!(decide ((a1.length : Int) ≤ (100 : Int)))) || true) then ((bif (decide ((a1.length : Int) ≤ (100 : Int))) then f131G K a1 (fun z1 => f320G K z1 a0) else some false)).bind fun y2 => (bif ((!(decide ((a1.length : Int) ≤ (100 : Int)))) || true) then some (bif (decide ((a1.length : Int) ≤ (100 : Int))) then (!y2) else false) else none) else none) else none)
def f240M (K : Nat) : Mdl := ⟨[(.ro, sL), (.ro, (.list 149 (.cons sV sI)))], [.bool], fun x => f240G K x.1 x.2.1⟩
def f118C : Code := codeOf Tryz.f118
def f118E (K : Nat) : Env := ⟨[(86, f86M K), (240, f240M K)], tys, eqs, mts, K, [0, 1, 2, 6, 7, 8, 9, 10, 11, 12, 13, 15, 25, 28, 29, 30, 31, 37], [], []⟩
def f118_b4 (K : Nat) (a0 : ByteArray) (a1 : Int) (a2 : List (List (tV × Int))) (y1 : Int × tL × (List tM) × Int) (L4 : Int → Option (Int × tL × (List tM) × Int)) (q5 : Int) : Option (Int × tL × (List tM) × Int) :=
  (bif (decide (q5 < (a2.length : Int))) then (bif (decide (0 ≤ q5) && decide (q5 < (a2.length : Int))) then (f240G K y1.2.1 (a2.getD ((0 : Int) + q5).toNat [])).bind fun y6 => (bif (!y6) then some ((0 : Int), ((0 : Int), (0 : Int), (0 : Int)), [], (2 : Int)) else L4 (w (q5 + (1 : Int)))) else none) else some (y1.1, y1.2.1, y1.2.2.1, (0 : Int)))
def f118_l4 (K : Nat) (a0 : ByteArray) (a1 : Int) (a2 : List (List (tV × Int))) (y1 : Int × tL × (List tM) × Int) (n : Nat) (q5 : Int) : Option (Int × tL × (List tM) × Int) :=
  iter (X := Int) (fun L x => (fun L4 => f118_b4 K a0 a1 a2 y1 L4 x) (fun v0 => L v0)) n q5
def f118_fr4 (a0 : ByteArray) (a1 : Int) (a2 : List (List (tV × Int))) (y1 : Int × tL × (List tM) × Int) (q5 : Int) : Fr := ⟨43, [(0, .v false [.str a0]), (1, .v false [.int .i64 a1]), (2, .v false [.row 0]), (6, .v false [.int .i64 (0 : Int)]), (7, .v false [.box 0 0]), (8, .v false [.row 1]), (9, .v false [.int .i64 (0 : Int)]), (10, .v false [.int .i64 y1.1]), (11, .v false [.box 1 0]), (12, .v false [.row 2]), (13, .v false [.int .i64 y1.2.2.2]), (25, .v false [.bool (y1.2.2.2 != (0 : Int))]), (28, .v false [.row 0]), (29, .v false [.int .i64 (a2.length : Int)]), (30, .v false [.int .i64 q5])], [some ⟨true, [.int .i64 (0 : Int), .int .i64 (0 : Int), .int .i64 (0 : Int)]⟩, some ⟨true, [.int .i64 y1.2.1.1, .int .i64 y1.2.1.2.1, .int .i64 y1.2.1.2.2]⟩], [some ⟨26, (.list 149 (.cons sV sI)), a2, .ro⟩, some ⟨95, sM, [], .own⟩, some ⟨95, sM, y1.2.2.1, .own⟩]⟩
def f118_k4 (K : Nat) (a0 : ByteArray) (a1 : Int) (a2 : List (List (tV × Int))) (lr : LR (Int × tL × (List tM) × Int)) : Ex → Fr → Option (Int × tL × (List tM) × Int) :=
  contC (f118E K) 1 lr f118C [1, 1, 1, 0, 1, 0] (finK (f118E K) Tryz.f118 [(.ro, .str), (.ro, sI), (.ro, (.list 26 (.list 149 (.cons sV sI))))] [sI, sL, (.list 95 sM), sI] (a0, a1, a2, ()))
def f118_g (K : Nat) (a0 : ByteArray) (a1 : Int) (a2 : List (List (tV × Int))) (I4 : (Int × tL × (List tM) × Int) → Int → Option (Int × tL × (List tM) × Int)) : Option (Int × tL × (List tM) × Int) :=
  (f86G K a0 a1).bind fun y1 => (bif (y1.2.2.2 != (0 : Int)) then some ((0 : Int), ((0 : Int), (0 : Int), (0 : Int)), [], y1.2.2.2) else I4 y1 (0 : Int))
def f118G (K : Nat) (a0 : ByteArray) (a1 : Int) (a2 : List (List (tV × Int))) : Option (Int × tL × (List tM) × Int) :=
  f118_g K a0 a1 a2 (fun c0 d0 => f118_l4 K a0 a1 a2 c0 K d0)
def f118M (K : Nat) : Mdl := ⟨[(.ro, .str), (.ro, sI), (.ro, (.list 26 (.list 149 (.cons sV sI))))], [sI, sL, (.list 95 sM), sI], fun x => f118G K x.1 x.2.1 x.2.2.1⟩
def f248E (K : Nat) : Env := ⟨[(146, f146M K)], tys, eqs, mts, K, [0, 2], [], []⟩
def f248G (K : Nat) (a0 : Int) : Option Bool :=
  (f146G K a0 (0 : Int) (1 : Int)).bind fun y1 => some y1
def f248M (K : Nat) : Mdl := ⟨[(.ro, sI)], [.bool], fun x => f248G K x.1⟩
def f238E (K : Nat) : Env := ⟨[], tys, eqs, mts, K, [0, 1, 2], [], []⟩
def f238G (K : Nat) (a0 : Int × Int × Int) : Option Int :=
  some (w (a0.1 * a0.2.2))
def f238M (K : Nat) : Mdl := ⟨[(.ro, sL)], [sI], fun x => f238G K x.1⟩
def f249E (K : Nat) : Env := ⟨[(146, f146M K), (238, f238M K)], tys, eqs, mts, K, [0, 1, 2], [], []⟩
def f249G (K : Nat) (a0 : Int × Int × Int) : Option Bool :=
  (f146G K a0.1 (1 : Int) (64 : Int)).bind fun y1 => (bif ((!y1) || true) then (bif ((!y1) || true) then ((bif y1 then f146G K a0.2.2 (1 : Int) (64 : Int) else some false)).bind fun y2 => (bif ((!(bif y1 then y2 else false)) || true) then (bif ((!(bif y1 then y2 else false)) || true) then (bif ((!(bif y1 then y2 else false)) || true) then (bif ((!(bif y1 then y2 else false)) || true) then (bif ((!(bif y1 then y2 else false)) || true) then ((bif (bif y1 then y2 else false) then f146G K a0.2.1 (0 : Int) (w (a0.1 - (1 : Int))) else some false)).bind fun y3 => (bif ((!(bif (bif y1 then y2 else false) then y3 else false)) || true) then ((bif (bif (bif y1 then y2 else false) then y3 else false) then f238G K a0 else some (0 : Int))).bind fun y4 => (bif ((!(bif (bif y1 then y2 else false) then y3 else false)) || true) then some (bif (bif (bif y1 then y2 else false) then y3 else false) then (decide (y4 ≤ (64 : Int))) else false) else none) else none) else none) else none) else none) else none) else none) else none) else none)
def f249M (K : Nat) : Mdl := ⟨[(.ro, sL)], [.bool], fun x => f249G K x.1⟩
def f323E (K : Nat) : Env := ⟨[(146, f146M K)], tys, eqs, mts, K, [0, 1, 2, 4], [], []⟩
def f323G (K : Nat) (a0 a1 a2 : Int) : Option Bool :=
  (f146G K a0 a1 a2).bind fun y1 => some (!y1)
def f323M (K : Nat) : Mdl := ⟨[(.ro, sI), (.cap, sI), (.cap, sI)], [.bool], fun x => f323G K x.1 x.2.1 x.2.2.1⟩
def f368C : Code := codeOf Tryz.f368
def f368E (K : Nat) : Env := ⟨[], tys, eqs, mts, K, [0, 1, 4, 5, 7, 8, 9, 16], [], []⟩
def f368_b3 (K : Nat) (a0 : List Int) (a1 : (Int → Option Bool)) (L3 : Int → Option Int) (q4 : Int) : Option Int :=
  (bif (decide (q4 < (a0.length : Int))) then (bif (decide (0 ≤ q4) && decide (q4 < (a0.length : Int))) then (a1 (a0.getD ((0 : Int) + q4).toNat (0 : Int))).bind fun y5 => (bif y5 then some q4 else L3 (w (q4 + (1 : Int)))) else none) else some (-1 : Int))
def f368_l3 (K : Nat) (a0 : List Int) (a1 : (Int → Option Bool)) (n : Nat) (q4 : Int) : Option Int :=
  iter (X := Int) (fun L x => (fun L3 => f368_b3 K a0 a1 L3 x) (fun v0 => L v0)) n q4
def f368_fr3 (a0 : List Int) (a1 : (Int → Option Bool)) (q4 : Int) : Fr := ⟨19, [(0, .v false [.row 0]), (1, .v false [.fv1 sI .bool a1]), (4, .v false [.int .i64 (0 : Int)]), (7, .v false [.int .i64 (a0.length : Int)]), (8, .v false [.int .i64 q4])], [], [some ⟨2, sI, a0, .ro⟩]⟩
def f368_k3 (K : Nat) (a0 : List Int) (a1 : (Int → Option Bool)) (lr : LR Int) : Ex → Fr → Option Int :=
  contC (f368E K) 1 lr f368C [1, 0, 1, 0] (finK (f368E K) Tryz.f368 [(.ro, (.list 2 sI)), (.ro, (.fn1 sI .bool))] [sI] (a0, a1, ()))
def f368_g (K : Nat) (a0 : List Int) (a1 : (Int → Option Bool)) (I3 : Int → Option Int) : Option Int :=
  I3 (0 : Int)
def f368G (K : Nat) (a0 : List Int) (a1 : (Int → Option Bool)) : Option Int :=
  f368_g K a0 a1 (fun d0 => f368_l3 K a0 a1 K d0)
def f368M (K : Nat) : Mdl := ⟨[(.ro, (.list 2 sI)), (.ro, (.fn1 sI .bool))], [sI], fun x => f368G K x.1 x.2.1⟩
def f322E (K : Nat) : Env := ⟨[(368, f368M K)], tys, eqs, mts, K, [0, 1, 4], [], []⟩
def f322G (K : Nat) (a0 : List Int) (a1 : (Int → Option Bool)) : Option Bool :=
  (f368G K a0 a1).bind fun y1 => some (decide (y1 ≥ (0 : Int)))
def f322M (K : Nat) : Mdl := ⟨[(.ro, (.list 2 sI)), (.ro, (.fn1 sI .bool))], [.bool], fun x => f322G K x.1 x.2.1⟩
def f250E (K : Nat) : Env := ⟨[(322, f322M K), (323, f323M K)], tys, eqs, mts, K, [0, 1, 2, 4, 5, 6], [], []⟩
def f250G (K : Nat) (a0 : List Int) (a1 a2 : Int) : Option Bool :=
  (f322G K a0 (fun z1 => f323G K z1 a1 a2)).bind fun y2 => some (!y2)
def f250M (K : Nat) : Mdl := ⟨[(.ro, (.list 2 sI)), (.ro, sI), (.ro, sI)], [.bool], fun x => f250G K x.1 x.2.1 x.2.2.1⟩
def f138E (K : Nat) : Env := ⟨[(238, f238M K), (248, f248M K), (249, f249M K), (250, f250M K)], tys, eqs, mts, K, [0, 1, 2], [], []⟩
def f138G (K : Nat) (a0 : Int × tL × List Int) : Option Bool :=
  (f248G K a0.1).bind fun y1 => (bif ((!y1) || true) then (bif ((!y1) || true) then ((bif y1 then f249G K a0.2.1 else some false)).bind fun y2 => (bif ((!(bif y1 then y2 else false)) || true) then (bif ((!(bif y1 then y2 else false)) || true) then (bif ((!(bif y1 then y2 else false)) || true) then (bif ((!(bif y1 then y2 else false)) || true) then (bif ((!(bif y1 then y2 else false)) || true) then ((bif (bif y1 then y2 else false) then f238G K a0.2.1 else some (0 : Int))).bind fun y3 => (bif ((!(bif y1 then y2 else false)) || true) then (bif ((!(bif (bif y1 then y2 else false) then ((a0.2.2.length : Int) == y3) else false)) || true) then (bif ((!(bif (bif y1 then y2 else false) then ((a0.2.2.length : Int) == y3) else false)) || true) then ((bif (bif (bif y1 then y2 else false) then ((a0.2.2.length : Int) == y3) else false) then f250G K a0.2.2 (0 : Int) (9 : Int) else some false)).bind fun y4 => some (bif (bif (bif y1 then y2 else false) then ((a0.2.2.length : Int) == y3) else false) then y4 else false) else none) else none) else none) else none) else none) else none) else none) else none) else none) else none)
def f138M (K : Nat) : Mdl := ⟨[(.ro, (.cons sI (.cons sL (.list 2 sI))))], [.bool], fun x => f138G K x.1⟩
def f207C : Code := codeOf Tryz.f207
def f207E (K : Nat) : Env := ⟨[], tys, eqs, mts, K, [0, 1, 2, 3, 4, 5, 8, 9, 10, 13, 14, 15], [], []⟩
def f207_b9 (K : Nat) (a0 : Int × Int × Int) (q7 : Int) (L6 L9 : Int → (List tV) → Option (List tV)) (q10 : Int) (q11 : List tV) : Option (List tV) :=
  (bif (decide (q10 < a0.2.2)) then (bif (Nat.ble (q11.length + [(q7, q10)].length) (lim 16)) then L9 (w (q10 + (1 : Int))) (q11 ++ [(q7, q10)]) else none) else L6 (w (q7 + (1 : Int))) q11)
def f207_l9 (K : Nat) (a0 : Int × Int × Int) (q7 : Int) (L6 : Int → (List tV) → Option (List tV)) (n : Nat) (q10 : Int) (q11 : List tV) : Option (List tV) :=
  iter (X := Int × List tV) (fun L x => (fun L9 => f207_b9 K a0 q7 L6 L9 x.1 x.2) (fun v0 v1 => L (v0, v1))) n (q10, q11)
def f207_fr9 (a0 : Int × Int × Int) (q7 q10 : Int) (q11 : List tV) : Fr := ⟨26, [(0, .v true [.int .i64 a0.1, .int .i64 a0.2.1, .int .i64 a0.2.2]), (1, .v false [.box 0 0]), (2, .v false [.row 0]), (3, .v false [.row 1]), (4, .v false [.int .i64 q7]), (8, .v false [.int .i64 a0.1]), (9, .v false [.int .i64 q7]), (10, .v false [.bool (decide (q7 < a0.1))]), (13, .v false [.int .i64 a0.2.2]), (14, .v false [.int .i64 q10])], [some ⟨true, [.int .i64 a0.1, .int .i64 a0.2.1, .int .i64 a0.2.2]⟩], [some ⟨79, sV, [], .own⟩, some ⟨79, sV, q11, .own⟩]⟩
def f207_b6 (K : Nat) (a0 : Int × Int × Int) (I9 : Int → Int → (List tV) → Option (List tV)) (L6 : Int → (List tV) → Option (List tV)) (q7 : Int) (q8 : List tV) : Option (List tV) :=
  (bif (decide (q7 < a0.1)) then I9 q7 (0 : Int) q8 else some q8)
def f207_l6 (K : Nat) (a0 : Int × Int × Int) (n : Nat) (q7 : Int) (q8 : List tV) : Option (List tV) :=
  iter (X := Int × List tV) (fun L x => (fun L6 => f207_b6 K a0 (fun c0 d0 d1 => f207_l9 K a0 c0 L6 K d0 d1) L6 x.1 x.2) (fun v0 v1 => L (v0, v1))) n (q7, q8)
def f207_fr6 (a0 : Int × Int × Int) (q7 : Int) (q8 : List tV) : Fr := ⟨26, [(0, .v true [.int .i64 a0.1, .int .i64 a0.2.1, .int .i64 a0.2.2]), (1, .v false [.box 0 0]), (2, .v false [.row 0]), (3, .v false [.row 1]), (8, .v false [.int .i64 a0.1]), (9, .v false [.int .i64 q7])], [some ⟨true, [.int .i64 a0.1, .int .i64 a0.2.1, .int .i64 a0.2.2]⟩], [some ⟨79, sV, [], .own⟩, some ⟨79, sV, q8, .own⟩]⟩
def f207_k6 (K : Nat) (a0 : Int × Int × Int) (lr : LR (List tV)) : Ex → Fr → Option (List tV) :=
  contC (f207E K) 0 lr f207C [1, 1, 0, 1, 0] (finK (f207E K) Tryz.f207 [(.ro, sL)] [(.list 79 sV)] (a0, ()))
def f207_k9 (K : Nat) (a0 : Int × Int × Int) (F6 : Fr → Option (List tV)) (bq7 : Int) (bq8 : List tV) (lr : LR (List tV)) : Ex → Fr → Option (List tV) :=
  contC (f207E K) 0 lr (selC f207C [1, 1, 0, 1, 0, 0]) [1, 1, 0, 0, 1, 1, 0] (loopK 0 (f207_fr6 a0 bq7 bq8) F6 (f207_k6 K a0 lr))
def f207_g (K : Nat) (a0 : Int × Int × Int) (I6 : Int → (List tV) → Option (List tV)) : Option (List tV) :=
  I6 (0 : Int) []
def f207G (K : Nat) (a0 : Int × Int × Int) : Option (List tV) :=
  f207_g K a0 (fun d0 d1 => f207_l6 K a0 K d0 d1)
def f207M (K : Nat) : Mdl := ⟨[(.ro, sL)], [(.list 79 sV)], fun x => f207G K x.1⟩
def f191E (K : Nat) : Env := ⟨[(288, f288M K), (289, f289M K)], tys, eqs, mts, K, [0, 1, 2, 3, 4], [], []⟩
def f191G (K : Nat) (a0 : tA × Int × Int) (a1 : Int × Int) : Option tV :=
  (f288G K a0.1 a1).bind fun y1 => (f289G K y1 a0.2).bind fun y2 => some y2
def f191M (K : Nat) : Mdl := ⟨[(.ro, sM), (.ro, sV)], [sV], fun x => f191G K x.1 x.2.1⟩
def f130E (K : Nat) : Env := ⟨[], tys, eqs, mts, K, [0, 1, 2, 3, 4], [], []⟩
def f130G (K : Nat) (a0 : Int × Int × Int) (a1 : Int × Int) : Option Int :=
  some (w ((w (a1.1 * a0.2.2)) + a1.2))
def f130M (K : Nat) : Mdl := ⟨[(.ro, sL), (.ro, sV)], [sI], fun x => f130G K x.1 x.2.1⟩
def f140E (K : Nat) : Env := ⟨[(130, f130M K), (161, f161M K)], tys, eqs, mts, K, [0, 1, 2, 3, 4], [], []⟩
def f140G (K : Nat) (a0 : Int × tL × List Int) (a1 : Int × Int) : Option Int :=
  (f161G K a0.2.1 a1).bind fun y1 => (f130G K a0.2.1 y1).bind fun y2 => (bif (decide (0 ≤ y2) && decide (y2 < (a0.2.2.length : Int))) then some (a0.2.2.getD ((0 : Int) + y2).toNat (0 : Int)) else none)
def f140M (K : Nat) : Mdl := ⟨[(.ro, (.cons sI (.cons sL (.list 2 sI)))), (.ro, sV)], [sI], fun x => f140G K x.1 x.2.1⟩
def f251C : Code := codeOf Tryz.f251
def f251E (K : Nat) : Env := ⟨[(140, f140M K), (191, f191M K), (207, f207M K)], tys, eqs, mts, K, [0, 1, 2, 3, 4, 5, 6, 9, 10, 11, 12, 26], [], []⟩
def f251_b5 (K : Nat) (a0 : Int × tL × List Int) (a1 : tA × Int × Int) (y1 : List tV) (L5 : Int → Option Bool) (q6 : Int) : Option Bool :=
  (bif (decide (q6 < (y1.length : Int))) then (bif (decide (0 ≤ q6) && decide (q6 < (y1.length : Int))) then (f191G K a1 (y1.getD ((0 : Int) + q6).toNat ((0 : Int), (0 : Int)))).bind fun y7 => (f140G K a0 y7).bind fun y8 => (bif (decide (0 ≤ q6) && decide (q6 < (a0.2.2.length : Int))) then (bif (y8 != (a0.2.2.getD ((0 : Int) + q6).toNat (0 : Int))) then some false else L5 (w (q6 + (1 : Int)))) else none) else none) else some true)
def f251_l5 (K : Nat) (a0 : Int × tL × List Int) (a1 : tA × Int × Int) (y1 : List tV) (n : Nat) (q6 : Int) : Option Bool :=
  iter (X := Int) (fun L x => (fun L5 => f251_b5 K a0 a1 y1 L5 x) (fun v0 => L v0)) n q6
def f251_fr5 (a0 : Int × tL × List Int) (a1 : tA × Int × Int) (y1 : List tV) (q6 : Int) : Fr := ⟨28, [(0, .v true [.int .i64 a0.1, .int .i64 a0.2.1.1, .int .i64 a0.2.1.2.1, .int .i64 a0.2.1.2.2, .row 0]), (1, .v true [.int .i64 a1.1.1, .int .i64 a1.1.2.1, .int .i64 a1.1.2.2.1, .int .i64 a1.1.2.2.2, .int .i64 a1.2.1, .int .i64 a1.2.2]), (2, .v false [.box 0 0]), (3, .v false [.box 1 0]), (4, .v false [.bool false]), (9, .v false [.row 1]), (10, .v false [.int .i64 (y1.length : Int)]), (11, .v false [.int .i64 q6])], [some ⟨true, [.int .i64 a0.1, .int .i64 a0.2.1.1, .int .i64 a0.2.1.2.1, .int .i64 a0.2.1.2.2, .row 0]⟩, some ⟨true, [.int .i64 a1.1.1, .int .i64 a1.1.2.1, .int .i64 a1.1.2.2.1, .int .i64 a1.1.2.2.2, .int .i64 a1.2.1, .int .i64 a1.2.2]⟩], [some ⟨2, sI, a0.2.2, .ro⟩, some ⟨79, sV, y1, .own⟩]⟩
def f251_k5 (K : Nat) (a0 : Int × tL × List Int) (a1 : tA × Int × Int) (lr : LR Bool) : Ex → Fr → Option Bool :=
  contC (f251E K) 1 lr f251C [1, 0, 1, 0] (finK (f251E K) Tryz.f251 [(.ro, (.cons sI (.cons sL (.list 2 sI)))), (.ro, sM)] [.bool] (a0, a1, ()))
def f251_g (K : Nat) (a0 : Int × tL × List Int) (a1 : tA × Int × Int) (I5 : (List tV) → Int → Option Bool) : Option Bool :=
  (f207G K a0.2.1).bind fun y1 => I5 y1 (0 : Int)
def f251G (K : Nat) (a0 : Int × tL × List Int) (a1 : tA × Int × Int) : Option Bool :=
  f251_g K a0 a1 (fun c0 d0 => f251_l5 K a0 a1 c0 K d0)
def f251M (K : Nat) : Mdl := ⟨[(.ro, (.cons sI (.cons sL (.list 2 sI)))), (.ro, sM)], [.bool], fun x => f251G K x.1 x.2.1⟩
def f139C : Code := codeOf Tryz.f139
def f139E (K : Nat) : Env := ⟨[(251, f251M K)], tys, eqs, mts, K, [0, 1, 2, 4, 6, 7, 8, 9, 10, 16], [], []⟩
def f139_b3 (K : Nat) (a0 : Int × tL × List Int) (a1 : List tM) (L3 : Int → Option Bool) (q4 : Int) : Option Bool :=
  (bif (decide (q4 < (a1.length : Int))) then (bif (decide (0 ≤ q4) && decide (q4 < (a1.length : Int))) then (f251G K a0 ((((a1.getD ((0 : Int) + q4).toNat zM).1).1, (((a1.getD ((0 : Int) + q4).toNat zM).1).2).1, ((((a1.getD ((0 : Int) + q4).toNat zM).1).2).2)), ((a1.getD ((0 : Int) + q4).toNat zM).2))).bind fun y5 => (bif (!y5) then some false else L3 (w (q4 + (1 : Int)))) else none) else some true)
def f139_l3 (K : Nat) (a0 : Int × tL × List Int) (a1 : List tM) (n : Nat) (q4 : Int) : Option Bool :=
  iter (X := Int) (fun L x => (fun L3 => f139_b3 K a0 a1 L3 x) (fun v0 => L v0)) n q4
def f139_fr3 (a0 : Int × tL × List Int) (a1 : List tM) (q4 : Int) : Fr := ⟨18, [(0, .v true [.int .i64 a0.1, .int .i64 a0.2.1.1, .int .i64 a0.2.1.2.1, .int .i64 a0.2.1.2.2, .row 0]), (1, .v false [.row 1]), (2, .v false [.box 0 0]), (4, .v false [.bool false]), (7, .v false [.row 1]), (8, .v false [.int .i64 (a1.length : Int)]), (9, .v false [.int .i64 q4])], [some ⟨true, [.int .i64 a0.1, .int .i64 a0.2.1.1, .int .i64 a0.2.1.2.1, .int .i64 a0.2.1.2.2, .row 0]⟩], [some ⟨2, sI, a0.2.2, .ro⟩, some ⟨95, sM, a1, .ro⟩]⟩
def f139_k3 (K : Nat) (a0 : Int × tL × List Int) (a1 : List tM) (lr : LR Bool) : Ex → Fr → Option Bool :=
  contC (f139E K) 2 lr f139C [1, 0, 1, 0] (finK (f139E K) Tryz.f139 [(.ro, (.cons sI (.cons sL (.list 2 sI)))), (.ro, (.list 95 sM))] [.bool] (a0, a1, ()))
def f139_g (K : Nat) (a0 : Int × tL × List Int) (a1 : List tM) (I3 : Int → Option Bool) : Option Bool :=
  I3 (0 : Int)
def f139G (K : Nat) (a0 : Int × tL × List Int) (a1 : List tM) : Option Bool :=
  f139_g K a0 a1 (fun d0 => f139_l3 K a0 a1 K d0)
def f139M (K : Nat) : Mdl := ⟨[(.ro, (.cons sI (.cons sL (.list 2 sI)))), (.ro, (.list 95 sM))], [.bool], fun x => f139G K x.1 x.2.1⟩
def f321G (K : Nat) (a0 a1 : Int) : Option tV := mulF a0 a1
def f321M (K : Nat) : Mdl := ⟨[(.ro, (.int .u64)), (.ro, (.int .u64))], [(.int .u64), (.int .u64)], fun x => f321G K x.1 x.2.1⟩
def f243C : Code := codeOf Tryz.f243
def f243E (K : Nat) : Env := ⟨[(321, f321M K)], tys, eqs, mts, K, [0, 1, 4, 5, 6, 7, 8, 10, 26, 37], [], []⟩
def f243_b3 (K : Nat) (a0 : List Int) (a1 : Int) (y1 : Int × Int) (L3 : Int → (List Int) → Option (List Int)) (q4 : Int) (q5 : List Int) : Option (List Int) :=
  (bif (decide (q4 < (q5.length : Int))) then (bif (decide (0 ≤ q4) && decide (q4 ≤ (q5.length : Int)) && decide ((q5.length : Int) ≤ (q5.length : Int))) then (bif (decide (0 ≤ (0 : Int)) && decide ((0 : Int) ≤ q4) && decide (q4 ≤ (q5.length : Int))) then L3 (w (q4 + (bif decide ((((0 : Int) + (q5.length : Int)) - ((0 : Int) + q4)) ≤ (((0 : Int) + q4) - (0 : Int))) then (((0 : Int) + (q5.length : Int)) - ((0 : Int) + q4)) else (((0 : Int) + q4) - (0 : Int))))) (q5.take ((0 : Int) + q4).toNat ++ ((q5.take ((0 : Int) + (((0 : Int) + q4) - (0 : Int))).toNat).drop 0).take (bif decide ((((0 : Int) + (q5.length : Int)) - ((0 : Int) + q4)) ≤ (((0 : Int) + q4) - (0 : Int))) then (((0 : Int) + (q5.length : Int)) - ((0 : Int) + q4)) else (((0 : Int) + q4) - (0 : Int))).toNat ++ q5.drop (((0 : Int) + q4).toNat + (bif decide ((((0 : Int) + (q5.length : Int)) - ((0 : Int) + q4)) ≤ (((0 : Int) + q4) - (0 : Int))) then (((0 : Int) + (q5.length : Int)) - ((0 : Int) + q4)) else (((0 : Int) + q4) - (0 : Int))).toNat)) else none) else none) else some q5)
def f243_l3 (K : Nat) (a0 : List Int) (a1 : Int) (y1 : Int × Int) (n : Nat) (q4 : Int) (q5 : List Int) : Option (List Int) :=
  iter (X := Int × List Int) (fun L x => (fun L3 => f243_b3 K a0 a1 y1 L3 x.1 x.2) (fun v0 v1 => L (v0, v1))) n (q4, q5)
def f243_fr3 (a0 : List Int) (a1 : Int) (y1 : Int × Int) (q4 : Int) (q5 : List Int) : Fr := ⟨48, [(0, .v false [.row 0]), (1, .v false [.int .i64 a1]), (4, .v false [.row 1]), (5, .v false [.int .u64 y1.1]), (6, .v false [.int .u64 y1.2]), (7, .v false [.row 2]), (8, .v false [.int .i64 q4]), (10, .v false [.bool (decide (a1 < (0 : Int)))]), (26, .v false [.bool (bif (decide (y1.1 > (0 : Int))) then true else (decide (y1.2 > (9223372036854775807 : Int))))])], [], [some ⟨2, sI, a0, .ro⟩, some ⟨2, sI, [], .own⟩, some ⟨2, sI, q5, .own⟩]⟩
def f243_k3 (K : Nat) (a0 : List Int) (a1 : Int) (lr : LR (List Int)) : Ex → Fr → Option (List Int) :=
  contC (f243E K) 1 lr f243C [1, 1, 1, 1, 1, 1, 0, 0] (finK (f243E K) Tryz.f243 [(.ro, (.list 2 sI)), (.ro, sI)] [(.list 2 sI)] (a0, a1, ()))
def f243_g (K : Nat) (a0 : List Int) (a1 : Int) (I3 : tV → Int → (List Int) → Option (List Int)) : Option (List Int) :=
  (bif (decide (a1 < (0 : Int))) then none else (f321G K (IntKind.u64.wrap (a0.length : Int)) (IntKind.u64.wrap a1)).bind fun y1 => (bif ((!(!(decide (y1.1 > (0 : Int))))) || true) then (bif ((!(!(decide (y1.1 > (0 : Int))))) || true) then (bif (bif (decide (y1.1 > (0 : Int))) then true else (decide (y1.2 > (9223372036854775807 : Int)))) then none else (bif (decide (0 ≤ (w y1.2)) && Nat.ble (w y1.2).toNat (lim 8) && ((w y1.2) == (w y1.2))) then I3 y1 (bif decide (((List.replicate (w y1.2).toNat (0 : Int)).length : Int) ≤ (a0.length : Int)) then ((List.replicate (w y1.2).toNat (0 : Int)).length : Int) else (a0.length : Int)) ((List.replicate (w y1.2).toNat (0 : Int)).take 0 ++ ((a0.take ((0 : Int) + (a0.length : Int)).toNat).drop 0).take (bif decide (((List.replicate (w y1.2).toNat (0 : Int)).length : Int) ≤ (a0.length : Int)) then ((List.replicate (w y1.2).toNat (0 : Int)).length : Int) else (a0.length : Int)).toNat ++ (List.replicate (w y1.2).toNat (0 : Int)).drop (0 + (bif decide (((List.replicate (w y1.2).toNat (0 : Int)).length : Int) ≤ (a0.length : Int)) then ((List.replicate (w y1.2).toNat (0 : Int)).length : Int) else (a0.length : Int)).toNat)) else none)) else none) else none))
def f243G (K : Nat) (a0 : List Int) (a1 : Int) : Option (List Int) :=
  f243_g K a0 a1 (fun c0 d0 d1 => f243_l3 K a0 a1 c0 K d0 d1)
def f243M (K : Nat) : Mdl := ⟨[(.ro, (.list 2 sI)), (.ro, sI)], [(.list 2 sI)], fun x => f243G K x.1 x.2.1⟩
def f267E (K : Nat) : Env := ⟨[(161, f161M K), (191, f191M K)], tys, eqs, mts, K, [0, 1, 2, 3, 4, 5, 6], [], []⟩
def f267G (K : Nat) (a0 : Int × Int × Int) (a1 : tA × Int × Int) (a2 : Int × Int) : Option tV :=
  (f191G K a1 a2).bind fun y1 => (f161G K a0 y1).bind fun y2 => some y2
def f267M (K : Nat) : Mdl := ⟨[(.ro, sL), (.ro, sM), (.ro, sV)], [sV], fun x => f267G K x.1 x.2.1 x.2.2.1⟩
def f268G (K : Nat) (a0 : List tV) (a1 : tV → tV → Option Int) : Option (List tV) := sortF sV a0 a1
def f268M (K : Nat) : Mdl := ⟨[(.io, (.list 79 sV)), (.ro, (.fn2 sV sV sI))], [], fun x => f268G K x.1 x.2.1⟩
def f270C : Code := codeOf Tryz.f270
def f270E (K : Nat) : Env := ⟨[], tys, eqs, mts, K, [0, 2, 3, 4, 5, 8, 13, 25, 32, 44], [], []⟩
def f270_b9 (K : Nat) (a0 : List tV) (q8 : Int) (L9 : Int → Int → (List tV) → Option (List tV)) (q10 q11 : Int) (q12 : List tV) : Option (List tV) :=
  (bif (decide (q11 < (((0 : Int) + (a0.length : Int)) - ((0 : Int) + q8)))) then (bif (decide (0 ≤ q11) && decide (q11 < (((0 : Int) + (a0.length : Int)) - ((0 : Int) + q8)))) then (bif (decide (0 ≤ (w (q11 - (1 : Int)))) && decide ((w (q11 - (1 : Int))) < (((0 : Int) + (a0.length : Int)) - ((0 : Int) + q8)))) then (bif (!(((q12.getD (((0 : Int) + q8) + q11).toNat ((0 : Int), (0 : Int))).1 == (q12.getD (((0 : Int) + q8) + (w (q11 - (1 : Int)))).toNat ((0 : Int), (0 : Int))).1) && ((q12.getD (((0 : Int) + q8) + q11).toNat ((0 : Int), (0 : Int))).2 == (q12.getD (((0 : Int) + q8) + (w (q11 - (1 : Int)))).toNat ((0 : Int), (0 : Int))).2))) then (bif (decide (0 ≤ q11) && decide (q11 < (((0 : Int) + (a0.length : Int)) - ((0 : Int) + q8)))) then (bif (decide (0 ≤ q10) && decide (q10 < (q12.length : Int))) then L9 (w (q10 + (1 : Int))) (w (q11 + (1 : Int))) (q12.set ((0 : Int) + q10).toNat (q12.getD (((0 : Int) + q8) + q11).toNat ((0 : Int), (0 : Int)))) else none) else none) else L9 q10 (w (q11 + (1 : Int))) q12) else none) else none) else (bif (decide (0 ≤ q10) && decide (q10 ≤ (q12.length : Int)) && decide ((q12.length : Int) ≤ (q12.length : Int))) then (bif (decide (0 ≤ (0 : Int)) && decide ((0 : Int) ≤ q10) && decide (q10 ≤ ((clr q12 ((0 : Int) + q10).toNat (((0 : Int) + q10) + (((0 : Int) + (q12.length : Int)) - ((0 : Int) + q10))).toNat ((0 : Int), (0 : Int))).length : Int))) then some ((clr q12 ((0 : Int) + q10).toNat (((0 : Int) + q10) + (((0 : Int) + (q12.length : Int)) - ((0 : Int) + q10))).toNat ((0 : Int), (0 : Int))).take ((0 : Int) + q10).toNat) else none) else none))
def f270_l9 (K : Nat) (a0 : List tV) (q8 : Int) (n : Nat) (q10 q11 : Int) (q12 : List tV) : Option (List tV) :=
  iter (X := Int × Int × List tV) (fun L x => (fun L9 => f270_b9 K a0 q8 L9 x.1 x.2.1 x.2.2) (fun v0 v1 v2 => L (v0, v1, v2))) n (q10, q11, q12)
def f270_fr9 (a0 : List tV) (q8 q10 q11 : Int) (q12 : List tV) : Fr := ⟨61, [(0, .v false [.row 0]), (2, .v false [.row 1]), (3, .v false [.int .i64 q10]), (4, .v false [.view 0 ((0 : Int) + q8) ((0 : Int) + (a0.length : Int))]), (5, .v false [.int .i64 q11]), (8, .v false [.bool (decide ((a0.length : Int) < (2 : Int)))]), (13, .v false [.bool (decide (q8 < (a0.length : Int)))]), (25, .v false [.bool (((a0.getD ((0 : Int) + q8).toNat ((0 : Int), (0 : Int))).1 == (a0.getD ((0 : Int) + (w (q8 - (1 : Int)))).toNat ((0 : Int), (0 : Int))).1) && ((a0.getD ((0 : Int) + q8).toNat ((0 : Int), (0 : Int))).2 == (a0.getD ((0 : Int) + (w (q8 - (1 : Int)))).toNat ((0 : Int), (0 : Int))).2))])], [], [some ⟨79, sV, q12, .own⟩, some ⟨79, sV, [], .own⟩]⟩
def f270_b7 (K : Nat) (a0 : List tV) (I9 : Int → Int → Int → (List tV) → Option (List tV)) (L7 : Int → Option (List tV)) (q8 : Int) : Option (List tV) :=
  (bif (decide (q8 < (a0.length : Int))) then (bif (decide (0 ≤ q8) && decide (q8 < (a0.length : Int))) then (bif (decide (0 ≤ (w (q8 - (1 : Int)))) && decide ((w (q8 - (1 : Int))) < (a0.length : Int))) then (bif (((a0.getD ((0 : Int) + q8).toNat ((0 : Int), (0 : Int))).1 == (a0.getD ((0 : Int) + (w (q8 - (1 : Int)))).toNat ((0 : Int), (0 : Int))).1) && ((a0.getD ((0 : Int) + q8).toNat ((0 : Int), (0 : Int))).2 == (a0.getD ((0 : Int) + (w (q8 - (1 : Int)))).toNat ((0 : Int), (0 : Int))).2)) then (bif (decide (0 ≤ q8) && decide (q8 ≤ (a0.length : Int)) && decide ((a0.length : Int) ≤ (a0.length : Int))) then I9 q8 q8 (1 : Int) a0 else none) else L7 (w (q8 + (1 : Int)))) else none) else none) else some a0)
def f270_l7 (K : Nat) (a0 : List tV) (n : Nat) (q8 : Int) : Option (List tV) :=
  iter (X := Int) (fun L x => (fun L7 => f270_b7 K a0 (fun c0 d0 d1 d2 => f270_l9 K a0 c0 K d0 d1 d2) L7 x) (fun v0 => L v0)) n q8
def f270_fr7 (a0 : List tV) (q8 : Int) : Fr := ⟨61, [(0, .v false [.row 0]), (2, .v false [.row 1]), (3, .v false [.int .i64 q8]), (8, .v false [.bool (decide ((a0.length : Int) < (2 : Int)))])], [], [some ⟨79, sV, a0, .own⟩, some ⟨79, sV, [], .own⟩]⟩
def f270_k7 (K : Nat) (a0 : List tV) (lr : LR (List tV)) : Ex → Fr → Option (List tV) :=
  contC (f270E K) 1 lr f270C [1, 1, 0, 1, 0] (finK (f270E K) Tryz.f270 [(.mv, (.list 79 sV))] [(.list 79 sV)] (a0, ()))
def f270_k9 (K : Nat) (a0 : List tV) (F7 : Fr → Option (List tV)) (bq8 : Int) (lr : LR (List tV)) : Ex → Fr → Option (List tV) :=
  contC (f270E K) 1 lr (selC f270C [1, 1, 0, 1, 0, 0]) [1, 0, 0, 1, 0, 1, 0, 1, 0] (loopK 1 (f270_fr7 a0 bq8) F7 (f270_k7 K a0 lr))
def f270_g (K : Nat) (a0 : List tV) (I7 : Int → Option (List tV)) : Option (List tV) :=
  (bif (decide ((a0.length : Int) < (2 : Int))) then some a0 else I7 (1 : Int))
def f270G (K : Nat) (a0 : List tV) : Option (List tV) :=
  f270_g K a0 (fun d0 => f270_l7 K a0 K d0)
def f270M (K : Nat) : Mdl := ⟨[(.mv, (.list 79 sV))], [(.list 79 sV)], fun x => f270G K x.1⟩
def f171C : Code := codeOf Tryz.f171
def f171E (K : Nat) : Env := ⟨[(267, f267M K), (268, f268M K), (269, f269M K), (270, f270M K)], tys, eqs, mts, K, [0, 1, 2, 3, 5, 6, 7, 9, 11, 12, 13, 14], [], []⟩
def f171_b3 (K : Nat) (a0 : Int × Int × Int) (a1 : List tM) (a2 : Int × Int) (L3 : Int → (List tV) → Option (List tV)) (q4 : Int) (q5 : List tV) : Option (List tV) :=
  (bif (decide (q4 < (a1.length : Int))) then (bif (decide (0 ≤ q4) && decide (q4 < (a1.length : Int))) then (f267G K a0 ((((a1.getD ((0 : Int) + q4).toNat zM).1).1, (((a1.getD ((0 : Int) + q4).toNat zM).1).2).1, ((((a1.getD ((0 : Int) + q4).toNat zM).1).2).2)), ((a1.getD ((0 : Int) + q4).toNat zM).2)) a2).bind fun y6 => (bif (Nat.ble (q5.length + [y6].length) (lim 16)) then L3 (w (q4 + (1 : Int))) (q5 ++ [y6]) else none) else none) else (f268G K q5 (fun z7 z8 => f269G K z7 z8)).bind fun y9 => (f270G K y9).bind fun y10 => some y10)
def f171_l3 (K : Nat) (a0 : Int × Int × Int) (a1 : List tM) (a2 : Int × Int) (n : Nat) (q4 : Int) (q5 : List tV) : Option (List tV) :=
  iter (X := Int × List tV) (fun L x => (fun L3 => f171_b3 K a0 a1 a2 L3 x.1 x.2) (fun v0 v1 => L (v0, v1))) n (q4, q5)
def f171_fr3 (a0 : Int × Int × Int) (a1 : List tM) (a2 : Int × Int) (q4 : Int) (q5 : List tV) : Fr := ⟨29, [(0, .v true [.int .i64 a0.1, .int .i64 a0.2.1, .int .i64 a0.2.2]), (1, .v false [.row 0]), (2, .v true [.int .i64 a2.1, .int .i64 a2.2]), (3, .v false [.box 0 0]), (5, .v false [.box 1 0]), (6, .v false [.row 1]), (7, .v false [.row 2]), (11, .v false [.row 0]), (12, .v false [.int .i64 (a1.length : Int)]), (13, .v false [.int .i64 q4])], [some ⟨true, [.int .i64 a0.1, .int .i64 a0.2.1, .int .i64 a0.2.2]⟩, some ⟨true, [.int .i64 a2.1, .int .i64 a2.2]⟩], [some ⟨95, sM, a1, .ro⟩, some ⟨79, sV, [], .own⟩, some ⟨79, sV, q5, .own⟩]⟩
def f171_k3 (K : Nat) (a0 : Int × Int × Int) (a1 : List tM) (a2 : Int × Int) (lr : LR (List tV)) : Ex → Fr → Option (List tV) :=
  contC (f171E K) 1 lr f171C [1, 1, 0, 1, 0] (finK (f171E K) Tryz.f171 [(.ro, sL), (.ro, (.list 95 sM)), (.ro, sV)] [(.list 79 sV)] (a0, a1, a2, ()))
def f171_g (K : Nat) (a0 : Int × Int × Int) (a1 : List tM) (a2 : Int × Int) (I3 : Int → (List tV) → Option (List tV)) : Option (List tV) :=
  I3 (0 : Int) []
def f171G (K : Nat) (a0 : Int × Int × Int) (a1 : List tM) (a2 : Int × Int) : Option (List tV) :=
  f171_g K a0 a1 a2 (fun d0 d1 => f171_l3 K a0 a1 a2 K d0 d1)
def f171M (K : Nat) : Mdl := ⟨[(.ro, sL), (.ro, (.list 95 sM)), (.ro, sV)], [(.list 79 sV)], fun x => f171G K x.1 x.2.1 x.2.2.1⟩
def f128C : Code := codeOf Tryz.f128
def f128E (K : Nat) : Env := ⟨[(130, f130M K), (171, f171M K), (207, f207M K), (238, f238M K), (243, f243M K)], tys, eqs, mts, K, [0, 1, 2, 4, 5, 6, 7, 9, 10, 12, 19, 20, 21, 22, 31, 36, 37, 38, 39], [], []⟩
def f128_b22 (K : Nat) (a0 : Int × Int × Int) (a1 : List tM) (q17 : Int) (q18 : List (List tV)) (q19 : List Int) (y3 : List tV) (y20 : Int) (y21 : List tV) (L16 : Int → (List (List tV)) → (List Int) → Option ((List (List tV)) × List Int)) (L22 : Int → (List Int) → Option ((List (List tV)) × List Int)) (q23 : Int) (q24 : List Int) : Option ((List (List tV)) × List Int) :=
  (bif (decide (q23 < (y21.length : Int))) then (bif (decide (0 ≤ q23) && decide (q23 < (y21.length : Int))) then (f130G K a0 (y21.getD ((0 : Int) + q23).toNat ((0 : Int), (0 : Int)))).bind fun y25 => (bif (decide (0 ≤ y25) && decide (y25 < (q24.length : Int))) then L22 (w (q23 + (1 : Int))) (q24.set ((0 : Int) + y25).toNat (q18.length : Int)) else none) else none) else (bif (Nat.ble (q18.length + [y21].length) (lim 24)) then L16 (w (q17 + (1 : Int))) (q18 ++ [y21]) q24 else none))
def f128_l22 (K : Nat) (a0 : Int × Int × Int) (a1 : List tM) (q17 : Int) (q18 : List (List tV)) (q19 : List Int) (y3 : List tV) (y20 : Int) (y21 : List tV) (L16 : Int → (List (List tV)) → (List Int) → Option ((List (List tV)) × List Int)) (n : Nat) (q23 : Int) (q24 : List Int) : Option ((List (List tV)) × List Int) :=
  iter (X := Int × List Int) (fun L x => (fun L22 => f128_b22 K a0 a1 q17 q18 q19 y3 y20 y21 L16 L22 x.1 x.2) (fun v0 v1 => L (v0, v1))) n (q23, q24)
def f128_fr22 (a0 : Int × Int × Int) (a1 : List tM) (q17 : Int) (q18 : List (List tV)) (q19 : List Int) (y3 : List tV) (y20 : Int) (y21 : List tV) (q23 : Int) (q24 : List Int) : Fr := ⟨57, [(0, .v true [.int .i64 a0.1, .int .i64 a0.2.1, .int .i64 a0.2.2]), (1, .v false [.row 0]), (2, .v false [.box 0 0]), (4, .v false [.row 1]), (5, .v false [.row 2]), (6, .v false [.row 3]), (7, .v false [.row 4]), (9, .v false [.box 1 0]), (10, .v false [.row 5]), (19, .v false [.row 6]), (20, .v false [.int .i64 (y3.length : Int)]), (21, .v false [.int .i64 q17]), (22, .v false [.bool (decide (q17 < (y3.length : Int)))]), (31, .v false [.bool (decide ((q19.getD ((0 : Int) + y20).toNat (0 : Int)) ≥ (0 : Int)))]), (36, .v false [.row 5]), (37, .v false [.int .i64 (y21.length : Int)]), (38, .v false [.int .i64 q23])], [some ⟨true, [.int .i64 a0.1, .int .i64 a0.2.1, .int .i64 a0.2.2]⟩, some ⟨true, [.int .i64 ((y3.getD ((0 : Int) + q17).toNat ((0 : Int), (0 : Int))).1), .int .i64 ((y3.getD ((0 : Int) + q17).toNat ((0 : Int), (0 : Int))).2)]⟩], [some ⟨95, sM, a1, .ro⟩, some ⟨84, (.list 79 sV), [], .own⟩, some ⟨2, sI, [], .own⟩, some ⟨84, (.list 79 sV), q18, .own⟩, some ⟨2, sI, q24, .own⟩, some ⟨79, sV, y21, .own⟩, some ⟨79, sV, y3, .own⟩]⟩
def f128_b16 (K : Nat) (a0 : Int × Int × Int) (a1 : List tM) (y3 : List tV) (I22 : Int → (List (List tV)) → (List Int) → Int → (List tV) → Int → (List Int) → Option ((List (List tV)) × List Int)) (L16 : Int → (List (List tV)) → (List Int) → Option ((List (List tV)) × List Int)) (q17 : Int) (q18 : List (List tV)) (q19 : List Int) : Option ((List (List tV)) × List Int) :=
  (bif (decide (q17 < (y3.length : Int))) then (bif (decide (0 ≤ q17) && decide (q17 < (y3.length : Int))) then (f130G K a0 (y3.getD ((0 : Int) + q17).toNat ((0 : Int), (0 : Int)))).bind fun y20 => (bif (decide (0 ≤ y20) && decide (y20 < (q19.length : Int))) then (bif (decide ((q19.getD ((0 : Int) + y20).toNat (0 : Int)) ≥ (0 : Int))) then L16 (w (q17 + (1 : Int))) q18 q19 else (f171G K a0 a1 (y3.getD ((0 : Int) + q17).toNat ((0 : Int), (0 : Int)))).bind fun y21 => I22 q17 q18 q19 y20 y21 (0 : Int) q19) else none) else none) else some (q18, q19))
def f128_l16 (K : Nat) (a0 : Int × Int × Int) (a1 : List tM) (y3 : List tV) (n : Nat) (q17 : Int) (q18 : List (List tV)) (q19 : List Int) : Option ((List (List tV)) × List Int) :=
  iter (X := Int × List (List tV) × List Int) (fun L x => (fun L16 => f128_b16 K a0 a1 y3 (fun c0 c1 c2 c3 c4 d0 d1 => f128_l22 K a0 a1 c0 c1 c2 y3 c3 c4 L16 K d0 d1) L16 x.1 x.2.1 x.2.2) (fun v0 v1 v2 => L (v0, v1, v2))) n (q17, q18, q19)
def f128_fr16 (a0 : Int × Int × Int) (a1 : List tM) (y3 : List tV) (q17 : Int) (q18 : List (List tV)) (q19 : List Int) : Fr := ⟨57, [(0, .v true [.int .i64 a0.1, .int .i64 a0.2.1, .int .i64 a0.2.2]), (1, .v false [.row 0]), (2, .v false [.box 0 0]), (4, .v false [.row 1]), (5, .v false [.row 2]), (6, .v false [.row 3]), (7, .v false [.row 4]), (19, .v false [.row 5]), (20, .v false [.int .i64 (y3.length : Int)]), (21, .v false [.int .i64 q17])], [some ⟨true, [.int .i64 a0.1, .int .i64 a0.2.1, .int .i64 a0.2.2]⟩], [some ⟨95, sM, a1, .ro⟩, some ⟨84, (.list 79 sV), [], .own⟩, some ⟨2, sI, [], .own⟩, some ⟨84, (.list 79 sV), q18, .own⟩, some ⟨2, sI, q19, .own⟩, some ⟨79, sV, y3, .own⟩]⟩
def f128_k16 (K : Nat) (a0 : Int × Int × Int) (a1 : List tM) (lr : LR ((List (List tV)) × List Int)) : Ex → Fr → Option ((List (List tV)) × List Int) :=
  contC (f128E K) 1 lr f128C [1, 1, 0, 1, 0] (finK (f128E K) Tryz.f128 [(.ro, sL), (.ro, (.list 95 sM))] [(.list 84 (.list 79 sV)), (.list 2 sI)] (a0, a1, ()))
def f128_k22 (K : Nat) (a0 : Int × Int × Int) (a1 : List tM) (y3 : List tV) (F16 : Fr → Option ((List (List tV)) × List Int)) (bq17 : Int) (bq18 : List (List tV)) (bq19 : List Int) (lr : LR ((List (List tV)) × List Int)) : Ex → Fr → Option ((List (List tV)) × List Int) :=
  contC (f128E K) 1 lr (selC f128C [1, 1, 0, 1, 0, 0]) [1, 1, 0, 0, 1, 1, 1, 0, 1, 0] (loopK 1 (f128_fr16 a0 a1 y3 bq17 bq18 bq19) F16 (f128_k16 K a0 a1 lr))
def f128_g (K : Nat) (a0 : Int × Int × Int) (a1 : List tM) (I16 : (List tV) → Int → (List (List tV)) → (List Int) → Option ((List (List tV)) × List Int)) : Option ((List (List tV)) × List Int) :=
  (f238G K a0).bind fun y1 => (f243G K [(-1 : Int)] y1).bind fun y2 => (f207G K a0).bind fun y3 => I16 y3 (0 : Int) [] y2
def f128G (K : Nat) (a0 : Int × Int × Int) (a1 : List tM) : Option ((List (List tV)) × List Int) :=
  f128_g K a0 a1 (fun c0 d0 d1 d2 => f128_l16 K a0 a1 c0 K d0 d1 d2)
def f128M (K : Nat) : Mdl := ⟨[(.ro, sL), (.ro, (.list 95 sM))], [(.list 84 (.list 79 sV)), (.list 2 sI)], fun x => f128G K x.1 x.2.1⟩
def f32C : Code := codeOf Tryz.f32
def f32E (K : Nat) : Env := ⟨[(118, f118M K), (128, f128M K), (138, f138M K), (139, f139M K), (140, f140M K)], tys, eqs, mts, K, [0, 1, 2, 5, 6, 7, 8, 9, 10, 11, 12, 13, 16, 17, 27, 31, 41, 45, 53, 54, 55, 56, 65], [], []⟩
def f32_b7 (K : Nat) (a0 : ByteArray) (a1 : Int) (a2 : Int × tL × List Int) (y1 : Int × tL × (List tM) × Int) (y2 y3 : Bool) (y4 : (List (List tV)) × List Int) (L7 : Int → (List (tV × Int)) → Option ((List (tV × Int)) × Int)) (q8 : Int) (q9 : List (tV × Int)) : Option ((List (tV × Int)) × Int) :=
  (bif (decide (q8 < (y4.1.length : Int))) then (bif (decide (0 ≤ q8) && decide (q8 < (y4.1.length : Int))) then (bif (decide (0 ≤ (0 : Int)) && decide ((0 : Int) < ((y4.1.getD ((0 : Int) + q8).toNat []).length : Int))) then (f140G K a2 ((y4.1.getD ((0 : Int) + q8).toNat []).getD ((0 : Int) + (0 : Int)).toNat ((0 : Int), (0 : Int)))).bind fun y10 => (bif (y10 != (0 : Int)) then (bif (decide (0 ≤ (0 : Int)) && decide ((0 : Int) < ((y4.1.getD ((0 : Int) + q8).toNat []).length : Int))) then (bif (Nat.ble (q9.length + [(((y4.1.getD ((0 : Int) + q8).toNat []).getD ((0 : Int) + (0 : Int)).toNat ((0 : Int), (0 : Int))), y10)].length) (lim 24)) then L7 (w (q8 + (1 : Int))) (q9 ++ [(((y4.1.getD ((0 : Int) + q8).toNat []).getD ((0 : Int) + (0 : Int)).toNat ((0 : Int), (0 : Int))), y10)]) else none) else none) else L7 (w (q8 + (1 : Int))) q9) else none) else none) else some (q9, (0 : Int)))
def f32_l7 (K : Nat) (a0 : ByteArray) (a1 : Int) (a2 : Int × tL × List Int) (y1 : Int × tL × (List tM) × Int) (y2 y3 : Bool) (y4 : (List (List tV)) × List Int) (n : Nat) (q8 : Int) (q9 : List (tV × Int)) : Option ((List (tV × Int)) × Int) :=
  iter (X := Int × List (tV × Int)) (fun L x => (fun L7 => f32_b7 K a0 a1 a2 y1 y2 y3 y4 L7 x.1 x.2) (fun v0 v1 => L (v0, v1))) n (q8, q9)
def f32_fr7 (a0 : ByteArray) (a1 : Int) (a2 : Int × tL × List Int) (y1 : Int × tL × (List tM) × Int) (y2 y3 : Bool) (y4 : (List (List tV)) × List Int) (q8 : Int) (q9 : List (tV × Int)) : Fr := ⟨76, [(0, .v false [.str a0]), (1, .v false [.int .i64 a1]), (2, .v true [.int .i64 a2.1, .int .i64 a2.2.1.1, .int .i64 a2.2.1.2.1, .int .i64 a2.2.1.2.2, .row 0]), (5, .v false [.box 0 0]), (6, .v false [.row 1]), (7, .v false [.int .i64 (0 : Int)]), (8, .v false [.int .i64 y1.1]), (9, .v false [.box 1 0]), (10, .v false [.row 2]), (11, .v false [.int .i64 y1.2.2.2]), (12, .v false [.row 3]), (13, .v false [.row 4]), (27, .v false [.bool (y1.2.2.2 != (0 : Int))]), (31, .v false [.bool (!y2)]), (41, .v false [.bool (bif (a2.1 != y1.1) then true else (!((a2.2.1.1 == y1.2.1.1) && ((a2.2.1.2.1 == y1.2.1.2.1) && (a2.2.1.2.2 == y1.2.1.2.2)))))]), (45, .v false [.bool (!y3)]), (53, .v false [.row 4]), (54, .v false [.int .i64 (y4.1.length : Int)]), (55, .v false [.int .i64 q8])], [some ⟨true, [.int .i64 a2.1, .int .i64 a2.2.1.1, .int .i64 a2.2.1.2.1, .int .i64 a2.2.1.2.2, .row 0]⟩, some ⟨true, [.int .i64 y1.2.1.1, .int .i64 y1.2.1.2.1, .int .i64 y1.2.1.2.2]⟩], [some ⟨2, sI, a2.2.2, .ro⟩, some ⟨149, (.cons sV sI), [], .own⟩, some ⟨95, sM, y1.2.2.1, .own⟩, some ⟨149, (.cons sV sI), q9, .own⟩, some ⟨84, (.list 79 sV), y4.1, .own⟩]⟩
def f32_k7 (K : Nat) (a0 : ByteArray) (a1 : Int) (a2 : Int × tL × List Int) (lr : LR ((List (tV × Int)) × Int)) : Ex → Fr → Option ((List (tV × Int)) × Int) :=
  contC (f32E K) 1 lr f32C [1, 1, 1, 1, 1, 1, 1, 1, 0, 1, 0] (finK (f32E K) Tryz.f32 [(.ro, .str), (.ro, sI), (.ro, (.cons sI (.cons sL (.list 2 sI))))] [(.list 149 (.cons sV sI)), sI] (a0, a1, a2, ()))
def f32_g (K : Nat) (a0 : ByteArray) (a1 : Int) (a2 : Int × tL × List Int) (I7 : (Int × tL × (List tM) × Int) → Bool → Bool → ((List (List tV)) × List Int) → Int → (List (tV × Int)) → Option ((List (tV × Int)) × Int)) : Option ((List (tV × Int)) × Int) :=
  (f118G K a0 a1 []).bind fun y1 => (bif (y1.2.2.2 != (0 : Int)) then some ([], y1.2.2.2) else (f138G K a2).bind fun y2 => (bif (!y2) then some ([], (1 : Int)) else (bif ((!(!(a2.1 != y1.1))) || true) then (bif ((!(!(a2.1 != y1.1))) || true) then (bif ((!(!(a2.1 != y1.1))) || true) then (bif ((!(!(a2.1 != y1.1))) || true) then (bif (bif (a2.1 != y1.1) then true else (!((a2.2.1.1 == y1.2.1.1) && ((a2.2.1.2.1 == y1.2.1.2.1) && (a2.2.1.2.2 == y1.2.1.2.2))))) then some ([], (2 : Int)) else (f139G K a2 y1.2.2.1).bind fun y3 => (bif (!y3) then some ([], (5 : Int)) else (f128G K y1.2.1 y1.2.2.1).bind fun y4 => I7 y1 y2 y3 y4 (0 : Int) [])) else none) else none) else none) else none)))
def f32G (K : Nat) (a0 : ByteArray) (a1 : Int) (a2 : Int × tL × List Int) : Option ((List (tV × Int)) × Int) :=
  f32_g K a0 a1 a2 (fun c0 c1 c2 c3 d0 d1 => f32_l7 K a0 a1 a2 c0 c1 c2 c3 K d0 d1)
def f32M (K : Nat) : Mdl := ⟨[(.ro, .str), (.ro, sI), (.ro, (.cons sI (.cons sL (.list 2 sI))))], [(.list 149 (.cons sV sI)), sI], fun x => f32G K x.1 x.2.1 x.2.2.1⟩
def f242E (K : Nat) : Env := ⟨[], tys, eqs, mts, K, [0, 1, 2, 3, 4, 9, 14], [], []⟩
def f242G (K : Nat) (a0 a1 : Int × Int) : Option Bool :=
  (bif (a0.1 != a1.1) then some false else (bif (a0.2 != a1.2) then some false else some true))
def f242M (K : Nat) : Mdl := ⟨[(.ro, sV), (.ro, sV)], [.bool], fun x => f242G K x.1 x.2.1⟩
def f121E (K : Nat) : Env := ⟨[(242, f242M K)], tys, eqs, mts, K, [0, 1, 2, 3, 4, 10, 15], [], []⟩
def f121G (K : Nat) (a0 a1 : tV × Int) : Option Bool :=
  (f242G K a0.1 a1.1).bind fun y1 => (bif (!y1) then some false else (bif (a0.2 != a1.2) then some false else some true))
def f121M (K : Nat) : Mdl := ⟨[(.ro, (.cons sV sI)), (.ro, (.cons sV sI))], [.bool], fun x => f121G K x.1 x.2.1⟩
def f19C : Code := codeOf Tryz.f19
def f19E (K : Nat) : Env := ⟨[(121, f121M K)], tys, eqs, mts, K, [0, 1, 4, 5, 10, 14, 26], [], []⟩
def f19_b3 (K : Nat) (a0 a1 : List (tV × Int)) (L3 : Int → Option Bool) (q4 : Int) : Option Bool :=
  (bif (decide (q4 < (a0.length : Int))) then (bif (decide (0 ≤ q4) && decide (q4 < (a0.length : Int))) then (bif (decide (0 ≤ q4) && decide (q4 < (a1.length : Int))) then (f121G K (((a0.getD ((0 : Int) + q4).toNat (((0 : Int), (0 : Int)), (0 : Int))).1), (a0.getD ((0 : Int) + q4).toNat (((0 : Int), (0 : Int)), (0 : Int))).2) (((a1.getD ((0 : Int) + q4).toNat (((0 : Int), (0 : Int)), (0 : Int))).1), (a1.getD ((0 : Int) + q4).toNat (((0 : Int), (0 : Int)), (0 : Int))).2)).bind fun y5 => (bif (!y5) then some false else L3 (w (q4 + (1 : Int)))) else none) else none) else some true)
def f19_l3 (K : Nat) (a0 a1 : List (tV × Int)) (n : Nat) (q4 : Int) : Option Bool :=
  iter (X := Int) (fun L x => (fun L3 => f19_b3 K a0 a1 L3 x) (fun v0 => L v0)) n q4
def f19_fr3 (a0 a1 : List (tV × Int)) (q4 : Int) : Fr := ⟨27, [(0, .v false [.row 0]), (1, .v false [.row 1]), (4, .v false [.bool false]), (5, .v false [.int .i64 q4]), (10, .v false [.bool ((a0.length : Int) != (a1.length : Int))])], [], [some ⟨149, (.cons sV sI), a0, .ro⟩, some ⟨149, (.cons sV sI), a1, .ro⟩]⟩
def f19_k3 (K : Nat) (a0 a1 : List (tV × Int)) (lr : LR Bool) : Ex → Fr → Option Bool :=
  contC (f19E K) 2 lr f19C [1, 1, 0, 1, 0] (finK (f19E K) Tryz.f19 [(.ro, (.list 149 (.cons sV sI))), (.ro, (.list 149 (.cons sV sI)))] [.bool] (a0, a1, ()))
def f19_g (K : Nat) (a0 a1 : List (tV × Int)) (I3 : Int → Option Bool) : Option Bool :=
  (bif ((a0.length : Int) != (a1.length : Int)) then some false else I3 (0 : Int))
def f19G (K : Nat) (a0 a1 : List (tV × Int)) : Option Bool :=
  f19_g K a0 a1 (fun d0 => f19_l3 K a0 a1 K d0)
def f19M (K : Nat) : Mdl := ⟨[(.ro, (.list 149 (.cons sV sI))), (.ro, (.list 149 (.cons sV sI)))], [.bool], fun x => f19G K x.1 x.2.1⟩
def f122E (K : Nat) : Env := ⟨[], tys, eqs, mts, K, [0, 1, 2, 3, 4, 9, 14, 19], [], []⟩
def f122G (K : Nat) (a0 a1 : Int × Int × Int) : Option Bool :=
  (bif (a0.1 != a1.1) then some false else (bif (a0.2.1 != a1.2.1) then some false else (bif (a0.2.2 != a1.2.2) then some false else some true)))
def f122M (K : Nat) : Mdl := ⟨[(.ro, sL), (.ro, sL)], [.bool], fun x => f122G K x.1 x.2.1⟩
def f123C : Code := codeOf Tryz.f123
def f123E (K : Nat) : Env := ⟨[], tys, eqs, mts, K, [0, 1, 4, 5, 10, 14, 25], [], []⟩
def f123_b2 (K : Nat) (a0 a1 : List Int) (L2 : Int → Option Bool) (q3 : Int) : Option Bool :=
  (bif (decide (q3 < (a0.length : Int))) then (bif (decide (0 ≤ q3) && decide (q3 < (a0.length : Int))) then (bif (decide (0 ≤ q3) && decide (q3 < (a1.length : Int))) then (bif ((a0.getD ((0 : Int) + q3).toNat (0 : Int)) != (a1.getD ((0 : Int) + q3).toNat (0 : Int))) then some false else L2 (w (q3 + (1 : Int)))) else none) else none) else some true)
def f123_l2 (K : Nat) (a0 a1 : List Int) (n : Nat) (q3 : Int) : Option Bool :=
  iter (X := Int) (fun L x => (fun L2 => f123_b2 K a0 a1 L2 x) (fun v0 => L v0)) n q3
def f123_fr2 (a0 a1 : List Int) (q3 : Int) : Fr := ⟨26, [(0, .v false [.row 0]), (1, .v false [.row 1]), (4, .v false [.bool false]), (5, .v false [.int .i64 q3]), (10, .v false [.bool ((a0.length : Int) != (a1.length : Int))])], [], [some ⟨2, sI, a0, .ro⟩, some ⟨2, sI, a1, .ro⟩]⟩
def f123_k2 (K : Nat) (a0 a1 : List Int) (lr : LR Bool) : Ex → Fr → Option Bool :=
  contC (f123E K) 2 lr f123C [1, 1, 0, 1, 0] (finK (f123E K) Tryz.f123 [(.ro, (.list 2 sI)), (.ro, (.list 2 sI))] [.bool] (a0, a1, ()))
def f123_g (K : Nat) (a0 a1 : List Int) (I2 : Int → Option Bool) : Option Bool :=
  (bif ((a0.length : Int) != (a1.length : Int)) then some false else I2 (0 : Int))
def f123G (K : Nat) (a0 a1 : List Int) : Option Bool :=
  f123_g K a0 a1 (fun d0 => f123_l2 K a0 a1 K d0)
def f123M (K : Nat) : Mdl := ⟨[(.ro, (.list 2 sI)), (.ro, (.list 2 sI))], [.bool], fun x => f123G K x.1 x.2.1⟩
def f22E (K : Nat) : Env := ⟨[(122, f122M K), (123, f123M K)], tys, eqs, mts, K, [0, 1, 2, 3, 4, 9, 15, 21], [], []⟩
def f22G (K : Nat) (a0 a1 : Int × tL × List Int) : Option Bool :=
  (bif (a0.1 != a1.1) then some false else (f122G K a0.2.1 a1.2.1).bind fun y1 => (bif (!y1) then some false else (f123G K a0.2.2 a1.2.2).bind fun y2 => (bif (!y2) then some false else some true)))
def f22M (K : Nat) : Mdl := ⟨[(.ro, (.cons sI (.cons sL (.list 2 sI)))), (.ro, (.cons sI (.cons sL (.list 2 sI))))], [.bool], fun x => f22G K x.1 x.2.1⟩
def f124C : Code := codeOf Tryz.f124
def f124E (K : Nat) : Env := ⟨[], tys, eqs, mts, K, [0, 1, 4, 5, 9], [], []⟩
def f124_b2 (K : Nat) (L2 : Int → Int → (List Int) → Option ((List Int) × Int)) (q3 q4 : Int) (q5 : List Int) : Option ((List Int) × Int) :=
  (bif (decide (q4 < (q5.length : Int))) then (bif (decide (0 ≤ q4) && decide (q4 < (q5.length : Int))) then L2 (w (q3 + (1 : Int))) (w (q4 + (1 : Int))) (q5.set ((0 : Int) + q4).toNat q3) else none) else some (q5, q3))
def f124_l2 (K n : Nat) (q3 q4 : Int) (q5 : List Int) : Option ((List Int) × Int) :=
  iter (X := Int × Int × List Int) (fun L x => (fun L2 => f124_b2 K L2 x.1 x.2.1 x.2.2) (fun v0 v1 v2 => L (v0, v1, v2))) n (q3, q4, q5)
def f124_fr2 (q3 q4 : Int) (q5 : List Int) : Fr := ⟨19, [(0, .v false [.row 0]), (1, .v false [.int .i64 q3]), (4, .v false [.int .i64 (0 : Int)]), (5, .v false [.int .i64 q4])], [], [some ⟨2, sI, q5, .io⟩]⟩
def f124_k2 (K : Nat) (a0 : List Int) (a1 : Int) (lr : LR ((List Int) × Int)) : Ex → Fr → Option ((List Int) × Int) :=
  contC (f124E K) 1 lr f124C [1, 0, 1, 0] (finK (f124E K) Tryz.f124 [(.io, (.list 2 sI)), (.ro, sI)] [sI] (a0, a1, ()))
def f124_g (K : Nat) (a0 : List Int) (a1 : Int) (I2 : Int → Int → (List Int) → Option ((List Int) × Int)) : Option ((List Int) × Int) :=
  I2 a1 (0 : Int) a0
def f124G (K : Nat) (a0 : List Int) (a1 : Int) : Option ((List Int) × Int) :=
  f124_g K a0 a1 (fun d0 d1 d2 => f124_l2 K K d0 d1 d2)
def f124M (K : Nat) : Mdl := ⟨[(.io, (.list 2 sI)), (.ro, sI)], [sI], fun x => f124G K x.1 x.2.1⟩
def f24E (K : Nat) : Env := ⟨[(124, f124M K)], tys, eqs, mts, K, [0, 1, 2, 4], [], []⟩
def f24G (K : Nat) (a0 : Int × tL × List Int) (a1 : Int) : Option ((Int × tL × List Int) × Int) :=
  (f124G K a0.2.2 a1).bind fun y1 => some ((a0.1, a0.2.1, y1.1), y1.2)
def f24M (K : Nat) : Mdl := ⟨[(.io, (.cons sI (.cons sL (.list 2 sI)))), (.ro, sI)], [sI], fun x => f24G K x.1 x.2.1⟩
def f23C : Code := codeOf Tryz.f23
def f23E (K : Nat) : Env := ⟨[], tys, eqs, mts, K, [0, 1, 4, 5, 9], [], []⟩
def f23_b2 (K : Nat) (L2 : Int → Int → (List (tV × Int)) → Option ((List (tV × Int)) × Int)) (q3 q4 : Int) (q5 : List (tV × Int)) : Option ((List (tV × Int)) × Int) :=
  (bif (decide (q4 < (q5.length : Int))) then (bif (decide (0 ≤ q4) && decide (q4 < (q5.length : Int))) then (bif (decide (0 ≤ q4) && decide (q4 < ((q5.set ((0 : Int) + q4).toNat ((q3, ((q5.getD ((0 : Int) + q4).toNat (((0 : Int), (0 : Int)), (0 : Int))).1).2), (q5.getD ((0 : Int) + q4).toNat (((0 : Int), (0 : Int)), (0 : Int))).2)).length : Int))) then (bif (decide (0 ≤ q4) && decide (q4 < (((q5.set ((0 : Int) + q4).toNat ((q3, ((q5.getD ((0 : Int) + q4).toNat (((0 : Int), (0 : Int)), (0 : Int))).1).2), (q5.getD ((0 : Int) + q4).toNat (((0 : Int), (0 : Int)), (0 : Int))).2)).set ((0 : Int) + q4).toNat (((((q5.set ((0 : Int) + q4).toNat ((q3, ((q5.getD ((0 : Int) + q4).toNat (((0 : Int), (0 : Int)), (0 : Int))).1).2), (q5.getD ((0 : Int) + q4).toNat (((0 : Int), (0 : Int)), (0 : Int))).2)).getD ((0 : Int) + q4).toNat (((0 : Int), (0 : Int)), (0 : Int))).1).1, (w (q3 + (1 : Int)))), ((q5.set ((0 : Int) + q4).toNat ((q3, ((q5.getD ((0 : Int) + q4).toNat (((0 : Int), (0 : Int)), (0 : Int))).1).2), (q5.getD ((0 : Int) + q4).toNat (((0 : Int), (0 : Int)), (0 : Int))).2)).getD ((0 : Int) + q4).toNat (((0 : Int), (0 : Int)), (0 : Int))).2)).length : Int))) then (let s2 := (((q5.set ((0 : Int) + q4).toNat ((q3, ((q5.getD ((0 : Int) + q4).toNat (((0 : Int), (0 : Int)), (0 : Int))).1).2), (q5.getD ((0 : Int) + q4).toNat (((0 : Int), (0 : Int)), (0 : Int))).2)).set ((0 : Int) + q4).toNat (((((q5.set ((0 : Int) + q4).toNat ((q3, ((q5.getD ((0 : Int) + q4).toNat (((0 : Int), (0 : Int)), (0 : Int))).1).2), (q5.getD ((0 : Int) + q4).toNat (((0 : Int), (0 : Int)), (0 : Int))).2)).getD ((0 : Int) + q4).toNat (((0 : Int), (0 : Int)), (0 : Int))).1).1, (w (q3 + (1 : Int)))), ((q5.set ((0 : Int) + q4).toNat ((q3, ((q5.getD ((0 : Int) + q4).toNat (((0 : Int), (0 : Int)), (0 : Int))).1).2), (q5.getD ((0 : Int) + q4).toNat (((0 : Int), (0 : Int)), (0 : Int))).2)).getD ((0 : Int) + q4).toNat (((0 : Int), (0 : Int)), (0 : Int))).2)).set ((0 : Int) + q4).toNat ((((q5.set ((0 : Int) + q4).toNat ((q3, ((q5.getD ((0 : Int) + q4).toNat (((0 : Int), (0 : Int)), (0 : Int))).1).2), (q5.getD ((0 : Int) + q4).toNat (((0 : Int), (0 : Int)), (0 : Int))).2)).set ((0 : Int) + q4).toNat (((((q5.set ((0 : Int) + q4).toNat ((q3, ((q5.getD ((0 : Int) + q4).toNat (((0 : Int), (0 : Int)), (0 : Int))).1).2), (q5.getD ((0 : Int) + q4).toNat (((0 : Int), (0 : Int)), (0 : Int))).2)).getD ((0 : Int) + q4).toNat (((0 : Int), (0 : Int)), (0 : Int))).1).1, (w (q3 + (1 : Int)))), ((q5.set ((0 : Int) + q4).toNat ((q3, ((q5.getD ((0 : Int) + q4).toNat (((0 : Int), (0 : Int)), (0 : Int))).1).2), (q5.getD ((0 : Int) + q4).toNat (((0 : Int), (0 : Int)), (0 : Int))).2)).getD ((0 : Int) + q4).toNat (((0 : Int), (0 : Int)), (0 : Int))).2)).getD ((0 : Int) + q4).toNat (((0 : Int), (0 : Int)), (0 : Int))).1, (w ((w (q3 + (1 : Int))) + (1 : Int))))); L2 (w ((w ((w (q3 + (1 : Int))) + (1 : Int))) + (1 : Int))) (w (q4 + (1 : Int))) s2) else none) else none) else none) else some (q5, q3))
def f23_l2 (K n : Nat) (q3 q4 : Int) (q5 : List (tV × Int)) : Option ((List (tV × Int)) × Int) :=
  iter (X := Int × Int × List (tV × Int)) (fun L x => (fun L2 => f23_b2 K L2 x.1 x.2.1 x.2.2) (fun v0 v1 v2 => L (v0, v1, v2))) n (q3, q4, q5)
def f23_fr2 (q3 q4 : Int) (q5 : List (tV × Int)) : Fr := ⟨36, [(0, .v false [.row 0]), (1, .v false [.int .i64 q3]), (4, .v false [.int .i64 (0 : Int)]), (5, .v false [.int .i64 q4])], [], [some ⟨149, (.cons sV sI), q5, .io⟩]⟩
def f23_k2 (K : Nat) (a0 : List (tV × Int)) (a1 : Int) (lr : LR ((List (tV × Int)) × Int)) : Ex → Fr → Option ((List (tV × Int)) × Int) :=
  contC (f23E K) 1 lr f23C [1, 0, 1, 0] (finK (f23E K) Tryz.f23 [(.io, (.list 149 (.cons sV sI))), (.ro, sI)] [sI] (a0, a1, ()))
def f23_g (K : Nat) (a0 : List (tV × Int)) (a1 : Int) (I2 : Int → Int → (List (tV × Int)) → Option ((List (tV × Int)) × Int)) : Option ((List (tV × Int)) × Int) :=
  I2 a1 (0 : Int) a0
def f23G (K : Nat) (a0 : List (tV × Int)) (a1 : Int) : Option ((List (tV × Int)) × Int) :=
  f23_g K a0 a1 (fun d0 d1 d2 => f23_l2 K K d0 d1 d2)
def f23M (K : Nat) : Mdl := ⟨[(.io, (.list 149 (.cons sV sI))), (.ro, sI)], [sI], fun x => f23G K x.1 x.2.1⟩
def f28C : Code := codeOf Tryz.f28
def f28E (K : Nat) : Env := ⟨[], tys, eqs, mts, K, [0, 1, 4, 5, 9, 19, 29, 38], [], []⟩
def f28_b2 (K : Nat) (a0 : List (tV × Int)) (L2 : Int → Int → Option Int) (q3 q4 : Int) : Option Int :=
  (bif (decide (q4 < (a0.length : Int))) then (bif (decide (0 ≤ q4) && decide (q4 < (a0.length : Int))) then (bif (((a0.getD ((0 : Int) + q4).toNat (((0 : Int), (0 : Int)), (0 : Int))).1).1 != q3) then some (-1 : Int) else (bif (decide (0 ≤ q4) && decide (q4 < (a0.length : Int))) then (bif (((a0.getD ((0 : Int) + q4).toNat (((0 : Int), (0 : Int)), (0 : Int))).1).2 != (w (q3 + (1 : Int)))) then some (-1 : Int) else (bif (decide (0 ≤ q4) && decide (q4 < (a0.length : Int))) then (bif ((a0.getD ((0 : Int) + q4).toNat (((0 : Int), (0 : Int)), (0 : Int))).2 != (w ((w (q3 + (1 : Int))) + (1 : Int)))) then some (-1 : Int) else L2 (w ((w ((w (q3 + (1 : Int))) + (1 : Int))) + (1 : Int))) (w (q4 + (1 : Int)))) else none)) else none)) else none) else some q3)
def f28_l2 (K : Nat) (a0 : List (tV × Int)) (n : Nat) (q3 q4 : Int) : Option Int :=
  iter (X := Int × Int) (fun L x => (fun L2 => f28_b2 K a0 L2 x.1 x.2) (fun v0 v1 => L (v0, v1))) n (q3, q4)
def f28_fr2 (a0 : List (tV × Int)) (q3 q4 : Int) : Fr := ⟨42, [(0, .v false [.row 0]), (1, .v false [.int .i64 q3]), (4, .v false [.int .i64 (0 : Int)]), (5, .v false [.int .i64 q4])], [], [some ⟨149, (.cons sV sI), a0, .ro⟩]⟩
def f28_k2 (K : Nat) (a0 : List (tV × Int)) (a1 : Int) (lr : LR Int) : Ex → Fr → Option Int :=
  contC (f28E K) 1 lr f28C [1, 0, 1, 0] (finK (f28E K) Tryz.f28 [(.ro, (.list 149 (.cons sV sI))), (.ro, sI)] [sI] (a0, a1, ()))
def f28_g (K : Nat) (a0 : List (tV × Int)) (a1 : Int) (I2 : Int → Int → Option Int) : Option Int :=
  I2 a1 (0 : Int)
def f28G (K : Nat) (a0 : List (tV × Int)) (a1 : Int) : Option Int :=
  f28_g K a0 a1 (fun d0 d1 => f28_l2 K a0 K d0 d1)
def f28M (K : Nat) : Mdl := ⟨[(.ro, (.list 149 (.cons sV sI))), (.ro, sI)], [sI], fun x => f28G K x.1 x.2.1⟩
def f6E (K : Nat) : Env := ⟨[(19, f19M K), (22, f22M K), (23, f23M K), (24, f24M K), (28, f28M K), (29, f29M K), (30, f30M K), (31, f31M K), (32, f32M K)], tys, eqs, mts, K, [0, 1, 2, 5, 6, 7, 8, 9, 10, 11, 12, 13, 14, 15, 16, 17, 20, 25, 51, 56, 72, 80, 83, 100, 105, 108], [], []⟩
def f6G (K : Nat) (a0 : ByteArray) (a1 : Int) (a2 : Int × tL × List Int) : Option Bool :=
  (bif (decide ((a0.size : Int) > (1048576 : Int))) then some true else (f29G K a2 (1048576 : Int)).bind fun y1 => (bif (decide (y1 < (0 : Int))) then some true else (f31G K a2).bind fun y2 => (f30G K a0 a1 y2).bind fun y3 => (f31G K a2).bind fun y4 => (f32G K a0 a1 y4).bind fun y5 => (f19G K y5.1 y3.1).bind fun y6 => (bif ((!(!(!y6))) || true) then (bif ((!(!(!y6))) || true) then (bif ((!(!(!y6))) || true) then (bif (bif (!y6) then true else (y5.2 != y3.2)) then some false else (f31G K a2).bind fun y7 => (f22G K y4 y7).bind fun y8 => (bif (!y8) then some false else (f24G K y4 (1 : Int)).bind fun y9 => (bif ((!(!(decide (y9.2 < (0 : Int))))) || true) then (bif ((!(!(decide (y9.2 < (0 : Int))))) || true) then ((bif (!(decide (y9.2 < (0 : Int)))) then f19G K y5.1 y3.1 else some false)).bind fun y10 => (bif ((!(!(decide (y9.2 < (0 : Int))))) || true) then (bif ((!(!(bif (decide (y9.2 < (0 : Int))) then true else (!y10)))) || true) then (bif ((!(!(bif (decide (y9.2 < (0 : Int))) then true else (!y10)))) || true) then (bif ((!(!(bif (decide (y9.2 < (0 : Int))) then true else (!y10)))) || true) then (bif (bif (bif (decide (y9.2 < (0 : Int))) then true else (!y10)) then true else (y5.2 != y3.2)) then some false else (f23G K y5.1 (1 : Int)).bind fun y11 => (f28G K y11.1 (1 : Int)).bind fun y12 => (bif (decide (y12 < (0 : Int))) then some false else (bif (y12 != y11.2) then some false else (f31G K a2).bind fun y13 => (f32G K a0 a1 y13).bind fun y14 => (f19G K y14.1 y3.1).bind fun y15 => (bif ((!(!(!y15))) || true) then (bif ((!(!(!y15))) || true) then (bif ((!(!(!y15))) || true) then (bif (bif (!y15) then true else (y14.2 != y3.2)) then some false else (f28G K y11.1 (1 : Int)).bind fun y16 => (bif (decide (y16 < (0 : Int))) then some false else (bif (y16 != y11.2) then some false else some true))) else none) else none) else none)))) else none) else none) else none) else none) else none) else none))) else none) else none) else none)))
def f6M (K : Nat) : Mdl := ⟨[(.ro, .str), (.ro, sI), (.ro, (.cons sI (.cons sL (.list 2 sI))))], [.bool], fun x => f6G K x.1 x.2.1 x.2.2.1⟩
end
end Go.Proofs.YtfccacobkcglcaaGreat.X
