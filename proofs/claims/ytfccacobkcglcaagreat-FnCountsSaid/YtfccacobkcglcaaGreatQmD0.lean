/- Functions of the program as plain Lean functions, and that the program does what they say. Printed by gen.py. -/
import Derived.Test.YtfccacobkcglcaaGreatQzXLoop
import Derived.Test.YtfccacobkcglcaaGreatQzXLib
import Derived.Test.YtfccacobkcglcaaGreatProg
namespace Go.Proofs.YtfccacobkcglcaaGreat.X
open Go
set_option maxRecDepth 100000
set_option linter.unusedVariables false
abbrev tM : Type := ((Int × Int × Int × Int) × Int × Int)
abbrev tA : Type := (Int × Int × Int × Int)
abbrev tL : Type := (Int × Int × Int)
abbrev tV : Type := (Int × Int)
abbrev sM : Sh := (.cons (.cons (.int .i64) (.cons (.int .i64) (.cons (.int .i64) (.int .i64)))) (.cons (.int .i64) (.int .i64)))
abbrev sA : Sh := (.cons (.int .i64) (.cons (.int .i64) (.cons (.int .i64) (.int .i64))))
abbrev sL : Sh := (.cons (.int .i64) (.cons (.int .i64) (.int .i64)))
abbrev sV : Sh := (.cons (.int .i64) (.int .i64))
abbrev sI : Sh := (.int .i64)
abbrev zM : tM := (((0 : Int), ((0 : Int), ((0 : Int), (0 : Int)))), ((0 : Int), (0 : Int)))
abbrev zA : tA := ((0 : Int), ((0 : Int), ((0 : Int), (0 : Int))))
noncomputable section
def tys : List (Nat × Ty) := [(2, .sc sI), (3, .sc sI), (4, .sc .bool), (5, .sc (.int .u8)), (9, .sc .str), (31, .st sL [(0, 1), (1, 1), (2, 1)]), (32, .sl 2 sI 8), (64, .sl 84 (.list 79 sV) 24), (68, .sl 95 sM 48), (79, .st sV [(0, 1), (1, 1)]), (82, .sl 5 (.int .u8) 1), (84, .sl 79 sV 16), (93, .st sA [(0, 1), (1, 1), (2, 1), (3, 1)]), (95, .st sM [(0, 4), (4, 2)]), (195, .sl 68 (.list 95 sM) 24), (269, .sc (.int .u64)), (289, .st (.cons (.list 5 (.int .u8)) sV) [(0, 1), (1, 1), (2, 1)]), (309, .sl 4 .bool 1), (313, .sl 93 sA 32)]
def eqs : List (Nat × List Sh) := [(31, [sI, sI, sI]), (79, [sI, sI]), (93, [sI, sI, sI, sI]), (95, [sI, sI, sI, sI, sI, sI])]
def mts : List (Nat × MTy) := [(290, ⟨79, 4, sV, .bool⟩), (300, ⟨95, 4, sM, .bool⟩)]
theorem tab_ok : tabB Tryz.prog tys eqs mts = true := by kernel_rfl
theorem mixed_ok : Tryz.prog.follows .mixedOrders = true := by kernel_rfl
def f55E (K : Nat) : Env := ⟨[], tys, eqs, mts, K, [0, 2], [], []⟩
def f55G (K : Nat) (a0 : List Int) : Option Bool :=
  some (decide ((a0.length : Int) > (4096 : Int)))
def f55M (K : Nat) : Mdl := ⟨[(.ro, (.list 5 (.int .u8)))], [.bool], fun x => f55G K x.1⟩
def f174C : Code := codeOf Tryz.f174
def f174E (K : Nat) : Env := ⟨[], tys, eqs, mts, K, [0, 2, 3, 4, 15], [], []⟩
def f174_b2 (K : Nat) (a0 : List Int) (L2 : Int → Int → Option tV) (q3 q4 : Int) : Option tV :=
  (bif ((!(decide (q3 < (a0.length : Int)))) || true) then (bif ((!(decide (q3 < (a0.length : Int)))) || true) then (bif (bif (decide (q3 < (a0.length : Int))) then (decide (q3 < (64 : Int))) else false) then (bif (decide (0 ≤ q3) && decide (q3 < (a0.length : Int))) then L2 (w (q3 + (1 : Int))) ((w ((w (q4 * (73 : Int))) + (w (a0.getD ((0 : Int) + q3).toNat (0 : Int))))).tmod (2147483647 : Int)) else none) else some ((0 : Int), q4)) else none) else none)
def f174_l2 (K : Nat) (a0 : List Int) (n : Nat) (q3 q4 : Int) : Option tV :=
  iter (X := Int × Int) (fun L x => (fun L2 => f174_b2 K a0 L2 x.1 x.2) (fun v0 v1 => L (v0, v1))) n (q3, q4)
def f174_fr2 (a0 : List Int) (q3 q4 : Int) : Fr := ⟨34, [(0, .v false [.row 0]), (2, .v false [.und]), (3, .v false [.box 0 0]), (4, .v false [.int .i64 q3])], [some ⟨true, [.row 0, .int .i64 (0 : Int), .int .i64 q4]⟩], [some ⟨5, (.int .u8), a0, .ro⟩]⟩
def f174_k2 (K : Nat) (a0 : List Int) (lr : LR tV) : Ex → Fr → Option tV :=
  contC (f174E K) 1 lr f174C [1, 1, 0, 1, 0] (finN Tryz.f174 sV)
def f174_g (K : Nat) (a0 : List Int) (I2 : Int → Int → Option tV) : Option tV :=
  I2 (0 : Int) (93001 : Int)
def f174G (K : Nat) (a0 : List Int) : Option tV :=
  f174_g K a0 (fun d0 d1 => f174_l2 K a0 K d0 d1)
def f174M (K : Nat) : NMdl := ⟨5, (.int .u8), sV, [], fun x => f174G K x.1⟩
def f194E (K : Nat) : Env := ⟨[], tys, eqs, mts, K, [0, 1, 4, 5, 7, 32, 62], [], []⟩
def f194G (K : Nat) (a0 : (List Int) × Int × Int) (a1 : Int) : Option (tV × Int) :=
  (bif (decide (a1 ≤ (1 : Int))) then some (a0.2, (0 : Int)) else (bif (decide (a0.2.1 < (a0.1.length : Int))) then (bif (decide (0 ≤ a0.2.1) && decide (a0.2.1 < (a0.1.length : Int))) then (bif ((!(decide (a1 ≤ (256 : Int)))) || true) then (bif ((!(decide (a1 ≤ (256 : Int)))) || true) then (bif ((!(decide (a1 ≤ (256 : Int)))) || true) then (bif ((!(decide (a1 ≤ (256 : Int)))) || true) then (bif ((!(decide (a1 ≤ (256 : Int)))) || true) then (bif ((!(decide (a1 ≤ (256 : Int)))) || true) then (bif (bif (decide (a1 ≤ (256 : Int))) then (((w (a0.2.1 + (1 : Int))).tmod (2 : Int)) == (0 : Int)) else false) then (bif (decide (0 ≤ (w ((w (a0.2.1 + (1 : Int))) - (1 : Int)))) && decide ((w ((w (a0.2.1 + (1 : Int))) - (1 : Int))) < (a0.1.length : Int))) then (bif (a1 != 0) then some (((w (a0.2.1 + (1 : Int))), ((w ((w (a0.2.2 * (48271 : Int))) + (67 : Int))).tmod (2147483647 : Int))), ((w (a0.1.getD ((0 : Int) + (w ((w (a0.2.1 + (1 : Int))) - (1 : Int)))).toNat (0 : Int))).tmod a1)) else none) else none) else (bif (a1 != 0) then some (((w (a0.2.1 + (1 : Int))), ((w ((w (a0.2.2 * (48271 : Int))) + (67 : Int))).tmod (2147483647 : Int))), ((w ((w (((w ((w (a0.2.2 * (48271 : Int))) + (67 : Int))).tmod (2147483647 : Int)).tdiv (37 : Int))) + (w (a0.1.getD ((0 : Int) + a0.2.1).toNat (0 : Int))))).tmod a1)) else none)) else none) else none) else none) else none) else none) else none) else none) else (bif (a1 != 0) then some ((a0.2.1, ((w ((w (a0.2.2 * (48271 : Int))) + (67 : Int))).tmod (2147483647 : Int))), ((w (((w ((w (a0.2.2 * (48271 : Int))) + (67 : Int))).tmod (2147483647 : Int)).tdiv (37 : Int))).tmod a1)) else none)))
def f194M (K : Nat) : PMdl := ⟨5, (.int .u8), sV, [(.ro, sI)], [sI], fun x => f194G K x.1 x.2.1⟩
def f196E (K : Nat) : Env := ⟨[], tys, eqs, mts, K, [0, 1, 4], [(194, f194M K)], []⟩
def f196G (K : Nat) (a0 : (List Int) × Int × Int) (a1 : List Int) : Option (tV × Int) :=
  (f194G K a0 (a1.length : Int)).bind fun y1 => (bif (decide (0 ≤ y1.2) && decide (y1.2 < (a1.length : Int))) then some (y1.1, (a1.getD ((0 : Int) + y1.2).toNat (0 : Int))) else none)
def f196M (K : Nat) : PMdl := ⟨5, (.int .u8), sV, [(.ro, (.list 2 sI))], [sI], fun x => f196G K x.1 x.2.1⟩
def f314E (K : Nat) : Env := ⟨[], tys, eqs, mts, K, [0, 2, 5], [(194, f194M K), (196, f196M K)], []⟩
def f314G (K : Nat) (a0 : (List Int) × Int × Int) : Option (tV × Int) :=
  (f194G K a0 (40 : Int)).bind fun y1 => (bif (y1.2 == (0 : Int)) then (f196G K (a0.1, y1.1) [(-1 : Int), (2 : Int)]).bind fun y2 => some y2 else (f194G K (a0.1, y1.1) (2 : Int)).bind fun y3 => some y3)
def f314M (K : Nat) : PMdl := ⟨5, (.int .u8), sV, [], [sI], fun x => f314G K x.1⟩
def f315E (K : Nat) : Env := ⟨[], tys, eqs, mts, K, [0, 2, 3, 17, 18, 24, 35], [(194, f194M K), (196, f196M K)], []⟩
def f315G (K : Nat) (a0 : (List Int) × Int × Int) : Option (tV × Int × Int × Int) :=
  (f194G K a0 (6 : Int)).bind fun y1 => (f194G K (a0.1, y1.1) (6 : Int)).bind fun y2 => (f194G K (a0.1, y2.1) (w ((1 : Int) + y1.2))).bind fun y3 => (f194G K (a0.1, y3.1) (60 : Int)).bind fun y4 => (bif (y4.2 == (0 : Int)) then (f196G K (a0.1, y4.1) [(0 : Int), (64 : Int), (65 : Int), (8 : Int)]).bind fun y5 => some (y5.1, y5.2, y3.2, (w ((1 : Int) + y2.2))) else (bif (y4.2 == (1 : Int)) then (f196G K (a0.1, y4.1) [(-1 : Int), (w ((1 : Int) + y1.2)), (w ((w ((1 : Int) + y1.2)) - (1 : Int)))]).bind fun y6 => some (y6.1, (w ((1 : Int) + y1.2)), y6.2, (w ((1 : Int) + y2.2))) else (bif (y4.2 == (2 : Int)) then (f196G K (a0.1, y4.1) [(8 : Int), (9 : Int)]).bind fun y7 => some (y7.1, (8 : Int), (3 : Int), y7.2) else some (y4.1, (w ((1 : Int) + y1.2)), y3.2, (w ((1 : Int) + y2.2))))))
def f315M (K : Nat) : PMdl := ⟨5, (.int .u8), sV, [], [sL], fun x => f315G K x.1⟩
def f227E (K : Nat) : Env := ⟨[], tys, eqs, mts, K, [0, 2, 3, 4, 5, 9, 10, 15, 25, 28], [(194, f194M K), (314, f314M K), (315, f315M K)], []⟩
def f227G (K : Nat) (a0 : (List Int) × Int × Int) : Option (tV × Int × Int × Int × Int) :=
  (f314G K a0).bind fun y1 => (f194G K (a0.1, y1.1) (5 : Int)).bind fun y2 => (bif (y2.2 == (0 : Int)) then (f315G K (a0.1, y2.1)).bind fun y3 => some (y3.1, y1.2, y3.2) else (bif (y2.2 == (1 : Int)) then (f194G K (a0.1, y2.1) (4 : Int)).bind fun y4 => (f194G K (a0.1, y4.1) (4 : Int)).bind fun y5 => some (y5.1, y1.2, (w ((1 : Int) + y4.2)), (0 : Int), (w ((1 : Int) + y5.2))) else (bif (y2.2 == (2 : Int)) then (bif (y1.2 == (0 : Int)) then some (y2.1, y1.2, (2 : Int), (1 : Int), (1 : Int)) else some (y2.1, y1.2, (3 : Int), (1 : Int), (1 : Int))) else (f194G K (a0.1, y2.1) (4 : Int)).bind fun y6 => some (y6.1, y1.2, (w ((1 : Int) + y6.2)), (0 : Int), (w ((1 : Int) + y6.2))))))
def f227M (K : Nat) : PMdl := ⟨5, (.int .u8), sV, [], [sI, sL], fun x => f227G K x.1⟩
def f316E (K : Nat) : Env := ⟨[], tys, eqs, mts, K, [0, 2], [], []⟩
def f316G (K : Nat) (a0 : Int) : Option Bool :=
  (bif ((!(!(a0 == (0 : Int)))) || true) then (bif ((!(!(a0 == (0 : Int)))) || true) then some (bif (a0 == (0 : Int)) then true else (a0 == (1 : Int))) else none) else none)
def f316M (K : Nat) : Mdl := ⟨[(.ro, sI)], [.bool], fun x => f316G K x.1⟩
def f141E (K : Nat) : Env := ⟨[], tys, eqs, mts, K, [0, 1, 2, 6], [], []⟩
def f141G (K : Nat) (a0 a1 a2 : Int) : Option Bool :=
  (bif ((!(decide (a0 ≥ a1))) || true) then (bif ((!(decide (a0 ≥ a1))) || true) then (bif ((!(decide (a0 ≥ a1))) || true) then some (bif (decide (a0 ≥ a1)) then (decide (a0 ≤ a2)) else false) else none) else none) else none)
def f141M (K : Nat) : Mdl := ⟨[(.ro, sI), (.ro, sI), (.ro, sI)], [.bool], fun x => f141G K x.1 x.2.1 x.2.2.1⟩
def f317E (K : Nat) : Env := ⟨[(141, f141M K)], tys, eqs, mts, K, [0, 1, 2], [], []⟩
def f317G (K : Nat) (a0 : Int × Int × Int) : Option Bool :=
  (f141G K a0.1 (1 : Int) (64 : Int)).bind fun y1 => (bif ((!y1) || true) then (bif ((!y1) || true) then ((bif y1 then f141G K a0.2.2 (1 : Int) (64 : Int) else some false)).bind fun y2 => (bif ((!(bif y1 then y2 else false)) || true) then (bif ((!(bif y1 then y2 else false)) || true) then (bif ((!(bif y1 then y2 else false)) || true) then (bif ((!(bif y1 then y2 else false)) || true) then (bif ((!(bif y1 then y2 else false)) || true) then ((bif (bif y1 then y2 else false) then f141G K a0.2.1 (0 : Int) (w (a0.1 - (1 : Int))) else some false)).bind fun y3 => (bif ((!(bif (bif y1 then y2 else false) then y3 else false)) || true) then (bif ((!(bif (bif y1 then y2 else false) then y3 else false)) || true) then (bif ((!(bif (bif y1 then y2 else false) then y3 else false)) || true) then (bif ((!(bif (bif y1 then y2 else false) then y3 else false)) || true) then (bif ((!(bif (bif y1 then y2 else false) then y3 else false)) || true) then (bif ((!(bif (bif y1 then y2 else false) then y3 else false)) || true) then some (bif (bif (bif y1 then y2 else false) then y3 else false) then (decide ((w (a0.1 * a0.2.2)) ≤ (64 : Int))) else false) else none) else none) else none) else none) else none) else none) else none) else none) else none) else none) else none) else none) else none)
def f317M (K : Nat) : Mdl := ⟨[(.ro, sL)], [.bool], fun x => f317G K x.1⟩
def f229E (K : Nat) : Env := ⟨[(316, f316M K), (317, f317M K)], tys, eqs, mts, K, [0, 1, 3, 4, 12], [], []⟩
def f229G (K : Nat) (a0 : Int) (a1 : Int × Int × Int) : Option Int :=
  (f316G K a0).bind fun y1 => (bif ((!(!(!y1))) || true) then ((bif (!(!y1)) then f317G K a1 else some false)).bind fun y2 => (bif ((!(!(!y1))) || true) then (bif (bif (!y1) then true else (!y2)) then some (1 : Int) else some (0 : Int)) else none) else none)
def f229M (K : Nat) : Mdl := ⟨[(.ro, sI), (.ro, sL)], [sI], fun x => f229G K x.1 x.2.1⟩
def f233E (K : Nat) : Env := ⟨[], tys, eqs, mts, K, [0], [], []⟩
def f233G (K : Nat) : Option tA :=
  some ((1 : Int), (0 : Int), (0 : Int), (1 : Int))
def f233M (K : Nat) : Mdl := ⟨[], [sA], fun x => f233G K ⟩
def f404E (K : Nat) : Env := ⟨[], tys, eqs, mts, K, [0, 1, 3, 4, 5, 18], [], []⟩
def f404G (K : Nat) (a0 : Int) (a1 : Int × Int) : Option Int :=
  (bif (a0 == (1 : Int)) then some (w ((w ((w (a1.1 * a1.1)) + (w (a1.2 * a1.2)))) + (w (a1.1 * a1.2)))) else some (w ((w (a1.1 * a1.1)) + (w (a1.2 * a1.2)))))
def f404M (K : Nat) : Mdl := ⟨[(.ro, sI), (.ro, sV)], [sI], fun x => f404G K x.1 x.2.1⟩
def f340E (K : Nat) : Env := ⟨[], tys, eqs, mts, K, [0, 1, 2, 3, 4], [], []⟩
def f340G (K : Nat) (a0 a1 : Int × Int) : Option tV :=
  some ((w (a0.1 + a1.1)), (w (a0.2 + a1.2)))
def f340M (K : Nat) : Mdl := ⟨[(.ro, sV), (.ro, sV)], [sV], fun x => f340G K x.1 x.2.1⟩
def f362E (K : Nat) : Env := ⟨[(340, f340M K), (404, f404M K)], tys, eqs, mts, K, [0, 1, 3, 4, 5, 6], [], []⟩
def f362G (K : Nat) (a0 : Int) (a1 : Int × Int × Int × Int) : Option Bool :=
  (f404G K a0 (a1.1, a1.2.2.1)).bind fun y1 => (bif ((!(y1 == (1 : Int))) || true) then (bif ((!(y1 == (1 : Int))) || true) then ((bif (y1 == (1 : Int)) then f404G K a0 (a1.2.1, a1.2.2.2) else some (0 : Int))).bind fun y2 => (bif ((!(y1 == (1 : Int))) || true) then (bif ((!(bif (y1 == (1 : Int)) then (y2 == (1 : Int)) else false)) || true) then (bif ((!(bif (y1 == (1 : Int)) then (y2 == (1 : Int)) else false)) || true) then (bif ((!(bif (y1 == (1 : Int)) then (y2 == (1 : Int)) else false)) || true) then ((bif (bif (y1 == (1 : Int)) then (y2 == (1 : Int)) else false) then f340G K (a1.1, a1.2.2.1) (a1.2.1, a1.2.2.2) else some ((0 : Int), (0 : Int)))).bind fun y3 => ((bif (bif (y1 == (1 : Int)) then (y2 == (1 : Int)) else false) then f404G K a0 y3 else some (0 : Int))).bind fun y4 => (bif ((!(bif (y1 == (1 : Int)) then (y2 == (1 : Int)) else false)) || true) then (bif ((!(bif (y1 == (1 : Int)) then (y2 == (1 : Int)) else false)) || true) then (bif ((!(bif (y1 == (1 : Int)) then (y2 == (1 : Int)) else false)) || true) then some (bif (bif (y1 == (1 : Int)) then (y2 == (1 : Int)) else false) then (y4 == (w ((2 : Int) + a0))) else false) else none) else none) else none) else none) else none) else none) else none) else none) else none)
def f362M (K : Nat) : Mdl := ⟨[(.ro, sI), (.ro, sA)], [.bool], fun x => f362G K x.1 x.2.1⟩
def f365C : Code := codeOf Tryz.f365
def f365E (K : Nat) : Env := ⟨[(362, f362M K)], tys, eqs, mts, K, [0, 2, 3, 4, 5, 8, 28], [], []⟩
def f365_b3 (K : Nat) (a0 : Int) (L3 : Int → (List tA) → Option (List tA)) (q4 : Int) (q5 : List tA) : Option (List tA) :=
  (bif (decide (q4 < (81 : Int))) then (f362G K a0 ((w ((w (q4.tdiv (27 : Int))) - (1 : Int))), (w (((w (q4.tdiv (9 : Int))).tmod (3 : Int)) - (1 : Int))), (w (((w (q4.tdiv (3 : Int))).tmod (3 : Int)) - (1 : Int))), (w ((q4.tmod (3 : Int)) - (1 : Int))))).bind fun y6 => (bif y6 then (bif (Nat.ble (q5.length + [((w ((w (q4.tdiv (27 : Int))) - (1 : Int))), (w (((w (q4.tdiv (9 : Int))).tmod (3 : Int)) - (1 : Int))), (w (((w (q4.tdiv (3 : Int))).tmod (3 : Int)) - (1 : Int))), (w ((q4.tmod (3 : Int)) - (1 : Int))))].length) (lim 32)) then L3 (w (q4 + (1 : Int))) (q5 ++ [((w ((w (q4.tdiv (27 : Int))) - (1 : Int))), (w (((w (q4.tdiv (9 : Int))).tmod (3 : Int)) - (1 : Int))), (w (((w (q4.tdiv (3 : Int))).tmod (3 : Int)) - (1 : Int))), (w ((q4.tmod (3 : Int)) - (1 : Int))))]) else none) else L3 (w (q4 + (1 : Int))) q5) else some q5)
def f365_l3 (K : Nat) (a0 : Int) (n : Nat) (q4 : Int) (q5 : List tA) : Option (List tA) :=
  iter (X := Int × List tA) (fun L x => (fun L3 => f365_b3 K a0 L3 x.1 x.2) (fun v0 v1 => L (v0, v1))) n (q4, q5)
def f365_fr3 (a0 q4 : Int) (q5 : List tA) : Fr := ⟨34, [(0, .v false [.int .i64 a0]), (2, .v false [.row 0]), (3, .v false [.row 1]), (4, .v false [.int .i64 q4])], [], [some ⟨93, sA, [], .own⟩, some ⟨93, sA, q5, .own⟩]⟩
def f365_k3 (K : Nat) (a0 : Int) (lr : LR (List tA)) : Ex → Fr → Option (List tA) :=
  contC (f365E K) 0 lr f365C [1, 1, 0, 1, 0] (finK (f365E K) Tryz.f365 [(.ro, sI)] [(.list 93 sA)] (a0, ()))
def f365_g (K : Nat) (a0 : Int) (I3 : Int → (List tA) → Option (List tA)) : Option (List tA) :=
  I3 (0 : Int) []
def f365G (K : Nat) (a0 : Int) : Option (List tA) :=
  f365_g K a0 (fun d0 d1 => f365_l3 K a0 K d0 d1)
def f365M (K : Nat) : Mdl := ⟨[(.ro, sI)], [(.list 93 sA)], fun x => f365G K x.1⟩
def f363E (K : Nat) : Env := ⟨[], tys, eqs, mts, K, [0, 1, 2], [], []⟩
def f363G (K : Nat) (a0 : Int × Int × Int) : Option (List tV) :=
  some [(a0.1, (0 : Int)), a0.2]
def f363M (K : Nat) : Mdl := ⟨[(.ro, sL)], [(.list 79 sV)], fun x => f363G K x.1⟩
def f341E (K : Nat) : Env := ⟨[], tys, eqs, mts, K, [0, 1, 2, 3, 4], [], []⟩
def f341G (K : Nat) (a0 : Int × Int × Int × Int) (a1 : Int × Int) : Option tV :=
  some ((w ((w (a0.1 * a1.1)) + (w (a0.2.1 * a1.2)))), (w ((w (a0.2.2.1 * a1.1)) + (w (a0.2.2.2 * a1.2)))))
def f341M (K : Nat) : Mdl := ⟨[(.ro, sA), (.ro, sV)], [sV], fun x => f341G K x.1 x.2.1⟩
def f405E (K : Nat) (rec : Int → Int → Option Int) : Env := ⟨[(405, ⟨[(.ro, sI), (.ro, sI)], [sI], fun x => rec x.1 x.2.1⟩)], tys, eqs, mts, K, [0, 1, 4, 6], [], []⟩
def f405_s (K : Nat) (rec : Int → Int → Option Int) (a0 a1 : Int) : Option Int :=
  (bif (a1 == (0 : Int)) then some (if (w (0 - a0)) > a0 then (w (0 - a0)) else a0) else (bif (a1 != 0) then (rec a1 (a0.tmod a1)).bind fun y1 => some y1 else none))
def f405R (K : Nat) : Nat → Int → Int → Option Int
  | 0 => fun _ _ => none
  | n + 1 => fun a0 a1 => f405_s K (f405R K n) a0 a1
def f405G (K : Nat) (a0 a1 : Int) : Option Int := f405R K K a0 a1
def f405M (K : Nat) : Mdl := ⟨[(.ro, sI), (.ro, sI)], [sI], fun x => f405G K x.1 x.2.1⟩
def f255E (K : Nat) : Env := ⟨[], tys, eqs, mts, K, [0, 1, 4, 9], [], []⟩
def f255G (K : Nat) (a0 a1 : Int) : Option Int :=
  (bif (a1 != 0) then (bif (decide ((a0.tmod a1) < (0 : Int))) then some (w ((a0.tmod a1) + a1)) else some (a0.tmod a1)) else none)
def f255M (K : Nat) : Mdl := ⟨[(.ro, sI), (.ro, sI)], [sI], fun x => f255G K x.1 x.2.1⟩
def f406E (K : Nat) : Env := ⟨[], tys, eqs, mts, K, [0, 1, 2, 4], [], []⟩
def f406G (K : Nat) (a0 : Int × Int) (a1 : Int) : Option tV :=
  some ((w (a1 * a0.1)), (w (a1 * a0.2)))
def f406M (K : Nat) : Mdl := ⟨[(.ro, sV), (.ro, sI)], [sV], fun x => f406G K x.1 x.2.1⟩
def f364C : Code := codeOf Tryz.f364
def f364E (K : Nat) : Env := ⟨[(255, f255M K), (405, f405M K), (406, f406M K)], tys, eqs, mts, K, [0, 2, 3, 4, 5, 6, 7, 8, 13, 22, 50, 58, 62], [], []⟩
def f364_b15 (K : Nat) (a0 : List tV) (q11 q12 : Int) (L10 L15 : Int → Int → Int → Int → Option tL) (q16 q17 q18 q19 : Int) : Option tL :=
  (bif (q19 != (0 : Int)) then (bif (q19 != 0) then L15 q18 q19 (w (q16 - (w ((w (q17.tdiv q19)) * q18)))) (w (q17 - (w ((w (q17.tdiv q19)) * q19)))) else none) else (f405G K q11 q18).bind fun y20 => (bif (decide (y20 > (0 : Int))) then (f255G K q16 y20).bind fun y21 => L10 y20 (w (q12 + (1 : Int))) y21 q17 else L10 y20 (w (q12 + (1 : Int))) q16 q17))
def f364_l15 (K : Nat) (a0 : List tV) (q11 q12 : Int) (L10 : Int → Int → Int → Int → Option tL) (n : Nat) (q16 q17 q18 q19 : Int) : Option tL :=
  iter (X := Int × Int × Int × Int) (fun L x => (fun L15 => f364_b15 K a0 q11 q12 L10 L15 x.1 x.2.1 x.2.2.1 x.2.2.2) (fun v0 v1 v2 v3 => L (v0, v1, v2, v3))) n (q16, q17, q18, q19)
def f364_fr15 (a0 : List tV) (q11 q12 q16 q17 q18 q19 : Int) : Fr := ⟨74, [(0, .v false [.row 0]), (2, .v false [.box 0 0]), (3, .v false [.box 1 0]), (4, .v false [.int .i64 q11]), (5, .v false [.int .i64 q12]), (6, .v false [.box 2 0]), (13, .v false [.bool (decide (q12 < (a0.length : Int)))])], [some ⟨true, [.int .i64 (0 : Int), .int .i64 (0 : Int), .int .i64 (0 : Int)]⟩, some ⟨true, [.int .i64 q16, .int .i64 q17]⟩, some ⟨true, [.int .i64 q18, .int .i64 q19]⟩], [some ⟨79, sV, a0, .ro⟩]⟩
def f364_b10 (K : Nat) (a0 : List tV) (I15 : Int → Int → Int → Int → Int → Int → Option tL) (L10 : Int → Int → Int → Int → Option tL) (q11 q12 q13 q14 : Int) : Option tL :=
  (bif (decide (q12 < (a0.length : Int))) then (bif (decide (0 ≤ q12) && decide (q12 < (a0.length : Int))) then I15 q11 q12 q13 q14 ((a0.getD ((0 : Int) + q12).toNat ((0 : Int), (0 : Int))).1) ((a0.getD ((0 : Int) + q12).toNat ((0 : Int), (0 : Int))).2) else none) else (bif (decide (q14 < (0 : Int))) then (f406G K (q13, q14) (-1 : Int)).bind fun y22 => (bif (decide (q11 > (0 : Int))) then (f255G K y22.1 q11).bind fun y23 => some (q11, y23, y22.2) else some (q11, y22)) else (bif (decide (q11 > (0 : Int))) then (f255G K q13 q11).bind fun y24 => some (q11, y24, q14) else some (q11, q13, q14))))
def f364_l10 (K : Nat) (a0 : List tV) (n : Nat) (q11 q12 q13 q14 : Int) : Option tL :=
  iter (X := Int × Int × Int × Int) (fun L x => (fun L10 => f364_b10 K a0 (fun c0 c1 d0 d1 d2 d3 => f364_l15 K a0 c0 c1 L10 K d0 d1 d2 d3) L10 x.1 x.2.1 x.2.2.1 x.2.2.2) (fun v0 v1 v2 v3 => L (v0, v1, v2, v3))) n (q11, q12, q13, q14)
def f364_fr10 (a0 : List tV) (q11 q12 q13 q14 : Int) : Fr := ⟨74, [(0, .v false [.row 0]), (2, .v false [.box 0 0]), (3, .v false [.box 1 0]), (4, .v false [.int .i64 q11]), (5, .v false [.int .i64 q12])], [some ⟨true, [.int .i64 (0 : Int), .int .i64 (0 : Int), .int .i64 (0 : Int)]⟩, some ⟨true, [.int .i64 q13, .int .i64 q14]⟩], [some ⟨79, sV, a0, .ro⟩]⟩
def f364_k10 (K : Nat) (a0 : List tV) (lr : LR tL) : Ex → Fr → Option tL :=
  contC (f364E K) 1 lr f364C [1, 1, 0, 1, 0] (finK (f364E K) Tryz.f364 [(.ro, (.list 79 sV))] [sL] (a0, ()))
def f364_k15 (K : Nat) (a0 : List tV) (F10 : Fr → Option tL) (bq11 bq12 bq13 bq14 : Int) (lr : LR tL) : Ex → Fr → Option tL :=
  contC (f364E K) 1 lr (selC f364C [1, 1, 0, 1, 0, 0]) [1, 0, 0, 1, 0, 0] (loopK 1 (f364_fr10 a0 bq11 bq12 bq13 bq14) F10 (f364_k10 K a0 lr))
def f364_g (K : Nat) (a0 : List tV) (I10 : Int → Int → Int → Int → Option tL) : Option tL :=
  I10 (0 : Int) (0 : Int) (0 : Int) (0 : Int)
def f364G (K : Nat) (a0 : List tV) : Option tL :=
  f364_g K a0 (fun d0 d1 d2 d3 => f364_l10 K a0 K d0 d1 d2 d3)
def f364M (K : Nat) : Mdl := ⟨[(.ro, (.list 79 sV))], [sL], fun x => f364G K x.1⟩
def f313E (K : Nat) : Env := ⟨[(341, f341M K), (363, f363M K), (364, f364M K)], tys, eqs, mts, K, [0, 1, 2, 3, 4, 5], [], []⟩
def f313G (K : Nat) (a0 : Int × Int × Int × Int) (a1 : Int × Int × Int) : Option tL :=
  (f363G K a1).bind fun y1 => (bif (decide (0 ≤ (0 : Int)) && decide ((0 : Int) < (y1.length : Int))) then (f341G K a0 (y1.getD ((0 : Int) + (0 : Int)).toNat ((0 : Int), (0 : Int)))).bind fun y2 => (bif (decide (0 ≤ (1 : Int)) && decide ((1 : Int) < (y1.length : Int))) then (f341G K a0 (y1.getD ((0 : Int) + (1 : Int)).toNat ((0 : Int), (0 : Int)))).bind fun y3 => (f364G K [y2, y3]).bind fun y4 => some y4 else none) else none)
def f313M (K : Nat) : Mdl := ⟨[(.ro, sA), (.ro, sL)], [sL], fun x => f313G K x.1 x.2.1⟩
def f318C : Code := codeOf Tryz.f318
def f318E (K : Nat) : Env := ⟨[(313, f313M K), (365, f365M K)], tys, eqs, mts, K, [0, 1, 3, 4, 5, 6, 7, 14, 24], [], []⟩
def f318_b4 (K : Nat) (a0 : Int) (a1 : Int × Int × Int) (y1 : List tA) (L4 : Int → (List tA) → Option (List tA)) (q5 : Int) (q6 : List tA) : Option (List tA) :=
  (bif (decide (q5 < (y1.length : Int))) then (bif (decide (0 ≤ q5) && decide (q5 < (y1.length : Int))) then (f313G K ((y1.getD ((0 : Int) + q5).toNat zA).1, ((y1.getD ((0 : Int) + q5).toNat zA).2).1, (((y1.getD ((0 : Int) + q5).toNat zA).2).2)) a1).bind fun y7 => (bif ((y7.1 == a1.1) && ((y7.2.1 == a1.2.1) && (y7.2.2 == a1.2.2))) then (bif (decide (0 ≤ q5) && decide (q5 < (y1.length : Int))) then (bif (Nat.ble (q6.length + [((y1.getD ((0 : Int) + q5).toNat zA).1, ((y1.getD ((0 : Int) + q5).toNat zA).2).1, (((y1.getD ((0 : Int) + q5).toNat zA).2).2))].length) (lim 32)) then L4 (w (q5 + (1 : Int))) (q6 ++ [((y1.getD ((0 : Int) + q5).toNat zA).1, ((y1.getD ((0 : Int) + q5).toNat zA).2).1, (((y1.getD ((0 : Int) + q5).toNat zA).2).2))]) else none) else none) else L4 (w (q5 + (1 : Int))) q6) else none) else some q6)
def f318_l4 (K : Nat) (a0 : Int) (a1 : Int × Int × Int) (y1 : List tA) (n : Nat) (q5 : Int) (q6 : List tA) : Option (List tA) :=
  iter (X := Int × List tA) (fun L x => (fun L4 => f318_b4 K a0 a1 y1 L4 x.1 x.2) (fun v0 v1 => L (v0, v1))) n (q5, q6)
def f318_fr4 (a0 : Int) (a1 : Int × Int × Int) (y1 : List tA) (q5 : Int) (q6 : List tA) : Fr := ⟨33, [(0, .v false [.int .i64 a0]), (1, .v true [.int .i64 a1.1, .int .i64 a1.2.1, .int .i64 a1.2.2]), (3, .v false [.box 0 0]), (4, .v false [.row 0]), (5, .v false [.row 1]), (6, .v false [.row 2]), (7, .v false [.int .i64 q5])], [some ⟨true, [.int .i64 a1.1, .int .i64 a1.2.1, .int .i64 a1.2.2]⟩], [some ⟨93, sA, [], .own⟩, some ⟨93, sA, y1, .own⟩, some ⟨93, sA, q6, .own⟩]⟩
def f318_k4 (K : Nat) (a0 : Int) (a1 : Int × Int × Int) (lr : LR (List tA)) : Ex → Fr → Option (List tA) :=
  contC (f318E K) 0 lr f318C [1, 1, 1, 0, 1, 0] (finK (f318E K) Tryz.f318 [(.ro, sI), (.ro, sL)] [(.list 93 sA)] (a0, a1, ()))
def f318_g (K : Nat) (a0 : Int) (a1 : Int × Int × Int) (I4 : (List tA) → Int → (List tA) → Option (List tA)) : Option (List tA) :=
  (f365G K a0).bind fun y1 => I4 y1 (0 : Int) []
def f318G (K : Nat) (a0 : Int) (a1 : Int × Int × Int) : Option (List tA) :=
  f318_g K a0 a1 (fun c0 d0 d1 => f318_l4 K a0 a1 c0 K d0 d1)
def f318M (K : Nat) : Mdl := ⟨[(.ro, sI), (.ro, sL)], [(.list 93 sA)], fun x => f318G K x.1 x.2.1⟩
def f309E (K : Nat) : Env := ⟨[(229, f229M K), (233, f233M K), (318, f318M K)], tys, eqs, mts, K, [0, 1, 2, 5, 6, 7, 8, 13], [(194, f194M K)], []⟩
def f309G (K : Nat) (a0 : (List Int) × Int × Int) (a1 : Int) (a2 : Int × Int × Int) : Option (tV × tA × Int × Int) :=
  (f233G K).bind fun y1 => (f229G K a1 a2).bind fun y2 => (bif (y2 == (0 : Int)) then (f318G K a1 a2).bind fun y3 => (f194G K a0 (y3.length : Int)).bind fun y4 => (bif (decide (0 ≤ y4.2) && decide (y4.2 < (y3.length : Int))) then (f194G K (a0.1, y4.1) (9 : Int)).bind fun y5 => (f194G K (a0.1, y5.1) (9 : Int)).bind fun y6 => some (y6.1, ((y3.getD ((0 : Int) + y4.2).toNat zA).1, ((y3.getD ((0 : Int) + y4.2).toNat zA).2).1, (((y3.getD ((0 : Int) + y4.2).toNat zA).2).2)), (w (y5.2 - (4 : Int))), (w (y6.2 - (4 : Int)))) else none) else (f194G K a0 (9 : Int)).bind fun y7 => (f194G K (a0.1, y7.1) (9 : Int)).bind fun y8 => some (y8.1, y1, (w (y7.2 - (4 : Int))), (w (y8.2 - (4 : Int)))))
def f309M (K : Nat) : PMdl := ⟨5, (.int .u8), sV, [(.ro, sI), (.ro, sL)], [sM], fun x => f309G K x.1 x.2.1 x.2.2.1⟩
def f153E (K : Nat) : Env := ⟨[(255, f255M K)], tys, eqs, mts, K, [0, 1, 2, 3, 4, 5, 6], [], []⟩
def f153G (K : Nat) (a0 : Int × Int × Int) (a1 : Int × Int) : Option tV :=
  (f255G K a1.2 a0.2.2).bind fun y1 => (bif (a0.2.2 != 0) then (f255G K (w (a1.1 - (w ((w ((w (a1.2 - y1)).tdiv a0.2.2)) * a0.2.1)))) a0.1).bind fun y2 => some (y2, y1) else none)
def f153M (K : Nat) : Mdl := ⟨[(.ro, sL), (.ro, sV)], [sV], fun x => f153G K x.1 x.2.1⟩
def f303E (K : Nat) : Env := ⟨[(153, f153M K)], tys, eqs, mts, K, [0, 1, 2, 3, 4], [], []⟩
def f303G (K : Nat) (a0 : Int × Int × Int) (a1 : tA × Int × Int) : Option tM :=
  (f153G K a0 a1.2).bind fun y1 => some (a1.1, y1)
def f303M (K : Nat) : Mdl := ⟨[(.ro, sL), (.ro, sM)], [sM], fun x => f303G K x.1 x.2.1⟩
def f306E (K : Nat) : Env := ⟨[(233, f233M K)], tys, eqs, mts, K, [0], [], []⟩
def f306G (K : Nat) : Option tM :=
  (f233G K).bind fun y1 => some (y1, (0 : Int), (0 : Int))
def f306M (K : Nat) : Mdl := ⟨[], [sM], fun x => f306G K ⟩
def f351E (K : Nat) : Env := ⟨[], tys, eqs, mts, K, [0, 1, 2, 3, 4], [], []⟩
def f351G (K : Nat) (a0 a1 : Int × Int × Int × Int) : Option tA :=
  some ((w ((w (a0.1 * a1.1)) + (w (a0.2.1 * a1.2.2.1)))), (w ((w (a0.1 * a1.2.1)) + (w (a0.2.1 * a1.2.2.2)))), (w ((w (a0.2.2.1 * a1.1)) + (w (a0.2.2.2 * a1.2.2.1)))), (w ((w (a0.2.2.1 * a1.2.1)) + (w (a0.2.2.2 * a1.2.2.2)))))
def f351M (K : Nat) : Mdl := ⟨[(.ro, sA), (.ro, sA)], [sA], fun x => f351G K x.1 x.2.1⟩
def f307E (K : Nat) : Env := ⟨[(340, f340M K), (341, f341M K), (351, f351M K)], tys, eqs, mts, K, [0, 1, 2, 3, 4], [], []⟩
def f307G (K : Nat) (a0 a1 : tA × Int × Int) : Option tM :=
  (f351G K a0.1 a1.1).bind fun y1 => (f341G K a0.1 a1.2).bind fun y2 => (f340G K y2 a0.2).bind fun y3 => some (y1, y3)
def f307M (K : Nat) : Mdl := ⟨[(.ro, sM), (.ro, sM)], [sM], fun x => f307G K x.1 x.2.1⟩
def f398E (K : Nat) : Env := ⟨[], tys, eqs, mts, K, [0, 1, 2], [], []⟩
def f398G (K : Nat) (a0 : Int × Int × Int × Int) : Option (List Int) :=
  some [a0.1, a0.2.1, a0.2.2.1, a0.2.2.2]
def f398M (K : Nat) : Mdl := ⟨[(.ro, sA)], [(.list 2 sI)], fun x => f398G K x.1⟩
def f397C : Code := codeOf Tryz.f397
def f397E (K : Nat) : Env := ⟨[], tys, eqs, mts, K, [0, 1, 4, 5, 15, 26], [], []⟩
def f397_b2 (K : Nat) (a0 a1 : List Int) (L2 : Int → Option Bool) (q3 : Int) : Option Bool :=
  (bif ((!(decide (q3 < (a0.length : Int)))) || true) then (bif ((!(decide (q3 < (a0.length : Int)))) || true) then (bif ((!(decide (q3 < (a0.length : Int)))) || true) then (bif ((!(decide (q3 < (a0.length : Int)))) || true) then (bif (bif (decide (q3 < (a0.length : Int))) then (decide (q3 < (a1.length : Int))) else false) then (bif (decide (0 ≤ q3) && decide (q3 < (a0.length : Int))) then (bif (decide (0 ≤ q3) && decide (q3 < (a1.length : Int))) then (bif ((a0.getD ((0 : Int) + q3).toNat (0 : Int)) != (a1.getD ((0 : Int) + q3).toNat (0 : Int))) then (bif (decide (0 ≤ q3) && decide (q3 < (a0.length : Int))) then (bif (decide (0 ≤ q3) && decide (q3 < (a1.length : Int))) then some (decide ((a0.getD ((0 : Int) + q3).toNat (0 : Int)) < (a1.getD ((0 : Int) + q3).toNat (0 : Int)))) else none) else none) else L2 (w (q3 + (1 : Int)))) else none) else none) else some (decide ((a0.length : Int) < (a1.length : Int)))) else none) else none) else none) else none)
def f397_l2 (K : Nat) (a0 a1 : List Int) (n : Nat) (q3 : Int) : Option Bool :=
  iter (X := Int) (fun L x => (fun L2 => f397_b2 K a0 a1 L2 x) (fun v0 => L v0)) n q3
def f397_fr2 (a0 a1 : List Int) (q3 : Int) : Fr := ⟨41, [(0, .v false [.row 0]), (1, .v false [.row 1]), (4, .v false [.bool false]), (5, .v false [.int .i64 q3])], [], [some ⟨2, sI, a0, .ro⟩, some ⟨2, sI, a1, .ro⟩]⟩
def f397_k2 (K : Nat) (a0 a1 : List Int) (lr : LR Bool) : Ex → Fr → Option Bool :=
  contC (f397E K) 2 lr f397C [1, 0, 1, 0] (finK (f397E K) Tryz.f397 [(.ro, (.list 2 sI)), (.ro, (.list 2 sI))] [.bool] (a0, a1, ()))
def f397_g (K : Nat) (a0 a1 : List Int) (I2 : Int → Option Bool) : Option Bool :=
  I2 (0 : Int)
def f397G (K : Nat) (a0 a1 : List Int) : Option Bool :=
  f397_g K a0 a1 (fun d0 => f397_l2 K a0 a1 K d0)
def f397M (K : Nat) : Mdl := ⟨[(.ro, (.list 2 sI)), (.ro, (.list 2 sI))], [.bool], fun x => f397G K x.1 x.2.1⟩
def f350E (K : Nat) : Env := ⟨[(397, f397M K), (398, f398M K)], tys, eqs, mts, K, [0, 1, 2, 3, 4], [], []⟩
def f350G (K : Nat) (a0 a1 : Int × Int × Int × Int) : Option Bool :=
  (f398G K a0).bind fun y1 => (f398G K a1).bind fun y2 => (f397G K y1 y2).bind fun y3 => some y3
def f350M (K : Nat) : Mdl := ⟨[(.ro, sA), (.ro, sA)], [.bool], fun x => f350G K x.1 x.2.1⟩
def f339E (K : Nat) : Env := ⟨[], tys, eqs, mts, K, [0, 1, 2, 3, 4], [], []⟩
def f339G (K : Nat) (a0 a1 : Int × Int) : Option Bool :=
  (bif ((!(!(decide (a0.1 < a1.1)))) || true) then (bif ((!(!(decide (a0.1 < a1.1)))) || true) then (bif ((!(!(decide (a0.1 < a1.1)))) || true) then (bif ((!(!(decide (a0.1 < a1.1)))) || true) then (bif ((!(!(decide (a0.1 < a1.1)))) || true) then (bif ((!(!(decide (a0.1 < a1.1)))) || true) then (bif ((!((!(decide (a0.1 < a1.1))) && (a0.1 == a1.1))) || true) then (bif ((!((!(decide (a0.1 < a1.1))) && (a0.1 == a1.1))) || true) then (bif ((!((!(decide (a0.1 < a1.1))) && (a0.1 == a1.1))) || true) then (bif ((!((!(decide (a0.1 < a1.1))) && (a0.1 == a1.1))) || true) then (bif ((!((!(decide (a0.1 < a1.1))) && (a0.1 == a1.1))) || true) then (bif ((!(!(decide (a0.1 < a1.1)))) || true) then some (bif (decide (a0.1 < a1.1)) then true else (bif (a0.1 == a1.1) then (decide (a0.2 < a1.2)) else false)) else none) else none) else none) else none) else none) else none) else none) else none) else none) else none) else none) else none)
def f339M (K : Nat) : Mdl := ⟨[(.ro, sV), (.ro, sV)], [.bool], fun x => f339G K x.1 x.2.1⟩
def f304E (K : Nat) : Env := ⟨[(339, f339M K), (350, f350M K)], tys, eqs, mts, K, [0, 1, 2, 3, 4, 9], [], []⟩
def f304G (K : Nat) (a0 a1 : tA × Int × Int) : Option Bool :=
  (bif (!((a0.1.1 == a1.1.1) && ((a0.1.2.1 == a1.1.2.1) && ((a0.1.2.2.1 == a1.1.2.2.1) && (a0.1.2.2.2 == a1.1.2.2.2))))) then (f350G K a0.1 a1.1).bind fun y1 => some y1 else (f339G K a0.2 a1.2).bind fun y2 => some y2)
def f304M (K : Nat) : Mdl := ⟨[(.ro, sM), (.ro, sM)], [.bool], fun x => f304G K x.1 x.2.1⟩
def f328C : Code := codeOf Tryz.f328
def f328E (K : Nat) : Env := ⟨[(304, f304M K)], tys, eqs, mts, K, [0, 1, 3, 4, 5, 6, 7, 12, 22], [], []⟩
def f328_b6 (K : Nat) (a0 : List tM) (a1 : tA × Int × Int) (L6 : Int → Int → Option Int) (q7 q8 : Int) : Option Int :=
  (bif (decide (q7 < q8)) then (bif (decide (0 ≤ (w ((w (q7 + q8)).tdiv (2 : Int)))) && decide ((w ((w (q7 + q8)).tdiv (2 : Int))) < (a0.length : Int))) then (f304G K ((((a0.getD ((0 : Int) + (w ((w (q7 + q8)).tdiv (2 : Int)))).toNat zM).1).1, (((a0.getD ((0 : Int) + (w ((w (q7 + q8)).tdiv (2 : Int)))).toNat zM).1).2).1, ((((a0.getD ((0 : Int) + (w ((w (q7 + q8)).tdiv (2 : Int)))).toNat zM).1).2).2)), ((a0.getD ((0 : Int) + (w ((w (q7 + q8)).tdiv (2 : Int)))).toNat zM).2)) a1).bind fun y9 => (bif y9 then L6 (w ((w ((w (q7 + q8)).tdiv (2 : Int))) + (1 : Int))) q8 else L6 q7 (w ((w (q7 + q8)).tdiv (2 : Int)))) else none) else some q7)
def f328_l6 (K : Nat) (a0 : List tM) (a1 : tA × Int × Int) (n : Nat) (q7 q8 : Int) : Option Int :=
  iter (X := Int × Int) (fun L x => (fun L6 => f328_b6 K a0 a1 L6 x.1 x.2) (fun v0 v1 => L (v0, v1))) n (q7, q8)
def f328_fr6 (a0 : List tM) (a1 : tA × Int × Int) (q7 q8 : Int) : Fr := ⟨27, [(0, .v false [.row 0]), (1, .v true [.int .i64 a1.1.1, .int .i64 a1.1.2.1, .int .i64 a1.1.2.2.1, .int .i64 a1.1.2.2.2, .int .i64 a1.2.1, .int .i64 a1.2.2]), (3, .v false [.box 0 0]), (4, .v false [.int .i64 (0 : Int)]), (5, .v false [.int .i64 q7]), (6, .v false [.int .i64 q8])], [some ⟨true, [.int .i64 a1.1.1, .int .i64 a1.1.2.1, .int .i64 a1.1.2.2.1, .int .i64 a1.1.2.2.2, .int .i64 a1.2.1, .int .i64 a1.2.2]⟩], [some ⟨95, sM, a0, .ro⟩]⟩
def f328_k6 (K : Nat) (a0 : List tM) (a1 : tA × Int × Int) (lr : LR Int) : Ex → Fr → Option Int :=
  contC (f328E K) 1 lr f328C [1, 1, 0, 0] (finK (f328E K) Tryz.f328 [(.ro, (.list 95 sM)), (.ro, sM)] [sI] (a0, a1, ()))
def f328_g (K : Nat) (a0 : List tM) (a1 : tA × Int × Int) (I6 : Int → Int → Option Int) : Option Int :=
  I6 (0 : Int) (a0.length : Int)
def f328G (K : Nat) (a0 : List tM) (a1 : tA × Int × Int) : Option Int :=
  f328_g K a0 a1 (fun d0 d1 => f328_l6 K a0 a1 K d0 d1)
def f328M (K : Nat) : Mdl := ⟨[(.ro, (.list 95 sM)), (.ro, sM)], [sI], fun x => f328G K x.1 x.2.1⟩
def f305E (K : Nat) : Env := ⟨[(328, f328M K)], tys, eqs, mts, K, [0, 1, 3, 4, 5], [], []⟩
def f305G (K : Nat) (a0 : List tM) (a1 : tA × Int × Int) : Option Bool :=
  (f328G K a0 a1).bind fun y1 => (bif ((!(decide (y1 < (a0.length : Int)))) || true) then (bif ((!(decide (y1 < (a0.length : Int)))) || true) then (bif ((!(decide (y1 < (a0.length : Int)))) || (decide (0 ≤ y1) && decide (y1 < (a0.length : Int)))) then (bif ((!(decide (y1 < (a0.length : Int)))) || true) then (bif ((!(decide (y1 < (a0.length : Int)))) || true) then (bif ((!(decide (y1 < (a0.length : Int)))) || true) then some (bif (decide (y1 < (a0.length : Int))) then ((((a0.getD ((0 : Int) + y1).toNat zM).1).1 == a1.1.1) && (((((a0.getD ((0 : Int) + y1).toNat zM).1).2).1 == a1.1.2.1) && ((((((a0.getD ((0 : Int) + y1).toNat zM).1).2).2).1 == a1.1.2.2.1) && ((((((a0.getD ((0 : Int) + y1).toNat zM).1).2).2).2 == a1.1.2.2.2) && ((((a0.getD ((0 : Int) + y1).toNat zM).2).1 == a1.2.1) && (((a0.getD ((0 : Int) + y1).toNat zM).2).2 == a1.2.2)))))) else false) else none) else none) else none) else none) else none) else none)
def f305M (K : Nat) : Mdl := ⟨[(.ro, (.list 95 sM)), (.ro, sM)], [.bool], fun x => f305G K x.1 x.2.1⟩
def f324E (K : Nat) : Env := ⟨[(328, f328M K)], tys, eqs, mts, K, [0, 1, 3, 4, 5, 20], [], []⟩
def f324G (K : Nat) (a0 : List tM) (a1 : tA × Int × Int) : Option (List tM) :=
  (f328G K a0 a1).bind fun y1 => (bif ((!(decide (y1 < (a0.length : Int)))) || true) then (bif ((!(decide (y1 < (a0.length : Int)))) || true) then (bif ((!(decide (y1 < (a0.length : Int)))) || (decide (0 ≤ y1) && decide (y1 < (a0.length : Int)))) then (bif ((!(decide (y1 < (a0.length : Int)))) || true) then (bif ((!(decide (y1 < (a0.length : Int)))) || true) then (bif ((!(decide (y1 < (a0.length : Int)))) || true) then (bif (bif (decide (y1 < (a0.length : Int))) then ((((a0.getD ((0 : Int) + y1).toNat zM).1).1 == a1.1.1) && (((((a0.getD ((0 : Int) + y1).toNat zM).1).2).1 == a1.1.2.1) && ((((((a0.getD ((0 : Int) + y1).toNat zM).1).2).2).1 == a1.1.2.2.1) && ((((((a0.getD ((0 : Int) + y1).toNat zM).1).2).2).2 == a1.1.2.2.2) && ((((a0.getD ((0 : Int) + y1).toNat zM).2).1 == a1.2.1) && (((a0.getD ((0 : Int) + y1).toNat zM).2).2 == a1.2.2)))))) else false) then some a0 else (bif (decide (0 ≤ (0 : Int)) && decide ((0 : Int) ≤ y1) && decide (y1 ≤ (a0.length : Int))) then (bif (Nat.ble (0 + ((a0.take ((0 : Int) + y1).toNat).drop 0).length) (lim 48)) then (bif (Nat.ble (([] ++ ((a0.take ((0 : Int) + y1).toNat).drop 0)).length + [a1].length) (lim 48)) then (bif (decide (0 ≤ y1) && decide (y1 ≤ (a0.length : Int)) && decide ((a0.length : Int) ≤ (a0.length : Int))) then (bif (Nat.ble ((([] ++ ((a0.take ((0 : Int) + y1).toNat).drop 0)) ++ [a1]).length + ((a0.take ((0 : Int) + (a0.length : Int)).toNat).drop ((0 : Int) + y1).toNat).length) (lim 48)) then some ((([] ++ ((a0.take ((0 : Int) + y1).toNat).drop 0)) ++ [a1]) ++ ((a0.take ((0 : Int) + (a0.length : Int)).toNat).drop ((0 : Int) + y1).toNat)) else none) else none) else none) else none) else none)) else none) else none) else none) else none) else none) else none)
def f324M (K : Nat) : Mdl := ⟨[(.mv, (.list 95 sM)), (.ro, sM)], [(.list 95 sM)], fun x => f324G K x.1 x.2.1⟩
def f253C : Code := codeOf Tryz.f253
def f253E (K : Nat) : Env := ⟨[(303, f303M K), (305, f305M K), (306, f306M K), (307, f307M K), (324, f324M K)], tys, eqs, mts, K, [0, 1, 2, 4, 5, 6, 7, 8, 9, 17, 23, 40], [], []⟩
def f253_b21 (K : Nat) (a0 : Int × Int × Int) (a1 : List tM) (q18 : Int) (q20 : List tM) (L17 L21 : Int → (List tM) → (List tM) → Option (List tM)) (q22 : Int) (q23 q24 : List tM) : Option (List tM) :=
  (bif (decide (q22 < (a1.length : Int))) then (bif (decide (0 ≤ q22) && decide (q22 < (a1.length : Int))) then (bif (decide (0 ≤ q18) && decide (q18 < (q24.length : Int))) then (f307G K ((((a1.getD ((0 : Int) + q22).toNat zM).1).1, (((a1.getD ((0 : Int) + q22).toNat zM).1).2).1, ((((a1.getD ((0 : Int) + q22).toNat zM).1).2).2)), ((a1.getD ((0 : Int) + q22).toNat zM).2)) ((((q24.getD ((0 : Int) + q18).toNat zM).1).1, (((q24.getD ((0 : Int) + q18).toNat zM).1).2).1, ((((q24.getD ((0 : Int) + q18).toNat zM).1).2).2)), ((q24.getD ((0 : Int) + q18).toNat zM).2))).bind fun y25 => (f303G K a0 y25).bind fun y26 => (f305G K q23 y26).bind fun y27 => (bif (!y27) then (f324G K q23 y26).bind fun y28 => (bif (Nat.ble (q24.length + [y26].length) (lim 48)) then L21 (w (q22 + (1 : Int))) y28 (q24 ++ [y26]) else none) else L21 (w (q22 + (1 : Int))) q23 q24) else none) else none) else L17 (w (q18 + (1 : Int))) q23 q24)
def f253_l21 (K : Nat) (a0 : Int × Int × Int) (a1 : List tM) (q18 : Int) (q20 : List tM) (L17 : Int → (List tM) → (List tM) → Option (List tM)) (n : Nat) (q22 : Int) (q23 q24 : List tM) : Option (List tM) :=
  iter (X := Int × List tM × List tM) (fun L x => (fun L21 => f253_b21 K a0 a1 q18 q20 L17 L21 x.1 x.2.1 x.2.2) (fun v0 v1 v2 => L (v0, v1, v2))) n (q22, q23, q24)
def f253_fr21 (a0 : Int × Int × Int) (a1 : List tM) (q18 : Int) (q20 : List tM) (q22 : Int) (q23 q24 : List tM) : Fr := ⟨49, [(0, .v true [.int .i64 a0.1, .int .i64 a0.2.1, .int .i64 a0.2.2]), (1, .v false [.row 0]), (2, .v false [.box 0 0]), (4, .v false [.row 1]), (5, .v false [.row 2]), (6, .v false [.row 3]), (7, .v false [.int .i64 q18]), (8, .v false [.int .i64 q22]), (17, .v false [.bool (decide (q18 < (q20.length : Int)))])], [some ⟨true, [.int .i64 a0.1, .int .i64 a0.2.1, .int .i64 a0.2.2]⟩], [some ⟨95, sM, a1, .ro⟩, some ⟨95, sM, [], .own⟩, some ⟨95, sM, q23, .own⟩, some ⟨95, sM, q24, .own⟩]⟩
def f253_b17 (K : Nat) (a0 : Int × Int × Int) (a1 : List tM) (I21 : Int → (List tM) → Int → (List tM) → (List tM) → Option (List tM)) (L17 : Int → (List tM) → (List tM) → Option (List tM)) (q18 : Int) (q19 q20 : List tM) : Option (List tM) :=
  (bif (decide (q18 < (q20.length : Int))) then I21 q18 q20 (0 : Int) q19 q20 else some q19)
def f253_l17 (K : Nat) (a0 : Int × Int × Int) (a1 : List tM) (n : Nat) (q18 : Int) (q19 q20 : List tM) : Option (List tM) :=
  iter (X := Int × List tM × List tM) (fun L x => (fun L17 => f253_b17 K a0 a1 (fun c0 c1 d0 d1 d2 => f253_l21 K a0 a1 c0 c1 L17 K d0 d1 d2) L17 x.1 x.2.1 x.2.2) (fun v0 v1 v2 => L (v0, v1, v2))) n (q18, q19, q20)
def f253_fr17 (a0 : Int × Int × Int) (a1 : List tM) (q18 : Int) (q19 q20 : List tM) : Fr := ⟨49, [(0, .v true [.int .i64 a0.1, .int .i64 a0.2.1, .int .i64 a0.2.2]), (1, .v false [.row 0]), (2, .v false [.box 0 0]), (4, .v false [.row 1]), (5, .v false [.row 2]), (6, .v false [.row 3]), (7, .v false [.int .i64 q18])], [some ⟨true, [.int .i64 a0.1, .int .i64 a0.2.1, .int .i64 a0.2.2]⟩], [some ⟨95, sM, a1, .ro⟩, some ⟨95, sM, [], .own⟩, some ⟨95, sM, q19, .own⟩, some ⟨95, sM, q20, .own⟩]⟩
def f253_k17 (K : Nat) (a0 : Int × Int × Int) (a1 : List tM) (lr : LR (List tM)) : Ex → Fr → Option (List tM) :=
  contC (f253E K) 1 lr f253C [1, 1, 1, 0, 1, 0] (finK (f253E K) Tryz.f253 [(.ro, sL), (.ro, (.list 95 sM))] [(.list 95 sM)] (a0, a1, ()))
def f253_k21 (K : Nat) (a0 : Int × Int × Int) (a1 : List tM) (F17 : Fr → Option (List tM)) (bq18 : Int) (bq19 bq20 : List tM) (lr : LR (List tM)) : Ex → Fr → Option (List tM) :=
  contC (f253E K) 1 lr (selC f253C [1, 1, 1, 0, 1, 0, 0]) [1, 0, 0, 1, 0] (loopK 1 (f253_fr17 a0 a1 bq18 bq19 bq20) F17 (f253_k17 K a0 a1 lr))
def f253_g (K : Nat) (a0 : Int × Int × Int) (a1 : List tM) (I17 : Int → (List tM) → (List tM) → Option (List tM)) : Option (List tM) :=
  (f306G K).bind fun y1 => (f306G K).bind fun y2 => I17 (0 : Int) [y1] [y2]
def f253G (K : Nat) (a0 : Int × Int × Int) (a1 : List tM) : Option (List tM) :=
  f253_g K a0 a1 (fun d0 d1 d2 => f253_l17 K a0 a1 K d0 d1 d2)
def f253M (K : Nat) : Mdl := ⟨[(.ro, sL), (.ro, (.list 95 sM))], [(.list 95 sM)], fun x => f253G K x.1 x.2.1⟩
def f302C : Code := codeOf Tryz.f302
def f302E (K : Nat) : Env := ⟨[(229, f229M K), (253, f253M K), (303, f303M K)], tys, eqs, mts, K, [0, 2, 3, 4, 5, 6, 7, 8, 9, 19, 23, 40, 53, 59, 60, 72, 81], [(194, f194M K), (227, f227M K), (309, f309M K)], []⟩
def f302_b7 (K : Nat) (a0 : (List Int) × Int × Int) (y1 : tV × Int × Int × Int × Int) (y2 : Int) (L7 : Int → Int → Int → (List tM) → Option (tV × Int × tL × List tM)) (q8 q9 q10 : Int) (q11 : List tM) : Option (tV × Int × tL × List tM) :=
  (bif (decide (q8 > (0 : Int))) then (f309G K (a0.1, q9, q10) y1.2.1 y1.2.2).bind fun y12 => (f303G K y1.2.2 y12.2).bind fun y13 => (bif (Nat.ble (q11.length + [y13].length) (lim 48)) then L7 (w (q8 - (1 : Int))) y12.1.1 y12.1.2 (q11 ++ [y13]) else none) else (f253G K y1.2.2 q11).bind fun y14 => (bif (decide ((y14.length : Int) > (24 : Int))) then (f194G K (a0.1, q9, q10) (y14.length : Int)).bind fun y15 => (bif (decide (0 ≤ y15.2) && decide (y15.2 < (y14.length : Int))) then (f253G K y1.2.2 [((((y14.getD ((0 : Int) + y15.2).toNat zM).1).1, (((y14.getD ((0 : Int) + y15.2).toNat zM).1).2).1, ((((y14.getD ((0 : Int) + y15.2).toNat zM).1).2).2)), ((y14.getD ((0 : Int) + y15.2).toNat zM).2))]).bind fun y16 => (bif (decide ((y16.length : Int) > (0 : Int))) then (f194G K (a0.1, y15.1) (y16.length : Int)).bind fun y17 => (f194G K (a0.1, y17.1) (30 : Int)).bind fun y18 => (bif (y18.2 == (0 : Int)) then (bif (decide (0 ≤ (0 : Int)) && decide ((0 : Int) ≤ y17.2) && decide (y17.2 ≤ (y16.length : Int))) then (bif (Nat.ble (0 + ((y16.take ((0 : Int) + y17.2).toNat).drop 0).length) (lim 48)) then (bif (decide (0 ≤ (w (y17.2 + (1 : Int)))) && decide ((w (y17.2 + (1 : Int))) ≤ (y16.length : Int)) && decide ((y16.length : Int) ≤ (y16.length : Int))) then (bif (Nat.ble (([] ++ ((y16.take ((0 : Int) + y17.2).toNat).drop 0)).length + ((y16.take ((0 : Int) + (y16.length : Int)).toNat).drop ((0 : Int) + (w (y17.2 + (1 : Int)))).toNat).length) (lim 48)) then some (y18.1, y1.2.1, y1.2.2, (([] ++ ((y16.take ((0 : Int) + y17.2).toNat).drop 0)) ++ ((y16.take ((0 : Int) + (y16.length : Int)).toNat).drop ((0 : Int) + (w (y17.2 + (1 : Int)))).toNat))) else none) else none) else none) else none) else (bif (y18.2 == (1 : Int)) then (bif (decide (0 ≤ y17.2) && decide (y17.2 < (y16.length : Int))) then (bif (Nat.ble (y16.length + [((((y16.getD ((0 : Int) + y17.2).toNat zM).1).1, (((y16.getD ((0 : Int) + y17.2).toNat zM).1).2).1, ((((y16.getD ((0 : Int) + y17.2).toNat zM).1).2).2)), ((y16.getD ((0 : Int) + y17.2).toNat zM).2))].length) (lim 48)) then some (y18.1, y1.2.1, y1.2.2, (y16 ++ [((((y16.getD ((0 : Int) + y17.2).toNat zM).1).1, (((y16.getD ((0 : Int) + y17.2).toNat zM).1).2).1, ((((y16.getD ((0 : Int) + y17.2).toNat zM).1).2).2)), ((y16.getD ((0 : Int) + y17.2).toNat zM).2))])) else none) else none) else (bif (y18.2 == (2 : Int)) then (bif (decide (0 ≤ y17.2) && decide (y17.2 < (y16.length : Int))) then (bif (decide (0 ≤ y17.2) && decide (y17.2 < (y16.length : Int))) then some (y18.1, y1.2.1, y1.2.2, (y16.set ((0 : Int) + y17.2).toNat ((y16.getD ((0 : Int) + y17.2).toNat zM).1, (w (((y16.getD ((0 : Int) + y17.2).toNat zM).2).1 + (1 : Int))), ((y16.getD ((0 : Int) + y17.2).toNat zM).2).2))) else none) else none) else some (y18.1, y1.2.1, y1.2.2, y16)))) else some (y15.1, y1.2.1, y1.2.2, y16)) else none) else (bif (decide ((y14.length : Int) > (0 : Int))) then (f194G K (a0.1, q9, q10) (y14.length : Int)).bind fun y19 => (f194G K (a0.1, y19.1) (30 : Int)).bind fun y20 => (bif (y20.2 == (0 : Int)) then (bif (decide (0 ≤ (0 : Int)) && decide ((0 : Int) ≤ y19.2) && decide (y19.2 ≤ (y14.length : Int))) then (bif (Nat.ble (0 + ((y14.take ((0 : Int) + y19.2).toNat).drop 0).length) (lim 48)) then (bif (decide (0 ≤ (w (y19.2 + (1 : Int)))) && decide ((w (y19.2 + (1 : Int))) ≤ (y14.length : Int)) && decide ((y14.length : Int) ≤ (y14.length : Int))) then (bif (Nat.ble (([] ++ ((y14.take ((0 : Int) + y19.2).toNat).drop 0)).length + ((y14.take ((0 : Int) + (y14.length : Int)).toNat).drop ((0 : Int) + (w (y19.2 + (1 : Int)))).toNat).length) (lim 48)) then some (y20.1, y1.2.1, y1.2.2, (([] ++ ((y14.take ((0 : Int) + y19.2).toNat).drop 0)) ++ ((y14.take ((0 : Int) + (y14.length : Int)).toNat).drop ((0 : Int) + (w (y19.2 + (1 : Int)))).toNat))) else none) else none) else none) else none) else (bif (y20.2 == (1 : Int)) then (bif (decide (0 ≤ y19.2) && decide (y19.2 < (y14.length : Int))) then (bif (Nat.ble (y14.length + [((((y14.getD ((0 : Int) + y19.2).toNat zM).1).1, (((y14.getD ((0 : Int) + y19.2).toNat zM).1).2).1, ((((y14.getD ((0 : Int) + y19.2).toNat zM).1).2).2)), ((y14.getD ((0 : Int) + y19.2).toNat zM).2))].length) (lim 48)) then some (y20.1, y1.2.1, y1.2.2, (y14 ++ [((((y14.getD ((0 : Int) + y19.2).toNat zM).1).1, (((y14.getD ((0 : Int) + y19.2).toNat zM).1).2).1, ((((y14.getD ((0 : Int) + y19.2).toNat zM).1).2).2)), ((y14.getD ((0 : Int) + y19.2).toNat zM).2))])) else none) else none) else (bif (y20.2 == (2 : Int)) then (bif (decide (0 ≤ y19.2) && decide (y19.2 < (y14.length : Int))) then (bif (decide (0 ≤ y19.2) && decide (y19.2 < (y14.length : Int))) then some (y20.1, y1.2.1, y1.2.2, (y14.set ((0 : Int) + y19.2).toNat ((y14.getD ((0 : Int) + y19.2).toNat zM).1, (w (((y14.getD ((0 : Int) + y19.2).toNat zM).2).1 + (1 : Int))), ((y14.getD ((0 : Int) + y19.2).toNat zM).2).2))) else none) else none) else some (y20.1, y1.2.1, y1.2.2, y14)))) else some ((q9, q10), y1.2.1, y1.2.2, y14))))
def f302_l7 (K : Nat) (a0 : (List Int) × Int × Int) (y1 : tV × Int × Int × Int × Int) (y2 : Int) (n : Nat) (q8 q9 q10 : Int) (q11 : List tM) : Option (tV × Int × tL × List tM) :=
  iter (X := Int × Int × Int × List tM) (fun L x => (fun L7 => f302_b7 K a0 y1 y2 L7 x.1 x.2.1 x.2.2.1 x.2.2.2) (fun v0 v1 v2 v3 => L (v0, v1, v2, v3))) n (q8, q9, q10, q11)
def f302_fr7 (a0 : (List Int) × Int × Int) (y1 : tV × Int × Int × Int × Int) (y2 q8 q9 q10 : Int) (q11 : List tM) : Fr := ⟨98, [(0, .v false [.box 0 0]), (2, .v false [.int .i64 (0 : Int)]), (3, .v false [.box 1 0]), (4, .v false [.row 1]), (5, .v false [.int .i64 y1.2.1]), (6, .v false [.box 2 0]), (7, .v false [.row 2]), (8, .v false [.int .i64 q8]), (19, .v false [.bool (y2 == (0 : Int))])], [some ⟨true, [.row 0, .int .i64 q9, .int .i64 q10]⟩, some ⟨true, [.int .i64 (0 : Int), .int .i64 (0 : Int), .int .i64 (0 : Int)]⟩, some ⟨true, [.int .i64 y1.2.2.1, .int .i64 y1.2.2.2.1, .int .i64 y1.2.2.2.2]⟩], [some ⟨5, (.int .u8), a0.1, .ro⟩, some ⟨95, sM, [], .own⟩, some ⟨95, sM, q11, .own⟩]⟩
def f302_k7 (K : Nat) (a0 : (List Int) × Int × Int) (lr : LR (tV × Int × tL × List tM)) : Ex → Fr → Option (tV × Int × tL × List tM) :=
  contC (f302E K) 1 lr f302C [1, 1, 1, 0, 1, 0, 0, 1, 0] (finP (f302E K) Tryz.f302 sV [sI, sL, (.list 95 sM)])
def f302_g (K : Nat) (a0 : (List Int) × Int × Int) (I7 : (tV × Int × Int × Int × Int) → Int → Int → Int → Int → (List tM) → Option (tV × Int × tL × List tM)) : Option (tV × Int × tL × List tM) :=
  (f227G K a0).bind fun y1 => (f229G K y1.2.1 y1.2.2).bind fun y2 => (bif (y2 == (0 : Int)) then (f194G K (a0.1, y1.1) (3 : Int)).bind fun y3 => I7 y1 y2 y3.2 y3.1.1 y3.1.2 [] else (bif (decide ((([] : List tM).length : Int) > (24 : Int))) then (f194G K (a0.1, y1.1) (([] : List tM).length : Int)).bind fun y21 => (bif (decide (0 ≤ y21.2) && decide (y21.2 < (([] : List tM).length : Int))) then (f253G K y1.2.2 [((((([] : List tM).getD ((0 : Int) + y21.2).toNat zM).1).1, (((([] : List tM).getD ((0 : Int) + y21.2).toNat zM).1).2).1, ((((([] : List tM).getD ((0 : Int) + y21.2).toNat zM).1).2).2)), ((([] : List tM).getD ((0 : Int) + y21.2).toNat zM).2))]).bind fun y22 => (bif (decide ((y22.length : Int) > (0 : Int))) then (f194G K (a0.1, y21.1) (y22.length : Int)).bind fun y23 => (f194G K (a0.1, y23.1) (30 : Int)).bind fun y24 => (bif (y24.2 == (0 : Int)) then (bif (decide (0 ≤ (0 : Int)) && decide ((0 : Int) ≤ y23.2) && decide (y23.2 ≤ (y22.length : Int))) then (bif (Nat.ble (0 + ((y22.take ((0 : Int) + y23.2).toNat).drop 0).length) (lim 48)) then (bif (decide (0 ≤ (w (y23.2 + (1 : Int)))) && decide ((w (y23.2 + (1 : Int))) ≤ (y22.length : Int)) && decide ((y22.length : Int) ≤ (y22.length : Int))) then (bif (Nat.ble (([] ++ ((y22.take ((0 : Int) + y23.2).toNat).drop 0)).length + ((y22.take ((0 : Int) + (y22.length : Int)).toNat).drop ((0 : Int) + (w (y23.2 + (1 : Int)))).toNat).length) (lim 48)) then some (y24.1, y1.2.1, y1.2.2, (([] ++ ((y22.take ((0 : Int) + y23.2).toNat).drop 0)) ++ ((y22.take ((0 : Int) + (y22.length : Int)).toNat).drop ((0 : Int) + (w (y23.2 + (1 : Int)))).toNat))) else none) else none) else none) else none) else (bif (y24.2 == (1 : Int)) then (bif (decide (0 ≤ y23.2) && decide (y23.2 < (y22.length : Int))) then (bif (Nat.ble (y22.length + [((((y22.getD ((0 : Int) + y23.2).toNat zM).1).1, (((y22.getD ((0 : Int) + y23.2).toNat zM).1).2).1, ((((y22.getD ((0 : Int) + y23.2).toNat zM).1).2).2)), ((y22.getD ((0 : Int) + y23.2).toNat zM).2))].length) (lim 48)) then some (y24.1, y1.2.1, y1.2.2, (y22 ++ [((((y22.getD ((0 : Int) + y23.2).toNat zM).1).1, (((y22.getD ((0 : Int) + y23.2).toNat zM).1).2).1, ((((y22.getD ((0 : Int) + y23.2).toNat zM).1).2).2)), ((y22.getD ((0 : Int) + y23.2).toNat zM).2))])) else none) else none) else (bif (y24.2 == (2 : Int)) then (bif (decide (0 ≤ y23.2) && decide (y23.2 < (y22.length : Int))) then (bif (decide (0 ≤ y23.2) && decide (y23.2 < (y22.length : Int))) then some (y24.1, y1.2.1, y1.2.2, (y22.set ((0 : Int) + y23.2).toNat ((y22.getD ((0 : Int) + y23.2).toNat zM).1, (w (((y22.getD ((0 : Int) + y23.2).toNat zM).2).1 + (1 : Int))), ((y22.getD ((0 : Int) + y23.2).toNat zM).2).2))) else none) else none) else some (y24.1, y1.2.1, y1.2.2, y22)))) else some (y21.1, y1.2.1, y1.2.2, y22)) else none) else (bif (decide ((([] : List tM).length : Int) > (0 : Int))) then (f194G K (a0.1, y1.1) (([] : List tM).length : Int)).bind fun y25 => (f194G K (a0.1, y25.1) (30 : Int)).bind fun y26 => (bif (y26.2 == (0 : Int)) then (bif (decide (0 ≤ (0 : Int)) && decide ((0 : Int) ≤ y25.2) && decide (y25.2 ≤ (([] : List tM).length : Int))) then (bif (Nat.ble (0 + ((([] : List tM).take ((0 : Int) + y25.2).toNat).drop 0).length) (lim 48)) then (bif (decide (0 ≤ (w (y25.2 + (1 : Int)))) && decide ((w (y25.2 + (1 : Int))) ≤ (([] : List tM).length : Int)) && decide ((([] : List tM).length : Int) ≤ (([] : List tM).length : Int))) then (bif (Nat.ble (([] ++ ((([] : List tM).take ((0 : Int) + y25.2).toNat).drop 0)).length + ((([] : List tM).take ((0 : Int) + (([] : List tM).length : Int)).toNat).drop ((0 : Int) + (w (y25.2 + (1 : Int)))).toNat).length) (lim 48)) then some (y26.1, y1.2.1, y1.2.2, (([] ++ ((([] : List tM).take ((0 : Int) + y25.2).toNat).drop 0)) ++ ((([] : List tM).take ((0 : Int) + (([] : List tM).length : Int)).toNat).drop ((0 : Int) + (w (y25.2 + (1 : Int)))).toNat))) else none) else none) else none) else none) else (bif (y26.2 == (1 : Int)) then (bif (decide (0 ≤ y25.2) && decide (y25.2 < (([] : List tM).length : Int))) then (bif (Nat.ble (0 + [((((([] : List tM).getD ((0 : Int) + y25.2).toNat zM).1).1, (((([] : List tM).getD ((0 : Int) + y25.2).toNat zM).1).2).1, ((((([] : List tM).getD ((0 : Int) + y25.2).toNat zM).1).2).2)), ((([] : List tM).getD ((0 : Int) + y25.2).toNat zM).2))].length) (lim 48)) then some (y26.1, y1.2.1, y1.2.2, ([] ++ [((((([] : List tM).getD ((0 : Int) + y25.2).toNat zM).1).1, (((([] : List tM).getD ((0 : Int) + y25.2).toNat zM).1).2).1, ((((([] : List tM).getD ((0 : Int) + y25.2).toNat zM).1).2).2)), ((([] : List tM).getD ((0 : Int) + y25.2).toNat zM).2))])) else none) else none) else (bif (y26.2 == (2 : Int)) then (bif (decide (0 ≤ y25.2) && decide (y25.2 < (([] : List tM).length : Int))) then (bif (decide (0 ≤ y25.2) && decide (y25.2 < (([] : List tM).length : Int))) then some (y26.1, y1.2.1, y1.2.2, (([] : List tM).set ((0 : Int) + y25.2).toNat ((([] : List tM).getD ((0 : Int) + y25.2).toNat zM).1, (w (((([] : List tM).getD ((0 : Int) + y25.2).toNat zM).2).1 + (1 : Int))), ((([] : List tM).getD ((0 : Int) + y25.2).toNat zM).2).2))) else none) else none) else some (y26.1, y1.2.1, y1.2.2, [])))) else some (y1.1, y1.2.1, y1.2.2, []))))
def f302G (K : Nat) (a0 : (List Int) × Int × Int) : Option (tV × Int × tL × List tM) :=
  f302_g K a0 (fun c0 c1 d0 d1 d2 d3 => f302_l7 K a0 c0 c1 K d0 d1 d2 d3)
def f302M (K : Nat) : PMdl := ⟨5, (.int .u8), sV, [], [sI, sL, (.list 95 sM)], fun x => f302G K x.1⟩
def f232C : Code := codeOf Tryz.f232
def f232E (K : Nat) : Env := ⟨[], tys, eqs, mts, K, [0, 1, 2, 3, 4, 5, 10, 16], [], []⟩
def f232_b9 (K : Nat) (a0 : Int × Int × Int) (q7 : Int) (L6 L9 : Int → (List tV) → Option (List tV)) (q10 : Int) (q11 : List tV) : Option (List tV) :=
  (bif (decide (q10 < a0.2.2)) then (bif (Nat.ble (q11.length + [(q7, q10)].length) (lim 16)) then L9 (w (q10 + (1 : Int))) (q11 ++ [(q7, q10)]) else none) else L6 (w (q7 + (1 : Int))) q11)
def f232_l9 (K : Nat) (a0 : Int × Int × Int) (q7 : Int) (L6 : Int → (List tV) → Option (List tV)) (n : Nat) (q10 : Int) (q11 : List tV) : Option (List tV) :=
  iter (X := Int × List tV) (fun L x => (fun L9 => f232_b9 K a0 q7 L6 L9 x.1 x.2) (fun v0 v1 => L (v0, v1))) n (q10, q11)
def f232_fr9 (a0 : Int × Int × Int) (q7 q10 : Int) (q11 : List tV) : Fr := ⟨26, [(0, .v true [.int .i64 a0.1, .int .i64 a0.2.1, .int .i64 a0.2.2]), (1, .v false [.box 0 0]), (2, .v false [.row 0]), (3, .v false [.row 1]), (4, .v false [.int .i64 q7]), (5, .v false [.int .i64 q10]), (10, .v false [.bool (decide (q7 < a0.1))])], [some ⟨true, [.int .i64 a0.1, .int .i64 a0.2.1, .int .i64 a0.2.2]⟩], [some ⟨79, sV, [], .own⟩, some ⟨79, sV, q11, .own⟩]⟩
def f232_b6 (K : Nat) (a0 : Int × Int × Int) (I9 : Int → Int → (List tV) → Option (List tV)) (L6 : Int → (List tV) → Option (List tV)) (q7 : Int) (q8 : List tV) : Option (List tV) :=
  (bif (decide (q7 < a0.1)) then I9 q7 (0 : Int) q8 else some q8)
def f232_l6 (K : Nat) (a0 : Int × Int × Int) (n : Nat) (q7 : Int) (q8 : List tV) : Option (List tV) :=
  iter (X := Int × List tV) (fun L x => (fun L6 => f232_b6 K a0 (fun c0 d0 d1 => f232_l9 K a0 c0 L6 K d0 d1) L6 x.1 x.2) (fun v0 v1 => L (v0, v1))) n (q7, q8)
def f232_fr6 (a0 : Int × Int × Int) (q7 : Int) (q8 : List tV) : Fr := ⟨26, [(0, .v true [.int .i64 a0.1, .int .i64 a0.2.1, .int .i64 a0.2.2]), (1, .v false [.box 0 0]), (2, .v false [.row 0]), (3, .v false [.row 1]), (4, .v false [.int .i64 q7])], [some ⟨true, [.int .i64 a0.1, .int .i64 a0.2.1, .int .i64 a0.2.2]⟩], [some ⟨79, sV, [], .own⟩, some ⟨79, sV, q8, .own⟩]⟩
def f232_k6 (K : Nat) (a0 : Int × Int × Int) (lr : LR (List tV)) : Ex → Fr → Option (List tV) :=
  contC (f232E K) 0 lr f232C [1, 1, 0, 1, 0] (finK (f232E K) Tryz.f232 [(.ro, sL)] [(.list 79 sV)] (a0, ()))
def f232_k9 (K : Nat) (a0 : Int × Int × Int) (F6 : Fr → Option (List tV)) (bq7 : Int) (bq8 : List tV) (lr : LR (List tV)) : Ex → Fr → Option (List tV) :=
  contC (f232E K) 0 lr (selC f232C [1, 1, 0, 1, 0, 0]) [1, 0, 0, 1, 0] (loopK 0 (f232_fr6 a0 bq7 bq8) F6 (f232_k6 K a0 lr))
def f232_g (K : Nat) (a0 : Int × Int × Int) (I6 : Int → (List tV) → Option (List tV)) : Option (List tV) :=
  I6 (0 : Int) []
def f232G (K : Nat) (a0 : Int × Int × Int) : Option (List tV) :=
  f232_g K a0 (fun d0 d1 => f232_l6 K a0 K d0 d1)
def f232M (K : Nat) : Mdl := ⟨[(.ro, sL)], [(.list 79 sV)], fun x => f232G K x.1⟩
def f230C : Code := codeOf Tryz.f230
def f230E (K : Nat) : Env := ⟨[(232, f232M K), (318, f318M K)], tys, eqs, mts, K, [0, 1, 3, 4, 5, 6, 7, 8, 9, 19, 25], [], []⟩
def f230_b11 (K : Nat) (a0 : Int) (a1 : Int × Int × Int) (q9 : Int) (y1 : List tA) (y2 : List tV) (L8 L11 : Int → (List tM) → Option (List tM)) (q12 : Int) (q13 : List tM) : Option (List tM) :=
  (bif (decide (q12 < (y2.length : Int))) then (bif (decide (0 ≤ q9) && decide (q9 < (y1.length : Int))) then (bif (decide (0 ≤ q12) && decide (q12 < (y2.length : Int))) then (bif (Nat.ble (q13.length + [(((y1.getD ((0 : Int) + q9).toNat zA).1, ((y1.getD ((0 : Int) + q9).toNat zA).2).1, (((y1.getD ((0 : Int) + q9).toNat zA).2).2)), (y2.getD ((0 : Int) + q12).toNat ((0 : Int), (0 : Int))))].length) (lim 48)) then L11 (w (q12 + (1 : Int))) (q13 ++ [(((y1.getD ((0 : Int) + q9).toNat zA).1, ((y1.getD ((0 : Int) + q9).toNat zA).2).1, (((y1.getD ((0 : Int) + q9).toNat zA).2).2)), (y2.getD ((0 : Int) + q12).toNat ((0 : Int), (0 : Int))))]) else none) else none) else none) else L8 (w (q9 + (1 : Int))) q13)
def f230_l11 (K : Nat) (a0 : Int) (a1 : Int × Int × Int) (q9 : Int) (y1 : List tA) (y2 : List tV) (L8 : Int → (List tM) → Option (List tM)) (n : Nat) (q12 : Int) (q13 : List tM) : Option (List tM) :=
  iter (X := Int × List tM) (fun L x => (fun L11 => f230_b11 K a0 a1 q9 y1 y2 L8 L11 x.1 x.2) (fun v0 v1 => L (v0, v1))) n (q12, q13)
def f230_fr11 (a0 : Int) (a1 : Int × Int × Int) (q9 : Int) (y1 : List tA) (y2 : List tV) (q12 : Int) (q13 : List tM) : Fr := ⟨41, [(0, .v false [.int .i64 a0]), (1, .v true [.int .i64 a1.1, .int .i64 a1.2.1, .int .i64 a1.2.2]), (3, .v false [.box 0 0]), (4, .v false [.row 0]), (5, .v false [.row 1]), (6, .v false [.row 2]), (7, .v false [.row 3]), (8, .v false [.int .i64 q9]), (9, .v false [.int .i64 q12]), (19, .v false [.bool (decide (q9 < (y1.length : Int)))])], [some ⟨true, [.int .i64 a1.1, .int .i64 a1.2.1, .int .i64 a1.2.2]⟩], [some ⟨95, sM, [], .own⟩, some ⟨93, sA, y1, .own⟩, some ⟨79, sV, y2, .own⟩, some ⟨95, sM, q13, .own⟩]⟩
def f230_b8 (K : Nat) (a0 : Int) (a1 : Int × Int × Int) (y1 : List tA) (y2 : List tV) (I11 : Int → Int → (List tM) → Option (List tM)) (L8 : Int → (List tM) → Option (List tM)) (q9 : Int) (q10 : List tM) : Option (List tM) :=
  (bif (decide (q9 < (y1.length : Int))) then I11 q9 (0 : Int) q10 else some q10)
def f230_l8 (K : Nat) (a0 : Int) (a1 : Int × Int × Int) (y1 : List tA) (y2 : List tV) (n : Nat) (q9 : Int) (q10 : List tM) : Option (List tM) :=
  iter (X := Int × List tM) (fun L x => (fun L8 => f230_b8 K a0 a1 y1 y2 (fun c0 d0 d1 => f230_l11 K a0 a1 c0 y1 y2 L8 K d0 d1) L8 x.1 x.2) (fun v0 v1 => L (v0, v1))) n (q9, q10)
def f230_fr8 (a0 : Int) (a1 : Int × Int × Int) (y1 : List tA) (y2 : List tV) (q9 : Int) (q10 : List tM) : Fr := ⟨41, [(0, .v false [.int .i64 a0]), (1, .v true [.int .i64 a1.1, .int .i64 a1.2.1, .int .i64 a1.2.2]), (3, .v false [.box 0 0]), (4, .v false [.row 0]), (5, .v false [.row 1]), (6, .v false [.row 2]), (7, .v false [.row 3]), (8, .v false [.int .i64 q9])], [some ⟨true, [.int .i64 a1.1, .int .i64 a1.2.1, .int .i64 a1.2.2]⟩], [some ⟨95, sM, [], .own⟩, some ⟨93, sA, y1, .own⟩, some ⟨79, sV, y2, .own⟩, some ⟨95, sM, q10, .own⟩]⟩
def f230_k8 (K : Nat) (a0 : Int) (a1 : Int × Int × Int) (lr : LR (List tM)) : Ex → Fr → Option (List tM) :=
  contC (f230E K) 0 lr f230C [1, 1, 1, 0, 1, 0] (finK (f230E K) Tryz.f230 [(.ro, sI), (.ro, sL)] [(.list 95 sM)] (a0, a1, ()))
def f230_k11 (K : Nat) (a0 : Int) (a1 : Int × Int × Int) (y1 : List tA) (y2 : List tV) (F8 : Fr → Option (List tM)) (bq9 : Int) (bq10 : List tM) (lr : LR (List tM)) : Ex → Fr → Option (List tM) :=
  contC (f230E K) 0 lr (selC f230C [1, 1, 1, 0, 1, 0, 0]) [1, 0, 0, 1, 0] (loopK 0 (f230_fr8 a0 a1 y1 y2 bq9 bq10) F8 (f230_k8 K a0 a1 lr))
def f230_g (K : Nat) (a0 : Int) (a1 : Int × Int × Int) (I8 : (List tA) → (List tV) → Int → (List tM) → Option (List tM)) : Option (List tM) :=
  (f318G K a0 a1).bind fun y1 => (f232G K a1).bind fun y2 => I8 y1 y2 (0 : Int) []
def f230G (K : Nat) (a0 : Int) (a1 : Int × Int × Int) : Option (List tM) :=
  f230_g K a0 a1 (fun c0 c1 d0 d1 => f230_l8 K a0 a1 c0 c1 K d0 d1)
def f230M (K : Nat) : Mdl := ⟨[(.ro, sI), (.ro, sL)], [(.list 95 sM)], fun x => f230G K x.1 x.2.1⟩
def f108C : Code := codeOf Tryz.f108
def f108E (K : Nat) : Env := ⟨[(229, f229M K), (232, f232M K), (233, f233M K)], tys, eqs, mts, K, [0, 1, 3, 4, 5, 6, 7, 8, 9, 14, 22], [], []⟩
def f108_b5 (K : Nat) (a0 : Int) (a1 : Int × Int × Int) (y1 : Int) (y2 : List tV) (L5 : Int → (List tM) → Option ((List tM) × Int)) (q6 : Int) (q7 : List tM) : Option ((List tM) × Int) :=
  (bif (decide (q6 < (y2.length : Int))) then (f233G K).bind fun y8 => (bif (decide (0 ≤ q6) && decide (q6 < (y2.length : Int))) then (bif (Nat.ble (q7.length + [(y8, (y2.getD ((0 : Int) + q6).toNat ((0 : Int), (0 : Int))))].length) (lim 48)) then L5 (w (q6 + (1 : Int))) (q7 ++ [(y8, (y2.getD ((0 : Int) + q6).toNat ((0 : Int), (0 : Int))))]) else none) else none) else some (q7, (0 : Int)))
def f108_l5 (K : Nat) (a0 : Int) (a1 : Int × Int × Int) (y1 : Int) (y2 : List tV) (n : Nat) (q6 : Int) (q7 : List tM) : Option ((List tM) × Int) :=
  iter (X := Int × List tM) (fun L x => (fun L5 => f108_b5 K a0 a1 y1 y2 L5 x.1 x.2) (fun v0 v1 => L (v0, v1))) n (q6, q7)
def f108_fr5 (a0 : Int) (a1 : Int × Int × Int) (y1 : Int) (y2 : List tV) (q6 : Int) (q7 : List tM) : Fr := ⟨35, [(0, .v false [.int .i64 a0]), (1, .v true [.int .i64 a1.1, .int .i64 a1.2.1, .int .i64 a1.2.2]), (3, .v false [.box 0 0]), (4, .v false [.row 0]), (5, .v false [.int .i64 (0 : Int)]), (6, .v false [.int .i64 y1]), (7, .v false [.row 1]), (8, .v false [.row 2]), (9, .v false [.int .i64 q6]), (14, .v false [.bool (y1 != (0 : Int))])], [some ⟨true, [.int .i64 a1.1, .int .i64 a1.2.1, .int .i64 a1.2.2]⟩], [some ⟨95, sM, [], .own⟩, some ⟨79, sV, y2, .own⟩, some ⟨95, sM, q7, .own⟩]⟩
def f108_k5 (K : Nat) (a0 : Int) (a1 : Int × Int × Int) (lr : LR ((List tM) × Int)) : Ex → Fr → Option ((List tM) × Int) :=
  contC (f108E K) 0 lr f108C [1, 1, 1, 1, 1, 0, 1, 0] (finK (f108E K) Tryz.f108 [(.ro, sI), (.ro, sL)] [(.list 95 sM), sI] (a0, a1, ()))
def f108_g (K : Nat) (a0 : Int) (a1 : Int × Int × Int) (I5 : Int → (List tV) → Int → (List tM) → Option ((List tM) × Int)) : Option ((List tM) × Int) :=
  (f229G K a0 a1).bind fun y1 => (bif (y1 != (0 : Int)) then some ([], y1) else (f232G K a1).bind fun y2 => I5 y1 y2 (0 : Int) [])
def f108G (K : Nat) (a0 : Int) (a1 : Int × Int × Int) : Option ((List tM) × Int) :=
  f108_g K a0 a1 (fun c0 c1 d0 d1 => f108_l5 K a0 a1 c0 c1 K d0 d1)
def f108M (K : Nat) : Mdl := ⟨[(.ro, sI), (.ro, sL)], [(.list 95 sM), sI], fun x => f108G K x.1 x.2.1⟩
def f213E (K : Nat) : Env := ⟨[(108, f108M K), (229, f229M K), (230, f230M K)], tys, eqs, mts, K, [0, 2, 3, 4, 5, 6, 7, 25, 27, 28, 35], [(194, f194M K), (302, f302M K)], []⟩
def f213G (K : Nat) (a0 : (List Int) × Int × Int) : Option (tV × Int × tL × List tM) :=
  (f302G K a0).bind fun y1 => (f229G K y1.2.1 y1.2.2.1).bind fun y2 => (bif ((!(y2 == (0 : Int))) || true) then (bif ((!(y2 == (0 : Int))) || true) then (bif ((!(y2 == (0 : Int))) || true) then (bif ((!(y2 == (0 : Int))) || true) then (bif ((!(y2 == (0 : Int))) || true) then (bif ((!(y2 == (0 : Int))) || true) then (bif (bif (y2 == (0 : Int)) then (decide ((w (y1.2.2.1.1 * y1.2.2.1.2.2)) ≤ (4 : Int))) else false) then (f194G K (a0.1, y1.1) (4 : Int)).bind fun y3 => (bif (y3.2 == (0 : Int)) then (f230G K y1.2.1 y1.2.2.1).bind fun y4 => some (y3.1, y1.2.1, y1.2.2.1, y4) else (bif (y3.2 == (1 : Int)) then (f108G K y1.2.1 y1.2.2.1).bind fun y5 => some (y3.1, y1.2.1, y1.2.2.1, y5.1) else some (y3.1, y1.2))) else some y1) else none) else none) else none) else none) else none) else none)
def f213M (K : Nat) : PMdl := ⟨5, (.int .u8), sV, [], [sI, sL, (.list 95 sM)], fun x => f213G K x.1⟩
def f214E (K : Nat) : Env := ⟨[], tys, eqs, mts, K, [0, 2], [(194, f194M K), (196, f196M K)], []⟩
def f214G (K : Nat) (a0 : (List Int) × Int × Int) : Option (tV × Int) :=
  (f194G K a0 (12 : Int)).bind fun y1 => (f196G K (a0.1, y1.1) [(2 : Int), (2 : Int), (3 : Int), (1 : Int), (4 : Int), (10 : Int), y1.2]).bind fun y2 => some y2
def f214M (K : Nat) : PMdl := ⟨5, (.int .u8), sV, [], [sI], fun x => f214G K x.1⟩
def f98E (K : Nat) : Env := ⟨[], tys, eqs, mts, K, [0, 2, 3, 4, 5, 6, 7, 8, 9], [(213, f213M K), (214, f214M K)], [(174, f174M K)]⟩
def f98G (K : Nat) (a0 : List Int) : Option (Int × tL × (List tM) × Int) :=
  (f174G K a0).bind fun y1 => (f213G K (a0, y1)).bind fun y2 => (f214G K (a0, y2.1)).bind fun y3 => some (y2.2.1, y2.2.2.1, y2.2.2.2, y3.2)
def f98M (K : Nat) : Mdl := ⟨[(.ro, (.list 5 (.int .u8)))], [sI, sL, (.list 95 sM), sI], fun x => f98G K x.1⟩
def f146E (K : Nat) : Env := ⟨[], tys, eqs, mts, K, [0, 1, 2, 6], [], []⟩
def f146G (K : Nat) (a0 a1 a2 : Int) : Option Bool :=
  (bif ((!(decide (a0 ≥ a1))) || true) then (bif ((!(decide (a0 ≥ a1))) || true) then (bif ((!(decide (a0 ≥ a1))) || true) then some (bif (decide (a0 ≥ a1)) then (decide (a0 ≤ a2)) else false) else none) else none) else none)
def f146M (K : Nat) : Mdl := ⟨[(.ro, sI), (.ro, sI), (.ro, sI)], [.bool], fun x => f146G K x.1 x.2.1 x.2.2.1⟩
def f248E (K : Nat) : Env := ⟨[(146, f146M K)], tys, eqs, mts, K, [0, 2], [], []⟩
def f248G (K : Nat) (a0 : Int) : Option Bool :=
  (f146G K a0 (0 : Int) (1 : Int)).bind fun y1 => some y1
def f248M (K : Nat) : Mdl := ⟨[(.ro, sI)], [.bool], fun x => f248G K x.1⟩
def f238E (K : Nat) : Env := ⟨[], tys, eqs, mts, K, [0, 1, 2], [], []⟩
def f238G (K : Nat) (a0 : Int × Int × Int) : Option Int :=
  some (w (a0.1 * a0.2.2))
def f238M (K : Nat) : Mdl := ⟨[(.ro, sL)], [sI], fun x => f238G K x.1⟩
def f249E (K : Nat) : Env := ⟨[(146, f146M K), (238, f238M K)], tys, eqs, mts, K, [0, 1, 2], [], []⟩
def f249G (K : Nat) (a0 : Int × Int × Int) : Option Bool :=
  (f146G K a0.1 (1 : Int) (64 : Int)).bind fun y1 => (bif ((!y1) || true) then (bif ((!y1) || true) then ((bif y1 then f146G K a0.2.2 (1 : Int) (64 : Int) else some false)).bind fun y2 => (bif ((!(bif y1 then y2 else false)) || true) then (bif ((!(bif y1 then y2 else false)) || true) then (bif ((!(bif y1 then y2 else false)) || true) then (bif ((!(bif y1 then y2 else false)) || true) then (bif ((!(bif y1 then y2 else false)) || true) then ((bif (bif y1 then y2 else false) then f146G K a0.2.1 (0 : Int) (w (a0.1 - (1 : Int))) else some false)).bind fun y3 => (bif ((!(bif (bif y1 then y2 else false) then y3 else false)) || true) then ((bif (bif (bif y1 then y2 else false) then y3 else false) then f238G K a0 else some (0 : Int))).bind fun y4 => (bif ((!(bif (bif y1 then y2 else false) then y3 else false)) || true) then some (bif (bif (bif y1 then y2 else false) then y3 else false) then (decide (y4 ≤ (64 : Int))) else false) else none) else none) else none) else none) else none) else none) else none) else none) else none)
def f249M (K : Nat) : Mdl := ⟨[(.ro, sL)], [.bool], fun x => f249G K x.1⟩
def f223E (K : Nat) : Env := ⟨[(248, f248M K), (249, f249M K)], tys, eqs, mts, K, [0, 1, 3, 4, 12], [], []⟩
def f223G (K : Nat) (a0 : Int) (a1 : Int × Int × Int) : Option Int :=
  (f248G K a0).bind fun y1 => (bif ((!(!(!y1))) || true) then ((bif (!(!y1)) then f249G K a1 else some false)).bind fun y2 => (bif ((!(!(!y1))) || true) then (bif (bif (!y1) then true else (!y2)) then some (1 : Int) else some (0 : Int)) else none) else none)
def f223M (K : Nat) : Mdl := ⟨[(.ro, sI), (.ro, sL)], [sI], fun x => f223G K x.1 x.2.1⟩
def f356E (K : Nat) : Env := ⟨[], tys, eqs, mts, K, [0, 1, 2, 3], [], []⟩
def f356G (K : Nat) (a0 : Int × Int × Int) : Option (tV × Int × Int) :=
  some ((a0.1, (0 : Int)), a0.2)
def f356M (K : Nat) : Mdl := ⟨[(.ro, sL)], [sV, sV], fun x => f356G K x.1⟩
def f288E (K : Nat) : Env := ⟨[], tys, eqs, mts, K, [0, 1, 2, 3, 4], [], []⟩
def f288G (K : Nat) (a0 : Int × Int × Int × Int) (a1 : Int × Int) : Option tV :=
  some ((w ((w (a0.1 * a1.1)) + (w (a0.2.1 * a1.2)))), (w ((w (a0.2.2.1 * a1.1)) + (w (a0.2.2.2 * a1.2)))))
def f288M (K : Nat) : Mdl := ⟨[(.ro, sA), (.ro, sV)], [sV], fun x => f288G K x.1 x.2.1⟩
def f401E (K : Nat) : Env := ⟨[], tys, eqs, mts, K, [0, 1, 3, 4], [], []⟩
def f401G (K : Nat) (a0 : Int) (a1 : Int × Int) : Option Int :=
  some (w ((w ((w (a1.1 * a1.1)) + (w ((w (a0 * a1.1)) * a1.2)))) + (w (a1.2 * a1.2))))
def f401M (K : Nat) : Mdl := ⟨[(.ro, sI), (.ro, sV)], [sI], fun x => f401G K x.1 x.2.1⟩
def f358C : Code := codeOf Tryz.f358
def f358E (K : Nat) : Env := ⟨[(288, f288M K), (401, f401M K)], tys, eqs, mts, K, [0, 2, 3, 4, 5, 6, 7, 8, 10, 11, 54], [], []⟩
def f358_b8 (K : Nat) (a0 : Int) (L8 : Int → (List tA) → Option (List tA)) (q9 : Int) (q10 : List tA) : Option (List tA) :=
  (bif (decide (q9 < (81 : Int))) then (f288G K ((w ((w (q9.tdiv (27 : Int))) - (1 : Int))), (w (((w (q9.tdiv (9 : Int))).tmod (3 : Int)) - (1 : Int))), (w (((w (q9.tdiv (3 : Int))).tmod (3 : Int)) - (1 : Int))), (w ((q9.tmod (3 : Int)) - (1 : Int)))) ((1 : Int), (0 : Int))).bind fun y11 => (f288G K ((w ((w (q9.tdiv (27 : Int))) - (1 : Int))), (w (((w (q9.tdiv (9 : Int))).tmod (3 : Int)) - (1 : Int))), (w (((w (q9.tdiv (3 : Int))).tmod (3 : Int)) - (1 : Int))), (w ((q9.tmod (3 : Int)) - (1 : Int)))) ((0 : Int), (1 : Int))).bind fun y12 => (f288G K ((w ((w (q9.tdiv (27 : Int))) - (1 : Int))), (w (((w (q9.tdiv (9 : Int))).tmod (3 : Int)) - (1 : Int))), (w (((w (q9.tdiv (3 : Int))).tmod (3 : Int)) - (1 : Int))), (w ((q9.tmod (3 : Int)) - (1 : Int)))) ((1 : Int), (1 : Int))).bind fun y13 => (f401G K a0 y11).bind fun y14 => (bif ((!(y14 == (1 : Int))) || true) then (bif ((!(y14 == (1 : Int))) || true) then ((bif (y14 == (1 : Int)) then f401G K a0 y12 else some (0 : Int))).bind fun y15 => (bif ((!(y14 == (1 : Int))) || true) then (bif ((!(bif (y14 == (1 : Int)) then (y15 == (1 : Int)) else false)) || true) then (bif ((!(bif (y14 == (1 : Int)) then (y15 == (1 : Int)) else false)) || true) then ((bif (bif (y14 == (1 : Int)) then (y15 == (1 : Int)) else false) then f401G K a0 y13 else some (0 : Int))).bind fun y16 => (bif ((!(bif (y14 == (1 : Int)) then (y15 == (1 : Int)) else false)) || true) then (bif ((!(bif (y14 == (1 : Int)) then (y15 == (1 : Int)) else false)) || true) then (bif ((!(bif (y14 == (1 : Int)) then (y15 == (1 : Int)) else false)) || true) then (bif (bif (bif (y14 == (1 : Int)) then (y15 == (1 : Int)) else false) then (y16 == (w ((2 : Int) + a0))) else false) then (bif (Nat.ble (q10.length + [((w ((w (q9.tdiv (27 : Int))) - (1 : Int))), (w (((w (q9.tdiv (9 : Int))).tmod (3 : Int)) - (1 : Int))), (w (((w (q9.tdiv (3 : Int))).tmod (3 : Int)) - (1 : Int))), (w ((q9.tmod (3 : Int)) - (1 : Int))))].length) (lim 32)) then L8 (w (q9 + (1 : Int))) (q10 ++ [((w ((w (q9.tdiv (27 : Int))) - (1 : Int))), (w (((w (q9.tdiv (9 : Int))).tmod (3 : Int)) - (1 : Int))), (w (((w (q9.tdiv (3 : Int))).tmod (3 : Int)) - (1 : Int))), (w ((q9.tmod (3 : Int)) - (1 : Int))))]) else none) else L8 (w (q9 + (1 : Int))) q10) else none) else none) else none) else none) else none) else none) else none) else none) else some q10)
def f358_l8 (K : Nat) (a0 : Int) (n : Nat) (q9 : Int) (q10 : List tA) : Option (List tA) :=
  iter (X := Int × List tA) (fun L x => (fun L8 => f358_b8 K a0 L8 x.1 x.2) (fun v0 v1 => L (v0, v1))) n (q9, q10)
def f358_fr8 (a0 q9 : Int) (q10 : List tA) : Fr := ⟨61, [(0, .v false [.int .i64 a0]), (2, .v false [.row 0]), (3, .v false [.row 1]), (10, .v false [.int .i64 q9])], [], [some ⟨93, sA, [], .own⟩, some ⟨93, sA, q10, .own⟩]⟩
def f358_k8 (K : Nat) (a0 : Int) (lr : LR (List tA)) : Ex → Fr → Option (List tA) :=
  contC (f358E K) 0 lr f358C [1, 1, 0, 1, 0] (finK (f358E K) Tryz.f358 [(.ro, sI)] [(.list 93 sA)] (a0, ()))
def f358_g (K : Nat) (a0 : Int) (I8 : Int → (List tA) → Option (List tA)) : Option (List tA) :=
  I8 (0 : Int) []
def f358G (K : Nat) (a0 : Int) : Option (List tA) :=
  f358_g K a0 (fun d0 d1 => f358_l8 K a0 K d0 d1)
def f358M (K : Nat) : Mdl := ⟨[(.ro, sI)], [(.list 93 sA)], fun x => f358G K x.1⟩
def f260E (K : Nat) : Env := ⟨[], tys, eqs, mts, K, [0, 1, 4], [], []⟩
def f260G (K : Nat) (a0 a1 : Int) : Option Int :=
  (bif (a1 != 0) then (bif (a1 != 0) then some ((w ((a0.tmod a1) + a1)).tmod a1) else none) else none)
def f260M (K : Nat) : Mdl := ⟨[(.ro, sI), (.ro, sI)], [sI], fun x => f260G K x.1 x.2.1⟩
def f161E (K : Nat) : Env := ⟨[(260, f260M K)], tys, eqs, mts, K, [0, 1, 2, 3, 4, 5], [], []⟩
def f161G (K : Nat) (a0 : Int × Int × Int) (a1 : Int × Int) : Option tV :=
  (f260G K a1.2 a0.2.2).bind fun y1 => (bif (a0.2.2 != 0) then (f260G K (w (a1.1 - (w ((w ((w (a1.2 - y1)).tdiv a0.2.2)) * a0.2.1)))) a0.1).bind fun y2 => some (y2, y1) else none)
def f161M (K : Nat) : Mdl := ⟨[(.ro, sL), (.ro, sV)], [sV], fun x => f161G K x.1 x.2.1⟩
def f360E (K : Nat) : Env := ⟨[(161, f161M K)], tys, eqs, mts, K, [0, 1, 2, 3, 4], [], []⟩
def f360G (K : Nat) (a0 : Int × Int × Int) (a1 : Int × Int) : Option Bool :=
  (f161G K a0 a1).bind fun y1 => some ((y1.1 == (0 : Int)) && (y1.2 == (0 : Int)))
def f360M (K : Nat) : Mdl := ⟨[(.ro, sL), (.ro, sV)], [.bool], fun x => f360G K x.1 x.2.1⟩
def f359E (K : Nat) : Env := ⟨[(288, f288M K), (360, f360M K)], tys, eqs, mts, K, [0, 1, 2, 3, 4, 5], [], []⟩
def f359G (K : Nat) (a0 : Int × Int × Int × Int) (a1 : Int × Int × Int) (a2 a3 : Int × Int) : Option Bool :=
  (f288G K a0 a2).bind fun y1 => (f360G K a1 y1).bind fun y2 => (bif ((!(!(!y2))) || true) then (bif ((!(!(!y2))) || true) then (bif ((!(!(!y2))) || true) then ((bif (!(!y2)) then f288G K a0 a3 else some ((0 : Int), (0 : Int)))).bind fun y3 => ((bif (!(!y2)) then f360G K a1 y3 else some false)).bind fun y4 => (bif ((!(!(!y2))) || true) then some (bif (!y2) then true else (!y4)) else none) else none) else none) else none)
def f359M (K : Nat) : Mdl := ⟨[(.ro, sA), (.cap, sL), (.cap, sV), (.cap, sV)], [.bool], fun x => f359G K x.1 x.2.1 x.2.2.1 x.2.2.2.1⟩
def f400C : Code := codeOf Tryz.f400
def f400E (K : Nat) : Env := ⟨[], tys, eqs, mts, K, [0, 1, 4, 5, 7, 8, 9, 16], [], []⟩
def f400_b3 (K : Nat) (a0 : List tA) (a1 : (tA → Option Bool)) (L3 : Int → Option Int) (q4 : Int) : Option Int :=
  (bif (decide (q4 < (a0.length : Int))) then (bif (decide (0 ≤ q4) && decide (q4 < (a0.length : Int))) then (a1 ((a0.getD ((0 : Int) + q4).toNat zA).1, ((a0.getD ((0 : Int) + q4).toNat zA).2).1, (((a0.getD ((0 : Int) + q4).toNat zA).2).2))).bind fun y5 => (bif y5 then some q4 else L3 (w (q4 + (1 : Int)))) else none) else some (-1 : Int))
def f400_l3 (K : Nat) (a0 : List tA) (a1 : (tA → Option Bool)) (n : Nat) (q4 : Int) : Option Int :=
  iter (X := Int) (fun L x => (fun L3 => f400_b3 K a0 a1 L3 x) (fun v0 => L v0)) n q4
def f400_fr3 (a0 : List tA) (a1 : (tA → Option Bool)) (q4 : Int) : Fr := ⟨19, [(0, .v false [.row 0]), (1, .v false [.fv1 sA .bool a1]), (4, .v false [.int .i64 (0 : Int)]), (7, .v false [.int .i64 (a0.length : Int)]), (8, .v false [.int .i64 q4])], [], [some ⟨93, sA, a0, .ro⟩]⟩
def f400_k3 (K : Nat) (a0 : List tA) (a1 : (tA → Option Bool)) (lr : LR Int) : Ex → Fr → Option Int :=
  contC (f400E K) 1 lr f400C [1, 0, 1, 0] (finK (f400E K) Tryz.f400 [(.ro, (.list 93 sA)), (.ro, (.fn1 sA .bool))] [sI] (a0, a1, ()))
def f400_g (K : Nat) (a0 : List tA) (a1 : (tA → Option Bool)) (I3 : Int → Option Int) : Option Int :=
  I3 (0 : Int)
def f400G (K : Nat) (a0 : List tA) (a1 : (tA → Option Bool)) : Option Int :=
  f400_g K a0 a1 (fun d0 => f400_l3 K a0 a1 K d0)
def f400M (K : Nat) : Mdl := ⟨[(.ro, (.list 93 sA)), (.ro, (.fn1 sA .bool))], [sI], fun x => f400G K x.1 x.2.1⟩
def f357C : Code := codeOf Tryz.f357
def f357E (K : Nat) : Env := ⟨[(400, f400M K)], tys, eqs, mts, K, [0, 1, 4, 5, 6, 7, 12, 19, 29], [], []⟩
def f357_b4 (K : Nat) (a1 : (tA → Option Bool)) (y1 : Int) (L4 : Int → Int → (List tA) → Option (List tA)) (q5 q6 : Int) (q7 : List tA) : Option (List tA) :=
  (bif (decide (q6 < (q7.length : Int))) then (bif (decide (0 ≤ q6) && decide (q6 < (q7.length : Int))) then (a1 ((q7.getD ((0 : Int) + q6).toNat zA).1, ((q7.getD ((0 : Int) + q6).toNat zA).2).1, (((q7.getD ((0 : Int) + q6).toNat zA).2).2))).bind fun y8 => (bif (!y8) then (bif (decide (0 ≤ q5) && decide (q5 < (q7.length : Int))) then L4 (w (q5 + (1 : Int))) (w (q6 + (1 : Int))) (q7.set ((0 : Int) + q5).toNat ((q7.getD ((0 : Int) + q6).toNat zA).1, ((q7.getD ((0 : Int) + q6).toNat zA).2).1, (((q7.getD ((0 : Int) + q6).toNat zA).2).2))) else none) else L4 q5 (w (q6 + (1 : Int))) q7) else none) else (bif (decide (0 ≤ q5) && decide (q5 ≤ (q7.length : Int)) && decide ((q7.length : Int) ≤ (q7.length : Int))) then (bif (decide (0 ≤ (0 : Int)) && decide ((0 : Int) ≤ q5) && decide (q5 ≤ ((clr q7 ((0 : Int) + q5).toNat (((0 : Int) + q5) + (((0 : Int) + (q7.length : Int)) - ((0 : Int) + q5))).toNat zA).length : Int))) then some ((clr q7 ((0 : Int) + q5).toNat (((0 : Int) + q5) + (((0 : Int) + (q7.length : Int)) - ((0 : Int) + q5))).toNat zA).take ((0 : Int) + q5).toNat) else none) else none))
def f357_l4 (K : Nat) (a1 : (tA → Option Bool)) (y1 : Int) (n : Nat) (q5 q6 : Int) (q7 : List tA) : Option (List tA) :=
  iter (X := Int × Int × List tA) (fun L x => (fun L4 => f357_b4 K a1 y1 L4 x.1 x.2.1 x.2.2) (fun v0 v1 v2 => L (v0, v1, v2))) n (q5, q6, q7)
def f357_fr4 (a1 : (tA → Option Bool)) (y1 q5 q6 : Int) (q7 : List tA) : Fr := ⟨42, [(0, .v false [.row 0]), (1, .v false [.fv1 sA .bool a1]), (4, .v false [.row 1]), (5, .v false [.int .i64 q5]), (6, .v false [.int .i64 q6]), (12, .v false [.bool (y1 == (-1 : Int))])], [], [some ⟨93, sA, q7, .own⟩, some ⟨93, sA, [], .own⟩]⟩
def f357_k4 (K : Nat) (a0 : List tA) (a1 : (tA → Option Bool)) (lr : LR (List tA)) : Ex → Fr → Option (List tA) :=
  contC (f357E K) 1 lr f357C [1, 1, 1, 0, 1, 0] (finK (f357E K) Tryz.f357 [(.mv, (.list 93 sA)), (.ro, (.fn1 sA .bool))] [(.list 93 sA)] (a0, a1, ()))
def f357_g (K : Nat) (a0 : List tA) (a1 : (tA → Option Bool)) (I4 : Int → Int → Int → (List tA) → Option (List tA)) : Option (List tA) :=
  (f400G K a0 a1).bind fun y1 => (bif (y1 == (-1 : Int)) then some a0 else I4 y1 y1 (w (y1 + (1 : Int))) a0)
def f357G (K : Nat) (a0 : List tA) (a1 : (tA → Option Bool)) : Option (List tA) :=
  f357_g K a0 a1 (fun c0 d0 d1 d2 => f357_l4 K a1 c0 K d0 d1 d2)
def f357M (K : Nat) : Mdl := ⟨[(.mv, (.list 93 sA)), (.ro, (.fn1 sA .bool))], [(.list 93 sA)], fun x => f357G K x.1 x.2.1⟩
def f311E (K : Nat) : Env := ⟨[(356, f356M K), (357, f357M K), (358, f358M K), (359, f359M K)], tys, eqs, mts, K, [0, 1, 3, 4, 5, 6], [], []⟩
def f311G (K : Nat) (a0 : Int) (a1 : Int × Int × Int) : Option (List tA) :=
  (f356G K a1).bind fun y1 => (f358G K a0).bind fun y2 => (f357G K y2 (fun z3 => f359G K z3 a1 y1.1 y1.2)).bind fun y4 => some y4
def f311M (K : Nat) : Mdl := ⟨[(.ro, sI), (.ro, sL)], [(.list 93 sA)], fun x => f311G K x.1 x.2.1⟩
def f355C : Code := codeOf Tryz.f355
def f355E (K : Nat) : Env := ⟨[], tys, eqs, mts, K, [0, 1, 3, 4, 5, 7, 8, 9, 16], [], []⟩
def f355_b2 (K : Nat) (a0 : List tA) (a1 : Int × Int × Int × Int) (L2 : Int → Option Int) (q3 : Int) : Option Int :=
  (bif (decide (q3 < (a0.length : Int))) then (bif (decide (0 ≤ q3) && decide (q3 < (a0.length : Int))) then (bif ((a1.1 == (a0.getD ((0 : Int) + q3).toNat zA).1) && ((a1.2.1 == ((a0.getD ((0 : Int) + q3).toNat zA).2).1) && ((a1.2.2.1 == (((a0.getD ((0 : Int) + q3).toNat zA).2).2).1) && (a1.2.2.2 == (((a0.getD ((0 : Int) + q3).toNat zA).2).2).2)))) then some q3 else L2 (w (q3 + (1 : Int)))) else none) else some (-1 : Int))
def f355_l2 (K : Nat) (a0 : List tA) (a1 : Int × Int × Int × Int) (n : Nat) (q3 : Int) : Option Int :=
  iter (X := Int) (fun L x => (fun L2 => f355_b2 K a0 a1 L2 x) (fun v0 => L v0)) n q3
def f355_fr2 (a0 : List tA) (a1 : Int × Int × Int × Int) (q3 : Int) : Fr := ⟨19, [(0, .v false [.row 0]), (1, .v true [.int .i64 a1.1, .int .i64 a1.2.1, .int .i64 a1.2.2.1, .int .i64 a1.2.2.2]), (3, .v false [.box 0 0]), (4, .v false [.int .i64 (0 : Int)]), (7, .v false [.int .i64 (a0.length : Int)]), (8, .v false [.int .i64 q3])], [some ⟨true, [.int .i64 a1.1, .int .i64 a1.2.1, .int .i64 a1.2.2.1, .int .i64 a1.2.2.2]⟩], [some ⟨93, sA, a0, .ro⟩]⟩
def f355_k2 (K : Nat) (a0 : List tA) (a1 : Int × Int × Int × Int) (lr : LR Int) : Ex → Fr → Option Int :=
  contC (f355E K) 1 lr f355C [1, 0, 1, 0] (finK (f355E K) Tryz.f355 [(.ro, (.list 93 sA)), (.ro, sA)] [sI] (a0, a1, ()))
def f355_g (K : Nat) (a0 : List tA) (a1 : Int × Int × Int × Int) (I2 : Int → Option Int) : Option Int :=
  I2 (0 : Int)
def f355G (K : Nat) (a0 : List tA) (a1 : Int × Int × Int × Int) : Option Int :=
  f355_g K a0 a1 (fun d0 => f355_l2 K a0 a1 K d0)
def f355M (K : Nat) : Mdl := ⟨[(.ro, (.list 93 sA)), (.ro, sA)], [sI], fun x => f355G K x.1 x.2.1⟩
def f310E (K : Nat) : Env := ⟨[(355, f355M K)], tys, eqs, mts, K, [0, 1, 3, 4], [], []⟩
def f310G (K : Nat) (a0 : List tA) (a1 : Int × Int × Int × Int) : Option Bool :=
  (f355G K a0 a1).bind fun y1 => some (decide (y1 ≥ (0 : Int)))
def f310M (K : Nat) : Mdl := ⟨[(.ro, (.list 93 sA)), (.ro, sA)], [.bool], fun x => f310G K x.1 x.2.1⟩
def f332C : Code := codeOf Tryz.f332
def f332E (K : Nat) : Env := ⟨[], tys, eqs, mts, K, [0, 1, 4, 5, 7, 8, 9, 19, 28], [], []⟩
def f332_b2 (K : Nat) (a0 a1 : List Int) (L2 : Int → Option Int) (q3 : Int) : Option Int :=
  (bif (decide (q3 < (a0.length : Int))) then (bif (decide (0 ≤ q3) && decide (q3 < (a0.length : Int))) then (bif (decide (0 ≤ q3) && decide (q3 < (a1.length : Int))) then (bif ((a0.getD ((0 : Int) + q3).toNat (0 : Int)) != (a1.getD ((0 : Int) + q3).toNat (0 : Int))) then (bif (decide (0 ≤ q3) && decide (q3 < (a0.length : Int))) then (bif (decide (0 ≤ q3) && decide (q3 < (a1.length : Int))) then (bif (decide ((a0.getD ((0 : Int) + q3).toNat (0 : Int)) < (a1.getD ((0 : Int) + q3).toNat (0 : Int)))) then some (-1 : Int) else some (1 : Int)) else none) else none) else L2 (w (q3 + (1 : Int)))) else none) else none) else some (0 : Int))
def f332_l2 (K : Nat) (a0 a1 : List Int) (n : Nat) (q3 : Int) : Option Int :=
  iter (X := Int) (fun L x => (fun L2 => f332_b2 K a0 a1 L2 x) (fun v0 => L v0)) n q3
def f332_fr2 (a0 a1 : List Int) (q3 : Int) : Fr := ⟨30, [(0, .v false [.row 0]), (1, .v false [.row 1]), (4, .v false [.int .i64 (0 : Int)]), (7, .v false [.int .i64 (a0.length : Int)]), (8, .v false [.int .i64 q3])], [], [some ⟨2, sI, a0, .ro⟩, some ⟨2, sI, a1, .ro⟩]⟩
def f332_k2 (K : Nat) (a0 a1 : List Int) (lr : LR Int) : Ex → Fr → Option Int :=
  contC (f332E K) 2 lr f332C [1, 0, 1, 0] (finK (f332E K) Tryz.f332 [(.ro, (.list 2 sI)), (.ro, (.list 2 sI))] [sI] (a0, a1, ()))
def f332_g (K : Nat) (a0 a1 : List Int) (I2 : Int → Option Int) : Option Int :=
  I2 (0 : Int)
def f332G (K : Nat) (a0 a1 : List Int) : Option Int :=
  f332_g K a0 a1 (fun d0 => f332_l2 K a0 a1 K d0)
def f332M (K : Nat) : Mdl := ⟨[(.ro, (.list 2 sI)), (.ro, (.list 2 sI))], [sI], fun x => f332G K x.1 x.2.1⟩
def f349E (K : Nat) : Env := ⟨[(332, f332M K)], tys, eqs, mts, K, [0, 1, 2, 3, 4], [], []⟩
def f349G (K : Nat) (a0 a1 : Int × Int × Int × Int) : Option Int :=
  (f332G K [a0.1, a0.2.1, a0.2.2.1, a0.2.2.2] [a1.1, a1.2.1, a1.2.2.1, a1.2.2.2]).bind fun y1 => some y1
def f349M (K : Nat) : Mdl := ⟨[(.ro, sA), (.ro, sA)], [sI], fun x => f349G K x.1 x.2.1⟩
def f269E (K : Nat) : Env := ⟨[(332, f332M K)], tys, eqs, mts, K, [0, 1, 2, 3, 4], [], []⟩
def f269G (K : Nat) (a0 a1 : Int × Int) : Option Int :=
  (f332G K [a0.1, a0.2] [a1.1, a1.2]).bind fun y1 => some y1
def f269M (K : Nat) : Mdl := ⟨[(.ro, sV), (.ro, sV)], [sI], fun x => f269G K x.1 x.2.1⟩
def f300E (K : Nat) : Env := ⟨[(269, f269M K), (349, f349M K)], tys, eqs, mts, K, [0, 1, 2, 3, 4, 5, 12], [], []⟩
def f300G (K : Nat) (a0 a1 : tA × Int × Int) : Option Int :=
  (f349G K a0.1 a1.1).bind fun y1 => (bif (y1 != (0 : Int)) then some y1 else (f269G K a0.2 a1.2).bind fun y2 => some y2)
def f300M (K : Nat) : Mdl := ⟨[(.ro, sM), (.ro, sM)], [sI], fun x => f300G K x.1 x.2.1⟩
def f231E (K : Nat) : Env := ⟨[], tys, eqs, mts, K, [0], [], []⟩
def f231G (K : Nat) : Option tA :=
  some ((1 : Int), (0 : Int), (0 : Int), (1 : Int))
def f231M (K : Nat) : Mdl := ⟨[], [sA], fun x => f231G K ⟩
def f347E (K : Nat) : Env := ⟨[], tys, eqs, mts, K, [0, 1, 2, 3, 4], [], []⟩
def f347G (K : Nat) (a0 a1 : Int × Int × Int × Int) : Option tA :=
  some ((w ((w (a0.1 * a1.1)) + (w (a0.2.1 * a1.2.2.1)))), (w ((w (a0.1 * a1.2.1)) + (w (a0.2.1 * a1.2.2.2)))), (w ((w (a0.2.2.1 * a1.1)) + (w (a0.2.2.2 * a1.2.2.1)))), (w ((w (a0.2.2.1 * a1.2.1)) + (w (a0.2.2.2 * a1.2.2.2)))))
def f347M (K : Nat) : Mdl := ⟨[(.ro, sA), (.ro, sA)], [sA], fun x => f347G K x.1 x.2.1⟩
def f289E (K : Nat) : Env := ⟨[], tys, eqs, mts, K, [0, 1, 2, 3, 4], [], []⟩
def f289G (K : Nat) (a0 a1 : Int × Int) : Option tV :=
  some ((w (a0.1 + a1.1)), (w (a0.2 + a1.2)))
def f289M (K : Nat) : Mdl := ⟨[(.ro, sV), (.ro, sV)], [sV], fun x => f289G K x.1 x.2.1⟩
def f298E (K : Nat) : Env := ⟨[(288, f288M K), (289, f289M K), (347, f347M K)], tys, eqs, mts, K, [0, 1, 2, 3, 4], [], []⟩
def f298G (K : Nat) (a0 a1 : tA × Int × Int) : Option tM :=
  (f347G K a0.1 a1.1).bind fun y1 => (f288G K a0.1 a1.2).bind fun y2 => (f289G K y2 a0.2).bind fun y3 => some (y1, y3)
def f298M (K : Nat) : Mdl := ⟨[(.ro, sM), (.ro, sM)], [sM], fun x => f298G K x.1 x.2.1⟩
def f297E (K : Nat) : Env := ⟨[(161, f161M K)], tys, eqs, mts, K, [0, 1, 2, 3, 4], [], []⟩
def f297G (K : Nat) (a0 : Int × Int × Int) (a1 : tA × Int × Int) : Option tM :=
  (f161G K a0 a1.2).bind fun y1 => some (a1.1, y1)
def f297M (K : Nat) : Mdl := ⟨[(.ro, sL), (.ro, sM)], [sM], fun x => f297G K x.1 x.2.1⟩
def f325C : Code := codeOf Tryz.f325
def f325E (K : Nat) : Env := ⟨[(161, f161M K), (231, f231M K), (297, f297M K), (298, f298M K), (300, f300M K), (310, f310M K), (311, f311M K)], tys, eqs, mts, K, [0, 1, 2, 4, 6, 7, 8, 9, 10, 12, 14, 19, 20, 21, 22, 53, 61, 62, 63, 64, 65, 68, 69, 70, 71, 81], [], []⟩
def f325_b23 (K : Nat) (a0 : Int) (a1 : Int × Int × Int) (a2 : List tM) (q7 : Int) (q8 : List (tM × Bool)) (q22 : Int) (y1 : List tA) (y12 : Int × Int × Int × Int) (L21 L23 : Int → Option Bool) (q24 : Int) : Option Bool :=
  (bif (decide (q24 < (a2.length : Int))) then (bif (decide (0 ≤ q24) && decide (q24 < (a2.length : Int))) then (f298G K ((((a2.getD ((0 : Int) + q22).toNat zM).1).1, (((a2.getD ((0 : Int) + q22).toNat zM).1).2).1, ((((a2.getD ((0 : Int) + q22).toNat zM).1).2).2)), ((a2.getD ((0 : Int) + q22).toNat zM).2)) ((((a2.getD ((0 : Int) + q24).toNat zM).1).1, (((a2.getD ((0 : Int) + q24).toNat zM).1).2).1, ((((a2.getD ((0 : Int) + q24).toNat zM).1).2).2)), ((a2.getD ((0 : Int) + q24).toNat zM).2))).bind fun y25 => (f297G K a1 y25).bind fun y26 => (bif (!((mfind (eqSh sM) q8 y26).getD false)) then some false else L23 (w (q24 + (1 : Int)))) else none) else L21 (w (q22 + (1 : Int))))
def f325_l23 (K : Nat) (a0 : Int) (a1 : Int × Int × Int) (a2 : List tM) (q7 : Int) (q8 : List (tM × Bool)) (q22 : Int) (y1 : List tA) (y12 : Int × Int × Int × Int) (L21 : Int → Option Bool) (n : Nat) (q24 : Int) : Option Bool :=
  iter (X := Int) (fun L x => (fun L23 => f325_b23 K a0 a1 a2 q7 q8 q22 y1 y12 L21 L23 x) (fun v0 => L v0)) n q24
def f325_fr23 (a0 : Int) (a1 : Int × Int × Int) (a2 : List tM) (q7 : Int) (q8 : List (tM × Bool)) (q22 : Int) (y1 : List tA) (y12 : Int × Int × Int × Int) (q24 : Int) : Fr := ⟨84, [(0, .v false [.int .i64 a0]), (1, .v true [.int .i64 a1.1, .int .i64 a1.2.1, .int .i64 a1.2.2]), (2, .v false [.row 0]), (4, .v false [.box 0 0]), (6, .v false [.bool false]), (7, .v false [.row 1]), (8, .v false [.mp 1]), (12, .v false [.box 2 0]), (19, .v false [.row 0]), (20, .v false [.int .i64 (a2.length : Int)]), (21, .v false [.int .i64 q7]), (22, .v false [.bool (decide (q7 < (a2.length : Int)))]), (61, .v false [.bool (!((mfind (eqSh sM) q8 (y12, (0 : Int), (0 : Int))).getD false))]), (62, .v false [.row 0]), (63, .v false [.int .i64 (a2.length : Int)]), (64, .v false [.int .i64 q22]), (65, .v false [.bool (decide (q22 < (a2.length : Int)))]), (68, .v false [.row 0]), (69, .v false [.int .i64 (a2.length : Int)]), (70, .v false [.int .i64 q24])], [some ⟨true, [.int .i64 a1.1, .int .i64 a1.2.1, .int .i64 a1.2.2]⟩, some ⟨true, [.mc sM .bool q8]⟩, some ⟨true, [.int .i64 (((a2.getD ((0 : Int) + q22).toNat zM).1).1), .int .i64 ((((a2.getD ((0 : Int) + q22).toNat zM).1).2).1), .int .i64 (((((a2.getD ((0 : Int) + q22).toNat zM).1).2).2).1), .int .i64 (((((a2.getD ((0 : Int) + q22).toNat zM).1).2).2).2), .int .i64 (((a2.getD ((0 : Int) + q22).toNat zM).2).1), .int .i64 (((a2.getD ((0 : Int) + q22).toNat zM).2).2)]⟩], [some ⟨95, sM, a2, .ro⟩, some ⟨93, sA, y1, .own⟩]⟩
def f325_b21 (K : Nat) (a0 : Int) (a1 : Int × Int × Int) (a2 : List tM) (q7 : Int) (q8 : List (tM × Bool)) (y1 : List tA) (y12 : Int × Int × Int × Int) (I23 : Int → Int → Option Bool) (L21 : Int → Option Bool) (q22 : Int) : Option Bool :=
  (bif (decide (q22 < (a2.length : Int))) then (bif (decide (0 ≤ q22) && decide (q22 < (a2.length : Int))) then I23 q22 (0 : Int) else none) else some true)
def f325_l21 (K : Nat) (a0 : Int) (a1 : Int × Int × Int) (a2 : List tM) (q7 : Int) (q8 : List (tM × Bool)) (y1 : List tA) (y12 : Int × Int × Int × Int) (n : Nat) (q22 : Int) : Option Bool :=
  iter (X := Int) (fun L x => (fun L21 => f325_b21 K a0 a1 a2 q7 q8 y1 y12 (fun c0 d0 => f325_l23 K a0 a1 a2 q7 q8 c0 y1 y12 L21 K d0) L21 x) (fun v0 => L v0)) n q22
def f325_fr21 (a0 : Int) (a1 : Int × Int × Int) (a2 : List tM) (q7 : Int) (q8 : List (tM × Bool)) (y1 : List tA) (y12 : Int × Int × Int × Int) (q22 : Int) : Fr := ⟨84, [(0, .v false [.int .i64 a0]), (1, .v true [.int .i64 a1.1, .int .i64 a1.2.1, .int .i64 a1.2.2]), (2, .v false [.row 0]), (4, .v false [.box 0 0]), (6, .v false [.bool false]), (7, .v false [.row 1]), (8, .v false [.mp 1]), (19, .v false [.row 0]), (20, .v false [.int .i64 (a2.length : Int)]), (21, .v false [.int .i64 q7]), (22, .v false [.bool (decide (q7 < (a2.length : Int)))]), (61, .v false [.bool (!((mfind (eqSh sM) q8 (y12, (0 : Int), (0 : Int))).getD false))]), (62, .v false [.row 0]), (63, .v false [.int .i64 (a2.length : Int)]), (64, .v false [.int .i64 q22])], [some ⟨true, [.int .i64 a1.1, .int .i64 a1.2.1, .int .i64 a1.2.2]⟩, some ⟨true, [.mc sM .bool q8]⟩], [some ⟨95, sM, a2, .ro⟩, some ⟨93, sA, y1, .own⟩]⟩
def f325_b6 (K : Nat) (a0 : Int) (a1 : Int × Int × Int) (a2 : List tM) (y1 : List tA) (I21 : Int → (List (tM × Bool)) → (List tA) → tA → Int → Option Bool) (L6 : Int → (List (tM × Bool)) → Option Bool) (q7 : Int) (q8 : List (tM × Bool)) : Option Bool :=
  (bif (decide (q7 < (a2.length : Int))) then (bif (decide (0 ≤ q7) && decide (q7 < (a2.length : Int))) then (f310G K y1 (((a2.getD ((0 : Int) + q7).toNat zM).1).1, (((a2.getD ((0 : Int) + q7).toNat zM).1).2).1, ((((a2.getD ((0 : Int) + q7).toNat zM).1).2).2))).bind fun y9 => (bif ((!(!(!y9))) || true) then (bif ((!(!(!y9))) || true) then (bif ((!(!(!y9))) || true) then ((bif (!(!y9)) then f161G K a1 ((a2.getD ((0 : Int) + q7).toNat zM).2) else some ((0 : Int), (0 : Int)))).bind fun y10 => (bif ((!(!(!y9))) || true) then (bif ((!(!(!y9))) || true) then (bif ((!(!(!y9))) || true) then (bif ((!(!(bif (!y9) then true else (!((y10.1 == ((a2.getD ((0 : Int) + q7).toNat zM).2).1) && (y10.2 == ((a2.getD ((0 : Int) + q7).toNat zM).2).2)))))) || true) then (bif ((!(!(bif (!y9) then true else (!((y10.1 == ((a2.getD ((0 : Int) + q7).toNat zM).2).1) && (y10.2 == ((a2.getD ((0 : Int) + q7).toNat zM).2).2)))))) || true) then (bif ((!(!(bif (!y9) then true else (!((y10.1 == ((a2.getD ((0 : Int) + q7).toNat zM).2).1) && (y10.2 == ((a2.getD ((0 : Int) + q7).toNat zM).2).2)))))) || true) then (bif ((!((!(bif (!y9) then true else (!((y10.1 == ((a2.getD ((0 : Int) + q7).toNat zM).2).1) && (y10.2 == ((a2.getD ((0 : Int) + q7).toNat zM).2).2))))) && (decide (q7 > (0 : Int))))) || true) then (bif ((!((!(bif (!y9) then true else (!((y10.1 == ((a2.getD ((0 : Int) + q7).toNat zM).2).1) && (y10.2 == ((a2.getD ((0 : Int) + q7).toNat zM).2).2))))) && (decide (q7 > (0 : Int))))) || true) then (bif ((!((!(bif (!y9) then true else (!((y10.1 == ((a2.getD ((0 : Int) + q7).toNat zM).2).1) && (y10.2 == ((a2.getD ((0 : Int) + q7).toNat zM).2).2))))) && (decide (q7 > (0 : Int))))) || true) then (bif ((!((!(bif (!y9) then true else (!((y10.1 == ((a2.getD ((0 : Int) + q7).toNat zM).2).1) && (y10.2 == ((a2.getD ((0 : Int) + q7).toNat zM).2).2))))) && (decide (q7 > (0 : Int))))) || (decide (0 ≤ (w (q7 - (1 : Int)))) && decide ((w (q7 - (1 : Int))) < (a2.length : Int)))) then (bif ((!((!(bif (!y9) then true else (!((y10.1 == ((a2.getD ((0 : Int) + q7).toNat zM).2).1) && (y10.2 == ((a2.getD ((0 : Int) + q7).toNat zM).2).2))))) && (decide (q7 > (0 : Int))))) || true) then (bif ((!((!(bif (!y9) then true else (!((y10.1 == ((a2.getD ((0 : Int) + q7).toNat zM).2).1) && (y10.2 == ((a2.getD ((0 : Int) + q7).toNat zM).2).2))))) && (decide (q7 > (0 : Int))))) || true) then ((bif ((!(bif (!y9) then true else (!((y10.1 == ((a2.getD ((0 : Int) + q7).toNat zM).2).1) && (y10.2 == ((a2.getD ((0 : Int) + q7).toNat zM).2).2))))) && (decide (q7 > (0 : Int)))) then f300G K ((((a2.getD ((0 : Int) + (w (q7 - (1 : Int)))).toNat zM).1).1, (((a2.getD ((0 : Int) + (w (q7 - (1 : Int)))).toNat zM).1).2).1, ((((a2.getD ((0 : Int) + (w (q7 - (1 : Int)))).toNat zM).1).2).2)), ((a2.getD ((0 : Int) + (w (q7 - (1 : Int)))).toNat zM).2)) ((((a2.getD ((0 : Int) + q7).toNat zM).1).1, (((a2.getD ((0 : Int) + q7).toNat zM).1).2).1, ((((a2.getD ((0 : Int) + q7).toNat zM).1).2).2)), ((a2.getD ((0 : Int) + q7).toNat zM).2)) else some (0 : Int))).bind fun y11 => (bif ((!((!(bif (!y9) then true else (!((y10.1 == ((a2.getD ((0 : Int) + q7).toNat zM).2).1) && (y10.2 == ((a2.getD ((0 : Int) + q7).toNat zM).2).2))))) && (decide (q7 > (0 : Int))))) || true) then (bif ((!(!(bif (!y9) then true else (!((y10.1 == ((a2.getD ((0 : Int) + q7).toNat zM).2).1) && (y10.2 == ((a2.getD ((0 : Int) + q7).toNat zM).2).2)))))) || true) then (bif (bif (bif (!y9) then true else (!((y10.1 == ((a2.getD ((0 : Int) + q7).toNat zM).2).1) && (y10.2 == ((a2.getD ((0 : Int) + q7).toNat zM).2).2)))) then true else (bif (decide (q7 > (0 : Int))) then (decide (y11 ≥ (0 : Int))) else false)) then some false else L6 (w (q7 + (1 : Int))) (mput (eqSh sM) q8 ((((a2.getD ((0 : Int) + q7).toNat zM).1).1, (((a2.getD ((0 : Int) + q7).toNat zM).1).2).1, ((((a2.getD ((0 : Int) + q7).toNat zM).1).2).2)), ((a2.getD ((0 : Int) + q7).toNat zM).2)) true)) else none) else none) else none) else none) else none) else none) else none) else none) else none) else none) else none) else none) else none) else none) else none) else none) else none) else none) else (f231G K).bind fun y12 => (bif (!((mfind (eqSh sM) q8 (y12, (0 : Int), (0 : Int))).getD false)) then some false else I21 q7 q8 y1 y12 (0 : Int)))
def f325_l6 (K : Nat) (a0 : Int) (a1 : Int × Int × Int) (a2 : List tM) (y1 : List tA) (n : Nat) (q7 : Int) (q8 : List (tM × Bool)) : Option Bool :=
  iter (X := Int × List (tM × Bool)) (fun L x => (fun L6 => f325_b6 K a0 a1 a2 y1 (fun c0 c1 c2 c3 d0 => f325_l21 K a0 a1 a2 c0 c1 c2 c3 K d0) L6 x.1 x.2) (fun v0 v1 => L (v0, v1))) n (q7, q8)
def f325_fr6 (a0 : Int) (a1 : Int × Int × Int) (a2 : List tM) (y1 : List tA) (q7 : Int) (q8 : List (tM × Bool)) : Fr := ⟨84, [(0, .v false [.int .i64 a0]), (1, .v true [.int .i64 a1.1, .int .i64 a1.2.1, .int .i64 a1.2.2]), (2, .v false [.row 0]), (4, .v false [.box 0 0]), (6, .v false [.bool false]), (7, .v false [.row 1]), (8, .v false [.mp 1]), (19, .v false [.row 0]), (20, .v false [.int .i64 (a2.length : Int)]), (21, .v false [.int .i64 q7])], [some ⟨true, [.int .i64 a1.1, .int .i64 a1.2.1, .int .i64 a1.2.2]⟩, some ⟨true, [.mc sM .bool q8]⟩], [some ⟨95, sM, a2, .ro⟩, some ⟨93, sA, y1, .own⟩]⟩
def f325_k6 (K : Nat) (a0 : Int) (a1 : Int × Int × Int) (a2 : List tM) (lr : LR Bool) : Ex → Fr → Option Bool :=
  contC (f325E K) 1 lr f325C [1, 1, 0, 1, 0] (finK (f325E K) Tryz.f325 [(.ro, sI), (.ro, sL), (.ro, (.list 95 sM))] [.bool] (a0, a1, a2, ()))
def f325_k21 (K : Nat) (a0 : Int) (a1 : Int × Int × Int) (a2 : List tM) (lr : LR Bool) : Ex → Fr → Option Bool :=
  contC (f325E K) 1 lr f325C [1, 1, 1, 1, 0, 1, 0] (finK (f325E K) Tryz.f325 [(.ro, sI), (.ro, sL), (.ro, (.list 95 sM))] [.bool] (a0, a1, a2, ()))
def f325_k23 (K : Nat) (a0 : Int) (a1 : Int × Int × Int) (a2 : List tM) (q7 : Int) (q8 : List (tM × Bool)) (y1 : List tA) (y12 : Int × Int × Int × Int) (F21 : Fr → Option Bool) (bq22 : Int) (lr : LR Bool) : Ex → Fr → Option Bool :=
  contC (f325E K) 1 lr (selC f325C [1, 1, 1, 1, 0, 1, 0, 0]) [1, 1, 0, 0, 1, 1, 0] (loopK 1 (f325_fr21 a0 a1 a2 q7 q8 y1 y12 bq22) F21 (f325_k21 K a0 a1 a2 lr))
def f325_g (K : Nat) (a0 : Int) (a1 : Int × Int × Int) (a2 : List tM) (I6 : (List tA) → Int → (List (tM × Bool)) → Option Bool) : Option Bool :=
  (f311G K a0 a1).bind fun y1 => I6 y1 (0 : Int) []
def f325G (K : Nat) (a0 : Int) (a1 : Int × Int × Int) (a2 : List tM) : Option Bool :=
  f325_g K a0 a1 a2 (fun c0 d0 d1 => f325_l6 K a0 a1 a2 c0 K d0 d1)
def f325M (K : Nat) : Mdl := ⟨[(.ro, sI), (.ro, sL), (.ro, (.list 95 sM))], [.bool], fun x => f325G K x.1 x.2.1 x.2.2.1⟩
def f257C : Code := codeOf Tryz.f257
def f257E (K : Nat) : Env := ⟨[(223, f223M K), (325, f325M K)], tys, eqs, mts, K, [0, 1, 2, 4, 6, 7, 9, 14, 16, 17, 18, 19, 26], [], []⟩
def f257_b4 (K : Nat) (a0 : Int) (a1 : Int × Int × Int) (a2 : List (List tM)) (y1 : Int) (L4 : Int → Option Int) (q5 : Int) : Option Int :=
  (bif (decide (q5 < (a2.length : Int))) then (bif (decide (0 ≤ q5) && decide (q5 < (a2.length : Int))) then (f325G K a0 a1 (a2.getD ((0 : Int) + q5).toNat [])).bind fun y6 => (bif (!y6) then some (2 : Int) else L4 (w (q5 + (1 : Int)))) else none) else some (0 : Int))
def f257_l4 (K : Nat) (a0 : Int) (a1 : Int × Int × Int) (a2 : List (List tM)) (y1 : Int) (n : Nat) (q5 : Int) : Option Int :=
  iter (X := Int) (fun L x => (fun L4 => f257_b4 K a0 a1 a2 y1 L4 x) (fun v0 => L v0)) n q5
def f257_fr4 (a0 : Int) (a1 : Int × Int × Int) (a2 : List (List tM)) (y1 q5 : Int) : Fr := ⟨28, [(0, .v false [.int .i64 a0]), (1, .v true [.int .i64 a1.1, .int .i64 a1.2.1, .int .i64 a1.2.2]), (2, .v false [.row 0]), (4, .v false [.box 0 0]), (6, .v false [.int .i64 (0 : Int)]), (7, .v false [.int .i64 y1]), (14, .v false [.bool (y1 != (0 : Int))]), (16, .v false [.row 0]), (17, .v false [.int .i64 (a2.length : Int)]), (18, .v false [.int .i64 q5])], [some ⟨true, [.int .i64 a1.1, .int .i64 a1.2.1, .int .i64 a1.2.2]⟩], [some ⟨68, (.list 95 sM), a2, .ro⟩]⟩
def f257_k4 (K : Nat) (a0 : Int) (a1 : Int × Int × Int) (a2 : List (List tM)) (lr : LR Int) : Ex → Fr → Option Int :=
  contC (f257E K) 1 lr f257C [1, 1, 0, 1, 0] (finK (f257E K) Tryz.f257 [(.ro, sI), (.ro, sL), (.ro, (.list 68 (.list 95 sM)))] [sI] (a0, a1, a2, ()))
def f257_g (K : Nat) (a0 : Int) (a1 : Int × Int × Int) (a2 : List (List tM)) (I4 : Int → Int → Option Int) : Option Int :=
  (f223G K a0 a1).bind fun y1 => (bif (y1 != (0 : Int)) then some y1 else I4 y1 (0 : Int))
def f257G (K : Nat) (a0 : Int) (a1 : Int × Int × Int) (a2 : List (List tM)) : Option Int :=
  f257_g K a0 a1 a2 (fun c0 d0 => f257_l4 K a0 a1 a2 c0 K d0)
def f257M (K : Nat) : Mdl := ⟨[(.ro, sI), (.ro, sL), (.ro, (.list 68 (.list 95 sM)))], [sI], fun x => f257G K x.1 x.2.1 x.2.2.1⟩
def f216C : Code := codeOf Tryz.f216
def f216E (K : Nat) : Env := ⟨[], tys, eqs, mts, K, [0, 1, 2, 6, 7, 8, 9, 10, 16], [], []⟩
def f216_b2 (K : Nat) (a0 a1 a2 : Int) (L2 : Int → Int → Option Int) (q3 q4 : Int) : Option Int :=
  (bif (decide (q4 < a1)) then (bif (decide ((w (q3 * a0)) > a2)) then some (w (q3 * a0)) else L2 (w (q3 * a0)) (w (q4 + (1 : Int)))) else some q3)
def f216_l2 (K : Nat) (a0 a1 a2 : Int) (n : Nat) (q3 q4 : Int) : Option Int :=
  iter (X := Int × Int) (fun L x => (fun L2 => f216_b2 K a0 a1 a2 L2 x.1 x.2) (fun v0 v1 => L (v0, v1))) n (q3, q4)
def f216_fr2 (a0 a1 a2 q3 q4 : Int) : Fr := ⟨19, [(0, .v false [.int .i64 a0]), (1, .v false [.int .i64 a1]), (2, .v false [.int .i64 a2]), (6, .v false [.int .i64 (0 : Int)]), (7, .v false [.int .i64 q3]), (8, .v false [.int .i64 a1]), (9, .v false [.int .i64 q4])], [], []⟩
def f216_k2 (K : Nat) (a0 a1 a2 : Int) (lr : LR Int) : Ex → Fr → Option Int :=
  contC (f216E K) 0 lr f216C [1, 1, 0, 1, 0] (finK (f216E K) Tryz.f216 [(.ro, sI), (.ro, sI), (.ro, sI)] [sI] (a0, a1, a2, ()))
def f216_g (K : Nat) (a0 a1 a2 : Int) (I2 : Int → Int → Option Int) : Option Int :=
  I2 (1 : Int) (0 : Int)
def f216G (K : Nat) (a0 a1 a2 : Int) : Option Int :=
  f216_g K a0 a1 a2 (fun d0 d1 => f216_l2 K a0 a1 a2 K d0 d1)
def f216M (K : Nat) : Mdl := ⟨[(.ro, sI), (.ro, sI), (.ro, sI)], [sI], fun x => f216G K x.1 x.2.1 x.2.2.1⟩
def f237E (K : Nat) : Env := ⟨[(146, f146M K), (216, f216M K), (223, f223M K), (238, f238M K)], tys, eqs, mts, K, [0, 1, 2, 3, 5, 8, 9, 14, 18, 25], [], []⟩
def f237G (K : Nat) (a0 : Int) (a1 : Int × Int × Int) (a2 a3 : Int) : Option Int :=
  (f223G K a0 a1).bind fun y1 => (bif (y1 != (0 : Int)) then some y1 else (f146G K a2 (1 : Int) (10 : Int)).bind fun y2 => (bif (!y2) then some (2 : Int) else (f238G K a1).bind fun y3 => (f216G K a2 y3 a3).bind fun y4 => (bif (decide (y4 > a3)) then some (3 : Int) else some (0 : Int))))
def f237M (K : Nat) : Mdl := ⟨[(.ro, sI), (.ro, sL), (.ro, sI), (.ro, sI)], [sI], fun x => f237G K x.1 x.2.1 x.2.2.1 x.2.2.2.1⟩
def f215E (K : Nat) : Env := ⟨[(237, f237M K), (257, f257M K)], tys, eqs, mts, K, [0, 1, 2, 3, 4, 6, 10, 11, 18], [], []⟩
def f215G (K : Nat) (a0 : Int) (a1 : Int × Int × Int) (a2 : List tM) (a3 a4 : Int) : Option Int :=
  (f257G K a0 a1 [a2]).bind fun y1 => (bif (y1 != (0 : Int)) then some y1 else (f237G K a0 a1 a3 a4).bind fun y2 => some y2)
def f215M (K : Nat) : Mdl := ⟨[(.ro, sI), (.ro, sL), (.ro, (.list 95 sM)), (.ro, sI), (.ro, sI)], [sI], fun x => f215G K x.1 x.2.1 x.2.2.1 x.2.2.2.1 x.2.2.2.2.1⟩
def f207C : Code := codeOf Tryz.f207
def f207E (K : Nat) : Env := ⟨[], tys, eqs, mts, K, [0, 1, 2, 3, 4, 5, 8, 9, 10, 13, 14, 15], [], []⟩
def f207_b9 (K : Nat) (a0 : Int × Int × Int) (q7 : Int) (L6 L9 : Int → (List tV) → Option (List tV)) (q10 : Int) (q11 : List tV) : Option (List tV) :=
  (bif (decide (q10 < a0.2.2)) then (bif (Nat.ble (q11.length + [(q7, q10)].length) (lim 16)) then L9 (w (q10 + (1 : Int))) (q11 ++ [(q7, q10)]) else none) else L6 (w (q7 + (1 : Int))) q11)
def f207_l9 (K : Nat) (a0 : Int × Int × Int) (q7 : Int) (L6 : Int → (List tV) → Option (List tV)) (n : Nat) (q10 : Int) (q11 : List tV) : Option (List tV) :=
  iter (X := Int × List tV) (fun L x => (fun L9 => f207_b9 K a0 q7 L6 L9 x.1 x.2) (fun v0 v1 => L (v0, v1))) n (q10, q11)
def f207_fr9 (a0 : Int × Int × Int) (q7 q10 : Int) (q11 : List tV) : Fr := ⟨26, [(0, .v true [.int .i64 a0.1, .int .i64 a0.2.1, .int .i64 a0.2.2]), (1, .v false [.box 0 0]), (2, .v false [.row 0]), (3, .v false [.row 1]), (4, .v false [.int .i64 q7]), (8, .v false [.int .i64 a0.1]), (9, .v false [.int .i64 q7]), (10, .v false [.bool (decide (q7 < a0.1))]), (13, .v false [.int .i64 a0.2.2]), (14, .v false [.int .i64 q10])], [some ⟨true, [.int .i64 a0.1, .int .i64 a0.2.1, .int .i64 a0.2.2]⟩], [some ⟨79, sV, [], .own⟩, some ⟨79, sV, q11, .own⟩]⟩
def f207_b6 (K : Nat) (a0 : Int × Int × Int) (I9 : Int → Int → (List tV) → Option (List tV)) (L6 : Int → (List tV) → Option (List tV)) (q7 : Int) (q8 : List tV) : Option (List tV) :=
  (bif (decide (q7 < a0.1)) then I9 q7 (0 : Int) q8 else some q8)
def f207_l6 (K : Nat) (a0 : Int × Int × Int) (n : Nat) (q7 : Int) (q8 : List tV) : Option (List tV) :=
  iter (X := Int × List tV) (fun L x => (fun L6 => f207_b6 K a0 (fun c0 d0 d1 => f207_l9 K a0 c0 L6 K d0 d1) L6 x.1 x.2) (fun v0 v1 => L (v0, v1))) n (q7, q8)
def f207_fr6 (a0 : Int × Int × Int) (q7 : Int) (q8 : List tV) : Fr := ⟨26, [(0, .v true [.int .i64 a0.1, .int .i64 a0.2.1, .int .i64 a0.2.2]), (1, .v false [.box 0 0]), (2, .v false [.row 0]), (3, .v false [.row 1]), (8, .v false [.int .i64 a0.1]), (9, .v false [.int .i64 q7])], [some ⟨true, [.int .i64 a0.1, .int .i64 a0.2.1, .int .i64 a0.2.2]⟩], [some ⟨79, sV, [], .own⟩, some ⟨79, sV, q8, .own⟩]⟩
def f207_k6 (K : Nat) (a0 : Int × Int × Int) (lr : LR (List tV)) : Ex → Fr → Option (List tV) :=
  contC (f207E K) 0 lr f207C [1, 1, 0, 1, 0] (finK (f207E K) Tryz.f207 [(.ro, sL)] [(.list 79 sV)] (a0, ()))
def f207_k9 (K : Nat) (a0 : Int × Int × Int) (F6 : Fr → Option (List tV)) (bq7 : Int) (bq8 : List tV) (lr : LR (List tV)) : Ex → Fr → Option (List tV) :=
  contC (f207E K) 0 lr (selC f207C [1, 1, 0, 1, 0, 0]) [1, 1, 0, 0, 1, 1, 0] (loopK 0 (f207_fr6 a0 bq7 bq8) F6 (f207_k6 K a0 lr))
def f207_g (K : Nat) (a0 : Int × Int × Int) (I6 : Int → (List tV) → Option (List tV)) : Option (List tV) :=
  I6 (0 : Int) []
def f207G (K : Nat) (a0 : Int × Int × Int) : Option (List tV) :=
  f207_g K a0 (fun d0 d1 => f207_l6 K a0 K d0 d1)
def f207M (K : Nat) : Mdl := ⟨[(.ro, sL)], [(.list 79 sV)], fun x => f207G K x.1⟩
def f191E (K : Nat) : Env := ⟨[(288, f288M K), (289, f289M K)], tys, eqs, mts, K, [0, 1, 2, 3, 4], [], []⟩
def f191G (K : Nat) (a0 : tA × Int × Int) (a1 : Int × Int) : Option tV :=
  (f288G K a0.1 a1).bind fun y1 => (f289G K y1 a0.2).bind fun y2 => some y2
def f191M (K : Nat) : Mdl := ⟨[(.ro, sM), (.ro, sV)], [sV], fun x => f191G K x.1 x.2.1⟩
def f267E (K : Nat) : Env := ⟨[(161, f161M K), (191, f191M K)], tys, eqs, mts, K, [0, 1, 2, 3, 4, 5, 6], [], []⟩
def f267G (K : Nat) (a0 : Int × Int × Int) (a1 : tA × Int × Int) (a2 : Int × Int) : Option tV :=
  (f191G K a1 a2).bind fun y1 => (f161G K a0 y1).bind fun y2 => some y2
def f267M (K : Nat) : Mdl := ⟨[(.ro, sL), (.ro, sM), (.ro, sV)], [sV], fun x => f267G K x.1 x.2.1 x.2.2.1⟩
def f217C : Code := codeOf Tryz.f217
def f217E (K : Nat) : Env := ⟨[(207, f207M K), (267, f267M K)], tys, eqs, mts, K, [0, 1, 2, 3, 4, 5, 6, 8, 9, 12, 13, 14, 15, 20, 27, 34], [], []⟩
def f217_b16 (K : Nat) (a0 : Int × Int × Int) (a1 : tA × Int × Int) (q13 q14 : Int) (q15 : List (tV × Bool)) (y1 : List tV) (L12 : Int → Int → (List (tV × Bool)) → Option Int) (L16 : (List (tV × Bool)) → Int → Int → Option Int) (q17 : List (tV × Bool)) (q18 q19 : Int) : Option Int :=
  (bif (!((mfind (eqSh sV) q17 (q18, q19)).getD false)) then (f267G K a0 a1 (q18, q19)).bind fun y20 => L16 (mput (eqSh sV) q17 (q18, q19) true) y20.1 y20.2 else L12 (w (q13 + (1 : Int))) (w (q14 + (1 : Int))) q17)
def f217_l16 (K : Nat) (a0 : Int × Int × Int) (a1 : tA × Int × Int) (q13 q14 : Int) (q15 : List (tV × Bool)) (y1 : List tV) (L12 : Int → Int → (List (tV × Bool)) → Option Int) (n : Nat) (q17 : List (tV × Bool)) (q18 q19 : Int) : Option Int :=
  iter (X := List (tV × Bool) × Int × Int) (fun L x => (fun L16 => f217_b16 K a0 a1 q13 q14 q15 y1 L12 L16 x.1 x.2.1 x.2.2) (fun v0 v1 v2 => L (v0, v1, v2))) n (q17, q18, q19)
def f217_fr16 (a0 : Int × Int × Int) (a1 : tA × Int × Int) (q13 q14 : Int) (q15 : List (tV × Bool)) (y1 : List tV) (q17 : List (tV × Bool)) (q18 q19 : Int) : Fr := ⟨37, [(0, .v true [.int .i64 a0.1, .int .i64 a0.2.1, .int .i64 a0.2.2]), (1, .v true [.int .i64 a1.1.1, .int .i64 a1.1.2.1, .int .i64 a1.1.2.2.1, .int .i64 a1.1.2.2.2, .int .i64 a1.2.1, .int .i64 a1.2.2]), (2, .v false [.box 0 0]), (3, .v false [.box 1 0]), (4, .v false [.int .i64 (0 : Int)]), (5, .v false [.int .i64 (w (q14 + (1 : Int)))]), (6, .v false [.mp 2]), (8, .v false [.box 3 0]), (9, .v false [.box 4 0]), (12, .v false [.row 0]), (13, .v false [.int .i64 (y1.length : Int)]), (14, .v false [.int .i64 q13]), (15, .v false [.bool (decide (q13 < (y1.length : Int)))]), (20, .v false [.bool ((mfind (eqSh sV) q15 (y1.getD ((0 : Int) + q13).toNat ((0 : Int), (0 : Int)))).getD false)])], [some ⟨true, [.int .i64 a0.1, .int .i64 a0.2.1, .int .i64 a0.2.2]⟩, some ⟨true, [.int .i64 a1.1.1, .int .i64 a1.1.2.1, .int .i64 a1.1.2.2.1, .int .i64 a1.1.2.2.2, .int .i64 a1.2.1, .int .i64 a1.2.2]⟩, some ⟨true, [.mc sV .bool q17]⟩, some ⟨true, [.int .i64 ((y1.getD ((0 : Int) + q13).toNat ((0 : Int), (0 : Int))).1), .int .i64 ((y1.getD ((0 : Int) + q13).toNat ((0 : Int), (0 : Int))).2)]⟩, some ⟨true, [.int .i64 q18, .int .i64 q19]⟩], [some ⟨79, sV, y1, .own⟩]⟩
def f217_b12 (K : Nat) (a0 : Int × Int × Int) (a1 : tA × Int × Int) (y1 : List tV) (I16 : Int → Int → (List (tV × Bool)) → (List (tV × Bool)) → Int → Int → Option Int) (L12 : Int → Int → (List (tV × Bool)) → Option Int) (q13 q14 : Int) (q15 : List (tV × Bool)) : Option Int :=
  (bif (decide (q13 < (y1.length : Int))) then (bif (decide (0 ≤ q13) && decide (q13 < (y1.length : Int))) then (bif ((mfind (eqSh sV) q15 (y1.getD ((0 : Int) + q13).toNat ((0 : Int), (0 : Int)))).getD false) then L12 (w (q13 + (1 : Int))) q14 q15 else I16 q13 q14 q15 q15 ((y1.getD ((0 : Int) + q13).toNat ((0 : Int), (0 : Int))).1) ((y1.getD ((0 : Int) + q13).toNat ((0 : Int), (0 : Int))).2)) else none) else some q14)
def f217_l12 (K : Nat) (a0 : Int × Int × Int) (a1 : tA × Int × Int) (y1 : List tV) (n : Nat) (q13 q14 : Int) (q15 : List (tV × Bool)) : Option Int :=
  iter (X := Int × Int × List (tV × Bool)) (fun L x => (fun L12 => f217_b12 K a0 a1 y1 (fun c0 c1 c2 d0 d1 d2 => f217_l16 K a0 a1 c0 c1 c2 y1 L12 K d0 d1 d2) L12 x.1 x.2.1 x.2.2) (fun v0 v1 v2 => L (v0, v1, v2))) n (q13, q14, q15)
def f217_fr12 (a0 : Int × Int × Int) (a1 : tA × Int × Int) (y1 : List tV) (q13 q14 : Int) (q15 : List (tV × Bool)) : Fr := ⟨37, [(0, .v true [.int .i64 a0.1, .int .i64 a0.2.1, .int .i64 a0.2.2]), (1, .v true [.int .i64 a1.1.1, .int .i64 a1.1.2.1, .int .i64 a1.1.2.2.1, .int .i64 a1.1.2.2.2, .int .i64 a1.2.1, .int .i64 a1.2.2]), (2, .v false [.box 0 0]), (3, .v false [.box 1 0]), (4, .v false [.int .i64 (0 : Int)]), (5, .v false [.int .i64 q14]), (6, .v false [.mp 2]), (12, .v false [.row 0]), (13, .v false [.int .i64 (y1.length : Int)]), (14, .v false [.int .i64 q13])], [some ⟨true, [.int .i64 a0.1, .int .i64 a0.2.1, .int .i64 a0.2.2]⟩, some ⟨true, [.int .i64 a1.1.1, .int .i64 a1.1.2.1, .int .i64 a1.1.2.2.1, .int .i64 a1.1.2.2.2, .int .i64 a1.2.1, .int .i64 a1.2.2]⟩, some ⟨true, [.mc sV .bool q15]⟩], [some ⟨79, sV, y1, .own⟩]⟩
def f217_k12 (K : Nat) (a0 : Int × Int × Int) (a1 : tA × Int × Int) (lr : LR Int) : Ex → Fr → Option Int :=
  contC (f217E K) 0 lr f217C [1, 1, 0, 1, 0] (finK (f217E K) Tryz.f217 [(.ro, sL), (.ro, sM)] [sI] (a0, a1, ()))
def f217_k16 (K : Nat) (a0 : Int × Int × Int) (a1 : tA × Int × Int) (y1 : List tV) (F12 : Fr → Option Int) (bq13 bq14 : Int) (bq15 : List (tV × Bool)) (lr : LR Int) : Ex → Fr → Option Int :=
  contC (f217E K) 0 lr (selC f217C [1, 1, 0, 1, 0, 0]) [1, 1, 0, 0, 1, 1, 1, 1, 0] (loopK 0 (f217_fr12 a0 a1 y1 bq13 bq14 bq15) F12 (f217_k12 K a0 a1 lr))
def f217_g (K : Nat) (a0 : Int × Int × Int) (a1 : tA × Int × Int) (I12 : (List tV) → Int → Int → (List (tV × Bool)) → Option Int) : Option Int :=
  (f207G K a0).bind fun y1 => I12 y1 (0 : Int) (0 : Int) []
def f217G (K : Nat) (a0 : Int × Int × Int) (a1 : tA × Int × Int) : Option Int :=
  f217_g K a0 a1 (fun c0 d0 d1 d2 => f217_l12 K a0 a1 c0 K d0 d1 d2)
def f217M (K : Nat) : Mdl := ⟨[(.ro, sL), (.ro, sM)], [sI], fun x => f217G K x.1 x.2.1⟩
def f99C : Code := codeOf Tryz.f99
def f99E (K : Nat) : Env := ⟨[(215, f215M K), (216, f216M K), (217, f217M K)], tys, eqs, mts, K, [0, 1, 2, 3, 5, 8, 9, 10, 11, 13, 20, 22, 23, 24, 25], [], []⟩
def f99_b5 (K : Nat) (a0 : Int) (a1 : Int × Int × Int) (a2 : List tM) (a3 y1 : Int) (L5 : Int → Int → Option tV) (q6 q7 : Int) : Option tV :=
  (bif (decide (q7 < (a2.length : Int))) then (bif (decide (0 ≤ q7) && decide (q7 < (a2.length : Int))) then (f217G K a1 ((((a2.getD ((0 : Int) + q7).toNat zM).1).1, (((a2.getD ((0 : Int) + q7).toNat zM).1).2).1, ((((a2.getD ((0 : Int) + q7).toNat zM).1).2).2)), ((a2.getD ((0 : Int) + q7).toNat zM).2))).bind fun y8 => (f216G K a3 y8 (1000000000000 : Int)).bind fun y9 => L5 (w (q6 + y9)) (w (q7 + (1 : Int))) else none) else (bif ((a2.length : Int) != 0) then some ((w (q6.tdiv (a2.length : Int))), (0 : Int)) else none))
def f99_l5 (K : Nat) (a0 : Int) (a1 : Int × Int × Int) (a2 : List tM) (a3 y1 : Int) (n : Nat) (q6 q7 : Int) : Option tV :=
  iter (X := Int × Int) (fun L x => (fun L5 => f99_b5 K a0 a1 a2 a3 y1 L5 x.1 x.2) (fun v0 v1 => L (v0, v1))) n (q6, q7)
def f99_fr5 (a0 : Int) (a1 : Int × Int × Int) (a2 : List tM) (a3 y1 q6 q7 : Int) : Fr := ⟨40, [(0, .v false [.int .i64 a0]), (1, .v true [.int .i64 a1.1, .int .i64 a1.2.1, .int .i64 a1.2.2]), (2, .v false [.row 0]), (3, .v false [.int .i64 a3]), (5, .v false [.box 0 0]), (8, .v false [.int .i64 (0 : Int)]), (9, .v false [.int .i64 (0 : Int)]), (10, .v false [.int .i64 y1]), (11, .v false [.int .i64 q6]), (20, .v false [.bool (y1 != (0 : Int))]), (22, .v false [.row 0]), (23, .v false [.int .i64 (a2.length : Int)]), (24, .v false [.int .i64 q7])], [some ⟨true, [.int .i64 a1.1, .int .i64 a1.2.1, .int .i64 a1.2.2]⟩], [some ⟨95, sM, a2, .ro⟩]⟩
def f99_k5 (K : Nat) (a0 : Int) (a1 : Int × Int × Int) (a2 : List tM) (a3 : Int) (lr : LR tV) : Ex → Fr → Option tV :=
  contC (f99E K) 1 lr f99C [1, 1, 1, 0, 1, 0] (finK (f99E K) Tryz.f99 [(.ro, sI), (.ro, sL), (.ro, (.list 95 sM)), (.ro, sI)] [sI, sI] (a0, a1, a2, a3, ()))
def f99_g (K : Nat) (a0 : Int) (a1 : Int × Int × Int) (a2 : List tM) (a3 : Int) (I5 : Int → Int → Int → Option tV) : Option tV :=
  (f215G K a0 a1 a2 a3 (1000000000000 : Int)).bind fun y1 => (bif (y1 != (0 : Int)) then some ((0 : Int), y1) else I5 y1 (0 : Int) (0 : Int))
def f99G (K : Nat) (a0 : Int) (a1 : Int × Int × Int) (a2 : List tM) (a3 : Int) : Option tV :=
  f99_g K a0 a1 a2 a3 (fun c0 d0 d1 => f99_l5 K a0 a1 a2 a3 c0 K d0 d1)
def f99M (K : Nat) : Mdl := ⟨[(.ro, sI), (.ro, sL), (.ro, (.list 95 sM)), (.ro, sI)], [sI, sI], fun x => f99G K x.1 x.2.1 x.2.2.1 x.2.2.2.1⟩
def f211E (K : Nat) : Env := ⟨[(141, f141M K)], tys, eqs, mts, K, [0, 1, 2], [], []⟩
def f211G (K : Nat) (a0 : Int × Int) : Option Bool :=
  (f141G K a0.1 (-1000 : Int) (1000 : Int)).bind fun y1 => (bif ((!y1) || true) then (bif ((!y1) || true) then ((bif y1 then f141G K a0.2 (-1000 : Int) (1000 : Int) else some false)).bind fun y2 => some (bif y1 then y2 else false) else none) else none)
def f211M (K : Nat) : Mdl := ⟨[(.ro, sV)], [.bool], fun x => f211G K x.1⟩
def f402E (K : Nat) : Env := ⟨[(211, f211M K)], tys, eqs, mts, K, [0, 1, 2], [], []⟩
def f402G (K : Nat) (a0 : Int × Int × Int × Int) : Option Bool :=
  (f211G K (a0.1, a0.2.1)).bind fun y1 => (bif ((!y1) || true) then (bif ((!y1) || true) then (bif ((!y1) || true) then (bif ((!y1) || true) then (bif ((!y1) || true) then ((bif y1 then f211G K a0.2.2 else some false)).bind fun y2 => some (bif y1 then y2 else false) else none) else none) else none) else none) else none)
def f402M (K : Nat) : Mdl := ⟨[(.ro, sA)], [.bool], fun x => f402G K x.1⟩
def f403E (K : Nat) : Env := ⟨[], tys, eqs, mts, K, [0, 1, 2], [], []⟩
def f403G (K : Nat) (a0 : Int × Int × Int × Int) : Option Int :=
  some (w ((w (a0.1 * a0.2.2.2)) - (w (a0.2.1 * a0.2.2.1))))
def f403M (K : Nat) : Mdl := ⟨[(.ro, sA)], [sI], fun x => f403G K x.1⟩
def f361E (K : Nat) : Env := ⟨[(402, f402M K), (403, f403M K)], tys, eqs, mts, K, [0, 1, 2], [], []⟩
def f361G (K : Nat) (a0 : Int × Int × Int × Int) : Option Bool :=
  (f402G K a0).bind fun y1 => (bif ((!y1) || true) then ((bif y1 then f403G K a0 else some (0 : Int))).bind fun y2 => (bif ((!y1) || true) then (bif ((!y1) || true) then (bif ((!(y1 && (!(y2 == (1 : Int))))) || true) then ((bif (y1 && (!(y2 == (1 : Int)))) then f403G K a0 else some (0 : Int))).bind fun y3 => (bif ((!(y1 && (!(y2 == (1 : Int))))) || true) then (bif ((!y1) || true) then some (bif y1 then (bif (y2 == (1 : Int)) then true else (y3 == (-1 : Int))) else false) else none) else none) else none) else none) else none) else none)
def f361M (K : Nat) : Mdl := ⟨[(.ro, sA)], [.bool], fun x => f361G K x.1⟩
def f312E (K : Nat) : Env := ⟨[(316, f316M K), (361, f361M K), (362, f362M K)], tys, eqs, mts, K, [0, 1, 3, 4], [], []⟩
def f312G (K : Nat) (a0 : Int) (a1 : Int × Int × Int × Int) : Option Bool :=
  (f316G K a0).bind fun y1 => (bif ((!y1) || true) then ((bif y1 then f361G K a1 else some false)).bind fun y2 => (bif ((!(bif y1 then y2 else false)) || true) then (bif ((!(bif y1 then y2 else false)) || true) then ((bif (bif y1 then y2 else false) then f362G K a0 a1 else some false)).bind fun y3 => some (bif (bif y1 then y2 else false) then y3 else false) else none) else none) else none)
def f312M (K : Nat) : Mdl := ⟨[(.ro, sI), (.ro, sA)], [.bool], fun x => f312G K x.1 x.2.1⟩
def f226E (K : Nat) : Env := ⟨[(211, f211M K), (229, f229M K), (312, f312M K), (313, f313M K)], tys, eqs, mts, K, [0, 1, 2, 4, 5, 6], [], []⟩
def f226G (K : Nat) (a0 : Int) (a1 : Int × Int × Int) (a2 : tA × Int × Int) : Option Bool :=
  (f229G K a0 a1).bind fun y1 => (bif ((!(y1 == (0 : Int))) || true) then (bif ((!(y1 == (0 : Int))) || true) then (bif ((!(y1 == (0 : Int))) || true) then ((bif (y1 == (0 : Int)) then f312G K a0 a2.1 else some false)).bind fun y2 => (bif ((!(bif (y1 == (0 : Int)) then y2 else false)) || true) then (bif ((!(bif (y1 == (0 : Int)) then y2 else false)) || true) then (bif ((!(bif (y1 == (0 : Int)) then y2 else false)) || true) then ((bif (bif (y1 == (0 : Int)) then y2 else false) then f313G K a2.1 a1 else some ((0 : Int), ((0 : Int), (0 : Int))))).bind fun y3 => (bif ((!(bif (y1 == (0 : Int)) then y2 else false)) || true) then (bif ((!(bif (y1 == (0 : Int)) then y2 else false)) || true) then (bif ((!(bif (bif (y1 == (0 : Int)) then y2 else false) then ((y3.1 == a1.1) && ((y3.2.1 == a1.2.1) && (y3.2.2 == a1.2.2))) else false)) || true) then (bif ((!(bif (bif (y1 == (0 : Int)) then y2 else false) then ((y3.1 == a1.1) && ((y3.2.1 == a1.2.1) && (y3.2.2 == a1.2.2))) else false)) || true) then ((bif (bif (bif (y1 == (0 : Int)) then y2 else false) then ((y3.1 == a1.1) && ((y3.2.1 == a1.2.1) && (y3.2.2 == a1.2.2))) else false) then f211G K a2.2 else some false)).bind fun y4 => some (bif (bif (bif (y1 == (0 : Int)) then y2 else false) then ((y3.1 == a1.1) && ((y3.2.1 == a1.2.1) && (y3.2.2 == a1.2.2))) else false) then y4 else false) else none) else none) else none) else none) else none) else none) else none) else none) else none) else none)
def f226M (K : Nat) : Mdl := ⟨[(.ro, sI), (.ro, sL), (.ro, sM)], [.bool], fun x => f226G K x.1 x.2.1 x.2.2.1⟩
def f219C : Code := codeOf Tryz.f219
def f219E (K : Nat) : Env := ⟨[(226, f226M K), (229, f229M K), (303, f303M K), (304, f304M K), (305, f305M K), (306, f306M K), (307, f307M K)], tys, eqs, mts, K, [0, 1, 2, 4, 6, 7, 8, 9, 18, 22, 62, 66, 70, 76, 92], [], []⟩
def f219_b25 (K : Nat) (a0 : Int) (a1 : Int × Int × Int) (a2 : List tM) (q7 q24 y1 : Int) (y12 : Bool) (L23 L25 : Int → Option Bool) (q26 : Int) : Option Bool :=
  (bif (decide (q26 < (a2.length : Int))) then (bif (decide (0 ≤ q24) && decide (q24 < (a2.length : Int))) then (bif (decide (0 ≤ q26) && decide (q26 < (a2.length : Int))) then (f307G K ((((a2.getD ((0 : Int) + q24).toNat zM).1).1, (((a2.getD ((0 : Int) + q24).toNat zM).1).2).1, ((((a2.getD ((0 : Int) + q24).toNat zM).1).2).2)), ((a2.getD ((0 : Int) + q24).toNat zM).2)) ((((a2.getD ((0 : Int) + q26).toNat zM).1).1, (((a2.getD ((0 : Int) + q26).toNat zM).1).2).1, ((((a2.getD ((0 : Int) + q26).toNat zM).1).2).2)), ((a2.getD ((0 : Int) + q26).toNat zM).2))).bind fun y27 => (f303G K a1 y27).bind fun y28 => (f305G K a2 y28).bind fun y29 => (bif (!y29) then some false else L25 (w (q26 + (1 : Int)))) else none) else none) else L23 (w (q24 + (1 : Int))))
def f219_l25 (K : Nat) (a0 : Int) (a1 : Int × Int × Int) (a2 : List tM) (q7 q24 y1 : Int) (y12 : Bool) (L23 : Int → Option Bool) (n : Nat) (q26 : Int) : Option Bool :=
  iter (X := Int) (fun L x => (fun L25 => f219_b25 K a0 a1 a2 q7 q24 y1 y12 L23 L25 x) (fun v0 => L v0)) n q26
def f219_fr25 (a0 : Int) (a1 : Int × Int × Int) (a2 : List tM) (q7 q24 y1 : Int) (y12 : Bool) (q26 : Int) : Fr := ⟨93, [(0, .v false [.int .i64 a0]), (1, .v true [.int .i64 a1.1, .int .i64 a1.2.1, .int .i64 a1.2.2]), (2, .v false [.row 0]), (4, .v false [.box 0 0]), (6, .v false [.bool false]), (7, .v false [.int .i64 q7]), (8, .v false [.int .i64 q24]), (9, .v false [.int .i64 q26]), (18, .v false [.bool (bif (y1 != (0 : Int)) then true else (decide ((a2.length : Int) > (768 : Int))))]), (22, .v false [.bool (decide (q7 < (a2.length : Int)))]), (66, .v false [.bool (!y12)]), (70, .v false [.bool (decide (q24 < (a2.length : Int)))])], [some ⟨true, [.int .i64 a1.1, .int .i64 a1.2.1, .int .i64 a1.2.2]⟩], [some ⟨95, sM, a2, .ro⟩]⟩
def f219_b23 (K : Nat) (a0 : Int) (a1 : Int × Int × Int) (a2 : List tM) (q7 y1 : Int) (y12 : Bool) (I25 : Int → Int → Option Bool) (L23 : Int → Option Bool) (q24 : Int) : Option Bool :=
  (bif (decide (q24 < (a2.length : Int))) then I25 q24 (0 : Int) else some true)
def f219_l23 (K : Nat) (a0 : Int) (a1 : Int × Int × Int) (a2 : List tM) (q7 y1 : Int) (y12 : Bool) (n : Nat) (q24 : Int) : Option Bool :=
  iter (X := Int) (fun L x => (fun L23 => f219_b23 K a0 a1 a2 q7 y1 y12 (fun c0 d0 => f219_l25 K a0 a1 a2 q7 c0 y1 y12 L23 K d0) L23 x) (fun v0 => L v0)) n q24
def f219_fr23 (a0 : Int) (a1 : Int × Int × Int) (a2 : List tM) (q7 y1 : Int) (y12 : Bool) (q24 : Int) : Fr := ⟨93, [(0, .v false [.int .i64 a0]), (1, .v true [.int .i64 a1.1, .int .i64 a1.2.1, .int .i64 a1.2.2]), (2, .v false [.row 0]), (4, .v false [.box 0 0]), (6, .v false [.bool false]), (7, .v false [.int .i64 q7]), (8, .v false [.int .i64 q24]), (18, .v false [.bool (bif (y1 != (0 : Int)) then true else (decide ((a2.length : Int) > (768 : Int))))]), (22, .v false [.bool (decide (q7 < (a2.length : Int)))]), (66, .v false [.bool (!y12)])], [some ⟨true, [.int .i64 a1.1, .int .i64 a1.2.1, .int .i64 a1.2.2]⟩], [some ⟨95, sM, a2, .ro⟩]⟩
def f219_b6 (K : Nat) (a0 : Int) (a1 : Int × Int × Int) (a2 : List tM) (y1 : Int) (I23 : Int → Int → Bool → Int → Option Bool) (L6 : Int → Option Bool) (q7 : Int) : Option Bool :=
  (bif (decide (q7 < (a2.length : Int))) then (bif (decide (0 ≤ q7) && decide (q7 < (a2.length : Int))) then (f226G K a0 a1 ((((a2.getD ((0 : Int) + q7).toNat zM).1).1, (((a2.getD ((0 : Int) + q7).toNat zM).1).2).1, ((((a2.getD ((0 : Int) + q7).toNat zM).1).2).2)), ((a2.getD ((0 : Int) + q7).toNat zM).2))).bind fun y8 => (bif ((!(!(!y8))) || true) then (bif ((!(!(!y8))) || true) then (bif ((!(!(!y8))) || true) then (bif ((!(!(!y8))) || (decide (0 ≤ q7) && decide (q7 < (a2.length : Int)))) then (bif ((!(!(!y8))) || true) then ((bif (!(!y8)) then f303G K a1 ((((a2.getD ((0 : Int) + q7).toNat zM).1).1, (((a2.getD ((0 : Int) + q7).toNat zM).1).2).1, ((((a2.getD ((0 : Int) + q7).toNat zM).1).2).2)), ((a2.getD ((0 : Int) + q7).toNat zM).2)) else some zM)).bind fun y9 => (bif ((!(!(!y8))) || true) then (bif ((!(!(!y8))) || true) then (bif ((!(!(!y8))) || (decide (0 ≤ q7) && decide (q7 < (a2.length : Int)))) then (bif ((!(!(!y8))) || true) then (bif ((!(!(!y8))) || true) then (bif ((!(!(bif (!y8) then true else (!((y9.1.1 == ((a2.getD ((0 : Int) + q7).toNat zM).1).1) && ((y9.1.2.1 == (((a2.getD ((0 : Int) + q7).toNat zM).1).2).1) && ((y9.1.2.2.1 == ((((a2.getD ((0 : Int) + q7).toNat zM).1).2).2).1) && ((y9.1.2.2.2 == ((((a2.getD ((0 : Int) + q7).toNat zM).1).2).2).2) && ((y9.2.1 == ((a2.getD ((0 : Int) + q7).toNat zM).2).1) && (y9.2.2 == ((a2.getD ((0 : Int) + q7).toNat zM).2).2)))))))))) || true) then (bif ((!(!(bif (!y8) then true else (!((y9.1.1 == ((a2.getD ((0 : Int) + q7).toNat zM).1).1) && ((y9.1.2.1 == (((a2.getD ((0 : Int) + q7).toNat zM).1).2).1) && ((y9.1.2.2.1 == ((((a2.getD ((0 : Int) + q7).toNat zM).1).2).2).1) && ((y9.1.2.2.2 == ((((a2.getD ((0 : Int) + q7).toNat zM).1).2).2).2) && ((y9.2.1 == ((a2.getD ((0 : Int) + q7).toNat zM).2).1) && (y9.2.2 == ((a2.getD ((0 : Int) + q7).toNat zM).2).2)))))))))) || true) then (bif ((!(!(bif (!y8) then true else (!((y9.1.1 == ((a2.getD ((0 : Int) + q7).toNat zM).1).1) && ((y9.1.2.1 == (((a2.getD ((0 : Int) + q7).toNat zM).1).2).1) && ((y9.1.2.2.1 == ((((a2.getD ((0 : Int) + q7).toNat zM).1).2).2).1) && ((y9.1.2.2.2 == ((((a2.getD ((0 : Int) + q7).toNat zM).1).2).2).2) && ((y9.2.1 == ((a2.getD ((0 : Int) + q7).toNat zM).2).1) && (y9.2.2 == ((a2.getD ((0 : Int) + q7).toNat zM).2).2)))))))))) || true) then (bif ((!((!(bif (!y8) then true else (!((y9.1.1 == ((a2.getD ((0 : Int) + q7).toNat zM).1).1) && ((y9.1.2.1 == (((a2.getD ((0 : Int) + q7).toNat zM).1).2).1) && ((y9.1.2.2.1 == ((((a2.getD ((0 : Int) + q7).toNat zM).1).2).2).1) && ((y9.1.2.2.2 == ((((a2.getD ((0 : Int) + q7).toNat zM).1).2).2).2) && ((y9.2.1 == ((a2.getD ((0 : Int) + q7).toNat zM).2).1) && (y9.2.2 == ((a2.getD ((0 : Int) + q7).toNat zM).2).2))))))))) && (decide (q7 > (0 : Int))))) || true) then (bif ((!((!(bif (!y8) then true else (!((y9.1.1 == ((a2.getD ((0 : Int) + q7).toNat zM).1).1) && ((y9.1.2.1 == (((a2.getD ((0 : Int) + q7).toNat zM).1).2).1) && ((y9.1.2.2.1 == ((((a2.getD ((0 : Int) + q7).toNat zM).1).2).2).1) && ((y9.1.2.2.2 == ((((a2.getD ((0 : Int) + q7).toNat zM).1).2).2).2) && ((y9.2.1 == ((a2.getD ((0 : Int) + q7).toNat zM).2).1) && (y9.2.2 == ((a2.getD ((0 : Int) + q7).toNat zM).2).2))))))))) && (decide (q7 > (0 : Int))))) || true) then (bif ((!((!(bif (!y8) then true else (!((y9.1.1 == ((a2.getD ((0 : Int) + q7).toNat zM).1).1) && ((y9.1.2.1 == (((a2.getD ((0 : Int) + q7).toNat zM).1).2).1) && ((y9.1.2.2.1 == ((((a2.getD ((0 : Int) + q7).toNat zM).1).2).2).1) && ((y9.1.2.2.2 == ((((a2.getD ((0 : Int) + q7).toNat zM).1).2).2).2) && ((y9.2.1 == ((a2.getD ((0 : Int) + q7).toNat zM).2).1) && (y9.2.2 == ((a2.getD ((0 : Int) + q7).toNat zM).2).2))))))))) && (decide (q7 > (0 : Int))))) || true) then (bif ((!((!(bif (!y8) then true else (!((y9.1.1 == ((a2.getD ((0 : Int) + q7).toNat zM).1).1) && ((y9.1.2.1 == (((a2.getD ((0 : Int) + q7).toNat zM).1).2).1) && ((y9.1.2.2.1 == ((((a2.getD ((0 : Int) + q7).toNat zM).1).2).2).1) && ((y9.1.2.2.2 == ((((a2.getD ((0 : Int) + q7).toNat zM).1).2).2).2) && ((y9.2.1 == ((a2.getD ((0 : Int) + q7).toNat zM).2).1) && (y9.2.2 == ((a2.getD ((0 : Int) + q7).toNat zM).2).2))))))))) && (decide (q7 > (0 : Int))))) || (decide (0 ≤ (w (q7 - (1 : Int)))) && decide ((w (q7 - (1 : Int))) < (a2.length : Int)))) then (bif ((!((!(bif (!y8) then true else (!((y9.1.1 == ((a2.getD ((0 : Int) + q7).toNat zM).1).1) && ((y9.1.2.1 == (((a2.getD ((0 : Int) + q7).toNat zM).1).2).1) && ((y9.1.2.2.1 == ((((a2.getD ((0 : Int) + q7).toNat zM).1).2).2).1) && ((y9.1.2.2.2 == ((((a2.getD ((0 : Int) + q7).toNat zM).1).2).2).2) && ((y9.2.1 == ((a2.getD ((0 : Int) + q7).toNat zM).2).1) && (y9.2.2 == ((a2.getD ((0 : Int) + q7).toNat zM).2).2))))))))) && (decide (q7 > (0 : Int))))) || true) then (bif ((!((!(bif (!y8) then true else (!((y9.1.1 == ((a2.getD ((0 : Int) + q7).toNat zM).1).1) && ((y9.1.2.1 == (((a2.getD ((0 : Int) + q7).toNat zM).1).2).1) && ((y9.1.2.2.1 == ((((a2.getD ((0 : Int) + q7).toNat zM).1).2).2).1) && ((y9.1.2.2.2 == ((((a2.getD ((0 : Int) + q7).toNat zM).1).2).2).2) && ((y9.2.1 == ((a2.getD ((0 : Int) + q7).toNat zM).2).1) && (y9.2.2 == ((a2.getD ((0 : Int) + q7).toNat zM).2).2))))))))) && (decide (q7 > (0 : Int))))) || true) then (bif ((!((!(bif (!y8) then true else (!((y9.1.1 == ((a2.getD ((0 : Int) + q7).toNat zM).1).1) && ((y9.1.2.1 == (((a2.getD ((0 : Int) + q7).toNat zM).1).2).1) && ((y9.1.2.2.1 == ((((a2.getD ((0 : Int) + q7).toNat zM).1).2).2).1) && ((y9.1.2.2.2 == ((((a2.getD ((0 : Int) + q7).toNat zM).1).2).2).2) && ((y9.2.1 == ((a2.getD ((0 : Int) + q7).toNat zM).2).1) && (y9.2.2 == ((a2.getD ((0 : Int) + q7).toNat zM).2).2))))))))) && (decide (q7 > (0 : Int))))) || true) then (bif ((!((!(bif (!y8) then true else (!((y9.1.1 == ((a2.getD ((0 : Int) + q7).toNat zM).1).1) && ((y9.1.2.1 == (((a2.getD ((0 : Int) + q7).toNat zM).1).2).1) && ((y9.1.2.2.1 == ((((a2.getD ((0 : Int) + q7).toNat zM).1).2).2).1) && ((y9.1.2.2.2 == ((((a2.getD ((0 : Int) + q7).toNat zM).1).2).2).2) && ((y9.2.1 == ((a2.getD ((0 : Int) + q7).toNat zM).2).1) && (y9.2.2 == ((a2.getD ((0 : Int) + q7).toNat zM).2).2))))))))) && (decide (q7 > (0 : Int))))) || (decide (0 ≤ q7) && decide (q7 < (a2.length : Int)))) then (bif ((!((!(bif (!y8) then true else (!((y9.1.1 == ((a2.getD ((0 : Int) + q7).toNat zM).1).1) && ((y9.1.2.1 == (((a2.getD ((0 : Int) + q7).toNat zM).1).2).1) && ((y9.1.2.2.1 == ((((a2.getD ((0 : Int) + q7).toNat zM).1).2).2).1) && ((y9.1.2.2.2 == ((((a2.getD ((0 : Int) + q7).toNat zM).1).2).2).2) && ((y9.2.1 == ((a2.getD ((0 : Int) + q7).toNat zM).2).1) && (y9.2.2 == ((a2.getD ((0 : Int) + q7).toNat zM).2).2))))))))) && (decide (q7 > (0 : Int))))) || true) then ((bif ((!(bif (!y8) then true else (!((y9.1.1 == ((a2.getD ((0 : Int) + q7).toNat zM).1).1) && ((y9.1.2.1 == (((a2.getD ((0 : Int) + q7).toNat zM).1).2).1) && ((y9.1.2.2.1 == ((((a2.getD ((0 : Int) + q7).toNat zM).1).2).2).1) && ((y9.1.2.2.2 == ((((a2.getD ((0 : Int) + q7).toNat zM).1).2).2).2) && ((y9.2.1 == ((a2.getD ((0 : Int) + q7).toNat zM).2).1) && (y9.2.2 == ((a2.getD ((0 : Int) + q7).toNat zM).2).2))))))))) && (decide (q7 > (0 : Int)))) then f304G K ((((a2.getD ((0 : Int) + (w (q7 - (1 : Int)))).toNat zM).1).1, (((a2.getD ((0 : Int) + (w (q7 - (1 : Int)))).toNat zM).1).2).1, ((((a2.getD ((0 : Int) + (w (q7 - (1 : Int)))).toNat zM).1).2).2)), ((a2.getD ((0 : Int) + (w (q7 - (1 : Int)))).toNat zM).2)) ((((a2.getD ((0 : Int) + q7).toNat zM).1).1, (((a2.getD ((0 : Int) + q7).toNat zM).1).2).1, ((((a2.getD ((0 : Int) + q7).toNat zM).1).2).2)), ((a2.getD ((0 : Int) + q7).toNat zM).2)) else some false)).bind fun y10 => (bif ((!((!(bif (!y8) then true else (!((y9.1.1 == ((a2.getD ((0 : Int) + q7).toNat zM).1).1) && ((y9.1.2.1 == (((a2.getD ((0 : Int) + q7).toNat zM).1).2).1) && ((y9.1.2.2.1 == ((((a2.getD ((0 : Int) + q7).toNat zM).1).2).2).1) && ((y9.1.2.2.2 == ((((a2.getD ((0 : Int) + q7).toNat zM).1).2).2).2) && ((y9.2.1 == ((a2.getD ((0 : Int) + q7).toNat zM).2).1) && (y9.2.2 == ((a2.getD ((0 : Int) + q7).toNat zM).2).2))))))))) && (decide (q7 > (0 : Int))))) || true) then (bif ((!(!(bif (!y8) then true else (!((y9.1.1 == ((a2.getD ((0 : Int) + q7).toNat zM).1).1) && ((y9.1.2.1 == (((a2.getD ((0 : Int) + q7).toNat zM).1).2).1) && ((y9.1.2.2.1 == ((((a2.getD ((0 : Int) + q7).toNat zM).1).2).2).1) && ((y9.1.2.2.2 == ((((a2.getD ((0 : Int) + q7).toNat zM).1).2).2).2) && ((y9.2.1 == ((a2.getD ((0 : Int) + q7).toNat zM).2).1) && (y9.2.2 == ((a2.getD ((0 : Int) + q7).toNat zM).2).2)))))))))) || true) then (bif (bif (bif (!y8) then true else (!((y9.1.1 == ((a2.getD ((0 : Int) + q7).toNat zM).1).1) && ((y9.1.2.1 == (((a2.getD ((0 : Int) + q7).toNat zM).1).2).1) && ((y9.1.2.2.1 == ((((a2.getD ((0 : Int) + q7).toNat zM).1).2).2).1) && ((y9.1.2.2.2 == ((((a2.getD ((0 : Int) + q7).toNat zM).1).2).2).2) && ((y9.2.1 == ((a2.getD ((0 : Int) + q7).toNat zM).2).1) && (y9.2.2 == ((a2.getD ((0 : Int) + q7).toNat zM).2).2)))))))) then true else (bif (decide (q7 > (0 : Int))) then (!y10) else false)) then some false else L6 (w (q7 + (1 : Int)))) else none) else none) else none) else none) else none) else none) else none) else none) else none) else none) else none) else none) else none) else none) else none) else none) else none) else none) else none) else none) else none) else none) else none) else none) else none) else (f306G K).bind fun y11 => (f305G K a2 y11).bind fun y12 => (bif (!y12) then some false else I23 q7 y1 y12 (0 : Int)))
def f219_l6 (K : Nat) (a0 : Int) (a1 : Int × Int × Int) (a2 : List tM) (y1 : Int) (n : Nat) (q7 : Int) : Option Bool :=
  iter (X := Int) (fun L x => (fun L6 => f219_b6 K a0 a1 a2 y1 (fun c0 c1 c2 d0 => f219_l23 K a0 a1 a2 c0 c1 c2 K d0) L6 x) (fun v0 => L v0)) n q7
def f219_fr6 (a0 : Int) (a1 : Int × Int × Int) (a2 : List tM) (y1 q7 : Int) : Fr := ⟨93, [(0, .v false [.int .i64 a0]), (1, .v true [.int .i64 a1.1, .int .i64 a1.2.1, .int .i64 a1.2.2]), (2, .v false [.row 0]), (4, .v false [.box 0 0]), (6, .v false [.bool false]), (7, .v false [.int .i64 q7]), (18, .v false [.bool (bif (y1 != (0 : Int)) then true else (decide ((a2.length : Int) > (768 : Int))))])], [some ⟨true, [.int .i64 a1.1, .int .i64 a1.2.1, .int .i64 a1.2.2]⟩], [some ⟨95, sM, a2, .ro⟩]⟩
def f219_k6 (K : Nat) (a0 : Int) (a1 : Int × Int × Int) (a2 : List tM) (lr : LR Bool) : Ex → Fr → Option Bool :=
  contC (f219E K) 1 lr f219C [1, 1, 0, 1, 0] (finK (f219E K) Tryz.f219 [(.ro, sI), (.ro, sL), (.ro, (.list 95 sM))] [.bool] (a0, a1, a2, ()))
def f219_k23 (K : Nat) (a0 : Int) (a1 : Int × Int × Int) (a2 : List tM) (lr : LR Bool) : Ex → Fr → Option Bool :=
  contC (f219E K) 1 lr f219C [1, 1, 1, 1, 0, 1, 0] (finK (f219E K) Tryz.f219 [(.ro, sI), (.ro, sL), (.ro, (.list 95 sM))] [.bool] (a0, a1, a2, ()))
def f219_k25 (K : Nat) (a0 : Int) (a1 : Int × Int × Int) (a2 : List tM) (q7 y1 : Int) (y12 : Bool) (F23 : Fr → Option Bool) (bq24 : Int) (lr : LR Bool) : Ex → Fr → Option Bool :=
  contC (f219E K) 1 lr (selC f219C [1, 1, 1, 1, 0, 1, 0, 0]) [1, 0, 0, 1, 0] (loopK 1 (f219_fr23 a0 a1 a2 q7 y1 y12 bq24) F23 (f219_k23 K a0 a1 a2 lr))
def f219_g (K : Nat) (a0 : Int) (a1 : Int × Int × Int) (a2 : List tM) (I6 : Int → Int → Option Bool) : Option Bool :=
  (f229G K a0 a1).bind fun y1 => (bif ((!(!(y1 != (0 : Int)))) || true) then (bif ((!(!(y1 != (0 : Int)))) || true) then (bif ((!(!(y1 != (0 : Int)))) || true) then (bif (bif (y1 != (0 : Int)) then true else (decide ((a2.length : Int) > (768 : Int)))) then some false else I6 y1 (0 : Int)) else none) else none) else none)
def f219G (K : Nat) (a0 : Int) (a1 : Int × Int × Int) (a2 : List tM) : Option Bool :=
  f219_g K a0 a1 a2 (fun c0 d0 => f219_l6 K a0 a1 a2 c0 K d0)
def f219M (K : Nat) : Mdl := ⟨[(.ro, sI), (.ro, sL), (.ro, (.list 95 sM))], [.bool], fun x => f219G K x.1 x.2.1 x.2.2.1⟩
def f225E (K : Nat) : Env := ⟨[(229, f229M K)], tys, eqs, mts, K, [0, 1, 2, 4, 6, 7, 16], [], []⟩
def f225G (K : Nat) (a0 : Int) (a1 : Int × Int × Int) (a2 : Bool) : Option Int :=
  (f229G K a0 a1).bind fun y1 => (bif ((!(y1 == (0 : Int))) || true) then (bif ((!(y1 == (0 : Int))) || true) then (bif (bif (y1 == (0 : Int)) then (!a2) else false) then some (2 : Int) else some y1) else none) else none)
def f225M (K : Nat) : Mdl := ⟨[(.ro, sI), (.ro, sL), (.ro, .bool)], [sI], fun x => f225G K x.1 x.2.1 x.2.2.1⟩
def f220C : Code := codeOf Tryz.f220
def f220E (K : Nat) : Env := ⟨[], tys, eqs, mts, K, [0, 1, 2, 6, 7, 14], [], []⟩
def f220_b2 (K : Nat) (a0 a2 : Int) (L2 : Int → Int → Option Int) (q3 q4 : Int) : Option Int :=
  (bif ((!(decide (q3 > (0 : Int)))) || true) then (bif ((!(decide (q3 > (0 : Int)))) || true) then (bif ((!(decide (q3 > (0 : Int)))) || true) then (bif (bif (decide (q3 > (0 : Int))) then (decide (q4 ≤ a2)) else false) then L2 (w (q3 - (1 : Int))) (w (q4 * a0)) else some q4) else none) else none) else none)
def f220_l2 (K : Nat) (a0 a2 : Int) (n : Nat) (q3 q4 : Int) : Option Int :=
  iter (X := Int × Int) (fun L x => (fun L2 => f220_b2 K a0 a2 L2 x.1 x.2) (fun v0 v1 => L (v0, v1))) n (q3, q4)
def f220_fr2 (a0 a2 q3 q4 : Int) : Fr := ⟨21, [(0, .v false [.int .i64 a0]), (1, .v false [.int .i64 q3]), (2, .v false [.int .i64 a2]), (6, .v false [.int .i64 (0 : Int)]), (7, .v false [.int .i64 q4])], [], []⟩
def f220_k2 (K : Nat) (a0 a1 a2 : Int) (lr : LR Int) : Ex → Fr → Option Int :=
  contC (f220E K) 0 lr f220C [1, 1, 0, 0] (finK (f220E K) Tryz.f220 [(.ro, sI), (.ro, sI), (.ro, sI)] [sI] (a0, a1, a2, ()))
def f220_g (K : Nat) (a0 a1 a2 : Int) (I2 : Int → Int → Option Int) : Option Int :=
  I2 a1 (1 : Int)
def f220G (K : Nat) (a0 a1 a2 : Int) : Option Int :=
  f220_g K a0 a1 a2 (fun d0 d1 => f220_l2 K a0 a2 K d0 d1)
def f220M (K : Nat) : Mdl := ⟨[(.ro, sI), (.ro, sI), (.ro, sI)], [sI], fun x => f220G K x.1 x.2.1 x.2.2.1⟩
def f218E (K : Nat) : Env := ⟨[(141, f141M K), (220, f220M K), (225, f225M K)], tys, eqs, mts, K, [0, 1, 2, 3, 4, 6, 10, 11, 33], [], []⟩
def f218G (K : Nat) (a0 : Int) (a1 : Int × Int × Int) (a2 : Bool) (a3 a4 : Int) : Option Int :=
  (bif ((!a2) || true) then ((bif a2 then f141G K a3 (1 : Int) (10 : Int) else some false)).bind fun y1 => (f225G K a0 a1 (bif a2 then y1 else false)).bind fun y2 => (bif ((!(y2 == (0 : Int))) || true) then (bif ((!(y2 == (0 : Int))) || true) then (bif ((!(y2 == (0 : Int))) || true) then (bif ((!(y2 == (0 : Int))) || true) then (bif ((!(y2 == (0 : Int))) || true) then (bif ((!(y2 == (0 : Int))) || true) then (bif ((!(y2 == (0 : Int))) || true) then ((bif (y2 == (0 : Int)) then f220G K a3 (w (a1.1 * a1.2.2)) a4 else some (0 : Int))).bind fun y3 => (bif ((!(y2 == (0 : Int))) || true) then (bif ((!(y2 == (0 : Int))) || true) then (bif (bif (y2 == (0 : Int)) then (decide (y3 > a4)) else false) then some (3 : Int) else some y2) else none) else none) else none) else none) else none) else none) else none) else none) else none) else none)
def f218M (K : Nat) : Mdl := ⟨[(.ro, sI), (.ro, sL), (.ro, .bool), (.ro, sI), (.ro, sI)], [sI], fun x => f218G K x.1 x.2.1 x.2.2.1 x.2.2.2.1 x.2.2.2.2.1⟩
def f127E (K : Nat) : Env := ⟨[(153, f153M K)], tys, eqs, mts, K, [0, 1, 2, 3, 4], [], []⟩
def f127G (K : Nat) (a0 : Int × Int × Int) (a1 : Int × Int) : Option Int :=
  (f153G K a0 a1).bind fun y1 => some (w ((w (y1.1 * a0.2.2)) + y1.2))
def f127M (K : Nat) : Mdl := ⟨[(.ro, sL), (.ro, sV)], [sI], fun x => f127G K x.1 x.2.1⟩
def f284E (K : Nat) : Env := ⟨[(340, f340M K), (341, f341M K)], tys, eqs, mts, K, [0, 1, 2, 3, 4], [], []⟩
def f284G (K : Nat) (a0 : tA × Int × Int) (a1 : Int × Int) : Option tV :=
  (f341G K a0.1 a1).bind fun y1 => (f340G K y1 a0.2).bind fun y2 => some y2
def f284M (K : Nat) : Mdl := ⟨[(.ro, sM), (.ro, sV)], [sV], fun x => f284G K x.1 x.2.1⟩
def f185E (K : Nat) : Env := ⟨[(153, f153M K), (284, f284M K)], tys, eqs, mts, K, [0, 1, 2, 3, 4, 5, 6], [], []⟩
def f185G (K : Nat) (a0 : Int × Int × Int) (a1 : tA × Int × Int) (a2 : Int × Int) : Option tV :=
  (f284G K a1 a2).bind fun y1 => (f153G K a0 y1).bind fun y2 => some y2
def f185M (K : Nat) : Mdl := ⟨[(.ro, sL), (.ro, sM), (.ro, sV)], [sV], fun x => f185G K x.1 x.2.1 x.2.2.1⟩
def f221C : Code := codeOf Tryz.f221
def f221E (K : Nat) : Env := ⟨[(127, f127M K), (185, f185M K), (232, f232M K)], tys, eqs, mts, K, [0, 1, 2, 3, 4, 5, 6, 7, 8, 9, 18, 24, 37], [], []⟩
def f221_b20 (K : Nat) (a0 : Int × Int × Int) (a1 : tA × Int × Int) (q17 q18 : Int) (q19 : List Bool) (y1 : List tV) (L16 L20 : Int → Int → (List Bool) → Option Int) (q21 q22 : Int) (q23 : List Bool) : Option Int :=
  (f127G K a0 (q21, q22)).bind fun y24 => (bif (decide (0 ≤ y24) && decide (y24 < (q23.length : Int))) then (bif (!(q23.getD ((0 : Int) + y24).toNat false)) then (f127G K a0 (q21, q22)).bind fun y25 => (bif (decide (0 ≤ y25) && decide (y25 < (q23.length : Int))) then (f185G K a0 a1 (q21, q22)).bind fun y26 => L20 y26.1 y26.2 (q23.set ((0 : Int) + y25).toNat true) else none) else L16 (w (q17 + (1 : Int))) (w (q18 + (1 : Int))) q23) else none)
def f221_l20 (K : Nat) (a0 : Int × Int × Int) (a1 : tA × Int × Int) (q17 q18 : Int) (q19 : List Bool) (y1 : List tV) (L16 : Int → Int → (List Bool) → Option Int) (n : Nat) (q21 q22 : Int) (q23 : List Bool) : Option Int :=
  iter (X := Int × Int × List Bool) (fun L x => (fun L20 => f221_b20 K a0 a1 q17 q18 q19 y1 L16 L20 x.1 x.2.1 x.2.2) (fun v0 v1 v2 => L (v0, v1, v2))) n (q21, q22, q23)
def f221_fr20 (a0 : Int × Int × Int) (a1 : tA × Int × Int) (q17 q18 : Int) (q19 : List Bool) (y1 : List tV) (q21 q22 : Int) (q23 : List Bool) : Fr := ⟨48, [(0, .v true [.int .i64 a0.1, .int .i64 a0.2.1, .int .i64 a0.2.2]), (1, .v true [.int .i64 a1.1.1, .int .i64 a1.1.2.1, .int .i64 a1.1.2.2.1, .int .i64 a1.1.2.2.2, .int .i64 a1.2.1, .int .i64 a1.2.2]), (2, .v false [.box 0 0]), (3, .v false [.box 1 0]), (4, .v false [.int .i64 (0 : Int)]), (5, .v false [.row 0]), (6, .v false [.row 1]), (7, .v false [.int .i64 (w (q18 + (1 : Int)))]), (8, .v false [.int .i64 q17]), (9, .v false [.box 2 0]), (18, .v false [.bool (decide (q17 < (y1.length : Int)))]), (24, .v false [.bool (q19.getD ((0 : Int) + q17).toNat false)])], [some ⟨true, [.int .i64 a0.1, .int .i64 a0.2.1, .int .i64 a0.2.2]⟩, some ⟨true, [.int .i64 a1.1.1, .int .i64 a1.1.2.1, .int .i64 a1.1.2.2.1, .int .i64 a1.1.2.2.2, .int .i64 a1.2.1, .int .i64 a1.2.2]⟩, some ⟨true, [.int .i64 q21, .int .i64 q22]⟩], [some ⟨79, sV, y1, .own⟩, some ⟨4, .bool, q23, .own⟩]⟩
def f221_b16 (K : Nat) (a0 : Int × Int × Int) (a1 : tA × Int × Int) (y1 : List tV) (I20 : Int → Int → (List Bool) → Int → Int → (List Bool) → Option Int) (L16 : Int → Int → (List Bool) → Option Int) (q17 q18 : Int) (q19 : List Bool) : Option Int :=
  (bif (decide (q17 < (y1.length : Int))) then (bif (decide (0 ≤ q17) && decide (q17 < (q19.length : Int))) then (bif (q19.getD ((0 : Int) + q17).toNat false) then L16 (w (q17 + (1 : Int))) q18 q19 else (bif (decide (0 ≤ q17) && decide (q17 < (y1.length : Int))) then I20 q17 q18 q19 ((y1.getD ((0 : Int) + q17).toNat ((0 : Int), (0 : Int))).1) ((y1.getD ((0 : Int) + q17).toNat ((0 : Int), (0 : Int))).2) q19 else none)) else none) else some q18)
def f221_l16 (K : Nat) (a0 : Int × Int × Int) (a1 : tA × Int × Int) (y1 : List tV) (n : Nat) (q17 q18 : Int) (q19 : List Bool) : Option Int :=
  iter (X := Int × Int × List Bool) (fun L x => (fun L16 => f221_b16 K a0 a1 y1 (fun c0 c1 c2 d0 d1 d2 => f221_l20 K a0 a1 c0 c1 c2 y1 L16 K d0 d1 d2) L16 x.1 x.2.1 x.2.2) (fun v0 v1 v2 => L (v0, v1, v2))) n (q17, q18, q19)
def f221_fr16 (a0 : Int × Int × Int) (a1 : tA × Int × Int) (y1 : List tV) (q17 q18 : Int) (q19 : List Bool) : Fr := ⟨48, [(0, .v true [.int .i64 a0.1, .int .i64 a0.2.1, .int .i64 a0.2.2]), (1, .v true [.int .i64 a1.1.1, .int .i64 a1.1.2.1, .int .i64 a1.1.2.2.1, .int .i64 a1.1.2.2.2, .int .i64 a1.2.1, .int .i64 a1.2.2]), (2, .v false [.box 0 0]), (3, .v false [.box 1 0]), (4, .v false [.int .i64 (0 : Int)]), (5, .v false [.row 0]), (6, .v false [.row 1]), (7, .v false [.int .i64 q18]), (8, .v false [.int .i64 q17])], [some ⟨true, [.int .i64 a0.1, .int .i64 a0.2.1, .int .i64 a0.2.2]⟩, some ⟨true, [.int .i64 a1.1.1, .int .i64 a1.1.2.1, .int .i64 a1.1.2.2.1, .int .i64 a1.1.2.2.2, .int .i64 a1.2.1, .int .i64 a1.2.2]⟩], [some ⟨79, sV, y1, .own⟩, some ⟨4, .bool, q19, .own⟩]⟩
def f221_k16 (K : Nat) (a0 : Int × Int × Int) (a1 : tA × Int × Int) (lr : LR Int) : Ex → Fr → Option Int :=
  contC (f221E K) 0 lr f221C [1, 1, 1, 1, 0, 1, 0] (finK (f221E K) Tryz.f221 [(.ro, sL), (.ro, sM)] [sI] (a0, a1, ()))
def f221_k20 (K : Nat) (a0 : Int × Int × Int) (a1 : tA × Int × Int) (y1 : List tV) (F16 : Fr → Option Int) (bq17 bq18 : Int) (bq19 : List Bool) (lr : LR Int) : Ex → Fr → Option Int :=
  contC (f221E K) 0 lr (selC f221C [1, 1, 1, 1, 0, 1, 0, 0]) [1, 0, 0, 1, 1, 1, 0] (loopK 0 (f221_fr16 a0 a1 y1 bq17 bq18 bq19) F16 (f221_k16 K a0 a1 lr))
def f221_g (K : Nat) (a0 : Int × Int × Int) (a1 : tA × Int × Int) (I16 : (List tV) → Int → Int → (List Bool) → Option Int) : Option Int :=
  (f232G K a0).bind fun y1 => (bif (decide (0 ≤ (y1.length : Int)) && Nat.ble (y1.length : Int).toNat (lim 1) && ((y1.length : Int) == (y1.length : Int))) then I16 y1 (0 : Int) (0 : Int) (List.replicate (y1.length : Int).toNat false) else none)
def f221G (K : Nat) (a0 : Int × Int × Int) (a1 : tA × Int × Int) : Option Int :=
  f221_g K a0 a1 (fun c0 d0 d1 d2 => f221_l16 K a0 a1 c0 K d0 d1 d2)
def f221M (K : Nat) : Mdl := ⟨[(.ro, sL), (.ro, sM)], [sI], fun x => f221G K x.1 x.2.1⟩
def f100C : Code := codeOf Tryz.f100
def f100E (K : Nat) : Env := ⟨[(218, f218M K), (219, f219M K), (220, f220M K), (221, f221M K)], tys, eqs, mts, K, [0, 1, 2, 3, 5, 8, 9, 10, 11, 12, 22, 27], [], []⟩
def f100_b6 (K : Nat) (a0 : Int) (a1 : Int × Int × Int) (a2 : List tM) (a3 y2 : Int) (L6 : Int → Int → Option tV) (q7 q8 : Int) : Option tV :=
  (bif (decide (q8 < (a2.length : Int))) then (bif (decide (0 ≤ q8) && decide (q8 < (a2.length : Int))) then (f221G K a1 ((((a2.getD ((0 : Int) + q8).toNat zM).1).1, (((a2.getD ((0 : Int) + q8).toNat zM).1).2).1, ((((a2.getD ((0 : Int) + q8).toNat zM).1).2).2)), ((a2.getD ((0 : Int) + q8).toNat zM).2))).bind fun y9 => (f220G K a3 y9 (1000000000000 : Int)).bind fun y10 => L6 (w (q7 + y10)) (w (q8 + (1 : Int))) else none) else (bif ((a2.length : Int) != 0) then some ((w (q7.tdiv (a2.length : Int))), (0 : Int)) else none))
def f100_l6 (K : Nat) (a0 : Int) (a1 : Int × Int × Int) (a2 : List tM) (a3 y2 : Int) (n : Nat) (q7 q8 : Int) : Option tV :=
  iter (X := Int × Int) (fun L x => (fun L6 => f100_b6 K a0 a1 a2 a3 y2 L6 x.1 x.2) (fun v0 v1 => L (v0, v1))) n (q7, q8)
def f100_fr6 (a0 : Int) (a1 : Int × Int × Int) (a2 : List tM) (a3 y2 q7 q8 : Int) : Fr := ⟨44, [(0, .v false [.int .i64 a0]), (1, .v true [.int .i64 a1.1, .int .i64 a1.2.1, .int .i64 a1.2.2]), (2, .v false [.row 0]), (3, .v false [.int .i64 a3]), (5, .v false [.box 0 0]), (8, .v false [.int .i64 (0 : Int)]), (9, .v false [.int .i64 (0 : Int)]), (10, .v false [.int .i64 y2]), (11, .v false [.int .i64 q7]), (12, .v false [.int .i64 q8]), (22, .v false [.bool (y2 != (0 : Int))])], [some ⟨true, [.int .i64 a1.1, .int .i64 a1.2.1, .int .i64 a1.2.2]⟩], [some ⟨95, sM, a2, .ro⟩]⟩
def f100_k6 (K : Nat) (a0 : Int) (a1 : Int × Int × Int) (a2 : List tM) (a3 : Int) (lr : LR tV) : Ex → Fr → Option tV :=
  contC (f100E K) 1 lr f100C [1, 1, 1, 1, 0, 1, 0] (finK (f100E K) Tryz.f100 [(.ro, sI), (.ro, sL), (.ro, (.list 95 sM)), (.ro, sI)] [sI, sI] (a0, a1, a2, a3, ()))
def f100_g (K : Nat) (a0 : Int) (a1 : Int × Int × Int) (a2 : List tM) (a3 : Int) (I6 : Int → Int → Int → Option tV) : Option tV :=
  (f219G K a0 a1 a2).bind fun y1 => (f218G K a0 a1 y1 a3 (1000000000000 : Int)).bind fun y2 => (bif (y2 != (0 : Int)) then some ((0 : Int), y2) else I6 y2 (0 : Int) (0 : Int))
def f100G (K : Nat) (a0 : Int) (a1 : Int × Int × Int) (a2 : List tM) (a3 : Int) : Option tV :=
  f100_g K a0 a1 a2 a3 (fun c0 d0 d1 => f100_l6 K a0 a1 a2 a3 c0 K d0 d1)
def f100M (K : Nat) : Mdl := ⟨[(.ro, sI), (.ro, sL), (.ro, (.list 95 sM)), (.ro, sI)], [sI, sI], fun x => f100G K x.1 x.2.1 x.2.2.1 x.2.2.2.1⟩
def f352E (K : Nat) : Env := ⟨[(233, f233M K), (316, f316M K), (365, f365M K)], tys, eqs, mts, K, [0, 1, 4, 5, 8], [(194, f194M K)], []⟩
def f352G (K : Nat) (a0 : (List Int) × Int × Int) (a1 : Int) : Option (tV × Int × Int × Int × Int) :=
  (f316G K a1).bind fun y1 => (bif (!y1) then (f233G K).bind fun y2 => some (a0.2, y2) else (f365G K a1).bind fun y3 => (f194G K a0 (y3.length : Int)).bind fun y4 => (bif (decide (0 ≤ y4.2) && decide (y4.2 < (y3.length : Int))) then some (y4.1, (y3.getD ((0 : Int) + y4.2).toNat zA).1, ((y3.getD ((0 : Int) + y4.2).toNat zA).2).1, (((y3.getD ((0 : Int) + y4.2).toNat zA).2).2)) else none))
def f352M (K : Nat) : PMdl := ⟨5, (.int .u8), sV, [(.ro, sI)], [sA], fun x => f352G K x.1 x.2.1⟩
def f399E (K : Nat) : Env := ⟨[(403, f403M K)], tys, eqs, mts, K, [0, 1, 2, 3], [], []⟩
def f399G (K : Nat) (a0 : Int × Int × Int × Int) : Option tA :=
  (f403G K a0).bind fun y1 => some ((w (y1 * a0.2.2.2)), (w ((w (0 - y1)) * a0.2.1)), (w ((w (0 - y1)) * a0.2.2.1)), (w (y1 * a0.1)))
def f399M (K : Nat) : Mdl := ⟨[(.ro, sA)], [sA], fun x => f399G K x.1⟩
def f354C : Code := codeOf Tryz.f354
def f354E (K : Nat) : Env := ⟨[(351, f351M K), (399, f399M K)], tys, eqs, mts, K, [0, 2, 3, 4, 5, 22, 31], [(194, f194M K)], []⟩
def f354_b10 (K : Nat) (a0 : (List Int) × Int × Int) (L10 : Int → Int → Int → Int → Int → Int → Int → Option (tV × Int × Int × Int × Int)) (q11 q12 q13 q14 q15 q16 q17 : Int) : Option (tV × Int × Int × Int × Int) :=
  (bif (decide (q11 > (0 : Int))) then (f194G K (a0.1, q12, q13) (5 : Int)).bind fun y18 => (f194G K (a0.1, y18.1) (2 : Int)).bind fun y19 => (bif (y19.2 == (0 : Int)) then (f194G K (a0.1, y19.1) (5 : Int)).bind fun y20 => (f351G K ((1 : Int), (0 : Int), (w (y20.2 - (2 : Int))), (1 : Int)) (q14, q15, q16, q17)).bind fun y21 => (f399G K ((1 : Int), (0 : Int), (w (y20.2 - (2 : Int))), (1 : Int))).bind fun y22 => (f351G K y21 y22).bind fun y23 => L10 (w (q11 - (1 : Int))) y20.1.1 y20.1.2 y23.1 y23.2.1 y23.2.2.1 y23.2.2.2 else (f351G K ((1 : Int), (w (y18.2 - (2 : Int))), (0 : Int), (1 : Int)) (q14, q15, q16, q17)).bind fun y24 => (f399G K ((1 : Int), (w (y18.2 - (2 : Int))), (0 : Int), (1 : Int))).bind fun y25 => (f351G K y24 y25).bind fun y26 => L10 (w (q11 - (1 : Int))) y19.1.1 y19.1.2 y26.1 y26.2.1 y26.2.2.1 y26.2.2.2) else some ((q12, q13), q14, q15, q16, q17))
def f354_l10 (K : Nat) (a0 : (List Int) × Int × Int) (n : Nat) (q11 q12 q13 q14 q15 q16 q17 : Int) : Option (tV × Int × Int × Int × Int) :=
  iter (X := Int × Int × Int × Int × Int × Int × Int) (fun L x => (fun L10 => f354_b10 K a0 L10 x.1 x.2.1 x.2.2.1 x.2.2.2.1 x.2.2.2.2.1 x.2.2.2.2.2.1 x.2.2.2.2.2.2) (fun v0 v1 v2 v3 v4 v5 v6 => L (v0, v1, v2, v3, v4, v5, v6))) n (q11, q12, q13, q14, q15, q16, q17)
def f354_fr10 (a0 : (List Int) × Int × Int) (q11 q12 q13 q14 q15 q16 q17 : Int) : Fr := ⟨43, [(0, .v false [.box 0 0]), (2, .v false [.box 1 0]), (3, .v false [.box 2 0]), (4, .v false [.int .i64 q11])], [some ⟨true, [.row 0, .int .i64 q12, .int .i64 q13]⟩, some ⟨true, [.int .i64 (0 : Int), .int .i64 (0 : Int), .int .i64 (0 : Int), .int .i64 (0 : Int)]⟩, some ⟨true, [.int .i64 q14, .int .i64 q15, .int .i64 q16, .int .i64 q17]⟩], [some ⟨5, (.int .u8), a0.1, .ro⟩]⟩
def f354_k10 (K : Nat) (a0 : (List Int) × Int × Int) (lr : LR (tV × Int × Int × Int × Int)) : Ex → Fr → Option (tV × Int × Int × Int × Int) :=
  contC (f354E K) 1 lr f354C [1, 1, 0, 1, 0] (finP (f354E K) Tryz.f354 sV [sA])
def f354_g (K : Nat) (a0 : (List Int) × Int × Int) (I10 : Int → Int → Int → Int → Int → Int → Int → Option (tV × Int × Int × Int × Int)) : Option (tV × Int × Int × Int × Int) :=
  (f194G K a0 (8 : Int)).bind fun y1 => (bif (decide (0 ≤ y1.2) && decide (y1.2 < ([((1 : Int), (0 : Int), (0 : Int), (1 : Int)), ((-1 : Int), (0 : Int), (0 : Int), (-1 : Int)), ((0 : Int), (-1 : Int), (1 : Int), (0 : Int)), ((0 : Int), (-1 : Int), (1 : Int), (1 : Int)), ((-1 : Int), (-1 : Int), (1 : Int), (0 : Int)), ((1 : Int), (0 : Int), (0 : Int), (-1 : Int)), ((0 : Int), (1 : Int), (1 : Int), (0 : Int)), ((1 : Int), (1 : Int), (0 : Int), (-1 : Int))].length : Int))) then (f194G K (a0.1, y1.1) (3 : Int)).bind fun y2 => I10 y2.2 y2.1.1 y2.1.2 (([((1 : Int), (0 : Int), (0 : Int), (1 : Int)), ((-1 : Int), (0 : Int), (0 : Int), (-1 : Int)), ((0 : Int), (-1 : Int), (1 : Int), (0 : Int)), ((0 : Int), (-1 : Int), (1 : Int), (1 : Int)), ((-1 : Int), (-1 : Int), (1 : Int), (0 : Int)), ((1 : Int), (0 : Int), (0 : Int), (-1 : Int)), ((0 : Int), (1 : Int), (1 : Int), (0 : Int)), ((1 : Int), (1 : Int), (0 : Int), (-1 : Int))].getD ((0 : Int) + y1.2).toNat zA).1) ((([((1 : Int), (0 : Int), (0 : Int), (1 : Int)), ((-1 : Int), (0 : Int), (0 : Int), (-1 : Int)), ((0 : Int), (-1 : Int), (1 : Int), (0 : Int)), ((0 : Int), (-1 : Int), (1 : Int), (1 : Int)), ((-1 : Int), (-1 : Int), (1 : Int), (0 : Int)), ((1 : Int), (0 : Int), (0 : Int), (-1 : Int)), ((0 : Int), (1 : Int), (1 : Int), (0 : Int)), ((1 : Int), (1 : Int), (0 : Int), (-1 : Int))].getD ((0 : Int) + y1.2).toNat zA).2).1) (((([((1 : Int), (0 : Int), (0 : Int), (1 : Int)), ((-1 : Int), (0 : Int), (0 : Int), (-1 : Int)), ((0 : Int), (-1 : Int), (1 : Int), (0 : Int)), ((0 : Int), (-1 : Int), (1 : Int), (1 : Int)), ((-1 : Int), (-1 : Int), (1 : Int), (0 : Int)), ((1 : Int), (0 : Int), (0 : Int), (-1 : Int)), ((0 : Int), (1 : Int), (1 : Int), (0 : Int)), ((1 : Int), (1 : Int), (0 : Int), (-1 : Int))].getD ((0 : Int) + y1.2).toNat zA).2).2).1) (((([((1 : Int), (0 : Int), (0 : Int), (1 : Int)), ((-1 : Int), (0 : Int), (0 : Int), (-1 : Int)), ((0 : Int), (-1 : Int), (1 : Int), (0 : Int)), ((0 : Int), (-1 : Int), (1 : Int), (1 : Int)), ((-1 : Int), (-1 : Int), (1 : Int), (0 : Int)), ((1 : Int), (0 : Int), (0 : Int), (-1 : Int)), ((0 : Int), (1 : Int), (1 : Int), (0 : Int)), ((1 : Int), (1 : Int), (0 : Int), (-1 : Int))].getD ((0 : Int) + y1.2).toNat zA).2).2).2) else none)
def f354G (K : Nat) (a0 : (List Int) × Int × Int) : Option (tV × Int × Int × Int × Int) :=
  f354_g K a0 (fun d0 d1 d2 d3 d4 d5 d6 => f354_l10 K a0 K d0 d1 d2 d3 d4 d5 d6)
def f354M (K : Nat) : PMdl := ⟨5, (.int .u8), sV, [], [sA], fun x => f354G K x.1⟩
def f353C : Code := codeOf Tryz.f353
def f353E (K : Nat) : Env := ⟨[(233, f233M K), (351, f351M K)], tys, eqs, mts, K, [0, 2, 3, 4, 7, 14, 30, 31, 37], [(194, f194M K), (196, f196M K), (354, f354M K)], []⟩
def f353_b8 (K : Nat) (a0 : (List Int) × Int × Int) (y1 : tV × Int) (L8 : Int → Int → Int → Int → Int → Int → Int → Option (tV × Int × Int × Int × Int)) (q9 q10 q11 q12 q13 q14 q15 : Int) : Option (tV × Int × Int × Int × Int) :=
  (bif (decide (q9 > (0 : Int))) then (f194G K (a0.1, q10, q11) (5 : Int)).bind fun y16 => (bif (decide (0 ≤ y16.2) && decide (y16.2 < ([((1 : Int), (1 : Int), (0 : Int), (1 : Int)), ((1 : Int), (0 : Int), (1 : Int), (1 : Int)), ((1 : Int), (-2 : Int), (0 : Int), (1 : Int)), ((0 : Int), (1 : Int), (1 : Int), (0 : Int)), ((-1 : Int), (0 : Int), (0 : Int), (1 : Int))].length : Int))) then (f351G K (q12, q13, q14, q15) (([((1 : Int), (1 : Int), (0 : Int), (1 : Int)), ((1 : Int), (0 : Int), (1 : Int), (1 : Int)), ((1 : Int), (-2 : Int), (0 : Int), (1 : Int)), ((0 : Int), (1 : Int), (1 : Int), (0 : Int)), ((-1 : Int), (0 : Int), (0 : Int), (1 : Int))].getD ((0 : Int) + y16.2).toNat zA).1, (([((1 : Int), (1 : Int), (0 : Int), (1 : Int)), ((1 : Int), (0 : Int), (1 : Int), (1 : Int)), ((1 : Int), (-2 : Int), (0 : Int), (1 : Int)), ((0 : Int), (1 : Int), (1 : Int), (0 : Int)), ((-1 : Int), (0 : Int), (0 : Int), (1 : Int))].getD ((0 : Int) + y16.2).toNat zA).2).1, ((([((1 : Int), (1 : Int), (0 : Int), (1 : Int)), ((1 : Int), (0 : Int), (1 : Int), (1 : Int)), ((1 : Int), (-2 : Int), (0 : Int), (1 : Int)), ((0 : Int), (1 : Int), (1 : Int), (0 : Int)), ((-1 : Int), (0 : Int), (0 : Int), (1 : Int))].getD ((0 : Int) + y16.2).toNat zA).2).2))).bind fun y17 => L8 (w (q9 - (1 : Int))) y16.1.1 y16.1.2 y17.1 y17.2.1 y17.2.2.1 y17.2.2.2 else none) else (f194G K (a0.1, q10, q11) (20 : Int)).bind fun y18 => (bif (y18.2 == (0 : Int)) then some (y18.1, (w (q12 + (1 : Int))), q13, q14, q15) else (bif (y18.2 == (1 : Int)) then (f196G K (a0.1, y18.1) [(999 : Int), (1000 : Int), (1001 : Int)]).bind fun y19 => some (y19.1, (1 : Int), y19.2, (0 : Int), (1 : Int)) else some (y18.1, q12, q13, q14, q15))))
def f353_l8 (K : Nat) (a0 : (List Int) × Int × Int) (y1 : tV × Int) (n : Nat) (q9 q10 q11 q12 q13 q14 q15 : Int) : Option (tV × Int × Int × Int × Int) :=
  iter (X := Int × Int × Int × Int × Int × Int × Int) (fun L x => (fun L8 => f353_b8 K a0 y1 L8 x.1 x.2.1 x.2.2.1 x.2.2.2.1 x.2.2.2.2.1 x.2.2.2.2.2.1 x.2.2.2.2.2.2) (fun v0 v1 v2 v3 v4 v5 v6 => L (v0, v1, v2, v3, v4, v5, v6))) n (q9, q10, q11, q12, q13, q14, q15)
def f353_fr8 (a0 : (List Int) × Int × Int) (y1 : tV × Int) (q9 q10 q11 q12 q13 q14 q15 : Int) : Fr := ⟨44, [(0, .v false [.box 0 0]), (2, .v false [.box 1 0]), (3, .v false [.box 2 0]), (4, .v false [.int .i64 q9]), (7, .v false [.bool (decide (y1.2 > (0 : Int)))])], [some ⟨true, [.row 0, .int .i64 q10, .int .i64 q11]⟩, some ⟨true, [.int .i64 (0 : Int), .int .i64 (0 : Int), .int .i64 (0 : Int), .int .i64 (0 : Int)]⟩, some ⟨true, [.int .i64 q12, .int .i64 q13, .int .i64 q14, .int .i64 q15]⟩], [some ⟨5, (.int .u8), a0.1, .ro⟩]⟩
def f353_k8 (K : Nat) (a0 : (List Int) × Int × Int) (lr : LR (tV × Int × Int × Int × Int)) : Ex → Fr → Option (tV × Int × Int × Int × Int) :=
  contC (f353E K) 1 lr f353C [1, 1, 1, 0, 1, 0] (finP (f353E K) Tryz.f353 sV [sA])
def f353_g (K : Nat) (a0 : (List Int) × Int × Int) (I8 : (tV × Int) → Int → Int → Int → Int → Int → Int → Int → Option (tV × Int × Int × Int × Int)) : Option (tV × Int × Int × Int × Int) :=
  (f194G K a0 (3 : Int)).bind fun y1 => (bif (decide (y1.2 > (0 : Int))) then (f354G K (a0.1, y1.1)).bind fun y2 => some y2 else (f233G K).bind fun y3 => (f194G K (a0.1, y1.1) (5 : Int)).bind fun y4 => I8 y1 y4.2 y4.1.1 y4.1.2 y3.1 y3.2.1 y3.2.2.1 y3.2.2.2)
def f353G (K : Nat) (a0 : (List Int) × Int × Int) : Option (tV × Int × Int × Int × Int) :=
  f353_g K a0 (fun c0 d0 d1 d2 d3 d4 d5 d6 => f353_l8 K a0 c0 K d0 d1 d2 d3 d4 d5 d6)
def f353M (K : Nat) : PMdl := ⟨5, (.int .u8), sV, [], [sA], fun x => f353G K x.1⟩
def f291E (K : Nat) : Env := ⟨[], tys, eqs, mts, K, [0, 2, 3, 6], [(194, f194M K), (196, f196M K)], []⟩
def f291G (K : Nat) (a0 : (List Int) × Int × Int) : Option (tV × Int × Int) :=
  (f194G K a0 (40 : Int)).bind fun y1 => (bif (y1.2 == (0 : Int)) then (f196G K (a0.1, y1.1) [(-1000 : Int), (1000 : Int), (1001 : Int), (0 : Int)]).bind fun y2 => (f196G K (a0.1, y2.1) [(-1001 : Int), (1000 : Int), (0 : Int)]).bind fun y3 => some (y3.1, y2.2, y3.2) else (f196G K (a0.1, y1.1) [(4 : Int), (9 : Int), (30 : Int)]).bind fun y4 => (f194G K (a0.1, y4.1) (w ((w ((2 : Int) * y4.2)) + (1 : Int)))).bind fun y5 => (f194G K (a0.1, y5.1) (w ((w ((2 : Int) * y4.2)) + (1 : Int)))).bind fun y6 => some (y6.1, (w (y5.2 - y4.2)), (w (y6.2 - y4.2))))
def f291M (K : Nat) : PMdl := ⟨5, (.int .u8), sV, [], [sV], fun x => f291G K x.1⟩
def f308E (K : Nat) : Env := ⟨[(233, f233M K)], tys, eqs, mts, K, [0, 2, 3, 9, 10, 14, 17, 23], [(194, f194M K), (291, f291M K), (352, f352M K), (353, f353M K), (354, f354M K)], []⟩
def f308G (K : Nat) (a0 : (List Int) × Int × Int) : Option (tV × tA × Int × Int) :=
  (f194G K a0 (2 : Int)).bind fun y1 => (f352G K (a0.1, y1.1) y1.2).bind fun y2 => (f194G K (a0.1, y2.1) (12 : Int)).bind fun y3 => (bif (y3.2 == (0 : Int)) then (f353G K (a0.1, y3.1)).bind fun y4 => (f194G K (a0.1, y4.1) (5 : Int)).bind fun y5 => (bif (y5.2 == (0 : Int)) then some (y5.1, y4.2, (0 : Int), (0 : Int)) else (f291G K (a0.1, y5.1)).bind fun y6 => some (y6.1, y4.2, y6.2)) else (bif (y3.2 == (1 : Int)) then (f233G K).bind fun y7 => (f194G K (a0.1, y3.1) (5 : Int)).bind fun y8 => (bif (y8.2 == (0 : Int)) then some (y8.1, y7, (0 : Int), (0 : Int)) else (f291G K (a0.1, y8.1)).bind fun y9 => some (y9.1, y7, y9.2)) else (bif (y3.2 == (2 : Int)) then (f354G K (a0.1, y3.1)).bind fun y10 => (f194G K (a0.1, y10.1) (5 : Int)).bind fun y11 => (bif (y11.2 == (0 : Int)) then some (y11.1, y10.2, (0 : Int), (0 : Int)) else (f291G K (a0.1, y11.1)).bind fun y12 => some (y12.1, y10.2, y12.2)) else (f194G K (a0.1, y3.1) (5 : Int)).bind fun y13 => (bif (y13.2 == (0 : Int)) then some (y13.1, y2.2, (0 : Int), (0 : Int)) else (f291G K (a0.1, y13.1)).bind fun y14 => some (y14.1, y2.2, y14.2)))))
def f308M (K : Nat) : PMdl := ⟨5, (.int .u8), sV, [], [sM], fun x => f308G K x.1⟩
def f222E (K : Nat) : Env := ⟨[], tys, eqs, mts, K, [0, 2, 3, 4, 5, 6, 7, 17], [(194, f194M K), (227, f227M K), (308, f308M K), (309, f309M K)], [(174, f174M K)]⟩
def f222G (K : Nat) (a0 : List Int) : Option (Int × tL × tA × Int × Int) :=
  (f174G K a0).bind fun y1 => (f227G K (a0, y1)).bind fun y2 => (f194G K (a0, y2.1) (4 : Int)).bind fun y3 => (bif (y3.2 == (0 : Int)) then (f308G K (a0, y3.1)).bind fun y4 => some (y2.2.1, y2.2.2, y4.2) else (f309G K (a0, y3.1) y2.2.1 y2.2.2).bind fun y5 => some (y2.2.1, y2.2.2, y5.2))
def f222M (K : Nat) : Mdl := ⟨[(.ro, (.list 5 (.int .u8)))], [sI, sL, sM], fun x => f222G K x.1⟩
def f101E (K : Nat) : Env := ⟨[(222, f222M K)], tys, eqs, mts, K, [0, 2, 3, 4], [], []⟩
def f101G (K : Nat) (a0 : List Int) : Option (Int × tL × tA × Int × Int) :=
  (f222G K a0).bind fun y1 => some y1
def f101M (K : Nat) : Mdl := ⟨[(.ro, (.list 5 (.int .u8)))], [sI, sL, sM], fun x => f101G K x.1⟩
def f287E (K : Nat) : Env := ⟨[(146, f146M K)], tys, eqs, mts, K, [0, 2], [], []⟩
def f287G (K : Nat) (a0 : Int) : Option Bool :=
  (f146G K a0 (-1000 : Int) (1000 : Int)).bind fun y1 => some y1
def f287M (K : Nat) : Mdl := ⟨[(.ro, sI)], [.bool], fun x => f287G K x.1⟩
def f189E (K : Nat) : Env := ⟨[(287, f287M K)], tys, eqs, mts, K, [0, 1, 2], [], []⟩
def f189G (K : Nat) (a0 : Int × Int) : Option Bool :=
  (f287G K a0.1).bind fun y1 => (bif ((!y1) || true) then (bif ((!y1) || true) then ((bif y1 then f287G K a0.2 else some false)).bind fun y2 => some (bif y1 then y2 else false) else none) else none)
def f189M (K : Nat) : Mdl := ⟨[(.ro, sV)], [.bool], fun x => f189G K x.1⟩
def f224E (K : Nat) : Env := ⟨[(189, f189M K), (310, f310M K), (311, f311M K)], tys, eqs, mts, K, [0, 1, 2, 4, 5, 6], [], []⟩
def f224G (K : Nat) (a0 : Int) (a1 : Int × Int × Int) (a2 : tA × Int × Int) : Option Bool :=
  (f189G K a2.2).bind fun y1 => (bif ((!y1) || true) then (bif ((!y1) || true) then ((bif y1 then f311G K a0 a1 else some [])).bind fun y2 => (bif ((!y1) || true) then (bif ((!y1) || true) then ((bif y1 then f310G K (bif y1 then y2 else []) a2.1 else some false)).bind fun y3 => some (bif y1 then y3 else false) else none) else none) else none) else none)
def f224M (K : Nat) : Mdl := ⟨[(.ro, sI), (.ro, sL), (.ro, sM)], [.bool], fun x => f224G K x.1 x.2.1 x.2.2.1⟩
def f102E (K : Nat) : Env := ⟨[(217, f217M K), (223, f223M K), (224, f224M K)], tys, eqs, mts, K, [0, 1, 2, 4, 5, 6, 7, 8, 13, 19], [], []⟩
def f102G (K : Nat) (a0 : Int) (a1 : Int × Int × Int) (a2 : tA × Int × Int) : Option tV :=
  (f223G K a0 a1).bind fun y1 => (bif (y1 != (0 : Int)) then some ((0 : Int), y1) else (f224G K a0 a1 a2).bind fun y2 => (bif (!y2) then some ((0 : Int), (2 : Int)) else (f217G K a1 a2).bind fun y3 => some (y3, (0 : Int))))
def f102M (K : Nat) : Mdl := ⟨[(.ro, sI), (.ro, sL), (.ro, sM)], [sI, sI], fun x => f102G K x.1 x.2.1 x.2.2.1⟩
def f103E (K : Nat) : Env := ⟨[(221, f221M K), (225, f225M K), (226, f226M K)], tys, eqs, mts, K, [0, 1, 2, 4, 5, 6, 7, 8, 17], [], []⟩
def f103G (K : Nat) (a0 : Int) (a1 : Int × Int × Int) (a2 : tA × Int × Int) : Option tV :=
  (f226G K a0 a1 a2).bind fun y1 => (f225G K a0 a1 y1).bind fun y2 => (bif (y2 != (0 : Int)) then some ((0 : Int), y2) else (f221G K a1 a2).bind fun y3 => some (y3, (0 : Int)))
def f103M (K : Nat) : Mdl := ⟨[(.ro, sI), (.ro, sL), (.ro, sM)], [sI, sI], fun x => f103G K x.1 x.2.1 x.2.2.1⟩
def f104E (K : Nat) : Env := ⟨[], tys, eqs, mts, K, [0, 2, 3], [(227, f227M K)], [(174, f174M K)]⟩
def f104G (K : Nat) (a0 : List Int) : Option tA :=
  (f174G K a0).bind fun y1 => (f227G K (a0, y1)).bind fun y2 => some y2.2
def f104M (K : Nat) : Mdl := ⟨[(.ro, (.list 5 (.int .u8)))], [sI, sL], fun x => f104G K x.1⟩
def f228C : Code := codeOf Tryz.f228
def f228E (K : Nat) : Env := ⟨[(207, f207M K), (311, f311M K)], tys, eqs, mts, K, [0, 1, 3, 4, 5, 7, 9, 13, 14, 15, 16, 20, 21, 22, 23], [], []⟩
def f228_b12 (K : Nat) (a0 : Int) (a1 : Int × Int × Int) (q9 : Int) (y1 : List tA) (y11 : List tV) (L8 L12 : Int → (List tM) → Option (List tM)) (q13 : Int) (q14 : List tM) : Option (List tM) :=
  (bif (decide (q13 < (y11.length : Int))) then (bif (decide (0 ≤ q13) && decide (q13 < (y11.length : Int))) then (bif (Nat.ble (q14.length + [(((y1.getD ((0 : Int) + q9).toNat zA).1, ((y1.getD ((0 : Int) + q9).toNat zA).2).1, (((y1.getD ((0 : Int) + q9).toNat zA).2).2)), (y11.getD ((0 : Int) + q13).toNat ((0 : Int), (0 : Int))))].length) (lim 48)) then L12 (w (q13 + (1 : Int))) (q14 ++ [(((y1.getD ((0 : Int) + q9).toNat zA).1, ((y1.getD ((0 : Int) + q9).toNat zA).2).1, (((y1.getD ((0 : Int) + q9).toNat zA).2).2)), (y11.getD ((0 : Int) + q13).toNat ((0 : Int), (0 : Int))))]) else none) else none) else L8 (w (q9 + (1 : Int))) q14)
def f228_l12 (K : Nat) (a0 : Int) (a1 : Int × Int × Int) (q9 : Int) (y1 : List tA) (y11 : List tV) (L8 : Int → (List tM) → Option (List tM)) (n : Nat) (q13 : Int) (q14 : List tM) : Option (List tM) :=
  iter (X := Int × List tM) (fun L x => (fun L12 => f228_b12 K a0 a1 q9 y1 y11 L8 L12 x.1 x.2) (fun v0 v1 => L (v0, v1))) n (q13, q14)
def f228_fr12 (a0 : Int) (a1 : Int × Int × Int) (q9 : Int) (y1 : List tA) (y11 : List tV) (q13 : Int) (q14 : List tM) : Fr := ⟨35, [(0, .v false [.int .i64 a0]), (1, .v true [.int .i64 a1.1, .int .i64 a1.2.1, .int .i64 a1.2.2]), (3, .v false [.box 0 0]), (4, .v false [.row 0]), (5, .v false [.row 1]), (7, .v false [.box 1 0]), (13, .v false [.row 2]), (14, .v false [.int .i64 (y1.length : Int)]), (15, .v false [.int .i64 q9]), (16, .v false [.bool (decide (q9 < (y1.length : Int)))]), (20, .v false [.row 3]), (21, .v false [.int .i64 (y11.length : Int)]), (22, .v false [.int .i64 q13])], [some ⟨true, [.int .i64 a1.1, .int .i64 a1.2.1, .int .i64 a1.2.2]⟩, some ⟨true, [.int .i64 ((y1.getD ((0 : Int) + q9).toNat zA).1), .int .i64 (((y1.getD ((0 : Int) + q9).toNat zA).2).1), .int .i64 ((((y1.getD ((0 : Int) + q9).toNat zA).2).2).1), .int .i64 ((((y1.getD ((0 : Int) + q9).toNat zA).2).2).2)]⟩], [some ⟨95, sM, [], .own⟩, some ⟨95, sM, q14, .own⟩, some ⟨93, sA, y1, .own⟩, some ⟨79, sV, y11, .own⟩]⟩
def f228_b8 (K : Nat) (a0 : Int) (a1 : Int × Int × Int) (y1 : List tA) (I12 : Int → (List tV) → Int → (List tM) → Option (List tM)) (L8 : Int → (List tM) → Option (List tM)) (q9 : Int) (q10 : List tM) : Option (List tM) :=
  (bif (decide (q9 < (y1.length : Int))) then (bif (decide (0 ≤ q9) && decide (q9 < (y1.length : Int))) then (f207G K a1).bind fun y11 => I12 q9 y11 (0 : Int) q10 else none) else some q10)
def f228_l8 (K : Nat) (a0 : Int) (a1 : Int × Int × Int) (y1 : List tA) (n : Nat) (q9 : Int) (q10 : List tM) : Option (List tM) :=
  iter (X := Int × List tM) (fun L x => (fun L8 => f228_b8 K a0 a1 y1 (fun c0 c1 d0 d1 => f228_l12 K a0 a1 c0 y1 c1 L8 K d0 d1) L8 x.1 x.2) (fun v0 v1 => L (v0, v1))) n (q9, q10)
def f228_fr8 (a0 : Int) (a1 : Int × Int × Int) (y1 : List tA) (q9 : Int) (q10 : List tM) : Fr := ⟨35, [(0, .v false [.int .i64 a0]), (1, .v true [.int .i64 a1.1, .int .i64 a1.2.1, .int .i64 a1.2.2]), (3, .v false [.box 0 0]), (4, .v false [.row 0]), (5, .v false [.row 1]), (13, .v false [.row 2]), (14, .v false [.int .i64 (y1.length : Int)]), (15, .v false [.int .i64 q9])], [some ⟨true, [.int .i64 a1.1, .int .i64 a1.2.1, .int .i64 a1.2.2]⟩], [some ⟨95, sM, [], .own⟩, some ⟨95, sM, q10, .own⟩, some ⟨93, sA, y1, .own⟩]⟩
def f228_k8 (K : Nat) (a0 : Int) (a1 : Int × Int × Int) (lr : LR (List tM)) : Ex → Fr → Option (List tM) :=
  contC (f228E K) 0 lr f228C [1, 1, 0, 1, 0] (finK (f228E K) Tryz.f228 [(.ro, sI), (.ro, sL)] [(.list 95 sM)] (a0, a1, ()))
def f228_k12 (K : Nat) (a0 : Int) (a1 : Int × Int × Int) (y1 : List tA) (F8 : Fr → Option (List tM)) (bq9 : Int) (bq10 : List tM) (lr : LR (List tM)) : Ex → Fr → Option (List tM) :=
  contC (f228E K) 0 lr (selC f228C [1, 1, 0, 1, 0, 0]) [1, 1, 0, 0, 1, 1, 0] (loopK 0 (f228_fr8 a0 a1 y1 bq9 bq10) F8 (f228_k8 K a0 a1 lr))
def f228_g (K : Nat) (a0 : Int) (a1 : Int × Int × Int) (I8 : (List tA) → Int → (List tM) → Option (List tM)) : Option (List tM) :=
  (f311G K a0 a1).bind fun y1 => I8 y1 (0 : Int) []
def f228G (K : Nat) (a0 : Int) (a1 : Int × Int × Int) : Option (List tM) :=
  f228_g K a0 a1 (fun c0 d0 d1 => f228_l8 K a0 a1 c0 K d0 d1)
def f228M (K : Nat) : Mdl := ⟨[(.ro, sI), (.ro, sL)], [(.list 95 sM)], fun x => f228G K x.1 x.2.1⟩
end
end Go.Proofs.YtfccacobkcglcaaGreat.X
