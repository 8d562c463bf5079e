/- Functions of the program as plain Lean functions, and that the program does what they say. Printed by gen.py. -/
import Derived.Test.YtfccacobkcglcaaGreatQyXLoop
import Derived.Test.YtfccacobkcglcaaGreatQyXLib
import Derived.Test.YtfccacobkcglcaaGreatProg
namespace Go.Proofs.YtfccacobkcglcaaGreat.X
open Go
set_option maxRecDepth 100000
set_option linter.unusedVariables false
abbrev tM : Type := ((Int × Int × Int × Int) × Int × Int)
abbrev tA : Type := (Int × Int × Int × Int)
abbrev tL : Type := (Int × Int × Int)
abbrev tV : Type := (Int × Int)
abbrev sM : Sh := (.cons (.cons (.int .i64) (.cons (.int .i64) (.cons (.int .i64) (.int .i64)))) (.cons (.int .i64) (.int .i64)))
abbrev sA : Sh := (.cons (.int .i64) (.cons (.int .i64) (.cons (.int .i64) (.int .i64))))
abbrev sL : Sh := (.cons (.int .i64) (.cons (.int .i64) (.int .i64)))
abbrev sV : Sh := (.cons (.int .i64) (.int .i64))
abbrev sI : Sh := (.int .i64)
abbrev zM : tM := (((0 : Int), ((0 : Int), ((0 : Int), (0 : Int)))), ((0 : Int), (0 : Int)))
abbrev zA : tA := ((0 : Int), ((0 : Int), ((0 : Int), (0 : Int))))
noncomputable section
def tys : List (Nat × Ty) := [(2, .sc sI), (3, .sc sI), (4, .sc .bool), (5, .sc (.int .u8)), (9, .sc .str), (26, .sl 149 (.cons sV sI) 24), (31, .st sL [(0, 1), (1, 1), (2, 1)]), (32, .sl 2 sI 8), (34, .st (.cons sI (.cons sL (.list 2 sI))) [(0, 1), (1, 3), (4, 1)]), (52, .sl 9 .str 16), (64, .sl 84 (.list 79 sV) 24), (68, .sl 95 sM 48), (79, .st sV [(0, 1), (1, 1)]), (82, .sl 5 (.int .u8) 1), (84, .sl 79 sV 16), (93, .st sA [(0, 1), (1, 1), (2, 1), (3, 1)]), (95, .st sM [(0, 4), (4, 2)]), (149, .st (.cons sV sI) [(0, 2), (2, 1)]), (252, .sl 26 (.list 149 (.cons sV sI)) 24), (269, .sc (.int .u64)), (289, .st (.cons (.list 5 (.int .u8)) sV) [(0, 1), (1, 1), (2, 1)]), (313, .sl 93 sA 32)]
def eqs : List (Nat × List Sh) := [(31, [sI, sI, sI]), (79, [sI, sI]), (93, [sI, sI, sI, sI]), (95, [sI, sI, sI, sI, sI, sI]), (149, [sI, sI, sI])]
def mts : List (Nat × MTy) := [(300, ⟨95, 4, sM, .bool⟩)]
theorem tab_ok : tabB Tryz.prog tys eqs mts = true := by kernel_rfl
theorem mixed_ok : Tryz.prog.follows .mixedOrders = true := by kernel_rfl
def f55E (K : Nat) : Env := ⟨[], tys, eqs, mts, K, [0, 2], [], []⟩
def f55G (K : Nat) (a0 : List Int) : Option Bool :=
  some (decide ((a0.length : Int) > (4096 : Int)))
def f55M (K : Nat) : Mdl := ⟨[(.ro, (.list 5 (.int .u8)))], [.bool], fun x => f55G K x.1⟩
def f174C : Code := codeOf Tryz.f174
def f174E (K : Nat) : Env := ⟨[], tys, eqs, mts, K, [0, 2, 3, 4, 15], [], []⟩
def f174_b2 (K : Nat) (a0 : List Int) (L2 : Int → Int → Option tV) (q3 q4 : Int) : Option tV :=
  (bif ((!(decide (q3 < (a0.length : Int)))) || true) then (bif ((!(decide (q3 < (a0.length : Int)))) || true) then (bif (bif (decide (q3 < (a0.length : Int))) then (decide (q3 < (64 : Int))) else false) then (bif (decide (0 ≤ q3) && decide (q3 < (a0.length : Int))) then L2 (w (q3 + (1 : Int))) ((w ((w (q4 * (73 : Int))) + (w (a0.getD ((0 : Int) + q3).toNat (0 : Int))))).tmod (2147483647 : Int)) else none) else some ((0 : Int), q4)) else none) else none)
def f174_l2 (K : Nat) (a0 : List Int) (n : Nat) (q3 q4 : Int) : Option tV :=
  iter (X := Int × Int) (fun L x => (fun L2 => f174_b2 K a0 L2 x.1 x.2) (fun v0 v1 => L (v0, v1))) n (q3, q4)
def f174_fr2 (a0 : List Int) (q3 q4 : Int) : Fr := ⟨34, [(0, .v false [.row 0]), (2, .v false [.und]), (3, .v false [.box 0 0]), (4, .v false [.int .i64 q3])], [some ⟨true, [.row 0, .int .i64 (0 : Int), .int .i64 q4]⟩], [some ⟨5, (.int .u8), a0, .ro⟩]⟩
def f174_k2 (K : Nat) (a0 : List Int) (lr : LR tV) : Ex → Fr → Option tV :=
  contC (f174E K) 1 lr f174C [1, 1, 0, 1, 0] (finN Tryz.f174 sV)
def f174_g (K : Nat) (a0 : List Int) (I2 : Int → Int → Option tV) : Option tV :=
  I2 (0 : Int) (93001 : Int)
def f174G (K : Nat) (a0 : List Int) : Option tV :=
  f174_g K a0 (fun d0 d1 => f174_l2 K a0 K d0 d1)
def f174M (K : Nat) : NMdl := ⟨5, (.int .u8), sV, [], fun x => f174G K x.1⟩
def f194E (K : Nat) : Env := ⟨[], tys, eqs, mts, K, [0, 1, 4, 5, 7, 32, 62], [], []⟩
def f194G (K : Nat) (a0 : (List Int) × Int × Int) (a1 : Int) : Option (tV × Int) :=
  (bif (decide (a1 ≤ (1 : Int))) then some (a0.2, (0 : Int)) else (bif (decide (a0.2.1 < (a0.1.length : Int))) then (bif (decide (0 ≤ a0.2.1) && decide (a0.2.1 < (a0.1.length : Int))) then (bif ((!(decide (a1 ≤ (256 : Int)))) || true) then (bif ((!(decide (a1 ≤ (256 : Int)))) || true) then (bif ((!(decide (a1 ≤ (256 : Int)))) || true) then (bif ((!(decide (a1 ≤ (256 : Int)))) || true) then (bif ((!(decide (a1 ≤ (256 : Int)))) || true) then (bif ((!(decide (a1 ≤ (256 : Int)))) || true) then (bif (bif (decide (a1 ≤ (256 : Int))) then (((w (a0.2.1 + (1 : Int))).tmod (2 : Int)) == (0 : Int)) else false) then (bif (decide (0 ≤ (w ((w (a0.2.1 + (1 : Int))) - (1 : Int)))) && decide ((w ((w (a0.2.1 + (1 : Int))) - (1 : Int))) < (a0.1.length : Int))) then (bif (a1 != 0) then some (((w (a0.2.1 + (1 : Int))), ((w ((w (a0.2.2 * (48271 : Int))) + (67 : Int))).tmod (2147483647 : Int))), ((w (a0.1.getD ((0 : Int) + (w ((w (a0.2.1 + (1 : Int))) - (1 : Int)))).toNat (0 : Int))).tmod a1)) else none) else none) else (bif (a1 != 0) then some (((w (a0.2.1 + (1 : Int))), ((w ((w (a0.2.2 * (48271 : Int))) + (67 : Int))).tmod (2147483647 : Int))), ((w ((w (((w ((w (a0.2.2 * (48271 : Int))) + (67 : Int))).tmod (2147483647 : Int)).tdiv (37 : Int))) + (w (a0.1.getD ((0 : Int) + a0.2.1).toNat (0 : Int))))).tmod a1)) else none)) else none) else none) else none) else none) else none) else none) else none) else (bif (a1 != 0) then some ((a0.2.1, ((w ((w (a0.2.2 * (48271 : Int))) + (67 : Int))).tmod (2147483647 : Int))), ((w (((w ((w (a0.2.2 * (48271 : Int))) + (67 : Int))).tmod (2147483647 : Int)).tdiv (37 : Int))).tmod a1)) else none)))
def f194M (K : Nat) : PMdl := ⟨5, (.int .u8), sV, [(.ro, sI)], [sI], fun x => f194G K x.1 x.2.1⟩
def f142E (K : Nat) : Env := ⟨[], tys, eqs, mts, K, [0], [], []⟩
def f142G (K : Nat) : Option (List ByteArray) :=
  some [(bs [112, 49]), (bs [112, 50]), (bs [112, 109]), (bs [112, 103]), (bs [99, 109]), (bs [112, 109, 109]), (bs [112, 109, 103]), (bs [112, 103, 103]), (bs [99, 109, 109]), (bs [112, 52]), (bs [112, 52, 109]), (bs [112, 52, 103]), (bs [112, 51]), (bs [112, 51, 109, 49]), (bs [112, 51, 49, 109]), (bs [112, 54]), (bs [112, 54, 109])]
def f142M (K : Nat) : Mdl := ⟨[], [(.list 9 .str)], fun x => f142G K ⟩
def f198E (K : Nat) : Env := ⟨[(142, f142M K)], tys, eqs, mts, K, [0, 2, 5], [(194, f194M K)], []⟩
def f198G (K : Nat) (a0 : (List Int) × Int × Int) : Option (tV × ByteArray) :=
  (f194G K a0 (24 : Int)).bind fun y1 => (bif (y1.2 == (0 : Int)) then (f194G K (a0.1, y1.1) (4 : Int)).bind fun y2 => (bif (decide (0 ≤ y2.2) && decide (y2.2 < ([ByteArray.empty, (bs [112, 53]), (bs [80, 52]), (bs [112, 52, 32])].length : Int))) then some (y2.1, ([ByteArray.empty, (bs [112, 53]), (bs [80, 52]), (bs [112, 52, 32])].getD ((0 : Int) + y2.2).toNat ByteArray.empty)) else none) else (f142G K).bind fun y3 => (f194G K (a0.1, y1.1) (17 : Int)).bind fun y4 => (bif (decide (0 ≤ y4.2) && decide (y4.2 < (y3.length : Int))) then some (y4.1, (y3.getD ((0 : Int) + y4.2).toNat ByteArray.empty)) else none))
def f198M (K : Nat) : PMdl := ⟨5, (.int .u8), sV, [], [.str], fun x => f198G K x.1⟩
def f196E (K : Nat) : Env := ⟨[], tys, eqs, mts, K, [0, 1, 4], [(194, f194M K)], []⟩
def f196G (K : Nat) (a0 : (List Int) × Int × Int) (a1 : List Int) : Option (tV × Int) :=
  (f194G K a0 (a1.length : Int)).bind fun y1 => (bif (decide (0 ≤ y1.2) && decide (y1.2 < (a1.length : Int))) then some (y1.1, (a1.getD ((0 : Int) + y1.2).toNat (0 : Int))) else none)
def f196M (K : Nat) : PMdl := ⟨5, (.int .u8), sV, [(.ro, (.list 2 sI))], [sI], fun x => f196G K x.1 x.2.1⟩
def f182E (K : Nat) : Env := ⟨[], tys, eqs, mts, K, [0, 1, 3, 4, 7], [(194, f194M K), (196, f196M K)], []⟩
def f182G (K : Nat) (a0 : (List Int) × Int × Int) (a1 : Int × Int × Int) : Option (tV × Int × Int) :=
  (f194G K a0 (24 : Int)).bind fun y1 => (bif (y1.2 == (0 : Int)) then (f196G K (a0.1, y1.1) [(-1 : Int), a1.1, (0 : Int)]).bind fun y2 => (f196G K (a0.1, y2.1) [(0 : Int), a1.2.2]).bind fun y3 => some (y3.1, y2.2, y3.2) else (f194G K (a0.1, y1.1) a1.1).bind fun y4 => (f194G K (a0.1, y4.1) a1.2.2).bind fun y5 => some (y5.1, y4.2, y5.2))
def f182M (K : Nat) : PMdl := ⟨5, (.int .u8), sV, [(.ro, sL)], [sV], fun x => f182G K x.1 x.2.1⟩
def f197C : Code := codeOf Tryz.f197
def f197E (K : Nat) : Env := ⟨[], tys, eqs, mts, K, [0, 1, 3, 4, 5, 6, 11, 30, 31, 43], [(182, f182M K), (194, f194M K), (196, f196M K)], []⟩
def f197_b6 (K : Nat) (a0 : (List Int) × Int × Int) (a1 : Int × Int × Int) (L6 : Int → Int → Int → (List (tV × Int)) → Option (tV × List (tV × Int))) (q7 q8 q9 : Int) (q10 : List (tV × Int)) : Option (tV × List (tV × Int)) :=
  (bif (decide (q7 > (0 : Int))) then (f194G K (a0.1, q8, q9) a1.1).bind fun y11 => (f194G K (a0.1, y11.1) a1.2.2).bind fun y12 => (f194G K (a0.1, y12.1) (4 : Int)).bind fun y13 => (bif (Nat.ble (q10.length + [((y11.2, y12.2), y13.2)].length) (lim 24)) then L6 (w (q7 - (1 : Int))) y13.1.1 y13.1.2 (q10 ++ [((y11.2, y12.2), y13.2)]) else none) else (f194G K (a0.1, q8, q9) (40 : Int)).bind fun y14 => (bif (y14.2 == (0 : Int)) then (f182G K (a0.1, y14.1) a1).bind fun y15 => (f196G K (a0.1, y15.1) [(-1 : Int), (9 : Int), (10 : Int)]).bind fun y16 => (bif (Nat.ble (q10.length + [(y15.2, y16.2)].length) (lim 24)) then some (y16.1, (q10 ++ [(y15.2, y16.2)])) else none) else (bif (y14.2 == (1 : Int)) then (f194G K (a0.1, y14.1) (2 : Int)).bind fun y17 => (bif (decide (0 ≤ (w ((100 : Int) + y17.2))) && Nat.ble (w ((100 : Int) + y17.2)).toNat (lim 24) && ((w ((100 : Int) + y17.2)) == (w ((100 : Int) + y17.2)))) then some (y17.1, (List.replicate (w ((100 : Int) + y17.2)).toNat (((0 : Int), (0 : Int)), (0 : Int)))) else none) else some (y14.1, q10))))
def f197_l6 (K : Nat) (a0 : (List Int) × Int × Int) (a1 : Int × Int × Int) (n : Nat) (q7 q8 q9 : Int) (q10 : List (tV × Int)) : Option (tV × List (tV × Int)) :=
  iter (X := Int × Int × Int × List (tV × Int)) (fun L x => (fun L6 => f197_b6 K a0 a1 L6 x.1 x.2.1 x.2.2.1 x.2.2.2) (fun v0 v1 v2 v3 => L (v0, v1, v2, v3))) n (q7, q8, q9, q10)
def f197_fr6 (a0 : (List Int) × Int × Int) (a1 : Int × Int × Int) (q7 q8 q9 : Int) (q10 : List (tV × Int)) : Fr := ⟨50, [(0, .v false [.box 0 0]), (1, .v true [.int .i64 a1.1, .int .i64 a1.2.1, .int .i64 a1.2.2]), (3, .v false [.box 1 0]), (4, .v false [.row 1]), (5, .v false [.row 2]), (6, .v false [.int .i64 q7])], [some ⟨true, [.row 0, .int .i64 q8, .int .i64 q9]⟩, some ⟨true, [.int .i64 a1.1, .int .i64 a1.2.1, .int .i64 a1.2.2]⟩], [some ⟨5, (.int .u8), a0.1, .ro⟩, some ⟨149, (.cons sV sI), [], .own⟩, some ⟨149, (.cons sV sI), q10, .own⟩]⟩
def f197_k6 (K : Nat) (a0 : (List Int) × Int × Int) (a1 : Int × Int × Int) (lr : LR (tV × List (tV × Int))) : Ex → Fr → Option (tV × List (tV × Int)) :=
  contC (f197E K) 1 lr f197C [1, 1, 0, 1, 0] (finP (f197E K) Tryz.f197 sV [(.list 149 (.cons sV sI))])
def f197_g (K : Nat) (a0 : (List Int) × Int × Int) (a1 : Int × Int × Int) (I6 : Int → Int → Int → (List (tV × Int)) → Option (tV × List (tV × Int))) : Option (tV × List (tV × Int)) :=
  (f194G K a0 (8 : Int)).bind fun y1 => I6 y1.2 y1.1.1 y1.1.2 []
def f197G (K : Nat) (a0 : (List Int) × Int × Int) (a1 : Int × Int × Int) : Option (tV × List (tV × Int)) :=
  f197_g K a0 a1 (fun d0 d1 d2 d3 => f197_l6 K a0 a1 K d0 d1 d2 d3)
def f197M (K : Nat) : PMdl := ⟨5, (.int .u8), sV, [(.ro, sL)], [(.list 149 (.cons sV sI))], fun x => f197G K x.1 x.2.1⟩
def f193E (K : Nat) : Env := ⟨[], tys, eqs, mts, K, [0, 2, 3, 4, 5, 6, 14], [(194, f194M K), (196, f196M K), (197, f197M K), (198, f198M K)], []⟩
def f193G (K : Nat) (a0 : (List Int) × Int × Int) : Option (tV × ByteArray × Int × List (tV × Int)) :=
  (f198G K a0).bind fun y1 => (f194G K (a0.1, y1.1) (2 : Int)).bind fun y2 => (f194G K (a0.1, y2.1) (24 : Int)).bind fun y3 => (bif (y3.2 == (0 : Int)) then (f196G K (a0.1, y3.1) [(0 : Int), (4 : Int), (5 : Int)]).bind fun y4 => (f197G K (a0.1, y4.1) ((w ((2 : Int) * (if y4.2 > (1 : Int) then y4.2 else (1 : Int)))), (0 : Int), (w ((2 : Int) * (if y4.2 > (1 : Int) then y4.2 else (1 : Int)))))).bind fun y5 => some (y5.1, y1.2, y4.2, y5.2) else (f197G K (a0.1, y3.1) ((w ((2 : Int) * (if (w ((1 : Int) + y2.2)) > (1 : Int) then (w ((1 : Int) + y2.2)) else (1 : Int)))), (0 : Int), (w ((2 : Int) * (if (w ((1 : Int) + y2.2)) > (1 : Int) then (w ((1 : Int) + y2.2)) else (1 : Int)))))).bind fun y6 => some (y6.1, y1.2, (w ((1 : Int) + y2.2)), y6.2))
def f193M (K : Nat) : PMdl := ⟨5, (.int .u8), sV, [], [.str, sI, (.list 149 (.cons sV sI))], fun x => f193G K x.1⟩
def f72E (K : Nat) : Env := ⟨[], tys, eqs, mts, K, [0, 2, 3, 4], [(193, f193M K)], [(174, f174M K)]⟩
def f72G (K : Nat) (a0 : List Int) : Option (ByteArray × Int × List (tV × Int)) :=
  (f174G K a0).bind fun y1 => (f193G K (a0, y1)).bind fun y2 => some y2.2
def f72M (K : Nat) : Mdl := ⟨[(.ro, (.list 5 (.int .u8)))], [.str, sI, (.list 149 (.cons sV sI))], fun x => f72G K x.1⟩
def f204E (K : Nat) : Env := ⟨[], tys, eqs, mts, K, [0, 1, 4, 5, 6, 7, 8, 9, 10, 11, 12, 13, 14, 15, 16, 32, 33, 35, 39, 44, 50, 55, 61, 68, 75, 81, 85, 91, 98, 102, 108, 114, 118], [], []⟩
def f204G (K : Nat) (a0 : ByteArray) (a1 : Int) : Option (Int × (List tM) × Bool) :=
  (bif (a0 == (bs [112, 49])) then some ((0 : Int), [], true) else (bif (a0 == (bs [112, 50])) then some ((0 : Int), [(((-1 : Int), (0 : Int), (0 : Int), (-1 : Int)), (0 : Int), (0 : Int))], true) else (bif (a0 == (bs [112, 109])) then some ((0 : Int), [(((1 : Int), (0 : Int), (0 : Int), (-1 : Int)), (0 : Int), (0 : Int))], true) else (bif (a0 == (bs [112, 103])) then some ((0 : Int), [(((1 : Int), (0 : Int), (0 : Int), (-1 : Int)), a1, (0 : Int))], true) else (bif (a0 == (bs [99, 109])) then some ((0 : Int), [(((0 : Int), (1 : Int), (1 : Int), (0 : Int)), (0 : Int), (0 : Int))], true) else (bif (a0 == (bs [112, 109, 109])) then some ((0 : Int), [(((1 : Int), (0 : Int), (0 : Int), (-1 : Int)), (0 : Int), (0 : Int)), (((-1 : Int), (0 : Int), (0 : Int), (-1 : Int)), (0 : Int), (0 : Int))], true) else (bif (a0 == (bs [112, 109, 103])) then some ((0 : Int), [(((1 : Int), (0 : Int), (0 : Int), (-1 : Int)), a1, (0 : Int)), (((-1 : Int), (0 : Int), (0 : Int), (-1 : Int)), (0 : Int), (0 : Int))], true) else (bif (a0 == (bs [112, 103, 103])) then some ((0 : Int), [(((1 : Int), (0 : Int), (0 : Int), (-1 : Int)), a1, a1), (((-1 : Int), (0 : Int), (0 : Int), (-1 : Int)), (0 : Int), (0 : Int))], true) else (bif (a0 == (bs [99, 109, 109])) then some ((0 : Int), [(((0 : Int), (1 : Int), (1 : Int), (0 : Int)), (0 : Int), (0 : Int)), (((-1 : Int), (0 : Int), (0 : Int), (-1 : Int)), (0 : Int), (0 : Int))], true) else (bif (a0 == (bs [112, 52])) then some ((0 : Int), [(((0 : Int), (-1 : Int), (1 : Int), (0 : Int)), (0 : Int), (0 : Int))], true) else (bif (a0 == (bs [112, 52, 109])) then some ((0 : Int), [(((0 : Int), (-1 : Int), (1 : Int), (0 : Int)), (0 : Int), (0 : Int)), (((1 : Int), (0 : Int), (0 : Int), (-1 : Int)), (0 : Int), (0 : Int))], true) else (bif (a0 == (bs [112, 52, 103])) then some ((0 : Int), [(((0 : Int), (-1 : Int), (1 : Int), (0 : Int)), (0 : Int), (0 : Int)), (((1 : Int), (0 : Int), (0 : Int), (-1 : Int)), a1, a1)], true) else (bif (a0 == (bs [112, 51])) then some ((1 : Int), [(((-1 : Int), (-1 : Int), (1 : Int), (0 : Int)), (0 : Int), (0 : Int))], true) else (bif (a0 == (bs [112, 51, 109, 49])) then some ((1 : Int), [(((-1 : Int), (-1 : Int), (1 : Int), (0 : Int)), (0 : Int), (0 : Int)), (((0 : Int), (1 : Int), (1 : Int), (0 : Int)), (0 : Int), (0 : Int))], true) else (bif (a0 == (bs [112, 51, 49, 109])) then some ((1 : Int), [(((-1 : Int), (-1 : Int), (1 : Int), (0 : Int)), (0 : Int), (0 : Int)), (((1 : Int), (1 : Int), (0 : Int), (-1 : Int)), (0 : Int), (0 : Int))], true) else (bif (a0 == (bs [112, 54])) then some ((1 : Int), [(((0 : Int), (-1 : Int), (1 : Int), (1 : Int)), (0 : Int), (0 : Int))], true) else (bif (a0 == (bs [112, 54, 109])) then some ((1 : Int), [(((0 : Int), (-1 : Int), (1 : Int), (1 : Int)), (0 : Int), (0 : Int)), (((0 : Int), (1 : Int), (1 : Int), (0 : Int)), (0 : Int), (0 : Int))], true) else some ((0 : Int), [], false))))))))))))))))))
def f204M (K : Nat) : Mdl := ⟨[(.ro, .str), (.ro, sI)], [sI, (.list 95 sM), .bool], fun x => f204G K x.1 x.2.1⟩
def f146E (K : Nat) : Env := ⟨[], tys, eqs, mts, K, [0, 1, 2, 6], [], []⟩
def f146G (K : Nat) (a0 a1 a2 : Int) : Option Bool :=
  (bif ((!(decide (a0 ≥ a1))) || true) then (bif ((!(decide (a0 ≥ a1))) || true) then (bif ((!(decide (a0 ≥ a1))) || true) then some (bif (decide (a0 ≥ a1)) then (decide (a0 ≤ a2)) else false) else none) else none) else none)
def f146M (K : Nat) : Mdl := ⟨[(.ro, sI), (.ro, sI), (.ro, sI)], [.bool], fun x => f146G K x.1 x.2.1 x.2.2.1⟩
def f231E (K : Nat) : Env := ⟨[], tys, eqs, mts, K, [0], [], []⟩
def f231G (K : Nat) : Option tA :=
  some ((1 : Int), (0 : Int), (0 : Int), (1 : Int))
def f231M (K : Nat) : Mdl := ⟨[], [sA], fun x => f231G K ⟩
def f347E (K : Nat) : Env := ⟨[], tys, eqs, mts, K, [0, 1, 2, 3, 4], [], []⟩
def f347G (K : Nat) (a0 a1 : Int × Int × Int × Int) : Option tA :=
  some ((w ((w (a0.1 * a1.1)) + (w (a0.2.1 * a1.2.2.1)))), (w ((w (a0.1 * a1.2.1)) + (w (a0.2.1 * a1.2.2.2)))), (w ((w (a0.2.2.1 * a1.1)) + (w (a0.2.2.2 * a1.2.2.1)))), (w ((w (a0.2.2.1 * a1.2.1)) + (w (a0.2.2.2 * a1.2.2.2)))))
def f347M (K : Nat) : Mdl := ⟨[(.ro, sA), (.ro, sA)], [sA], fun x => f347G K x.1 x.2.1⟩
def f288E (K : Nat) : Env := ⟨[], tys, eqs, mts, K, [0, 1, 2, 3, 4], [], []⟩
def f288G (K : Nat) (a0 : Int × Int × Int × Int) (a1 : Int × Int) : Option tV :=
  some ((w ((w (a0.1 * a1.1)) + (w (a0.2.1 * a1.2)))), (w ((w (a0.2.2.1 * a1.1)) + (w (a0.2.2.2 * a1.2)))))
def f288M (K : Nat) : Mdl := ⟨[(.ro, sA), (.ro, sV)], [sV], fun x => f288G K x.1 x.2.1⟩
def f289E (K : Nat) : Env := ⟨[], tys, eqs, mts, K, [0, 1, 2, 3, 4], [], []⟩
def f289G (K : Nat) (a0 a1 : Int × Int) : Option tV :=
  some ((w (a0.1 + a1.1)), (w (a0.2 + a1.2)))
def f289M (K : Nat) : Mdl := ⟨[(.ro, sV), (.ro, sV)], [sV], fun x => f289G K x.1 x.2.1⟩
def f298E (K : Nat) : Env := ⟨[(288, f288M K), (289, f289M K), (347, f347M K)], tys, eqs, mts, K, [0, 1, 2, 3, 4], [], []⟩
def f298G (K : Nat) (a0 a1 : tA × Int × Int) : Option tM :=
  (f347G K a0.1 a1.1).bind fun y1 => (f288G K a0.1 a1.2).bind fun y2 => (f289G K y2 a0.2).bind fun y3 => some (y1, y3)
def f298M (K : Nat) : Mdl := ⟨[(.ro, sM), (.ro, sM)], [sM], fun x => f298G K x.1 x.2.1⟩
def f260E (K : Nat) : Env := ⟨[], tys, eqs, mts, K, [0, 1, 4], [], []⟩
def f260G (K : Nat) (a0 a1 : Int) : Option Int :=
  (bif (a1 != 0) then (bif (a1 != 0) then some ((w ((a0.tmod a1) + a1)).tmod a1) else none) else none)
def f260M (K : Nat) : Mdl := ⟨[(.ro, sI), (.ro, sI)], [sI], fun x => f260G K x.1 x.2.1⟩
def f161E (K : Nat) : Env := ⟨[(260, f260M K)], tys, eqs, mts, K, [0, 1, 2, 3, 4, 5], [], []⟩
def f161G (K : Nat) (a0 : Int × Int × Int) (a1 : Int × Int) : Option tV :=
  (f260G K a1.2 a0.2.2).bind fun y1 => (bif (a0.2.2 != 0) then (f260G K (w (a1.1 - (w ((w ((w (a1.2 - y1)).tdiv a0.2.2)) * a0.2.1)))) a0.1).bind fun y2 => some (y2, y1) else none)
def f161M (K : Nat) : Mdl := ⟨[(.ro, sL), (.ro, sV)], [sV], fun x => f161G K x.1 x.2.1⟩
def f297E (K : Nat) : Env := ⟨[(161, f161M K)], tys, eqs, mts, K, [0, 1, 2, 3, 4], [], []⟩
def f297G (K : Nat) (a0 : Int × Int × Int) (a1 : tA × Int × Int) : Option tM :=
  (f161G K a0 a1.2).bind fun y1 => some (a1.1, y1)
def f297M (K : Nat) : Mdl := ⟨[(.ro, sL), (.ro, sM)], [sM], fun x => f297G K x.1 x.2.1⟩
def f332C : Code := codeOf Tryz.f332
def f332E (K : Nat) : Env := ⟨[], tys, eqs, mts, K, [0, 1, 4, 5, 7, 8, 9, 19, 28], [], []⟩
def f332_b2 (K : Nat) (a0 a1 : List Int) (L2 : Int → Option Int) (q3 : Int) : Option Int :=
  (bif (decide (q3 < (a0.length : Int))) then (bif (decide (0 ≤ q3) && decide (q3 < (a0.length : Int))) then (bif (decide (0 ≤ q3) && decide (q3 < (a1.length : Int))) then (bif ((a0.getD ((0 : Int) + q3).toNat (0 : Int)) != (a1.getD ((0 : Int) + q3).toNat (0 : Int))) then (bif (decide (0 ≤ q3) && decide (q3 < (a0.length : Int))) then (bif (decide (0 ≤ q3) && decide (q3 < (a1.length : Int))) then (bif (decide ((a0.getD ((0 : Int) + q3).toNat (0 : Int)) < (a1.getD ((0 : Int) + q3).toNat (0 : Int)))) then some (-1 : Int) else some (1 : Int)) else none) else none) else L2 (w (q3 + (1 : Int)))) else none) else none) else some (0 : Int))
def f332_l2 (K : Nat) (a0 a1 : List Int) (n : Nat) (q3 : Int) : Option Int :=
  iter (X := Int) (fun L x => (fun L2 => f332_b2 K a0 a1 L2 x) (fun v0 => L v0)) n q3
def f332_fr2 (a0 a1 : List Int) (q3 : Int) : Fr := ⟨30, [(0, .v false [.row 0]), (1, .v false [.row 1]), (4, .v false [.int .i64 (0 : Int)]), (7, .v false [.int .i64 (a0.length : Int)]), (8, .v false [.int .i64 q3])], [], [some ⟨2, sI, a0, .ro⟩, some ⟨2, sI, a1, .ro⟩]⟩
def f332_k2 (K : Nat) (a0 a1 : List Int) (lr : LR Int) : Ex → Fr → Option Int :=
  contC (f332E K) 2 lr f332C [1, 0, 1, 0] (finK (f332E K) Tryz.f332 [(.ro, (.list 2 sI)), (.ro, (.list 2 sI))] [sI] (a0, a1, ()))
def f332_g (K : Nat) (a0 a1 : List Int) (I2 : Int → Option Int) : Option Int :=
  I2 (0 : Int)
def f332G (K : Nat) (a0 a1 : List Int) : Option Int :=
  f332_g K a0 a1 (fun d0 => f332_l2 K a0 a1 K d0)
def f332M (K : Nat) : Mdl := ⟨[(.ro, (.list 2 sI)), (.ro, (.list 2 sI))], [sI], fun x => f332G K x.1 x.2.1⟩
def f349E (K : Nat) : Env := ⟨[(332, f332M K)], tys, eqs, mts, K, [0, 1, 2, 3, 4], [], []⟩
def f349G (K : Nat) (a0 a1 : Int × Int × Int × Int) : Option Int :=
  (f332G K [a0.1, a0.2.1, a0.2.2.1, a0.2.2.2] [a1.1, a1.2.1, a1.2.2.1, a1.2.2.2]).bind fun y1 => some y1
def f349M (K : Nat) : Mdl := ⟨[(.ro, sA), (.ro, sA)], [sI], fun x => f349G K x.1 x.2.1⟩
def f269E (K : Nat) : Env := ⟨[(332, f332M K)], tys, eqs, mts, K, [0, 1, 2, 3, 4], [], []⟩
def f269G (K : Nat) (a0 a1 : Int × Int) : Option Int :=
  (f332G K [a0.1, a0.2] [a1.1, a1.2]).bind fun y1 => some y1
def f269M (K : Nat) : Mdl := ⟨[(.ro, sV), (.ro, sV)], [sI], fun x => f269G K x.1 x.2.1⟩
def f300E (K : Nat) : Env := ⟨[(269, f269M K), (349, f349M K)], tys, eqs, mts, K, [0, 1, 2, 3, 4, 5, 12], [], []⟩
def f300G (K : Nat) (a0 a1 : tA × Int × Int) : Option Int :=
  (f349G K a0.1 a1.1).bind fun y1 => (bif (y1 != (0 : Int)) then some y1 else (f269G K a0.2 a1.2).bind fun y2 => some y2)
def f300M (K : Nat) : Mdl := ⟨[(.ro, sM), (.ro, sM)], [sI], fun x => f300G K x.1 x.2.1⟩
def f299G (K : Nat) (a0 : List tM) (a1 : tM → tM → Option Int) : Option (List tM) := sortF sM a0 a1
def f299M (K : Nat) : Mdl := ⟨[(.io, (.list 95 sM)), (.ro, (.fn2 sM sM sI))], [], fun x => f299G K x.1 x.2.1⟩
def f205C : Code := codeOf Tryz.f205
def f205E (K : Nat) : Env := ⟨[(231, f231M K), (297, f297M K), (298, f298M K), (299, f299M K), (300, f300M K)], tys, eqs, mts, K, [0, 1, 2, 4, 5, 6, 7, 9, 10, 22, 25, 26, 27, 28, 42], [], []⟩
def f205_b16 (K : Nat) (a0 : Int × Int × Int) (a1 : List tM) (q13 : Int) (q15 : List tM) (L12 : Int → (List (tM × Bool)) → (List tM) → Option (List tM)) (L16 : Int → (List (tM × Bool)) → (List tM) → Option (List tM)) (q17 : Int) (q18 : List (tM × Bool)) (q19 : List tM) : Option (List tM) :=
  (bif (decide (q17 < (a1.length : Int))) then (bif (decide (0 ≤ q17) && decide (q17 < (a1.length : Int))) then (bif (decide (0 ≤ q13) && decide (q13 < (q19.length : Int))) then (f298G K ((((a1.getD ((0 : Int) + q17).toNat zM).1).1, (((a1.getD ((0 : Int) + q17).toNat zM).1).2).1, ((((a1.getD ((0 : Int) + q17).toNat zM).1).2).2)), ((a1.getD ((0 : Int) + q17).toNat zM).2)) ((((q19.getD ((0 : Int) + q13).toNat zM).1).1, (((q19.getD ((0 : Int) + q13).toNat zM).1).2).1, ((((q19.getD ((0 : Int) + q13).toNat zM).1).2).2)), ((q19.getD ((0 : Int) + q13).toNat zM).2))).bind fun y20 => (f297G K a0 y20).bind fun y21 => (bif (!((mfind (eqSh sM) q18 y21).getD false)) then (bif (Nat.ble (q19.length + [y21].length) (lim 48)) then L16 (w (q17 + (1 : Int))) (mput (eqSh sM) q18 y21 true) (q19 ++ [y21]) else none) else L16 (w (q17 + (1 : Int))) q18 q19) else none) else none) else L12 (w (q13 + (1 : Int))) q18 q19)
def f205_l16 (K : Nat) (a0 : Int × Int × Int) (a1 : List tM) (q13 : Int) (q15 : List tM) (L12 : Int → (List (tM × Bool)) → (List tM) → Option (List tM)) (n : Nat) (q17 : Int) (q18 : List (tM × Bool)) (q19 : List tM) : Option (List tM) :=
  iter (X := Int × List (tM × Bool) × List tM) (fun L x => (fun L16 => f205_b16 K a0 a1 q13 q15 L12 L16 x.1 x.2.1 x.2.2) (fun v0 v1 v2 => L (v0, v1, v2))) n (q17, q18, q19)
def f205_fr16 (a0 : Int × Int × Int) (a1 : List tM) (q13 : Int) (q15 : List tM) (q17 : Int) (q18 : List (tM × Bool)) (q19 : List tM) : Fr := ⟨53, [(0, .v true [.int .i64 a0.1, .int .i64 a0.2.1, .int .i64 a0.2.2]), (1, .v false [.row 0]), (2, .v false [.box 0 0]), (4, .v false [.row 1]), (5, .v false [.row 2]), (6, .v false [.mp 1]), (7, .v false [.int .i64 q13]), (22, .v false [.bool (decide (q13 < (q15.length : Int)))]), (25, .v false [.row 0]), (26, .v false [.int .i64 (a1.length : Int)]), (27, .v false [.int .i64 q17])], [some ⟨true, [.int .i64 a0.1, .int .i64 a0.2.1, .int .i64 a0.2.2]⟩, some ⟨true, [.mc sM .bool q18]⟩], [some ⟨95, sM, a1, .ro⟩, some ⟨95, sM, [], .own⟩, some ⟨95, sM, q19, .own⟩]⟩
def f205_b12 (K : Nat) (a0 : Int × Int × Int) (a1 : List tM) (I16 : Int → (List tM) → Int → (List (tM × Bool)) → (List tM) → Option (List tM)) (L12 : Int → (List (tM × Bool)) → (List tM) → Option (List tM)) (q13 : Int) (q14 : List (tM × Bool)) (q15 : List tM) : Option (List tM) :=
  (bif (decide (q13 < (q15.length : Int))) then I16 q13 q15 (0 : Int) q14 q15 else (f299G K q15 (fun z22 z23 => f300G K z22 z23)).bind fun y24 => some y24)
def f205_l12 (K : Nat) (a0 : Int × Int × Int) (a1 : List tM) (n : Nat) (q13 : Int) (q14 : List (tM × Bool)) (q15 : List tM) : Option (List tM) :=
  iter (X := Int × List (tM × Bool) × List tM) (fun L x => (fun L12 => f205_b12 K a0 a1 (fun c0 c1 d0 d1 d2 => f205_l16 K a0 a1 c0 c1 L12 K d0 d1 d2) L12 x.1 x.2.1 x.2.2) (fun v0 v1 v2 => L (v0, v1, v2))) n (q13, q14, q15)
def f205_fr12 (a0 : Int × Int × Int) (a1 : List tM) (q13 : Int) (q14 : List (tM × Bool)) (q15 : List tM) : Fr := ⟨53, [(0, .v true [.int .i64 a0.1, .int .i64 a0.2.1, .int .i64 a0.2.2]), (1, .v false [.row 0]), (2, .v false [.box 0 0]), (4, .v false [.row 1]), (5, .v false [.row 2]), (6, .v false [.mp 1]), (7, .v false [.int .i64 q13])], [some ⟨true, [.int .i64 a0.1, .int .i64 a0.2.1, .int .i64 a0.2.2]⟩, some ⟨true, [.mc sM .bool q14]⟩], [some ⟨95, sM, a1, .ro⟩, some ⟨95, sM, [], .own⟩, some ⟨95, sM, q15, .own⟩]⟩
def f205_k12 (K : Nat) (a0 : Int × Int × Int) (a1 : List tM) (lr : LR (List tM)) : Ex → Fr → Option (List tM) :=
  contC (f205E K) 1 lr f205C [1, 1, 1, 0, 1, 0] (finK (f205E K) Tryz.f205 [(.ro, sL), (.ro, (.list 95 sM))] [(.list 95 sM)] (a0, a1, ()))
def f205_k16 (K : Nat) (a0 : Int × Int × Int) (a1 : List tM) (F12 : Fr → Option (List tM)) (bq13 : Int) (bq14 : List (tM × Bool)) (bq15 : List tM) (lr : LR (List tM)) : Ex → Fr → Option (List tM) :=
  contC (f205E K) 1 lr (selC f205C [1, 1, 1, 0, 1, 0, 0]) [1, 0, 0, 1, 0] (loopK 1 (f205_fr12 a0 a1 bq13 bq14 bq15) F12 (f205_k12 K a0 a1 lr))
def f205_g (K : Nat) (a0 : Int × Int × Int) (a1 : List tM) (I12 : Int → (List (tM × Bool)) → (List tM) → Option (List tM)) : Option (List tM) :=
  (f231G K).bind fun y1 => (bif (decide (0 ≤ (0 : Int)) && decide ((0 : Int) < ([(y1, (0 : Int), (0 : Int))].length : Int))) then I12 (0 : Int) (mput (eqSh sM) [] (((([(y1, (0 : Int), (0 : Int))].getD ((0 : Int) + (0 : Int)).toNat zM).1).1, ((([(y1, (0 : Int), (0 : Int))].getD ((0 : Int) + (0 : Int)).toNat zM).1).2).1, (((([(y1, (0 : Int), (0 : Int))].getD ((0 : Int) + (0 : Int)).toNat zM).1).2).2)), (([(y1, (0 : Int), (0 : Int))].getD ((0 : Int) + (0 : Int)).toNat zM).2)) true) [(y1, (0 : Int), (0 : Int))] else none)
def f205G (K : Nat) (a0 : Int × Int × Int) (a1 : List tM) : Option (List tM) :=
  f205_g K a0 a1 (fun d0 d1 d2 => f205_l12 K a0 a1 K d0 d1 d2)
def f205M (K : Nat) : Mdl := ⟨[(.ro, sL), (.ro, (.list 95 sM))], [(.list 95 sM)], fun x => f205G K x.1 x.2.1⟩
def f86E (K : Nat) : Env := ⟨[(146, f146M K), (204, f204M K), (205, f205M K)], tys, eqs, mts, K, [0, 1, 4, 5, 6, 7, 8, 9, 10, 11, 20, 24], [], []⟩
def f86G (K : Nat) (a0 : ByteArray) (a1 : Int) : Option (Int × tL × (List tM) × Int) :=
  (f204G K a0 a1).bind fun y1 => (bif (!y1.2.2) then some ((0 : Int), ((0 : Int), (0 : Int), (0 : Int)), [], (4 : Int)) else (f146G K a1 (1 : Int) (4 : Int)).bind fun y2 => (bif (!y2) then some ((0 : Int), ((0 : Int), (0 : Int), (0 : Int)), [], (2 : Int)) else (f205G K ((w ((2 : Int) * a1)), (0 : Int), (w ((2 : Int) * a1))) y1.2.1).bind fun y3 => some (y1.1, ((w ((2 : Int) * a1)), (0 : Int), (w ((2 : Int) * a1))), y3, (0 : Int))))
def f86M (K : Nat) : Mdl := ⟨[(.ro, .str), (.ro, sI)], [sI, sL, (.list 95 sM), sI], fun x => f86G K x.1 x.2.1⟩
def f183E (K : Nat) : Env := ⟨[(146, f146M K)], tys, eqs, mts, K, [0, 1, 2, 3, 4], [], []⟩
def f183G (K : Nat) (a0 : Int × Int × Int) (a1 : Int × Int) : Option Bool :=
  (f146G K a1.1 (0 : Int) (w (a0.1 - (1 : Int)))).bind fun y1 => (bif ((!y1) || true) then (bif ((!y1) || true) then (bif ((!y1) || true) then (bif ((!y1) || true) then (bif ((!y1) || true) then ((bif y1 then f146G K a1.2 (0 : Int) (w (a0.2.2 - (1 : Int))) else some false)).bind fun y2 => some (bif y1 then y2 else false) else none) else none) else none) else none) else none)
def f183M (K : Nat) : Mdl := ⟨[(.ro, sL), (.ro, sV)], [.bool], fun x => f183G K x.1 x.2.1⟩
def f206E (K : Nat) : Env := ⟨[(146, f146M K)], tys, eqs, mts, K, [0, 2], [], []⟩
def f206G (K : Nat) (a0 : Int) : Option Bool :=
  (f146G K a0 (0 : Int) (9 : Int)).bind fun y1 => some y1
def f206M (K : Nat) : Mdl := ⟨[(.ro, sI)], [.bool], fun x => f206G K x.1⟩
def f320E (K : Nat) : Env := ⟨[(183, f183M K), (206, f206M K)], tys, eqs, mts, K, [0, 1, 2, 3], [], []⟩
def f320G (K : Nat) (a0 : tV × Int) (a1 : Int × Int × Int) : Option Bool :=
  (f183G K a1 a0.1).bind fun y1 => (bif ((!(!(!y1))) || true) then (bif ((!(!(!y1))) || true) then ((bif (!(!y1)) then f206G K a0.2 else some false)).bind fun y2 => (bif ((!(!(!y1))) || true) then some (bif (!y1) then true else (!y2)) else none) else none) else none)
def f320M (K : Nat) : Mdl := ⟨[(.ro, (.cons sV sI)), (.cap, sL)], [.bool], fun x => f320G K x.1 x.2.1⟩
def f244C : Code := codeOf Tryz.f244
def f244E (K : Nat) : Env := ⟨[], tys, eqs, mts, K, [0, 1, 4, 5, 7, 8, 9, 16], [], []⟩
def f244_b3 (K : Nat) (a0 : List (tV × Int)) (a1 : ((tV × Int) → Option Bool)) (L3 : Int → Option Int) (q4 : Int) : Option Int :=
  (bif (decide (q4 < (a0.length : Int))) then (bif (decide (0 ≤ q4) && decide (q4 < (a0.length : Int))) then (a1 (((a0.getD ((0 : Int) + q4).toNat (((0 : Int), (0 : Int)), (0 : Int))).1), (a0.getD ((0 : Int) + q4).toNat (((0 : Int), (0 : Int)), (0 : Int))).2)).bind fun y5 => (bif y5 then some q4 else L3 (w (q4 + (1 : Int)))) else none) else some (-1 : Int))
def f244_l3 (K : Nat) (a0 : List (tV × Int)) (a1 : ((tV × Int) → Option Bool)) (n : Nat) (q4 : Int) : Option Int :=
  iter (X := Int) (fun L x => (fun L3 => f244_b3 K a0 a1 L3 x) (fun v0 => L v0)) n q4
def f244_fr3 (a0 : List (tV × Int)) (a1 : ((tV × Int) → Option Bool)) (q4 : Int) : Fr := ⟨19, [(0, .v false [.row 0]), (1, .v false [.fv1 (.cons sV sI) .bool a1]), (4, .v false [.int .i64 (0 : Int)]), (7, .v false [.int .i64 (a0.length : Int)]), (8, .v false [.int .i64 q4])], [], [some ⟨149, (.cons sV sI), a0, .ro⟩]⟩
def f244_k3 (K : Nat) (a0 : List (tV × Int)) (a1 : ((tV × Int) → Option Bool)) (lr : LR Int) : Ex → Fr → Option Int :=
  contC (f244E K) 1 lr f244C [1, 0, 1, 0] (finK (f244E K) Tryz.f244 [(.ro, (.list 149 (.cons sV sI))), (.ro, (.fn1 (.cons sV sI) .bool))] [sI] (a0, a1, ()))
def f244_g (K : Nat) (a0 : List (tV × Int)) (a1 : ((tV × Int) → Option Bool)) (I3 : Int → Option Int) : Option Int :=
  I3 (0 : Int)
def f244G (K : Nat) (a0 : List (tV × Int)) (a1 : ((tV × Int) → Option Bool)) : Option Int :=
  f244_g K a0 a1 (fun d0 => f244_l3 K a0 a1 K d0)
def f244M (K : Nat) : Mdl := ⟨[(.ro, (.list 149 (.cons sV sI))), (.ro, (.fn1 (.cons sV sI) .bool))], [sI], fun x => f244G K x.1 x.2.1⟩
def f131E (K : Nat) : Env := ⟨[(244, f244M K)], tys, eqs, mts, K, [0, 1, 4], [], []⟩
def f131G (K : Nat) (a0 : List (tV × Int)) (a1 : ((tV × Int) → Option Bool)) : Option Bool :=
  (f244G K a0 a1).bind fun y1 => some (decide (y1 ≥ (0 : Int)))
def f131M (K : Nat) : Mdl := ⟨[(.ro, (.list 149 (.cons sV sI))), (.ro, (.fn1 (.cons sV sI) .bool))], [.bool], fun x => f131G K x.1 x.2.1⟩
def f240E (K : Nat) : Env := ⟨[(131, f131M K), (320, f320M K)], tys, eqs, mts, K, [0, 1, 2, 4], [], []⟩
def f240G (K : Nat) (a0 : Int × Int × Int) (a1 : List (tV × Int)) : Option Bool :=
  (bif ((!(decide ((a1.length : Int) ≤ (100 : Int)))) || true) then (bif ((!(decide ((a1.length : Int) ≤ (100 : Int)))) || true) then ((bif (decide ((a1.length : Int) ≤ (100 : Int))) then f131G K a1 (fun z1 => f320G K z1 a0) else some false)).bind fun y2 => (bif ((!(decide ((a1.length : Int) ≤ (100 : Int)))) || true) then some (bif (decide ((a1.length : Int) ≤ (100 : Int))) then (!y2) else false) else none) else none) else none)
def f240M (K : Nat) : Mdl := ⟨[(.ro, sL), (.ro, (.list 149 (.cons sV sI)))], [.bool], fun x => f240G K x.1 x.2.1⟩
def f118C : Code := codeOf Tryz.f118
def f118E (K : Nat) : Env := ⟨[(86, f86M K), (240, f240M K)], tys, eqs, mts, K, [0, 1, 2, 6, 7, 8, 9, 10, 11, 12, 13, 15, 25, 28, 29, 30, 31, 37], [], []⟩
def f118_b4 (K : Nat) (a0 : ByteArray) (a1 : Int) (a2 : List (List (tV × Int))) (y1 : Int × tL × (List tM) × Int) (L4 : Int → Option (Int × tL × (List tM) × Int)) (q5 : Int) : Option (Int × tL × (List tM) × Int) :=
  (bif (decide (q5 < (a2.length : Int))) then (bif (decide (0 ≤ q5) && decide (q5 < (a2.length : Int))) then (f240G K y1.2.1 (a2.getD ((0 : Int) + q5).toNat [])).bind fun y6 => (bif (!y6) then some ((0 : Int), ((0 : Int), (0 : Int), (0 : Int)), [], (2 : Int)) else L4 (w (q5 + (1 : Int)))) else none) else some (y1.1, y1.2.1, y1.2.2.1, (0 : Int)))
def f118_l4 (K : Nat) (a0 : ByteArray) (a1 : Int) (a2 : List (List (tV × Int))) (y1 : Int × tL × (List tM) × Int) (n : Nat) (q5 : Int) : Option (Int × tL × (List tM) × Int) :=
  iter (X := Int) (fun L x => (fun L4 => f118_b4 K a0 a1 a2 y1 L4 x) (fun v0 => L v0)) n q5
def f118_fr4 (a0 : ByteArray) (a1 : Int) (a2 : List (List (tV × Int))) (y1 : Int × tL × (List tM) × Int) (q5 : Int) : Fr := ⟨43, [(0, .v false [.str a0]), (1, .v false [.int .i64 a1]), (2, .v false [.row 0]), (6, .v false [.int .i64 (0 : Int)]), (7, .v false [.box 0 0]), (8, .v false [.row 1]), (9, .v false [.int .i64 (0 : Int)]), (10, .v false [.int .i64 y1.1]), (11, .v false [.box 1 0]), (12, .v false [.row 2]), (13, .v false [.int .i64 y1.2.2.2]), (25, .v false [.bool (y1.2.2.2 != (0 : Int))]), (28, .v false [.row 0]), (29, .v false [.int .i64 (a2.length : Int)]), (30, .v false [.int .i64 q5])], [some ⟨true, [.int .i64 (0 : Int), .int .i64 (0 : Int), .int .i64 (0 : Int)]⟩, some ⟨true, [.int .i64 y1.2.1.1, .int .i64 y1.2.1.2.1, .int .i64 y1.2.1.2.2]⟩], [some ⟨26, (.list 149 (.cons sV sI)), a2, .ro⟩, some ⟨95, sM, [], .own⟩, some ⟨95, sM, y1.2.2.1, .own⟩]⟩
def f118_k4 (K : Nat) (a0 : ByteArray) (a1 : Int) (a2 : List (List (tV × Int))) (lr : LR (Int × tL × (List tM) × Int)) : Ex → Fr → Option (Int × tL × (List tM) × Int) :=
  contC (f118E K) 1 lr f118C [1, 1, 1, 0, 1, 0] (finK (f118E K) Tryz.f118 [(.ro, .str), (.ro, sI), (.ro, (.list 26 (.list 149 (.cons sV sI))))] [sI, sL, (.list 95 sM), sI] (a0, a1, a2, ()))
def f118_g (K : Nat) (a0 : ByteArray) (a1 : Int) (a2 : List (List (tV × Int))) (I4 : (Int × tL × (List tM) × Int) → Int → Option (Int × tL × (List tM) × Int)) : Option (Int × tL × (List tM) × Int) :=
  (f86G K a0 a1).bind fun y1 => (bif (y1.2.2.2 != (0 : Int)) then some ((0 : Int), ((0 : Int), (0 : Int), (0 : Int)), [], y1.2.2.2) else I4 y1 (0 : Int))
def f118G (K : Nat) (a0 : ByteArray) (a1 : Int) (a2 : List (List (tV × Int))) : Option (Int × tL × (List tM) × Int) :=
  f118_g K a0 a1 a2 (fun c0 d0 => f118_l4 K a0 a1 a2 c0 K d0)
def f118M (K : Nat) : Mdl := ⟨[(.ro, .str), (.ro, sI), (.ro, (.list 26 (.list 149 (.cons sV sI))))], [sI, sL, (.list 95 sM), sI], fun x => f118G K x.1 x.2.1 x.2.2.1⟩
def f238E (K : Nat) : Env := ⟨[], tys, eqs, mts, K, [0, 1, 2], [], []⟩
def f238G (K : Nat) (a0 : Int × Int × Int) : Option Int :=
  some (w (a0.1 * a0.2.2))
def f238M (K : Nat) : Mdl := ⟨[(.ro, sL)], [sI], fun x => f238G K x.1⟩
def f321G (K : Nat) (a0 a1 : Int) : Option tV := mulF a0 a1
def f321M (K : Nat) : Mdl := ⟨[(.ro, (.int .u64)), (.ro, (.int .u64))], [(.int .u64), (.int .u64)], fun x => f321G K x.1 x.2.1⟩
def f243C : Code := codeOf Tryz.f243
def f243E (K : Nat) : Env := ⟨[(321, f321M K)], tys, eqs, mts, K, [0, 1, 4, 5, 6, 7, 8, 10, 26, 37], [], []⟩
def f243_b3 (K : Nat) (a0 : List Int) (a1 : Int) (y1 : Int × Int) (L3 : Int → (List Int) → Option (List Int)) (q4 : Int) (q5 : List Int) : Option (List Int) :=
  (bif (decide (q4 < (q5.length : Int))) then (bif (decide (0 ≤ q4) && decide (q4 ≤ (q5.length : Int)) && decide ((q5.length : Int) ≤ (q5.length : Int))) then (bif (decide (0 ≤ (0 : Int)) && decide ((0 : Int) ≤ q4) && decide (q4 ≤ (q5.length : Int))) then L3 (w (q4 + (bif decide ((((0 : Int) + (q5.length : Int)) - ((0 : Int) + q4)) ≤ (((0 : Int) + q4) - (0 : Int))) then (((0 : Int) + (q5.length : Int)) - ((0 : Int) + q4)) else (((0 : Int) + q4) - (0 : Int))))) (q5.take ((0 : Int) + q4).toNat ++ ((q5.take ((0 : Int) + (((0 : Int) + q4) - (0 : Int))).toNat).drop 0).take (bif decide ((((0 : Int) + (q5.length : Int)) - ((0 : Int) + q4)) ≤ (((0 : Int) + q4) - (0 : Int))) then (((0 : Int) + (q5.length : Int)) - ((0 : Int) + q4)) else (((0 : Int) + q4) - (0 : Int))).toNat ++ q5.drop (((0 : Int) + q4).toNat + (bif decide ((((0 : Int) + (q5.length : Int)) - ((0 : Int) + q4)) ≤ (((0 : Int) + q4) - (0 : Int))) then (((0 : Int) + (q5.length : Int)) - ((0 : Int) + q4)) else (((0 : Int) + q4) - (0 : Int))).toNat)) else none) else none) else some q5)
def f243_l3 (K : Nat) (a0 : List Int) (a1 : Int) (y1 : Int × Int) (n : Nat) (q4 : Int) (q5 : List Int) : Option (List Int) :=
  iter (X := Int × List Int) (fun L x => (fun L3 => f243_b3 K a0 a1 y1 L3 x.1 x.2) (fun v0 v1 => L (v0, v1))) n (q4, q5)
def f243_fr3 (a0 : List Int) (a1 : Int) (y1 : Int × Int) (q4 : Int) (q5 : List Int) : Fr := ⟨48, [(0, .v false [.row 0]), (1, .v false [.int .i64 a1]), (4, .v false [.row 1]), (5, .v false [.int .u64 y1.1]), (6, .v false [.int .u64 y1.2]), (7, .v false [.row 2]), (8, .v false [.int .i64 q4]), (10, .v false [.bool (decide (a1 < (0 : Int)))]), (26, .v false [.bool (bif (decide (y1.1 > (0 : Int))) then true else (decide (y1.2 > (9223372036854775807 : Int))))])], [], [some ⟨2, sI, a0, .ro⟩, some ⟨2, sI, [], .own⟩, some ⟨2, sI, q5, .own⟩]⟩
def f243_k3 (K : Nat) (a0 : List Int) (a1 : Int) (lr : LR (List Int)) : Ex → Fr → Option (List Int) :=
  contC (f243E K) 1 lr f243C [1, 1, 1, 1, 1, 1, 0, 0] (finK (f243E K) Tryz.f243 [(.ro, (.list 2 sI)), (.ro, sI)] [(.list 2 sI)] (a0, a1, ()))
def f243_g (K : Nat) (a0 : List Int) (a1 : Int) (I3 : tV → Int → (List Int) → Option (List Int)) : Option (List Int) :=
  (bif (decide (a1 < (0 : Int))) then none else (f321G K (IntKind.u64.wrap (a0.length : Int)) (IntKind.u64.wrap a1)).bind fun y1 => (bif ((!(!(decide (y1.1 > (0 : Int))))) || true) then (bif ((!(!(decide (y1.1 > (0 : Int))))) || true) then (bif (bif (decide (y1.1 > (0 : Int))) then true else (decide (y1.2 > (9223372036854775807 : Int)))) then none else (bif (decide (0 ≤ (w y1.2)) && Nat.ble (w y1.2).toNat (lim 8) && ((w y1.2) == (w y1.2))) then I3 y1 (bif decide (((List.replicate (w y1.2).toNat (0 : Int)).length : Int) ≤ (a0.length : Int)) then ((List.replicate (w y1.2).toNat (0 : Int)).length : Int) else (a0.length : Int)) ((List.replicate (w y1.2).toNat (0 : Int)).take 0 ++ ((a0.take ((0 : Int) + (a0.length : Int)).toNat).drop 0).take (bif decide (((List.replicate (w y1.2).toNat (0 : Int)).length : Int) ≤ (a0.length : Int)) then ((List.replicate (w y1.2).toNat (0 : Int)).length : Int) else (a0.length : Int)).toNat ++ (List.replicate (w y1.2).toNat (0 : Int)).drop (0 + (bif decide (((List.replicate (w y1.2).toNat (0 : Int)).length : Int) ≤ (a0.length : Int)) then ((List.replicate (w y1.2).toNat (0 : Int)).length : Int) else (a0.length : Int)).toNat)) else none)) else none) else none))
def f243G (K : Nat) (a0 : List Int) (a1 : Int) : Option (List Int) :=
  f243_g K a0 a1 (fun c0 d0 d1 => f243_l3 K a0 a1 c0 K d0 d1)
def f243M (K : Nat) : Mdl := ⟨[(.ro, (.list 2 sI)), (.ro, sI)], [(.list 2 sI)], fun x => f243G K x.1 x.2.1⟩
def f207C : Code := codeOf Tryz.f207
def f207E (K : Nat) : Env := ⟨[], tys, eqs, mts, K, [0, 1, 2, 3, 4, 5, 8, 9, 10, 13, 14, 15], [], []⟩
def f207_b9 (K : Nat) (a0 : Int × Int × Int) (q7 : Int) (L6 L9 : Int → (List tV) → Option (List tV)) (q10 : Int) (q11 : List tV) : Option (List tV) :=
  (bif (decide (q10 < a0.2.2)) then (bif (Nat.ble (q11.length + [(q7, q10)].length) (lim 16)) then L9 (w (q10 + (1 : Int))) (q11 ++ [(q7, q10)]) else none) else L6 (w (q7 + (1 : Int))) q11)
def f207_l9 (K : Nat) (a0 : Int × Int × Int) (q7 : Int) (L6 : Int → (List tV) → Option (List tV)) (n : Nat) (q10 : Int) (q11 : List tV) : Option (List tV) :=
  iter (X := Int × List tV) (fun L x => (fun L9 => f207_b9 K a0 q7 L6 L9 x.1 x.2) (fun v0 v1 => L (v0, v1))) n (q10, q11)
def f207_fr9 (a0 : Int × Int × Int) (q7 q10 : Int) (q11 : List tV) : Fr := ⟨26, [(0, .v true [.int .i64 a0.1, .int .i64 a0.2.1, .int .i64 a0.2.2]), (1, .v false [.box 0 0]), (2, .v false [.row 0]), (3, .v false [.row 1]), (4, .v false [.int .i64 q7]), (8, .v false [.int .i64 a0.1]), (9, .v false [.int .i64 q7]), (10, .v false [.bool (decide (q7 < a0.1))]), (13, .v false [.int .i64 a0.2.2]), (14, .v false [.int .i64 q10])], [some ⟨true, [.int .i64 a0.1, .int .i64 a0.2.1, .int .i64 a0.2.2]⟩], [some ⟨79, sV, [], .own⟩, some ⟨79, sV, q11, .own⟩]⟩
def f207_b6 (K : Nat) (a0 : Int × Int × Int) (I9 : Int → Int → (List tV) → Option (List tV)) (L6 : Int → (List tV) → Option (List tV)) (q7 : Int) (q8 : List tV) : Option (List tV) :=
  (bif (decide (q7 < a0.1)) then I9 q7 (0 : Int) q8 else some q8)
def f207_l6 (K : Nat) (a0 : Int × Int × Int) (n : Nat) (q7 : Int) (q8 : List tV) : Option (List tV) :=
  iter (X := Int × List tV) (fun L x => (fun L6 => f207_b6 K a0 (fun c0 d0 d1 => f207_l9 K a0 c0 L6 K d0 d1) L6 x.1 x.2) (fun v0 v1 => L (v0, v1))) n (q7, q8)
def f207_fr6 (a0 : Int × Int × Int) (q7 : Int) (q8 : List tV) : Fr := ⟨26, [(0, .v true [.int .i64 a0.1, .int .i64 a0.2.1, .int .i64 a0.2.2]), (1, .v false [.box 0 0]), (2, .v false [.row 0]), (3, .v false [.row 1]), (8, .v false [.int .i64 a0.1]), (9, .v false [.int .i64 q7])], [some ⟨true, [.int .i64 a0.1, .int .i64 a0.2.1, .int .i64 a0.2.2]⟩], [some ⟨79, sV, [], .own⟩, some ⟨79, sV, q8, .own⟩]⟩
def f207_k6 (K : Nat) (a0 : Int × Int × Int) (lr : LR (List tV)) : Ex → Fr → Option (List tV) :=
  contC (f207E K) 0 lr f207C [1, 1, 0, 1, 0] (finK (f207E K) Tryz.f207 [(.ro, sL)] [(.list 79 sV)] (a0, ()))
def f207_k9 (K : Nat) (a0 : Int × Int × Int) (F6 : Fr → Option (List tV)) (bq7 : Int) (bq8 : List tV) (lr : LR (List tV)) : Ex → Fr → Option (List tV) :=
  contC (f207E K) 0 lr (selC f207C [1, 1, 0, 1, 0, 0]) [1, 1, 0, 0, 1, 1, 0] (loopK 0 (f207_fr6 a0 bq7 bq8) F6 (f207_k6 K a0 lr))
def f207_g (K : Nat) (a0 : Int × Int × Int) (I6 : Int → (List tV) → Option (List tV)) : Option (List tV) :=
  I6 (0 : Int) []
def f207G (K : Nat) (a0 : Int × Int × Int) : Option (List tV) :=
  f207_g K a0 (fun d0 d1 => f207_l6 K a0 K d0 d1)
def f207M (K : Nat) : Mdl := ⟨[(.ro, sL)], [(.list 79 sV)], fun x => f207G K x.1⟩
def f130E (K : Nat) : Env := ⟨[], tys, eqs, mts, K, [0, 1, 2, 3, 4], [], []⟩
def f130G (K : Nat) (a0 : Int × Int × Int) (a1 : Int × Int) : Option Int :=
  some (w ((w (a1.1 * a0.2.2)) + a1.2))
def f130M (K : Nat) : Mdl := ⟨[(.ro, sL), (.ro, sV)], [sI], fun x => f130G K x.1 x.2.1⟩
def f191E (K : Nat) : Env := ⟨[(288, f288M K), (289, f289M K)], tys, eqs, mts, K, [0, 1, 2, 3, 4], [], []⟩
def f191G (K : Nat) (a0 : tA × Int × Int) (a1 : Int × Int) : Option tV :=
  (f288G K a0.1 a1).bind fun y1 => (f289G K y1 a0.2).bind fun y2 => some y2
def f191M (K : Nat) : Mdl := ⟨[(.ro, sM), (.ro, sV)], [sV], fun x => f191G K x.1 x.2.1⟩
def f267E (K : Nat) : Env := ⟨[(161, f161M K), (191, f191M K)], tys, eqs, mts, K, [0, 1, 2, 3, 4, 5, 6], [], []⟩
def f267G (K : Nat) (a0 : Int × Int × Int) (a1 : tA × Int × Int) (a2 : Int × Int) : Option tV :=
  (f191G K a1 a2).bind fun y1 => (f161G K a0 y1).bind fun y2 => some y2
def f267M (K : Nat) : Mdl := ⟨[(.ro, sL), (.ro, sM), (.ro, sV)], [sV], fun x => f267G K x.1 x.2.1 x.2.2.1⟩
def f268G (K : Nat) (a0 : List tV) (a1 : tV → tV → Option Int) : Option (List tV) := sortF sV a0 a1
def f268M (K : Nat) : Mdl := ⟨[(.io, (.list 79 sV)), (.ro, (.fn2 sV sV sI))], [], fun x => f268G K x.1 x.2.1⟩
def f270C : Code := codeOf Tryz.f270
def f270E (K : Nat) : Env := ⟨[], tys, eqs, mts, K, [0, 2, 3, 4, 5, 8, 13, 25, 32, 44], [], []⟩
def f270_b9 (K : Nat) (a0 : List tV) (q8 : Int) (L9 : Int → Int → (List tV) → Option (List tV)) (q10 q11 : Int) (q12 : List tV) : Option (List tV) :=
  (bif (decide (q11 < (((0 : Int) + (a0.length : Int)) - ((0 : Int) + q8)))) then (bif (decide (0 ≤ q11) && decide (q11 < (((0 : Int) + (a0.length : Int)) - ((0 : Int) + q8)))) then (bif (decide (0 ≤ (w (q11 - (1 : Int)))) && decide ((w (q11 - (1 : Int))) < (((0 : Int) + (a0.length : Int)) - ((0 : Int) + q8)))) then (bif (!(((q12.getD (((0 : Int) + q8) + q11).toNat ((0 : Int), (0 : Int))).1 == (q12.getD (((0 : Int) + q8) + (w (q11 - (1 : Int)))).toNat ((0 : Int), (0 : Int))).1) && ((q12.getD (((0 : Int) + q8) + q11).toNat ((0 : Int), (0 : Int))).2 == (q12.getD (((0 : Int) + q8) + (w (q11 - (1 : Int)))).toNat ((0 : Int), (0 : Int))).2))) then (bif (decide (0 ≤ q11) && decide (q11 < (((0 : Int) + (a0.length : Int)) - ((0 : Int) + q8)))) then (bif (decide (0 ≤ q10) && decide (q10 < (q12.length : Int))) then L9 (w (q10 + (1 : Int))) (w (q11 + (1 : Int))) (q12.set ((0 : Int) + q10).toNat (q12.getD (((0 : Int) + q8) + q11).toNat ((0 : Int), (0 : Int)))) else none) else none) else L9 q10 (w (q11 + (1 : Int))) q12) else none) else none) else (bif (decide (0 ≤ q10) && decide (q10 ≤ (q12.length : Int)) && decide ((q12.length : Int) ≤ (q12.length : Int))) then (bif (decide (0 ≤ (0 : Int)) && decide ((0 : Int) ≤ q10) && decide (q10 ≤ ((clr q12 ((0 : Int) + q10).toNat (((0 : Int) + q10) + (((0 : Int) + (q12.length : Int)) - ((0 : Int) + q10))).toNat ((0 : Int), (0 : Int))).length : Int))) then some ((clr q12 ((0 : Int) + q10).toNat (((0 : Int) + q10) + (((0 : Int) + (q12.length : Int)) - ((0 : Int) + q10))).toNat ((0 : Int), (0 : Int))).take ((0 : Int) + q10).toNat) else none) else none))
def f270_l9 (K : Nat) (a0 : List tV) (q8 : Int) (n : Nat) (q10 q11 : Int) (q12 : List tV) : Option (List tV) :=
  iter (X := Int × Int × List tV) (fun L x => (fun L9 => f270_b9 K a0 q8 L9 x.1 x.2.1 x.2.2) (fun v0 v1 v2 => L (v0, v1, v2))) n (q10, q11, q12)
def f270_fr9 (a0 : List tV) (q8 q10 q11 : Int) (q12 : List tV) : Fr := ⟨61, [(0, .v false [.row 0]), (2, .v false [.row 1]), (3, .v false [.int .i64 q10]), (4, .v false [.view 0 ((0 : Int) + q8) ((0 : Int) + (a0.length : Int))]), (5, .v false [.int .i64 q11]), (8, .v false [.bool (decide ((a0.length : Int) < (2 : Int)))]), (13, .v false [.bool (decide (q8 < (a0.length : Int)))]), (25, .v false [.bool (((a0.getD ((0 : Int) + q8).toNat ((0 : Int), (0 : Int))).1 == (a0.getD ((0 : Int) + (w (q8 - (1 : Int)))).toNat ((0 : Int), (0 : Int))).1) && ((a0.getD ((0 : Int) + q8).toNat ((0 : Int), (0 : Int))).2 == (a0.getD ((0 : Int) + (w (q8 - (1 : Int)))).toNat ((0 : Int), (0 : Int))).2))])], [], [some ⟨79, sV, q12, .own⟩, some ⟨79, sV, [], .own⟩]⟩
def f270_b7 (K : Nat) (a0 : List tV) (I9 : Int → Int → Int → (List tV) → Option (List tV)) (L7 : Int → Option (List tV)) (q8 : Int) : Option (List tV) :=
  (bif (decide (q8 < (a0.length : Int))) then (bif (decide (0 ≤ q8) && decide (q8 < (a0.length : Int))) then (bif (decide (0 ≤ (w (q8 - (1 : Int)))) && decide ((w (q8 - (1 : Int))) < (a0.length : Int))) then (bif (((a0.getD ((0 : Int) + q8).toNat ((0 : Int), (0 : Int))).1 == (a0.getD ((0 : Int) + (w (q8 - (1 : Int)))).toNat ((0 : Int), (0 : Int))).1) && ((a0.getD ((0 : Int) + q8).toNat ((0 : Int), (0 : Int))).2 == (a0.getD ((0 : Int) + (w (q8 - (1 : Int)))).toNat ((0 : Int), (0 : Int))).2)) then (bif (decide (0 ≤ q8) && decide (q8 ≤ (a0.length : Int)) && decide ((a0.length : Int) ≤ (a0.length : Int))) then I9 q8 q8 (1 : Int) a0 else none) else L7 (w (q8 + (1 : Int)))) else none) else none) else some a0)
def f270_l7 (K : Nat) (a0 : List tV) (n : Nat) (q8 : Int) : Option (List tV) :=
  iter (X := Int) (fun L x => (fun L7 => f270_b7 K a0 (fun c0 d0 d1 d2 => f270_l9 K a0 c0 K d0 d1 d2) L7 x) (fun v0 => L v0)) n q8
def f270_fr7 (a0 : List tV) (q8 : Int) : Fr := ⟨61, [(0, .v false [.row 0]), (2, .v false [.row 1]), (3, .v false [.int .i64 q8]), (8, .v false [.bool (decide ((a0.length : Int) < (2 : Int)))])], [], [some ⟨79, sV, a0, .own⟩, some ⟨79, sV, [], .own⟩]⟩
def f270_k7 (K : Nat) (a0 : List tV) (lr : LR (List tV)) : Ex → Fr → Option (List tV) :=
  contC (f270E K) 1 lr f270C [1, 1, 0, 1, 0] (finK (f270E K) Tryz.f270 [(.mv, (.list 79 sV))] [(.list 79 sV)] (a0, ()))
def f270_k9 (K : Nat) (a0 : List tV) (F7 : Fr → Option (List tV)) (bq8 : Int) (lr : LR (List tV)) : Ex → Fr → Option (List tV) :=
  contC (f270E K) 1 lr (selC f270C [1, 1, 0, 1, 0, 0]) [1, 0, 0, 1, 0, 1, 0, 1, 0] (loopK 1 (f270_fr7 a0 bq8) F7 (f270_k7 K a0 lr))
def f270_g (K : Nat) (a0 : List tV) (I7 : Int → Option (List tV)) : Option (List tV) :=
  (bif (decide ((a0.length : Int) < (2 : Int))) then some a0 else I7 (1 : Int))
def f270G (K : Nat) (a0 : List tV) : Option (List tV) :=
  f270_g K a0 (fun d0 => f270_l7 K a0 K d0)
def f270M (K : Nat) : Mdl := ⟨[(.mv, (.list 79 sV))], [(.list 79 sV)], fun x => f270G K x.1⟩
def f171C : Code := codeOf Tryz.f171
def f171E (K : Nat) : Env := ⟨[(267, f267M K), (268, f268M K), (269, f269M K), (270, f270M K)], tys, eqs, mts, K, [0, 1, 2, 3, 5, 6, 7, 9, 11, 12, 13, 14], [], []⟩
def f171_b3 (K : Nat) (a0 : Int × Int × Int) (a1 : List tM) (a2 : Int × Int) (L3 : Int → (List tV) → Option (List tV)) (q4 : Int) (q5 : List tV) : Option (List tV) :=
  (bif (decide (q4 < (a1.length : Int))) then (bif (decide (0 ≤ q4) && decide (q4 < (a1.length : Int))) then (f267G K a0 ((((a1.getD ((0 : Int) + q4).toNat zM).1).1, (((a1.getD ((0 : Int) + q4).toNat zM).1).2).1, ((((a1.getD ((0 : Int) + q4).toNat zM).1).2).2)), ((a1.getD ((0 : Int) + q4).toNat zM).2)) a2).bind fun y6 => (bif (Nat.ble (q5.length + [y6].length) (lim 16)) then L3 (w (q4 + (1 : Int))) (q5 ++ [y6]) else none) else none) else (f268G K q5 (fun z7 z8 => f269G K z7 z8)).bind fun y9 => (f270G K y9).bind fun y10 => some y10)
def f171_l3 (K : Nat) (a0 : Int × Int × Int) (a1 : List tM) (a2 : Int × Int) (n : Nat) (q4 : Int) (q5 : List tV) : Option (List tV) :=
  iter (X := Int × List tV) (fun L x => (fun L3 => f171_b3 K a0 a1 a2 L3 x.1 x.2) (fun v0 v1 => L (v0, v1))) n (q4, q5)
def f171_fr3 (a0 : Int × Int × Int) (a1 : List tM) (a2 : Int × Int) (q4 : Int) (q5 : List tV) : Fr := ⟨29, [(0, .v true [.int .i64 a0.1, .int .i64 a0.2.1, .int .i64 a0.2.2]), (1, .v false [.row 0]), (2, .v true [.int .i64 a2.1, .int .i64 a2.2]), (3, .v false [.box 0 0]), (5, .v false [.box 1 0]), (6, .v false [.row 1]), (7, .v false [.row 2]), (11, .v false [.row 0]), (12, .v false [.int .i64 (a1.length : Int)]), (13, .v false [.int .i64 q4])], [some ⟨true, [.int .i64 a0.1, .int .i64 a0.2.1, .int .i64 a0.2.2]⟩, some ⟨true, [.int .i64 a2.1, .int .i64 a2.2]⟩], [some ⟨95, sM, a1, .ro⟩, some ⟨79, sV, [], .own⟩, some ⟨79, sV, q5, .own⟩]⟩
def f171_k3 (K : Nat) (a0 : Int × Int × Int) (a1 : List tM) (a2 : Int × Int) (lr : LR (List tV)) : Ex → Fr → Option (List tV) :=
  contC (f171E K) 1 lr f171C [1, 1, 0, 1, 0] (finK (f171E K) Tryz.f171 [(.ro, sL), (.ro, (.list 95 sM)), (.ro, sV)] [(.list 79 sV)] (a0, a1, a2, ()))
def f171_g (K : Nat) (a0 : Int × Int × Int) (a1 : List tM) (a2 : Int × Int) (I3 : Int → (List tV) → Option (List tV)) : Option (List tV) :=
  I3 (0 : Int) []
def f171G (K : Nat) (a0 : Int × Int × Int) (a1 : List tM) (a2 : Int × Int) : Option (List tV) :=
  f171_g K a0 a1 a2 (fun d0 d1 => f171_l3 K a0 a1 a2 K d0 d1)
def f171M (K : Nat) : Mdl := ⟨[(.ro, sL), (.ro, (.list 95 sM)), (.ro, sV)], [(.list 79 sV)], fun x => f171G K x.1 x.2.1 x.2.2.1⟩
def f128C : Code := codeOf Tryz.f128
def f128E (K : Nat) : Env := ⟨[(130, f130M K), (171, f171M K), (207, f207M K), (238, f238M K), (243, f243M K)], tys, eqs, mts, K, [0, 1, 2, 4, 5, 6, 7, 9, 10, 12, 19, 20, 21, 22, 31, 36, 37, 38, 39], [], []⟩
def f128_b22 (K : Nat) (a0 : Int × Int × Int) (a1 : List tM) (q17 : Int) (q18 : List (List tV)) (q19 : List Int) (y3 : List tV) (y20 : Int) (y21 : List tV) (L16 : Int → (List (List tV)) → (List Int) → Option ((List (List tV)) × List Int)) (L22 : Int → (List Int) → Option ((List (List tV)) × List Int)) (q23 : Int) (q24 : List Int) : Option ((List (List tV)) × List Int) :=
  (bif (decide (q23 < (y21.length : Int))) then (bif (decide (0 ≤ q23) && decide (q23 < (y21.length : Int))) then (f130G K a0 (y21.getD ((0 : Int) + q23).toNat ((0 : Int), (0 : Int)))).bind fun y25 => (bif (decide (0 ≤ y25) && decide (y25 < (q24.length : Int))) then L22 (w (q23 + (1 : Int))) (q24.set ((0 : Int) + y25).toNat (q18.length : Int)) else none) else none) else (bif (Nat.ble (q18.length + [y21].length) (lim 24)) then L16 (w (q17 + (1 : Int))) (q18 ++ [y21]) q24 else none))
def f128_l22 (K : Nat) (a0 : Int × Int × Int) (a1 : List tM) (q17 : Int) (q18 : List (List tV)) (q19 : List Int) (y3 : List tV) (y20 : Int) (y21 : List tV) (L16 : Int → (List (List tV)) → (List Int) → Option ((List (List tV)) × List Int)) (n : Nat) (q23 : Int) (q24 : List Int) : Option ((List (List tV)) × List Int) :=
  iter (X := Int × List Int) (fun L x => (fun L22 => f128_b22 K a0 a1 q17 q18 q19 y3 y20 y21 L16 L22 x.1 x.2) (fun v0 v1 => L (v0, v1))) n (q23, q24)
def f128_fr22 (a0 : Int × Int × Int) (a1 : List tM) (q17 : Int) (q18 : List (List tV)) (q19 : List Int) (y3 : List tV) (y20 : Int) (y21 : List tV) (q23 : Int) (q24 : List Int) : Fr := ⟨57, [(0, .v true [.int .i64 a0.1, .int .i64 a0.2.1, .int .i64 a0.2.2]), (1, .v false [.row 0]), (2, .v false [.box 0 0]), (4, .v false [.row 1]), (5, .v false [.row 2]), (6, .v false [.row 3]), (7, .v false [.row 4]), (9, .v false [.box 1 0]), (10, .v false [.row 5]), (19, .v false [.row 6]), (20, .v false [.int .i64 (y3.length : Int)]), (21, .v false [.int .i64 q17]), (22, .v false [.bool (decide (q17 < (y3.length : Int)))]), (31, .v false [.bool (decide ((q19.getD ((0 : Int) + y20).toNat (0 : Int)) ≥ (0 : Int)))]), (36, .v false [.row 5]), (37, .v false [.int .i64 (y21.length : Int)]), (38, .v false [.int .i64 q23])], [some ⟨true, [.int .i64 a0.1, .int .i64 a0.2.1, .int .i64 a0.2.2]⟩, some ⟨true, [.int .i64 ((y3.getD ((0 : Int) + q17).toNat ((0 : Int), (0 : Int))).1), .int .i64 ((y3.getD ((0 : Int) + q17).toNat ((0 : Int), (0 : Int))).2)]⟩], [some ⟨95, sM, a1, .ro⟩, some ⟨84, (.list 79 sV), [], .own⟩, some ⟨2, sI, [], .own⟩, some ⟨84, (.list 79 sV), q18, .own⟩, some ⟨2, sI, q24, .own⟩, some ⟨79, sV, y21, .own⟩, some ⟨79, sV, y3, .own⟩]⟩
def f128_b16 (K : Nat) (a0 : Int × Int × Int) (a1 : List tM) (y3 : List tV) (I22 : Int → (List (List tV)) → (List Int) → Int → (List tV) → Int → (List Int) → Option ((List (List tV)) × List Int)) (L16 : Int → (List (List tV)) → (List Int) → Option ((List (List tV)) × List Int)) (q17 : Int) (q18 : List (List tV)) (q19 : List Int) : Option ((List (List tV)) × List Int) :=
  (bif (decide (q17 < (y3.length : Int))) then (bif (decide (0 ≤ q17) && decide (q17 < (y3.length : Int))) then (f130G K a0 (y3.getD ((0 : Int) + q17).toNat ((0 : Int), (0 : Int)))).bind fun y20 => (bif (decide (0 ≤ y20) && decide (y20 < (q19.length : Int))) then (bif (decide ((q19.getD ((0 : Int) + y20).toNat (0 : Int)) ≥ (0 : Int))) then L16 (w (q17 + (1 : Int))) q18 q19 else (f171G K a0 a1 (y3.getD ((0 : Int) + q17).toNat ((0 : Int), (0 : Int)))).bind fun y21 => I22 q17 q18 q19 y20 y21 (0 : Int) q19) else none) else none) else some (q18, q19))
def f128_l16 (K : Nat) (a0 : Int × Int × Int) (a1 : List tM) (y3 : List tV) (n : Nat) (q17 : Int) (q18 : List (List tV)) (q19 : List Int) : Option ((List (List tV)) × List Int) :=
  iter (X := Int × List (List tV) × List Int) (fun L x => (fun L16 => f128_b16 K a0 a1 y3 (fun c0 c1 c2 c3 c4 d0 d1 => f128_l22 K a0 a1 c0 c1 c2 y3 c3 c4 L16 K d0 d1) L16 x.1 x.2.1 x.2.2) (fun v0 v1 v2 => L (v0, v1, v2))) n (q17, q18, q19)
def f128_fr16 (a0 : Int × Int × Int) (a1 : List tM) (y3 : List tV) (q17 : Int) (q18 : List (List tV)) (q19 : List Int) : Fr := ⟨57, [(0, .v true [.int .i64 a0.1, .int .i64 a0.2.1, .int .i64 a0.2.2]), (1, .v false [.row 0]), (2, .v false [.box 0 0]), (4, .v false [.row 1]), (5, .v false [.row 2]), (6, .v false [.row 3]), (7, .v false [.row 4]), (19, .v false [.row 5]), (20, .v false [.int .i64 (y3.length : Int)]), (21, .v false [.int .i64 q17])], [some ⟨true, [.int .i64 a0.1, .int .i64 a0.2.1, .int .i64 a0.2.2]⟩], [some ⟨95, sM, a1, .ro⟩, some ⟨84, (.list 79 sV), [], .own⟩, some ⟨2, sI, [], .own⟩, some ⟨84, (.list 79 sV), q18, .own⟩, some ⟨2, sI, q19, .own⟩, some ⟨79, sV, y3, .own⟩]⟩
def f128_k16 (K : Nat) (a0 : Int × Int × Int) (a1 : List tM) (lr : LR ((List (List tV)) × List Int)) : Ex → Fr → Option ((List (List tV)) × List Int) :=
  contC (f128E K) 1 lr f128C [1, 1, 0, 1, 0] (finK (f128E K) Tryz.f128 [(.ro, sL), (.ro, (.list 95 sM))] [(.list 84 (.list 79 sV)), (.list 2 sI)] (a0, a1, ()))
def f128_k22 (K : Nat) (a0 : Int × Int × Int) (a1 : List tM) (y3 : List tV) (F16 : Fr → Option ((List (List tV)) × List Int)) (bq17 : Int) (bq18 : List (List tV)) (bq19 : List Int) (lr : LR ((List (List tV)) × List Int)) : Ex → Fr → Option ((List (List tV)) × List Int) :=
  contC (f128E K) 1 lr (selC f128C [1, 1, 0, 1, 0, 0]) [1, 1, 0, 0, 1, 1, 1, 0, 1, 0] (loopK 1 (f128_fr16 a0 a1 y3 bq17 bq18 bq19) F16 (f128_k16 K a0 a1 lr))
def f128_g (K : Nat) (a0 : Int × Int × Int) (a1 : List tM) (I16 : (List tV) → Int → (List (List tV)) → (List Int) → Option ((List (List tV)) × List Int)) : Option ((List (List tV)) × List Int) :=
  (f238G K a0).bind fun y1 => (f243G K [(-1 : Int)] y1).bind fun y2 => (f207G K a0).bind fun y3 => I16 y3 (0 : Int) [] y2
def f128G (K : Nat) (a0 : Int × Int × Int) (a1 : List tM) : Option ((List (List tV)) × List Int) :=
  f128_g K a0 a1 (fun c0 d0 d1 d2 => f128_l16 K a0 a1 c0 K d0 d1 d2)
def f128M (K : Nat) : Mdl := ⟨[(.ro, sL), (.ro, (.list 95 sM))], [(.list 84 (.list 79 sV)), (.list 2 sI)], fun x => f128G K x.1 x.2.1⟩
def f129E (K : Nat) : Env := ⟨[(130, f130M K)], tys, eqs, mts, K, [0, 1, 2, 3, 4, 5], [], []⟩
def f129G (K : Nat) (a0 : tV × Int) (a1 : List Int) (a2 : Int × Int × Int) (a3 : tV × Int) : Option Bool :=
  (f130G K a2 a0.1).bind fun y1 => (bif (decide (0 ≤ y1) && decide (y1 < (a1.length : Int))) then (f130G K a2 a3.1).bind fun y2 => (bif (decide (0 ≤ y2) && decide (y2 < (a1.length : Int))) then some ((a1.getD ((0 : Int) + y1).toNat (0 : Int)) == (a1.getD ((0 : Int) + y2).toNat (0 : Int))) else none) else none)
def f129M (K : Nat) : Mdl := ⟨[(.ro, (.cons sV sI)), (.cap, (.list 2 sI)), (.cap, sL), (.cap, (.cons sV sI))], [.bool], fun x => f129G K x.1 x.2.1 x.2.2.1 x.2.2.2.1⟩
def f27C : Code := codeOf Tryz.f27
def f27E (K : Nat) : Env := ⟨[(118, f118M K), (128, f128M K), (129, f129M K), (131, f131M K)], tys, eqs, mts, K, [0, 1, 2, 6, 7, 9, 10, 11, 13, 14, 15, 16, 17, 29, 38, 39, 40, 41, 52], [], []⟩
def f27_b6 (K : Nat) (a0 : ByteArray) (a1 : Int) (a2 : List (tV × Int)) (y1 : Int × tL × (List tM) × Int) (y2 : (List (List tV)) × List Int) (L6 : Int → (List (tV × Int)) → Option ((List (tV × Int)) × Int)) (q7 : Int) (q8 : List (tV × Int)) : Option ((List (tV × Int)) × Int) :=
  (bif (decide (q7 < (a2.length : Int))) then (bif (decide (0 ≤ q7) && decide (q7 < (a2.length : Int))) then (bif (decide (0 ≤ (w (q7 + (1 : Int)))) && decide ((w (q7 + (1 : Int))) ≤ (a2.length : Int)) && decide ((a2.length : Int) ≤ (a2.length : Int))) then (f131G K ((a2.take ((0 : Int) + (a2.length : Int)).toNat).drop ((0 : Int) + (w (q7 + (1 : Int)))).toNat) (fun z9 => f129G K z9 y2.2 y1.2.1 (((a2.getD ((0 : Int) + q7).toNat (((0 : Int), (0 : Int)), (0 : Int))).1), (a2.getD ((0 : Int) + q7).toNat (((0 : Int), (0 : Int)), (0 : Int))).2))).bind fun y10 => (bif (!y10) then (bif (Nat.ble (q8.length + [(((a2.getD ((0 : Int) + q7).toNat (((0 : Int), (0 : Int)), (0 : Int))).1), (a2.getD ((0 : Int) + q7).toNat (((0 : Int), (0 : Int)), (0 : Int))).2)].length) (lim 24)) then L6 (w (q7 + (1 : Int))) (q8 ++ [(((a2.getD ((0 : Int) + q7).toNat (((0 : Int), (0 : Int)), (0 : Int))).1), (a2.getD ((0 : Int) + q7).toNat (((0 : Int), (0 : Int)), (0 : Int))).2)]) else none) else L6 (w (q7 + (1 : Int))) q8) else none) else none) else some (q8, (0 : Int)))
def f27_l6 (K : Nat) (a0 : ByteArray) (a1 : Int) (a2 : List (tV × Int)) (y1 : Int × tL × (List tM) × Int) (y2 : (List (List tV)) × List Int) (n : Nat) (q7 : Int) (q8 : List (tV × Int)) : Option ((List (tV × Int)) × Int) :=
  iter (X := Int × List (tV × Int)) (fun L x => (fun L6 => f27_b6 K a0 a1 a2 y1 y2 L6 x.1 x.2) (fun v0 v1 => L (v0, v1))) n (q7, q8)
def f27_fr6 (a0 : ByteArray) (a1 : Int) (a2 : List (tV × Int)) (y1 : Int × tL × (List tM) × Int) (y2 : (List (List tV)) × List Int) (q7 : Int) (q8 : List (tV × Int)) : Fr := ⟨59, [(0, .v false [.str a0]), (1, .v false [.int .i64 a1]), (2, .v false [.row 0]), (6, .v false [.row 1]), (7, .v false [.int .i64 (0 : Int)]), (9, .v false [.box 1 0]), (10, .v false [.row 2]), (11, .v false [.int .i64 y1.2.2.2]), (13, .v false [.box 2 0]), (14, .v false [.row 3]), (29, .v false [.bool (y1.2.2.2 != (0 : Int))]), (38, .v false [.row 0]), (39, .v false [.int .i64 (a2.length : Int)]), (40, .v false [.int .i64 q7])], [some ⟨true, [.row 0]⟩, some ⟨true, [.int .i64 y1.2.1.1, .int .i64 y1.2.1.2.1, .int .i64 y1.2.1.2.2]⟩, some ⟨true, [.row 4]⟩], [some ⟨149, (.cons sV sI), a2, .ro⟩, some ⟨149, (.cons sV sI), [], .own⟩, some ⟨95, sM, y1.2.2.1, .own⟩, some ⟨149, (.cons sV sI), q8, .own⟩, some ⟨2, sI, y2.2, .own⟩]⟩
def f27_k6 (K : Nat) (a0 : ByteArray) (a1 : Int) (a2 : List (tV × Int)) (lr : LR ((List (tV × Int)) × Int)) : Ex → Fr → Option ((List (tV × Int)) × Int) :=
  contC (f27E K) 1 lr f27C [1, 1, 1, 1, 1, 0, 1, 0] (finK (f27E K) Tryz.f27 [(.ro, .str), (.ro, sI), (.ro, (.list 149 (.cons sV sI)))] [(.list 149 (.cons sV sI)), sI] (a0, a1, a2, ()))
def f27_g (K : Nat) (a0 : ByteArray) (a1 : Int) (a2 : List (tV × Int)) (I6 : (Int × tL × (List tM) × Int) → ((List (List tV)) × List Int) → Int → (List (tV × Int)) → Option ((List (tV × Int)) × Int)) : Option ((List (tV × Int)) × Int) :=
  (f118G K a0 a1 [a2]).bind fun y1 => (bif (y1.2.2.2 != (0 : Int)) then some ([], y1.2.2.2) else (f128G K y1.2.1 y1.2.2.1).bind fun y2 => I6 y1 y2 (0 : Int) [])
def f27G (K : Nat) (a0 : ByteArray) (a1 : Int) (a2 : List (tV × Int)) : Option ((List (tV × Int)) × Int) :=
  f27_g K a0 a1 a2 (fun c0 c1 d0 d1 => f27_l6 K a0 a1 a2 c0 c1 K d0 d1)
def f27M (K : Nat) : Mdl := ⟨[(.ro, .str), (.ro, sI), (.ro, (.list 149 (.cons sV sI)))], [(.list 149 (.cons sV sI)), sI], fun x => f27G K x.1 x.2.1 x.2.2.1⟩
def f252E (K : Nat) : Env := ⟨[], tys, eqs, mts, K, [0, 1, 4, 5, 6, 7, 8, 9, 10, 11, 12, 13, 14, 38, 39, 41, 45, 49, 53, 57, 62, 67, 72, 77, 81, 86, 91, 95, 100, 106, 110], [], []⟩
def f252G (K : Nat) (a0 : ByteArray) (a1 : Int) : Option (Int × (List tM) × Bool) :=
  (bif (a0 == (bs [112, 49])) then some ((0 : Int), [], true) else (bif (a0 == (bs [112, 50])) then some ((0 : Int), [(((-1 : Int), (0 : Int), (0 : Int), (-1 : Int)), (0 : Int), (0 : Int))], true) else (bif (a0 == (bs [112, 109])) then some ((0 : Int), [(((1 : Int), (0 : Int), (0 : Int), (-1 : Int)), (0 : Int), (0 : Int))], true) else (bif (a0 == (bs [112, 103])) then some ((0 : Int), [(((1 : Int), (0 : Int), (0 : Int), (-1 : Int)), a1, (0 : Int))], true) else (bif (a0 == (bs [99, 109])) then some ((0 : Int), [(((0 : Int), (1 : Int), (1 : Int), (0 : Int)), (0 : Int), (0 : Int))], true) else (bif (a0 == (bs [112, 109, 109])) then some ((0 : Int), [(((1 : Int), (0 : Int), (0 : Int), (-1 : Int)), (0 : Int), (0 : Int)), (((-1 : Int), (0 : Int), (0 : Int), (-1 : Int)), (0 : Int), (0 : Int))], true) else (bif (a0 == (bs [112, 109, 103])) then some ((0 : Int), [(((1 : Int), (0 : Int), (0 : Int), (-1 : Int)), a1, (0 : Int)), (((-1 : Int), (0 : Int), (0 : Int), (-1 : Int)), (0 : Int), (0 : Int))], true) else (bif (a0 == (bs [112, 103, 103])) then some ((0 : Int), [(((1 : Int), (0 : Int), (0 : Int), (-1 : Int)), a1, a1), (((-1 : Int), (0 : Int), (0 : Int), (-1 : Int)), (0 : Int), (0 : Int))], true) else (bif (a0 == (bs [99, 109, 109])) then some ((0 : Int), [(((0 : Int), (1 : Int), (1 : Int), (0 : Int)), (0 : Int), (0 : Int)), (((-1 : Int), (0 : Int), (0 : Int), (-1 : Int)), (0 : Int), (0 : Int))], true) else (bif (a0 == (bs [112, 52])) then some ((0 : Int), [(((0 : Int), (-1 : Int), (1 : Int), (0 : Int)), (0 : Int), (0 : Int))], true) else (bif (a0 == (bs [112, 52, 109])) then some ((0 : Int), [(((0 : Int), (-1 : Int), (1 : Int), (0 : Int)), (0 : Int), (0 : Int)), (((1 : Int), (0 : Int), (0 : Int), (-1 : Int)), (0 : Int), (0 : Int))], true) else (bif (a0 == (bs [112, 52, 103])) then some ((0 : Int), [(((0 : Int), (-1 : Int), (1 : Int), (0 : Int)), (0 : Int), (0 : Int)), (((1 : Int), (0 : Int), (0 : Int), (-1 : Int)), a1, a1)], true) else (bif (a0 == (bs [112, 51])) then some ((1 : Int), [(((-1 : Int), (-1 : Int), (1 : Int), (0 : Int)), (0 : Int), (0 : Int))], true) else (bif (a0 == (bs [112, 51, 109, 49])) then some ((1 : Int), [(((-1 : Int), (-1 : Int), (1 : Int), (0 : Int)), (0 : Int), (0 : Int)), (((0 : Int), (1 : Int), (1 : Int), (0 : Int)), (0 : Int), (0 : Int))], true) else (bif (a0 == (bs [112, 51, 49, 109])) then some ((1 : Int), [(((-1 : Int), (-1 : Int), (1 : Int), (0 : Int)), (0 : Int), (0 : Int)), (((1 : Int), (1 : Int), (0 : Int), (-1 : Int)), (0 : Int), (0 : Int))], true) else (bif (a0 == (bs [112, 54])) then some ((1 : Int), [(((0 : Int), (-1 : Int), (1 : Int), (1 : Int)), (0 : Int), (0 : Int))], true) else (bif (a0 == (bs [112, 54, 109])) then some ((1 : Int), [(((0 : Int), (-1 : Int), (1 : Int), (1 : Int)), (0 : Int), (0 : Int)), (((0 : Int), (1 : Int), (1 : Int), (0 : Int)), (0 : Int), (0 : Int))], true) else some ((0 : Int), [], false))))))))))))))))))
def f252M (K : Nat) : Mdl := ⟨[(.ro, .str), (.ro, sI)], [sI, (.list 95 sM), .bool], fun x => f252G K x.1 x.2.1⟩
def f141E (K : Nat) : Env := ⟨[], tys, eqs, mts, K, [0, 1, 2, 6], [], []⟩
def f141G (K : Nat) (a0 a1 a2 : Int) : Option Bool :=
  (bif ((!(decide (a0 ≥ a1))) || true) then (bif ((!(decide (a0 ≥ a1))) || true) then (bif ((!(decide (a0 ≥ a1))) || true) then some (bif (decide (a0 ≥ a1)) then (decide (a0 ≤ a2)) else false) else none) else none) else none)
def f141M (K : Nat) : Mdl := ⟨[(.ro, sI), (.ro, sI), (.ro, sI)], [.bool], fun x => f141G K x.1 x.2.1 x.2.2.1⟩
def f233E (K : Nat) : Env := ⟨[], tys, eqs, mts, K, [0], [], []⟩
def f233G (K : Nat) : Option tA :=
  some ((1 : Int), (0 : Int), (0 : Int), (1 : Int))
def f233M (K : Nat) : Mdl := ⟨[], [sA], fun x => f233G K ⟩
def f306E (K : Nat) : Env := ⟨[(233, f233M K)], tys, eqs, mts, K, [0], [], []⟩
def f306G (K : Nat) : Option tM :=
  (f233G K).bind fun y1 => some (y1, (0 : Int), (0 : Int))
def f306M (K : Nat) : Mdl := ⟨[], [sM], fun x => f306G K ⟩
def f351E (K : Nat) : Env := ⟨[], tys, eqs, mts, K, [0, 1, 2, 3, 4], [], []⟩
def f351G (K : Nat) (a0 a1 : Int × Int × Int × Int) : Option tA :=
  some ((w ((w (a0.1 * a1.1)) + (w (a0.2.1 * a1.2.2.1)))), (w ((w (a0.1 * a1.2.1)) + (w (a0.2.1 * a1.2.2.2)))), (w ((w (a0.2.2.1 * a1.1)) + (w (a0.2.2.2 * a1.2.2.1)))), (w ((w (a0.2.2.1 * a1.2.1)) + (w (a0.2.2.2 * a1.2.2.2)))))
def f351M (K : Nat) : Mdl := ⟨[(.ro, sA), (.ro, sA)], [sA], fun x => f351G K x.1 x.2.1⟩
def f341E (K : Nat) : Env := ⟨[], tys, eqs, mts, K, [0, 1, 2, 3, 4], [], []⟩
def f341G (K : Nat) (a0 : Int × Int × Int × Int) (a1 : Int × Int) : Option tV :=
  some ((w ((w (a0.1 * a1.1)) + (w (a0.2.1 * a1.2)))), (w ((w (a0.2.2.1 * a1.1)) + (w (a0.2.2.2 * a1.2)))))
def f341M (K : Nat) : Mdl := ⟨[(.ro, sA), (.ro, sV)], [sV], fun x => f341G K x.1 x.2.1⟩
def f340E (K : Nat) : Env := ⟨[], tys, eqs, mts, K, [0, 1, 2, 3, 4], [], []⟩
def f340G (K : Nat) (a0 a1 : Int × Int) : Option tV :=
  some ((w (a0.1 + a1.1)), (w (a0.2 + a1.2)))
def f340M (K : Nat) : Mdl := ⟨[(.ro, sV), (.ro, sV)], [sV], fun x => f340G K x.1 x.2.1⟩
def f307E (K : Nat) : Env := ⟨[(340, f340M K), (341, f341M K), (351, f351M K)], tys, eqs, mts, K, [0, 1, 2, 3, 4], [], []⟩
def f307G (K : Nat) (a0 a1 : tA × Int × Int) : Option tM :=
  (f351G K a0.1 a1.1).bind fun y1 => (f341G K a0.1 a1.2).bind fun y2 => (f340G K y2 a0.2).bind fun y3 => some (y1, y3)
def f307M (K : Nat) : Mdl := ⟨[(.ro, sM), (.ro, sM)], [sM], fun x => f307G K x.1 x.2.1⟩
def f255E (K : Nat) : Env := ⟨[], tys, eqs, mts, K, [0, 1, 4, 9], [], []⟩
def f255G (K : Nat) (a0 a1 : Int) : Option Int :=
  (bif (a1 != 0) then (bif (decide ((a0.tmod a1) < (0 : Int))) then some (w ((a0.tmod a1) + a1)) else some (a0.tmod a1)) else none)
def f255M (K : Nat) : Mdl := ⟨[(.ro, sI), (.ro, sI)], [sI], fun x => f255G K x.1 x.2.1⟩
def f153E (K : Nat) : Env := ⟨[(255, f255M K)], tys, eqs, mts, K, [0, 1, 2, 3, 4, 5, 6], [], []⟩
def f153G (K : Nat) (a0 : Int × Int × Int) (a1 : Int × Int) : Option tV :=
  (f255G K a1.2 a0.2.2).bind fun y1 => (bif (a0.2.2 != 0) then (f255G K (w (a1.1 - (w ((w ((w (a1.2 - y1)).tdiv a0.2.2)) * a0.2.1)))) a0.1).bind fun y2 => some (y2, y1) else none)
def f153M (K : Nat) : Mdl := ⟨[(.ro, sL), (.ro, sV)], [sV], fun x => f153G K x.1 x.2.1⟩
def f303E (K : Nat) : Env := ⟨[(153, f153M K)], tys, eqs, mts, K, [0, 1, 2, 3, 4], [], []⟩
def f303G (K : Nat) (a0 : Int × Int × Int) (a1 : tA × Int × Int) : Option tM :=
  (f153G K a0 a1.2).bind fun y1 => some (a1.1, y1)
def f303M (K : Nat) : Mdl := ⟨[(.ro, sL), (.ro, sM)], [sM], fun x => f303G K x.1 x.2.1⟩
def f398E (K : Nat) : Env := ⟨[], tys, eqs, mts, K, [0, 1, 2], [], []⟩
def f398G (K : Nat) (a0 : Int × Int × Int × Int) : Option (List Int) :=
  some [a0.1, a0.2.1, a0.2.2.1, a0.2.2.2]
def f398M (K : Nat) : Mdl := ⟨[(.ro, sA)], [(.list 2 sI)], fun x => f398G K x.1⟩
def f397C : Code := codeOf Tryz.f397
def f397E (K : Nat) : Env := ⟨[], tys, eqs, mts, K, [0, 1, 4, 5, 15, 26], [], []⟩
def f397_b2 (K : Nat) (a0 a1 : List Int) (L2 : Int → Option Bool) (q3 : Int) : Option Bool :=
  (bif ((!(decide (q3 < (a0.length : Int)))) || true) then (bif ((!(decide (q3 < (a0.length : Int)))) || true) then (bif ((!(decide (q3 < (a0.length : Int)))) || true) then (bif ((!(decide (q3 < (a0.length : Int)))) || true) then (bif (bif (decide (q3 < (a0.length : Int))) then (decide (q3 < (a1.length : Int))) else false) then (bif (decide (0 ≤ q3) && decide (q3 < (a0.length : Int))) then (bif (decide (0 ≤ q3) && decide (q3 < (a1.length : Int))) then (bif ((a0.getD ((0 : Int) + q3).toNat (0 : Int)) != (a1.getD ((0 : Int) + q3).toNat (0 : Int))) then (bif (decide (0 ≤ q3) && decide (q3 < (a0.length : Int))) then (bif (decide (0 ≤ q3) && decide (q3 < (a1.length : Int))) then some (decide ((a0.getD ((0 : Int) + q3).toNat (0 : Int)) < (a1.getD ((0 : Int) + q3).toNat (0 : Int)))) else none) else none) else L2 (w (q3 + (1 : Int)))) else none) else none) else some (decide ((a0.length : Int) < (a1.length : Int)))) else none) else none) else none) else none)
def f397_l2 (K : Nat) (a0 a1 : List Int) (n : Nat) (q3 : Int) : Option Bool :=
  iter (X := Int) (fun L x => (fun L2 => f397_b2 K a0 a1 L2 x) (fun v0 => L v0)) n q3
def f397_fr2 (a0 a1 : List Int) (q3 : Int) : Fr := ⟨41, [(0, .v false [.row 0]), (1, .v false [.row 1]), (4, .v false [.bool false]), (5, .v false [.int .i64 q3])], [], [some ⟨2, sI, a0, .ro⟩, some ⟨2, sI, a1, .ro⟩]⟩
def f397_k2 (K : Nat) (a0 a1 : List Int) (lr : LR Bool) : Ex → Fr → Option Bool :=
  contC (f397E K) 2 lr f397C [1, 0, 1, 0] (finK (f397E K) Tryz.f397 [(.ro, (.list 2 sI)), (.ro, (.list 2 sI))] [.bool] (a0, a1, ()))
def f397_g (K : Nat) (a0 a1 : List Int) (I2 : Int → Option Bool) : Option Bool :=
  I2 (0 : Int)
def f397G (K : Nat) (a0 a1 : List Int) : Option Bool :=
  f397_g K a0 a1 (fun d0 => f397_l2 K a0 a1 K d0)
def f397M (K : Nat) : Mdl := ⟨[(.ro, (.list 2 sI)), (.ro, (.list 2 sI))], [.bool], fun x => f397G K x.1 x.2.1⟩
def f350E (K : Nat) : Env := ⟨[(397, f397M K), (398, f398M K)], tys, eqs, mts, K, [0, 1, 2, 3, 4], [], []⟩
def f350G (K : Nat) (a0 a1 : Int × Int × Int × Int) : Option Bool :=
  (f398G K a0).bind fun y1 => (f398G K a1).bind fun y2 => (f397G K y1 y2).bind fun y3 => some y3
def f350M (K : Nat) : Mdl := ⟨[(.ro, sA), (.ro, sA)], [.bool], fun x => f350G K x.1 x.2.1⟩
def f339E (K : Nat) : Env := ⟨[], tys, eqs, mts, K, [0, 1, 2, 3, 4], [], []⟩
def f339G (K : Nat) (a0 a1 : Int × Int) : Option Bool :=
  (bif ((!(!(decide (a0.1 < a1.1)))) || true) then (bif ((!(!(decide (a0.1 < a1.1)))) || true) then (bif ((!(!(decide (a0.1 < a1.1)))) || true) then (bif ((!(!(decide (a0.1 < a1.1)))) || true) then (bif ((!(!(decide (a0.1 < a1.1)))) || true) then (bif ((!(!(decide (a0.1 < a1.1)))) || true) then (bif ((!((!(decide (a0.1 < a1.1))) && (a0.1 == a1.1))) || true) then (bif ((!((!(decide (a0.1 < a1.1))) && (a0.1 == a1.1))) || true) then (bif ((!((!(decide (a0.1 < a1.1))) && (a0.1 == a1.1))) || true) then (bif ((!((!(decide (a0.1 < a1.1))) && (a0.1 == a1.1))) || true) then (bif ((!((!(decide (a0.1 < a1.1))) && (a0.1 == a1.1))) || true) then (bif ((!(!(decide (a0.1 < a1.1)))) || true) then some (bif (decide (a0.1 < a1.1)) then true else (bif (a0.1 == a1.1) then (decide (a0.2 < a1.2)) else false)) else none) else none) else none) else none) else none) else none) else none) else none) else none) else none) else none) else none)
def f339M (K : Nat) : Mdl := ⟨[(.ro, sV), (.ro, sV)], [.bool], fun x => f339G K x.1 x.2.1⟩
def f304E (K : Nat) : Env := ⟨[(339, f339M K), (350, f350M K)], tys, eqs, mts, K, [0, 1, 2, 3, 4, 9], [], []⟩
def f304G (K : Nat) (a0 a1 : tA × Int × Int) : Option Bool :=
  (bif (!((a0.1.1 == a1.1.1) && ((a0.1.2.1 == a1.1.2.1) && ((a0.1.2.2.1 == a1.1.2.2.1) && (a0.1.2.2.2 == a1.1.2.2.2))))) then (f350G K a0.1 a1.1).bind fun y1 => some y1 else (f339G K a0.2 a1.2).bind fun y2 => some y2)
def f304M (K : Nat) : Mdl := ⟨[(.ro, sM), (.ro, sM)], [.bool], fun x => f304G K x.1 x.2.1⟩
def f328C : Code := codeOf Tryz.f328
def f328E (K : Nat) : Env := ⟨[(304, f304M K)], tys, eqs, mts, K, [0, 1, 3, 4, 5, 6, 7, 12, 22], [], []⟩
def f328_b6 (K : Nat) (a0 : List tM) (a1 : tA × Int × Int) (L6 : Int → Int → Option Int) (q7 q8 : Int) : Option Int :=
  (bif (decide (q7 < q8)) then (bif (decide (0 ≤ (w ((w (q7 + q8)).tdiv (2 : Int)))) && decide ((w ((w (q7 + q8)).tdiv (2 : Int))) < (a0.length : Int))) then (f304G K ((((a0.getD ((0 : Int) + (w ((w (q7 + q8)).tdiv (2 : Int)))).toNat zM).1).1, (((a0.getD ((0 : Int) + (w ((w (q7 + q8)).tdiv (2 : Int)))).toNat zM).1).2).1, ((((a0.getD ((0 : Int) + (w ((w (q7 + q8)).tdiv (2 : Int)))).toNat zM).1).2).2)), ((a0.getD ((0 : Int) + (w ((w (q7 + q8)).tdiv (2 : Int)))).toNat zM).2)) a1).bind fun y9 => (bif y9 then L6 (w ((w ((w (q7 + q8)).tdiv (2 : Int))) + (1 : Int))) q8 else L6 q7 (w ((w (q7 + q8)).tdiv (2 : Int)))) else none) else some q7)
def f328_l6 (K : Nat) (a0 : List tM) (a1 : tA × Int × Int) (n : Nat) (q7 q8 : Int) : Option Int :=
  iter (X := Int × Int) (fun L x => (fun L6 => f328_b6 K a0 a1 L6 x.1 x.2) (fun v0 v1 => L (v0, v1))) n (q7, q8)
def f328_fr6 (a0 : List tM) (a1 : tA × Int × Int) (q7 q8 : Int) : Fr := ⟨27, [(0, .v false [.row 0]), (1, .v true [.int .i64 a1.1.1, .int .i64 a1.1.2.1, .int .i64 a1.1.2.2.1, .int .i64 a1.1.2.2.2, .int .i64 a1.2.1, .int .i64 a1.2.2]), (3, .v false [.box 0 0]), (4, .v false [.int .i64 (0 : Int)]), (5, .v false [.int .i64 q7]), (6, .v false [.int .i64 q8])], [some ⟨true, [.int .i64 a1.1.1, .int .i64 a1.1.2.1, .int .i64 a1.1.2.2.1, .int .i64 a1.1.2.2.2, .int .i64 a1.2.1, .int .i64 a1.2.2]⟩], [some ⟨95, sM, a0, .ro⟩]⟩
def f328_k6 (K : Nat) (a0 : List tM) (a1 : tA × Int × Int) (lr : LR Int) : Ex → Fr → Option Int :=
  contC (f328E K) 1 lr f328C [1, 1, 0, 0] (finK (f328E K) Tryz.f328 [(.ro, (.list 95 sM)), (.ro, sM)] [sI] (a0, a1, ()))
def f328_g (K : Nat) (a0 : List tM) (a1 : tA × Int × Int) (I6 : Int → Int → Option Int) : Option Int :=
  I6 (0 : Int) (a0.length : Int)
def f328G (K : Nat) (a0 : List tM) (a1 : tA × Int × Int) : Option Int :=
  f328_g K a0 a1 (fun d0 d1 => f328_l6 K a0 a1 K d0 d1)
def f328M (K : Nat) : Mdl := ⟨[(.ro, (.list 95 sM)), (.ro, sM)], [sI], fun x => f328G K x.1 x.2.1⟩
def f305E (K : Nat) : Env := ⟨[(328, f328M K)], tys, eqs, mts, K, [0, 1, 3, 4, 5], [], []⟩
def f305G (K : Nat) (a0 : List tM) (a1 : tA × Int × Int) : Option Bool :=
  (f328G K a0 a1).bind fun y1 => (bif ((!(decide (y1 < (a0.length : Int)))) || true) then (bif ((!(decide (y1 < (a0.length : Int)))) || true) then (bif ((!(decide (y1 < (a0.length : Int)))) || (decide (0 ≤ y1) && decide (y1 < (a0.length : Int)))) then (bif ((!(decide (y1 < (a0.length : Int)))) || true) then (bif ((!(decide (y1 < (a0.length : Int)))) || true) then (bif ((!(decide (y1 < (a0.length : Int)))) || true) then some (bif (decide (y1 < (a0.length : Int))) then ((((a0.getD ((0 : Int) + y1).toNat zM).1).1 == a1.1.1) && (((((a0.getD ((0 : Int) + y1).toNat zM).1).2).1 == a1.1.2.1) && ((((((a0.getD ((0 : Int) + y1).toNat zM).1).2).2).1 == a1.1.2.2.1) && ((((((a0.getD ((0 : Int) + y1).toNat zM).1).2).2).2 == a1.1.2.2.2) && ((((a0.getD ((0 : Int) + y1).toNat zM).2).1 == a1.2.1) && (((a0.getD ((0 : Int) + y1).toNat zM).2).2 == a1.2.2)))))) else false) else none) else none) else none) else none) else none) else none)
def f305M (K : Nat) : Mdl := ⟨[(.ro, (.list 95 sM)), (.ro, sM)], [.bool], fun x => f305G K x.1 x.2.1⟩
def f324E (K : Nat) : Env := ⟨[(328, f328M K)], tys, eqs, mts, K, [0, 1, 3, 4, 5, 20], [], []⟩
def f324G (K : Nat) (a0 : List tM) (a1 : tA × Int × Int) : Option (List tM) :=
  (f328G K a0 a1).bind fun y1 => (bif ((!(decide (y1 < (a0.length : Int)))) || true) then (bif ((!(decide (y1 < (a0.length : Int)))) || true) then (bif ((!(decide (y1 < (a0.length : Int)))) || (decide (0 ≤ y1) && decide (y1 < (a0.length : Int)))) then (bif ((!(decide (y1 < (a0.length : Int)))) || true) then (bif ((!(decide (y1 < (a0.length : Int)))) || true) then (bif ((!(decide (y1 < (a0.length : Int)))) || true) then (bif (bif (decide (y1 < (a0.length : Int))) then ((((a0.getD ((0 : Int) + y1).toNat zM).1).1 == a1.1.1) && (((((a0.getD ((0 : Int) + y1).toNat zM).1).2).1 == a1.1.2.1) && ((((((a0.getD ((0 : Int) + y1).toNat zM).1).2).2).1 == a1.1.2.2.1) && ((((((a0.getD ((0 : Int) + y1).toNat zM).1).2).2).2 == a1.1.2.2.2) && ((((a0.getD ((0 : Int) + y1).toNat zM).2).1 == a1.2.1) && (((a0.getD ((0 : Int) + y1).toNat zM).2).2 == a1.2.2)))))) else false) then some a0 else (bif (decide (0 ≤ (0 : Int)) && decide ((0 : Int) ≤ y1) && decide (y1 ≤ (a0.length : Int))) then (bif (Nat.ble (0 + ((a0.take ((0 : Int) + y1).toNat).drop 0).length) (lim 48)) then (bif (Nat.ble (([] ++ ((a0.take ((0 : Int) + y1).toNat).drop 0)).length + [a1].length) (lim 48)) then (bif (decide (0 ≤ y1) && decide (y1 ≤ (a0.length : Int)) && decide ((a0.length : Int) ≤ (a0.length : Int))) then (bif (Nat.ble ((([] ++ ((a0.take ((0 : Int) + y1).toNat).drop 0)) ++ [a1]).length + ((a0.take ((0 : Int) + (a0.length : Int)).toNat).drop ((0 : Int) + y1).toNat).length) (lim 48)) then some ((([] ++ ((a0.take ((0 : Int) + y1).toNat).drop 0)) ++ [a1]) ++ ((a0.take ((0 : Int) + (a0.length : Int)).toNat).drop ((0 : Int) + y1).toNat)) else none) else none) else none) else none) else none)) else none) else none) else none) else none) else none) else none)
def f324M (K : Nat) : Mdl := ⟨[(.mv, (.list 95 sM)), (.ro, sM)], [(.list 95 sM)], fun x => f324G K x.1 x.2.1⟩
def f253C : Code := codeOf Tryz.f253
def f253E (K : Nat) : Env := ⟨[(303, f303M K), (305, f305M K), (306, f306M K), (307, f307M K), (324, f324M K)], tys, eqs, mts, K, [0, 1, 2, 4, 5, 6, 7, 8, 9, 17, 23, 40], [], []⟩
def f253_b21 (K : Nat) (a0 : Int × Int × Int) (a1 : List tM) (q18 : Int) (q20 : List tM) (L17 L21 : Int → (List tM) → (List tM) → Option (List tM)) (q22 : Int) (q23 q24 : List tM) : Option (List tM) :=
  (bif (decide (q22 < (a1.length : Int))) then (bif (decide (0 ≤ q22) && decide (q22 < (a1.length : Int))) then (bif (decide (0 ≤ q18) && decide (q18 < (q24.length : Int))) then (f307G K ((((a1.getD ((0 : Int) + q22).toNat zM).1).1, (((a1.getD ((0 : Int) + q22).toNat zM).1).2).1, ((((a1.getD ((0 : Int) + q22).toNat zM).1).2).2)), ((a1.getD ((0 : Int) + q22).toNat zM).2)) ((((q24.getD ((0 : Int) + q18).toNat zM).1).1, (((q24.getD ((0 : Int) + q18).toNat zM).1).2).1, ((((q24.getD ((0 : Int) + q18).toNat zM).1).2).2)), ((q24.getD ((0 : Int) + q18).toNat zM).2))).bind fun y25 => (f303G K a0 y25).bind fun y26 => (f305G K q23 y26).bind fun y27 => (bif (!y27) then (f324G K q23 y26).bind fun y28 => (bif (Nat.ble (q24.length + [y26].length) (lim 48)) then L21 (w (q22 + (1 : Int))) y28 (q24 ++ [y26]) else none) else L21 (w (q22 + (1 : Int))) q23 q24) else none) else none) else L17 (w (q18 + (1 : Int))) q23 q24)
def f253_l21 (K : Nat) (a0 : Int × Int × Int) (a1 : List tM) (q18 : Int) (q20 : List tM) (L17 : Int → (List tM) → (List tM) → Option (List tM)) (n : Nat) (q22 : Int) (q23 q24 : List tM) : Option (List tM) :=
  iter (X := Int × List tM × List tM) (fun L x => (fun L21 => f253_b21 K a0 a1 q18 q20 L17 L21 x.1 x.2.1 x.2.2) (fun v0 v1 v2 => L (v0, v1, v2))) n (q22, q23, q24)
def f253_fr21 (a0 : Int × Int × Int) (a1 : List tM) (q18 : Int) (q20 : List tM) (q22 : Int) (q23 q24 : List tM) : Fr := ⟨49, [(0, .v true [.int .i64 a0.1, .int .i64 a0.2.1, .int .i64 a0.2.2]), (1, .v false [.row 0]), (2, .v false [.box 0 0]), (4, .v false [.row 1]), (5, .v false [.row 2]), (6, .v false [.row 3]), (7, .v false [.int .i64 q18]), (8, .v false [.int .i64 q22]), (17, .v false [.bool (decide (q18 < (q20.length : Int)))])], [some ⟨true, [.int .i64 a0.1, .int .i64 a0.2.1, .int .i64 a0.2.2]⟩], [some ⟨95, sM, a1, .ro⟩, some ⟨95, sM, [], .own⟩, some ⟨95, sM, q23, .own⟩, some ⟨95, sM, q24, .own⟩]⟩
def f253_b17 (K : Nat) (a0 : Int × Int × Int) (a1 : List tM) (I21 : Int → (List tM) → Int → (List tM) → (List tM) → Option (List tM)) (L17 : Int → (List tM) → (List tM) → Option (List tM)) (q18 : Int) (q19 q20 : List tM) : Option (List tM) :=
  (bif (decide (q18 < (q20.length : Int))) then I21 q18 q20 (0 : Int) q19 q20 else some q19)
def f253_l17 (K : Nat) (a0 : Int × Int × Int) (a1 : List tM) (n : Nat) (q18 : Int) (q19 q20 : List tM) : Option (List tM) :=
  iter (X := Int × List tM × List tM) (fun L x => (fun L17 => f253_b17 K a0 a1 (fun c0 c1 d0 d1 d2 => f253_l21 K a0 a1 c0 c1 L17 K d0 d1 d2) L17 x.1 x.2.1 x.2.2) (fun v0 v1 v2 => L (v0, v1, v2))) n (q18, q19, q20)
def f253_fr17 (a0 : Int × Int × Int) (a1 : List tM) (q18 : Int) (q19 q20 : List tM) : Fr := ⟨49, [(0, .v true [.int .i64 a0.1, .int .i64 a0.2.1, .int .i64 a0.2.2]), (1, .v false [.row 0]), (2, .v false [.box 0 0]), (4, .v false [.row 1]), (5, .v false [.row 2]), (6, .v false [.row 3]), (7, .v false [.int .i64 q18])], [some ⟨true, [.int .i64 a0.1, .int .i64 a0.2.1, .int .i64 a0.2.2]⟩], [some ⟨95, sM, a1, .ro⟩, some ⟨95, sM, [], .own⟩, some ⟨95, sM, q19, .own⟩, some ⟨95, sM, q20, .own⟩]⟩
def f253_k17 (K : Nat) (a0 : Int × Int × Int) (a1 : List tM) (lr : LR (List tM)) : Ex → Fr → Option (List tM) :=
  contC (f253E K) 1 lr f253C [1, 1, 1, 0, 1, 0] (finK (f253E K) Tryz.f253 [(.ro, sL), (.ro, (.list 95 sM))] [(.list 95 sM)] (a0, a1, ()))
def f253_k21 (K : Nat) (a0 : Int × Int × Int) (a1 : List tM) (F17 : Fr → Option (List tM)) (bq18 : Int) (bq19 bq20 : List tM) (lr : LR (List tM)) : Ex → Fr → Option (List tM) :=
  contC (f253E K) 1 lr (selC f253C [1, 1, 1, 0, 1, 0, 0]) [1, 0, 0, 1, 0] (loopK 1 (f253_fr17 a0 a1 bq18 bq19 bq20) F17 (f253_k17 K a0 a1 lr))
def f253_g (K : Nat) (a0 : Int × Int × Int) (a1 : List tM) (I17 : Int → (List tM) → (List tM) → Option (List tM)) : Option (List tM) :=
  (f306G K).bind fun y1 => (f306G K).bind fun y2 => I17 (0 : Int) [y1] [y2]
def f253G (K : Nat) (a0 : Int × Int × Int) (a1 : List tM) : Option (List tM) :=
  f253_g K a0 a1 (fun d0 d1 d2 => f253_l17 K a0 a1 K d0 d1 d2)
def f253M (K : Nat) : Mdl := ⟨[(.ro, sL), (.ro, (.list 95 sM))], [(.list 95 sM)], fun x => f253G K x.1 x.2.1⟩
def f143E (K : Nat) : Env := ⟨[(141, f141M K), (252, f252M K), (253, f253M K)], tys, eqs, mts, K, [0, 1, 4, 5, 6, 7, 8, 9, 10, 11, 19, 23], [], []⟩
def f143G (K : Nat) (a0 : ByteArray) (a1 : Int) : Option (Int × tL × (List tM) × Int) :=
  (f252G K a0 a1).bind fun y1 => (bif (!y1.2.2) then some ((0 : Int), ((0 : Int), (0 : Int), (0 : Int)), [], (4 : Int)) else (f141G K a1 (1 : Int) (4 : Int)).bind fun y2 => (bif (!y2) then some ((0 : Int), ((0 : Int), (0 : Int), (0 : Int)), [], (2 : Int)) else (f253G K ((w ((2 : Int) * a1)), (0 : Int), (w ((2 : Int) * a1))) y1.2.1).bind fun y3 => some (y1.1, ((w ((2 : Int) * a1)), (0 : Int), (w ((2 : Int) * a1))), y3, (0 : Int))))
def f143M (K : Nat) : Mdl := ⟨[(.ro, .str), (.ro, sI)], [sI, sL, (.list 95 sM), sI], fun x => f143G K x.1 x.2.1⟩
def f113E (K : Nat) : Env := ⟨[(143, f143M K)], tys, eqs, mts, K, [0, 1, 4, 5, 6, 7], [], []⟩
def f113G (K : Nat) (a0 : ByteArray) (a1 : Int) : Option (Int × tL × (List tM) × Int) :=
  (f143G K a0 a1).bind fun y1 => some y1
def f113M (K : Nat) : Mdl := ⟨[(.ro, .str), (.ro, sI)], [sI, sL, (.list 95 sM), sI], fun x => f113G K x.1 x.2.1⟩
def f167E (K : Nat) : Env := ⟨[(141, f141M K)], tys, eqs, mts, K, [0, 1, 2, 3, 4], [], []⟩
def f167G (K : Nat) (a0 : Int × Int × Int) (a1 : Int × Int) : Option Bool :=
  (f141G K a1.1 (0 : Int) (w (a0.1 - (1 : Int)))).bind fun y1 => (bif ((!y1) || true) then (bif ((!y1) || true) then (bif ((!y1) || true) then (bif ((!y1) || true) then (bif ((!y1) || true) then ((bif y1 then f141G K a1.2 (0 : Int) (w (a0.2.2 - (1 : Int))) else some false)).bind fun y2 => some (bif y1 then y2 else false) else none) else none) else none) else none) else none)
def f167M (K : Nat) : Mdl := ⟨[(.ro, sL), (.ro, sV)], [.bool], fun x => f167G K x.1 x.2.1⟩
def f114C : Code := codeOf Tryz.f114
def f114E (K : Nat) : Env := ⟨[(141, f141M K), (167, f167M K)], tys, eqs, mts, K, [0, 1, 2, 4, 5, 9, 28], [], []⟩
def f114_b4 (K : Nat) (a0 : Int × Int × Int) (a1 : List (tV × Int)) (L4 : Int → Option Bool) (q5 : Int) : Option Bool :=
  (bif (decide (q5 < (a1.length : Int))) then (bif (decide (0 ≤ q5) && decide (q5 < (a1.length : Int))) then (f167G K a0 ((a1.getD ((0 : Int) + q5).toNat (((0 : Int), (0 : Int)), (0 : Int))).1)).bind fun y6 => (bif ((!(!(!y6))) || true) then (bif ((!(!(!y6))) || true) then (bif ((!(!(!y6))) || (decide (0 ≤ q5) && decide (q5 < (a1.length : Int)))) then (bif ((!(!(!y6))) || true) then (bif ((!(!(!y6))) || true) then ((bif (!(!y6)) then f141G K ((a1.getD ((0 : Int) + q5).toNat (((0 : Int), (0 : Int)), (0 : Int))).2) (0 : Int) (9 : Int) else some false)).bind fun y7 => (bif ((!(!(!y6))) || true) then (bif (bif (!y6) then true else (!y7)) then some false else L4 (w (q5 + (1 : Int)))) else none) else none) else none) else none) else none) else none) else none) else some (decide ((a1.length : Int) ≤ (100 : Int))))
def f114_l4 (K : Nat) (a0 : Int × Int × Int) (a1 : List (tV × Int)) (n : Nat) (q5 : Int) : Option Bool :=
  iter (X := Int) (fun L x => (fun L4 => f114_b4 K a0 a1 L4 x) (fun v0 => L v0)) n q5
def f114_fr4 (a0 : Int × Int × Int) (a1 : List (tV × Int)) (q5 : Int) : Fr := ⟨32, [(0, .v true [.int .i64 a0.1, .int .i64 a0.2.1, .int .i64 a0.2.2]), (1, .v false [.row 0]), (2, .v false [.box 0 0]), (4, .v false [.bool false]), (5, .v false [.int .i64 q5])], [some ⟨true, [.int .i64 a0.1, .int .i64 a0.2.1, .int .i64 a0.2.2]⟩], [some ⟨149, (.cons sV sI), a1, .ro⟩]⟩
def f114_k4 (K : Nat) (a0 : Int × Int × Int) (a1 : List (tV × Int)) (lr : LR Bool) : Ex → Fr → Option Bool :=
  contC (f114E K) 1 lr f114C [1, 0, 1, 0] (finK (f114E K) Tryz.f114 [(.ro, sL), (.ro, (.list 149 (.cons sV sI)))] [.bool] (a0, a1, ()))
def f114_g (K : Nat) (a0 : Int × Int × Int) (a1 : List (tV × Int)) (I4 : Int → Option Bool) : Option Bool :=
  I4 (0 : Int)
def f114G (K : Nat) (a0 : Int × Int × Int) (a1 : List (tV × Int)) : Option Bool :=
  f114_g K a0 a1 (fun d0 => f114_l4 K a0 a1 K d0)
def f114M (K : Nat) : Mdl := ⟨[(.ro, sL), (.ro, (.list 149 (.cons sV sI)))], [.bool], fun x => f114G K x.1 x.2.1⟩
def f232C : Code := codeOf Tryz.f232
def f232E (K : Nat) : Env := ⟨[], tys, eqs, mts, K, [0, 1, 2, 3, 4, 5, 10, 16], [], []⟩
def f232_b9 (K : Nat) (a0 : Int × Int × Int) (q7 : Int) (L6 L9 : Int → (List tV) → Option (List tV)) (q10 : Int) (q11 : List tV) : Option (List tV) :=
  (bif (decide (q10 < a0.2.2)) then (bif (Nat.ble (q11.length + [(q7, q10)].length) (lim 16)) then L9 (w (q10 + (1 : Int))) (q11 ++ [(q7, q10)]) else none) else L6 (w (q7 + (1 : Int))) q11)
def f232_l9 (K : Nat) (a0 : Int × Int × Int) (q7 : Int) (L6 : Int → (List tV) → Option (List tV)) (n : Nat) (q10 : Int) (q11 : List tV) : Option (List tV) :=
  iter (X := Int × List tV) (fun L x => (fun L9 => f232_b9 K a0 q7 L6 L9 x.1 x.2) (fun v0 v1 => L (v0, v1))) n (q10, q11)
def f232_fr9 (a0 : Int × Int × Int) (q7 q10 : Int) (q11 : List tV) : Fr := ⟨26, [(0, .v true [.int .i64 a0.1, .int .i64 a0.2.1, .int .i64 a0.2.2]), (1, .v false [.box 0 0]), (2, .v false [.row 0]), (3, .v false [.row 1]), (4, .v false [.int .i64 q7]), (5, .v false [.int .i64 q10]), (10, .v false [.bool (decide (q7 < a0.1))])], [some ⟨true, [.int .i64 a0.1, .int .i64 a0.2.1, .int .i64 a0.2.2]⟩], [some ⟨79, sV, [], .own⟩, some ⟨79, sV, q11, .own⟩]⟩
def f232_b6 (K : Nat) (a0 : Int × Int × Int) (I9 : Int → Int → (List tV) → Option (List tV)) (L6 : Int → (List tV) → Option (List tV)) (q7 : Int) (q8 : List tV) : Option (List tV) :=
  (bif (decide (q7 < a0.1)) then I9 q7 (0 : Int) q8 else some q8)
def f232_l6 (K : Nat) (a0 : Int × Int × Int) (n : Nat) (q7 : Int) (q8 : List tV) : Option (List tV) :=
  iter (X := Int × List tV) (fun L x => (fun L6 => f232_b6 K a0 (fun c0 d0 d1 => f232_l9 K a0 c0 L6 K d0 d1) L6 x.1 x.2) (fun v0 v1 => L (v0, v1))) n (q7, q8)
def f232_fr6 (a0 : Int × Int × Int) (q7 : Int) (q8 : List tV) : Fr := ⟨26, [(0, .v true [.int .i64 a0.1, .int .i64 a0.2.1, .int .i64 a0.2.2]), (1, .v false [.box 0 0]), (2, .v false [.row 0]), (3, .v false [.row 1]), (4, .v false [.int .i64 q7])], [some ⟨true, [.int .i64 a0.1, .int .i64 a0.2.1, .int .i64 a0.2.2]⟩], [some ⟨79, sV, [], .own⟩, some ⟨79, sV, q8, .own⟩]⟩
def f232_k6 (K : Nat) (a0 : Int × Int × Int) (lr : LR (List tV)) : Ex → Fr → Option (List tV) :=
  contC (f232E K) 0 lr f232C [1, 1, 0, 1, 0] (finK (f232E K) Tryz.f232 [(.ro, sL)] [(.list 79 sV)] (a0, ()))
def f232_k9 (K : Nat) (a0 : Int × Int × Int) (F6 : Fr → Option (List tV)) (bq7 : Int) (bq8 : List tV) (lr : LR (List tV)) : Ex → Fr → Option (List tV) :=
  contC (f232E K) 0 lr (selC f232C [1, 1, 0, 1, 0, 0]) [1, 0, 0, 1, 0] (loopK 0 (f232_fr6 a0 bq7 bq8) F6 (f232_k6 K a0 lr))
def f232_g (K : Nat) (a0 : Int × Int × Int) (I6 : Int → (List tV) → Option (List tV)) : Option (List tV) :=
  I6 (0 : Int) []
def f232G (K : Nat) (a0 : Int × Int × Int) : Option (List tV) :=
  f232_g K a0 (fun d0 d1 => f232_l6 K a0 K d0 d1)
def f232M (K : Nat) : Mdl := ⟨[(.ro, sL)], [(.list 79 sV)], fun x => f232G K x.1⟩
def f284E (K : Nat) : Env := ⟨[(340, f340M K), (341, f341M K)], tys, eqs, mts, K, [0, 1, 2, 3, 4], [], []⟩
def f284G (K : Nat) (a0 : tA × Int × Int) (a1 : Int × Int) : Option tV :=
  (f341G K a0.1 a1).bind fun y1 => (f340G K y1 a0.2).bind fun y2 => some y2
def f284M (K : Nat) : Mdl := ⟨[(.ro, sM), (.ro, sV)], [sV], fun x => f284G K x.1 x.2.1⟩
def f185E (K : Nat) : Env := ⟨[(153, f153M K), (284, f284M K)], tys, eqs, mts, K, [0, 1, 2, 3, 4, 5, 6], [], []⟩
def f185G (K : Nat) (a0 : Int × Int × Int) (a1 : tA × Int × Int) (a2 : Int × Int) : Option tV :=
  (f284G K a1 a2).bind fun y1 => (f153G K a0 y1).bind fun y2 => some y2
def f185M (K : Nat) : Mdl := ⟨[(.ro, sL), (.ro, sM), (.ro, sV)], [sV], fun x => f185G K x.1 x.2.1 x.2.2.1⟩
def f280C : Code := codeOf Tryz.f280
def f280E (K : Nat) : Env := ⟨[(339, f339M K)], tys, eqs, mts, K, [0, 1, 3, 4, 5, 17, 31], [], []⟩
def f280_b3 (K : Nat) (a0 : List tV) (a1 : Int × Int) (L3 : Int → Option (List tV)) (q4 : Int) : Option (List tV) :=
  (bif ((!(decide (q4 < (a0.length : Int)))) || true) then (bif ((!(decide (q4 < (a0.length : Int)))) || true) then (bif ((!(decide (q4 < (a0.length : Int)))) || (decide (0 ≤ q4) && decide (q4 < (a0.length : Int)))) then (bif ((!(decide (q4 < (a0.length : Int)))) || true) then (bif ((!(decide (q4 < (a0.length : Int)))) || true) then ((bif (decide (q4 < (a0.length : Int))) then f339G K (a0.getD ((0 : Int) + q4).toNat ((0 : Int), (0 : Int))) a1 else some false)).bind fun y5 => (bif (bif (decide (q4 < (a0.length : Int))) then y5 else false) then L3 (w (q4 + (1 : Int))) else (bif ((!(decide (q4 < (a0.length : Int)))) || true) then (bif ((!(decide (q4 < (a0.length : Int)))) || true) then (bif ((!(decide (q4 < (a0.length : Int)))) || (decide (0 ≤ q4) && decide (q4 < (a0.length : Int)))) then (bif ((!(decide (q4 < (a0.length : Int)))) || true) then (bif ((!(decide (q4 < (a0.length : Int)))) || true) then (bif ((!(decide (q4 < (a0.length : Int)))) || true) then (bif (bif (decide (q4 < (a0.length : Int))) then (((a0.getD ((0 : Int) + q4).toNat ((0 : Int), (0 : Int))).1 == a1.1) && ((a0.getD ((0 : Int) + q4).toNat ((0 : Int), (0 : Int))).2 == a1.2)) else false) then some a0 else (bif (decide (0 ≤ (0 : Int)) && decide ((0 : Int) ≤ q4) && decide (q4 ≤ (a0.length : Int))) then (bif (Nat.ble (0 + ((a0.take ((0 : Int) + q4).toNat).drop 0).length) (lim 16)) then (bif (Nat.ble (([] ++ ((a0.take ((0 : Int) + q4).toNat).drop 0)).length + [a1].length) (lim 16)) then (bif (decide (0 ≤ q4) && decide (q4 ≤ (a0.length : Int)) && decide ((a0.length : Int) ≤ (a0.length : Int))) then (bif (Nat.ble ((([] ++ ((a0.take ((0 : Int) + q4).toNat).drop 0)) ++ [a1]).length + ((a0.take ((0 : Int) + (a0.length : Int)).toNat).drop ((0 : Int) + q4).toNat).length) (lim 16)) then some ((([] ++ ((a0.take ((0 : Int) + q4).toNat).drop 0)) ++ [a1]) ++ ((a0.take ((0 : Int) + (a0.length : Int)).toNat).drop ((0 : Int) + q4).toNat)) else none) else none) else none) else none) else none)) else none) else none) else none) else none) else none) else none)) else none) else none) else none) else none) else none)
def f280_l3 (K : Nat) (a0 : List tV) (a1 : Int × Int) (n : Nat) (q4 : Int) : Option (List tV) :=
  iter (X := Int) (fun L x => (fun L3 => f280_b3 K a0 a1 L3 x) (fun v0 => L v0)) n q4
def f280_fr3 (a0 : List tV) (a1 : Int × Int) (q4 : Int) : Fr := ⟨45, [(0, .v false [.row 0]), (1, .v true [.int .i64 a1.1, .int .i64 a1.2]), (3, .v false [.box 0 0]), (4, .v false [.row 1]), (5, .v false [.int .i64 q4])], [some ⟨true, [.int .i64 a1.1, .int .i64 a1.2]⟩], [some ⟨79, sV, a0, .own⟩, some ⟨79, sV, [], .own⟩]⟩
def f280_k3 (K : Nat) (a0 : List tV) (a1 : Int × Int) (lr : LR (List tV)) : Ex → Fr → Option (List tV) :=
  contC (f280E K) 1 lr f280C [1, 1, 0, 0] (finK (f280E K) Tryz.f280 [(.mv, (.list 79 sV)), (.ro, sV)] [(.list 79 sV)] (a0, a1, ()))
def f280_g (K : Nat) (a0 : List tV) (a1 : Int × Int) (I3 : Int → Option (List tV)) : Option (List tV) :=
  I3 (0 : Int)
def f280G (K : Nat) (a0 : List tV) (a1 : Int × Int) : Option (List tV) :=
  f280_g K a0 a1 (fun d0 => f280_l3 K a0 a1 K d0)
def f280M (K : Nat) : Mdl := ⟨[(.mv, (.list 79 sV)), (.ro, sV)], [(.list 79 sV)], fun x => f280G K x.1 x.2.1⟩
def f247C : Code := codeOf Tryz.f247
def f247E (K : Nat) : Env := ⟨[(185, f185M K), (280, f280M K)], tys, eqs, mts, K, [0, 1, 2, 3, 5, 6, 7, 8, 13], [], []⟩
def f247_b4 (K : Nat) (a0 : Int × Int × Int) (a1 : List tM) (a2 : Int × Int) (L4 : Int → (List tV) → Option (List tV)) (q5 : Int) (q6 : List tV) : Option (List tV) :=
  (bif (decide (q5 < (a1.length : Int))) then (bif (decide (0 ≤ q5) && decide (q5 < (a1.length : Int))) then (f185G K a0 ((((a1.getD ((0 : Int) + q5).toNat zM).1).1, (((a1.getD ((0 : Int) + q5).toNat zM).1).2).1, ((((a1.getD ((0 : Int) + q5).toNat zM).1).2).2)), ((a1.getD ((0 : Int) + q5).toNat zM).2)) a2).bind fun y7 => (f280G K q6 y7).bind fun y8 => L4 (w (q5 + (1 : Int))) y8 else none) else some q6)
def f247_l4 (K : Nat) (a0 : Int × Int × Int) (a1 : List tM) (a2 : Int × Int) (n : Nat) (q5 : Int) (q6 : List tV) : Option (List tV) :=
  iter (X := Int × List tV) (fun L x => (fun L4 => f247_b4 K a0 a1 a2 L4 x.1 x.2) (fun v0 v1 => L (v0, v1))) n (q5, q6)
def f247_fr4 (a0 : Int × Int × Int) (a1 : List tM) (a2 : Int × Int) (q5 : Int) (q6 : List tV) : Fr := ⟨26, [(0, .v true [.int .i64 a0.1, .int .i64 a0.2.1, .int .i64 a0.2.2]), (1, .v false [.row 0]), (2, .v true [.int .i64 a2.1, .int .i64 a2.2]), (3, .v false [.box 0 0]), (5, .v false [.box 1 0]), (6, .v false [.row 1]), (7, .v false [.row 2]), (8, .v false [.int .i64 q5])], [some ⟨true, [.int .i64 a0.1, .int .i64 a0.2.1, .int .i64 a0.2.2]⟩, some ⟨true, [.int .i64 a2.1, .int .i64 a2.2]⟩], [some ⟨95, sM, a1, .ro⟩, some ⟨79, sV, [], .own⟩, some ⟨79, sV, q6, .own⟩]⟩
def f247_k4 (K : Nat) (a0 : Int × Int × Int) (a1 : List tM) (a2 : Int × Int) (lr : LR (List tV)) : Ex → Fr → Option (List tV) :=
  contC (f247E K) 1 lr f247C [1, 1, 0, 1, 0] (finK (f247E K) Tryz.f247 [(.ro, sL), (.ro, (.list 95 sM)), (.ro, sV)] [(.list 79 sV)] (a0, a1, a2, ()))
def f247_g (K : Nat) (a0 : Int × Int × Int) (a1 : List tM) (a2 : Int × Int) (I4 : Int → (List tV) → Option (List tV)) : Option (List tV) :=
  I4 (0 : Int) []
def f247G (K : Nat) (a0 : Int × Int × Int) (a1 : List tM) (a2 : Int × Int) : Option (List tV) :=
  f247_g K a0 a1 a2 (fun d0 d1 => f247_l4 K a0 a1 a2 K d0 d1)
def f247M (K : Nat) : Mdl := ⟨[(.ro, sL), (.ro, (.list 95 sM)), (.ro, sV)], [(.list 79 sV)], fun x => f247G K x.1 x.2.1 x.2.2.1⟩
def f135C : Code := codeOf Tryz.f135
def f135E (K : Nat) : Env := ⟨[(232, f232M K), (247, f247M K)], tys, eqs, mts, K, [0, 1, 2, 4, 5, 6, 7, 8, 15, 32], [], []⟩
def f135_b4 (K : Nat) (a0 : Int × Int × Int) (a1 : List tM) (y1 : List tV) (L4 : Int → (List (List tV)) → Option (List (List tV))) (q5 : Int) (q6 : List (List tV)) : Option (List (List tV)) :=
  (bif (decide (q5 < (y1.length : Int))) then (bif (decide (0 ≤ q5) && decide (q5 < (y1.length : Int))) then (f247G K a0 a1 (y1.getD ((0 : Int) + q5).toNat ((0 : Int), (0 : Int)))).bind fun y7 => (bif (decide (0 ≤ (0 : Int)) && decide ((0 : Int) < (y7.length : Int))) then (bif (decide (0 ≤ q5) && decide (q5 < (y1.length : Int))) then (bif (((y7.getD ((0 : Int) + (0 : Int)).toNat ((0 : Int), (0 : Int))).1 == (y1.getD ((0 : Int) + q5).toNat ((0 : Int), (0 : Int))).1) && ((y7.getD ((0 : Int) + (0 : Int)).toNat ((0 : Int), (0 : Int))).2 == (y1.getD ((0 : Int) + q5).toNat ((0 : Int), (0 : Int))).2)) then (bif (Nat.ble (q6.length + [y7].length) (lim 24)) then L4 (w (q5 + (1 : Int))) (q6 ++ [y7]) else none) else L4 (w (q5 + (1 : Int))) q6) else none) else none) else none) else some q6)
def f135_l4 (K : Nat) (a0 : Int × Int × Int) (a1 : List tM) (y1 : List tV) (n : Nat) (q5 : Int) (q6 : List (List tV)) : Option (List (List tV)) :=
  iter (X := Int × List (List tV)) (fun L x => (fun L4 => f135_b4 K a0 a1 y1 L4 x.1 x.2) (fun v0 v1 => L (v0, v1))) n (q5, q6)
def f135_fr4 (a0 : Int × Int × Int) (a1 : List tM) (y1 : List tV) (q5 : Int) (q6 : List (List tV)) : Fr := ⟨38, [(0, .v true [.int .i64 a0.1, .int .i64 a0.2.1, .int .i64 a0.2.2]), (1, .v false [.row 0]), (2, .v false [.box 0 0]), (4, .v false [.row 1]), (5, .v false [.row 2]), (6, .v false [.row 3]), (7, .v false [.int .i64 q5])], [some ⟨true, [.int .i64 a0.1, .int .i64 a0.2.1, .int .i64 a0.2.2]⟩], [some ⟨95, sM, a1, .ro⟩, some ⟨84, (.list 79 sV), [], .own⟩, some ⟨79, sV, y1, .own⟩, some ⟨84, (.list 79 sV), q6, .own⟩]⟩
def f135_k4 (K : Nat) (a0 : Int × Int × Int) (a1 : List tM) (lr : LR (List (List tV))) : Ex → Fr → Option (List (List tV)) :=
  contC (f135E K) 1 lr f135C [1, 1, 1, 0, 1, 0] (finK (f135E K) Tryz.f135 [(.ro, sL), (.ro, (.list 95 sM))] [(.list 84 (.list 79 sV))] (a0, a1, ()))
def f135_g (K : Nat) (a0 : Int × Int × Int) (a1 : List tM) (I4 : (List tV) → Int → (List (List tV)) → Option (List (List tV))) : Option (List (List tV)) :=
  (f232G K a0).bind fun y1 => I4 y1 (0 : Int) []
def f135G (K : Nat) (a0 : Int × Int × Int) (a1 : List tM) : Option (List (List tV)) :=
  f135_g K a0 a1 (fun c0 d0 d1 => f135_l4 K a0 a1 c0 K d0 d1)
def f135M (K : Nat) : Mdl := ⟨[(.ro, sL), (.ro, (.list 95 sM))], [(.list 84 (.list 79 sV))], fun x => f135G K x.1 x.2.1⟩
def f127E (K : Nat) : Env := ⟨[(153, f153M K)], tys, eqs, mts, K, [0, 1, 2, 3, 4], [], []⟩
def f127G (K : Nat) (a0 : Int × Int × Int) (a1 : Int × Int) : Option Int :=
  (f153G K a0 a1).bind fun y1 => some (w ((w (y1.1 * a0.2.2)) + y1.2))
def f127M (K : Nat) : Mdl := ⟨[(.ro, sL), (.ro, sV)], [sI], fun x => f127G K x.1 x.2.1⟩
def f126C : Code := codeOf Tryz.f126
def f126E (K : Nat) : Env := ⟨[(127, f127M K), (135, f135M K)], tys, eqs, mts, K, [0, 1, 2, 4, 5, 6, 7, 8, 21, 30], [], []⟩
def f126_b12 (K : Nat) (a0 : Int × Int × Int) (a1 : List tM) (q10 : Int) (y1 : List (List tV)) (L9 L12 : Int → (List Int) → Option (List Int)) (q13 : Int) (q14 : List Int) : Option (List Int) :=
  (bif (decide (0 ≤ q10) && decide (q10 < (y1.length : Int))) then (bif (decide (q13 < ((y1.getD ((0 : Int) + q10).toNat []).length : Int))) then (bif (decide (0 ≤ q10) && decide (q10 < (y1.length : Int))) then (bif (decide (0 ≤ q13) && decide (q13 < ((y1.getD ((0 : Int) + q10).toNat []).length : Int))) then (f127G K a0 ((y1.getD ((0 : Int) + q10).toNat []).getD ((0 : Int) + q13).toNat ((0 : Int), (0 : Int)))).bind fun y15 => (bif (decide (0 ≤ y15) && decide (y15 < (q14.length : Int))) then L12 (w (q13 + (1 : Int))) (q14.set ((0 : Int) + y15).toNat q10) else none) else none) else none) else L9 (w (q10 + (1 : Int))) q14) else none)
def f126_l12 (K : Nat) (a0 : Int × Int × Int) (a1 : List tM) (q10 : Int) (y1 : List (List tV)) (L9 : Int → (List Int) → Option (List Int)) (n : Nat) (q13 : Int) (q14 : List Int) : Option (List Int) :=
  iter (X := Int × List Int) (fun L x => (fun L12 => f126_b12 K a0 a1 q10 y1 L9 L12 x.1 x.2) (fun v0 v1 => L (v0, v1))) n (q13, q14)
def f126_fr12 (a0 : Int × Int × Int) (a1 : List tM) (q10 : Int) (y1 : List (List tV)) (q13 : Int) (q14 : List Int) : Fr := ⟨46, [(0, .v true [.int .i64 a0.1, .int .i64 a0.2.1, .int .i64 a0.2.2]), (1, .v false [.row 0]), (2, .v false [.box 0 0]), (4, .v false [.row 1]), (5, .v false [.row 2]), (6, .v false [.row 3]), (7, .v false [.int .i64 q10]), (8, .v false [.int .i64 q13]), (21, .v false [.bool (decide (q10 < (y1.length : Int)))])], [some ⟨true, [.int .i64 a0.1, .int .i64 a0.2.1, .int .i64 a0.2.2]⟩], [some ⟨95, sM, a1, .ro⟩, some ⟨2, sI, [], .own⟩, some ⟨2, sI, q14, .own⟩, some ⟨84, (.list 79 sV), y1, .own⟩]⟩
def f126_b9 (K : Nat) (a0 : Int × Int × Int) (a1 : List tM) (y1 : List (List tV)) (I12 : Int → Int → (List Int) → Option (List Int)) (L9 : Int → (List Int) → Option (List Int)) (q10 : Int) (q11 : List Int) : Option (List Int) :=
  (bif (decide (q10 < (y1.length : Int))) then I12 q10 (0 : Int) q11 else some q11)
def f126_l9 (K : Nat) (a0 : Int × Int × Int) (a1 : List tM) (y1 : List (List tV)) (n : Nat) (q10 : Int) (q11 : List Int) : Option (List Int) :=
  iter (X := Int × List Int) (fun L x => (fun L9 => f126_b9 K a0 a1 y1 (fun c0 d0 d1 => f126_l12 K a0 a1 c0 y1 L9 K d0 d1) L9 x.1 x.2) (fun v0 v1 => L (v0, v1))) n (q10, q11)
def f126_fr9 (a0 : Int × Int × Int) (a1 : List tM) (y1 : List (List tV)) (q10 : Int) (q11 : List Int) : Fr := ⟨46, [(0, .v true [.int .i64 a0.1, .int .i64 a0.2.1, .int .i64 a0.2.2]), (1, .v false [.row 0]), (2, .v false [.box 0 0]), (4, .v false [.row 1]), (5, .v false [.row 2]), (6, .v false [.row 3]), (7, .v false [.int .i64 q10])], [some ⟨true, [.int .i64 a0.1, .int .i64 a0.2.1, .int .i64 a0.2.2]⟩], [some ⟨95, sM, a1, .ro⟩, some ⟨2, sI, [], .own⟩, some ⟨2, sI, q11, .own⟩, some ⟨84, (.list 79 sV), y1, .own⟩]⟩
def f126_k9 (K : Nat) (a0 : Int × Int × Int) (a1 : List tM) (lr : LR (List Int)) : Ex → Fr → Option (List Int) :=
  contC (f126E K) 1 lr f126C [1, 1, 1, 0, 1, 0] (finK (f126E K) Tryz.f126 [(.ro, sL), (.ro, (.list 95 sM))] [(.list 2 sI)] (a0, a1, ()))
def f126_k12 (K : Nat) (a0 : Int × Int × Int) (a1 : List tM) (y1 : List (List tV)) (F9 : Fr → Option (List Int)) (bq10 : Int) (bq11 : List Int) (lr : LR (List Int)) : Ex → Fr → Option (List Int) :=
  contC (f126E K) 1 lr (selC f126C [1, 1, 1, 0, 1, 0, 0]) [1, 0, 0, 1, 0] (loopK 1 (f126_fr9 a0 a1 y1 bq10 bq11) F9 (f126_k9 K a0 a1 lr))
def f126_g (K : Nat) (a0 : Int × Int × Int) (a1 : List tM) (I9 : (List (List tV)) → Int → (List Int) → Option (List Int)) : Option (List Int) :=
  (bif (decide (0 ≤ (w (a0.1 * a0.2.2))) && Nat.ble (w (a0.1 * a0.2.2)).toNat (lim 8) && ((w (a0.1 * a0.2.2)) == (w (a0.1 * a0.2.2)))) then (f135G K a0 a1).bind fun y1 => I9 y1 (0 : Int) (List.replicate (w (a0.1 * a0.2.2)).toNat (0 : Int)) else none)
def f126G (K : Nat) (a0 : Int × Int × Int) (a1 : List tM) : Option (List Int) :=
  f126_g K a0 a1 (fun c0 d0 d1 => f126_l9 K a0 a1 c0 K d0 d1)
def f126M (K : Nat) : Mdl := ⟨[(.ro, sL), (.ro, (.list 95 sM))], [(.list 2 sI)], fun x => f126G K x.1 x.2.1⟩
def f26C : Code := codeOf Tryz.f26
def f26E (K : Nat) : Env := ⟨[(113, f113M K), (114, f114M K), (126, f126M K), (127, f127M K)], tys, eqs, mts, K, [0, 1, 2, 6, 7, 9, 10, 11, 12, 13, 14, 15, 16, 32, 34, 43, 51, 78], [], []⟩
def f26_b16 (K : Nat) (a0 : ByteArray) (a1 : Int) (a2 : List (tV × Int)) (q14 : Int) (q15 : List (tV × Int)) (y1 : Int × tL × (List tM) × Int) (y2 : Bool) (y3 : List Int) (L13 : Int → (List (tV × Int)) → Option ((List (tV × Int)) × Int)) (L16 : Bool → Int → Option ((List (tV × Int)) × Int)) (q17 : Bool) (q18 : Int) : Option ((List (tV × Int)) × Int) :=
  (bif (decide (q18 < (a2.length : Int))) then (bif ((!q17) || true) then (bif ((!q17) || true) then (bif ((!q17) || true) then (bif ((!q17) || true) then (bif ((!q17) || (decide (0 ≤ q18) && decide (q18 < (a2.length : Int)))) then (bif ((!q17) || true) then (bif ((!q17) || true) then ((bif q17 then f127G K y1.2.1 ((a2.getD ((0 : Int) + q18).toNat (((0 : Int), (0 : Int)), (0 : Int))).1) else some (0 : Int))).bind fun y19 => (bif ((!q17) || (decide (0 ≤ y19) && decide (y19 < (y3.length : Int)))) then (bif ((!q17) || true) then (bif ((!q17) || true) then (bif ((!q17) || true) then (bif ((!q17) || true) then (bif ((!q17) || true) then (bif ((!q17) || (decide (0 ≤ q14) && decide (q14 < (a2.length : Int)))) then (bif ((!q17) || true) then (bif ((!q17) || true) then ((bif q17 then f127G K y1.2.1 ((a2.getD ((0 : Int) + q14).toNat (((0 : Int), (0 : Int)), (0 : Int))).1) else some (0 : Int))).bind fun y20 => (bif ((!q17) || (decide (0 ≤ y20) && decide (y20 < (y3.length : Int)))) then (bif ((!q17) || true) then (bif ((!q17) || true) then L16 (bif q17 then ((y3.getD ((0 : Int) + y19).toNat (0 : Int)) != (y3.getD ((0 : Int) + y20).toNat (0 : Int))) else false) (w (q18 + (1 : Int))) else none) else none) else none) else none) else none) else none) else none) else none) else none) else none) else none) else none) else none) else none) else none) else none) else none) else none) else none) else (bif q17 then (bif (decide (0 ≤ q14) && decide (q14 < (a2.length : Int))) then (bif (Nat.ble (q15.length + [(((a2.getD ((0 : Int) + q14).toNat (((0 : Int), (0 : Int)), (0 : Int))).1), (a2.getD ((0 : Int) + q14).toNat (((0 : Int), (0 : Int)), (0 : Int))).2)].length) (lim 24)) then L13 (w (q14 + (1 : Int))) (q15 ++ [(((a2.getD ((0 : Int) + q14).toNat (((0 : Int), (0 : Int)), (0 : Int))).1), (a2.getD ((0 : Int) + q14).toNat (((0 : Int), (0 : Int)), (0 : Int))).2)]) else none) else none) else L13 (w (q14 + (1 : Int))) q15))
def f26_l16 (K : Nat) (a0 : ByteArray) (a1 : Int) (a2 : List (tV × Int)) (q14 : Int) (q15 : List (tV × Int)) (y1 : Int × tL × (List tM) × Int) (y2 : Bool) (y3 : List Int) (L13 : Int → (List (tV × Int)) → Option ((List (tV × Int)) × Int)) (n : Nat) (q17 : Bool) (q18 : Int) : Option ((List (tV × Int)) × Int) :=
  iter (X := Bool × Int) (fun L x => (fun L16 => f26_b16 K a0 a1 a2 q14 q15 y1 y2 y3 L13 L16 x.1 x.2) (fun v0 v1 => L (v0, v1))) n (q17, q18)
def f26_fr16 (a0 : ByteArray) (a1 : Int) (a2 : List (tV × Int)) (q14 : Int) (q15 : List (tV × Int)) (y1 : Int × tL × (List tM) × Int) (y2 : Bool) (y3 : List Int) (q17 : Bool) (q18 : Int) : Fr := ⟨87, [(0, .v false [.str a0]), (1, .v false [.int .i64 a1]), (2, .v false [.row 0]), (6, .v false [.row 1]), (7, .v false [.int .i64 (0 : Int)]), (9, .v false [.box 0 0]), (10, .v false [.row 2]), (11, .v false [.int .i64 (2 : Int)]), (12, .v false [.row 3]), (13, .v false [.row 4]), (14, .v false [.int .i64 q14]), (15, .v false [.bool q17]), (16, .v false [.int .i64 q18]), (32, .v false [.bool (bif (y1.2.2.2 == (0 : Int)) then (!y2) else false)]), (34, .v false [.bool ((2 : Int) != (0 : Int))]), (43, .v false [.bool (decide (q14 < (a2.length : Int)))])], [some ⟨true, [.int .i64 y1.2.1.1, .int .i64 y1.2.1.2.1, .int .i64 y1.2.1.2.2]⟩], [some ⟨149, (.cons sV sI), a2, .ro⟩, some ⟨149, (.cons sV sI), [], .own⟩, some ⟨95, sM, y1.2.2.1, .own⟩, some ⟨2, sI, y3, .own⟩, some ⟨149, (.cons sV sI), q15, .own⟩]⟩
def f26_b13 (K : Nat) (a0 : ByteArray) (a1 : Int) (a2 : List (tV × Int)) (y1 : Int × tL × (List tM) × Int) (y2 : Bool) (y3 : List Int) (I16 : Int → (List (tV × Int)) → Bool → Int → Option ((List (tV × Int)) × Int)) (L13 : Int → (List (tV × Int)) → Option ((List (tV × Int)) × Int)) (q14 : Int) (q15 : List (tV × Int)) : Option ((List (tV × Int)) × Int) :=
  (bif (decide (q14 < (a2.length : Int))) then I16 q14 q15 true (w (q14 + (1 : Int))) else some (q15, (0 : Int)))
def f26_l13 (K : Nat) (a0 : ByteArray) (a1 : Int) (a2 : List (tV × Int)) (y1 : Int × tL × (List tM) × Int) (y2 : Bool) (y3 : List Int) (n : Nat) (q14 : Int) (q15 : List (tV × Int)) : Option ((List (tV × Int)) × Int) :=
  iter (X := Int × List (tV × Int)) (fun L x => (fun L13 => f26_b13 K a0 a1 a2 y1 y2 y3 (fun c0 c1 d0 d1 => f26_l16 K a0 a1 a2 c0 c1 y1 y2 y3 L13 K d0 d1) L13 x.1 x.2) (fun v0 v1 => L (v0, v1))) n (q14, q15)
def f26_fr13 (a0 : ByteArray) (a1 : Int) (a2 : List (tV × Int)) (y1 : Int × tL × (List tM) × Int) (y2 : Bool) (y3 : List Int) (q14 : Int) (q15 : List (tV × Int)) : Fr := ⟨87, [(0, .v false [.str a0]), (1, .v false [.int .i64 a1]), (2, .v false [.row 0]), (6, .v false [.row 1]), (7, .v false [.int .i64 (0 : Int)]), (9, .v false [.box 0 0]), (10, .v false [.row 2]), (11, .v false [.int .i64 (2 : Int)]), (12, .v false [.row 3]), (13, .v false [.row 4]), (14, .v false [.int .i64 q14]), (32, .v false [.bool (bif (y1.2.2.2 == (0 : Int)) then (!y2) else false)]), (34, .v false [.bool ((2 : Int) != (0 : Int))])], [some ⟨true, [.int .i64 y1.2.1.1, .int .i64 y1.2.1.2.1, .int .i64 y1.2.1.2.2]⟩], [some ⟨149, (.cons sV sI), a2, .ro⟩, some ⟨149, (.cons sV sI), [], .own⟩, some ⟨95, sM, y1.2.2.1, .own⟩, some ⟨2, sI, y3, .own⟩, some ⟨149, (.cons sV sI), q15, .own⟩]⟩
def f26_b25 (K : Nat) (a0 : ByteArray) (a1 : Int) (a2 : List (tV × Int)) (q23 : Int) (q24 : List (tV × Int)) (y1 : Int × tL × (List tM) × Int) (y2 : Bool) (y21 : List Int) (L22 : Int → (List (tV × Int)) → Option ((List (tV × Int)) × Int)) (L25 : Bool → Int → Option ((List (tV × Int)) × Int)) (q26 : Bool) (q27 : Int) : Option ((List (tV × Int)) × Int) :=
  (bif (decide (q27 < (a2.length : Int))) then (bif ((!q26) || true) then (bif ((!q26) || true) then (bif ((!q26) || true) then (bif ((!q26) || true) then (bif ((!q26) || (decide (0 ≤ q27) && decide (q27 < (a2.length : Int)))) then (bif ((!q26) || true) then (bif ((!q26) || true) then ((bif q26 then f127G K y1.2.1 ((a2.getD ((0 : Int) + q27).toNat (((0 : Int), (0 : Int)), (0 : Int))).1) else some (0 : Int))).bind fun y28 => (bif ((!q26) || (decide (0 ≤ y28) && decide (y28 < (y21.length : Int)))) then (bif ((!q26) || true) then (bif ((!q26) || true) then (bif ((!q26) || true) then (bif ((!q26) || true) then (bif ((!q26) || true) then (bif ((!q26) || (decide (0 ≤ q23) && decide (q23 < (a2.length : Int)))) then (bif ((!q26) || true) then (bif ((!q26) || true) then ((bif q26 then f127G K y1.2.1 ((a2.getD ((0 : Int) + q23).toNat (((0 : Int), (0 : Int)), (0 : Int))).1) else some (0 : Int))).bind fun y29 => (bif ((!q26) || (decide (0 ≤ y29) && decide (y29 < (y21.length : Int)))) then (bif ((!q26) || true) then (bif ((!q26) || true) then L25 (bif q26 then ((y21.getD ((0 : Int) + y28).toNat (0 : Int)) != (y21.getD ((0 : Int) + y29).toNat (0 : Int))) else false) (w (q27 + (1 : Int))) else none) else none) else none) else none) else none) else none) else none) else none) else none) else none) else none) else none) else none) else none) else none) else none) else none) else none) else none) else (bif q26 then (bif (decide (0 ≤ q23) && decide (q23 < (a2.length : Int))) then (bif (Nat.ble (q24.length + [(((a2.getD ((0 : Int) + q23).toNat (((0 : Int), (0 : Int)), (0 : Int))).1), (a2.getD ((0 : Int) + q23).toNat (((0 : Int), (0 : Int)), (0 : Int))).2)].length) (lim 24)) then L22 (w (q23 + (1 : Int))) (q24 ++ [(((a2.getD ((0 : Int) + q23).toNat (((0 : Int), (0 : Int)), (0 : Int))).1), (a2.getD ((0 : Int) + q23).toNat (((0 : Int), (0 : Int)), (0 : Int))).2)]) else none) else none) else L22 (w (q23 + (1 : Int))) q24))
def f26_l25 (K : Nat) (a0 : ByteArray) (a1 : Int) (a2 : List (tV × Int)) (q23 : Int) (q24 : List (tV × Int)) (y1 : Int × tL × (List tM) × Int) (y2 : Bool) (y21 : List Int) (L22 : Int → (List (tV × Int)) → Option ((List (tV × Int)) × Int)) (n : Nat) (q26 : Bool) (q27 : Int) : Option ((List (tV × Int)) × Int) :=
  iter (X := Bool × Int) (fun L x => (fun L25 => f26_b25 K a0 a1 a2 q23 q24 y1 y2 y21 L22 L25 x.1 x.2) (fun v0 v1 => L (v0, v1))) n (q26, q27)
def f26_fr25 (a0 : ByteArray) (a1 : Int) (a2 : List (tV × Int)) (q23 : Int) (q24 : List (tV × Int)) (y1 : Int × tL × (List tM) × Int) (y2 : Bool) (y21 : List Int) (q26 : Bool) (q27 : Int) : Fr := ⟨87, [(0, .v false [.str a0]), (1, .v false [.int .i64 a1]), (2, .v false [.row 0]), (6, .v false [.row 1]), (7, .v false [.int .i64 (0 : Int)]), (9, .v false [.box 0 0]), (10, .v false [.row 2]), (11, .v false [.int .i64 y1.2.2.2]), (12, .v false [.row 3]), (13, .v false [.row 4]), (14, .v false [.int .i64 q23]), (15, .v false [.bool q26]), (16, .v false [.int .i64 q27]), (32, .v false [.bool (bif (y1.2.2.2 == (0 : Int)) then (!y2) else false)]), (34, .v false [.bool (y1.2.2.2 != (0 : Int))]), (43, .v false [.bool (decide (q23 < (a2.length : Int)))])], [some ⟨true, [.int .i64 y1.2.1.1, .int .i64 y1.2.1.2.1, .int .i64 y1.2.1.2.2]⟩], [some ⟨149, (.cons sV sI), a2, .ro⟩, some ⟨149, (.cons sV sI), [], .own⟩, some ⟨95, sM, y1.2.2.1, .own⟩, some ⟨2, sI, y21, .own⟩, some ⟨149, (.cons sV sI), q24, .own⟩]⟩
def f26_b22 (K : Nat) (a0 : ByteArray) (a1 : Int) (a2 : List (tV × Int)) (y1 : Int × tL × (List tM) × Int) (y2 : Bool) (y21 : List Int) (I25 : Int → (List (tV × Int)) → Bool → Int → Option ((List (tV × Int)) × Int)) (L22 : Int → (List (tV × Int)) → Option ((List (tV × Int)) × Int)) (q23 : Int) (q24 : List (tV × Int)) : Option ((List (tV × Int)) × Int) :=
  (bif (decide (q23 < (a2.length : Int))) then I25 q23 q24 true (w (q23 + (1 : Int))) else some (q24, (0 : Int)))
def f26_l22 (K : Nat) (a0 : ByteArray) (a1 : Int) (a2 : List (tV × Int)) (y1 : Int × tL × (List tM) × Int) (y2 : Bool) (y21 : List Int) (n : Nat) (q23 : Int) (q24 : List (tV × Int)) : Option ((List (tV × Int)) × Int) :=
  iter (X := Int × List (tV × Int)) (fun L x => (fun L22 => f26_b22 K a0 a1 a2 y1 y2 y21 (fun c0 c1 d0 d1 => f26_l25 K a0 a1 a2 c0 c1 y1 y2 y21 L22 K d0 d1) L22 x.1 x.2) (fun v0 v1 => L (v0, v1))) n (q23, q24)
def f26_fr22 (a0 : ByteArray) (a1 : Int) (a2 : List (tV × Int)) (y1 : Int × tL × (List tM) × Int) (y2 : Bool) (y21 : List Int) (q23 : Int) (q24 : List (tV × Int)) : Fr := ⟨87, [(0, .v false [.str a0]), (1, .v false [.int .i64 a1]), (2, .v false [.row 0]), (6, .v false [.row 1]), (7, .v false [.int .i64 (0 : Int)]), (9, .v false [.box 0 0]), (10, .v false [.row 2]), (11, .v false [.int .i64 y1.2.2.2]), (12, .v false [.row 3]), (13, .v false [.row 4]), (14, .v false [.int .i64 q23]), (32, .v false [.bool (bif (y1.2.2.2 == (0 : Int)) then (!y2) else false)]), (34, .v false [.bool (y1.2.2.2 != (0 : Int))])], [some ⟨true, [.int .i64 y1.2.1.1, .int .i64 y1.2.1.2.1, .int .i64 y1.2.1.2.2]⟩], [some ⟨149, (.cons sV sI), a2, .ro⟩, some ⟨149, (.cons sV sI), [], .own⟩, some ⟨95, sM, y1.2.2.1, .own⟩, some ⟨2, sI, y21, .own⟩, some ⟨149, (.cons sV sI), q24, .own⟩]⟩
def f26_k13 (K : Nat) (a0 : ByteArray) (a1 : Int) (a2 : List (tV × Int)) (lr : LR ((List (tV × Int)) × Int)) : Ex → Fr → Option ((List (tV × Int)) × Int) :=
  contC (f26E K) 1 lr f26C [1, 1, 1, 1, 1, 1, 0, 1, 0] (finK (f26E K) Tryz.f26 [(.ro, .str), (.ro, sI), (.ro, (.list 149 (.cons sV sI)))] [(.list 149 (.cons sV sI)), sI] (a0, a1, a2, ()))
def f26_k22 (K : Nat) (a0 : ByteArray) (a1 : Int) (a2 : List (tV × Int)) (lr : LR ((List (tV × Int)) × Int)) : Ex → Fr → Option ((List (tV × Int)) × Int) :=
  contC (f26E K) 1 lr f26C [1, 1, 1, 1, 1, 1, 0, 1, 0] (finK (f26E K) Tryz.f26 [(.ro, .str), (.ro, sI), (.ro, (.list 149 (.cons sV sI)))] [(.list 149 (.cons sV sI)), sI] (a0, a1, a2, ()))
def f26_k16 (K : Nat) (a0 : ByteArray) (a1 : Int) (a2 : List (tV × Int)) (y1 : Int × tL × (List tM) × Int) (y2 : Bool) (y3 : List Int) (F13 : Fr → Option ((List (tV × Int)) × Int)) (bq14 : Int) (bq15 : List (tV × Int)) (lr : LR ((List (tV × Int)) × Int)) : Ex → Fr → Option ((List (tV × Int)) × Int) :=
  contC (f26E K) 1 lr (selC f26C [1, 1, 1, 1, 1, 1, 0, 1, 0, 0]) [1, 0, 0, 1, 0, 1, 0] (loopK 1 (f26_fr13 a0 a1 a2 y1 y2 y3 bq14 bq15) F13 (f26_k13 K a0 a1 a2 lr))
def f26_k25 (K : Nat) (a0 : ByteArray) (a1 : Int) (a2 : List (tV × Int)) (y1 : Int × tL × (List tM) × Int) (y2 : Bool) (y21 : List Int) (F22 : Fr → Option ((List (tV × Int)) × Int)) (bq23 : Int) (bq24 : List (tV × Int)) (lr : LR ((List (tV × Int)) × Int)) : Ex → Fr → Option ((List (tV × Int)) × Int) :=
  contC (f26E K) 1 lr (selC f26C [1, 1, 1, 1, 1, 1, 0, 1, 0, 0]) [1, 0, 0, 1, 0, 1, 0] (loopK 1 (f26_fr22 a0 a1 a2 y1 y2 y21 bq23 bq24) F22 (f26_k22 K a0 a1 a2 lr))
def f26_g (K : Nat) (a0 : ByteArray) (a1 : Int) (a2 : List (tV × Int)) (I13 : (Int × tL × (List tM) × Int) → Bool → (List Int) → Int → (List (tV × Int)) → Option ((List (tV × Int)) × Int)) (I22 : (Int × tL × (List tM) × Int) → Bool → (List Int) → Int → (List (tV × Int)) → Option ((List (tV × Int)) × Int)) : Option ((List (tV × Int)) × Int) :=
  (f113G K a0 a1).bind fun y1 => (bif ((!(y1.2.2.2 == (0 : Int))) || true) then (bif ((!(y1.2.2.2 == (0 : Int))) || true) then ((bif (y1.2.2.2 == (0 : Int)) then f114G K y1.2.1 a2 else some false)).bind fun y2 => (bif ((!(y1.2.2.2 == (0 : Int))) || true) then (bif (bif (y1.2.2.2 == (0 : Int)) then (!y2) else false) then (bif ((2 : Int) != (0 : Int)) then some ([], (2 : Int)) else (f126G K y1.2.1 y1.2.2.1).bind fun y3 => I13 y1 y2 y3 (0 : Int) []) else (bif (y1.2.2.2 != (0 : Int)) then some ([], y1.2.2.2) else (f126G K y1.2.1 y1.2.2.1).bind fun y21 => I22 y1 y2 y21 (0 : Int) [])) else none) else none) else none)
def f26G (K : Nat) (a0 : ByteArray) (a1 : Int) (a2 : List (tV × Int)) : Option ((List (tV × Int)) × Int) :=
  f26_g K a0 a1 a2 (fun c0 c1 c2 d0 d1 => f26_l13 K a0 a1 a2 c0 c1 c2 K d0 d1) (fun c0 c1 c2 d0 d1 => f26_l22 K a0 a1 a2 c0 c1 c2 K d0 d1)
def f26M (K : Nat) : Mdl := ⟨[(.ro, .str), (.ro, sI), (.ro, (.list 149 (.cons sV sI)))], [(.list 149 (.cons sV sI)), sI], fun x => f26G K x.1 x.2.1 x.2.2.1⟩
def f177C : Code := codeOf Tryz.f177
def f177E (K : Nat) : Env := ⟨[(130, f130M K), (238, f238M K)], tys, eqs, mts, K, [0, 1, 2, 3, 5, 8, 9, 11, 18, 19, 20, 21], [], []⟩
def f177_b4 (K : Nat) (a0 : Int) (a1 : Int × Int × Int) (a2 : List tV) (a3 : Int) (L4 : Int → (List Int) → Option (Int × tL × List Int)) (q5 : Int) (q6 : List Int) : Option (Int × tL × List Int) :=
  (bif (decide (q5 < (a2.length : Int))) then (bif (decide (0 ≤ q5) && decide (q5 < (a2.length : Int))) then (f130G K a1 (a2.getD ((0 : Int) + q5).toNat ((0 : Int), (0 : Int)))).bind fun y7 => (bif (decide (0 ≤ y7) && decide (y7 < (q6.length : Int))) then L4 (w (q5 + (1 : Int))) (q6.set ((0 : Int) + y7).toNat a3) else none) else none) else some (a0, a1, q6))
def f177_l4 (K : Nat) (a0 : Int) (a1 : Int × Int × Int) (a2 : List tV) (a3 : Int) (n : Nat) (q5 : Int) (q6 : List Int) : Option (Int × tL × List Int) :=
  iter (X := Int × List Int) (fun L x => (fun L4 => f177_b4 K a0 a1 a2 a3 L4 x.1 x.2) (fun v0 v1 => L (v0, v1))) n (q5, q6)
def f177_fr4 (a0 : Int) (a1 : Int × Int × Int) (a2 : List tV) (a3 q5 : Int) (q6 : List Int) : Fr := ⟨33, [(0, .v false [.int .i64 a0]), (1, .v true [.int .i64 a1.1, .int .i64 a1.2.1, .int .i64 a1.2.2]), (2, .v false [.row 0]), (3, .v false [.int .i64 a3]), (5, .v false [.box 0 0]), (8, .v false [.box 1 0]), (9, .v false [.box 2 0]), (18, .v false [.row 0]), (19, .v false [.int .i64 (a2.length : Int)]), (20, .v false [.int .i64 q5])], [some ⟨true, [.int .i64 a1.1, .int .i64 a1.2.1, .int .i64 a1.2.2]⟩, some ⟨true, [.int .i64 (0 : Int), .int .i64 (0 : Int), .int .i64 (0 : Int), .int .i64 (0 : Int), .row 1]⟩, some ⟨true, [.int .i64 a0, .int .i64 a1.1, .int .i64 a1.2.1, .int .i64 a1.2.2, .row 2]⟩], [some ⟨79, sV, a2, .ro⟩, some ⟨2, sI, [], .own⟩, some ⟨2, sI, q6, .own⟩]⟩
def f177_k4 (K : Nat) (a0 : Int) (a1 : Int × Int × Int) (a2 : List tV) (a3 : Int) (lr : LR (Int × tL × List Int)) : Ex → Fr → Option (Int × tL × List Int) :=
  contC (f177E K) 1 lr f177C [1, 1, 0, 1, 0] (finK (f177E K) Tryz.f177 [(.ro, sI), (.ro, sL), (.ro, (.list 79 sV)), (.ro, sI)] [(.cons sI (.cons sL (.list 2 sI)))] (a0, a1, a2, a3, ()))
def f177_g (K : Nat) (a0 : Int) (a1 : Int × Int × Int) (a2 : List tV) (a3 : Int) (I4 : Int → (List Int) → Option (Int × tL × List Int)) : Option (Int × tL × List Int) :=
  (f238G K a1).bind fun y1 => (bif (decide (0 ≤ y1) && Nat.ble y1.toNat (lim 8) && (y1 == y1)) then I4 (0 : Int) (List.replicate y1.toNat (0 : Int)) else none)
def f177G (K : Nat) (a0 : Int) (a1 : Int × Int × Int) (a2 : List tV) (a3 : Int) : Option (Int × tL × List Int) :=
  f177_g K a0 a1 a2 a3 (fun d0 d1 => f177_l4 K a0 a1 a2 a3 K d0 d1)
def f177M (K : Nat) : Mdl := ⟨[(.ro, sI), (.ro, sL), (.ro, (.list 79 sV)), (.ro, sI)], [(.cons sI (.cons sL (.list 2 sI)))], fun x => f177G K x.1 x.2.1 x.2.2.1 x.2.2.2.1⟩
def f120C : Code := codeOf Tryz.f120
def f120E (K : Nat) : Env := ⟨[(130, f130M K), (171, f171M K), (177, f177M K)], tys, eqs, mts, K, [0, 1, 2, 3, 5, 8, 9, 11, 13, 17, 18, 19, 20, 27, 28, 29, 30], [], []⟩
def f120_b14 (K : Nat) (a0 : Int) (a1 : Int × Int × Int) (a2 : List tM) (a3 : List (tV × Int)) (q11 : Int) (y1 : Int × tL × List Int) (y13 : List tV) (L10 L14 : Int → (List Int) → Option (Int × tL × List Int)) (q15 : Int) (q16 : List Int) : Option (Int × tL × List Int) :=
  (bif (decide (q15 < (y13.length : Int))) then (bif (decide (0 ≤ q15) && decide (q15 < (y13.length : Int))) then (f130G K a1 (y13.getD ((0 : Int) + q15).toNat ((0 : Int), (0 : Int)))).bind fun y17 => (bif (decide (0 ≤ y17) && decide (y17 < (q16.length : Int))) then L14 (w (q15 + (1 : Int))) (q16.set ((0 : Int) + y17).toNat ((a3.getD ((0 : Int) + q11).toNat (((0 : Int), (0 : Int)), (0 : Int))).2)) else none) else none) else L10 (w (q11 + (1 : Int))) q16)
def f120_l14 (K : Nat) (a0 : Int) (a1 : Int × Int × Int) (a2 : List tM) (a3 : List (tV × Int)) (q11 : Int) (y1 : Int × tL × List Int) (y13 : List tV) (L10 : Int → (List Int) → Option (Int × tL × List Int)) (n : Nat) (q15 : Int) (q16 : List Int) : Option (Int × tL × List Int) :=
  iter (X := Int × List Int) (fun L x => (fun L14 => f120_b14 K a0 a1 a2 a3 q11 y1 y13 L10 L14 x.1 x.2) (fun v0 v1 => L (v0, v1))) n (q15, q16)
def f120_fr14 (a0 : Int) (a1 : Int × Int × Int) (a2 : List tM) (a3 : List (tV × Int)) (q11 : Int) (y1 : Int × tL × List Int) (y13 : List tV) (q15 : Int) (q16 : List Int) : Fr := ⟨44, [(0, .v false [.int .i64 a0]), (1, .v true [.int .i64 a1.1, .int .i64 a1.2.1, .int .i64 a1.2.2]), (2, .v false [.row 0]), (3, .v false [.row 1]), (5, .v false [.box 0 0]), (8, .v false [.box 1 0]), (9, .v false [.box 2 0]), (11, .v false [.box 3 0]), (17, .v false [.row 1]), (18, .v false [.int .i64 (a3.length : Int)]), (19, .v false [.int .i64 q11]), (20, .v false [.bool (decide (q11 < (a3.length : Int)))]), (27, .v false [.row 2]), (28, .v false [.int .i64 (y13.length : Int)]), (29, .v false [.int .i64 q15])], [some ⟨true, [.int .i64 a1.1, .int .i64 a1.2.1, .int .i64 a1.2.2]⟩, some ⟨true, [.int .i64 (0 : Int), .int .i64 (0 : Int), .int .i64 (0 : Int), .int .i64 (0 : Int), .row 3]⟩, some ⟨true, [.int .i64 y1.1, .int .i64 y1.2.1.1, .int .i64 y1.2.1.2.1, .int .i64 y1.2.1.2.2, .row 4]⟩, some ⟨true, [.int .i64 (((a3.getD ((0 : Int) + q11).toNat (((0 : Int), (0 : Int)), (0 : Int))).1).1), .int .i64 (((a3.getD ((0 : Int) + q11).toNat (((0 : Int), (0 : Int)), (0 : Int))).1).2), .int .i64 ((a3.getD ((0 : Int) + q11).toNat (((0 : Int), (0 : Int)), (0 : Int))).2)]⟩], [some ⟨95, sM, a2, .ro⟩, some ⟨149, (.cons sV sI), a3, .ro⟩, some ⟨79, sV, y13, .own⟩, some ⟨2, sI, [], .own⟩, some ⟨2, sI, q16, .own⟩]⟩
def f120_b10 (K : Nat) (a0 : Int) (a1 : Int × Int × Int) (a2 : List tM) (a3 : List (tV × Int)) (y1 : Int × tL × List Int) (I14 : Int → (List tV) → Int → (List Int) → Option (Int × tL × List Int)) (L10 : Int → (List Int) → Option (Int × tL × List Int)) (q11 : Int) (q12 : List Int) : Option (Int × tL × List Int) :=
  (bif (decide (q11 < (a3.length : Int))) then (bif (decide (0 ≤ q11) && decide (q11 < (a3.length : Int))) then (f171G K a1 a2 ((a3.getD ((0 : Int) + q11).toNat (((0 : Int), (0 : Int)), (0 : Int))).1)).bind fun y13 => I14 q11 y13 (0 : Int) q12 else none) else some (y1.1, y1.2.1, q12))
def f120_l10 (K : Nat) (a0 : Int) (a1 : Int × Int × Int) (a2 : List tM) (a3 : List (tV × Int)) (y1 : Int × tL × List Int) (n : Nat) (q11 : Int) (q12 : List Int) : Option (Int × tL × List Int) :=
  iter (X := Int × List Int) (fun L x => (fun L10 => f120_b10 K a0 a1 a2 a3 y1 (fun c0 c1 d0 d1 => f120_l14 K a0 a1 a2 a3 c0 y1 c1 L10 K d0 d1) L10 x.1 x.2) (fun v0 v1 => L (v0, v1))) n (q11, q12)
def f120_fr10 (a0 : Int) (a1 : Int × Int × Int) (a2 : List tM) (a3 : List (tV × Int)) (y1 : Int × tL × List Int) (q11 : Int) (q12 : List Int) : Fr := ⟨44, [(0, .v false [.int .i64 a0]), (1, .v true [.int .i64 a1.1, .int .i64 a1.2.1, .int .i64 a1.2.2]), (2, .v false [.row 0]), (3, .v false [.row 1]), (5, .v false [.box 0 0]), (8, .v false [.box 1 0]), (9, .v false [.box 2 0]), (17, .v false [.row 1]), (18, .v false [.int .i64 (a3.length : Int)]), (19, .v false [.int .i64 q11])], [some ⟨true, [.int .i64 a1.1, .int .i64 a1.2.1, .int .i64 a1.2.2]⟩, some ⟨true, [.int .i64 (0 : Int), .int .i64 (0 : Int), .int .i64 (0 : Int), .int .i64 (0 : Int), .row 2]⟩, some ⟨true, [.int .i64 y1.1, .int .i64 y1.2.1.1, .int .i64 y1.2.1.2.1, .int .i64 y1.2.1.2.2, .row 3]⟩], [some ⟨95, sM, a2, .ro⟩, some ⟨149, (.cons sV sI), a3, .ro⟩, some ⟨2, sI, [], .own⟩, some ⟨2, sI, q12, .own⟩]⟩
def f120_k10 (K : Nat) (a0 : Int) (a1 : Int × Int × Int) (a2 : List tM) (a3 : List (tV × Int)) (lr : LR (Int × tL × List Int)) : Ex → Fr → Option (Int × tL × List Int) :=
  contC (f120E K) 2 lr f120C [1, 1, 0, 1, 0] (finK (f120E K) Tryz.f120 [(.ro, sI), (.ro, sL), (.ro, (.list 95 sM)), (.ro, (.list 149 (.cons sV sI)))] [(.cons sI (.cons sL (.list 2 sI)))] (a0, a1, a2, a3, ()))
def f120_k14 (K : Nat) (a0 : Int) (a1 : Int × Int × Int) (a2 : List tM) (a3 : List (tV × Int)) (y1 : Int × tL × List Int) (F10 : Fr → Option (Int × tL × List Int)) (bq11 : Int) (bq12 : List Int) (lr : LR (Int × tL × List Int)) : Ex → Fr → Option (Int × tL × List Int) :=
  contC (f120E K) 2 lr (selC f120C [1, 1, 0, 1, 0, 0]) [1, 1, 0, 0, 1, 1, 0] (loopK 2 (f120_fr10 a0 a1 a2 a3 y1 bq11 bq12) F10 (f120_k10 K a0 a1 a2 a3 lr))
def f120_g (K : Nat) (a0 : Int) (a1 : Int × Int × Int) (a2 : List tM) (a3 : List (tV × Int)) (I10 : (Int × tL × List Int) → Int → (List Int) → Option (Int × tL × List Int)) : Option (Int × tL × List Int) :=
  (f177G K a0 a1 [] (0 : Int)).bind fun y1 => I10 y1 (0 : Int) y1.2.2
def f120G (K : Nat) (a0 : Int) (a1 : Int × Int × Int) (a2 : List tM) (a3 : List (tV × Int)) : Option (Int × tL × List Int) :=
  f120_g K a0 a1 a2 a3 (fun c0 d0 d1 => f120_l10 K a0 a1 a2 a3 c0 K d0 d1)
def f120M (K : Nat) : Mdl := ⟨[(.ro, sI), (.ro, sL), (.ro, (.list 95 sM)), (.ro, (.list 149 (.cons sV sI)))], [(.cons sI (.cons sL (.list 2 sI)))], fun x => f120G K x.1 x.2.1 x.2.2.1 x.2.2.2.1⟩
def f21E (K : Nat) : Env := ⟨[(118, f118M K), (120, f120M K)], tys, eqs, mts, K, [0, 1, 2, 6, 7, 8, 9, 10, 11, 23], [], []⟩
def f21G (K : Nat) (a0 : ByteArray) (a1 : Int) (a2 : List (tV × Int)) : Option ((Int × tL × List Int) × Int) :=
  (f118G K a0 a1 [a2]).bind fun y1 => (bif (y1.2.2.2 != (0 : Int)) then some (((0 : Int), ((0 : Int), (0 : Int), (0 : Int)), []), y1.2.2.2) else (f120G K y1.1 y1.2.1 y1.2.2.1 a2).bind fun y2 => some (y2, (0 : Int)))
def f21M (K : Nat) : Mdl := ⟨[(.ro, .str), (.ro, sI), (.ro, (.list 149 (.cons sV sI)))], [(.cons sI (.cons sL (.list 2 sI))), sI], fun x => f21G K x.1 x.2.1 x.2.2.1⟩
def f116C : Code := codeOf Tryz.f116
def f116E (K : Nat) : Env := ⟨[(126, f126M K), (127, f127M K)], tys, eqs, mts, K, [0, 1, 2, 3, 5, 8, 9, 10, 11, 12, 25, 31, 48], [], []⟩
def f116_b12 (K : Nat) (a0 : Int) (a1 : Int × Int × Int) (a2 : List tM) (a3 : List (tV × Int)) (q10 : Int) (y1 : List Int) (L9 L12 : Int → (List Int) → Option (Int × tL × List Int)) (q13 : Int) (q14 : List Int) : Option (Int × tL × List Int) :=
  (bif (decide (q13 < (y1.length : Int))) then (bif (decide (0 ≤ q13) && decide (q13 < (y1.length : Int))) then (bif (decide (0 ≤ q10) && decide (q10 < (a3.length : Int))) then (f127G K a1 ((a3.getD ((0 : Int) + q10).toNat (((0 : Int), (0 : Int)), (0 : Int))).1)).bind fun y15 => (bif (decide (0 ≤ y15) && decide (y15 < (y1.length : Int))) then (bif ((y1.getD ((0 : Int) + q13).toNat (0 : Int)) == (y1.getD ((0 : Int) + y15).toNat (0 : Int))) then (bif (decide (0 ≤ q10) && decide (q10 < (a3.length : Int))) then (bif (decide (0 ≤ q13) && decide (q13 < (q14.length : Int))) then L12 (w (q13 + (1 : Int))) (q14.set ((0 : Int) + q13).toNat ((a3.getD ((0 : Int) + q10).toNat (((0 : Int), (0 : Int)), (0 : Int))).2)) else none) else none) else L12 (w (q13 + (1 : Int))) q14) else none) else none) else none) else L9 (w (q10 + (1 : Int))) q14)
def f116_l12 (K : Nat) (a0 : Int) (a1 : Int × Int × Int) (a2 : List tM) (a3 : List (tV × Int)) (q10 : Int) (y1 : List Int) (L9 : Int → (List Int) → Option (Int × tL × List Int)) (n : Nat) (q13 : Int) (q14 : List Int) : Option (Int × tL × List Int) :=
  iter (X := Int × List Int) (fun L x => (fun L12 => f116_b12 K a0 a1 a2 a3 q10 y1 L9 L12 x.1 x.2) (fun v0 v1 => L (v0, v1))) n (q13, q14)
def f116_fr12 (a0 : Int) (a1 : Int × Int × Int) (a2 : List tM) (a3 : List (tV × Int)) (q10 : Int) (y1 : List Int) (q13 : Int) (q14 : List Int) : Fr := ⟨59, [(0, .v false [.int .i64 a0]), (1, .v true [.int .i64 a1.1, .int .i64 a1.2.1, .int .i64 a1.2.2]), (2, .v false [.row 0]), (3, .v false [.row 1]), (5, .v false [.box 0 0]), (8, .v false [.box 1 0]), (9, .v false [.row 2]), (10, .v false [.box 2 0]), (11, .v false [.int .i64 q10]), (12, .v false [.int .i64 q13]), (25, .v false [.bool (decide (q10 < (a3.length : Int)))])], [some ⟨true, [.int .i64 a1.1, .int .i64 a1.2.1, .int .i64 a1.2.2]⟩, some ⟨true, [.int .i64 (0 : Int), .int .i64 (0 : Int), .int .i64 (0 : Int), .int .i64 (0 : Int), .row 3]⟩, some ⟨true, [.int .i64 a0, .int .i64 a1.1, .int .i64 a1.2.1, .int .i64 a1.2.2, .row 4]⟩], [some ⟨95, sM, a2, .ro⟩, some ⟨149, (.cons sV sI), a3, .ro⟩, some ⟨2, sI, y1, .own⟩, some ⟨2, sI, [], .own⟩, some ⟨2, sI, q14, .own⟩]⟩
def f116_b9 (K : Nat) (a0 : Int) (a1 : Int × Int × Int) (a2 : List tM) (a3 : List (tV × Int)) (y1 : List Int) (I12 : Int → Int → (List Int) → Option (Int × tL × List Int)) (L9 : Int → (List Int) → Option (Int × tL × List Int)) (q10 : Int) (q11 : List Int) : Option (Int × tL × List Int) :=
  (bif (decide (q10 < (a3.length : Int))) then I12 q10 (0 : Int) q11 else some (a0, a1, q11))
def f116_l9 (K : Nat) (a0 : Int) (a1 : Int × Int × Int) (a2 : List tM) (a3 : List (tV × Int)) (y1 : List Int) (n : Nat) (q10 : Int) (q11 : List Int) : Option (Int × tL × List Int) :=
  iter (X := Int × List Int) (fun L x => (fun L9 => f116_b9 K a0 a1 a2 a3 y1 (fun c0 d0 d1 => f116_l12 K a0 a1 a2 a3 c0 y1 L9 K d0 d1) L9 x.1 x.2) (fun v0 v1 => L (v0, v1))) n (q10, q11)
def f116_fr9 (a0 : Int) (a1 : Int × Int × Int) (a2 : List tM) (a3 : List (tV × Int)) (y1 : List Int) (q10 : Int) (q11 : List Int) : Fr := ⟨59, [(0, .v false [.int .i64 a0]), (1, .v true [.int .i64 a1.1, .int .i64 a1.2.1, .int .i64 a1.2.2]), (2, .v false [.row 0]), (3, .v false [.row 1]), (5, .v false [.box 0 0]), (8, .v false [.box 1 0]), (9, .v false [.row 2]), (10, .v false [.box 2 0]), (11, .v false [.int .i64 q10])], [some ⟨true, [.int .i64 a1.1, .int .i64 a1.2.1, .int .i64 a1.2.2]⟩, some ⟨true, [.int .i64 (0 : Int), .int .i64 (0 : Int), .int .i64 (0 : Int), .int .i64 (0 : Int), .row 3]⟩, some ⟨true, [.int .i64 a0, .int .i64 a1.1, .int .i64 a1.2.1, .int .i64 a1.2.2, .row 4]⟩], [some ⟨95, sM, a2, .ro⟩, some ⟨149, (.cons sV sI), a3, .ro⟩, some ⟨2, sI, y1, .own⟩, some ⟨2, sI, [], .own⟩, some ⟨2, sI, q11, .own⟩]⟩
def f116_k9 (K : Nat) (a0 : Int) (a1 : Int × Int × Int) (a2 : List tM) (a3 : List (tV × Int)) (lr : LR (Int × tL × List Int)) : Ex → Fr → Option (Int × tL × List Int) :=
  contC (f116E K) 2 lr f116C [1, 1, 1, 0, 1, 0] (finK (f116E K) Tryz.f116 [(.ro, sI), (.ro, sL), (.ro, (.list 95 sM)), (.ro, (.list 149 (.cons sV sI)))] [(.cons sI (.cons sL (.list 2 sI)))] (a0, a1, a2, a3, ()))
def f116_k12 (K : Nat) (a0 : Int) (a1 : Int × Int × Int) (a2 : List tM) (a3 : List (tV × Int)) (y1 : List Int) (F9 : Fr → Option (Int × tL × List Int)) (bq10 : Int) (bq11 : List Int) (lr : LR (Int × tL × List Int)) : Ex → Fr → Option (Int × tL × List Int) :=
  contC (f116E K) 2 lr (selC f116C [1, 1, 1, 0, 1, 0, 0]) [1, 0, 0, 1, 0] (loopK 2 (f116_fr9 a0 a1 a2 a3 y1 bq10 bq11) F9 (f116_k9 K a0 a1 a2 a3 lr))
def f116_g (K : Nat) (a0 : Int) (a1 : Int × Int × Int) (a2 : List tM) (a3 : List (tV × Int)) (I9 : (List Int) → Int → (List Int) → Option (Int × tL × List Int)) : Option (Int × tL × List Int) :=
  (f126G K a1 a2).bind fun y1 => (bif (decide (0 ≤ (y1.length : Int)) && Nat.ble (y1.length : Int).toNat (lim 8) && ((y1.length : Int) == (y1.length : Int))) then I9 y1 (0 : Int) (List.replicate (y1.length : Int).toNat (0 : Int)) else none)
def f116G (K : Nat) (a0 : Int) (a1 : Int × Int × Int) (a2 : List tM) (a3 : List (tV × Int)) : Option (Int × tL × List Int) :=
  f116_g K a0 a1 a2 a3 (fun c0 d0 d1 => f116_l9 K a0 a1 a2 a3 c0 K d0 d1)
def f116M (K : Nat) : Mdl := ⟨[(.ro, sI), (.ro, sL), (.ro, (.list 95 sM)), (.ro, (.list 149 (.cons sV sI)))], [(.cons sI (.cons sL (.list 2 sI)))], fun x => f116G K x.1 x.2.1 x.2.2.1 x.2.2.2.1⟩
def f20E (K : Nat) : Env := ⟨[(113, f113M K), (114, f114M K), (116, f116M K)], tys, eqs, mts, K, [0, 1, 2, 6, 7, 8, 9, 10, 11, 27, 29], [], []⟩
def f20G (K : Nat) (a0 : ByteArray) (a1 : Int) (a2 : List (tV × Int)) : Option ((Int × tL × List Int) × Int) :=
  (f113G K a0 a1).bind fun y1 => (bif ((!(y1.2.2.2 == (0 : Int))) || true) then (bif ((!(y1.2.2.2 == (0 : Int))) || true) then ((bif (y1.2.2.2 == (0 : Int)) then f114G K y1.2.1 a2 else some false)).bind fun y2 => (bif ((!(y1.2.2.2 == (0 : Int))) || true) then (bif (bif (y1.2.2.2 == (0 : Int)) then (!y2) else false) then (bif ((2 : Int) != (0 : Int)) then some (((0 : Int), ((0 : Int), (0 : Int), (0 : Int)), []), (2 : Int)) else (f116G K y1.1 y1.2.1 y1.2.2.1 a2).bind fun y3 => some (y3, (0 : Int))) else (bif (y1.2.2.2 != (0 : Int)) then some (((0 : Int), ((0 : Int), (0 : Int), (0 : Int)), []), y1.2.2.2) else (f116G K y1.1 y1.2.1 y1.2.2.1 a2).bind fun y4 => some (y4, (0 : Int)))) else none) else none) else none)
def f20M (K : Nat) : Mdl := ⟨[(.ro, .str), (.ro, sI), (.ro, (.list 149 (.cons sV sI)))], [(.cons sI (.cons sL (.list 2 sI))), sI], fun x => f20G K x.1 x.2.1 x.2.2.1⟩
def f314E (K : Nat) : Env := ⟨[], tys, eqs, mts, K, [0, 2, 5], [(194, f194M K), (196, f196M K)], []⟩
def f314G (K : Nat) (a0 : (List Int) × Int × Int) : Option (tV × Int) :=
  (f194G K a0 (40 : Int)).bind fun y1 => (bif (y1.2 == (0 : Int)) then (f196G K (a0.1, y1.1) [(-1 : Int), (2 : Int)]).bind fun y2 => some y2 else (f194G K (a0.1, y1.1) (2 : Int)).bind fun y3 => some y3)
def f314M (K : Nat) : PMdl := ⟨5, (.int .u8), sV, [], [sI], fun x => f314G K x.1⟩
def f315E (K : Nat) : Env := ⟨[], tys, eqs, mts, K, [0, 2, 3, 17, 18, 24, 35], [(194, f194M K), (196, f196M K)], []⟩
def f315G (K : Nat) (a0 : (List Int) × Int × Int) : Option (tV × Int × Int × Int) :=
  (f194G K a0 (6 : Int)).bind fun y1 => (f194G K (a0.1, y1.1) (6 : Int)).bind fun y2 => (f194G K (a0.1, y2.1) (w ((1 : Int) + y1.2))).bind fun y3 => (f194G K (a0.1, y3.1) (60 : Int)).bind fun y4 => (bif (y4.2 == (0 : Int)) then (f196G K (a0.1, y4.1) [(0 : Int), (64 : Int), (65 : Int), (8 : Int)]).bind fun y5 => some (y5.1, y5.2, y3.2, (w ((1 : Int) + y2.2))) else (bif (y4.2 == (1 : Int)) then (f196G K (a0.1, y4.1) [(-1 : Int), (w ((1 : Int) + y1.2)), (w ((w ((1 : Int) + y1.2)) - (1 : Int)))]).bind fun y6 => some (y6.1, (w ((1 : Int) + y1.2)), y6.2, (w ((1 : Int) + y2.2))) else (bif (y4.2 == (2 : Int)) then (f196G K (a0.1, y4.1) [(8 : Int), (9 : Int)]).bind fun y7 => some (y7.1, (8 : Int), (3 : Int), y7.2) else some (y4.1, (w ((1 : Int) + y1.2)), y3.2, (w ((1 : Int) + y2.2))))))
def f315M (K : Nat) : PMdl := ⟨5, (.int .u8), sV, [], [sL], fun x => f315G K x.1⟩
def f227E (K : Nat) : Env := ⟨[], tys, eqs, mts, K, [0, 2, 3, 4, 5, 9, 10, 15, 25, 28], [(194, f194M K), (314, f314M K), (315, f315M K)], []⟩
def f227G (K : Nat) (a0 : (List Int) × Int × Int) : Option (tV × Int × Int × Int × Int) :=
  (f314G K a0).bind fun y1 => (f194G K (a0.1, y1.1) (5 : Int)).bind fun y2 => (bif (y2.2 == (0 : Int)) then (f315G K (a0.1, y2.1)).bind fun y3 => some (y3.1, y1.2, y3.2) else (bif (y2.2 == (1 : Int)) then (f194G K (a0.1, y2.1) (4 : Int)).bind fun y4 => (f194G K (a0.1, y4.1) (4 : Int)).bind fun y5 => some (y5.1, y1.2, (w ((1 : Int) + y4.2)), (0 : Int), (w ((1 : Int) + y5.2))) else (bif (y2.2 == (2 : Int)) then (bif (y1.2 == (0 : Int)) then some (y2.1, y1.2, (2 : Int), (1 : Int), (1 : Int)) else some (y2.1, y1.2, (3 : Int), (1 : Int), (1 : Int))) else (f194G K (a0.1, y2.1) (4 : Int)).bind fun y6 => some (y6.1, y1.2, (w ((1 : Int) + y6.2)), (0 : Int), (w ((1 : Int) + y6.2))))))
def f227M (K : Nat) : PMdl := ⟨5, (.int .u8), sV, [], [sI, sL], fun x => f227G K x.1⟩
def f316E (K : Nat) : Env := ⟨[], tys, eqs, mts, K, [0, 2], [], []⟩
def f316G (K : Nat) (a0 : Int) : Option Bool :=
  (bif ((!(!(a0 == (0 : Int)))) || true) then (bif ((!(!(a0 == (0 : Int)))) || true) then some (bif (a0 == (0 : Int)) then true else (a0 == (1 : Int))) else none) else none)
def f316M (K : Nat) : Mdl := ⟨[(.ro, sI)], [.bool], fun x => f316G K x.1⟩
def f317E (K : Nat) : Env := ⟨[(141, f141M K)], tys, eqs, mts, K, [0, 1, 2], [], []⟩
def f317G (K : Nat) (a0 : Int × Int × Int) : Option Bool :=
  (f141G K a0.1 (1 : Int) (64 : Int)).bind fun y1 => (bif ((!y1) || true) then (bif ((!y1) || true) then ((bif y1 then f141G K a0.2.2 (1 : Int) (64 : Int) else some false)).bind fun y2 => (bif ((!(bif y1 then y2 else false)) || true) then (bif ((!(bif y1 then y2 else false)) || true) then (bif ((!(bif y1 then y2 else false)) || true) then (bif ((!(bif y1 then y2 else false)) || true) then (bif ((!(bif y1 then y2 else false)) || true) then ((bif (bif y1 then y2 else false) then f141G K a0.2.1 (0 : Int) (w (a0.1 - (1 : Int))) else some false)).bind fun y3 => (bif ((!(bif (bif y1 then y2 else false) then y3 else false)) || true) then (bif ((!(bif (bif y1 then y2 else false) then y3 else false)) || true) then (bif ((!(bif (bif y1 then y2 else false) then y3 else false)) || true) then (bif ((!(bif (bif y1 then y2 else false) then y3 else false)) || true) then (bif ((!(bif (bif y1 then y2 else false) then y3 else false)) || true) then (bif ((!(bif (bif y1 then y2 else false) then y3 else false)) || true) then some (bif (bif (bif y1 then y2 else false) then y3 else false) then (decide ((w (a0.1 * a0.2.2)) ≤ (64 : Int))) else false) else none) else none) else none) else none) else none) else none) else none) else none) else none) else none) else none) else none) else none)
def f317M (K : Nat) : Mdl := ⟨[(.ro, sL)], [.bool], fun x => f317G K x.1⟩
def f229E (K : Nat) : Env := ⟨[(316, f316M K), (317, f317M K)], tys, eqs, mts, K, [0, 1, 3, 4, 12], [], []⟩
def f229G (K : Nat) (a0 : Int) (a1 : Int × Int × Int) : Option Int :=
  (f316G K a0).bind fun y1 => (bif ((!(!(!y1))) || true) then ((bif (!(!y1)) then f317G K a1 else some false)).bind fun y2 => (bif ((!(!(!y1))) || true) then (bif (bif (!y1) then true else (!y2)) then some (1 : Int) else some (0 : Int)) else none) else none)
def f229M (K : Nat) : Mdl := ⟨[(.ro, sI), (.ro, sL)], [sI], fun x => f229G K x.1 x.2.1⟩
def f404E (K : Nat) : Env := ⟨[], tys, eqs, mts, K, [0, 1, 3, 4, 5, 18], [], []⟩
def f404G (K : Nat) (a0 : Int) (a1 : Int × Int) : Option Int :=
  (bif (a0 == (1 : Int)) then some (w ((w ((w (a1.1 * a1.1)) + (w (a1.2 * a1.2)))) + (w (a1.1 * a1.2)))) else some (w ((w (a1.1 * a1.1)) + (w (a1.2 * a1.2)))))
def f404M (K : Nat) : Mdl := ⟨[(.ro, sI), (.ro, sV)], [sI], fun x => f404G K x.1 x.2.1⟩
def f362E (K : Nat) : Env := ⟨[(340, f340M K), (404, f404M K)], tys, eqs, mts, K, [0, 1, 3, 4, 5, 6], [], []⟩
def f362G (K : Nat) (a0 : Int) (a1 : Int × Int × Int × Int) : Option Bool :=
  (f404G K a0 (a1.1, a1.2.2.1)).bind fun y1 => (bif ((!(y1 == (1 : Int))) || true) then (bif ((!(y1 == (1 : Int))) || true) then ((bif (y1 == (1 : Int)) then f404G K a0 (a1.2.1, a1.2.2.2) else some (0 : Int))).bind fun y2 => (bif ((!(y1 == (1 : Int))) || true) then (bif ((!(bif (y1 == (1 : Int)) then (y2 == (1 : Int)) else false)) || true) then (bif ((!(bif (y1 == (1 : Int)) then (y2 == (1 : Int)) else false)) || true) then (bif ((!(bif (y1 == (1 : Int)) then (y2 == (1 : Int)) else false)) || true) then ((bif (bif (y1 == (1 : Int)) then (y2 == (1 : Int)) else false) then f340G K (a1.1, a1.2.2.1) (a1.2.1, a1.2.2.2) else some ((0 : Int), (0 : Int)))).bind fun y3 => ((bif (bif (y1 == (1 : Int)) then (y2 == (1 : Int)) else false) then f404G K a0 y3 else some (0 : Int))).bind fun y4 => (bif ((!(bif (y1 == (1 : Int)) then (y2 == (1 : Int)) else false)) || true) then (bif ((!(bif (y1 == (1 : Int)) then (y2 == (1 : Int)) else false)) || true) then (bif ((!(bif (y1 == (1 : Int)) then (y2 == (1 : Int)) else false)) || true) then some (bif (bif (y1 == (1 : Int)) then (y2 == (1 : Int)) else false) then (y4 == (w ((2 : Int) + a0))) else false) else none) else none) else none) else none) else none) else none) else none) else none) else none)
def f362M (K : Nat) : Mdl := ⟨[(.ro, sI), (.ro, sA)], [.bool], fun x => f362G K x.1 x.2.1⟩
def f365C : Code := codeOf Tryz.f365
def f365E (K : Nat) : Env := ⟨[(362, f362M K)], tys, eqs, mts, K, [0, 2, 3, 4, 5, 8, 28], [], []⟩
def f365_b3 (K : Nat) (a0 : Int) (L3 : Int → (List tA) → Option (List tA)) (q4 : Int) (q5 : List tA) : Option (List tA) :=
  (bif (decide (q4 < (81 : Int))) then (f362G K a0 ((w ((w (q4.tdiv (27 : Int))) - (1 : Int))), (w (((w (q4.tdiv (9 : Int))).tmod (3 : Int)) - (1 : Int))), (w (((w (q4.tdiv (3 : Int))).tmod (3 : Int)) - (1 : Int))), (w ((q4.tmod (3 : Int)) - (1 : Int))))).bind fun y6 => (bif y6 then (bif (Nat.ble (q5.length + [((w ((w (q4.tdiv (27 : Int))) - (1 : Int))), (w (((w (q4.tdiv (9 : Int))).tmod (3 : Int)) - (1 : Int))), (w (((w (q4.tdiv (3 : Int))).tmod (3 : Int)) - (1 : Int))), (w ((q4.tmod (3 : Int)) - (1 : Int))))].length) (lim 32)) then L3 (w (q4 + (1 : Int))) (q5 ++ [((w ((w (q4.tdiv (27 : Int))) - (1 : Int))), (w (((w (q4.tdiv (9 : Int))).tmod (3 : Int)) - (1 : Int))), (w (((w (q4.tdiv (3 : Int))).tmod (3 : Int)) - (1 : Int))), (w ((q4.tmod (3 : Int)) - (1 : Int))))]) else none) else L3 (w (q4 + (1 : Int))) q5) else some q5)
def f365_l3 (K : Nat) (a0 : Int) (n : Nat) (q4 : Int) (q5 : List tA) : Option (List tA) :=
  iter (X := Int × List tA) (fun L x => (fun L3 => f365_b3 K a0 L3 x.1 x.2) (fun v0 v1 => L (v0, v1))) n (q4, q5)
def f365_fr3 (a0 q4 : Int) (q5 : List tA) : Fr := ⟨34, [(0, .v false [.int .i64 a0]), (2, .v false [.row 0]), (3, .v false [.row 1]), (4, .v false [.int .i64 q4])], [], [some ⟨93, sA, [], .own⟩, some ⟨93, sA, q5, .own⟩]⟩
def f365_k3 (K : Nat) (a0 : Int) (lr : LR (List tA)) : Ex → Fr → Option (List tA) :=
  contC (f365E K) 0 lr f365C [1, 1, 0, 1, 0] (finK (f365E K) Tryz.f365 [(.ro, sI)] [(.list 93 sA)] (a0, ()))
def f365_g (K : Nat) (a0 : Int) (I3 : Int → (List tA) → Option (List tA)) : Option (List tA) :=
  I3 (0 : Int) []
def f365G (K : Nat) (a0 : Int) : Option (List tA) :=
  f365_g K a0 (fun d0 d1 => f365_l3 K a0 K d0 d1)
def f365M (K : Nat) : Mdl := ⟨[(.ro, sI)], [(.list 93 sA)], fun x => f365G K x.1⟩
def f363E (K : Nat) : Env := ⟨[], tys, eqs, mts, K, [0, 1, 2], [], []⟩
def f363G (K : Nat) (a0 : Int × Int × Int) : Option (List tV) :=
  some [(a0.1, (0 : Int)), a0.2]
def f363M (K : Nat) : Mdl := ⟨[(.ro, sL)], [(.list 79 sV)], fun x => f363G K x.1⟩
def f405E (K : Nat) (rec : Int → Int → Option Int) : Env := ⟨[(405, ⟨[(.ro, sI), (.ro, sI)], [sI], fun x => rec x.1 x.2.1⟩)], tys, eqs, mts, K, [0, 1, 4, 6], [], []⟩
def f405_s (K : Nat) (rec : Int → Int → Option Int) (a0 a1 : Int) : Option Int :=
  (bif (a1 == (0 : Int)) then some (if (w (0 - a0)) > a0 then (w (0 - a0)) else a0) else (bif (a1 != 0) then (rec a1 (a0.tmod a1)).bind fun y1 => some y1 else none))
def f405R (K : Nat) : Nat → Int → Int → Option Int
  | 0 => fun _ _ => none
  | n + 1 => fun a0 a1 => f405_s K (f405R K n) a0 a1
def f405G (K : Nat) (a0 a1 : Int) : Option Int := f405R K K a0 a1
def f405M (K : Nat) : Mdl := ⟨[(.ro, sI), (.ro, sI)], [sI], fun x => f405G K x.1 x.2.1⟩
def f406E (K : Nat) : Env := ⟨[], tys, eqs, mts, K, [0, 1, 2, 4], [], []⟩
def f406G (K : Nat) (a0 : Int × Int) (a1 : Int) : Option tV :=
  some ((w (a1 * a0.1)), (w (a1 * a0.2)))
def f406M (K : Nat) : Mdl := ⟨[(.ro, sV), (.ro, sI)], [sV], fun x => f406G K x.1 x.2.1⟩
def f364C : Code := codeOf Tryz.f364
def f364E (K : Nat) : Env := ⟨[(255, f255M K), (405, f405M K), (406, f406M K)], tys, eqs, mts, K, [0, 2, 3, 4, 5, 6, 7, 8, 13, 22, 50, 58, 62], [], []⟩
def f364_b15 (K : Nat) (a0 : List tV) (q11 q12 : Int) (L10 L15 : Int → Int → Int → Int → Option tL) (q16 q17 q18 q19 : Int) : Option tL :=
  (bif (q19 != (0 : Int)) then (bif (q19 != 0) then L15 q18 q19 (w (q16 - (w ((w (q17.tdiv q19)) * q18)))) (w (q17 - (w ((w (q17.tdiv q19)) * q19)))) else none) else (f405G K q11 q18).bind fun y20 => (bif (decide (y20 > (0 : Int))) then (f255G K q16 y20).bind fun y21 => L10 y20 (w (q12 + (1 : Int))) y21 q17 else L10 y20 (w (q12 + (1 : Int))) q16 q17))
def f364_l15 (K : Nat) (a0 : List tV) (q11 q12 : Int) (L10 : Int → Int → Int → Int → Option tL) (n : Nat) (q16 q17 q18 q19 : Int) : Option tL :=
  iter (X := Int × Int × Int × Int) (fun L x => (fun L15 => f364_b15 K a0 q11 q12 L10 L15 x.1 x.2.1 x.2.2.1 x.2.2.2) (fun v0 v1 v2 v3 => L (v0, v1, v2, v3))) n (q16, q17, q18, q19)
def f364_fr15 (a0 : List tV) (q11 q12 q16 q17 q18 q19 : Int) : Fr := ⟨74, [(0, .v false [.row 0]), (2, .v false [.box 0 0]), (3, .v false [.box 1 0]), (4, .v false [.int .i64 q11]), (5, .v false [.int .i64 q12]), (6, .v false [.box 2 0]), (13, .v false [.bool (decide (q12 < (a0.length : Int)))])], [some ⟨true, [.int .i64 (0 : Int), .int .i64 (0 : Int), .int .i64 (0 : Int)]⟩, some ⟨true, [.int .i64 q16, .int .i64 q17]⟩, some ⟨true, [.int .i64 q18, .int .i64 q19]⟩], [some ⟨79, sV, a0, .ro⟩]⟩
def f364_b10 (K : Nat) (a0 : List tV) (I15 : Int → Int → Int → Int → Int → Int → Option tL) (L10 : Int → Int → Int → Int → Option tL) (q11 q12 q13 q14 : Int) : Option tL :=
  (bif (decide (q12 < (a0.length : Int))) then (bif (decide (0 ≤ q12) && decide (q12 < (a0.length : Int))) then I15 q11 q12 q13 q14 ((a0.getD ((0 : Int) + q12).toNat ((0 : Int), (0 : Int))).1) ((a0.getD ((0 : Int) + q12).toNat ((0 : Int), (0 : Int))).2) else none) else (bif (decide (q14 < (0 : Int))) then (f406G K (q13, q14) (-1 : Int)).bind fun y22 => (bif (decide (q11 > (0 : Int))) then (f255G K y22.1 q11).bind fun y23 => some (q11, y23, y22.2) else some (q11, y22)) else (bif (decide (q11 > (0 : Int))) then (f255G K q13 q11).bind fun y24 => some (q11, y24, q14) else some (q11, q13, q14))))
def f364_l10 (K : Nat) (a0 : List tV) (n : Nat) (q11 q12 q13 q14 : Int) : Option tL :=
  iter (X := Int × Int × Int × Int) (fun L x => (fun L10 => f364_b10 K a0 (fun c0 c1 d0 d1 d2 d3 => f364_l15 K a0 c0 c1 L10 K d0 d1 d2 d3) L10 x.1 x.2.1 x.2.2.1 x.2.2.2) (fun v0 v1 v2 v3 => L (v0, v1, v2, v3))) n (q11, q12, q13, q14)
def f364_fr10 (a0 : List tV) (q11 q12 q13 q14 : Int) : Fr := ⟨74, [(0, .v false [.row 0]), (2, .v false [.box 0 0]), (3, .v false [.box 1 0]), (4, .v false [.int .i64 q11]), (5, .v false [.int .i64 q12])], [some ⟨true, [.int .i64 (0 : Int), .int .i64 (0 : Int), .int .i64 (0 : Int)]⟩, some ⟨true, [.int .i64 q13, .int .i64 q14]⟩], [some ⟨79, sV, a0, .ro⟩]⟩
def f364_k10 (K : Nat) (a0 : List tV) (lr : LR tL) : Ex → Fr → Option tL :=
  contC (f364E K) 1 lr f364C [1, 1, 0, 1, 0] (finK (f364E K) Tryz.f364 [(.ro, (.list 79 sV))] [sL] (a0, ()))
def f364_k15 (K : Nat) (a0 : List tV) (F10 : Fr → Option tL) (bq11 bq12 bq13 bq14 : Int) (lr : LR tL) : Ex → Fr → Option tL :=
  contC (f364E K) 1 lr (selC f364C [1, 1, 0, 1, 0, 0]) [1, 0, 0, 1, 0, 0] (loopK 1 (f364_fr10 a0 bq11 bq12 bq13 bq14) F10 (f364_k10 K a0 lr))
def f364_g (K : Nat) (a0 : List tV) (I10 : Int → Int → Int → Int → Option tL) : Option tL :=
  I10 (0 : Int) (0 : Int) (0 : Int) (0 : Int)
def f364G (K : Nat) (a0 : List tV) : Option tL :=
  f364_g K a0 (fun d0 d1 d2 d3 => f364_l10 K a0 K d0 d1 d2 d3)
def f364M (K : Nat) : Mdl := ⟨[(.ro, (.list 79 sV))], [sL], fun x => f364G K x.1⟩
def f313E (K : Nat) : Env := ⟨[(341, f341M K), (363, f363M K), (364, f364M K)], tys, eqs, mts, K, [0, 1, 2, 3, 4, 5], [], []⟩
def f313G (K : Nat) (a0 : Int × Int × Int × Int) (a1 : Int × Int × Int) : Option tL :=
  (f363G K a1).bind fun y1 => (bif (decide (0 ≤ (0 : Int)) && decide ((0 : Int) < (y1.length : Int))) then (f341G K a0 (y1.getD ((0 : Int) + (0 : Int)).toNat ((0 : Int), (0 : Int)))).bind fun y2 => (bif (decide (0 ≤ (1 : Int)) && decide ((1 : Int) < (y1.length : Int))) then (f341G K a0 (y1.getD ((0 : Int) + (1 : Int)).toNat ((0 : Int), (0 : Int)))).bind fun y3 => (f364G K [y2, y3]).bind fun y4 => some y4 else none) else none)
def f313M (K : Nat) : Mdl := ⟨[(.ro, sA), (.ro, sL)], [sL], fun x => f313G K x.1 x.2.1⟩
def f318C : Code := codeOf Tryz.f318
def f318E (K : Nat) : Env := ⟨[(313, f313M K), (365, f365M K)], tys, eqs, mts, K, [0, 1, 3, 4, 5, 6, 7, 14, 24], [], []⟩
def f318_b4 (K : Nat) (a0 : Int) (a1 : Int × Int × Int) (y1 : List tA) (L4 : Int → (List tA) → Option (List tA)) (q5 : Int) (q6 : List tA) : Option (List tA) :=
  (bif (decide (q5 < (y1.length : Int))) then (bif (decide (0 ≤ q5) && decide (q5 < (y1.length : Int))) then (f313G K ((y1.getD ((0 : Int) + q5).toNat zA).1, ((y1.getD ((0 : Int) + q5).toNat zA).2).1, (((y1.getD ((0 : Int) + q5).toNat zA).2).2)) a1).bind fun y7 => (bif ((y7.1 == a1.1) && ((y7.2.1 == a1.2.1) && (y7.2.2 == a1.2.2))) then (bif (decide (0 ≤ q5) && decide (q5 < (y1.length : Int))) then (bif (Nat.ble (q6.length + [((y1.getD ((0 : Int) + q5).toNat zA).1, ((y1.getD ((0 : Int) + q5).toNat zA).2).1, (((y1.getD ((0 : Int) + q5).toNat zA).2).2))].length) (lim 32)) then L4 (w (q5 + (1 : Int))) (q6 ++ [((y1.getD ((0 : Int) + q5).toNat zA).1, ((y1.getD ((0 : Int) + q5).toNat zA).2).1, (((y1.getD ((0 : Int) + q5).toNat zA).2).2))]) else none) else none) else L4 (w (q5 + (1 : Int))) q6) else none) else some q6)
def f318_l4 (K : Nat) (a0 : Int) (a1 : Int × Int × Int) (y1 : List tA) (n : Nat) (q5 : Int) (q6 : List tA) : Option (List tA) :=
  iter (X := Int × List tA) (fun L x => (fun L4 => f318_b4 K a0 a1 y1 L4 x.1 x.2) (fun v0 v1 => L (v0, v1))) n (q5, q6)
def f318_fr4 (a0 : Int) (a1 : Int × Int × Int) (y1 : List tA) (q5 : Int) (q6 : List tA) : Fr := ⟨33, [(0, .v false [.int .i64 a0]), (1, .v true [.int .i64 a1.1, .int .i64 a1.2.1, .int .i64 a1.2.2]), (3, .v false [.box 0 0]), (4, .v false [.row 0]), (5, .v false [.row 1]), (6, .v false [.row 2]), (7, .v false [.int .i64 q5])], [some ⟨true, [.int .i64 a1.1, .int .i64 a1.2.1, .int .i64 a1.2.2]⟩], [some ⟨93, sA, [], .own⟩, some ⟨93, sA, y1, .own⟩, some ⟨93, sA, q6, .own⟩]⟩
def f318_k4 (K : Nat) (a0 : Int) (a1 : Int × Int × Int) (lr : LR (List tA)) : Ex → Fr → Option (List tA) :=
  contC (f318E K) 0 lr f318C [1, 1, 1, 0, 1, 0] (finK (f318E K) Tryz.f318 [(.ro, sI), (.ro, sL)] [(.list 93 sA)] (a0, a1, ()))
def f318_g (K : Nat) (a0 : Int) (a1 : Int × Int × Int) (I4 : (List tA) → Int → (List tA) → Option (List tA)) : Option (List tA) :=
  (f365G K a0).bind fun y1 => I4 y1 (0 : Int) []
def f318G (K : Nat) (a0 : Int) (a1 : Int × Int × Int) : Option (List tA) :=
  f318_g K a0 a1 (fun c0 d0 d1 => f318_l4 K a0 a1 c0 K d0 d1)
def f318M (K : Nat) : Mdl := ⟨[(.ro, sI), (.ro, sL)], [(.list 93 sA)], fun x => f318G K x.1 x.2.1⟩
def f309E (K : Nat) : Env := ⟨[(229, f229M K), (233, f233M K), (318, f318M K)], tys, eqs, mts, K, [0, 1, 2, 5, 6, 7, 8, 13], [(194, f194M K)], []⟩
def f309G (K : Nat) (a0 : (List Int) × Int × Int) (a1 : Int) (a2 : Int × Int × Int) : Option (tV × tA × Int × Int) :=
  (f233G K).bind fun y1 => (f229G K a1 a2).bind fun y2 => (bif (y2 == (0 : Int)) then (f318G K a1 a2).bind fun y3 => (f194G K a0 (y3.length : Int)).bind fun y4 => (bif (decide (0 ≤ y4.2) && decide (y4.2 < (y3.length : Int))) then (f194G K (a0.1, y4.1) (9 : Int)).bind fun y5 => (f194G K (a0.1, y5.1) (9 : Int)).bind fun y6 => some (y6.1, ((y3.getD ((0 : Int) + y4.2).toNat zA).1, ((y3.getD ((0 : Int) + y4.2).toNat zA).2).1, (((y3.getD ((0 : Int) + y4.2).toNat zA).2).2)), (w (y5.2 - (4 : Int))), (w (y6.2 - (4 : Int)))) else none) else (f194G K a0 (9 : Int)).bind fun y7 => (f194G K (a0.1, y7.1) (9 : Int)).bind fun y8 => some (y8.1, y1, (w (y7.2 - (4 : Int))), (w (y8.2 - (4 : Int)))))
def f309M (K : Nat) : PMdl := ⟨5, (.int .u8), sV, [(.ro, sI), (.ro, sL)], [sM], fun x => f309G K x.1 x.2.1 x.2.2.1⟩
def f290C : Code := codeOf Tryz.f290
def f290E (K : Nat) : Env := ⟨[(126, f126M K), (229, f229M K), (253, f253M K), (303, f303M K), (306, f306M K)], tys, eqs, mts, K, [0, 1, 2, 5, 6, 7, 8, 9, 10, 11, 12, 13, 14, 15, 23, 29, 35, 60, 72], [(194, f194M K), (309, f309M K)], []⟩
def f290_b27 (K : Nat) (a0 : (List Int) × Int × Int) (a1 : Int) (a2 : Int × Int × Int) (q9 : Int) (q12 : List tM) (q21 q22 q23 : Int) (q24 : List Int) (y1 : Int) (y3 : tV × Int) (y15 : List tM) (y16 : List Int) (y17 : tV × Int) (L27 : Int → (List Int) → Option (tV × Int × tL × List Int)) (q28 : Int) (q29 : List Int) : Option (tV × Int × tL × List Int) :=
  (bif (decide (q28 < (y16.length : Int))) then (bif (decide (0 ≤ q28) && decide (q28 < (y16.length : Int))) then (bif (decide (0 ≤ (y16.getD ((0 : Int) + q28).toNat (0 : Int))) && decide ((y16.getD ((0 : Int) + q28).toNat (0 : Int)) < (q24.length : Int))) then (bif (Nat.ble (q29.length + [(q24.getD ((0 : Int) + (y16.getD ((0 : Int) + q28).toNat (0 : Int))).toNat (0 : Int))].length) (lim 8)) then L27 (w (q28 + (1 : Int))) (q29 ++ [(q24.getD ((0 : Int) + (y16.getD ((0 : Int) + q28).toNat (0 : Int))).toNat (0 : Int))]) else none) else none) else none) else some ((q22, q23), a1, a2, q29))
def f290_l27 (K : Nat) (a0 : (List Int) × Int × Int) (a1 : Int) (a2 : Int × Int × Int) (q9 : Int) (q12 : List tM) (q21 q22 q23 : Int) (q24 : List Int) (y1 : Int) (y3 : tV × Int) (y15 : List tM) (y16 : List Int) (y17 : tV × Int) (n : Nat) (q28 : Int) (q29 : List Int) : Option (tV × Int × tL × List Int) :=
  iter (X := Int × List Int) (fun L x => (fun L27 => f290_b27 K a0 a1 a2 q9 q12 q21 q22 q23 q24 y1 y3 y15 y16 y17 L27 x.1 x.2) (fun v0 v1 => L (v0, v1))) n (q28, q29)
def f290_fr27 (a0 : (List Int) × Int × Int) (a1 : Int) (a2 : Int × Int × Int) (q9 : Int) (q12 : List tM) (q21 q22 q23 : Int) (q24 : List Int) (y1 : Int) (y3 : tV × Int) (y15 : List tM) (y16 : List Int) (y17 : tV × Int) (q28 : Int) (q29 : List Int) : Fr := ⟨88, [(0, .v false [.box 0 0]), (1, .v false [.int .i64 a1]), (2, .v true [.int .i64 a2.1, .int .i64 a2.2.1, .int .i64 a2.2.2]), (5, .v false [.box 1 0]), (6, .v false [.box 2 0]), (7, .v false [.box 3 0]), (8, .v false [.row 1]), (9, .v false [.row 2]), (10, .v false [.int .i64 q9]), (11, .v false [.row 3]), (12, .v false [.row 4]), (13, .v false [.int .i64 (w ((2 : Int) + y17.2))]), (14, .v false [.int .i64 q21]), (15, .v false [.int .i64 q28]), (23, .v false [.bool (y1 != (0 : Int))]), (29, .v false [.bool (decide (y3.2 > (0 : Int)))]), (35, .v false [.bool (decide (q9 > (0 : Int)))]), (60, .v false [.bool (decide (q21 < (y16.length : Int)))])], [some ⟨true, [.row 0, .int .i64 q22, .int .i64 q23]⟩, some ⟨true, [.int .i64 a2.1, .int .i64 a2.2.1, .int .i64 a2.2.2]⟩, some ⟨true, [.int .i64 (0 : Int), .int .i64 (0 : Int), .int .i64 (0 : Int), .int .i64 (0 : Int), .row 5]⟩, some ⟨true, [.int .i64 a1, .int .i64 a2.1, .int .i64 a2.2.1, .int .i64 a2.2.2, .row 6]⟩], [some ⟨5, (.int .u8), a0.1, .ro⟩, some ⟨95, sM, y15, .own⟩, some ⟨95, sM, q12, .own⟩, some ⟨2, sI, y16, .own⟩, some ⟨2, sI, q24, .own⟩, some ⟨2, sI, [], .own⟩, some ⟨2, sI, q29, .own⟩]⟩
def f290_b20 (K : Nat) (a0 : (List Int) × Int × Int) (a1 : Int) (a2 : Int × Int × Int) (q9 : Int) (q12 : List tM) (y1 : Int) (y3 : tV × Int) (y15 : List tM) (y16 : List Int) (y17 : tV × Int) (I27 : Int → (List tM) → Int → Int → Int → (List Int) → Int → (tV × Int) → (List tM) → (List Int) → (tV × Int) → Int → (List Int) → Option (tV × Int × tL × List Int)) (L20 : Int → Int → Int → (List Int) → Option (tV × Int × tL × List Int)) (q21 q22 q23 : Int) (q24 : List Int) : Option (tV × Int × tL × List Int) :=
  (bif (decide (q21 < (y16.length : Int))) then (f194G K (a0.1, q22, q23) (w ((2 : Int) + y17.2))).bind fun y25 => (bif (Nat.ble (q24.length + [y25.2].length) (lim 8)) then L20 (w (q21 + (1 : Int))) y25.1.1 y25.1.2 (q24 ++ [y25.2]) else none) else I27 q9 q12 q21 q22 q23 q24 y1 y3 y15 y16 y17 (0 : Int) [])
def f290_l20 (K : Nat) (a0 : (List Int) × Int × Int) (a1 : Int) (a2 : Int × Int × Int) (q9 : Int) (q12 : List tM) (y1 : Int) (y3 : tV × Int) (y15 : List tM) (y16 : List Int) (y17 : tV × Int) (n : Nat) (q21 q22 q23 : Int) (q24 : List Int) : Option (tV × Int × tL × List Int) :=
  iter (X := Int × Int × Int × List Int) (fun L x => (fun L20 => f290_b20 K a0 a1 a2 q9 q12 y1 y3 y15 y16 y17 (fun c0 c1 c2 c3 c4 c5 c6 c7 c8 c9 c10 d0 d1 => f290_l27 K a0 a1 a2 c0 c1 c2 c3 c4 c5 c6 c7 c8 c9 c10 K d0 d1) L20 x.1 x.2.1 x.2.2.1 x.2.2.2) (fun v0 v1 v2 v3 => L (v0, v1, v2, v3))) n (q21, q22, q23, q24)
def f290_fr20 (a0 : (List Int) × Int × Int) (a1 : Int) (a2 : Int × Int × Int) (q9 : Int) (q12 : List tM) (y1 : Int) (y3 : tV × Int) (y15 : List tM) (y16 : List Int) (y17 : tV × Int) (q21 q22 q23 : Int) (q24 : List Int) : Fr := ⟨88, [(0, .v false [.box 0 0]), (1, .v false [.int .i64 a1]), (2, .v true [.int .i64 a2.1, .int .i64 a2.2.1, .int .i64 a2.2.2]), (5, .v false [.box 1 0]), (6, .v false [.box 2 0]), (7, .v false [.box 3 0]), (8, .v false [.row 1]), (9, .v false [.row 2]), (10, .v false [.int .i64 q9]), (11, .v false [.row 3]), (12, .v false [.row 4]), (13, .v false [.int .i64 (w ((2 : Int) + y17.2))]), (14, .v false [.int .i64 q21]), (23, .v false [.bool (y1 != (0 : Int))]), (29, .v false [.bool (decide (y3.2 > (0 : Int)))]), (35, .v false [.bool (decide (q9 > (0 : Int)))])], [some ⟨true, [.row 0, .int .i64 q22, .int .i64 q23]⟩, some ⟨true, [.int .i64 a2.1, .int .i64 a2.2.1, .int .i64 a2.2.2]⟩, some ⟨true, [.int .i64 (0 : Int), .int .i64 (0 : Int), .int .i64 (0 : Int), .int .i64 (0 : Int), .row 5]⟩, some ⟨true, [.int .i64 a1, .int .i64 a2.1, .int .i64 a2.2.1, .int .i64 a2.2.2, .row 6]⟩], [some ⟨5, (.int .u8), a0.1, .ro⟩, some ⟨95, sM, y15, .own⟩, some ⟨95, sM, q12, .own⟩, some ⟨2, sI, y16, .own⟩, some ⟨2, sI, q24, .own⟩, some ⟨2, sI, [], .own⟩, some ⟨2, sI, [], .own⟩]⟩
def f290_b8 (K : Nat) (a0 : (List Int) × Int × Int) (a1 : Int) (a2 : Int × Int × Int) (y1 : Int) (y2 : tA × Int × Int) (y3 : tV × Int) (I20 : Int → (List tM) → Int → (tV × Int) → (List tM) → (List Int) → (tV × Int) → Int → Int → Int → (List Int) → Option (tV × Int × tL × List Int)) (L8 : Int → Int → Int → (List tM) → Option (tV × Int × tL × List Int)) (q9 q10 q11 : Int) (q12 : List tM) : Option (tV × Int × tL × List Int) :=
  (bif (decide (q9 > (0 : Int))) then (f309G K (a0.1, q10, q11) a1 a2).bind fun y13 => (f303G K a2 y13.2).bind fun y14 => (bif (Nat.ble (q12.length + [y14].length) (lim 48)) then L8 (w (q9 - (1 : Int))) y13.1.1 y13.1.2 (q12 ++ [y14]) else none) else (f253G K a2 q12).bind fun y15 => (f126G K a2 y15).bind fun y16 => (f194G K (a0.1, q10, q11) (3 : Int)).bind fun y17 => I20 q9 q12 y1 y3 y15 y16 y17 (0 : Int) y17.1.1 y17.1.2 [])
def f290_l8 (K : Nat) (a0 : (List Int) × Int × Int) (a1 : Int) (a2 : Int × Int × Int) (y1 : Int) (y2 : tA × Int × Int) (y3 : tV × Int) (n : Nat) (q9 q10 q11 : Int) (q12 : List tM) : Option (tV × Int × tL × List Int) :=
  iter (X := Int × Int × Int × List tM) (fun L x => (fun L8 => f290_b8 K a0 a1 a2 y1 y2 y3 (fun c0 c1 c2 c3 c4 c5 c6 d0 d1 d2 d3 => f290_l20 K a0 a1 a2 c0 c1 c2 c3 c4 c5 c6 K d0 d1 d2 d3) L8 x.1 x.2.1 x.2.2.1 x.2.2.2) (fun v0 v1 v2 v3 => L (v0, v1, v2, v3))) n (q9, q10, q11, q12)
def f290_fr8 (a0 : (List Int) × Int × Int) (a1 : Int) (a2 : Int × Int × Int) (y1 : Int) (y2 : tA × Int × Int) (y3 : tV × Int) (q9 q10 q11 : Int) (q12 : List tM) : Fr := ⟨88, [(0, .v false [.box 0 0]), (1, .v false [.int .i64 a1]), (2, .v true [.int .i64 a2.1, .int .i64 a2.2.1, .int .i64 a2.2.2]), (5, .v false [.box 1 0]), (6, .v false [.box 2 0]), (7, .v false [.box 3 0]), (8, .v false [.row 1]), (9, .v false [.row 2]), (10, .v false [.int .i64 q9]), (23, .v false [.bool (y1 != (0 : Int))]), (29, .v false [.bool (decide (y3.2 > (0 : Int)))])], [some ⟨true, [.row 0, .int .i64 q10, .int .i64 q11]⟩, some ⟨true, [.int .i64 a2.1, .int .i64 a2.2.1, .int .i64 a2.2.2]⟩, some ⟨true, [.int .i64 (0 : Int), .int .i64 (0 : Int), .int .i64 (0 : Int), .int .i64 (0 : Int), .row 3]⟩, some ⟨true, [.int .i64 a1, .int .i64 a2.1, .int .i64 a2.2.1, .int .i64 a2.2.2, .row 4]⟩], [some ⟨5, (.int .u8), a0.1, .ro⟩, some ⟨95, sM, [y2], .own⟩, some ⟨95, sM, q12, .own⟩, some ⟨2, sI, [], .own⟩, some ⟨2, sI, [], .own⟩]⟩
def f290_b46 (K : Nat) (a0 : (List Int) × Int × Int) (a1 : Int) (a2 : Int × Int × Int) (q39 q40 q41 : Int) (q42 q43 : List Int) (y1 : Int) (y2 : tA × Int × Int) (y3 : tV × Int) (y30 : List Int) (y31 : tV × Int) (L46 : Int → (List Int) → Option (tV × Int × tL × List Int)) (q47 : Int) (q48 : List Int) : Option (tV × Int × tL × List Int) :=
  (bif (decide (q47 < (y30.length : Int))) then (bif (decide (0 ≤ q47) && decide (q47 < (y30.length : Int))) then (bif (decide (0 ≤ (y30.getD ((0 : Int) + q47).toNat (0 : Int))) && decide ((y30.getD ((0 : Int) + q47).toNat (0 : Int)) < (q43.length : Int))) then (bif (Nat.ble (q48.length + [(q43.getD ((0 : Int) + (y30.getD ((0 : Int) + q47).toNat (0 : Int))).toNat (0 : Int))].length) (lim 8)) then L46 (w (q47 + (1 : Int))) (q48 ++ [(q43.getD ((0 : Int) + (y30.getD ((0 : Int) + q47).toNat (0 : Int))).toNat (0 : Int))]) else none) else none) else none) else some ((q40, q41), a1, a2, q48))
def f290_l46 (K : Nat) (a0 : (List Int) × Int × Int) (a1 : Int) (a2 : Int × Int × Int) (q39 q40 q41 : Int) (q42 q43 : List Int) (y1 : Int) (y2 : tA × Int × Int) (y3 : tV × Int) (y30 : List Int) (y31 : tV × Int) (n : Nat) (q47 : Int) (q48 : List Int) : Option (tV × Int × tL × List Int) :=
  iter (X := Int × List Int) (fun L x => (fun L46 => f290_b46 K a0 a1 a2 q39 q40 q41 q42 q43 y1 y2 y3 y30 y31 L46 x.1 x.2) (fun v0 v1 => L (v0, v1))) n (q47, q48)
def f290_fr46 (a0 : (List Int) × Int × Int) (a1 : Int) (a2 : Int × Int × Int) (q39 q40 q41 : Int) (q42 q43 : List Int) (y1 : Int) (y2 : tA × Int × Int) (y3 : tV × Int) (y30 : List Int) (y31 : tV × Int) (q47 : Int) (q48 : List Int) : Fr := ⟨88, [(0, .v false [.box 0 0]), (1, .v false [.int .i64 a1]), (2, .v true [.int .i64 a2.1, .int .i64 a2.2.1, .int .i64 a2.2.2]), (5, .v false [.box 1 0]), (6, .v false [.box 2 0]), (7, .v false [.box 3 0]), (8, .v false [.row 1]), (11, .v false [.row 2]), (12, .v false [.row 3]), (13, .v false [.int .i64 (w ((2 : Int) + y31.2))]), (14, .v false [.int .i64 q39]), (15, .v false [.int .i64 q47]), (23, .v false [.bool (y1 != (0 : Int))]), (29, .v false [.bool (decide (y3.2 > (0 : Int)))]), (60, .v false [.bool (decide (q39 < (y30.length : Int)))])], [some ⟨true, [.row 0, .int .i64 q40, .int .i64 q41]⟩, some ⟨true, [.int .i64 a2.1, .int .i64 a2.2.1, .int .i64 a2.2.2]⟩, some ⟨true, [.int .i64 (0 : Int), .int .i64 (0 : Int), .int .i64 (0 : Int), .int .i64 (0 : Int), .row 4]⟩, some ⟨true, [.int .i64 a1, .int .i64 a2.1, .int .i64 a2.2.1, .int .i64 a2.2.2, .row 5]⟩], [some ⟨5, (.int .u8), a0.1, .ro⟩, some ⟨95, sM, [y2], .own⟩, some ⟨2, sI, y30, .own⟩, some ⟨2, sI, q43, .own⟩, some ⟨2, sI, q42, .own⟩, some ⟨2, sI, q48, .own⟩]⟩
def f290_b38 (K : Nat) (a0 : (List Int) × Int × Int) (a1 : Int) (a2 : Int × Int × Int) (y1 : Int) (y2 : tA × Int × Int) (y3 : tV × Int) (y30 : List Int) (y31 : tV × Int) (I46 : Int → Int → Int → (List Int) → (List Int) → Int → tM → (tV × Int) → (List Int) → (tV × Int) → Int → (List Int) → Option (tV × Int × tL × List Int)) (L38 : Int → Int → Int → (List Int) → (List Int) → Option (tV × Int × tL × List Int)) (q39 q40 q41 : Int) (q42 q43 : List Int) : Option (tV × Int × tL × List Int) :=
  (bif (decide (q39 < (y30.length : Int))) then (f194G K (a0.1, q40, q41) (w ((2 : Int) + y31.2))).bind fun y44 => (bif (Nat.ble (q43.length + [y44.2].length) (lim 8)) then L38 (w (q39 + (1 : Int))) y44.1.1 y44.1.2 q42 (q43 ++ [y44.2]) else none) else I46 q39 q40 q41 q42 q43 y1 y2 y3 y30 y31 (0 : Int) [])
def f290_l38 (K : Nat) (a0 : (List Int) × Int × Int) (a1 : Int) (a2 : Int × Int × Int) (y1 : Int) (y2 : tA × Int × Int) (y3 : tV × Int) (y30 : List Int) (y31 : tV × Int) (n : Nat) (q39 q40 q41 : Int) (q42 q43 : List Int) : Option (tV × Int × tL × List Int) :=
  iter (X := Int × Int × Int × List Int × List Int) (fun L x => (fun L38 => f290_b38 K a0 a1 a2 y1 y2 y3 y30 y31 (fun c0 c1 c2 c3 c4 c5 c6 c7 c8 c9 d0 d1 => f290_l46 K a0 a1 a2 c0 c1 c2 c3 c4 c5 c6 c7 c8 c9 K d0 d1) L38 x.1 x.2.1 x.2.2.1 x.2.2.2.1 x.2.2.2.2) (fun v0 v1 v2 v3 v4 => L (v0, v1, v2, v3, v4))) n (q39, q40, q41, q42, q43)
def f290_fr38 (a0 : (List Int) × Int × Int) (a1 : Int) (a2 : Int × Int × Int) (y1 : Int) (y2 : tA × Int × Int) (y3 : tV × Int) (y30 : List Int) (y31 : tV × Int) (q39 q40 q41 : Int) (q42 q43 : List Int) : Fr := ⟨88, [(0, .v false [.box 0 0]), (1, .v false [.int .i64 a1]), (2, .v true [.int .i64 a2.1, .int .i64 a2.2.1, .int .i64 a2.2.2]), (5, .v false [.box 1 0]), (6, .v false [.box 2 0]), (7, .v false [.box 3 0]), (8, .v false [.row 1]), (11, .v false [.row 2]), (12, .v false [.row 3]), (13, .v false [.int .i64 (w ((2 : Int) + y31.2))]), (14, .v false [.int .i64 q39]), (23, .v false [.bool (y1 != (0 : Int))]), (29, .v false [.bool (decide (y3.2 > (0 : Int)))])], [some ⟨true, [.row 0, .int .i64 q40, .int .i64 q41]⟩, some ⟨true, [.int .i64 a2.1, .int .i64 a2.2.1, .int .i64 a2.2.2]⟩, some ⟨true, [.int .i64 (0 : Int), .int .i64 (0 : Int), .int .i64 (0 : Int), .int .i64 (0 : Int), .row 4]⟩, some ⟨true, [.int .i64 a1, .int .i64 a2.1, .int .i64 a2.2.1, .int .i64 a2.2.2, .row 5]⟩], [some ⟨5, (.int .u8), a0.1, .ro⟩, some ⟨95, sM, [y2], .own⟩, some ⟨2, sI, y30, .own⟩, some ⟨2, sI, q43, .own⟩, some ⟨2, sI, q42, .own⟩, some ⟨2, sI, [], .own⟩]⟩
def f290_k20 (K : Nat) (a0 : (List Int) × Int × Int) (a1 : Int) (a2 : Int × Int × Int) (lr : LR (tV × Int × tL × List Int)) : Ex → Fr → Option (tV × Int × tL × List Int) :=
  contC (f290E K) 1 lr f290C [1, 1, 1, 1, 1, 1, 1, 1, 0, 1, 0] (finP (f290E K) Tryz.f290 sV [(.cons sI (.cons sL (.list 2 sI)))])
def f290_k8 (K : Nat) (a0 : (List Int) × Int × Int) (a1 : Int) (a2 : Int × Int × Int) (lr : LR (tV × Int × tL × List Int)) : Ex → Fr → Option (tV × Int × tL × List Int) :=
  contC (f290E K) 1 lr f290C [1, 1, 1, 1, 0, 1, 0, 1, 0, 1, 0] (finP (f290E K) Tryz.f290 sV [(.cons sI (.cons sL (.list 2 sI)))])
def f290_k38 (K : Nat) (a0 : (List Int) × Int × Int) (a1 : Int) (a2 : Int × Int × Int) (lr : LR (tV × Int × tL × List Int)) : Ex → Fr → Option (tV × Int × tL × List Int) :=
  contC (f290E K) 1 lr f290C [1, 1, 1, 1, 1, 1, 1, 1, 0, 1, 0] (finP (f290E K) Tryz.f290 sV [(.cons sI (.cons sL (.list 2 sI)))])
def f290_k27 (K : Nat) (a0 : (List Int) × Int × Int) (a1 : Int) (a2 : Int × Int × Int) (lr : LR (tV × Int × tL × List Int)) : Ex → Fr → Option (tV × Int × tL × List Int) :=
  contC (f290E K) 1 lr f290C [1, 1, 1, 1, 1, 1, 1, 1, 1, 0, 1, 0] (finP (f290E K) Tryz.f290 sV [(.cons sI (.cons sL (.list 2 sI)))])
def f290_k46 (K : Nat) (a0 : (List Int) × Int × Int) (a1 : Int) (a2 : Int × Int × Int) (lr : LR (tV × Int × tL × List Int)) : Ex → Fr → Option (tV × Int × tL × List Int) :=
  contC (f290E K) 1 lr f290C [1, 1, 1, 1, 1, 1, 1, 1, 1, 0, 1, 0] (finP (f290E K) Tryz.f290 sV [(.cons sI (.cons sL (.list 2 sI)))])
def f290_g (K : Nat) (a0 : (List Int) × Int × Int) (a1 : Int) (a2 : Int × Int × Int) (I8 : Int → tM → (tV × Int) → Int → Int → Int → (List tM) → Option (tV × Int × tL × List Int)) (I38 : Int → tM → (tV × Int) → (List Int) → (tV × Int) → Int → Int → Int → (List Int) → (List Int) → Option (tV × Int × tL × List Int)) : Option (tV × Int × tL × List Int) :=
  (f229G K a1 a2).bind fun y1 => (bif (y1 != (0 : Int)) then some (a0.2, a1, a2, []) else (f306G K).bind fun y2 => (f194G K a0 (4 : Int)).bind fun y3 => (bif (decide (y3.2 > (0 : Int))) then (f194G K (a0.1, y3.1) (2 : Int)).bind fun y4 => I8 y1 y2 y3 (w ((1 : Int) + y4.2)) y4.1.1 y4.1.2 [] else (f126G K a2 [y2]).bind fun y30 => (f194G K (a0.1, y3.1) (3 : Int)).bind fun y31 => I38 y1 y2 y3 y30 y31 (0 : Int) y31.1.1 y31.1.2 [] []))
def f290G (K : Nat) (a0 : (List Int) × Int × Int) (a1 : Int) (a2 : Int × Int × Int) : Option (tV × Int × tL × List Int) :=
  f290_g K a0 a1 a2 (fun c0 c1 c2 d0 d1 d2 d3 => f290_l8 K a0 a1 a2 c0 c1 c2 K d0 d1 d2 d3) (fun c0 c1 c2 c3 c4 d0 d1 d2 d3 d4 => f290_l38 K a0 a1 a2 c0 c1 c2 c3 c4 K d0 d1 d2 d3 d4)
def f290M (K : Nat) : PMdl := ⟨5, (.int .u8), sV, [(.ro, sI), (.ro, sL)], [(.cons sI (.cons sL (.list 2 sI)))], fun x => f290G K x.1 x.2.1 x.2.2.1⟩
def f195E (K : Nat) : Env := ⟨[], tys, eqs, mts, K, [0, 2, 3, 4, 5, 16, 17, 24, 29], [(194, f194M K), (196, f196M K), (227, f227M K), (290, f290M K)], []⟩
def f195G (K : Nat) (a0 : (List Int) × Int × Int) : Option (tV × Int × tL × List Int) :=
  (f227G K a0).bind fun y1 => (f290G K (a0.1, y1.1) y1.2.1 y1.2.2).bind fun y2 => (f194G K (a0.1, y2.1) (60 : Int)).bind fun y3 => (bif (y3.2 == (0 : Int)) then (bif (Nat.ble (y2.2.2.2.length + [(0 : Int)].length) (lim 8)) then some (y3.1, y2.2.1, y2.2.2.1, (y2.2.2.2 ++ [(0 : Int)])) else none) else (bif (y3.2 == (1 : Int)) then (bif (decide ((y2.2.2.2.length : Int) > (0 : Int))) then (f196G K (a0.1, y3.1) [(-1 : Int), (9 : Int), (10 : Int)]).bind fun y4 => (bif (decide (0 ≤ (0 : Int)) && decide ((0 : Int) < (y2.2.2.2.length : Int))) then some (y4.1, y2.2.1, y2.2.2.1, (y2.2.2.2.set ((0 : Int) + (0 : Int)).toNat y4.2)) else none) else some (y3.1, y2.2)) else some (y3.1, y2.2)))
def f195M (K : Nat) : PMdl := ⟨5, (.int .u8), sV, [], [(.cons sI (.cons sL (.list 2 sI)))], fun x => f195G K x.1⟩
def f73E (K : Nat) : Env := ⟨[(20, f20M K)], tys, eqs, mts, K, [0, 2, 3, 4, 5, 6, 7, 8, 9, 10, 32, 39], [(193, f193M K), (194, f194M K), (195, f195M K), (196, f196M K)], [(174, f174M K)]⟩
def f73G (K : Nat) (a0 : List Int) : Option (ByteArray × Int × Int × tL × List Int) :=
  (f174G K a0).bind fun y1 => (f193G K (a0, y1)).bind fun y2 => (f20G K y2.2.1 y2.2.2.1 y2.2.2.2).bind fun y3 => (bif ((!(!(y3.2 != (0 : Int)))) || true) then ((bif (!(y3.2 != (0 : Int))) then f194G K (a0, y2.1) (8 : Int) else some (y2.1, (0 : Int)))).bind fun y4 => (bif ((!(!(y3.2 != (0 : Int)))) || true) then (bif (bif (y3.2 != (0 : Int)) then true else (y4.2 == (0 : Int))) then (f195G K (a0, y4.1)).bind fun y5 => some (y2.2.1, y2.2.2.1, y5.2) else (f194G K (a0, y4.1) (5 : Int)).bind fun y6 => (bif (y6.2 == (0 : Int)) then (f194G K (a0, y6.1) (y3.1.2.2.length : Int)).bind fun y7 => (f196G K (a0, y7.1) [(0 : Int), (5 : Int), (-1 : Int)]).bind fun y8 => (bif (decide (0 ≤ y7.2) && decide (y7.2 < (y3.1.2.2.length : Int))) then some (y2.2.1, y2.2.2.1, y3.1.1, y3.1.2.1, (y3.1.2.2.set ((0 : Int) + y7.2).toNat y8.2)) else none) else some (y2.2.1, y2.2.2.1, y3.1))) else none) else none)
def f73M (K : Nat) : Mdl := ⟨[(.ro, (.list 5 (.int .u8)))], [.str, sI, (.cons sI (.cons sL (.list 2 sI)))], fun x => f73G K x.1⟩
def f248E (K : Nat) : Env := ⟨[(146, f146M K)], tys, eqs, mts, K, [0, 2], [], []⟩
def f248G (K : Nat) (a0 : Int) : Option Bool :=
  (f146G K a0 (0 : Int) (1 : Int)).bind fun y1 => some y1
def f248M (K : Nat) : Mdl := ⟨[(.ro, sI)], [.bool], fun x => f248G K x.1⟩
def f249E (K : Nat) : Env := ⟨[(146, f146M K), (238, f238M K)], tys, eqs, mts, K, [0, 1, 2], [], []⟩
def f249G (K : Nat) (a0 : Int × Int × Int) : Option Bool :=
  (f146G K a0.1 (1 : Int) (64 : Int)).bind fun y1 => (bif ((!y1) || true) then (bif ((!y1) || true) then ((bif y1 then f146G K a0.2.2 (1 : Int) (64 : Int) else some false)).bind fun y2 => (bif ((!(bif y1 then y2 else false)) || true) then (bif ((!(bif y1 then y2 else false)) || true) then (bif ((!(bif y1 then y2 else false)) || true) then (bif ((!(bif y1 then y2 else false)) || true) then (bif ((!(bif y1 then y2 else false)) || true) then ((bif (bif y1 then y2 else false) then f146G K a0.2.1 (0 : Int) (w (a0.1 - (1 : Int))) else some false)).bind fun y3 => (bif ((!(bif (bif y1 then y2 else false) then y3 else false)) || true) then ((bif (bif (bif y1 then y2 else false) then y3 else false) then f238G K a0 else some (0 : Int))).bind fun y4 => (bif ((!(bif (bif y1 then y2 else false) then y3 else false)) || true) then some (bif (bif (bif y1 then y2 else false) then y3 else false) then (decide (y4 ≤ (64 : Int))) else false) else none) else none) else none) else none) else none) else none) else none) else none) else none)
def f249M (K : Nat) : Mdl := ⟨[(.ro, sL)], [.bool], fun x => f249G K x.1⟩
def f323E (K : Nat) : Env := ⟨[(146, f146M K)], tys, eqs, mts, K, [0, 1, 2, 4], [], []⟩
def f323G (K : Nat) (a0 a1 a2 : Int) : Option Bool :=
  (f146G K a0 a1 a2).bind fun y1 => some (!y1)
def f323M (K : Nat) : Mdl := ⟨[(.ro, sI), (.cap, sI), (.cap, sI)], [.bool], fun x => f323G K x.1 x.2.1 x.2.2.1⟩
def f368C : Code := codeOf Tryz.f368
def f368E (K : Nat) : Env := ⟨[], tys, eqs, mts, K, [0, 1, 4, 5, 7, 8, 9, 16], [], []⟩
def f368_b3 (K : Nat) (a0 : List Int) (a1 : (Int → Option Bool)) (L3 : Int → Option Int) (q4 : Int) : Option Int :=
  (bif (decide (q4 < (a0.length : Int))) then (bif (decide (0 ≤ q4) && decide (q4 < (a0.length : Int))) then (a1 (a0.getD ((0 : Int) + q4).toNat (0 : Int))).bind fun y5 => (bif y5 then some q4 else L3 (w (q4 + (1 : Int)))) else none) else some (-1 : Int))
def f368_l3 (K : Nat) (a0 : List Int) (a1 : (Int → Option Bool)) (n : Nat) (q4 : Int) : Option Int :=
  iter (X := Int) (fun L x => (fun L3 => f368_b3 K a0 a1 L3 x) (fun v0 => L v0)) n q4
def f368_fr3 (a0 : List Int) (a1 : (Int → Option Bool)) (q4 : Int) : Fr := ⟨19, [(0, .v false [.row 0]), (1, .v false [.fv1 sI .bool a1]), (4, .v false [.int .i64 (0 : Int)]), (7, .v false [.int .i64 (a0.length : Int)]), (8, .v false [.int .i64 q4])], [], [some ⟨2, sI, a0, .ro⟩]⟩
def f368_k3 (K : Nat) (a0 : List Int) (a1 : (Int → Option Bool)) (lr : LR Int) : Ex → Fr → Option Int :=
  contC (f368E K) 1 lr f368C [1, 0, 1, 0] (finK (f368E K) Tryz.f368 [(.ro, (.list 2 sI)), (.ro, (.fn1 sI .bool))] [sI] (a0, a1, ()))
def f368_g (K : Nat) (a0 : List Int) (a1 : (Int → Option Bool)) (I3 : Int → Option Int) : Option Int :=
  I3 (0 : Int)
def f368G (K : Nat) (a0 : List Int) (a1 : (Int → Option Bool)) : Option Int :=
  f368_g K a0 a1 (fun d0 => f368_l3 K a0 a1 K d0)
def f368M (K : Nat) : Mdl := ⟨[(.ro, (.list 2 sI)), (.ro, (.fn1 sI .bool))], [sI], fun x => f368G K x.1 x.2.1⟩
def f322E (K : Nat) : Env := ⟨[(368, f368M K)], tys, eqs, mts, K, [0, 1, 4], [], []⟩
def f322G (K : Nat) (a0 : List Int) (a1 : (Int → Option Bool)) : Option Bool :=
  (f368G K a0 a1).bind fun y1 => some (decide (y1 ≥ (0 : Int)))
def f322M (K : Nat) : Mdl := ⟨[(.ro, (.list 2 sI)), (.ro, (.fn1 sI .bool))], [.bool], fun x => f322G K x.1 x.2.1⟩
def f250E (K : Nat) : Env := ⟨[(322, f322M K), (323, f323M K)], tys, eqs, mts, K, [0, 1, 2, 4, 5, 6], [], []⟩
def f250G (K : Nat) (a0 : List Int) (a1 a2 : Int) : Option Bool :=
  (f322G K a0 (fun z1 => f323G K z1 a1 a2)).bind fun y2 => some (!y2)
def f250M (K : Nat) : Mdl := ⟨[(.ro, (.list 2 sI)), (.ro, sI), (.ro, sI)], [.bool], fun x => f250G K x.1 x.2.1 x.2.2.1⟩
def f138E (K : Nat) : Env := ⟨[(238, f238M K), (248, f248M K), (249, f249M K), (250, f250M K)], tys, eqs, mts, K, [0, 1, 2], [], []⟩
def f138G (K : Nat) (a0 : Int × tL × List Int) : Option Bool :=
  (f248G K a0.1).bind fun y1 => (bif ((!y1) || true) then (bif ((!y1) || true) then ((bif y1 then f249G K a0.2.1 else some false)).bind fun y2 => (bif ((!(bif y1 then y2 else false)) || true) then (bif ((!(bif y1 then y2 else false)) || true) then (bif ((!(bif y1 then y2 else false)) || true) then (bif ((!(bif y1 then y2 else false)) || true) then (bif ((!(bif y1 then y2 else false)) || true) then ((bif (bif y1 then y2 else false) then f238G K a0.2.1 else some (0 : Int))).bind fun y3 => (bif ((!(bif y1 then y2 else false)) || true) then (bif ((!(bif (bif y1 then y2 else false) then ((a0.2.2.length : Int) == y3) else false)) || true) then (bif ((!(bif (bif y1 then y2 else false) then ((a0.2.2.length : Int) == y3) else false)) || true) then ((bif (bif (bif y1 then y2 else false) then ((a0.2.2.length : Int) == y3) else false) then f250G K a0.2.2 (0 : Int) (9 : Int) else some false)).bind fun y4 => some (bif (bif (bif y1 then y2 else false) then ((a0.2.2.length : Int) == y3) else false) then y4 else false) else none) else none) else none) else none) else none) else none) else none) else none) else none) else none)
def f138M (K : Nat) : Mdl := ⟨[(.ro, (.cons sI (.cons sL (.list 2 sI))))], [.bool], fun x => f138G K x.1⟩
def f140E (K : Nat) : Env := ⟨[(130, f130M K), (161, f161M K)], tys, eqs, mts, K, [0, 1, 2, 3, 4], [], []⟩
def f140G (K : Nat) (a0 : Int × tL × List Int) (a1 : Int × Int) : Option Int :=
  (f161G K a0.2.1 a1).bind fun y1 => (f130G K a0.2.1 y1).bind fun y2 => (bif (decide (0 ≤ y2) && decide (y2 < (a0.2.2.length : Int))) then some (a0.2.2.getD ((0 : Int) + y2).toNat (0 : Int)) else none)
def f140M (K : Nat) : Mdl := ⟨[(.ro, (.cons sI (.cons sL (.list 2 sI)))), (.ro, sV)], [sI], fun x => f140G K x.1 x.2.1⟩
def f251C : Code := codeOf Tryz.f251
def f251E (K : Nat) : Env := ⟨[(140, f140M K), (191, f191M K), (207, f207M K)], tys, eqs, mts, K, [0, 1, 2, 3, 4, 5, 6, 9, 10, 11, 12, 26], [], []⟩
def f251_b5 (K : Nat) (a0 : Int × tL × List Int) (a1 : tA × Int × Int) (y1 : List tV) (L5 : Int → Option Bool) (q6 : Int) : Option Bool :=
  (bif (decide (q6 < (y1.length : Int))) then (bif (decide (0 ≤ q6) && decide (q6 < (y1.length : Int))) then (f191G K a1 (y1.getD ((0 : Int) + q6).toNat ((0 : Int), (0 : Int)))).bind fun y7 => (f140G K a0 y7).bind fun y8 => (bif (decide (0 ≤ q6) && decide (q6 < (a0.2.2.length : Int))) then (bif (y8 != (a0.2.2.getD ((0 : Int) + q6).toNat (0 : Int))) then some false else L5 (w (q6 + (1 : Int)))) else none) else none) else some true)
def f251_l5 (K : Nat) (a0 : Int × tL × List Int) (a1 : tA × Int × Int) (y1 : List tV) (n : Nat) (q6 : Int) : Option Bool :=
  iter (X := Int) (fun L x => (fun L5 => f251_b5 K a0 a1 y1 L5 x) (fun v0 => L v0)) n q6
def f251_fr5 (a0 : Int × tL × List Int) (a1 : tA × Int × Int) (y1 : List tV) (q6 : Int) : Fr := ⟨28, [(0, .v true [.int .i64 a0.1, .int .i64 a0.2.1.1, .int .i64 a0.2.1.2.1, .int .i64 a0.2.1.2.2, .row 0]), (1, .v true [.int .i64 a1.1.1, .int .i64 a1.1.2.1, .int .i64 a1.1.2.2.1, .int .i64 a1.1.2.2.2, .int .i64 a1.2.1, .int .i64 a1.2.2]), (2, .v false [.box 0 0]), (3, .v false [.box 1 0]), (4, .v false [.bool false]), (9, .v false [.row 1]), (10, .v false [.int .i64 (y1.length : Int)]), (11, .v false [.int .i64 q6])], [some ⟨true, [.int .i64 a0.1, .int .i64 a0.2.1.1, .int .i64 a0.2.1.2.1, .int .i64 a0.2.1.2.2, .row 0]⟩, some ⟨true, [.int .i64 a1.1.1, .int .i64 a1.1.2.1, .int .i64 a1.1.2.2.1, .int .i64 a1.1.2.2.2, .int .i64 a1.2.1, .int .i64 a1.2.2]⟩], [some ⟨2, sI, a0.2.2, .ro⟩, some ⟨79, sV, y1, .own⟩]⟩
def f251_k5 (K : Nat) (a0 : Int × tL × List Int) (a1 : tA × Int × Int) (lr : LR Bool) : Ex → Fr → Option Bool :=
  contC (f251E K) 1 lr f251C [1, 0, 1, 0] (finK (f251E K) Tryz.f251 [(.ro, (.cons sI (.cons sL (.list 2 sI)))), (.ro, sM)] [.bool] (a0, a1, ()))
def f251_g (K : Nat) (a0 : Int × tL × List Int) (a1 : tA × Int × Int) (I5 : (List tV) → Int → Option Bool) : Option Bool :=
  (f207G K a0.2.1).bind fun y1 => I5 y1 (0 : Int)
def f251G (K : Nat) (a0 : Int × tL × List Int) (a1 : tA × Int × Int) : Option Bool :=
  f251_g K a0 a1 (fun c0 d0 => f251_l5 K a0 a1 c0 K d0)
def f251M (K : Nat) : Mdl := ⟨[(.ro, (.cons sI (.cons sL (.list 2 sI)))), (.ro, sM)], [.bool], fun x => f251G K x.1 x.2.1⟩
end
end Go.Proofs.YtfccacobkcglcaaGreat.X
