/- Functions of the program as plain Lean functions, and that the program does what they say. Printed by gen.py. -/
import Derived.Test.YtfccacobkcglcaaGreatQyXLoop
import Derived.Test.YtfccacobkcglcaaGreatQyXLib
import Derived.Test.YtfccacobkcglcaaGreatProg
namespace Go.Proofs.YtfccacobkcglcaaGreat.X
open Go
set_option maxRecDepth 100000
set_option linter.unusedVariables false
abbrev tM : Type := ((Int × Int × Int × Int) × Int × Int)
abbrev tA : Type := (Int × Int × Int × Int)
abbrev tL : Type := (Int × Int × Int)
abbrev tV : Type := (Int × Int)
abbrev sM : Sh := (.cons (.cons (.int .i64) (.cons (.int .i64) (.cons (.int .i64) (.int .i64)))) (.cons (.int .i64) (.int .i64)))
abbrev sA : Sh := (.cons (.int .i64) (.cons (.int .i64) (.cons (.int .i64) (.int .i64))))
abbrev sL : Sh := (.cons (.int .i64) (.cons (.int .i64) (.int .i64)))
abbrev sV : Sh := (.cons (.int .i64) (.int .i64))
abbrev sI : Sh := (.int .i64)
abbrev zM : tM := (((0 : Int), ((0 : Int), ((0 : Int), (0 : Int)))), ((0 : Int), (0 : Int)))
abbrev zA : tA := ((0 : Int), ((0 : Int), ((0 : Int), (0 : Int))))
noncomputable section
def tys : List (Nat × Ty) := [(2, .sc sI), (3, .sc sI), (4, .sc .bool), (5, .sc (.int .u8)), (9, .sc .str), (31, .st sL [(0, 1), (1, 1), (2, 1)]), (32, .sl 2 sI 8), (34, .st (.cons sI (.cons sL (.list 2 sI))) [(0, 1), (1, 3), (4, 1)]), (52, .sl 9 .str 16), (55, .sl 133 (.cons sV sI) 24), (64, .sl 84 (.list 79 sV) 24), (68, .sl 95 sM 48), (79, .st sV [(0, 1), (1, 1)]), (82, .sl 5 (.int .u8) 1), (84, .sl 79 sV 16), (93, .st sA [(0, 1), (1, 1), (2, 1), (3, 1)]), (95, .st sM [(0, 4), (4, 2)]), (114, .sl 31 sL 24), (133, .st (.cons sV sI) [(0, 2), (2, 1)]), (195, .sl 68 (.list 95 sM) 24), (269, .sc (.int .u64)), (289, .st (.cons (.list 5 (.int .u8)) sV) [(0, 1), (1, 1), (2, 1)]), (313, .sl 93 sA 32)]
def eqs : List (Nat × List Sh) := [(31, [sI, sI, sI]), (79, [sI, sI]), (93, [sI, sI, sI, sI]), (95, [sI, sI, sI, sI, sI, sI])]
def mts : List (Nat × MTy) := [(300, ⟨95, 4, sM, .bool⟩)]
theorem tab_ok : tabB Tryz.prog tys eqs mts = true := by kernel_rfl
theorem mixed_ok : Tryz.prog.follows .mixedOrders = true := by kernel_rfl
def f55E (K : Nat) : Env := ⟨[], tys, eqs, mts, K, [0, 2], [], []⟩
def f55G (K : Nat) (a0 : List Int) : Option Bool :=
  some (decide ((a0.length : Int) > (4096 : Int)))
def f55M (K : Nat) : Mdl := ⟨[(.ro, (.list 5 (.int .u8)))], [.bool], fun x => f55G K x.1⟩
def f174C : Code := codeOf Tryz.f174
def f174E (K : Nat) : Env := ⟨[], tys, eqs, mts, K, [0, 2, 3, 4, 15], [], []⟩
def f174_b2 (K : Nat) (a0 : List Int) (L2 : Int → Int → Option tV) (q3 q4 : Int) : Option tV :=
  (bif ((!(decide (q3 < (a0.length : Int)))) || true) then (bif ((!(decide (q3 < (a0.length : Int)))) || true) then (bif (bif (decide (q3 < (a0.length : Int))) then (decide (q3 < (64 : Int))) else false) then (bif (decide (0 ≤ q3) && decide (q3 < (a0.length : Int))) then L2 (w (q3 + (1 : Int))) ((w ((w (q4 * (73 : Int))) + (w (a0.getD ((0 : Int) + q3).toNat (0 : Int))))).tmod (2147483647 : Int)) else none) else some ((0 : Int), q4)) else none) else none)
def f174_l2 (K : Nat) (a0 : List Int) (n : Nat) (q3 q4 : Int) : Option tV :=
  iter (X := Int × Int) (fun L x => (fun L2 => f174_b2 K a0 L2 x.1 x.2) (fun v0 v1 => L (v0, v1))) n (q3, q4)
def f174_fr2 (a0 : List Int) (q3 q4 : Int) : Fr := ⟨34, [(0, .v false [.row 0]), (2, .v false [.und]), (3, .v false [.box 0 0]), (4, .v false [.int .i64 q3])], [some ⟨true, [.row 0, .int .i64 (0 : Int), .int .i64 q4]⟩], [some ⟨5, (.int .u8), a0, .ro⟩]⟩
def f174_k2 (K : Nat) (a0 : List Int) (lr : LR tV) : Ex → Fr → Option tV :=
  contC (f174E K) 1 lr f174C [1, 1, 0, 1, 0] (finN Tryz.f174 sV)
def f174_g (K : Nat) (a0 : List Int) (I2 : Int → Int → Option tV) : Option tV :=
  I2 (0 : Int) (93001 : Int)
def f174G (K : Nat) (a0 : List Int) : Option tV :=
  f174_g K a0 (fun d0 d1 => f174_l2 K a0 K d0 d1)
def f174M (K : Nat) : NMdl := ⟨5, (.int .u8), sV, [], fun x => f174G K x.1⟩
def f194E (K : Nat) : Env := ⟨[], tys, eqs, mts, K, [0, 1, 4, 5, 7, 32, 62], [], []⟩
def f194G (K : Nat) (a0 : (List Int) × Int × Int) (a1 : Int) : Option (tV × Int) :=
  (bif (decide (a1 ≤ (1 : Int))) then some (a0.2, (0 : Int)) else (bif (decide (a0.2.1 < (a0.1.length : Int))) then (bif (decide (0 ≤ a0.2.1) && decide (a0.2.1 < (a0.1.length : Int))) then (bif ((!(decide (a1 ≤ (256 : Int)))) || true) then (bif ((!(decide (a1 ≤ (256 : Int)))) || true) then (bif ((!(decide (a1 ≤ (256 : Int)))) || true) then (bif ((!(decide (a1 ≤ (256 : Int)))) || true) then (bif ((!(decide (a1 ≤ (256 : Int)))) || true) then (bif ((!(decide (a1 ≤ (256 : Int)))) || true) then (bif (bif (decide (a1 ≤ (256 : Int))) then (((w (a0.2.1 + (1 : Int))).tmod (2 : Int)) == (0 : Int)) else false) then (bif (decide (0 ≤ (w ((w (a0.2.1 + (1 : Int))) - (1 : Int)))) && decide ((w ((w (a0.2.1 + (1 : Int))) - (1 : Int))) < (a0.1.length : Int))) then (bif (a1 != 0) then some (((w (a0.2.1 + (1 : Int))), ((w ((w (a0.2.2 * (48271 : Int))) + (67 : Int))).tmod (2147483647 : Int))), ((w (a0.1.getD ((0 : Int) + (w ((w (a0.2.1 + (1 : Int))) - (1 : Int)))).toNat (0 : Int))).tmod a1)) else none) else none) else (bif (a1 != 0) then some (((w (a0.2.1 + (1 : Int))), ((w ((w (a0.2.2 * (48271 : Int))) + (67 : Int))).tmod (2147483647 : Int))), ((w ((w (((w ((w (a0.2.2 * (48271 : Int))) + (67 : Int))).tmod (2147483647 : Int)).tdiv (37 : Int))) + (w (a0.1.getD ((0 : Int) + a0.2.1).toNat (0 : Int))))).tmod a1)) else none)) else none) else none) else none) else none) else none) else none) else none) else (bif (a1 != 0) then some ((a0.2.1, ((w ((w (a0.2.2 * (48271 : Int))) + (67 : Int))).tmod (2147483647 : Int))), ((w (((w ((w (a0.2.2 * (48271 : Int))) + (67 : Int))).tmod (2147483647 : Int)).tdiv (37 : Int))).tmod a1)) else none)))
def f194M (K : Nat) : PMdl := ⟨5, (.int .u8), sV, [(.ro, sI)], [sI], fun x => f194G K x.1 x.2.1⟩
def f142E (K : Nat) : Env := ⟨[], tys, eqs, mts, K, [0], [], []⟩
def f142G (K : Nat) : Option (List ByteArray) :=
  some [(bs [112, 49]), (bs [112, 50]), (bs [112, 109]), (bs [112, 103]), (bs [99, 109]), (bs [112, 109, 109]), (bs [112, 109, 103]), (bs [112, 103, 103]), (bs [99, 109, 109]), (bs [112, 52]), (bs [112, 52, 109]), (bs [112, 52, 103]), (bs [112, 51]), (bs [112, 51, 109, 49]), (bs [112, 51, 49, 109]), (bs [112, 54]), (bs [112, 54, 109])]
def f142M (K : Nat) : Mdl := ⟨[], [(.list 9 .str)], fun x => f142G K ⟩
def f198E (K : Nat) : Env := ⟨[(142, f142M K)], tys, eqs, mts, K, [0, 2, 5], [(194, f194M K)], []⟩
def f198G (K : Nat) (a0 : (List Int) × Int × Int) : Option (tV × ByteArray) :=
  (f194G K a0 (24 : Int)).bind fun y1 => (bif (y1.2 == (0 : Int)) then (f194G K (a0.1, y1.1) (4 : Int)).bind fun y2 => (bif (decide (0 ≤ y2.2) && decide (y2.2 < ([ByteArray.empty, (bs [112, 53]), (bs [80, 52]), (bs [112, 52, 32])].length : Int))) then some (y2.1, ([ByteArray.empty, (bs [112, 53]), (bs [80, 52]), (bs [112, 52, 32])].getD ((0 : Int) + y2.2).toNat ByteArray.empty)) else none) else (f142G K).bind fun y3 => (f194G K (a0.1, y1.1) (17 : Int)).bind fun y4 => (bif (decide (0 ≤ y4.2) && decide (y4.2 < (y3.length : Int))) then some (y4.1, (y3.getD ((0 : Int) + y4.2).toNat ByteArray.empty)) else none))
def f198M (K : Nat) : PMdl := ⟨5, (.int .u8), sV, [], [.str], fun x => f198G K x.1⟩
def f252E (K : Nat) : Env := ⟨[], tys, eqs, mts, K, [0, 1, 4, 5, 6, 7, 8, 9, 10, 11, 12, 13, 14, 38, 39, 41, 45, 49, 53, 57, 62, 67, 72, 77, 81, 86, 91, 95, 100, 106, 110], [], []⟩
def f252G (K : Nat) (a0 : ByteArray) (a1 : Int) : Option (Int × (List tM) × Bool) :=
  (bif (a0 == (bs [112, 49])) then some ((0 : Int), [], true) else (bif (a0 == (bs [112, 50])) then some ((0 : Int), [(((-1 : Int), (0 : Int), (0 : Int), (-1 : Int)), (0 : Int), (0 : Int))], true) else (bif (a0 == (bs [112, 109])) then some ((0 : Int), [(((1 : Int), (0 : Int), (0 : Int), (-1 : Int)), (0 : Int), (0 : Int))], true) else (bif (a0 == (bs [112, 103])) then some ((0 : Int), [(((1 : Int), (0 : Int), (0 : Int), (-1 : Int)), a1, (0 : Int))], true) else (bif (a0 == (bs [99, 109])) then some ((0 : Int), [(((0 : Int), (1 : Int), (1 : Int), (0 : Int)), (0 : Int), (0 : Int))], true) else (bif (a0 == (bs [112, 109, 109])) then some ((0 : Int), [(((1 : Int), (0 : Int), (0 : Int), (-1 : Int)), (0 : Int), (0 : Int)), (((-1 : Int), (0 : Int), (0 : Int), (-1 : Int)), (0 : Int), (0 : Int))], true) else (bif (a0 == (bs [112, 109, 103])) then some ((0 : Int), [(((1 : Int), (0 : Int), (0 : Int), (-1 : Int)), a1, (0 : Int)), (((-1 : Int), (0 : Int), (0 : Int), (-1 : Int)), (0 : Int), (0 : Int))], true) else (bif (a0 == (bs [112, 103, 103])) then some ((0 : Int), [(((1 : Int), (0 : Int), (0 : Int), (-1 : Int)), a1, a1), (((-1 : Int), (0 : Int), (0 : Int), (-1 : Int)), (0 : Int), (0 : Int))], true) else (bif (a0 == (bs [99, 109, 109])) then some ((0 : Int), [(((0 : Int), (1 : Int), (1 : Int), (0 : Int)), (0 : Int), (0 : Int)), (((-1 : Int), (0 : Int), (0 : Int), (-1 : Int)), (0 : Int), (0 : Int))], true) else (bif (a0 == (bs [112, 52])) then some ((0 : Int), [(((0 : Int), (-1 : Int), (1 : Int), (0 : Int)), (0 : Int), (0 : Int))], true) else (bif (a0 == (bs [112, 52, 109])) then some ((0 : Int), [(((0 : Int), (-1 : Int), (1 : Int), (0 : Int)), (0 : Int), (0 : Int)), (((1 : Int), (0 : Int), (0 : Int), (-1 : Int)), (0 : Int), (0 : Int))], true) else (bif (a0 == (bs [112, 52, 103])) then some ((0 : Int), [(((0 : Int), (-1 : Int), (1 : Int), (0 : Int)), (0 : Int), (0 : Int)), (((1 : Int), (0 : Int), (0 : Int), (-1 : Int)), a1, a1)], true) else (bif (a0 == (bs [112, 51])) then some ((1 : Int), [(((-1 : Int), (-1 : Int), (1 : Int), (0 : Int)), (0 : Int), (0 : Int))], true) else (bif (a0 == (bs [112, 51, 109, 49])) then some ((1 : Int), [(((-1 : Int), (-1 : Int), (1 : Int), (0 : Int)), (0 : Int), (0 : Int)), (((0 : Int), (1 : Int), (1 : Int), (0 : Int)), (0 : Int), (0 : Int))], true) else (bif (a0 == (bs [112, 51, 49, 109])) then some ((1 : Int), [(((-1 : Int), (-1 : Int), (1 : Int), (0 : Int)), (0 : Int), (0 : Int)), (((1 : Int), (1 : Int), (0 : Int), (-1 : Int)), (0 : Int), (0 : Int))], true) else (bif (a0 == (bs [112, 54])) then some ((1 : Int), [(((0 : Int), (-1 : Int), (1 : Int), (1 : Int)), (0 : Int), (0 : Int))], true) else (bif (a0 == (bs [112, 54, 109])) then some ((1 : Int), [(((0 : Int), (-1 : Int), (1 : Int), (1 : Int)), (0 : Int), (0 : Int)), (((0 : Int), (1 : Int), (1 : Int), (0 : Int)), (0 : Int), (0 : Int))], true) else some ((0 : Int), [], false))))))))))))))))))
def f252M (K : Nat) : Mdl := ⟨[(.ro, .str), (.ro, sI)], [sI, (.list 95 sM), .bool], fun x => f252G K x.1 x.2.1⟩
def f141E (K : Nat) : Env := ⟨[], tys, eqs, mts, K, [0, 1, 2, 6], [], []⟩
def f141G (K : Nat) (a0 a1 a2 : Int) : Option Bool :=
  (bif ((!(decide (a0 ≥ a1))) || true) then (bif ((!(decide (a0 ≥ a1))) || true) then (bif ((!(decide (a0 ≥ a1))) || true) then some (bif (decide (a0 ≥ a1)) then (decide (a0 ≤ a2)) else false) else none) else none) else none)
def f141M (K : Nat) : Mdl := ⟨[(.ro, sI), (.ro, sI), (.ro, sI)], [.bool], fun x => f141G K x.1 x.2.1 x.2.2.1⟩
def f233E (K : Nat) : Env := ⟨[], tys, eqs, mts, K, [0], [], []⟩
def f233G (K : Nat) : Option tA :=
  some ((1 : Int), (0 : Int), (0 : Int), (1 : Int))
def f233M (K : Nat) : Mdl := ⟨[], [sA], fun x => f233G K ⟩
def f306E (K : Nat) : Env := ⟨[(233, f233M K)], tys, eqs, mts, K, [0], [], []⟩
def f306G (K : Nat) : Option tM :=
  (f233G K).bind fun y1 => some (y1, (0 : Int), (0 : Int))
def f306M (K : Nat) : Mdl := ⟨[], [sM], fun x => f306G K ⟩
def f351E (K : Nat) : Env := ⟨[], tys, eqs, mts, K, [0, 1, 2, 3, 4], [], []⟩
def f351G (K : Nat) (a0 a1 : Int × Int × Int × Int) : Option tA :=
  some ((w ((w (a0.1 * a1.1)) + (w (a0.2.1 * a1.2.2.1)))), (w ((w (a0.1 * a1.2.1)) + (w (a0.2.1 * a1.2.2.2)))), (w ((w (a0.2.2.1 * a1.1)) + (w (a0.2.2.2 * a1.2.2.1)))), (w ((w (a0.2.2.1 * a1.2.1)) + (w (a0.2.2.2 * a1.2.2.2)))))
def f351M (K : Nat) : Mdl := ⟨[(.ro, sA), (.ro, sA)], [sA], fun x => f351G K x.1 x.2.1⟩
def f341E (K : Nat) : Env := ⟨[], tys, eqs, mts, K, [0, 1, 2, 3, 4], [], []⟩
def f341G (K : Nat) (a0 : Int × Int × Int × Int) (a1 : Int × Int) : Option tV :=
  some ((w ((w (a0.1 * a1.1)) + (w (a0.2.1 * a1.2)))), (w ((w (a0.2.2.1 * a1.1)) + (w (a0.2.2.2 * a1.2)))))
def f341M (K : Nat) : Mdl := ⟨[(.ro, sA), (.ro, sV)], [sV], fun x => f341G K x.1 x.2.1⟩
def f340E (K : Nat) : Env := ⟨[], tys, eqs, mts, K, [0, 1, 2, 3, 4], [], []⟩
def f340G (K : Nat) (a0 a1 : Int × Int) : Option tV :=
  some ((w (a0.1 + a1.1)), (w (a0.2 + a1.2)))
def f340M (K : Nat) : Mdl := ⟨[(.ro, sV), (.ro, sV)], [sV], fun x => f340G K x.1 x.2.1⟩
def f307E (K : Nat) : Env := ⟨[(340, f340M K), (341, f341M K), (351, f351M K)], tys, eqs, mts, K, [0, 1, 2, 3, 4], [], []⟩
def f307G (K : Nat) (a0 a1 : tA × Int × Int) : Option tM :=
  (f351G K a0.1 a1.1).bind fun y1 => (f341G K a0.1 a1.2).bind fun y2 => (f340G K y2 a0.2).bind fun y3 => some (y1, y3)
def f307M (K : Nat) : Mdl := ⟨[(.ro, sM), (.ro, sM)], [sM], fun x => f307G K x.1 x.2.1⟩
def f255E (K : Nat) : Env := ⟨[], tys, eqs, mts, K, [0, 1, 4, 9], [], []⟩
def f255G (K : Nat) (a0 a1 : Int) : Option Int :=
  (bif (a1 != 0) then (bif (decide ((a0.tmod a1) < (0 : Int))) then some (w ((a0.tmod a1) + a1)) else some (a0.tmod a1)) else none)
def f255M (K : Nat) : Mdl := ⟨[(.ro, sI), (.ro, sI)], [sI], fun x => f255G K x.1 x.2.1⟩
def f153E (K : Nat) : Env := ⟨[(255, f255M K)], tys, eqs, mts, K, [0, 1, 2, 3, 4, 5, 6], [], []⟩
def f153G (K : Nat) (a0 : Int × Int × Int) (a1 : Int × Int) : Option tV :=
  (f255G K a1.2 a0.2.2).bind fun y1 => (bif (a0.2.2 != 0) then (f255G K (w (a1.1 - (w ((w ((w (a1.2 - y1)).tdiv a0.2.2)) * a0.2.1)))) a0.1).bind fun y2 => some (y2, y1) else none)
def f153M (K : Nat) : Mdl := ⟨[(.ro, sL), (.ro, sV)], [sV], fun x => f153G K x.1 x.2.1⟩
def f303E (K : Nat) : Env := ⟨[(153, f153M K)], tys, eqs, mts, K, [0, 1, 2, 3, 4], [], []⟩
def f303G (K : Nat) (a0 : Int × Int × Int) (a1 : tA × Int × Int) : Option tM :=
  (f153G K a0 a1.2).bind fun y1 => some (a1.1, y1)
def f303M (K : Nat) : Mdl := ⟨[(.ro, sL), (.ro, sM)], [sM], fun x => f303G K x.1 x.2.1⟩
def f398E (K : Nat) : Env := ⟨[], tys, eqs, mts, K, [0, 1, 2], [], []⟩
def f398G (K : Nat) (a0 : Int × Int × Int × Int) : Option (List Int) :=
  some [a0.1, a0.2.1, a0.2.2.1, a0.2.2.2]
def f398M (K : Nat) : Mdl := ⟨[(.ro, sA)], [(.list 2 sI)], fun x => f398G K x.1⟩
def f397C : Code := codeOf Tryz.f397
def f397E (K : Nat) : Env := ⟨[], tys, eqs, mts, K, [0, 1, 4, 5, 15, 26], [], []⟩
def f397_b2 (K : Nat) (a0 a1 : List Int) (L2 : Int → Option Bool) (q3 : Int) : Option Bool :=
  (bif ((!(decide (q3 < (a0.length : Int)))) || true) then (bif ((!(decide (q3 < (a0.length : Int)))) || true) then (bif ((!(decide (q3 < (a0.length : Int)))) || true) then (bif ((!(decide (q3 < (a0.length : Int)))) || true) then (bif (bif (decide (q3 < (a0.length : Int))) then (decide (q3 < (a1.length : Int))) else false) then (bif (decide (0 ≤ q3) && decide (q3 < (a0.length : Int))) then (bif (decide (0 ≤ q3) && decide (q3 < (a1.length : Int))) then (bif ((a0.getD ((0 : Int) + q3).toNat (0 : Int)) != (a1.getD ((0 : Int) + q3).toNat (0 : Int))) then (bif (decide (0 ≤ q3) && decide (q3 < (a0.length : Int))) then (bif (decide (0 ≤ q3) && decide (q3 < (a1.length : Int))) then some (decide ((a0.getD ((0 : Int) + q3).toNat (0 : Int)) < (a1.getD ((0 : Int) + q3).toNat (0 : Int)))) else none) else none) else L2 (w (q3 + (1 : Int)))) else none) else none) else some (decide ((a0.length : Int) < (a1.length : Int)))) else none) else none) else none) else none)
def f397_l2 (K : Nat) (a0 a1 : List Int) (n : Nat) (q3 : Int) : Option Bool :=
  iter (X := Int) (fun L x => (fun L2 => f397_b2 K a0 a1 L2 x) (fun v0 => L v0)) n q3
def f397_fr2 (a0 a1 : List Int) (q3 : Int) : Fr := ⟨41, [(0, .v false [.row 0]), (1, .v false [.row 1]), (4, .v false [.bool false]), (5, .v false [.int .i64 q3])], [], [some ⟨2, sI, a0, .ro⟩, some ⟨2, sI, a1, .ro⟩]⟩
def f397_k2 (K : Nat) (a0 a1 : List Int) (lr : LR Bool) : Ex → Fr → Option Bool :=
  contC (f397E K) 2 lr f397C [1, 0, 1, 0] (finK (f397E K) Tryz.f397 [(.ro, (.list 2 sI)), (.ro, (.list 2 sI))] [.bool] (a0, a1, ()))
def f397_g (K : Nat) (a0 a1 : List Int) (I2 : Int → Option Bool) : Option Bool :=
  I2 (0 : Int)
def f397G (K : Nat) (a0 a1 : List Int) : Option Bool :=
  f397_g K a0 a1 (fun d0 => f397_l2 K a0 a1 K d0)
def f397M (K : Nat) : Mdl := ⟨[(.ro, (.list 2 sI)), (.ro, (.list 2 sI))], [.bool], fun x => f397G K x.1 x.2.1⟩
def f350E (K : Nat) : Env := ⟨[(397, f397M K), (398, f398M K)], tys, eqs, mts, K, [0, 1, 2, 3, 4], [], []⟩
def f350G (K : Nat) (a0 a1 : Int × Int × Int × Int) : Option Bool :=
  (f398G K a0).bind fun y1 => (f398G K a1).bind fun y2 => (f397G K y1 y2).bind fun y3 => some y3
def f350M (K : Nat) : Mdl := ⟨[(.ro, sA), (.ro, sA)], [.bool], fun x => f350G K x.1 x.2.1⟩
def f339E (K : Nat) : Env := ⟨[], tys, eqs, mts, K, [0, 1, 2, 3, 4], [], []⟩
def f339G (K : Nat) (a0 a1 : Int × Int) : Option Bool :=
  (bif ((!(!(decide (a0.1 < a1.1)))) || true) then (bif ((!(!(decide (a0.1 < a1.1)))) || true) then (bif ((!(!(decide (a0.1 < a1.1)))) || true) then (bif ((!(!(decide (a0.1 < a1.1)))) || true) then (bif ((!(!(decide (a0.1 < a1.1)))) || true) then (bif ((!(!(decide (a0.1 < a1.1)))) || true) then (bif ((!((!(decide (a0.1 < a1.1))) && (a0.1 == a1.1))) || true) then (bif ((!((!(decide (a0.1 < a1.1))) && (a0.1 == a1.1))) || true) then (bif ((!((!(decide (a0.1 < a1.1))) && (a0.1 == a1.1))) || true) then (bif ((!((!(decide (a0.1 < a1.1))) && (a0.1 == a1.1))) || true) then (bif ((!((!(decide (a0.1 < a1.1))) && (a0.1 == a1.1))) || true) then (bif ((!(!(decide (a0.1 < a1.1)))) || true) then some (bif (decide (a0.1 < a1.1)) then true else (bif (a0.1 == a1.1) then (decide (a0.2 < a1.2)) else false)) else none) else none) else none) else none) else none) else none) else none) else none) else none) else none) else none) else none)
def f339M (K : Nat) : Mdl := ⟨[(.ro, sV), (.ro, sV)], [.bool], fun x => f339G K x.1 x.2.1⟩
def f304E (K : Nat) : Env := ⟨[(339, f339M K), (350, f350M K)], tys, eqs, mts, K, [0, 1, 2, 3, 4, 9], [], []⟩
def f304G (K : Nat) (a0 a1 : tA × Int × Int) : Option Bool :=
  (bif (!((a0.1.1 == a1.1.1) && ((a0.1.2.1 == a1.1.2.1) && ((a0.1.2.2.1 == a1.1.2.2.1) && (a0.1.2.2.2 == a1.1.2.2.2))))) then (f350G K a0.1 a1.1).bind fun y1 => some y1 else (f339G K a0.2 a1.2).bind fun y2 => some y2)
def f304M (K : Nat) : Mdl := ⟨[(.ro, sM), (.ro, sM)], [.bool], fun x => f304G K x.1 x.2.1⟩
def f328C : Code := codeOf Tryz.f328
def f328E (K : Nat) : Env := ⟨[(304, f304M K)], tys, eqs, mts, K, [0, 1, 3, 4, 5, 6, 7, 12, 22], [], []⟩
def f328_b6 (K : Nat) (a0 : List tM) (a1 : tA × Int × Int) (L6 : Int → Int → Option Int) (q7 q8 : Int) : Option Int :=
  (bif (decide (q7 < q8)) then (bif (decide (0 ≤ (w ((w (q7 + q8)).tdiv (2 : Int)))) && decide ((w ((w (q7 + q8)).tdiv (2 : Int))) < (a0.length : Int))) then (f304G K ((((a0.getD ((0 : Int) + (w ((w (q7 + q8)).tdiv (2 : Int)))).toNat zM).1).1, (((a0.getD ((0 : Int) + (w ((w (q7 + q8)).tdiv (2 : Int)))).toNat zM).1).2).1, ((((a0.getD ((0 : Int) + (w ((w (q7 + q8)).tdiv (2 : Int)))).toNat zM).1).2).2)), ((a0.getD ((0 : Int) + (w ((w (q7 + q8)).tdiv (2 : Int)))).toNat zM).2)) a1).bind fun y9 => (bif y9 then L6 (w ((w ((w (q7 + q8)).tdiv (2 : Int))) + (1 : Int))) q8 else L6 q7 (w ((w (q7 + q8)).tdiv (2 : Int)))) else none) else some q7)
def f328_l6 (K : Nat) (a0 : List tM) (a1 : tA × Int × Int) (n : Nat) (q7 q8 : Int) : Option Int :=
  iter (X := Int × Int) (fun L x => (fun L6 => f328_b6 K a0 a1 L6 x.1 x.2) (fun v0 v1 => L (v0, v1))) n (q7, q8)
def f328_fr6 (a0 : List tM) (a1 : tA × Int × Int) (q7 q8 : Int) : Fr := ⟨27, [(0, .v false [.row 0]), (1, .v true [.int .i64 a1.1.1, .int .i64 a1.1.2.1, .int .i64 a1.1.2.2.1, .int .i64 a1.1.2.2.2, .int .i64 a1.2.1, .int .i64 a1.2.2]), (3, .v false [.box 0 0]), (4, .v false [.int .i64 (0 : Int)]), (5, .v false [.int .i64 q7]), (6, .v false [.int .i64 q8])], [some ⟨true, [.int .i64 a1.1.1, .int .i64 a1.1.2.1, .int .i64 a1.1.2.2.1, .int .i64 a1.1.2.2.2, .int .i64 a1.2.1, .int .i64 a1.2.2]⟩], [some ⟨95, sM, a0, .ro⟩]⟩
def f328_k6 (K : Nat) (a0 : List tM) (a1 : tA × Int × Int) (lr : LR Int) : Ex → Fr → Option Int :=
  contC (f328E K) 1 lr f328C [1, 1, 0, 0] (finK (f328E K) Tryz.f328 [(.ro, (.list 95 sM)), (.ro, sM)] [sI] (a0, a1, ()))
def f328_g (K : Nat) (a0 : List tM) (a1 : tA × Int × Int) (I6 : Int → Int → Option Int) : Option Int :=
  I6 (0 : Int) (a0.length : Int)
def f328G (K : Nat) (a0 : List tM) (a1 : tA × Int × Int) : Option Int :=
  f328_g K a0 a1 (fun d0 d1 => f328_l6 K a0 a1 K d0 d1)
def f328M (K : Nat) : Mdl := ⟨[(.ro, (.list 95 sM)), (.ro, sM)], [sI], fun x => f328G K x.1 x.2.1⟩
def f305E (K : Nat) : Env := ⟨[(328, f328M K)], tys, eqs, mts, K, [0, 1, 3, 4, 5], [], []⟩
def f305G (K : Nat) (a0 : List tM) (a1 : tA × Int × Int) : Option Bool :=
  (f328G K a0 a1).bind fun y1 => (bif ((!(decide (y1 < (a0.length : Int)))) || true) then (bif ((!(decide (y1 < (a0.length : Int)))) || true) then (bif ((!(decide (y1 < (a0.length : Int)))) || (decide (0 ≤ y1) && decide (y1 < (a0.length : Int)))) then (bif ((!(decide (y1 < (a0.length : Int)))) || true) then (bif ((!(decide (y1 < (a0.length : Int)))) || true) then (bif ((!(decide (y1 < (a0.length : Int)))) || true) then some (bif (decide (y1 < (a0.length : Int))) then ((((a0.getD ((0 : Int) + y1).toNat zM).1).1 == a1.1.1) && (((((a0.getD ((0 : Int) + y1).toNat zM).1).2).1 == a1.1.2.1) && ((((((a0.getD ((0 : Int) + y1).toNat zM).1).2).2).1 == a1.1.2.2.1) && ((((((a0.getD ((0 : Int) + y1).toNat zM).1).2).2).2 == a1.1.2.2.2) && ((((a0.getD ((0 : Int) + y1).toNat zM).2).1 == a1.2.1) && (((a0.getD ((0 : Int) + y1).toNat zM).2).2 == a1.2.2)))))) else false) else none) else none) else none) else none) else none) else none)
def f305M (K : Nat) : Mdl := ⟨[(.ro, (.list 95 sM)), (.ro, sM)], [.bool], fun x => f305G K x.1 x.2.1⟩
def f324E (K : Nat) : Env := ⟨[(328, f328M K)], tys, eqs, mts, K, [0, 1, 3, 4, 5, 20], [], []⟩
def f324G (K : Nat) (a0 : List tM) (a1 : tA × Int × Int) : Option (List tM) :=
  (f328G K a0 a1).bind fun y1 => (bif ((!(decide (y1 < (a0.length : Int)))) || true) then (bif ((!(decide (y1 < (a0.length : Int)))) || true) then (bif ((!(decide (y1 < (a0.length : Int)))) || (decide (0 ≤ y1) && decide (y1 < (a0.length : Int)))) then (bif ((!(decide (y1 < (a0.length : Int)))) || true) then (bif ((!(decide (y1 < (a0.length : Int)))) || true) then (bif ((!(decide (y1 < (a0.length : Int)))) || true) then (bif (bif (decide (y1 < (a0.length : Int))) then ((((a0.getD ((0 : Int) + y1).toNat zM).1).1 == a1.1.1) && (((((a0.getD ((0 : Int) + y1).toNat zM).1).2).1 == a1.1.2.1) && ((((((a0.getD ((0 : Int) + y1).toNat zM).1).2).2).1 == a1.1.2.2.1) && ((((((a0.getD ((0 : Int) + y1).toNat zM).1).2).2).2 == a1.1.2.2.2) && ((((a0.getD ((0 : Int) + y1).toNat zM).2).1 == a1.2.1) && (((a0.getD ((0 : Int) + y1).toNat zM).2).2 == a1.2.2)))))) else false) then some a0 else (bif (decide (0 ≤ (0 : Int)) && decide ((0 : Int) ≤ y1) && decide (y1 ≤ (a0.length : Int))) then (bif (Nat.ble (0 + ((a0.take ((0 : Int) + y1).toNat).drop 0).length) (lim 48)) then (bif (Nat.ble (([] ++ ((a0.take ((0 : Int) + y1).toNat).drop 0)).length + [a1].length) (lim 48)) then (bif (decide (0 ≤ y1) && decide (y1 ≤ (a0.length : Int)) && decide ((a0.length : Int) ≤ (a0.length : Int))) then (bif (Nat.ble ((([] ++ ((a0.take ((0 : Int) + y1).toNat).drop 0)) ++ [a1]).length + ((a0.take ((0 : Int) + (a0.length : Int)).toNat).drop ((0 : Int) + y1).toNat).length) (lim 48)) then some ((([] ++ ((a0.take ((0 : Int) + y1).toNat).drop 0)) ++ [a1]) ++ ((a0.take ((0 : Int) + (a0.length : Int)).toNat).drop ((0 : Int) + y1).toNat)) else none) else none) else none) else none) else none)) else none) else none) else none) else none) else none) else none)
def f324M (K : Nat) : Mdl := ⟨[(.mv, (.list 95 sM)), (.ro, sM)], [(.list 95 sM)], fun x => f324G K x.1 x.2.1⟩
def f253C : Code := codeOf Tryz.f253
def f253E (K : Nat) : Env := ⟨[(303, f303M K), (305, f305M K), (306, f306M K), (307, f307M K), (324, f324M K)], tys, eqs, mts, K, [0, 1, 2, 4, 5, 6, 7, 8, 9, 17, 23, 40], [], []⟩
def f253_b21 (K : Nat) (a0 : Int × Int × Int) (a1 : List tM) (q18 : Int) (q20 : List tM) (L17 L21 : Int → (List tM) → (List tM) → Option (List tM)) (q22 : Int) (q23 q24 : List tM) : Option (List tM) :=
  (bif (decide (q22 < (a1.length : Int))) then (bif (decide (0 ≤ q22) && decide (q22 < (a1.length : Int))) then (bif (decide (0 ≤ q18) && decide (q18 < (q24.length : Int))) then (f307G K ((((a1.getD ((0 : Int) + q22).toNat zM).1).1, (((a1.getD ((0 : Int) + q22).toNat zM).1).2).1, ((((a1.getD ((0 : Int) + q22).toNat zM).1).2).2)), ((a1.getD ((0 : Int) + q22).toNat zM).2)) ((((q24.getD ((0 : Int) + q18).toNat zM).1).1, (((q24.getD ((0 : Int) + q18).toNat zM).1).2).1, ((((q24.getD ((0 : Int) + q18).toNat zM).1).2).2)), ((q24.getD ((0 : Int) + q18).toNat zM).2))).bind fun y25 => (f303G K a0 y25).bind fun y26 => (f305G K q23 y26).bind fun y27 => (bif (!y27) then (f324G K q23 y26).bind fun y28 => (bif (Nat.ble (q24.length + [y26].length) (lim 48)) then L21 (w (q22 + (1 : Int))) y28 (q24 ++ [y26]) else none) else L21 (w (q22 + (1 : Int))) q23 q24) else none) else none) else L17 (w (q18 + (1 : Int))) q23 q24)
def f253_l21 (K : Nat) (a0 : Int × Int × Int) (a1 : List tM) (q18 : Int) (q20 : List tM) (L17 : Int → (List tM) → (List tM) → Option (List tM)) (n : Nat) (q22 : Int) (q23 q24 : List tM) : Option (List tM) :=
  iter (X := Int × List tM × List tM) (fun L x => (fun L21 => f253_b21 K a0 a1 q18 q20 L17 L21 x.1 x.2.1 x.2.2) (fun v0 v1 v2 => L (v0, v1, v2))) n (q22, q23, q24)
def f253_fr21 (a0 : Int × Int × Int) (a1 : List tM) (q18 : Int) (q20 : List tM) (q22 : Int) (q23 q24 : List tM) : Fr := ⟨49, [(0, .v true [.int .i64 a0.1, .int .i64 a0.2.1, .int .i64 a0.2.2]), (1, .v false [.row 0]), (2, .v false [.box 0 0]), (4, .v false [.row 1]), (5, .v false [.row 2]), (6, .v false [.row 3]), (7, .v false [.int .i64 q18]), (8, .v false [.int .i64 q22]), (17, .v false [.bool (decide (q18 < (q20.length : Int)))])], [some ⟨true, [.int .i64 a0.1, .int .i64 a0.2.1, .int .i64 a0.2.2]⟩], [some ⟨95, sM, a1, .ro⟩, some ⟨95, sM, [], .own⟩, some ⟨95, sM, q23, .own⟩, some ⟨95, sM, q24, .own⟩]⟩
def f253_b17 (K : Nat) (a0 : Int × Int × Int) (a1 : List tM) (I21 : Int → (List tM) → Int → (List tM) → (List tM) → Option (List tM)) (L17 : Int → (List tM) → (List tM) → Option (List tM)) (q18 : Int) (q19 q20 : List tM) : Option (List tM) :=
  (bif (decide (q18 < (q20.length : Int))) then I21 q18 q20 (0 : Int) q19 q20 else some q19)
def f253_l17 (K : Nat) (a0 : Int × Int × Int) (a1 : List tM) (n : Nat) (q18 : Int) (q19 q20 : List tM) : Option (List tM) :=
  iter (X := Int × List tM × List tM) (fun L x => (fun L17 => f253_b17 K a0 a1 (fun c0 c1 d0 d1 d2 => f253_l21 K a0 a1 c0 c1 L17 K d0 d1 d2) L17 x.1 x.2.1 x.2.2) (fun v0 v1 v2 => L (v0, v1, v2))) n (q18, q19, q20)
def f253_fr17 (a0 : Int × Int × Int) (a1 : List tM) (q18 : Int) (q19 q20 : List tM) : Fr := ⟨49, [(0, .v true [.int .i64 a0.1, .int .i64 a0.2.1, .int .i64 a0.2.2]), (1, .v false [.row 0]), (2, .v false [.box 0 0]), (4, .v false [.row 1]), (5, .v false [.row 2]), (6, .v false [.row 3]), (7, .v false [.int .i64 q18])], [some ⟨true, [.int .i64 a0.1, .int .i64 a0.2.1, .int .i64 a0.2.2]⟩], [some ⟨95, sM, a1, .ro⟩, some ⟨95, sM, [], .own⟩, some ⟨95, sM, q19, .own⟩, some ⟨95, sM, q20, .own⟩]⟩
def f253_k17 (K : Nat) (a0 : Int × Int × Int) (a1 : List tM) (lr : LR (List tM)) : Ex → Fr → Option (List tM) :=
  contC (f253E K) 1 lr f253C [1, 1, 1, 0, 1, 0] (finK (f253E K) Tryz.f253 [(.ro, sL), (.ro, (.list 95 sM))] [(.list 95 sM)] (a0, a1, ()))
def f253_k21 (K : Nat) (a0 : Int × Int × Int) (a1 : List tM) (F17 : Fr → Option (List tM)) (bq18 : Int) (bq19 bq20 : List tM) (lr : LR (List tM)) : Ex → Fr → Option (List tM) :=
  contC (f253E K) 1 lr (selC f253C [1, 1, 1, 0, 1, 0, 0]) [1, 0, 0, 1, 0] (loopK 1 (f253_fr17 a0 a1 bq18 bq19 bq20) F17 (f253_k17 K a0 a1 lr))
def f253_g (K : Nat) (a0 : Int × Int × Int) (a1 : List tM) (I17 : Int → (List tM) → (List tM) → Option (List tM)) : Option (List tM) :=
  (f306G K).bind fun y1 => (f306G K).bind fun y2 => I17 (0 : Int) [y1] [y2]
def f253G (K : Nat) (a0 : Int × Int × Int) (a1 : List tM) : Option (List tM) :=
  f253_g K a0 a1 (fun d0 d1 d2 => f253_l17 K a0 a1 K d0 d1 d2)
def f253M (K : Nat) : Mdl := ⟨[(.ro, sL), (.ro, (.list 95 sM))], [(.list 95 sM)], fun x => f253G K x.1 x.2.1⟩
def f143E (K : Nat) : Env := ⟨[(141, f141M K), (252, f252M K), (253, f253M K)], tys, eqs, mts, K, [0, 1, 4, 5, 6, 7, 8, 9, 10, 11, 19, 23], [], []⟩
def f143G (K : Nat) (a0 : ByteArray) (a1 : Int) : Option (Int × tL × (List tM) × Int) :=
  (f252G K a0 a1).bind fun y1 => (bif (!y1.2.2) then some ((0 : Int), ((0 : Int), (0 : Int), (0 : Int)), [], (4 : Int)) else (f141G K a1 (1 : Int) (4 : Int)).bind fun y2 => (bif (!y2) then some ((0 : Int), ((0 : Int), (0 : Int), (0 : Int)), [], (2 : Int)) else (f253G K ((w ((2 : Int) * a1)), (0 : Int), (w ((2 : Int) * a1))) y1.2.1).bind fun y3 => some (y1.1, ((w ((2 : Int) * a1)), (0 : Int), (w ((2 : Int) * a1))), y3, (0 : Int))))
def f143M (K : Nat) : Mdl := ⟨[(.ro, .str), (.ro, sI)], [sI, sL, (.list 95 sM), sI], fun x => f143G K x.1 x.2.1⟩
def f196E (K : Nat) : Env := ⟨[], tys, eqs, mts, K, [0, 1, 4], [(194, f194M K)], []⟩
def f196G (K : Nat) (a0 : (List Int) × Int × Int) (a1 : List Int) : Option (tV × Int) :=
  (f194G K a0 (a1.length : Int)).bind fun y1 => (bif (decide (0 ≤ y1.2) && decide (y1.2 < (a1.length : Int))) then some (y1.1, (a1.getD ((0 : Int) + y1.2).toNat (0 : Int))) else none)
def f196M (K : Nat) : PMdl := ⟨5, (.int .u8), sV, [(.ro, (.list 2 sI))], [sI], fun x => f196G K x.1 x.2.1⟩
def f291E (K : Nat) : Env := ⟨[], tys, eqs, mts, K, [0, 2, 3, 6], [(194, f194M K), (196, f196M K)], []⟩
def f291G (K : Nat) (a0 : (List Int) × Int × Int) : Option (tV × Int × Int) :=
  (f194G K a0 (40 : Int)).bind fun y1 => (bif (y1.2 == (0 : Int)) then (f196G K (a0.1, y1.1) [(-1000 : Int), (1000 : Int), (1001 : Int), (0 : Int)]).bind fun y2 => (f196G K (a0.1, y2.1) [(-1001 : Int), (1000 : Int), (0 : Int)]).bind fun y3 => some (y3.1, y2.2, y3.2) else (f196G K (a0.1, y1.1) [(4 : Int), (9 : Int), (30 : Int)]).bind fun y4 => (f194G K (a0.1, y4.1) (w ((w ((2 : Int) * y4.2)) + (1 : Int)))).bind fun y5 => (f194G K (a0.1, y5.1) (w ((w ((2 : Int) * y4.2)) + (1 : Int)))).bind fun y6 => some (y6.1, (w (y5.2 - y4.2)), (w (y6.2 - y4.2))))
def f291M (K : Nat) : PMdl := ⟨5, (.int .u8), sV, [], [sV], fun x => f291G K x.1⟩
def f199C : Code := codeOf Tryz.f199
def f199E (K : Nat) : Env := ⟨[], tys, eqs, mts, K, [0, 2, 3, 4, 9, 26, 27, 38], [(194, f194M K), (196, f196M K), (291, f291M K)], []⟩
def f199_b6 (K : Nat) (a0 : (List Int) × Int × Int) (L6 : Int → Int → Int → (List (tV × Int)) → Option (tV × List (tV × Int))) (q7 q8 q9 : Int) (q10 : List (tV × Int)) : Option (tV × List (tV × Int)) :=
  (bif (decide (q7 > (0 : Int))) then (f194G K (a0.1, q8, q9) (9 : Int)).bind fun y11 => (f194G K (a0.1, y11.1) (9 : Int)).bind fun y12 => (f194G K (a0.1, y12.1) (3 : Int)).bind fun y13 => (bif (Nat.ble (q10.length + [(((w (y11.2 - (3 : Int))), (w (y12.2 - (3 : Int)))), y13.2)].length) (lim 24)) then L6 (w (q7 - (1 : Int))) y13.1.1 y13.1.2 (q10 ++ [(((w (y11.2 - (3 : Int))), (w (y12.2 - (3 : Int)))), y13.2)]) else none) else (f194G K (a0.1, q8, q9) (40 : Int)).bind fun y14 => (bif (y14.2 == (0 : Int)) then (f291G K (a0.1, y14.1)).bind fun y15 => (f196G K (a0.1, y15.1) [(-1 : Int), (9 : Int), (10 : Int)]).bind fun y16 => (bif (Nat.ble (q10.length + [(y15.2, y16.2)].length) (lim 24)) then some (y16.1, (q10 ++ [(y15.2, y16.2)])) else none) else (bif (y14.2 == (1 : Int)) then (f194G K (a0.1, y14.1) (2 : Int)).bind fun y17 => (bif (decide (0 ≤ (w ((40 : Int) + y17.2))) && Nat.ble (w ((40 : Int) + y17.2)).toNat (lim 24) && ((w ((40 : Int) + y17.2)) == (w ((40 : Int) + y17.2)))) then some (y17.1, (List.replicate (w ((40 : Int) + y17.2)).toNat (((0 : Int), (0 : Int)), (0 : Int)))) else none) else some (y14.1, q10))))
def f199_l6 (K : Nat) (a0 : (List Int) × Int × Int) (n : Nat) (q7 q8 q9 : Int) (q10 : List (tV × Int)) : Option (tV × List (tV × Int)) :=
  iter (X := Int × Int × Int × List (tV × Int)) (fun L x => (fun L6 => f199_b6 K a0 L6 x.1 x.2.1 x.2.2.1 x.2.2.2) (fun v0 v1 v2 v3 => L (v0, v1, v2, v3))) n (q7, q8, q9, q10)
def f199_fr6 (a0 : (List Int) × Int × Int) (q7 q8 q9 : Int) (q10 : List (tV × Int)) : Fr := ⟨45, [(0, .v false [.box 0 0]), (2, .v false [.row 1]), (3, .v false [.row 2]), (4, .v false [.int .i64 q7])], [some ⟨true, [.row 0, .int .i64 q8, .int .i64 q9]⟩], [some ⟨5, (.int .u8), a0.1, .ro⟩, some ⟨133, (.cons sV sI), [], .own⟩, some ⟨133, (.cons sV sI), q10, .own⟩]⟩
def f199_k6 (K : Nat) (a0 : (List Int) × Int × Int) (lr : LR (tV × List (tV × Int))) : Ex → Fr → Option (tV × List (tV × Int)) :=
  contC (f199E K) 1 lr f199C [1, 1, 0, 1, 0] (finP (f199E K) Tryz.f199 sV [(.list 133 (.cons sV sI))])
def f199_g (K : Nat) (a0 : (List Int) × Int × Int) (I6 : Int → Int → Int → (List (tV × Int)) → Option (tV × List (tV × Int))) : Option (tV × List (tV × Int)) :=
  (f194G K a0 (7 : Int)).bind fun y1 => I6 y1.2 y1.1.1 y1.1.2 []
def f199G (K : Nat) (a0 : (List Int) × Int × Int) : Option (tV × List (tV × Int)) :=
  f199_g K a0 (fun d0 d1 d2 d3 => f199_l6 K a0 K d0 d1 d2 d3)
def f199M (K : Nat) : PMdl := ⟨5, (.int .u8), sV, [], [(.list 133 (.cons sV sI))], fun x => f199G K x.1⟩
def f232C : Code := codeOf Tryz.f232
def f232E (K : Nat) : Env := ⟨[], tys, eqs, mts, K, [0, 1, 2, 3, 4, 5, 10, 16], [], []⟩
def f232_b9 (K : Nat) (a0 : Int × Int × Int) (q7 : Int) (L6 L9 : Int → (List tV) → Option (List tV)) (q10 : Int) (q11 : List tV) : Option (List tV) :=
  (bif (decide (q10 < a0.2.2)) then (bif (Nat.ble (q11.length + [(q7, q10)].length) (lim 16)) then L9 (w (q10 + (1 : Int))) (q11 ++ [(q7, q10)]) else none) else L6 (w (q7 + (1 : Int))) q11)
def f232_l9 (K : Nat) (a0 : Int × Int × Int) (q7 : Int) (L6 : Int → (List tV) → Option (List tV)) (n : Nat) (q10 : Int) (q11 : List tV) : Option (List tV) :=
  iter (X := Int × List tV) (fun L x => (fun L9 => f232_b9 K a0 q7 L6 L9 x.1 x.2) (fun v0 v1 => L (v0, v1))) n (q10, q11)
def f232_fr9 (a0 : Int × Int × Int) (q7 q10 : Int) (q11 : List tV) : Fr := ⟨26, [(0, .v true [.int .i64 a0.1, .int .i64 a0.2.1, .int .i64 a0.2.2]), (1, .v false [.box 0 0]), (2, .v false [.row 0]), (3, .v false [.row 1]), (4, .v false [.int .i64 q7]), (5, .v false [.int .i64 q10]), (10, .v false [.bool (decide (q7 < a0.1))])], [some ⟨true, [.int .i64 a0.1, .int .i64 a0.2.1, .int .i64 a0.2.2]⟩], [some ⟨79, sV, [], .own⟩, some ⟨79, sV, q11, .own⟩]⟩
def f232_b6 (K : Nat) (a0 : Int × Int × Int) (I9 : Int → Int → (List tV) → Option (List tV)) (L6 : Int → (List tV) → Option (List tV)) (q7 : Int) (q8 : List tV) : Option (List tV) :=
  (bif (decide (q7 < a0.1)) then I9 q7 (0 : Int) q8 else some q8)
def f232_l6 (K : Nat) (a0 : Int × Int × Int) (n : Nat) (q7 : Int) (q8 : List tV) : Option (List tV) :=
  iter (X := Int × List tV) (fun L x => (fun L6 => f232_b6 K a0 (fun c0 d0 d1 => f232_l9 K a0 c0 L6 K d0 d1) L6 x.1 x.2) (fun v0 v1 => L (v0, v1))) n (q7, q8)
def f232_fr6 (a0 : Int × Int × Int) (q7 : Int) (q8 : List tV) : Fr := ⟨26, [(0, .v true [.int .i64 a0.1, .int .i64 a0.2.1, .int .i64 a0.2.2]), (1, .v false [.box 0 0]), (2, .v false [.row 0]), (3, .v false [.row 1]), (4, .v false [.int .i64 q7])], [some ⟨true, [.int .i64 a0.1, .int .i64 a0.2.1, .int .i64 a0.2.2]⟩], [some ⟨79, sV, [], .own⟩, some ⟨79, sV, q8, .own⟩]⟩
def f232_k6 (K : Nat) (a0 : Int × Int × Int) (lr : LR (List tV)) : Ex → Fr → Option (List tV) :=
  contC (f232E K) 0 lr f232C [1, 1, 0, 1, 0] (finK (f232E K) Tryz.f232 [(.ro, sL)] [(.list 79 sV)] (a0, ()))
def f232_k9 (K : Nat) (a0 : Int × Int × Int) (F6 : Fr → Option (List tV)) (bq7 : Int) (bq8 : List tV) (lr : LR (List tV)) : Ex → Fr → Option (List tV) :=
  contC (f232E K) 0 lr (selC f232C [1, 1, 0, 1, 0, 0]) [1, 0, 0, 1, 0] (loopK 0 (f232_fr6 a0 bq7 bq8) F6 (f232_k6 K a0 lr))
def f232_g (K : Nat) (a0 : Int × Int × Int) (I6 : Int → (List tV) → Option (List tV)) : Option (List tV) :=
  I6 (0 : Int) []
def f232G (K : Nat) (a0 : Int × Int × Int) : Option (List tV) :=
  f232_g K a0 (fun d0 d1 => f232_l6 K a0 K d0 d1)
def f232M (K : Nat) : Mdl := ⟨[(.ro, sL)], [(.list 79 sV)], fun x => f232G K x.1⟩
def f284E (K : Nat) : Env := ⟨[(340, f340M K), (341, f341M K)], tys, eqs, mts, K, [0, 1, 2, 3, 4], [], []⟩
def f284G (K : Nat) (a0 : tA × Int × Int) (a1 : Int × Int) : Option tV :=
  (f341G K a0.1 a1).bind fun y1 => (f340G K y1 a0.2).bind fun y2 => some y2
def f284M (K : Nat) : Mdl := ⟨[(.ro, sM), (.ro, sV)], [sV], fun x => f284G K x.1 x.2.1⟩
def f185E (K : Nat) : Env := ⟨[(153, f153M K), (284, f284M K)], tys, eqs, mts, K, [0, 1, 2, 3, 4, 5, 6], [], []⟩
def f185G (K : Nat) (a0 : Int × Int × Int) (a1 : tA × Int × Int) (a2 : Int × Int) : Option tV :=
  (f284G K a1 a2).bind fun y1 => (f153G K a0 y1).bind fun y2 => some y2
def f185M (K : Nat) : Mdl := ⟨[(.ro, sL), (.ro, sM), (.ro, sV)], [sV], fun x => f185G K x.1 x.2.1 x.2.2.1⟩
def f280C : Code := codeOf Tryz.f280
def f280E (K : Nat) : Env := ⟨[(339, f339M K)], tys, eqs, mts, K, [0, 1, 3, 4, 5, 17, 31], [], []⟩
def f280_b3 (K : Nat) (a0 : List tV) (a1 : Int × Int) (L3 : Int → Option (List tV)) (q4 : Int) : Option (List tV) :=
  (bif ((!(decide (q4 < (a0.length : Int)))) || true) then (bif ((!(decide (q4 < (a0.length : Int)))) || true) then (bif ((!(decide (q4 < (a0.length : Int)))) || (decide (0 ≤ q4) && decide (q4 < (a0.length : Int)))) then (bif ((!(decide (q4 < (a0.length : Int)))) || true) then (bif ((!(decide (q4 < (a0.length : Int)))) || true) then ((bif (decide (q4 < (a0.length : Int))) then f339G K (a0.getD ((0 : Int) + q4).toNat ((0 : Int), (0 : Int))) a1 else some false)).bind fun y5 => (bif (bif (decide (q4 < (a0.length : Int))) then y5 else false) then L3 (w (q4 + (1 : Int))) else (bif ((!(decide (q4 < (a0.length : Int)))) || true) then (bif ((!(decide (q4 < (a0.length : Int)))) || true) then (bif ((!(decide (q4 < (a0.length : Int)))) || (decide (0 ≤ q4) && decide (q4 < (a0.length : Int)))) then (bif ((!(decide (q4 < (a0.length : Int)))) || true) then (bif ((!(decide (q4 < (a0.length : Int)))) || true) then (bif ((!(decide (q4 < (a0.length : Int)))) || true) then (bif (bif (decide (q4 < (a0.length : Int))) then (((a0.getD ((0 : Int) + q4).toNat ((0 : Int), (0 : Int))).1 == a1.1) && ((a0.getD ((0 : Int) + q4).toNat ((0 : Int), (0 : Int))).2 == a1.2)) else false) then some a0 else (bif (decide (0 ≤ (0 : Int)) && decide ((0 : Int) ≤ q4) && decide (q4 ≤ (a0.length : Int))) then (bif (Nat.ble (0 + ((a0.take ((0 : Int) + q4).toNat).drop 0).length) (lim 16)) then (bif (Nat.ble (([] ++ ((a0.take ((0 : Int) + q4).toNat).drop 0)).length + [a1].length) (lim 16)) then (bif (decide (0 ≤ q4) && decide (q4 ≤ (a0.length : Int)) && decide ((a0.length : Int) ≤ (a0.length : Int))) then (bif (Nat.ble ((([] ++ ((a0.take ((0 : Int) + q4).toNat).drop 0)) ++ [a1]).length + ((a0.take ((0 : Int) + (a0.length : Int)).toNat).drop ((0 : Int) + q4).toNat).length) (lim 16)) then some ((([] ++ ((a0.take ((0 : Int) + q4).toNat).drop 0)) ++ [a1]) ++ ((a0.take ((0 : Int) + (a0.length : Int)).toNat).drop ((0 : Int) + q4).toNat)) else none) else none) else none) else none) else none)) else none) else none) else none) else none) else none) else none)) else none) else none) else none) else none) else none)
def f280_l3 (K : Nat) (a0 : List tV) (a1 : Int × Int) (n : Nat) (q4 : Int) : Option (List tV) :=
  iter (X := Int) (fun L x => (fun L3 => f280_b3 K a0 a1 L3 x) (fun v0 => L v0)) n q4
def f280_fr3 (a0 : List tV) (a1 : Int × Int) (q4 : Int) : Fr := ⟨45, [(0, .v false [.row 0]), (1, .v true [.int .i64 a1.1, .int .i64 a1.2]), (3, .v false [.box 0 0]), (4, .v false [.row 1]), (5, .v false [.int .i64 q4])], [some ⟨true, [.int .i64 a1.1, .int .i64 a1.2]⟩], [some ⟨79, sV, a0, .own⟩, some ⟨79, sV, [], .own⟩]⟩
def f280_k3 (K : Nat) (a0 : List tV) (a1 : Int × Int) (lr : LR (List tV)) : Ex → Fr → Option (List tV) :=
  contC (f280E K) 1 lr f280C [1, 1, 0, 0] (finK (f280E K) Tryz.f280 [(.mv, (.list 79 sV)), (.ro, sV)] [(.list 79 sV)] (a0, a1, ()))
def f280_g (K : Nat) (a0 : List tV) (a1 : Int × Int) (I3 : Int → Option (List tV)) : Option (List tV) :=
  I3 (0 : Int)
def f280G (K : Nat) (a0 : List tV) (a1 : Int × Int) : Option (List tV) :=
  f280_g K a0 a1 (fun d0 => f280_l3 K a0 a1 K d0)
def f280M (K : Nat) : Mdl := ⟨[(.mv, (.list 79 sV)), (.ro, sV)], [(.list 79 sV)], fun x => f280G K x.1 x.2.1⟩
def f247C : Code := codeOf Tryz.f247
def f247E (K : Nat) : Env := ⟨[(185, f185M K), (280, f280M K)], tys, eqs, mts, K, [0, 1, 2, 3, 5, 6, 7, 8, 13], [], []⟩
def f247_b4 (K : Nat) (a0 : Int × Int × Int) (a1 : List tM) (a2 : Int × Int) (L4 : Int → (List tV) → Option (List tV)) (q5 : Int) (q6 : List tV) : Option (List tV) :=
  (bif (decide (q5 < (a1.length : Int))) then (bif (decide (0 ≤ q5) && decide (q5 < (a1.length : Int))) then (f185G K a0 ((((a1.getD ((0 : Int) + q5).toNat zM).1).1, (((a1.getD ((0 : Int) + q5).toNat zM).1).2).1, ((((a1.getD ((0 : Int) + q5).toNat zM).1).2).2)), ((a1.getD ((0 : Int) + q5).toNat zM).2)) a2).bind fun y7 => (f280G K q6 y7).bind fun y8 => L4 (w (q5 + (1 : Int))) y8 else none) else some q6)
def f247_l4 (K : Nat) (a0 : Int × Int × Int) (a1 : List tM) (a2 : Int × Int) (n : Nat) (q5 : Int) (q6 : List tV) : Option (List tV) :=
  iter (X := Int × List tV) (fun L x => (fun L4 => f247_b4 K a0 a1 a2 L4 x.1 x.2) (fun v0 v1 => L (v0, v1))) n (q5, q6)
def f247_fr4 (a0 : Int × Int × Int) (a1 : List tM) (a2 : Int × Int) (q5 : Int) (q6 : List tV) : Fr := ⟨26, [(0, .v true [.int .i64 a0.1, .int .i64 a0.2.1, .int .i64 a0.2.2]), (1, .v false [.row 0]), (2, .v true [.int .i64 a2.1, .int .i64 a2.2]), (3, .v false [.box 0 0]), (5, .v false [.box 1 0]), (6, .v false [.row 1]), (7, .v false [.row 2]), (8, .v false [.int .i64 q5])], [some ⟨true, [.int .i64 a0.1, .int .i64 a0.2.1, .int .i64 a0.2.2]⟩, some ⟨true, [.int .i64 a2.1, .int .i64 a2.2]⟩], [some ⟨95, sM, a1, .ro⟩, some ⟨79, sV, [], .own⟩, some ⟨79, sV, q6, .own⟩]⟩
def f247_k4 (K : Nat) (a0 : Int × Int × Int) (a1 : List tM) (a2 : Int × Int) (lr : LR (List tV)) : Ex → Fr → Option (List tV) :=
  contC (f247E K) 1 lr f247C [1, 1, 0, 1, 0] (finK (f247E K) Tryz.f247 [(.ro, sL), (.ro, (.list 95 sM)), (.ro, sV)] [(.list 79 sV)] (a0, a1, a2, ()))
def f247_g (K : Nat) (a0 : Int × Int × Int) (a1 : List tM) (a2 : Int × Int) (I4 : Int → (List tV) → Option (List tV)) : Option (List tV) :=
  I4 (0 : Int) []
def f247G (K : Nat) (a0 : Int × Int × Int) (a1 : List tM) (a2 : Int × Int) : Option (List tV) :=
  f247_g K a0 a1 a2 (fun d0 d1 => f247_l4 K a0 a1 a2 K d0 d1)
def f247M (K : Nat) : Mdl := ⟨[(.ro, sL), (.ro, (.list 95 sM)), (.ro, sV)], [(.list 79 sV)], fun x => f247G K x.1 x.2.1 x.2.2.1⟩
def f135C : Code := codeOf Tryz.f135
def f135E (K : Nat) : Env := ⟨[(232, f232M K), (247, f247M K)], tys, eqs, mts, K, [0, 1, 2, 4, 5, 6, 7, 8, 15, 32], [], []⟩
def f135_b4 (K : Nat) (a0 : Int × Int × Int) (a1 : List tM) (y1 : List tV) (L4 : Int → (List (List tV)) → Option (List (List tV))) (q5 : Int) (q6 : List (List tV)) : Option (List (List tV)) :=
  (bif (decide (q5 < (y1.length : Int))) then (bif (decide (0 ≤ q5) && decide (q5 < (y1.length : Int))) then (f247G K a0 a1 (y1.getD ((0 : Int) + q5).toNat ((0 : Int), (0 : Int)))).bind fun y7 => (bif (decide (0 ≤ (0 : Int)) && decide ((0 : Int) < (y7.length : Int))) then (bif (decide (0 ≤ q5) && decide (q5 < (y1.length : Int))) then (bif (((y7.getD ((0 : Int) + (0 : Int)).toNat ((0 : Int), (0 : Int))).1 == (y1.getD ((0 : Int) + q5).toNat ((0 : Int), (0 : Int))).1) && ((y7.getD ((0 : Int) + (0 : Int)).toNat ((0 : Int), (0 : Int))).2 == (y1.getD ((0 : Int) + q5).toNat ((0 : Int), (0 : Int))).2)) then (bif (Nat.ble (q6.length + [y7].length) (lim 24)) then L4 (w (q5 + (1 : Int))) (q6 ++ [y7]) else none) else L4 (w (q5 + (1 : Int))) q6) else none) else none) else none) else some q6)
def f135_l4 (K : Nat) (a0 : Int × Int × Int) (a1 : List tM) (y1 : List tV) (n : Nat) (q5 : Int) (q6 : List (List tV)) : Option (List (List tV)) :=
  iter (X := Int × List (List tV)) (fun L x => (fun L4 => f135_b4 K a0 a1 y1 L4 x.1 x.2) (fun v0 v1 => L (v0, v1))) n (q5, q6)
def f135_fr4 (a0 : Int × Int × Int) (a1 : List tM) (y1 : List tV) (q5 : Int) (q6 : List (List tV)) : Fr := ⟨38, [(0, .v true [.int .i64 a0.1, .int .i64 a0.2.1, .int .i64 a0.2.2]), (1, .v false [.row 0]), (2, .v false [.box 0 0]), (4, .v false [.row 1]), (5, .v false [.row 2]), (6, .v false [.row 3]), (7, .v false [.int .i64 q5])], [some ⟨true, [.int .i64 a0.1, .int .i64 a0.2.1, .int .i64 a0.2.2]⟩], [some ⟨95, sM, a1, .ro⟩, some ⟨84, (.list 79 sV), [], .own⟩, some ⟨79, sV, y1, .own⟩, some ⟨84, (.list 79 sV), q6, .own⟩]⟩
def f135_k4 (K : Nat) (a0 : Int × Int × Int) (a1 : List tM) (lr : LR (List (List tV))) : Ex → Fr → Option (List (List tV)) :=
  contC (f135E K) 1 lr f135C [1, 1, 1, 0, 1, 0] (finK (f135E K) Tryz.f135 [(.ro, sL), (.ro, (.list 95 sM))] [(.list 84 (.list 79 sV))] (a0, a1, ()))
def f135_g (K : Nat) (a0 : Int × Int × Int) (a1 : List tM) (I4 : (List tV) → Int → (List (List tV)) → Option (List (List tV))) : Option (List (List tV)) :=
  (f232G K a0).bind fun y1 => I4 y1 (0 : Int) []
def f135G (K : Nat) (a0 : Int × Int × Int) (a1 : List tM) : Option (List (List tV)) :=
  f135_g K a0 a1 (fun c0 d0 d1 => f135_l4 K a0 a1 c0 K d0 d1)
def f135M (K : Nat) : Mdl := ⟨[(.ro, sL), (.ro, (.list 95 sM))], [(.list 84 (.list 79 sV))], fun x => f135G K x.1 x.2.1⟩
def f127E (K : Nat) : Env := ⟨[(153, f153M K)], tys, eqs, mts, K, [0, 1, 2, 3, 4], [], []⟩
def f127G (K : Nat) (a0 : Int × Int × Int) (a1 : Int × Int) : Option Int :=
  (f153G K a0 a1).bind fun y1 => some (w ((w (y1.1 * a0.2.2)) + y1.2))
def f127M (K : Nat) : Mdl := ⟨[(.ro, sL), (.ro, sV)], [sI], fun x => f127G K x.1 x.2.1⟩
def f126C : Code := codeOf Tryz.f126
def f126E (K : Nat) : Env := ⟨[(127, f127M K), (135, f135M K)], tys, eqs, mts, K, [0, 1, 2, 4, 5, 6, 7, 8, 21, 30], [], []⟩
def f126_b12 (K : Nat) (a0 : Int × Int × Int) (a1 : List tM) (q10 : Int) (y1 : List (List tV)) (L9 L12 : Int → (List Int) → Option (List Int)) (q13 : Int) (q14 : List Int) : Option (List Int) :=
  (bif (decide (0 ≤ q10) && decide (q10 < (y1.length : Int))) then (bif (decide (q13 < ((y1.getD ((0 : Int) + q10).toNat []).length : Int))) then (bif (decide (0 ≤ q10) && decide (q10 < (y1.length : Int))) then (bif (decide (0 ≤ q13) && decide (q13 < ((y1.getD ((0 : Int) + q10).toNat []).length : Int))) then (f127G K a0 ((y1.getD ((0 : Int) + q10).toNat []).getD ((0 : Int) + q13).toNat ((0 : Int), (0 : Int)))).bind fun y15 => (bif (decide (0 ≤ y15) && decide (y15 < (q14.length : Int))) then L12 (w (q13 + (1 : Int))) (q14.set ((0 : Int) + y15).toNat q10) else none) else none) else none) else L9 (w (q10 + (1 : Int))) q14) else none)
def f126_l12 (K : Nat) (a0 : Int × Int × Int) (a1 : List tM) (q10 : Int) (y1 : List (List tV)) (L9 : Int → (List Int) → Option (List Int)) (n : Nat) (q13 : Int) (q14 : List Int) : Option (List Int) :=
  iter (X := Int × List Int) (fun L x => (fun L12 => f126_b12 K a0 a1 q10 y1 L9 L12 x.1 x.2) (fun v0 v1 => L (v0, v1))) n (q13, q14)
def f126_fr12 (a0 : Int × Int × Int) (a1 : List tM) (q10 : Int) (y1 : List (List tV)) (q13 : Int) (q14 : List Int) : Fr := ⟨46, [(0, .v true [.int .i64 a0.1, .int .i64 a0.2.1, .int .i64 a0.2.2]), (1, .v false [.row 0]), (2, .v false [.box 0 0]), (4, .v false [.row 1]), (5, .v false [.row 2]), (6, .v false [.row 3]), (7, .v false [.int .i64 q10]), (8, .v false [.int .i64 q13]), (21, .v false [.bool (decide (q10 < (y1.length : Int)))])], [some ⟨true, [.int .i64 a0.1, .int .i64 a0.2.1, .int .i64 a0.2.2]⟩], [some ⟨95, sM, a1, .ro⟩, some ⟨2, sI, [], .own⟩, some ⟨2, sI, q14, .own⟩, some ⟨84, (.list 79 sV), y1, .own⟩]⟩
def f126_b9 (K : Nat) (a0 : Int × Int × Int) (a1 : List tM) (y1 : List (List tV)) (I12 : Int → Int → (List Int) → Option (List Int)) (L9 : Int → (List Int) → Option (List Int)) (q10 : Int) (q11 : List Int) : Option (List Int) :=
  (bif (decide (q10 < (y1.length : Int))) then I12 q10 (0 : Int) q11 else some q11)
def f126_l9 (K : Nat) (a0 : Int × Int × Int) (a1 : List tM) (y1 : List (List tV)) (n : Nat) (q10 : Int) (q11 : List Int) : Option (List Int) :=
  iter (X := Int × List Int) (fun L x => (fun L9 => f126_b9 K a0 a1 y1 (fun c0 d0 d1 => f126_l12 K a0 a1 c0 y1 L9 K d0 d1) L9 x.1 x.2) (fun v0 v1 => L (v0, v1))) n (q10, q11)
def f126_fr9 (a0 : Int × Int × Int) (a1 : List tM) (y1 : List (List tV)) (q10 : Int) (q11 : List Int) : Fr := ⟨46, [(0, .v true [.int .i64 a0.1, .int .i64 a0.2.1, .int .i64 a0.2.2]), (1, .v false [.row 0]), (2, .v false [.box 0 0]), (4, .v false [.row 1]), (5, .v false [.row 2]), (6, .v false [.row 3]), (7, .v false [.int .i64 q10])], [some ⟨true, [.int .i64 a0.1, .int .i64 a0.2.1, .int .i64 a0.2.2]⟩], [some ⟨95, sM, a1, .ro⟩, some ⟨2, sI, [], .own⟩, some ⟨2, sI, q11, .own⟩, some ⟨84, (.list 79 sV), y1, .own⟩]⟩
def f126_k9 (K : Nat) (a0 : Int × Int × Int) (a1 : List tM) (lr : LR (List Int)) : Ex → Fr → Option (List Int) :=
  contC (f126E K) 1 lr f126C [1, 1, 1, 0, 1, 0] (finK (f126E K) Tryz.f126 [(.ro, sL), (.ro, (.list 95 sM))] [(.list 2 sI)] (a0, a1, ()))
def f126_k12 (K : Nat) (a0 : Int × Int × Int) (a1 : List tM) (y1 : List (List tV)) (F9 : Fr → Option (List Int)) (bq10 : Int) (bq11 : List Int) (lr : LR (List Int)) : Ex → Fr → Option (List Int) :=
  contC (f126E K) 1 lr (selC f126C [1, 1, 1, 0, 1, 0, 0]) [1, 0, 0, 1, 0] (loopK 1 (f126_fr9 a0 a1 y1 bq10 bq11) F9 (f126_k9 K a0 a1 lr))
def f126_g (K : Nat) (a0 : Int × Int × Int) (a1 : List tM) (I9 : (List (List tV)) → Int → (List Int) → Option (List Int)) : Option (List Int) :=
  (bif (decide (0 ≤ (w (a0.1 * a0.2.2))) && Nat.ble (w (a0.1 * a0.2.2)).toNat (lim 8) && ((w (a0.1 * a0.2.2)) == (w (a0.1 * a0.2.2)))) then (f135G K a0 a1).bind fun y1 => I9 y1 (0 : Int) (List.replicate (w (a0.1 * a0.2.2)).toNat (0 : Int)) else none)
def f126G (K : Nat) (a0 : Int × Int × Int) (a1 : List tM) : Option (List Int) :=
  f126_g K a0 a1 (fun c0 d0 d1 => f126_l9 K a0 a1 c0 K d0 d1)
def f126M (K : Nat) : Mdl := ⟨[(.ro, sL), (.ro, (.list 95 sM))], [(.list 2 sI)], fun x => f126G K x.1 x.2.1⟩
def f201C : Code := codeOf Tryz.f201
def f201E (K : Nat) : Env := ⟨[(126, f126M K)], tys, eqs, mts, K, [0, 1, 2, 3, 5, 8, 9, 10, 11, 22], [], []⟩
def f201_b3 (K : Nat) (a0 : Int) (a1 : Int × Int × Int) (a2 : List tM) (a3 y1 : List Int) (L3 : Int → (List Int) → Option (Int × tL × List Int)) (q4 : Int) (q5 : List Int) : Option (Int × tL × List Int) :=
  (bif (decide (q4 < (y1.length : Int))) then (bif (decide (0 ≤ q4) && decide (q4 < (y1.length : Int))) then (bif (decide (0 ≤ (y1.getD ((0 : Int) + q4).toNat (0 : Int))) && decide ((y1.getD ((0 : Int) + q4).toNat (0 : Int)) < (a3.length : Int))) then (bif (Nat.ble (q5.length + [(a3.getD ((0 : Int) + (y1.getD ((0 : Int) + q4).toNat (0 : Int))).toNat (0 : Int))].length) (lim 8)) then L3 (w (q4 + (1 : Int))) (q5 ++ [(a3.getD ((0 : Int) + (y1.getD ((0 : Int) + q4).toNat (0 : Int))).toNat (0 : Int))]) else none) else none) else none) else some (a0, a1, q5))
def f201_l3 (K : Nat) (a0 : Int) (a1 : Int × Int × Int) (a2 : List tM) (a3 y1 : List Int) (n : Nat) (q4 : Int) (q5 : List Int) : Option (Int × tL × List Int) :=
  iter (X := Int × List Int) (fun L x => (fun L3 => f201_b3 K a0 a1 a2 a3 y1 L3 x.1 x.2) (fun v0 v1 => L (v0, v1))) n (q4, q5)
def f201_fr3 (a0 : Int) (a1 : Int × Int × Int) (a2 : List tM) (a3 y1 : List Int) (q4 : Int) (q5 : List Int) : Fr := ⟨38, [(0, .v false [.int .i64 a0]), (1, .v true [.int .i64 a1.1, .int .i64 a1.2.1, .int .i64 a1.2.2]), (2, .v false [.row 0]), (3, .v false [.row 1]), (5, .v false [.box 0 0]), (8, .v false [.box 1 0]), (9, .v false [.row 2]), (10, .v false [.box 2 0]), (11, .v false [.int .i64 q4])], [some ⟨true, [.int .i64 a1.1, .int .i64 a1.2.1, .int .i64 a1.2.2]⟩, some ⟨true, [.int .i64 (0 : Int), .int .i64 (0 : Int), .int .i64 (0 : Int), .int .i64 (0 : Int), .row 3]⟩, some ⟨true, [.int .i64 a0, .int .i64 a1.1, .int .i64 a1.2.1, .int .i64 a1.2.2, .row 4]⟩], [some ⟨95, sM, a2, .ro⟩, some ⟨2, sI, a3, .ro⟩, some ⟨2, sI, y1, .own⟩, some ⟨2, sI, [], .own⟩, some ⟨2, sI, q5, .own⟩]⟩
def f201_k3 (K : Nat) (a0 : Int) (a1 : Int × Int × Int) (a2 : List tM) (a3 : List Int) (lr : LR (Int × tL × List Int)) : Ex → Fr → Option (Int × tL × List Int) :=
  contC (f201E K) 2 lr f201C [1, 1, 1, 0, 1, 0] (finK (f201E K) Tryz.f201 [(.ro, sI), (.ro, sL), (.ro, (.list 95 sM)), (.ro, (.list 2 sI))] [(.cons sI (.cons sL (.list 2 sI)))] (a0, a1, a2, a3, ()))
def f201_g (K : Nat) (a0 : Int) (a1 : Int × Int × Int) (a2 : List tM) (a3 : List Int) (I3 : (List Int) → Int → (List Int) → Option (Int × tL × List Int)) : Option (Int × tL × List Int) :=
  (f126G K a1 a2).bind fun y1 => I3 y1 (0 : Int) []
def f201G (K : Nat) (a0 : Int) (a1 : Int × Int × Int) (a2 : List tM) (a3 : List Int) : Option (Int × tL × List Int) :=
  f201_g K a0 a1 a2 a3 (fun c0 d0 d1 => f201_l3 K a0 a1 a2 a3 c0 K d0 d1)
def f201M (K : Nat) : Mdl := ⟨[(.ro, sI), (.ro, sL), (.ro, (.list 95 sM)), (.ro, (.list 2 sI))], [(.cons sI (.cons sL (.list 2 sI)))], fun x => f201G K x.1 x.2.1 x.2.2.1 x.2.2.2.1⟩
def f316E (K : Nat) : Env := ⟨[], tys, eqs, mts, K, [0, 2], [], []⟩
def f316G (K : Nat) (a0 : Int) : Option Bool :=
  (bif ((!(!(a0 == (0 : Int)))) || true) then (bif ((!(!(a0 == (0 : Int)))) || true) then some (bif (a0 == (0 : Int)) then true else (a0 == (1 : Int))) else none) else none)
def f316M (K : Nat) : Mdl := ⟨[(.ro, sI)], [.bool], fun x => f316G K x.1⟩
def f317E (K : Nat) : Env := ⟨[(141, f141M K)], tys, eqs, mts, K, [0, 1, 2], [], []⟩
def f317G (K : Nat) (a0 : Int × Int × Int) : Option Bool :=
  (f141G K a0.1 (1 : Int) (64 : Int)).bind fun y1 => (bif ((!y1) || true) then (bif ((!y1) || true) then ((bif y1 then f141G K a0.2.2 (1 : Int) (64 : Int) else some false)).bind fun y2 => (bif ((!(bif y1 then y2 else false)) || true) then (bif ((!(bif y1 then y2 else false)) || true) then (bif ((!(bif y1 then y2 else false)) || true) then (bif ((!(bif y1 then y2 else false)) || true) then (bif ((!(bif y1 then y2 else false)) || true) then ((bif (bif y1 then y2 else false) then f141G K a0.2.1 (0 : Int) (w (a0.1 - (1 : Int))) else some false)).bind fun y3 => (bif ((!(bif (bif y1 then y2 else false) then y3 else false)) || true) then (bif ((!(bif (bif y1 then y2 else false) then y3 else false)) || true) then (bif ((!(bif (bif y1 then y2 else false) then y3 else false)) || true) then (bif ((!(bif (bif y1 then y2 else false) then y3 else false)) || true) then (bif ((!(bif (bif y1 then y2 else false) then y3 else false)) || true) then (bif ((!(bif (bif y1 then y2 else false) then y3 else false)) || true) then some (bif (bif (bif y1 then y2 else false) then y3 else false) then (decide ((w (a0.1 * a0.2.2)) ≤ (64 : Int))) else false) else none) else none) else none) else none) else none) else none) else none) else none) else none) else none) else none) else none) else none)
def f317M (K : Nat) : Mdl := ⟨[(.ro, sL)], [.bool], fun x => f317G K x.1⟩
def f229E (K : Nat) : Env := ⟨[(316, f316M K), (317, f317M K)], tys, eqs, mts, K, [0, 1, 3, 4, 12], [], []⟩
def f229G (K : Nat) (a0 : Int) (a1 : Int × Int × Int) : Option Int :=
  (f316G K a0).bind fun y1 => (bif ((!(!(!y1))) || true) then ((bif (!(!y1)) then f317G K a1 else some false)).bind fun y2 => (bif ((!(!(!y1))) || true) then (bif (bif (!y1) then true else (!y2)) then some (1 : Int) else some (0 : Int)) else none) else none)
def f229M (K : Nat) : Mdl := ⟨[(.ro, sI), (.ro, sL)], [sI], fun x => f229G K x.1 x.2.1⟩
def f245C : Code := codeOf Tryz.f245
def f245E (K : Nat) : Env := ⟨[(141, f141M K)], tys, eqs, mts, K, [0, 1, 2, 3, 8, 9, 13, 23], [], []⟩
def f245_b3 (K : Nat) (a0 : List Int) (a1 a2 a3 : Int) (L3 : Int → Option Bool) (q4 : Int) : Option Bool :=
  (bif (decide (q4 < (a0.length : Int))) then (bif (decide (0 ≤ q4) && decide (q4 < (a0.length : Int))) then (f141G K (a0.getD ((0 : Int) + q4).toNat (0 : Int)) a2 a3).bind fun y5 => (bif (!y5) then some false else L3 (w (q4 + (1 : Int)))) else none) else some (decide ((a0.length : Int) ≤ a1)))
def f245_l3 (K : Nat) (a0 : List Int) (a1 a2 a3 : Int) (n : Nat) (q4 : Int) : Option Bool :=
  iter (X := Int) (fun L x => (fun L3 => f245_b3 K a0 a1 a2 a3 L3 x) (fun v0 => L v0)) n q4
def f245_fr3 (a0 : List Int) (a1 a2 a3 q4 : Int) : Fr := ⟨28, [(0, .v false [.row 0]), (1, .v false [.int .i64 a1]), (2, .v false [.int .i64 a2]), (3, .v false [.int .i64 a3]), (8, .v false [.bool false]), (9, .v false [.int .i64 q4])], [], [some ⟨2, sI, a0, .ro⟩]⟩
def f245_k3 (K : Nat) (a0 : List Int) (a1 a2 a3 : Int) (lr : LR Bool) : Ex → Fr → Option Bool :=
  contC (f245E K) 1 lr f245C [1, 0, 1, 0] (finK (f245E K) Tryz.f245 [(.ro, (.list 2 sI)), (.ro, sI), (.ro, sI), (.ro, sI)] [.bool] (a0, a1, a2, a3, ()))
def f245_g (K : Nat) (a0 : List Int) (a1 a2 a3 : Int) (I3 : Int → Option Bool) : Option Bool :=
  I3 (0 : Int)
def f245G (K : Nat) (a0 : List Int) (a1 a2 a3 : Int) : Option Bool :=
  f245_g K a0 a1 a2 a3 (fun d0 => f245_l3 K a0 a1 a2 a3 K d0)
def f245M (K : Nat) : Mdl := ⟨[(.ro, (.list 2 sI)), (.ro, sI), (.ro, sI), (.ro, sI)], [.bool], fun x => f245G K x.1 x.2.1 x.2.2.1 x.2.2.2.1⟩
def f133E (K : Nat) : Env := ⟨[(229, f229M K), (245, f245M K)], tys, eqs, mts, K, [0, 1, 2], [], []⟩
def f133G (K : Nat) (a0 : Int × tL × List Int) : Option Bool :=
  (f229G K a0.1 a0.2.1).bind fun y1 => (bif ((!(y1 == (0 : Int))) || true) then (bif ((!(y1 == (0 : Int))) || true) then (bif ((!(y1 == (0 : Int))) || true) then (bif ((!(y1 == (0 : Int))) || true) then (bif ((!(y1 == (0 : Int))) || true) then (bif ((!(y1 == (0 : Int))) || true) then (bif ((!(y1 == (0 : Int))) || true) then (bif ((!(y1 == (0 : Int))) || true) then (bif ((!(y1 == (0 : Int))) || true) then (bif ((!(y1 == (0 : Int))) || true) then (bif ((!(y1 == (0 : Int))) || true) then (bif ((!(bif (y1 == (0 : Int)) then ((a0.2.2.length : Int) == (w (a0.2.1.1 * a0.2.1.2.2))) else false)) || true) then (bif ((!(bif (y1 == (0 : Int)) then ((a0.2.2.length : Int) == (w (a0.2.1.1 * a0.2.1.2.2))) else false)) || true) then ((bif (bif (y1 == (0 : Int)) then ((a0.2.2.length : Int) == (w (a0.2.1.1 * a0.2.1.2.2))) else false) then f245G K a0.2.2 (64 : Int) (0 : Int) (9 : Int) else some false)).bind fun y2 => some (bif (bif (y1 == (0 : Int)) then ((a0.2.2.length : Int) == (w (a0.2.1.1 * a0.2.1.2.2))) else false) then y2 else false) else none) else none) else none) else none) else none) else none) else none) else none) else none) else none) else none) else none) else none)
def f133M (K : Nat) : Mdl := ⟨[(.ro, (.cons sI (.cons sL (.list 2 sI))))], [.bool], fun x => f133G K x.1⟩
def f136E (K : Nat) : Env := ⟨[(127, f127M K)], tys, eqs, mts, K, [0, 1, 2, 3, 4], [], []⟩
def f136G (K : Nat) (a0 : Int × tL × List Int) (a1 : Int × Int) : Option Int :=
  (f127G K a0.2.1 a1).bind fun y1 => (bif (decide (0 ≤ y1) && decide (y1 < (a0.2.2.length : Int))) then some (a0.2.2.getD ((0 : Int) + y1).toNat (0 : Int)) else none)
def f136M (K : Nat) : Mdl := ⟨[(.ro, (.cons sI (.cons sL (.list 2 sI)))), (.ro, sV)], [sI], fun x => f136G K x.1 x.2.1⟩
def f200C : Code := codeOf Tryz.f200
def f200E (K : Nat) : Env := ⟨[(133, f133M K), (136, f136M K)], tys, eqs, mts, K, [0, 1, 3, 4, 5, 6, 7, 15, 22, 47], [(194, f194M K), (199, f199M K)], []⟩
def f200_b9 (K : Nat) (a0 : (List Int) × Int × Int) (a1 : Int × tL × List Int) (y1 : Bool) (y2 : tV × Int) (L9 : Int → Int → Int → (List (tV × Int)) → Option (tV × List (tV × Int))) (q10 q11 q12 : Int) (q13 : List (tV × Int)) : Option (tV × List (tV × Int)) :=
  (bif (decide (q10 > (0 : Int))) then (f194G K (a0.1, q11, q12) (13 : Int)).bind fun y14 => (f194G K (a0.1, y14.1) (13 : Int)).bind fun y15 => (f136G K a1 ((w (y14.2 - (5 : Int))), (w (y15.2 - (5 : Int))))).bind fun y16 => (bif (Nat.ble (q13.length + [(((w (y14.2 - (5 : Int))), (w (y15.2 - (5 : Int)))), y16)].length) (lim 24)) then L9 (w (q10 - (1 : Int))) y15.1.1 y15.1.2 (q13 ++ [(((w (y14.2 - (5 : Int))), (w (y15.2 - (5 : Int)))), y16)]) else none) else (bif ((!(decide ((q13.length : Int) > (0 : Int)))) || true) then ((bif (decide ((q13.length : Int) > (0 : Int))) then f194G K (a0.1, q11, q12) (4 : Int) else some ((q11, q12), (0 : Int)))).bind fun y17 => (bif ((!(decide ((q13.length : Int) > (0 : Int)))) || true) then (bif (bif (decide ((q13.length : Int) > (0 : Int))) then (y17.2 == (0 : Int)) else false) then (f194G K (a0.1, y17.1) (q13.length : Int)).bind fun y18 => (f194G K (a0.1, y18.1) (3 : Int)).bind fun y19 => (bif (decide (0 ≤ y18.2) && decide (y18.2 < (q13.length : Int))) then some (y19.1, (q13.set ((0 : Int) + y18.2).toNat ((q13.getD ((0 : Int) + y18.2).toNat (((0 : Int), (0 : Int)), (0 : Int))).1, y19.2))) else none) else some (y17.1, q13)) else none) else none))
def f200_l9 (K : Nat) (a0 : (List Int) × Int × Int) (a1 : Int × tL × List Int) (y1 : Bool) (y2 : tV × Int) (n : Nat) (q10 q11 q12 : Int) (q13 : List (tV × Int)) : Option (tV × List (tV × Int)) :=
  iter (X := Int × Int × Int × List (tV × Int)) (fun L x => (fun L9 => f200_b9 K a0 a1 y1 y2 L9 x.1 x.2.1 x.2.2.1 x.2.2.2) (fun v0 v1 v2 v3 => L (v0, v1, v2, v3))) n (q10, q11, q12, q13)
def f200_fr9 (a0 : (List Int) × Int × Int) (a1 : Int × tL × List Int) (y1 : Bool) (y2 : tV × Int) (q10 q11 q12 : Int) (q13 : List (tV × Int)) : Fr := ⟨58, [(0, .v false [.box 0 0]), (1, .v true [.int .i64 a1.1, .int .i64 a1.2.1.1, .int .i64 a1.2.1.2.1, .int .i64 a1.2.1.2.2, .row 1]), (3, .v false [.box 1 0]), (4, .v false [.row 2]), (5, .v false [.row 3]), (6, .v false [.int .i64 q10]), (15, .v false [.bool (bif (!y1) then true else (y2.2 == (0 : Int)))])], [some ⟨true, [.row 0, .int .i64 q11, .int .i64 q12]⟩, some ⟨true, [.int .i64 a1.1, .int .i64 a1.2.1.1, .int .i64 a1.2.1.2.1, .int .i64 a1.2.1.2.2, .row 1]⟩], [some ⟨5, (.int .u8), a0.1, .ro⟩, some ⟨2, sI, a1.2.2, .ro⟩, some ⟨133, (.cons sV sI), [], .own⟩, some ⟨133, (.cons sV sI), q13, .own⟩]⟩
def f200_k9 (K : Nat) (a0 : (List Int) × Int × Int) (a1 : Int × tL × List Int) (lr : LR (tV × List (tV × Int))) : Ex → Fr → Option (tV × List (tV × Int)) :=
  contC (f200E K) 2 lr f200C [1, 1, 1, 0, 1, 0] (finP (f200E K) Tryz.f200 sV [(.list 133 (.cons sV sI))])
def f200_g (K : Nat) (a0 : (List Int) × Int × Int) (a1 : Int × tL × List Int) (I9 : Bool → (tV × Int) → Int → Int → Int → (List (tV × Int)) → Option (tV × List (tV × Int))) : Option (tV × List (tV × Int)) :=
  (f133G K a1).bind fun y1 => (bif ((!(!(!y1))) || true) then ((bif (!(!y1)) then f194G K a0 (5 : Int) else some (a0.2, (0 : Int)))).bind fun y2 => (bif ((!(!(!y1))) || true) then (bif (bif (!y1) then true else (y2.2 == (0 : Int))) then (f199G K (a0.1, y2.1)).bind fun y3 => some y3 else (f194G K (a0.1, y2.1) (9 : Int)).bind fun y4 => I9 y1 y2 y4.2 y4.1.1 y4.1.2 []) else none) else none)
def f200G (K : Nat) (a0 : (List Int) × Int × Int) (a1 : Int × tL × List Int) : Option (tV × List (tV × Int)) :=
  f200_g K a0 a1 (fun c0 c1 d0 d1 d2 d3 => f200_l9 K a0 a1 c0 c1 K d0 d1 d2 d3)
def f200M (K : Nat) : PMdl := ⟨5, (.int .u8), sV, [(.ro, (.cons sI (.cons sL (.list 2 sI))))], [(.list 133 (.cons sV sI))], fun x => f200G K x.1 x.2.1⟩
def f77C : Code := codeOf Tryz.f77
def f77E (K : Nat) : Env := ⟨[(135, f135M K), (143, f143M K), (201, f201M K)], tys, eqs, mts, K, [0, 2, 3, 4, 5, 6, 7, 8, 9, 10, 11, 32, 44], [(194, f194M K), (196, f196M K), (198, f198M K), (199, f199M K), (200, f200M K)], [(174, f174M K)]⟩
def f77_b11 (K : Nat) (a0 : List Int) (y2 : tV × Int) (y4 : Int × tL × (List tM) × Int) (y5 : tV × Int) (L11 : Int → Int → Int → (List Int) → Option (Int × List (tV × Int))) (q12 q13 q14 : Int) (q15 : List Int) : Option (Int × List (tV × Int)) :=
  (bif (decide (q12 > (0 : Int))) then (f194G K (a0, q13, q14) (3 : Int)).bind fun y16 => (bif (Nat.ble (q15.length + [y16.2].length) (lim 8)) then L11 (w (q12 - (1 : Int))) y16.1.1 y16.1.2 (q15 ++ [y16.2]) else none) else (f201G K y4.1 y4.2.1 y4.2.2.1 q15).bind fun y17 => (f200G K (a0, q13, q14) y17).bind fun y18 => some ((w ((1 : Int) + y2.2)), y18.2))
def f77_l11 (K : Nat) (a0 : List Int) (y2 : tV × Int) (y4 : Int × tL × (List tM) × Int) (y5 : tV × Int) (n : Nat) (q12 q13 q14 : Int) (q15 : List Int) : Option (Int × List (tV × Int)) :=
  iter (X := Int × Int × Int × List Int) (fun L x => (fun L11 => f77_b11 K a0 y2 y4 y5 L11 x.1 x.2.1 x.2.2.1 x.2.2.2) (fun v0 v1 v2 v3 => L (v0, v1, v2, v3))) n (q12, q13, q14, q15)
def f77_fr11 (a0 : List Int) (y2 : tV × Int) (y4 : Int × tL × (List tM) × Int) (y5 : tV × Int) (q12 q13 q14 : Int) (q15 : List Int) : Fr := ⟨60, [(0, .v false [.row 0]), (2, .v false [.int .i64 (0 : Int)]), (3, .v false [.row 1]), (4, .v false [.box 0 0]), (5, .v false [.int .i64 (w ((1 : Int) + y2.2))]), (6, .v false [.int .i64 y4.1]), (7, .v false [.box 1 0]), (8, .v false [.row 2]), (9, .v false [.int .i64 y4.2.2.2]), (10, .v false [.row 3]), (11, .v false [.int .i64 q12]), (32, .v false [.bool (bif (y4.2.2.2 != (0 : Int)) then true else (y5.2 == (0 : Int)))])], [some ⟨true, [.row 0, .int .i64 q13, .int .i64 q14]⟩, some ⟨true, [.int .i64 y4.2.1.1, .int .i64 y4.2.1.2.1, .int .i64 y4.2.1.2.2]⟩], [some ⟨5, (.int .u8), a0, .ro⟩, some ⟨133, (.cons sV sI), [], .own⟩, some ⟨95, sM, y4.2.2.1, .own⟩, some ⟨2, sI, q15, .own⟩]⟩
def f77_k11 (K : Nat) (a0 : List Int) (lr : LR (Int × List (tV × Int))) : Ex → Fr → Option (Int × List (tV × Int)) :=
  contC (f77E K) 1 lr f77C [1, 1, 1, 1, 1, 1, 0, 1, 0] (finK (f77E K) Tryz.f77 [(.ro, (.list 5 (.int .u8)))] [sI, (.list 133 (.cons sV sI))] (a0, ()))
def f77_g (K : Nat) (a0 : List Int) (I11 : (tV × Int) → (Int × tL × (List tM) × Int) → (tV × Int) → Int → Int → Int → (List Int) → Option (Int × List (tV × Int))) : Option (Int × List (tV × Int)) :=
  (f174G K a0).bind fun y1 => (f194G K (a0, y1) (2 : Int)).bind fun y2 => (f198G K (a0, y2.1)).bind fun y3 => (f143G K y3.2 (w ((1 : Int) + y2.2))).bind fun y4 => (bif ((!(!(y4.2.2.2 != (0 : Int)))) || true) then ((bif (!(y4.2.2.2 != (0 : Int))) then f194G K (a0, y3.1) (3 : Int) else some (y3.1, (0 : Int)))).bind fun y5 => (bif ((!(!(y4.2.2.2 != (0 : Int)))) || true) then (bif (bif (y4.2.2.2 != (0 : Int)) then true else (y5.2 == (0 : Int))) then (f196G K (a0, y5.1) [(1 : Int), (2 : Int), (0 : Int), (5 : Int)]).bind fun y6 => (f199G K (a0, y6.1)).bind fun y7 => some (y6.2, y7.2) else (f135G K y4.2.1 y4.2.2.1).bind fun y8 => I11 y2 y4 y5 (y8.length : Int) y5.1.1 y5.1.2 []) else none) else none)
def f77G (K : Nat) (a0 : List Int) : Option (Int × List (tV × Int)) :=
  f77_g K a0 (fun c0 c1 c2 d0 d1 d2 d3 => f77_l11 K a0 c0 c1 c2 K d0 d1 d2 d3)
def f77M (K : Nat) : Mdl := ⟨[(.ro, (.list 5 (.int .u8)))], [sI, (.list 133 (.cons sV sI))], fun x => f77G K x.1⟩
def f146E (K : Nat) : Env := ⟨[], tys, eqs, mts, K, [0, 1, 2, 6], [], []⟩
def f146G (K : Nat) (a0 a1 a2 : Int) : Option Bool :=
  (bif ((!(decide (a0 ≥ a1))) || true) then (bif ((!(decide (a0 ≥ a1))) || true) then (bif ((!(decide (a0 ≥ a1))) || true) then some (bif (decide (a0 ≥ a1)) then (decide (a0 ≤ a2)) else false) else none) else none) else none)
def f146M (K : Nat) : Mdl := ⟨[(.ro, sI), (.ro, sI), (.ro, sI)], [.bool], fun x => f146G K x.1 x.2.1 x.2.2.1⟩
def f287E (K : Nat) : Env := ⟨[(146, f146M K)], tys, eqs, mts, K, [0, 2], [], []⟩
def f287G (K : Nat) (a0 : Int) : Option Bool :=
  (f146G K a0 (-1000 : Int) (1000 : Int)).bind fun y1 => some y1
def f287M (K : Nat) : Mdl := ⟨[(.ro, sI)], [.bool], fun x => f287G K x.1⟩
def f189E (K : Nat) : Env := ⟨[(287, f287M K)], tys, eqs, mts, K, [0, 1, 2], [], []⟩
def f189G (K : Nat) (a0 : Int × Int) : Option Bool :=
  (f287G K a0.1).bind fun y1 => (bif ((!y1) || true) then (bif ((!y1) || true) then ((bif y1 then f287G K a0.2 else some false)).bind fun y2 => some (bif y1 then y2 else false) else none) else none)
def f189M (K : Nat) : Mdl := ⟨[(.ro, sV)], [.bool], fun x => f189G K x.1⟩
def f206E (K : Nat) : Env := ⟨[(146, f146M K)], tys, eqs, mts, K, [0, 2], [], []⟩
def f206G (K : Nat) (a0 : Int) : Option Bool :=
  (f146G K a0 (0 : Int) (9 : Int)).bind fun y1 => some y1
def f206M (K : Nat) : Mdl := ⟨[(.ro, sI)], [.bool], fun x => f206G K x.1⟩
def f210E (K : Nat) : Env := ⟨[(189, f189M K), (206, f206M K)], tys, eqs, mts, K, [0, 1, 2], [], []⟩
def f210G (K : Nat) (a0 : tV × Int) : Option Bool :=
  (f189G K a0.1).bind fun y1 => (bif ((!(!(!y1))) || true) then (bif ((!(!(!y1))) || true) then ((bif (!(!y1)) then f206G K a0.2 else some false)).bind fun y2 => (bif ((!(!(!y1))) || true) then some (bif (!y1) then true else (!y2)) else none) else none) else none)
def f210M (K : Nat) : Mdl := ⟨[(.ro, (.cons sV sI))], [.bool], fun x => f210G K x.1⟩
def f259C : Code := codeOf Tryz.f259
def f259E (K : Nat) : Env := ⟨[], tys, eqs, mts, K, [0, 1, 4, 5, 7, 8, 9, 16], [], []⟩
def f259_b3 (K : Nat) (a0 : List (tV × Int)) (a1 : ((tV × Int) → Option Bool)) (L3 : Int → Option Int) (q4 : Int) : Option Int :=
  (bif (decide (q4 < (a0.length : Int))) then (bif (decide (0 ≤ q4) && decide (q4 < (a0.length : Int))) then (a1 (((a0.getD ((0 : Int) + q4).toNat (((0 : Int), (0 : Int)), (0 : Int))).1), (a0.getD ((0 : Int) + q4).toNat (((0 : Int), (0 : Int)), (0 : Int))).2)).bind fun y5 => (bif y5 then some q4 else L3 (w (q4 + (1 : Int)))) else none) else some (-1 : Int))
def f259_l3 (K : Nat) (a0 : List (tV × Int)) (a1 : ((tV × Int) → Option Bool)) (n : Nat) (q4 : Int) : Option Int :=
  iter (X := Int) (fun L x => (fun L3 => f259_b3 K a0 a1 L3 x) (fun v0 => L v0)) n q4
def f259_fr3 (a0 : List (tV × Int)) (a1 : ((tV × Int) → Option Bool)) (q4 : Int) : Fr := ⟨19, [(0, .v false [.row 0]), (1, .v false [.fv1 (.cons sV sI) .bool a1]), (4, .v false [.int .i64 (0 : Int)]), (7, .v false [.int .i64 (a0.length : Int)]), (8, .v false [.int .i64 q4])], [], [some ⟨133, (.cons sV sI), a0, .ro⟩]⟩
def f259_k3 (K : Nat) (a0 : List (tV × Int)) (a1 : ((tV × Int) → Option Bool)) (lr : LR Int) : Ex → Fr → Option Int :=
  contC (f259E K) 1 lr f259C [1, 0, 1, 0] (finK (f259E K) Tryz.f259 [(.ro, (.list 133 (.cons sV sI))), (.ro, (.fn1 (.cons sV sI) .bool))] [sI] (a0, a1, ()))
def f259_g (K : Nat) (a0 : List (tV × Int)) (a1 : ((tV × Int) → Option Bool)) (I3 : Int → Option Int) : Option Int :=
  I3 (0 : Int)
def f259G (K : Nat) (a0 : List (tV × Int)) (a1 : ((tV × Int) → Option Bool)) : Option Int :=
  f259_g K a0 a1 (fun d0 => f259_l3 K a0 a1 K d0)
def f259M (K : Nat) : Mdl := ⟨[(.ro, (.list 133 (.cons sV sI))), (.ro, (.fn1 (.cons sV sI) .bool))], [sI], fun x => f259G K x.1 x.2.1⟩
def f158E (K : Nat) : Env := ⟨[(259, f259M K)], tys, eqs, mts, K, [0, 1, 4], [], []⟩
def f158G (K : Nat) (a0 : List (tV × Int)) (a1 : ((tV × Int) → Option Bool)) : Option Bool :=
  (f259G K a0 a1).bind fun y1 => some (decide (y1 ≥ (0 : Int)))
def f158M (K : Nat) : Mdl := ⟨[(.ro, (.list 133 (.cons sV sI))), (.ro, (.fn1 (.cons sV sI) .bool))], [.bool], fun x => f158G K x.1 x.2.1⟩
def f95E (K : Nat) : Env := ⟨[(158, f158M K), (210, f210M K)], tys, eqs, mts, K, [0, 2], [], []⟩
def f95G (K : Nat) (a0 : List (tV × Int)) : Option Bool :=
  (bif ((!(decide ((a0.length : Int) ≤ (40 : Int)))) || true) then ((bif (decide ((a0.length : Int) ≤ (40 : Int))) then f158G K a0 (fun z1 => f210G K z1) else some false)).bind fun y2 => (bif ((!(decide ((a0.length : Int) ≤ (40 : Int)))) || true) then some (bif (decide ((a0.length : Int) ≤ (40 : Int))) then (!y2) else false) else none) else none)
def f95M (K : Nat) : Mdl := ⟨[(.ro, (.list 133 (.cons sV sI)))], [.bool], fun x => f95G K x.1⟩
def f147E (K : Nat) : Env := ⟨[], tys, eqs, mts, K, [0], [], []⟩
def f147G (K : Nat) : Option (List ByteArray) :=
  some [(bs [112, 49]), (bs [112, 50]), (bs [112, 109]), (bs [112, 103]), (bs [99, 109]), (bs [112, 109, 109]), (bs [112, 109, 103]), (bs [112, 103, 103]), (bs [99, 109, 109]), (bs [112, 52]), (bs [112, 52, 109]), (bs [112, 52, 103]), (bs [112, 51]), (bs [112, 51, 109, 49]), (bs [112, 51, 49, 109]), (bs [112, 54]), (bs [112, 54, 109])]
def f147M (K : Nat) : Mdl := ⟨[], [(.list 9 .str)], fun x => f147G K ⟩
def f204E (K : Nat) : Env := ⟨[], tys, eqs, mts, K, [0, 1, 4, 5, 6, 7, 8, 9, 10, 11, 12, 13, 14, 15, 16, 32, 33, 35, 39, 44, 50, 55, 61, 68, 75, 81, 85, 91, 98, 102, 108, 114, 118], [], []⟩
def f204G (K : Nat) (a0 : ByteArray) (a1 : Int) : Option (Int × (List tM) × Bool) :=
  (bif (a0 == (bs [112, 49])) then some ((0 : Int), [], true) else (bif (a0 == (bs [112, 50])) then some ((0 : Int), [(((-1 : Int), (0 : Int), (0 : Int), (-1 : Int)), (0 : Int), (0 : Int))], true) else (bif (a0 == (bs [112, 109])) then some ((0 : Int), [(((1 : Int), (0 : Int), (0 : Int), (-1 : Int)), (0 : Int), (0 : Int))], true) else (bif (a0 == (bs [112, 103])) then some ((0 : Int), [(((1 : Int), (0 : Int), (0 : Int), (-1 : Int)), a1, (0 : Int))], true) else (bif (a0 == (bs [99, 109])) then some ((0 : Int), [(((0 : Int), (1 : Int), (1 : Int), (0 : Int)), (0 : Int), (0 : Int))], true) else (bif (a0 == (bs [112, 109, 109])) then some ((0 : Int), [(((1 : Int), (0 : Int), (0 : Int), (-1 : Int)), (0 : Int), (0 : Int)), (((-1 : Int), (0 : Int), (0 : Int), (-1 : Int)), (0 : Int), (0 : Int))], true) else (bif (a0 == (bs [112, 109, 103])) then some ((0 : Int), [(((1 : Int), (0 : Int), (0 : Int), (-1 : Int)), a1, (0 : Int)), (((-1 : Int), (0 : Int), (0 : Int), (-1 : Int)), (0 : Int), (0 : Int))], true) else (bif (a0 == (bs [112, 103, 103])) then some ((0 : Int), [(((1 : Int), (0 : Int), (0 : Int), (-1 : Int)), a1, a1), (((-1 : Int), (0 : Int), (0 : Int), (-1 : Int)), (0 : Int), (0 : Int))], true) else (bif (a0 == (bs [99, 109, 109])) then some ((0 : Int), [(((0 : Int), (1 : Int), (1 : Int), (0 : Int)), (0 : Int), (0 : Int)), (((-1 : Int), (0 : Int), (0 : Int), (-1 : Int)), (0 : Int), (0 : Int))], true) else (bif (a0 == (bs [112, 52])) then some ((0 : Int), [(((0 : Int), (-1 : Int), (1 : Int), (0 : Int)), (0 : Int), (0 : Int))], true) else (bif (a0 == (bs [112, 52, 109])) then some ((0 : Int), [(((0 : Int), (-1 : Int), (1 : Int), (0 : Int)), (0 : Int), (0 : Int)), (((1 : Int), (0 : Int), (0 : Int), (-1 : Int)), (0 : Int), (0 : Int))], true) else (bif (a0 == (bs [112, 52, 103])) then some ((0 : Int), [(((0 : Int), (-1 : Int), (1 : Int), (0 : Int)), (0 : Int), (0 : Int)), (((1 : Int), (0 : Int), (0 : Int), (-1 : Int)), a1, a1)], true) else (bif (a0 == (bs [112, 51])) then some ((1 : Int), [(((-1 : Int), (-1 : Int), (1 : Int), (0 : Int)), (0 : Int), (0 : Int))], true) else (bif (a0 == (bs [112, 51, 109, 49])) then some ((1 : Int), [(((-1 : Int), (-1 : Int), (1 : Int), (0 : Int)), (0 : Int), (0 : Int)), (((0 : Int), (1 : Int), (1 : Int), (0 : Int)), (0 : Int), (0 : Int))], true) else (bif (a0 == (bs [112, 51, 49, 109])) then some ((1 : Int), [(((-1 : Int), (-1 : Int), (1 : Int), (0 : Int)), (0 : Int), (0 : Int)), (((1 : Int), (1 : Int), (0 : Int), (-1 : Int)), (0 : Int), (0 : Int))], true) else (bif (a0 == (bs [112, 54])) then some ((1 : Int), [(((0 : Int), (-1 : Int), (1 : Int), (1 : Int)), (0 : Int), (0 : Int))], true) else (bif (a0 == (bs [112, 54, 109])) then some ((1 : Int), [(((0 : Int), (-1 : Int), (1 : Int), (1 : Int)), (0 : Int), (0 : Int)), (((0 : Int), (1 : Int), (1 : Int), (0 : Int)), (0 : Int), (0 : Int))], true) else some ((0 : Int), [], false))))))))))))))))))
def f204M (K : Nat) : Mdl := ⟨[(.ro, .str), (.ro, sI)], [sI, (.list 95 sM), .bool], fun x => f204G K x.1 x.2.1⟩
def f231E (K : Nat) : Env := ⟨[], tys, eqs, mts, K, [0], [], []⟩
def f231G (K : Nat) : Option tA :=
  some ((1 : Int), (0 : Int), (0 : Int), (1 : Int))
def f231M (K : Nat) : Mdl := ⟨[], [sA], fun x => f231G K ⟩
def f347E (K : Nat) : Env := ⟨[], tys, eqs, mts, K, [0, 1, 2, 3, 4], [], []⟩
def f347G (K : Nat) (a0 a1 : Int × Int × Int × Int) : Option tA :=
  some ((w ((w (a0.1 * a1.1)) + (w (a0.2.1 * a1.2.2.1)))), (w ((w (a0.1 * a1.2.1)) + (w (a0.2.1 * a1.2.2.2)))), (w ((w (a0.2.2.1 * a1.1)) + (w (a0.2.2.2 * a1.2.2.1)))), (w ((w (a0.2.2.1 * a1.2.1)) + (w (a0.2.2.2 * a1.2.2.2)))))
def f347M (K : Nat) : Mdl := ⟨[(.ro, sA), (.ro, sA)], [sA], fun x => f347G K x.1 x.2.1⟩
def f288E (K : Nat) : Env := ⟨[], tys, eqs, mts, K, [0, 1, 2, 3, 4], [], []⟩
def f288G (K : Nat) (a0 : Int × Int × Int × Int) (a1 : Int × Int) : Option tV :=
  some ((w ((w (a0.1 * a1.1)) + (w (a0.2.1 * a1.2)))), (w ((w (a0.2.2.1 * a1.1)) + (w (a0.2.2.2 * a1.2)))))
def f288M (K : Nat) : Mdl := ⟨[(.ro, sA), (.ro, sV)], [sV], fun x => f288G K x.1 x.2.1⟩
def f289E (K : Nat) : Env := ⟨[], tys, eqs, mts, K, [0, 1, 2, 3, 4], [], []⟩
def f289G (K : Nat) (a0 a1 : Int × Int) : Option tV :=
  some ((w (a0.1 + a1.1)), (w (a0.2 + a1.2)))
def f289M (K : Nat) : Mdl := ⟨[(.ro, sV), (.ro, sV)], [sV], fun x => f289G K x.1 x.2.1⟩
def f298E (K : Nat) : Env := ⟨[(288, f288M K), (289, f289M K), (347, f347M K)], tys, eqs, mts, K, [0, 1, 2, 3, 4], [], []⟩
def f298G (K : Nat) (a0 a1 : tA × Int × Int) : Option tM :=
  (f347G K a0.1 a1.1).bind fun y1 => (f288G K a0.1 a1.2).bind fun y2 => (f289G K y2 a0.2).bind fun y3 => some (y1, y3)
def f298M (K : Nat) : Mdl := ⟨[(.ro, sM), (.ro, sM)], [sM], fun x => f298G K x.1 x.2.1⟩
def f260E (K : Nat) : Env := ⟨[], tys, eqs, mts, K, [0, 1, 4], [], []⟩
def f260G (K : Nat) (a0 a1 : Int) : Option Int :=
  (bif (a1 != 0) then (bif (a1 != 0) then some ((w ((a0.tmod a1) + a1)).tmod a1) else none) else none)
def f260M (K : Nat) : Mdl := ⟨[(.ro, sI), (.ro, sI)], [sI], fun x => f260G K x.1 x.2.1⟩
def f161E (K : Nat) : Env := ⟨[(260, f260M K)], tys, eqs, mts, K, [0, 1, 2, 3, 4, 5], [], []⟩
def f161G (K : Nat) (a0 : Int × Int × Int) (a1 : Int × Int) : Option tV :=
  (f260G K a1.2 a0.2.2).bind fun y1 => (bif (a0.2.2 != 0) then (f260G K (w (a1.1 - (w ((w ((w (a1.2 - y1)).tdiv a0.2.2)) * a0.2.1)))) a0.1).bind fun y2 => some (y2, y1) else none)
def f161M (K : Nat) : Mdl := ⟨[(.ro, sL), (.ro, sV)], [sV], fun x => f161G K x.1 x.2.1⟩
def f297E (K : Nat) : Env := ⟨[(161, f161M K)], tys, eqs, mts, K, [0, 1, 2, 3, 4], [], []⟩
def f297G (K : Nat) (a0 : Int × Int × Int) (a1 : tA × Int × Int) : Option tM :=
  (f161G K a0 a1.2).bind fun y1 => some (a1.1, y1)
def f297M (K : Nat) : Mdl := ⟨[(.ro, sL), (.ro, sM)], [sM], fun x => f297G K x.1 x.2.1⟩
def f332C : Code := codeOf Tryz.f332
def f332E (K : Nat) : Env := ⟨[], tys, eqs, mts, K, [0, 1, 4, 5, 7, 8, 9, 19, 28], [], []⟩
def f332_b2 (K : Nat) (a0 a1 : List Int) (L2 : Int → Option Int) (q3 : Int) : Option Int :=
  (bif (decide (q3 < (a0.length : Int))) then (bif (decide (0 ≤ q3) && decide (q3 < (a0.length : Int))) then (bif (decide (0 ≤ q3) && decide (q3 < (a1.length : Int))) then (bif ((a0.getD ((0 : Int) + q3).toNat (0 : Int)) != (a1.getD ((0 : Int) + q3).toNat (0 : Int))) then (bif (decide (0 ≤ q3) && decide (q3 < (a0.length : Int))) then (bif (decide (0 ≤ q3) && decide (q3 < (a1.length : Int))) then (bif (decide ((a0.getD ((0 : Int) + q3).toNat (0 : Int)) < (a1.getD ((0 : Int) + q3).toNat (0 : Int)))) then some (-1 : Int) else some (1 : Int)) else none) else none) else L2 (w (q3 + (1 : Int)))) else none) else none) else some (0 : Int))
def f332_l2 (K : Nat) (a0 a1 : List Int) (n : Nat) (q3 : Int) : Option Int :=
  iter (X := Int) (fun L x => (fun L2 => f332_b2 K a0 a1 L2 x) (fun v0 => L v0)) n q3
def f332_fr2 (a0 a1 : List Int) (q3 : Int) : Fr := ⟨30, [(0, .v false [.row 0]), (1, .v false [.row 1]), (4, .v false [.int .i64 (0 : Int)]), (7, .v false [.int .i64 (a0.length : Int)]), (8, .v false [.int .i64 q3])], [], [some ⟨2, sI, a0, .ro⟩, some ⟨2, sI, a1, .ro⟩]⟩
def f332_k2 (K : Nat) (a0 a1 : List Int) (lr : LR Int) : Ex → Fr → Option Int :=
  contC (f332E K) 2 lr f332C [1, 0, 1, 0] (finK (f332E K) Tryz.f332 [(.ro, (.list 2 sI)), (.ro, (.list 2 sI))] [sI] (a0, a1, ()))
def f332_g (K : Nat) (a0 a1 : List Int) (I2 : Int → Option Int) : Option Int :=
  I2 (0 : Int)
def f332G (K : Nat) (a0 a1 : List Int) : Option Int :=
  f332_g K a0 a1 (fun d0 => f332_l2 K a0 a1 K d0)
def f332M (K : Nat) : Mdl := ⟨[(.ro, (.list 2 sI)), (.ro, (.list 2 sI))], [sI], fun x => f332G K x.1 x.2.1⟩
def f349E (K : Nat) : Env := ⟨[(332, f332M K)], tys, eqs, mts, K, [0, 1, 2, 3, 4], [], []⟩
def f349G (K : Nat) (a0 a1 : Int × Int × Int × Int) : Option Int :=
  (f332G K [a0.1, a0.2.1, a0.2.2.1, a0.2.2.2] [a1.1, a1.2.1, a1.2.2.1, a1.2.2.2]).bind fun y1 => some y1
def f349M (K : Nat) : Mdl := ⟨[(.ro, sA), (.ro, sA)], [sI], fun x => f349G K x.1 x.2.1⟩
def f269E (K : Nat) : Env := ⟨[(332, f332M K)], tys, eqs, mts, K, [0, 1, 2, 3, 4], [], []⟩
def f269G (K : Nat) (a0 a1 : Int × Int) : Option Int :=
  (f332G K [a0.1, a0.2] [a1.1, a1.2]).bind fun y1 => some y1
def f269M (K : Nat) : Mdl := ⟨[(.ro, sV), (.ro, sV)], [sI], fun x => f269G K x.1 x.2.1⟩
def f300E (K : Nat) : Env := ⟨[(269, f269M K), (349, f349M K)], tys, eqs, mts, K, [0, 1, 2, 3, 4, 5, 12], [], []⟩
def f300G (K : Nat) (a0 a1 : tA × Int × Int) : Option Int :=
  (f349G K a0.1 a1.1).bind fun y1 => (bif (y1 != (0 : Int)) then some y1 else (f269G K a0.2 a1.2).bind fun y2 => some y2)
def f300M (K : Nat) : Mdl := ⟨[(.ro, sM), (.ro, sM)], [sI], fun x => f300G K x.1 x.2.1⟩
def f299G (K : Nat) (a0 : List tM) (a1 : tM → tM → Option Int) : Option (List tM) := sortF sM a0 a1
def f299M (K : Nat) : Mdl := ⟨[(.io, (.list 95 sM)), (.ro, (.fn2 sM sM sI))], [], fun x => f299G K x.1 x.2.1⟩
def f205C : Code := codeOf Tryz.f205
def f205E (K : Nat) : Env := ⟨[(231, f231M K), (297, f297M K), (298, f298M K), (299, f299M K), (300, f300M K)], tys, eqs, mts, K, [0, 1, 2, 4, 5, 6, 7, 9, 10, 22, 25, 26, 27, 28, 42], [], []⟩
def f205_b16 (K : Nat) (a0 : Int × Int × Int) (a1 : List tM) (q13 : Int) (q15 : List tM) (L12 : Int → (List (tM × Bool)) → (List tM) → Option (List tM)) (L16 : Int → (List (tM × Bool)) → (List tM) → Option (List tM)) (q17 : Int) (q18 : List (tM × Bool)) (q19 : List tM) : Option (List tM) :=
  (bif (decide (q17 < (a1.length : Int))) then (bif (decide (0 ≤ q17) && decide (q17 < (a1.length : Int))) then (bif (decide (0 ≤ q13) && decide (q13 < (q19.length : Int))) then (f298G K ((((a1.getD ((0 : Int) + q17).toNat zM).1).1, (((a1.getD ((0 : Int) + q17).toNat zM).1).2).1, ((((a1.getD ((0 : Int) + q17).toNat zM).1).2).2)), ((a1.getD ((0 : Int) + q17).toNat zM).2)) ((((q19.getD ((0 : Int) + q13).toNat zM).1).1, (((q19.getD ((0 : Int) + q13).toNat zM).1).2).1, ((((q19.getD ((0 : Int) + q13).toNat zM).1).2).2)), ((q19.getD ((0 : Int) + q13).toNat zM).2))).bind fun y20 => (f297G K a0 y20).bind fun y21 => (bif (!((mfind (eqSh sM) q18 y21).getD false)) then (bif (Nat.ble (q19.length + [y21].length) (lim 48)) then L16 (w (q17 + (1 : Int))) (mput (eqSh sM) q18 y21 true) (q19 ++ [y21]) else none) else L16 (w (q17 + (1 : Int))) q18 q19) else none) else none) else L12 (w (q13 + (1 : Int))) q18 q19)
def f205_l16 (K : Nat) (a0 : Int × Int × Int) (a1 : List tM) (q13 : Int) (q15 : List tM) (L12 : Int → (List (tM × Bool)) → (List tM) → Option (List tM)) (n : Nat) (q17 : Int) (q18 : List (tM × Bool)) (q19 : List tM) : Option (List tM) :=
  iter (X := Int × List (tM × Bool) × List tM) (fun L x => (fun L16 => f205_b16 K a0 a1 q13 q15 L12 L16 x.1 x.2.1 x.2.2) (fun v0 v1 v2 => L (v0, v1, v2))) n (q17, q18, q19)
def f205_fr16 (a0 : Int × Int × Int) (a1 : List tM) (q13 : Int) (q15 : List tM) (q17 : Int) (q18 : List (tM × Bool)) (q19 : List tM) : Fr := ⟨53, [(0, .v true [.int .i64 a0.1, .int .i64 a0.2.1, .int .i64 a0.2.2]), (1, .v false [.row 0]), (2, .v false [.box 0 0]), (4, .v false [.row 1]), (5, .v false [.row 2]), (6, .v false [.mp 1]), (7, .v false [.int .i64 q13]), (22, .v false [.bool (decide (q13 < (q15.length : Int)))]), (25, .v false [.row 0]), (26, .v false [.int .i64 (a1.length : Int)]), (27, .v false [.int .i64 q17])], [some ⟨true, [.int .i64 a0.1, .int .i64 a0.2.1, .int .i64 a0.2.2]⟩, some ⟨true, [.mc sM .bool q18]⟩], [some ⟨95, sM, a1, .ro⟩, some ⟨95, sM, [], .own⟩, some ⟨95, sM, q19, .own⟩]⟩
def f205_b12 (K : Nat) (a0 : Int × Int × Int) (a1 : List tM) (I16 : Int → (List tM) → Int → (List (tM × Bool)) → (List tM) → Option (List tM)) (L12 : Int → (List (tM × Bool)) → (List tM) → Option (List tM)) (q13 : Int) (q14 : List (tM × Bool)) (q15 : List tM) : Option (List tM) :=
  (bif (decide (q13 < (q15.length : Int))) then I16 q13 q15 (0 : Int) q14 q15 else (f299G K q15 (fun z22 z23 => f300G K z22 z23)).bind fun y24 => some y24)
def f205_l12 (K : Nat) (a0 : Int × Int × Int) (a1 : List tM) (n : Nat) (q13 : Int) (q14 : List (tM × Bool)) (q15 : List tM) : Option (List tM) :=
  iter (X := Int × List (tM × Bool) × List tM) (fun L x => (fun L12 => f205_b12 K a0 a1 (fun c0 c1 d0 d1 d2 => f205_l16 K a0 a1 c0 c1 L12 K d0 d1 d2) L12 x.1 x.2.1 x.2.2) (fun v0 v1 v2 => L (v0, v1, v2))) n (q13, q14, q15)
def f205_fr12 (a0 : Int × Int × Int) (a1 : List tM) (q13 : Int) (q14 : List (tM × Bool)) (q15 : List tM) : Fr := ⟨53, [(0, .v true [.int .i64 a0.1, .int .i64 a0.2.1, .int .i64 a0.2.2]), (1, .v false [.row 0]), (2, .v false [.box 0 0]), (4, .v false [.row 1]), (5, .v false [.row 2]), (6, .v false [.mp 1]), (7, .v false [.int .i64 q13])], [some ⟨true, [.int .i64 a0.1, .int .i64 a0.2.1, .int .i64 a0.2.2]⟩, some ⟨true, [.mc sM .bool q14]⟩], [some ⟨95, sM, a1, .ro⟩, some ⟨95, sM, [], .own⟩, some ⟨95, sM, q15, .own⟩]⟩
def f205_k12 (K : Nat) (a0 : Int × Int × Int) (a1 : List tM) (lr : LR (List tM)) : Ex → Fr → Option (List tM) :=
  contC (f205E K) 1 lr f205C [1, 1, 1, 0, 1, 0] (finK (f205E K) Tryz.f205 [(.ro, sL), (.ro, (.list 95 sM))] [(.list 95 sM)] (a0, a1, ()))
def f205_k16 (K : Nat) (a0 : Int × Int × Int) (a1 : List tM) (F12 : Fr → Option (List tM)) (bq13 : Int) (bq14 : List (tM × Bool)) (bq15 : List tM) (lr : LR (List tM)) : Ex → Fr → Option (List tM) :=
  contC (f205E K) 1 lr (selC f205C [1, 1, 1, 0, 1, 0, 0]) [1, 0, 0, 1, 0] (loopK 1 (f205_fr12 a0 a1 bq13 bq14 bq15) F12 (f205_k12 K a0 a1 lr))
def f205_g (K : Nat) (a0 : Int × Int × Int) (a1 : List tM) (I12 : Int → (List (tM × Bool)) → (List tM) → Option (List tM)) : Option (List tM) :=
  (f231G K).bind fun y1 => (bif (decide (0 ≤ (0 : Int)) && decide ((0 : Int) < ([(y1, (0 : Int), (0 : Int))].length : Int))) then I12 (0 : Int) (mput (eqSh sM) [] (((([(y1, (0 : Int), (0 : Int))].getD ((0 : Int) + (0 : Int)).toNat zM).1).1, ((([(y1, (0 : Int), (0 : Int))].getD ((0 : Int) + (0 : Int)).toNat zM).1).2).1, (((([(y1, (0 : Int), (0 : Int))].getD ((0 : Int) + (0 : Int)).toNat zM).1).2).2)), (([(y1, (0 : Int), (0 : Int))].getD ((0 : Int) + (0 : Int)).toNat zM).2)) true) [(y1, (0 : Int), (0 : Int))] else none)
def f205G (K : Nat) (a0 : Int × Int × Int) (a1 : List tM) : Option (List tM) :=
  f205_g K a0 a1 (fun d0 d1 d2 => f205_l12 K a0 a1 K d0 d1 d2)
def f205M (K : Nat) : Mdl := ⟨[(.ro, sL), (.ro, (.list 95 sM))], [(.list 95 sM)], fun x => f205G K x.1 x.2.1⟩
def f86E (K : Nat) : Env := ⟨[(146, f146M K), (204, f204M K), (205, f205M K)], tys, eqs, mts, K, [0, 1, 4, 5, 6, 7, 8, 9, 10, 11, 20, 24], [], []⟩
def f86G (K : Nat) (a0 : ByteArray) (a1 : Int) : Option (Int × tL × (List tM) × Int) :=
  (f204G K a0 a1).bind fun y1 => (bif (!y1.2.2) then some ((0 : Int), ((0 : Int), (0 : Int), (0 : Int)), [], (4 : Int)) else (f146G K a1 (1 : Int) (4 : Int)).bind fun y2 => (bif (!y2) then some ((0 : Int), ((0 : Int), (0 : Int), (0 : Int)), [], (2 : Int)) else (f205G K ((w ((2 : Int) * a1)), (0 : Int), (w ((2 : Int) * a1))) y1.2.1).bind fun y3 => some (y1.1, ((w ((2 : Int) * a1)), (0 : Int), (w ((2 : Int) * a1))), y3, (0 : Int))))
def f86M (K : Nat) : Mdl := ⟨[(.ro, .str), (.ro, sI)], [sI, sL, (.list 95 sM), sI], fun x => f86G K x.1 x.2.1⟩
def f238E (K : Nat) : Env := ⟨[], tys, eqs, mts, K, [0, 1, 2], [], []⟩
def f238G (K : Nat) (a0 : Int × Int × Int) : Option Int :=
  some (w (a0.1 * a0.2.2))
def f238M (K : Nat) : Mdl := ⟨[(.ro, sL)], [sI], fun x => f238G K x.1⟩
def f321G (K : Nat) (a0 a1 : Int) : Option tV := mulF a0 a1
def f321M (K : Nat) : Mdl := ⟨[(.ro, (.int .u64)), (.ro, (.int .u64))], [(.int .u64), (.int .u64)], fun x => f321G K x.1 x.2.1⟩
def f243C : Code := codeOf Tryz.f243
def f243E (K : Nat) : Env := ⟨[(321, f321M K)], tys, eqs, mts, K, [0, 1, 4, 5, 6, 7, 8, 10, 26, 37], [], []⟩
def f243_b3 (K : Nat) (a0 : List Int) (a1 : Int) (y1 : Int × Int) (L3 : Int → (List Int) → Option (List Int)) (q4 : Int) (q5 : List Int) : Option (List Int) :=
  (bif (decide (q4 < (q5.length : Int))) then (bif (decide (0 ≤ q4) && decide (q4 ≤ (q5.length : Int)) && decide ((q5.length : Int) ≤ (q5.length : Int))) then (bif (decide (0 ≤ (0 : Int)) && decide ((0 : Int) ≤ q4) && decide (q4 ≤ (q5.length : Int))) then L3 (w (q4 + (bif decide ((((0 : Int) + (q5.length : Int)) - ((0 : Int) + q4)) ≤ (((0 : Int) + q4) - (0 : Int))) then (((0 : Int) + (q5.length : Int)) - ((0 : Int) + q4)) else (((0 : Int) + q4) - (0 : Int))))) (q5.take ((0 : Int) + q4).toNat ++ ((q5.take ((0 : Int) + (((0 : Int) + q4) - (0 : Int))).toNat).drop 0).take (bif decide ((((0 : Int) + (q5.length : Int)) - ((0 : Int) + q4)) ≤ (((0 : Int) + q4) - (0 : Int))) then (((0 : Int) + (q5.length : Int)) - ((0 : Int) + q4)) else (((0 : Int) + q4) - (0 : Int))).toNat ++ q5.drop (((0 : Int) + q4).toNat + (bif decide ((((0 : Int) + (q5.length : Int)) - ((0 : Int) + q4)) ≤ (((0 : Int) + q4) - (0 : Int))) then (((0 : Int) + (q5.length : Int)) - ((0 : Int) + q4)) else (((0 : Int) + q4) - (0 : Int))).toNat)) else none) else none) else some q5)
def f243_l3 (K : Nat) (a0 : List Int) (a1 : Int) (y1 : Int × Int) (n : Nat) (q4 : Int) (q5 : List Int) : Option (List Int) :=
  iter (X := Int × List Int) (fun L x => (fun L3 => f243_b3 K a0 a1 y1 L3 x.1 x.2) (fun v0 v1 => L (v0, v1))) n (q4, q5)
def f243_fr3 (a0 : List Int) (a1 : Int) (y1 : Int × Int) (q4 : Int) (q5 : List Int) : Fr := ⟨48, [(0, .v false [.row 0]), (1, .v false [.int .i64 a1]), (4, .v false [.row 1]), (5, .v false [.int .u64 y1.1]), (6, .v false [.int .u64 y1.2]), (7, .v false [.row 2]), (8, .v false [.int .i64 q4]), (10, .v false [.bool (decide (a1 < (0 : Int)))]), (26, .v false [.bool (bif (decide (y1.1 > (0 : Int))) then true else (decide (y1.2 > (9223372036854775807 : Int))))])], [], [some ⟨2, sI, a0, .ro⟩, some ⟨2, sI, [], .own⟩, some ⟨2, sI, q5, .own⟩]⟩
def f243_k3 (K : Nat) (a0 : List Int) (a1 : Int) (lr : LR (List Int)) : Ex → Fr → Option (List Int) :=
  contC (f243E K) 1 lr f243C [1, 1, 1, 1, 1, 1, 0, 0] (finK (f243E K) Tryz.f243 [(.ro, (.list 2 sI)), (.ro, sI)] [(.list 2 sI)] (a0, a1, ()))
def f243_g (K : Nat) (a0 : List Int) (a1 : Int) (I3 : tV → Int → (List Int) → Option (List Int)) : Option (List Int) :=
  (bif (decide (a1 < (0 : Int))) then none else (f321G K (IntKind.u64.wrap (a0.length : Int)) (IntKind.u64.wrap a1)).bind fun y1 => (bif ((!(!(decide (y1.1 > (0 : Int))))) || true) then (bif ((!(!(decide (y1.1 > (0 : Int))))) || true) then (bif (bif (decide (y1.1 > (0 : Int))) then true else (decide (y1.2 > (9223372036854775807 : Int)))) then none else (bif (decide (0 ≤ (w y1.2)) && Nat.ble (w y1.2).toNat (lim 8) && ((w y1.2) == (w y1.2))) then I3 y1 (bif decide (((List.replicate (w y1.2).toNat (0 : Int)).length : Int) ≤ (a0.length : Int)) then ((List.replicate (w y1.2).toNat (0 : Int)).length : Int) else (a0.length : Int)) ((List.replicate (w y1.2).toNat (0 : Int)).take 0 ++ ((a0.take ((0 : Int) + (a0.length : Int)).toNat).drop 0).take (bif decide (((List.replicate (w y1.2).toNat (0 : Int)).length : Int) ≤ (a0.length : Int)) then ((List.replicate (w y1.2).toNat (0 : Int)).length : Int) else (a0.length : Int)).toNat ++ (List.replicate (w y1.2).toNat (0 : Int)).drop (0 + (bif decide (((List.replicate (w y1.2).toNat (0 : Int)).length : Int) ≤ (a0.length : Int)) then ((List.replicate (w y1.2).toNat (0 : Int)).length : Int) else (a0.length : Int)).toNat)) else none)) else none) else none))
def f243G (K : Nat) (a0 : List Int) (a1 : Int) : Option (List Int) :=
  f243_g K a0 a1 (fun c0 d0 d1 => f243_l3 K a0 a1 c0 K d0 d1)
def f243M (K : Nat) : Mdl := ⟨[(.ro, (.list 2 sI)), (.ro, sI)], [(.list 2 sI)], fun x => f243G K x.1 x.2.1⟩
def f207C : Code := codeOf Tryz.f207
def f207E (K : Nat) : Env := ⟨[], tys, eqs, mts, K, [0, 1, 2, 3, 4, 5, 8, 9, 10, 13, 14, 15], [], []⟩
def f207_b9 (K : Nat) (a0 : Int × Int × Int) (q7 : Int) (L6 L9 : Int → (List tV) → Option (List tV)) (q10 : Int) (q11 : List tV) : Option (List tV) :=
  (bif (decide (q10 < a0.2.2)) then (bif (Nat.ble (q11.length + [(q7, q10)].length) (lim 16)) then L9 (w (q10 + (1 : Int))) (q11 ++ [(q7, q10)]) else none) else L6 (w (q7 + (1 : Int))) q11)
def f207_l9 (K : Nat) (a0 : Int × Int × Int) (q7 : Int) (L6 : Int → (List tV) → Option (List tV)) (n : Nat) (q10 : Int) (q11 : List tV) : Option (List tV) :=
  iter (X := Int × List tV) (fun L x => (fun L9 => f207_b9 K a0 q7 L6 L9 x.1 x.2) (fun v0 v1 => L (v0, v1))) n (q10, q11)
def f207_fr9 (a0 : Int × Int × Int) (q7 q10 : Int) (q11 : List tV) : Fr := ⟨26, [(0, .v true [.int .i64 a0.1, .int .i64 a0.2.1, .int .i64 a0.2.2]), (1, .v false [.box 0 0]), (2, .v false [.row 0]), (3, .v false [.row 1]), (4, .v false [.int .i64 q7]), (8, .v false [.int .i64 a0.1]), (9, .v false [.int .i64 q7]), (10, .v false [.bool (decide (q7 < a0.1))]), (13, .v false [.int .i64 a0.2.2]), (14, .v false [.int .i64 q10])], [some ⟨true, [.int .i64 a0.1, .int .i64 a0.2.1, .int .i64 a0.2.2]⟩], [some ⟨79, sV, [], .own⟩, some ⟨79, sV, q11, .own⟩]⟩
def f207_b6 (K : Nat) (a0 : Int × Int × Int) (I9 : Int → Int → (List tV) → Option (List tV)) (L6 : Int → (List tV) → Option (List tV)) (q7 : Int) (q8 : List tV) : Option (List tV) :=
  (bif (decide (q7 < a0.1)) then I9 q7 (0 : Int) q8 else some q8)
def f207_l6 (K : Nat) (a0 : Int × Int × Int) (n : Nat) (q7 : Int) (q8 : List tV) : Option (List tV) :=
  iter (X := Int × List tV) (fun L x => (fun L6 => f207_b6 K a0 (fun c0 d0 d1 => f207_l9 K a0 c0 L6 K d0 d1) L6 x.1 x.2) (fun v0 v1 => L (v0, v1))) n (q7, q8)
def f207_fr6 (a0 : Int × Int × Int) (q7 : Int) (q8 : List tV) : Fr := ⟨26, [(0, .v true [.int .i64 a0.1, .int .i64 a0.2.1, .int .i64 a0.2.2]), (1, .v false [.box 0 0]), (2, .v false [.row 0]), (3, .v false [.row 1]), (8, .v false [.int .i64 a0.1]), (9, .v false [.int .i64 q7])], [some ⟨true, [.int .i64 a0.1, .int .i64 a0.2.1, .int .i64 a0.2.2]⟩], [some ⟨79, sV, [], .own⟩, some ⟨79, sV, q8, .own⟩]⟩
def f207_k6 (K : Nat) (a0 : Int × Int × Int) (lr : LR (List tV)) : Ex → Fr → Option (List tV) :=
  contC (f207E K) 0 lr f207C [1, 1, 0, 1, 0] (finK (f207E K) Tryz.f207 [(.ro, sL)] [(.list 79 sV)] (a0, ()))
def f207_k9 (K : Nat) (a0 : Int × Int × Int) (F6 : Fr → Option (List tV)) (bq7 : Int) (bq8 : List tV) (lr : LR (List tV)) : Ex → Fr → Option (List tV) :=
  contC (f207E K) 0 lr (selC f207C [1, 1, 0, 1, 0, 0]) [1, 1, 0, 0, 1, 1, 0] (loopK 0 (f207_fr6 a0 bq7 bq8) F6 (f207_k6 K a0 lr))
def f207_g (K : Nat) (a0 : Int × Int × Int) (I6 : Int → (List tV) → Option (List tV)) : Option (List tV) :=
  I6 (0 : Int) []
def f207G (K : Nat) (a0 : Int × Int × Int) : Option (List tV) :=
  f207_g K a0 (fun d0 d1 => f207_l6 K a0 K d0 d1)
def f207M (K : Nat) : Mdl := ⟨[(.ro, sL)], [(.list 79 sV)], fun x => f207G K x.1⟩
def f130E (K : Nat) : Env := ⟨[], tys, eqs, mts, K, [0, 1, 2, 3, 4], [], []⟩
def f130G (K : Nat) (a0 : Int × Int × Int) (a1 : Int × Int) : Option Int :=
  some (w ((w (a1.1 * a0.2.2)) + a1.2))
def f130M (K : Nat) : Mdl := ⟨[(.ro, sL), (.ro, sV)], [sI], fun x => f130G K x.1 x.2.1⟩
def f191E (K : Nat) : Env := ⟨[(288, f288M K), (289, f289M K)], tys, eqs, mts, K, [0, 1, 2, 3, 4], [], []⟩
def f191G (K : Nat) (a0 : tA × Int × Int) (a1 : Int × Int) : Option tV :=
  (f288G K a0.1 a1).bind fun y1 => (f289G K y1 a0.2).bind fun y2 => some y2
def f191M (K : Nat) : Mdl := ⟨[(.ro, sM), (.ro, sV)], [sV], fun x => f191G K x.1 x.2.1⟩
def f267E (K : Nat) : Env := ⟨[(161, f161M K), (191, f191M K)], tys, eqs, mts, K, [0, 1, 2, 3, 4, 5, 6], [], []⟩
def f267G (K : Nat) (a0 : Int × Int × Int) (a1 : tA × Int × Int) (a2 : Int × Int) : Option tV :=
  (f191G K a1 a2).bind fun y1 => (f161G K a0 y1).bind fun y2 => some y2
def f267M (K : Nat) : Mdl := ⟨[(.ro, sL), (.ro, sM), (.ro, sV)], [sV], fun x => f267G K x.1 x.2.1 x.2.2.1⟩
def f268G (K : Nat) (a0 : List tV) (a1 : tV → tV → Option Int) : Option (List tV) := sortF sV a0 a1
def f268M (K : Nat) : Mdl := ⟨[(.io, (.list 79 sV)), (.ro, (.fn2 sV sV sI))], [], fun x => f268G K x.1 x.2.1⟩
def f270C : Code := codeOf Tryz.f270
def f270E (K : Nat) : Env := ⟨[], tys, eqs, mts, K, [0, 2, 3, 4, 5, 8, 13, 25, 32, 44], [], []⟩
def f270_b9 (K : Nat) (a0 : List tV) (q8 : Int) (L9 : Int → Int → (List tV) → Option (List tV)) (q10 q11 : Int) (q12 : List tV) : Option (List tV) :=
  (bif (decide (q11 < (((0 : Int) + (a0.length : Int)) - ((0 : Int) + q8)))) then (bif (decide (0 ≤ q11) && decide (q11 < (((0 : Int) + (a0.length : Int)) - ((0 : Int) + q8)))) then (bif (decide (0 ≤ (w (q11 - (1 : Int)))) && decide ((w (q11 - (1 : Int))) < (((0 : Int) + (a0.length : Int)) - ((0 : Int) + q8)))) then (bif (!(((q12.getD (((0 : Int) + q8) + q11).toNat ((0 : Int), (0 : Int))).1 == (q12.getD (((0 : Int) + q8) + (w (q11 - (1 : Int)))).toNat ((0 : Int), (0 : Int))).1) && ((q12.getD (((0 : Int) + q8) + q11).toNat ((0 : Int), (0 : Int))).2 == (q12.getD (((0 : Int) + q8) + (w (q11 - (1 : Int)))).toNat ((0 : Int), (0 : Int))).2))) then (bif (decide (0 ≤ q11) && decide (q11 < (((0 : Int) + (a0.length : Int)) - ((0 : Int) + q8)))) then (bif (decide (0 ≤ q10) && decide (q10 < (q12.length : Int))) then L9 (w (q10 + (1 : Int))) (w (q11 + (1 : Int))) (q12.set ((0 : Int) + q10).toNat (q12.getD (((0 : Int) + q8) + q11).toNat ((0 : Int), (0 : Int)))) else none) else none) else L9 q10 (w (q11 + (1 : Int))) q12) else none) else none) else (bif (decide (0 ≤ q10) && decide (q10 ≤ (q12.length : Int)) && decide ((q12.length : Int) ≤ (q12.length : Int))) then (bif (decide (0 ≤ (0 : Int)) && decide ((0 : Int) ≤ q10) && decide (q10 ≤ ((clr q12 ((0 : Int) + q10).toNat (((0 : Int) + q10) + (((0 : Int) + (q12.length : Int)) - ((0 : Int) + q10))).toNat ((0 : Int), (0 : Int))).length : Int))) then some ((clr q12 ((0 : Int) + q10).toNat (((0 : Int) + q10) + (((0 : Int) + (q12.length : Int)) - ((0 : Int) + q10))).toNat ((0 : Int), (0 : Int))).take ((0 : Int) + q10).toNat) else none) else none))
def f270_l9 (K : Nat) (a0 : List tV) (q8 : Int) (n : Nat) (q10 q11 : Int) (q12 : List tV) : Option (List tV) :=
  iter (X := Int × Int × List tV) (fun L x => (fun L9 => f270_b9 K a0 q8 L9 x.1 x.2.1 x.2.2) (fun v0 v1 v2 => L (v0, v1, v2))) n (q10, q11, q12)
def f270_fr9 (a0 : List tV) (q8 q10 q11 : Int) (q12 : List tV) : Fr := ⟨61, [(0, .v false [.row 0]), (2, .v false [.row 1]), (3, .v false [.int .i64 q10]), (4, .v false [.view 0 ((0 : Int) + q8) ((0 : Int) + (a0.length : Int))]), (5, .v false [.int .i64 q11]), (8, .v false [.bool (decide ((a0.length : Int) < (2 : Int)))]), (13, .v false [.bool (decide (q8 < (a0.length : Int)))]), (25, .v false [.bool (((a0.getD ((0 : Int) + q8).toNat ((0 : Int), (0 : Int))).1 == (a0.getD ((0 : Int) + (w (q8 - (1 : Int)))).toNat ((0 : Int), (0 : Int))).1) && ((a0.getD ((0 : Int) + q8).toNat ((0 : Int), (0 : Int))).2 == (a0.getD ((0 : Int) + (w (q8 - (1 : Int)))).toNat ((0 : Int), (0 : Int))).2))])], [], [some ⟨79, sV, q12, .own⟩, some ⟨79, sV, [], .own⟩]⟩
def f270_b7 (K : Nat) (a0 : List tV) (I9 : Int → Int → Int → (List tV) → Option (List tV)) (L7 : Int → Option (List tV)) (q8 : Int) : Option (List tV) :=
  (bif (decide (q8 < (a0.length : Int))) then (bif (decide (0 ≤ q8) && decide (q8 < (a0.length : Int))) then (bif (decide (0 ≤ (w (q8 - (1 : Int)))) && decide ((w (q8 - (1 : Int))) < (a0.length : Int))) then (bif (((a0.getD ((0 : Int) + q8).toNat ((0 : Int), (0 : Int))).1 == (a0.getD ((0 : Int) + (w (q8 - (1 : Int)))).toNat ((0 : Int), (0 : Int))).1) && ((a0.getD ((0 : Int) + q8).toNat ((0 : Int), (0 : Int))).2 == (a0.getD ((0 : Int) + (w (q8 - (1 : Int)))).toNat ((0 : Int), (0 : Int))).2)) then (bif (decide (0 ≤ q8) && decide (q8 ≤ (a0.length : Int)) && decide ((a0.length : Int) ≤ (a0.length : Int))) then I9 q8 q8 (1 : Int) a0 else none) else L7 (w (q8 + (1 : Int)))) else none) else none) else some a0)
def f270_l7 (K : Nat) (a0 : List tV) (n : Nat) (q8 : Int) : Option (List tV) :=
  iter (X := Int) (fun L x => (fun L7 => f270_b7 K a0 (fun c0 d0 d1 d2 => f270_l9 K a0 c0 K d0 d1 d2) L7 x) (fun v0 => L v0)) n q8
def f270_fr7 (a0 : List tV) (q8 : Int) : Fr := ⟨61, [(0, .v false [.row 0]), (2, .v false [.row 1]), (3, .v false [.int .i64 q8]), (8, .v false [.bool (decide ((a0.length : Int) < (2 : Int)))])], [], [some ⟨79, sV, a0, .own⟩, some ⟨79, sV, [], .own⟩]⟩
def f270_k7 (K : Nat) (a0 : List tV) (lr : LR (List tV)) : Ex → Fr → Option (List tV) :=
  contC (f270E K) 1 lr f270C [1, 1, 0, 1, 0] (finK (f270E K) Tryz.f270 [(.mv, (.list 79 sV))] [(.list 79 sV)] (a0, ()))
def f270_k9 (K : Nat) (a0 : List tV) (F7 : Fr → Option (List tV)) (bq8 : Int) (lr : LR (List tV)) : Ex → Fr → Option (List tV) :=
  contC (f270E K) 1 lr (selC f270C [1, 1, 0, 1, 0, 0]) [1, 0, 0, 1, 0, 1, 0, 1, 0] (loopK 1 (f270_fr7 a0 bq8) F7 (f270_k7 K a0 lr))
def f270_g (K : Nat) (a0 : List tV) (I7 : Int → Option (List tV)) : Option (List tV) :=
  (bif (decide ((a0.length : Int) < (2 : Int))) then some a0 else I7 (1 : Int))
def f270G (K : Nat) (a0 : List tV) : Option (List tV) :=
  f270_g K a0 (fun d0 => f270_l7 K a0 K d0)
def f270M (K : Nat) : Mdl := ⟨[(.mv, (.list 79 sV))], [(.list 79 sV)], fun x => f270G K x.1⟩
def f171C : Code := codeOf Tryz.f171
def f171E (K : Nat) : Env := ⟨[(267, f267M K), (268, f268M K), (269, f269M K), (270, f270M K)], tys, eqs, mts, K, [0, 1, 2, 3, 5, 6, 7, 9, 11, 12, 13, 14], [], []⟩
def f171_b3 (K : Nat) (a0 : Int × Int × Int) (a1 : List tM) (a2 : Int × Int) (L3 : Int → (List tV) → Option (List tV)) (q4 : Int) (q5 : List tV) : Option (List tV) :=
  (bif (decide (q4 < (a1.length : Int))) then (bif (decide (0 ≤ q4) && decide (q4 < (a1.length : Int))) then (f267G K a0 ((((a1.getD ((0 : Int) + q4).toNat zM).1).1, (((a1.getD ((0 : Int) + q4).toNat zM).1).2).1, ((((a1.getD ((0 : Int) + q4).toNat zM).1).2).2)), ((a1.getD ((0 : Int) + q4).toNat zM).2)) a2).bind fun y6 => (bif (Nat.ble (q5.length + [y6].length) (lim 16)) then L3 (w (q4 + (1 : Int))) (q5 ++ [y6]) else none) else none) else (f268G K q5 (fun z7 z8 => f269G K z7 z8)).bind fun y9 => (f270G K y9).bind fun y10 => some y10)
def f171_l3 (K : Nat) (a0 : Int × Int × Int) (a1 : List tM) (a2 : Int × Int) (n : Nat) (q4 : Int) (q5 : List tV) : Option (List tV) :=
  iter (X := Int × List tV) (fun L x => (fun L3 => f171_b3 K a0 a1 a2 L3 x.1 x.2) (fun v0 v1 => L (v0, v1))) n (q4, q5)
def f171_fr3 (a0 : Int × Int × Int) (a1 : List tM) (a2 : Int × Int) (q4 : Int) (q5 : List tV) : Fr := ⟨29, [(0, .v true [.int .i64 a0.1, .int .i64 a0.2.1, .int .i64 a0.2.2]), (1, .v false [.row 0]), (2, .v true [.int .i64 a2.1, .int .i64 a2.2]), (3, .v false [.box 0 0]), (5, .v false [.box 1 0]), (6, .v false [.row 1]), (7, .v false [.row 2]), (11, .v false [.row 0]), (12, .v false [.int .i64 (a1.length : Int)]), (13, .v false [.int .i64 q4])], [some ⟨true, [.int .i64 a0.1, .int .i64 a0.2.1, .int .i64 a0.2.2]⟩, some ⟨true, [.int .i64 a2.1, .int .i64 a2.2]⟩], [some ⟨95, sM, a1, .ro⟩, some ⟨79, sV, [], .own⟩, some ⟨79, sV, q5, .own⟩]⟩
def f171_k3 (K : Nat) (a0 : Int × Int × Int) (a1 : List tM) (a2 : Int × Int) (lr : LR (List tV)) : Ex → Fr → Option (List tV) :=
  contC (f171E K) 1 lr f171C [1, 1, 0, 1, 0] (finK (f171E K) Tryz.f171 [(.ro, sL), (.ro, (.list 95 sM)), (.ro, sV)] [(.list 79 sV)] (a0, a1, a2, ()))
def f171_g (K : Nat) (a0 : Int × Int × Int) (a1 : List tM) (a2 : Int × Int) (I3 : Int → (List tV) → Option (List tV)) : Option (List tV) :=
  I3 (0 : Int) []
def f171G (K : Nat) (a0 : Int × Int × Int) (a1 : List tM) (a2 : Int × Int) : Option (List tV) :=
  f171_g K a0 a1 a2 (fun d0 d1 => f171_l3 K a0 a1 a2 K d0 d1)
def f171M (K : Nat) : Mdl := ⟨[(.ro, sL), (.ro, (.list 95 sM)), (.ro, sV)], [(.list 79 sV)], fun x => f171G K x.1 x.2.1 x.2.2.1⟩
def f128C : Code := codeOf Tryz.f128
def f128E (K : Nat) : Env := ⟨[(130, f130M K), (171, f171M K), (207, f207M K), (238, f238M K), (243, f243M K)], tys, eqs, mts, K, [0, 1, 2, 4, 5, 6, 7, 9, 10, 12, 19, 20, 21, 22, 31, 36, 37, 38, 39], [], []⟩
def f128_b22 (K : Nat) (a0 : Int × Int × Int) (a1 : List tM) (q17 : Int) (q18 : List (List tV)) (q19 : List Int) (y3 : List tV) (y20 : Int) (y21 : List tV) (L16 : Int → (List (List tV)) → (List Int) → Option ((List (List tV)) × List Int)) (L22 : Int → (List Int) → Option ((List (List tV)) × List Int)) (q23 : Int) (q24 : List Int) : Option ((List (List tV)) × List Int) :=
  (bif (decide (q23 < (y21.length : Int))) then (bif (decide (0 ≤ q23) && decide (q23 < (y21.length : Int))) then (f130G K a0 (y21.getD ((0 : Int) + q23).toNat ((0 : Int), (0 : Int)))).bind fun y25 => (bif (decide (0 ≤ y25) && decide (y25 < (q24.length : Int))) then L22 (w (q23 + (1 : Int))) (q24.set ((0 : Int) + y25).toNat (q18.length : Int)) else none) else none) else (bif (Nat.ble (q18.length + [y21].length) (lim 24)) then L16 (w (q17 + (1 : Int))) (q18 ++ [y21]) q24 else none))
def f128_l22 (K : Nat) (a0 : Int × Int × Int) (a1 : List tM) (q17 : Int) (q18 : List (List tV)) (q19 : List Int) (y3 : List tV) (y20 : Int) (y21 : List tV) (L16 : Int → (List (List tV)) → (List Int) → Option ((List (List tV)) × List Int)) (n : Nat) (q23 : Int) (q24 : List Int) : Option ((List (List tV)) × List Int) :=
  iter (X := Int × List Int) (fun L x => (fun L22 => f128_b22 K a0 a1 q17 q18 q19 y3 y20 y21 L16 L22 x.1 x.2) (fun v0 v1 => L (v0, v1))) n (q23, q24)
def f128_fr22 (a0 : Int × Int × Int) (a1 : List tM) (q17 : Int) (q18 : List (List tV)) (q19 : List Int) (y3 : List tV) (y20 : Int) (y21 : List tV) (q23 : Int) (q24 : List Int) : Fr := ⟨57, [(0, .v true [.int .i64 a0.1, .int .i64 a0.2.1, .int .i64 a0.2.2]), (1, .v false [.row 0]), (2, .v false [.box 0 0]), (4, .v false [.row 1]), (5, .v false [.row 2]), (6, .v false [.row 3]), (7, .v false [.row 4]), (9, .v false [.box 1 0]), (10, .v false [.row 5]), (19, .v false [.row 6]), (20, .v false [.int .i64 (y3.length : Int)]), (21, .v false [.int .i64 q17]), (22, .v false [.bool (decide (q17 < (y3.length : Int)))]), (31, .v false [.bool (decide ((q19.getD ((0 : Int) + y20).toNat (0 : Int)) ≥ (0 : Int)))]), (36, .v false [.row 5]), (37, .v false [.int .i64 (y21.length : Int)]), (38, .v false [.int .i64 q23])], [some ⟨true, [.int .i64 a0.1, .int .i64 a0.2.1, .int .i64 a0.2.2]⟩, some ⟨true, [.int .i64 ((y3.getD ((0 : Int) + q17).toNat ((0 : Int), (0 : Int))).1), .int .i64 ((y3.getD ((0 : Int) + q17).toNat ((0 : Int), (0 : Int))).2)]⟩], [some ⟨95, sM, a1, .ro⟩, some ⟨84, (.list 79 sV), [], .own⟩, some ⟨2, sI, [], .own⟩, some ⟨84, (.list 79 sV), q18, .own⟩, some ⟨2, sI, q24, .own⟩, some ⟨79, sV, y21, .own⟩, some ⟨79, sV, y3, .own⟩]⟩
def f128_b16 (K : Nat) (a0 : Int × Int × Int) (a1 : List tM) (y3 : List tV) (I22 : Int → (List (List tV)) → (List Int) → Int → (List tV) → Int → (List Int) → Option ((List (List tV)) × List Int)) (L16 : Int → (List (List tV)) → (List Int) → Option ((List (List tV)) × List Int)) (q17 : Int) (q18 : List (List tV)) (q19 : List Int) : Option ((List (List tV)) × List Int) :=
  (bif (decide (q17 < (y3.length : Int))) then (bif (decide (0 ≤ q17) && decide (q17 < (y3.length : Int))) then (f130G K a0 (y3.getD ((0 : Int) + q17).toNat ((0 : Int), (0 : Int)))).bind fun y20 => (bif (decide (0 ≤ y20) && decide (y20 < (q19.length : Int))) then (bif (decide ((q19.getD ((0 : Int) + y20).toNat (0 : Int)) ≥ (0 : Int))) then L16 (w (q17 + (1 : Int))) q18 q19 else (f171G K a0 a1 (y3.getD ((0 : Int) + q17).toNat ((0 : Int), (0 : Int)))).bind fun y21 => I22 q17 q18 q19 y20 y21 (0 : Int) q19) else none) else none) else some (q18, q19))
def f128_l16 (K : Nat) (a0 : Int × Int × Int) (a1 : List tM) (y3 : List tV) (n : Nat) (q17 : Int) (q18 : List (List tV)) (q19 : List Int) : Option ((List (List tV)) × List Int) :=
  iter (X := Int × List (List tV) × List Int) (fun L x => (fun L16 => f128_b16 K a0 a1 y3 (fun c0 c1 c2 c3 c4 d0 d1 => f128_l22 K a0 a1 c0 c1 c2 y3 c3 c4 L16 K d0 d1) L16 x.1 x.2.1 x.2.2) (fun v0 v1 v2 => L (v0, v1, v2))) n (q17, q18, q19)
def f128_fr16 (a0 : Int × Int × Int) (a1 : List tM) (y3 : List tV) (q17 : Int) (q18 : List (List tV)) (q19 : List Int) : Fr := ⟨57, [(0, .v true [.int .i64 a0.1, .int .i64 a0.2.1, .int .i64 a0.2.2]), (1, .v false [.row 0]), (2, .v false [.box 0 0]), (4, .v false [.row 1]), (5, .v false [.row 2]), (6, .v false [.row 3]), (7, .v false [.row 4]), (19, .v false [.row 5]), (20, .v false [.int .i64 (y3.length : Int)]), (21, .v false [.int .i64 q17])], [some ⟨true, [.int .i64 a0.1, .int .i64 a0.2.1, .int .i64 a0.2.2]⟩], [some ⟨95, sM, a1, .ro⟩, some ⟨84, (.list 79 sV), [], .own⟩, some ⟨2, sI, [], .own⟩, some ⟨84, (.list 79 sV), q18, .own⟩, some ⟨2, sI, q19, .own⟩, some ⟨79, sV, y3, .own⟩]⟩
def f128_k16 (K : Nat) (a0 : Int × Int × Int) (a1 : List tM) (lr : LR ((List (List tV)) × List Int)) : Ex → Fr → Option ((List (List tV)) × List Int) :=
  contC (f128E K) 1 lr f128C [1, 1, 0, 1, 0] (finK (f128E K) Tryz.f128 [(.ro, sL), (.ro, (.list 95 sM))] [(.list 84 (.list 79 sV)), (.list 2 sI)] (a0, a1, ()))
def f128_k22 (K : Nat) (a0 : Int × Int × Int) (a1 : List tM) (y3 : List tV) (F16 : Fr → Option ((List (List tV)) × List Int)) (bq17 : Int) (bq18 : List (List tV)) (bq19 : List Int) (lr : LR ((List (List tV)) × List Int)) : Ex → Fr → Option ((List (List tV)) × List Int) :=
  contC (f128E K) 1 lr (selC f128C [1, 1, 0, 1, 0, 0]) [1, 1, 0, 0, 1, 1, 1, 0, 1, 0] (loopK 1 (f128_fr16 a0 a1 y3 bq17 bq18 bq19) F16 (f128_k16 K a0 a1 lr))
def f128_g (K : Nat) (a0 : Int × Int × Int) (a1 : List tM) (I16 : (List tV) → Int → (List (List tV)) → (List Int) → Option ((List (List tV)) × List Int)) : Option ((List (List tV)) × List Int) :=
  (f238G K a0).bind fun y1 => (f243G K [(-1 : Int)] y1).bind fun y2 => (f207G K a0).bind fun y3 => I16 y3 (0 : Int) [] y2
def f128G (K : Nat) (a0 : Int × Int × Int) (a1 : List tM) : Option ((List (List tV)) × List Int) :=
  f128_g K a0 a1 (fun c0 d0 d1 d2 => f128_l16 K a0 a1 c0 K d0 d1 d2)
def f128M (K : Nat) : Mdl := ⟨[(.ro, sL), (.ro, (.list 95 sM))], [(.list 84 (.list 79 sV)), (.list 2 sI)], fun x => f128G K x.1 x.2.1⟩
def f254E (K : Nat) : Env := ⟨[(130, f130M K), (161, f161M K)], tys, eqs, mts, K, [0, 1, 2, 3, 4], [], []⟩
def f254G (K : Nat) (a0 : tV × Int) (a1 : List Int) (a2 : Int × Int × Int) : Option Int :=
  (f161G K a2 a0.1).bind fun y1 => (f130G K a2 y1).bind fun y2 => (bif (decide (0 ≤ y2) && decide (y2 < (a1.length : Int))) then some (a1.getD ((0 : Int) + y2).toNat (0 : Int)) else none)
def f254M (K : Nat) : Mdl := ⟨[(.ro, (.cons sV sI)), (.cap, (.list 2 sI)), (.cap, sL)], [sI], fun x => f254G K x.1 x.2.1 x.2.2.1⟩
def f148C : Code := codeOf Tryz.f148
def f148E (K : Nat) : Env := ⟨[(128, f128M K), (254, f254M K)], tys, eqs, mts, K, [0, 1, 2, 3, 6, 7, 8, 10, 11, 12, 13, 14, 15, 23, 24, 25, 26, 32, 33, 34, 35, 52], [], []⟩
def f148_b12 (K : Nat) (a0 : Int × Int × Int) (a1 : List tM) (a2 : List (tV × Int)) (q11 : Int) (y1 : (List (List tV)) × List Int) (L10 L12 : Int → Option (Int × Int × Bool)) (q13 : Int) : Option (Int × Int × Bool) :=
  (bif (decide (q13 < (((0 : Int) + q11) - (0 : Int)))) then (bif (decide (0 ≤ q13) && decide (q13 < (((0 : Int) + q11) - (0 : Int)))) then (bif ((!((a2.getD ((0 : Int) + q13).toNat (((0 : Int), (0 : Int)), (0 : Int))).2 != (a2.getD ((0 : Int) + q11).toNat (((0 : Int), (0 : Int)), (0 : Int))).2)) || true) then (bif ((!((a2.getD ((0 : Int) + q13).toNat (((0 : Int), (0 : Int)), (0 : Int))).2 != (a2.getD ((0 : Int) + q11).toNat (((0 : Int), (0 : Int)), (0 : Int))).2)) || true) then ((bif ((a2.getD ((0 : Int) + q13).toNat (((0 : Int), (0 : Int)), (0 : Int))).2 != (a2.getD ((0 : Int) + q11).toNat (((0 : Int), (0 : Int)), (0 : Int))).2) then f254G K (((a2.getD ((0 : Int) + q13).toNat (((0 : Int), (0 : Int)), (0 : Int))).1), (a2.getD ((0 : Int) + q13).toNat (((0 : Int), (0 : Int)), (0 : Int))).2) y1.2 a0 else some (0 : Int))).bind fun y14 => (bif ((!((a2.getD ((0 : Int) + q13).toNat (((0 : Int), (0 : Int)), (0 : Int))).2 != (a2.getD ((0 : Int) + q11).toNat (((0 : Int), (0 : Int)), (0 : Int))).2)) || true) then (bif ((!((a2.getD ((0 : Int) + q13).toNat (((0 : Int), (0 : Int)), (0 : Int))).2 != (a2.getD ((0 : Int) + q11).toNat (((0 : Int), (0 : Int)), (0 : Int))).2)) || true) then ((bif ((a2.getD ((0 : Int) + q13).toNat (((0 : Int), (0 : Int)), (0 : Int))).2 != (a2.getD ((0 : Int) + q11).toNat (((0 : Int), (0 : Int)), (0 : Int))).2) then f254G K (((a2.getD ((0 : Int) + q11).toNat (((0 : Int), (0 : Int)), (0 : Int))).1), (a2.getD ((0 : Int) + q11).toNat (((0 : Int), (0 : Int)), (0 : Int))).2) y1.2 a0 else some (0 : Int))).bind fun y15 => (bif ((!((a2.getD ((0 : Int) + q13).toNat (((0 : Int), (0 : Int)), (0 : Int))).2 != (a2.getD ((0 : Int) + q11).toNat (((0 : Int), (0 : Int)), (0 : Int))).2)) || true) then (bif (bif ((a2.getD ((0 : Int) + q13).toNat (((0 : Int), (0 : Int)), (0 : Int))).2 != (a2.getD ((0 : Int) + q11).toNat (((0 : Int), (0 : Int)), (0 : Int))).2) then (y14 == y15) else false) then some (q13, q11, true) else L12 (w (q13 + (1 : Int)))) else none) else none) else none) else none) else none) else none) else L10 (w (q11 + (1 : Int))))
def f148_l12 (K : Nat) (a0 : Int × Int × Int) (a1 : List tM) (a2 : List (tV × Int)) (q11 : Int) (y1 : (List (List tV)) × List Int) (L10 : Int → Option (Int × Int × Bool)) (n : Nat) (q13 : Int) : Option (Int × Int × Bool) :=
  iter (X := Int) (fun L x => (fun L12 => f148_b12 K a0 a1 a2 q11 y1 L10 L12 x) (fun v0 => L v0)) n q13
def f148_fr12 (a0 : Int × Int × Int) (a1 : List tM) (a2 : List (tV × Int)) (q11 : Int) (y1 : (List (List tV)) × List Int) (q13 : Int) : Fr := ⟨57, [(0, .v true [.int .i64 a0.1, .int .i64 a0.2.1, .int .i64 a0.2.2]), (1, .v false [.row 0]), (2, .v false [.row 1]), (3, .v false [.box 0 0]), (6, .v false [.int .i64 (0 : Int)]), (7, .v false [.int .i64 (0 : Int)]), (8, .v false [.bool false]), (10, .v false [.box 1 0]), (11, .v false [.fn 254 [1, 0]]), (12, .v false [.int .i64 q11]), (13, .v false [.box 2 0]), (23, .v false [.row 1]), (24, .v false [.int .i64 (a2.length : Int)]), (25, .v false [.int .i64 q11]), (26, .v false [.bool (decide (q11 < (a2.length : Int)))]), (32, .v false [.view 1 (0 : Int) ((0 : Int) + q11)]), (33, .v false [.int .i64 (((0 : Int) + q11) - (0 : Int))]), (34, .v false [.int .i64 q13])], [some ⟨true, [.int .i64 a0.1, .int .i64 a0.2.1, .int .i64 a0.2.2]⟩, some ⟨true, [.row 2]⟩, some ⟨true, [.int .i64 (((a2.getD ((0 : Int) + q11).toNat (((0 : Int), (0 : Int)), (0 : Int))).1).1), .int .i64 (((a2.getD ((0 : Int) + q11).toNat (((0 : Int), (0 : Int)), (0 : Int))).1).2), .int .i64 ((a2.getD ((0 : Int) + q11).toNat (((0 : Int), (0 : Int)), (0 : Int))).2)]⟩], [some ⟨95, sM, a1, .ro⟩, some ⟨133, (.cons sV sI), a2, .ro⟩, some ⟨2, sI, y1.2, .own⟩]⟩
def f148_b10 (K : Nat) (a0 : Int × Int × Int) (a1 : List tM) (a2 : List (tV × Int)) (y1 : (List (List tV)) × List Int) (I12 : Int → Int → Option (Int × Int × Bool)) (L10 : Int → Option (Int × Int × Bool)) (q11 : Int) : Option (Int × Int × Bool) :=
  (bif (decide (q11 < (a2.length : Int))) then (bif (decide (0 ≤ q11) && decide (q11 < (a2.length : Int))) then (bif (decide (0 ≤ (0 : Int)) && decide ((0 : Int) ≤ q11) && decide (q11 ≤ (a2.length : Int))) then I12 q11 (0 : Int) else none) else none) else some ((0 : Int), (0 : Int), false))
def f148_l10 (K : Nat) (a0 : Int × Int × Int) (a1 : List tM) (a2 : List (tV × Int)) (y1 : (List (List tV)) × List Int) (n : Nat) (q11 : Int) : Option (Int × Int × Bool) :=
  iter (X := Int) (fun L x => (fun L10 => f148_b10 K a0 a1 a2 y1 (fun c0 d0 => f148_l12 K a0 a1 a2 c0 y1 L10 K d0) L10 x) (fun v0 => L v0)) n q11
def f148_fr10 (a0 : Int × Int × Int) (a1 : List tM) (a2 : List (tV × Int)) (y1 : (List (List tV)) × List Int) (q11 : Int) : Fr := ⟨57, [(0, .v true [.int .i64 a0.1, .int .i64 a0.2.1, .int .i64 a0.2.2]), (1, .v false [.row 0]), (2, .v false [.row 1]), (3, .v false [.box 0 0]), (6, .v false [.int .i64 (0 : Int)]), (7, .v false [.int .i64 (0 : Int)]), (8, .v false [.bool false]), (10, .v false [.box 1 0]), (11, .v false [.fn 254 [1, 0]]), (23, .v false [.row 1]), (24, .v false [.int .i64 (a2.length : Int)]), (25, .v false [.int .i64 q11])], [some ⟨true, [.int .i64 a0.1, .int .i64 a0.2.1, .int .i64 a0.2.2]⟩, some ⟨true, [.row 2]⟩], [some ⟨95, sM, a1, .ro⟩, some ⟨133, (.cons sV sI), a2, .ro⟩, some ⟨2, sI, y1.2, .own⟩]⟩
def f148_k10 (K : Nat) (a0 : Int × Int × Int) (a1 : List tM) (a2 : List (tV × Int)) (lr : LR (Int × Int × Bool)) : Ex → Fr → Option (Int × Int × Bool) :=
  contC (f148E K) 2 lr f148C [1, 1, 1, 0, 1, 0] (finK (f148E K) Tryz.f148 [(.ro, sL), (.ro, (.list 95 sM)), (.ro, (.list 133 (.cons sV sI)))] [sI, sI, .bool] (a0, a1, a2, ()))
def f148_k12 (K : Nat) (a0 : Int × Int × Int) (a1 : List tM) (a2 : List (tV × Int)) (y1 : (List (List tV)) × List Int) (F10 : Fr → Option (Int × Int × Bool)) (bq11 : Int) (lr : LR (Int × Int × Bool)) : Ex → Fr → Option (Int × Int × Bool) :=
  contC (f148E K) 2 lr (selC f148C [1, 1, 1, 0, 1, 0, 0]) [1, 1, 0, 0, 1, 1, 0] (loopK 2 (f148_fr10 a0 a1 a2 y1 bq11) F10 (f148_k10 K a0 a1 a2 lr))
def f148_g (K : Nat) (a0 : Int × Int × Int) (a1 : List tM) (a2 : List (tV × Int)) (I10 : ((List (List tV)) × List Int) → Int → Option (Int × Int × Bool)) : Option (Int × Int × Bool) :=
  (f128G K a0 a1).bind fun y1 => I10 y1 (0 : Int)
def f148G (K : Nat) (a0 : Int × Int × Int) (a1 : List tM) (a2 : List (tV × Int)) : Option (Int × Int × Bool) :=
  f148_g K a0 a1 a2 (fun c0 d0 => f148_l10 K a0 a1 a2 c0 K d0)
def f148M (K : Nat) : Mdl := ⟨[(.ro, sL), (.ro, (.list 95 sM)), (.ro, (.list 133 (.cons sV sI)))], [sI, sI, .bool], fun x => f148G K x.1 x.2.1 x.2.2.1⟩
def f36C : Code := codeOf Tryz.f36
def f36E (K : Nat) : Env := ⟨[(86, f86M K), (95, f95M K), (146, f146M K), (147, f147M K), (148, f148M K)], tys, eqs, mts, K, [0, 1, 4, 5, 6, 8, 10, 11, 15, 23, 25, 26, 27, 28, 48], [], []⟩
def f36_b7 (K : Nat) (a0 : Int) (a1 : List (tV × Int)) (y1 y2 : Bool) (y3 : List ByteArray) (L7 : Int → (List ByteArray) → Option ((List ByteArray) × Int)) (q8 : Int) (q9 : List ByteArray) : Option ((List ByteArray) × Int) :=
  (bif (decide (q8 < (y3.length : Int))) then (bif (decide (0 ≤ q8) && decide (q8 < (y3.length : Int))) then (f86G K (y3.getD ((0 : Int) + q8).toNat ByteArray.empty) a0).bind fun y10 => (f148G K y10.2.1 y10.2.2.1 a1).bind fun y11 => (bif (!y11.2.2) then (bif (Nat.ble (q9.length + [(y3.getD ((0 : Int) + q8).toNat ByteArray.empty)].length) (lim 16)) then L7 (w (q8 + (1 : Int))) (q9 ++ [(y3.getD ((0 : Int) + q8).toNat ByteArray.empty)]) else none) else L7 (w (q8 + (1 : Int))) q9) else none) else some (q9, (0 : Int)))
def f36_l7 (K : Nat) (a0 : Int) (a1 : List (tV × Int)) (y1 y2 : Bool) (y3 : List ByteArray) (n : Nat) (q8 : Int) (q9 : List ByteArray) : Option ((List ByteArray) × Int) :=
  iter (X := Int × List ByteArray) (fun L x => (fun L7 => f36_b7 K a0 a1 y1 y2 y3 L7 x.1 x.2) (fun v0 v1 => L (v0, v1))) n (q8, q9)
def f36_fr7 (a0 : Int) (a1 : List (tV × Int)) (y1 y2 : Bool) (y3 : List ByteArray) (q8 : Int) (q9 : List ByteArray) : Fr := ⟨55, [(0, .v false [.int .i64 a0]), (1, .v false [.row 0]), (4, .v false [.row 1]), (5, .v false [.int .i64 (0 : Int)]), (6, .v false [.row 2]), (23, .v false [.bool (bif (!y1) then true else (!y2))]), (25, .v false [.row 3]), (26, .v false [.int .i64 (y3.length : Int)]), (27, .v false [.int .i64 q8])], [], [some ⟨133, (.cons sV sI), a1, .ro⟩, some ⟨9, .str, [], .own⟩, some ⟨9, .str, q9, .own⟩, some ⟨9, .str, y3, .own⟩]⟩
def f36_k7 (K : Nat) (a0 : Int) (a1 : List (tV × Int)) (lr : LR ((List ByteArray) × Int)) : Ex → Fr → Option ((List ByteArray) × Int) :=
  contC (f36E K) 1 lr f36C [1, 1, 1, 0, 1, 0] (finK (f36E K) Tryz.f36 [(.ro, sI), (.ro, (.list 133 (.cons sV sI)))] [(.list 9 .str), sI] (a0, a1, ()))
def f36_g (K : Nat) (a0 : Int) (a1 : List (tV × Int)) (I7 : Bool → Bool → (List ByteArray) → Int → (List ByteArray) → Option ((List ByteArray) × Int)) : Option ((List ByteArray) × Int) :=
  (f95G K a1).bind fun y1 => (bif ((!(!(!y1))) || true) then ((bif (!(!y1)) then f146G K a0 (1 : Int) (4 : Int) else some false)).bind fun y2 => (bif ((!(!(!y1))) || true) then (bif (bif (!y1) then true else (!y2)) then some ([], (2 : Int)) else (f147G K).bind fun y3 => I7 y1 y2 y3 (0 : Int) []) else none) else none)
def f36G (K : Nat) (a0 : Int) (a1 : List (tV × Int)) : Option ((List ByteArray) × Int) :=
  f36_g K a0 a1 (fun c0 c1 c2 d0 d1 => f36_l7 K a0 a1 c0 c1 c2 K d0 d1)
def f36M (K : Nat) : Mdl := ⟨[(.ro, sI), (.ro, (.list 133 (.cons sV sI)))], [(.list 9 .str), sI], fun x => f36G K x.1 x.2.1⟩
def f211E (K : Nat) : Env := ⟨[(141, f141M K)], tys, eqs, mts, K, [0, 1, 2], [], []⟩
def f211G (K : Nat) (a0 : Int × Int) : Option Bool :=
  (f141G K a0.1 (-1000 : Int) (1000 : Int)).bind fun y1 => (bif ((!y1) || true) then (bif ((!y1) || true) then ((bif y1 then f141G K a0.2 (-1000 : Int) (1000 : Int) else some false)).bind fun y2 => some (bif y1 then y2 else false) else none) else none)
def f211M (K : Nat) : Mdl := ⟨[(.ro, sV)], [.bool], fun x => f211G K x.1⟩
def f96C : Code := codeOf Tryz.f96
def f96E (K : Nat) : Env := ⟨[(141, f141M K), (211, f211M K)], tys, eqs, mts, K, [0, 2, 3, 7, 25], [], []⟩
def f96_b4 (K : Nat) (a0 : List (tV × Int)) (L4 : Int → Option Bool) (q5 : Int) : Option Bool :=
  (bif (decide (q5 < (a0.length : Int))) then (bif (decide (0 ≤ q5) && decide (q5 < (a0.length : Int))) then (f211G K ((a0.getD ((0 : Int) + q5).toNat (((0 : Int), (0 : Int)), (0 : Int))).1)).bind fun y6 => (bif ((!(!(!y6))) || true) then (bif ((!(!(!y6))) || true) then (bif ((!(!(!y6))) || (decide (0 ≤ q5) && decide (q5 < (a0.length : Int)))) then (bif ((!(!(!y6))) || true) then (bif ((!(!(!y6))) || true) then ((bif (!(!y6)) then f141G K ((a0.getD ((0 : Int) + q5).toNat (((0 : Int), (0 : Int)), (0 : Int))).2) (0 : Int) (9 : Int) else some false)).bind fun y7 => (bif ((!(!(!y6))) || true) then (bif (bif (!y6) then true else (!y7)) then some false else L4 (w (q5 + (1 : Int)))) else none) else none) else none) else none) else none) else none) else none) else some (decide ((a0.length : Int) ≤ (40 : Int))))
def f96_l4 (K : Nat) (a0 : List (tV × Int)) (n : Nat) (q5 : Int) : Option Bool :=
  iter (X := Int) (fun L x => (fun L4 => f96_b4 K a0 L4 x) (fun v0 => L v0)) n q5
def f96_fr4 (a0 : List (tV × Int)) (q5 : Int) : Fr := ⟨29, [(0, .v false [.row 0]), (2, .v false [.bool false]), (3, .v false [.int .i64 q5])], [], [some ⟨133, (.cons sV sI), a0, .ro⟩]⟩
def f96_k4 (K : Nat) (a0 : List (tV × Int)) (lr : LR Bool) : Ex → Fr → Option Bool :=
  contC (f96E K) 1 lr f96C [1, 0, 1, 0] (finK (f96E K) Tryz.f96 [(.ro, (.list 133 (.cons sV sI)))] [.bool] (a0, ()))
def f96_g (K : Nat) (a0 : List (tV × Int)) (I4 : Int → Option Bool) : Option Bool :=
  I4 (0 : Int)
def f96G (K : Nat) (a0 : List (tV × Int)) : Option Bool :=
  f96_g K a0 (fun d0 => f96_l4 K a0 K d0)
def f96M (K : Nat) : Mdl := ⟨[(.ro, (.list 133 (.cons sV sI)))], [.bool], fun x => f96G K x.1⟩
def f144C : Code := codeOf Tryz.f144
def f144E (K : Nat) : Env := ⟨[(127, f127M K)], tys, eqs, mts, K, [0, 1, 2, 3, 6, 7, 8, 9, 10, 11, 12, 16, 21, 59], [], []⟩
def f144_b11 (K : Nat) (a0 : Int × Int × Int) (a1 : List Int) (a2 : List (tV × Int)) (q10 : Int) (L9 L11 : Int → Option (Int × Int × Bool)) (q12 : Int) : Option (Int × Int × Bool) :=
  (bif (decide (q12 < q10)) then (bif (decide (0 ≤ q12) && decide (q12 < (a2.length : Int))) then (f127G K a0 ((a2.getD ((0 : Int) + q12).toNat (((0 : Int), (0 : Int)), (0 : Int))).1)).bind fun y13 => (bif (decide (0 ≤ y13) && decide (y13 < (a1.length : Int))) then (bif (decide (0 ≤ q10) && decide (q10 < (a2.length : Int))) then (f127G K a0 ((a2.getD ((0 : Int) + q10).toNat (((0 : Int), (0 : Int)), (0 : Int))).1)).bind fun y14 => (bif (decide (0 ≤ y14) && decide (y14 < (a1.length : Int))) then (bif ((!((a1.getD ((0 : Int) + y13).toNat (0 : Int)) == (a1.getD ((0 : Int) + y14).toNat (0 : Int)))) || true) then (bif ((!((a1.getD ((0 : Int) + y13).toNat (0 : Int)) == (a1.getD ((0 : Int) + y14).toNat (0 : Int)))) || true) then (bif ((!((a1.getD ((0 : Int) + y13).toNat (0 : Int)) == (a1.getD ((0 : Int) + y14).toNat (0 : Int)))) || (decide (0 ≤ q12) && decide (q12 < (a2.length : Int)))) then (bif ((!((a1.getD ((0 : Int) + y13).toNat (0 : Int)) == (a1.getD ((0 : Int) + y14).toNat (0 : Int)))) || true) then (bif ((!((a1.getD ((0 : Int) + y13).toNat (0 : Int)) == (a1.getD ((0 : Int) + y14).toNat (0 : Int)))) || true) then (bif ((!((a1.getD ((0 : Int) + y13).toNat (0 : Int)) == (a1.getD ((0 : Int) + y14).toNat (0 : Int)))) || true) then (bif ((!((a1.getD ((0 : Int) + y13).toNat (0 : Int)) == (a1.getD ((0 : Int) + y14).toNat (0 : Int)))) || true) then (bif ((!((a1.getD ((0 : Int) + y13).toNat (0 : Int)) == (a1.getD ((0 : Int) + y14).toNat (0 : Int)))) || (decide (0 ≤ q10) && decide (q10 < (a2.length : Int)))) then (bif ((!((a1.getD ((0 : Int) + y13).toNat (0 : Int)) == (a1.getD ((0 : Int) + y14).toNat (0 : Int)))) || true) then (bif ((!((a1.getD ((0 : Int) + y13).toNat (0 : Int)) == (a1.getD ((0 : Int) + y14).toNat (0 : Int)))) || true) then (bif ((!((a1.getD ((0 : Int) + y13).toNat (0 : Int)) == (a1.getD ((0 : Int) + y14).toNat (0 : Int)))) || true) then (bif (bif ((a1.getD ((0 : Int) + y13).toNat (0 : Int)) == (a1.getD ((0 : Int) + y14).toNat (0 : Int))) then ((a2.getD ((0 : Int) + q12).toNat (((0 : Int), (0 : Int)), (0 : Int))).2 != (a2.getD ((0 : Int) + q10).toNat (((0 : Int), (0 : Int)), (0 : Int))).2) else false) then some (q12, q10, true) else L11 (w (q12 + (1 : Int)))) else none) else none) else none) else none) else none) else none) else none) else none) else none) else none) else none) else none) else none) else none) else none) else L9 (w (q10 + (1 : Int))))
def f144_l11 (K : Nat) (a0 : Int × Int × Int) (a1 : List Int) (a2 : List (tV × Int)) (q10 : Int) (L9 : Int → Option (Int × Int × Bool)) (n : Nat) (q12 : Int) : Option (Int × Int × Bool) :=
  iter (X := Int) (fun L x => (fun L11 => f144_b11 K a0 a1 a2 q10 L9 L11 x) (fun v0 => L v0)) n q12
def f144_fr11 (a0 : Int × Int × Int) (a1 : List Int) (a2 : List (tV × Int)) (q10 q12 : Int) : Fr := ⟨62, [(0, .v true [.int .i64 a0.1, .int .i64 a0.2.1, .int .i64 a0.2.2]), (1, .v false [.row 0]), (2, .v false [.row 1]), (3, .v false [.box 0 0]), (6, .v false [.int .i64 (0 : Int)]), (7, .v false [.int .i64 (0 : Int)]), (8, .v false [.bool false]), (9, .v false [.int .i64 q10]), (10, .v false [.int .i64 q12]), (16, .v false [.bool (decide (q10 < (a2.length : Int)))])], [some ⟨true, [.int .i64 a0.1, .int .i64 a0.2.1, .int .i64 a0.2.2]⟩], [some ⟨2, sI, a1, .ro⟩, some ⟨133, (.cons sV sI), a2, .ro⟩]⟩
def f144_b9 (K : Nat) (a0 : Int × Int × Int) (a1 : List Int) (a2 : List (tV × Int)) (I11 : Int → Int → Option (Int × Int × Bool)) (L9 : Int → Option (Int × Int × Bool)) (q10 : Int) : Option (Int × Int × Bool) :=
  (bif (decide (q10 < (a2.length : Int))) then I11 q10 (0 : Int) else some ((0 : Int), (0 : Int), false))
def f144_l9 (K : Nat) (a0 : Int × Int × Int) (a1 : List Int) (a2 : List (tV × Int)) (n : Nat) (q10 : Int) : Option (Int × Int × Bool) :=
  iter (X := Int) (fun L x => (fun L9 => f144_b9 K a0 a1 a2 (fun c0 d0 => f144_l11 K a0 a1 a2 c0 L9 K d0) L9 x) (fun v0 => L v0)) n q10
def f144_fr9 (a0 : Int × Int × Int) (a1 : List Int) (a2 : List (tV × Int)) (q10 : Int) : Fr := ⟨62, [(0, .v true [.int .i64 a0.1, .int .i64 a0.2.1, .int .i64 a0.2.2]), (1, .v false [.row 0]), (2, .v false [.row 1]), (3, .v false [.box 0 0]), (6, .v false [.int .i64 (0 : Int)]), (7, .v false [.int .i64 (0 : Int)]), (8, .v false [.bool false]), (9, .v false [.int .i64 q10])], [some ⟨true, [.int .i64 a0.1, .int .i64 a0.2.1, .int .i64 a0.2.2]⟩], [some ⟨2, sI, a1, .ro⟩, some ⟨133, (.cons sV sI), a2, .ro⟩]⟩
def f144_k9 (K : Nat) (a0 : Int × Int × Int) (a1 : List Int) (a2 : List (tV × Int)) (lr : LR (Int × Int × Bool)) : Ex → Fr → Option (Int × Int × Bool) :=
  contC (f144E K) 2 lr f144C [1, 0, 1, 0] (finK (f144E K) Tryz.f144 [(.ro, sL), (.ro, (.list 2 sI)), (.ro, (.list 133 (.cons sV sI)))] [sI, sI, .bool] (a0, a1, a2, ()))
def f144_k11 (K : Nat) (a0 : Int × Int × Int) (a1 : List Int) (a2 : List (tV × Int)) (F9 : Fr → Option (Int × Int × Bool)) (bq10 : Int) (lr : LR (Int × Int × Bool)) : Ex → Fr → Option (Int × Int × Bool) :=
  contC (f144E K) 2 lr (selC f144C [1, 0, 1, 0, 0]) [1, 0, 0, 1, 0] (loopK 2 (f144_fr9 a0 a1 a2 bq10) F9 (f144_k9 K a0 a1 a2 lr))
def f144_g (K : Nat) (a0 : Int × Int × Int) (a1 : List Int) (a2 : List (tV × Int)) (I9 : Int → Option (Int × Int × Bool)) : Option (Int × Int × Bool) :=
  I9 (0 : Int)
def f144G (K : Nat) (a0 : Int × Int × Int) (a1 : List Int) (a2 : List (tV × Int)) : Option (Int × Int × Bool) :=
  f144_g K a0 a1 a2 (fun d0 => f144_l9 K a0 a1 a2 K d0)
def f144M (K : Nat) : Mdl := ⟨[(.ro, sL), (.ro, (.list 2 sI)), (.ro, (.list 133 (.cons sV sI)))], [sI, sI, .bool], fun x => f144G K x.1 x.2.1 x.2.2.1⟩
def f34C : Code := codeOf Tryz.f34
def f34E (K : Nat) : Env := ⟨[(96, f96M K), (126, f126M K), (141, f141M K), (142, f142M K), (143, f143M K), (144, f144M K)], tys, eqs, mts, K, [0, 1, 4, 5, 6, 7, 8, 10, 11, 15, 23, 29, 54], [], []⟩
def f34_b8 (K : Nat) (a0 : Int) (a1 : List (tV × Int)) (y1 y2 : Bool) (y3 : List ByteArray) (L8 : Int → (List ByteArray) → Option ((List ByteArray) × Int)) (q9 : Int) (q10 : List ByteArray) : Option ((List ByteArray) × Int) :=
  (bif (decide (q9 < (y3.length : Int))) then (bif (decide (0 ≤ q9) && decide (q9 < (y3.length : Int))) then (f143G K (y3.getD ((0 : Int) + q9).toNat ByteArray.empty) a0).bind fun y11 => (f126G K y11.2.1 y11.2.2.1).bind fun y12 => (f144G K y11.2.1 y12 a1).bind fun y13 => (bif (!y13.2.2) then (bif (decide (0 ≤ q9) && decide (q9 < (y3.length : Int))) then (bif (Nat.ble (q10.length + [(y3.getD ((0 : Int) + q9).toNat ByteArray.empty)].length) (lim 16)) then L8 (w (q9 + (1 : Int))) (q10 ++ [(y3.getD ((0 : Int) + q9).toNat ByteArray.empty)]) else none) else none) else L8 (w (q9 + (1 : Int))) q10) else none) else some (q10, (0 : Int)))
def f34_l8 (K : Nat) (a0 : Int) (a1 : List (tV × Int)) (y1 y2 : Bool) (y3 : List ByteArray) (n : Nat) (q9 : Int) (q10 : List ByteArray) : Option ((List ByteArray) × Int) :=
  iter (X := Int × List ByteArray) (fun L x => (fun L8 => f34_b8 K a0 a1 y1 y2 y3 L8 x.1 x.2) (fun v0 v1 => L (v0, v1))) n (q9, q10)
def f34_fr8 (a0 : Int) (a1 : List (tV × Int)) (y1 y2 : Bool) (y3 : List ByteArray) (q9 : Int) (q10 : List ByteArray) : Fr := ⟨63, [(0, .v false [.int .i64 a0]), (1, .v false [.row 0]), (4, .v false [.row 1]), (5, .v false [.int .i64 (0 : Int)]), (6, .v false [.row 2]), (7, .v false [.row 3]), (8, .v false [.int .i64 q9]), (23, .v false [.bool (bif (!y1) then true else (!y2))])], [], [some ⟨133, (.cons sV sI), a1, .ro⟩, some ⟨9, .str, [], .own⟩, some ⟨9, .str, y3, .own⟩, some ⟨9, .str, q10, .own⟩]⟩
def f34_k8 (K : Nat) (a0 : Int) (a1 : List (tV × Int)) (lr : LR ((List ByteArray) × Int)) : Ex → Fr → Option ((List ByteArray) × Int) :=
  contC (f34E K) 1 lr f34C [1, 1, 1, 1, 0, 1, 0] (finK (f34E K) Tryz.f34 [(.ro, sI), (.ro, (.list 133 (.cons sV sI)))] [(.list 9 .str), sI] (a0, a1, ()))
def f34_g (K : Nat) (a0 : Int) (a1 : List (tV × Int)) (I8 : Bool → Bool → (List ByteArray) → Int → (List ByteArray) → Option ((List ByteArray) × Int)) : Option ((List ByteArray) × Int) :=
  (f141G K a0 (1 : Int) (4 : Int)).bind fun y1 => (bif ((!(!(!y1))) || true) then ((bif (!(!y1)) then f96G K a1 else some false)).bind fun y2 => (bif ((!(!(!y1))) || true) then (bif (bif (!y1) then true else (!y2)) then some ([], (2 : Int)) else (f142G K).bind fun y3 => I8 y1 y2 y3 (0 : Int) []) else none) else none)
def f34G (K : Nat) (a0 : Int) (a1 : List (tV × Int)) : Option ((List ByteArray) × Int) :=
  f34_g K a0 a1 (fun c0 c1 c2 d0 d1 => f34_l8 K a0 a1 c0 c1 c2 K d0 d1)
def f34M (K : Nat) : Mdl := ⟨[(.ro, sI), (.ro, (.list 133 (.cons sV sI)))], [(.list 9 .str), sI], fun x => f34G K x.1 x.2.1⟩
def f314E (K : Nat) : Env := ⟨[], tys, eqs, mts, K, [0, 2, 5], [(194, f194M K), (196, f196M K)], []⟩
def f314G (K : Nat) (a0 : (List Int) × Int × Int) : Option (tV × Int) :=
  (f194G K a0 (40 : Int)).bind fun y1 => (bif (y1.2 == (0 : Int)) then (f196G K (a0.1, y1.1) [(-1 : Int), (2 : Int)]).bind fun y2 => some y2 else (f194G K (a0.1, y1.1) (2 : Int)).bind fun y3 => some y3)
def f314M (K : Nat) : PMdl := ⟨5, (.int .u8), sV, [], [sI], fun x => f314G K x.1⟩
def f315E (K : Nat) : Env := ⟨[], tys, eqs, mts, K, [0, 2, 3, 17, 18, 24, 35], [(194, f194M K), (196, f196M K)], []⟩
def f315G (K : Nat) (a0 : (List Int) × Int × Int) : Option (tV × Int × Int × Int) :=
  (f194G K a0 (6 : Int)).bind fun y1 => (f194G K (a0.1, y1.1) (6 : Int)).bind fun y2 => (f194G K (a0.1, y2.1) (w ((1 : Int) + y1.2))).bind fun y3 => (f194G K (a0.1, y3.1) (60 : Int)).bind fun y4 => (bif (y4.2 == (0 : Int)) then (f196G K (a0.1, y4.1) [(0 : Int), (64 : Int), (65 : Int), (8 : Int)]).bind fun y5 => some (y5.1, y5.2, y3.2, (w ((1 : Int) + y2.2))) else (bif (y4.2 == (1 : Int)) then (f196G K (a0.1, y4.1) [(-1 : Int), (w ((1 : Int) + y1.2)), (w ((w ((1 : Int) + y1.2)) - (1 : Int)))]).bind fun y6 => some (y6.1, (w ((1 : Int) + y1.2)), y6.2, (w ((1 : Int) + y2.2))) else (bif (y4.2 == (2 : Int)) then (f196G K (a0.1, y4.1) [(8 : Int), (9 : Int)]).bind fun y7 => some (y7.1, (8 : Int), (3 : Int), y7.2) else some (y4.1, (w ((1 : Int) + y1.2)), y3.2, (w ((1 : Int) + y2.2))))))
def f315M (K : Nat) : PMdl := ⟨5, (.int .u8), sV, [], [sL], fun x => f315G K x.1⟩
def f227E (K : Nat) : Env := ⟨[], tys, eqs, mts, K, [0, 2, 3, 4, 5, 9, 10, 15, 25, 28], [(194, f194M K), (314, f314M K), (315, f315M K)], []⟩
def f227G (K : Nat) (a0 : (List Int) × Int × Int) : Option (tV × Int × Int × Int × Int) :=
  (f314G K a0).bind fun y1 => (f194G K (a0.1, y1.1) (5 : Int)).bind fun y2 => (bif (y2.2 == (0 : Int)) then (f315G K (a0.1, y2.1)).bind fun y3 => some (y3.1, y1.2, y3.2) else (bif (y2.2 == (1 : Int)) then (f194G K (a0.1, y2.1) (4 : Int)).bind fun y4 => (f194G K (a0.1, y4.1) (4 : Int)).bind fun y5 => some (y5.1, y1.2, (w ((1 : Int) + y4.2)), (0 : Int), (w ((1 : Int) + y5.2))) else (bif (y2.2 == (2 : Int)) then (bif (y1.2 == (0 : Int)) then some (y2.1, y1.2, (2 : Int), (1 : Int), (1 : Int)) else some (y2.1, y1.2, (3 : Int), (1 : Int), (1 : Int))) else (f194G K (a0.1, y2.1) (4 : Int)).bind fun y6 => some (y6.1, y1.2, (w ((1 : Int) + y6.2)), (0 : Int), (w ((1 : Int) + y6.2))))))
def f227M (K : Nat) : PMdl := ⟨5, (.int .u8), sV, [], [sI, sL], fun x => f227G K x.1⟩
def f404E (K : Nat) : Env := ⟨[], tys, eqs, mts, K, [0, 1, 3, 4, 5, 18], [], []⟩
def f404G (K : Nat) (a0 : Int) (a1 : Int × Int) : Option Int :=
  (bif (a0 == (1 : Int)) then some (w ((w ((w (a1.1 * a1.1)) + (w (a1.2 * a1.2)))) + (w (a1.1 * a1.2)))) else some (w ((w (a1.1 * a1.1)) + (w (a1.2 * a1.2)))))
def f404M (K : Nat) : Mdl := ⟨[(.ro, sI), (.ro, sV)], [sI], fun x => f404G K x.1 x.2.1⟩
def f362E (K : Nat) : Env := ⟨[(340, f340M K), (404, f404M K)], tys, eqs, mts, K, [0, 1, 3, 4, 5, 6], [], []⟩
def f362G (K : Nat) (a0 : Int) (a1 : Int × Int × Int × Int) : Option Bool :=
  (f404G K a0 (a1.1, a1.2.2.1)).bind fun y1 => (bif ((!(y1 == (1 : Int))) || true) then (bif ((!(y1 == (1 : Int))) || true) then ((bif (y1 == (1 : Int)) then f404G K a0 (a1.2.1, a1.2.2.2) else some (0 : Int))).bind fun y2 => (bif ((!(y1 == (1 : Int))) || true) then (bif ((!(bif (y1 == (1 : Int)) then (y2 == (1 : Int)) else false)) || true) then (bif ((!(bif (y1 == (1 : Int)) then (y2 == (1 : Int)) else false)) || true) then (bif ((!(bif (y1 == (1 : Int)) then (y2 == (1 : Int)) else false)) || true) then ((bif (bif (y1 == (1 : Int)) then (y2 == (1 : Int)) else false) then f340G K (a1.1, a1.2.2.1) (a1.2.1, a1.2.2.2) else some ((0 : Int), (0 : Int)))).bind fun y3 => ((bif (bif (y1 == (1 : Int)) then (y2 == (1 : Int)) else false) then f404G K a0 y3 else some (0 : Int))).bind fun y4 => (bif ((!(bif (y1 == (1 : Int)) then (y2 == (1 : Int)) else false)) || true) then (bif ((!(bif (y1 == (1 : Int)) then (y2 == (1 : Int)) else false)) || true) then (bif ((!(bif (y1 == (1 : Int)) then (y2 == (1 : Int)) else false)) || true) then some (bif (bif (y1 == (1 : Int)) then (y2 == (1 : Int)) else false) then (y4 == (w ((2 : Int) + a0))) else false) else none) else none) else none) else none) else none) else none) else none) else none) else none)
def f362M (K : Nat) : Mdl := ⟨[(.ro, sI), (.ro, sA)], [.bool], fun x => f362G K x.1 x.2.1⟩
def f365C : Code := codeOf Tryz.f365
def f365E (K : Nat) : Env := ⟨[(362, f362M K)], tys, eqs, mts, K, [0, 2, 3, 4, 5, 8, 28], [], []⟩
def f365_b3 (K : Nat) (a0 : Int) (L3 : Int → (List tA) → Option (List tA)) (q4 : Int) (q5 : List tA) : Option (List tA) :=
  (bif (decide (q4 < (81 : Int))) then (f362G K a0 ((w ((w (q4.tdiv (27 : Int))) - (1 : Int))), (w (((w (q4.tdiv (9 : Int))).tmod (3 : Int)) - (1 : Int))), (w (((w (q4.tdiv (3 : Int))).tmod (3 : Int)) - (1 : Int))), (w ((q4.tmod (3 : Int)) - (1 : Int))))).bind fun y6 => (bif y6 then (bif (Nat.ble (q5.length + [((w ((w (q4.tdiv (27 : Int))) - (1 : Int))), (w (((w (q4.tdiv (9 : Int))).tmod (3 : Int)) - (1 : Int))), (w (((w (q4.tdiv (3 : Int))).tmod (3 : Int)) - (1 : Int))), (w ((q4.tmod (3 : Int)) - (1 : Int))))].length) (lim 32)) then L3 (w (q4 + (1 : Int))) (q5 ++ [((w ((w (q4.tdiv (27 : Int))) - (1 : Int))), (w (((w (q4.tdiv (9 : Int))).tmod (3 : Int)) - (1 : Int))), (w (((w (q4.tdiv (3 : Int))).tmod (3 : Int)) - (1 : Int))), (w ((q4.tmod (3 : Int)) - (1 : Int))))]) else none) else L3 (w (q4 + (1 : Int))) q5) else some q5)
def f365_l3 (K : Nat) (a0 : Int) (n : Nat) (q4 : Int) (q5 : List tA) : Option (List tA) :=
  iter (X := Int × List tA) (fun L x => (fun L3 => f365_b3 K a0 L3 x.1 x.2) (fun v0 v1 => L (v0, v1))) n (q4, q5)
def f365_fr3 (a0 q4 : Int) (q5 : List tA) : Fr := ⟨34, [(0, .v false [.int .i64 a0]), (2, .v false [.row 0]), (3, .v false [.row 1]), (4, .v false [.int .i64 q4])], [], [some ⟨93, sA, [], .own⟩, some ⟨93, sA, q5, .own⟩]⟩
def f365_k3 (K : Nat) (a0 : Int) (lr : LR (List tA)) : Ex → Fr → Option (List tA) :=
  contC (f365E K) 0 lr f365C [1, 1, 0, 1, 0] (finK (f365E K) Tryz.f365 [(.ro, sI)] [(.list 93 sA)] (a0, ()))
def f365_g (K : Nat) (a0 : Int) (I3 : Int → (List tA) → Option (List tA)) : Option (List tA) :=
  I3 (0 : Int) []
def f365G (K : Nat) (a0 : Int) : Option (List tA) :=
  f365_g K a0 (fun d0 d1 => f365_l3 K a0 K d0 d1)
def f365M (K : Nat) : Mdl := ⟨[(.ro, sI)], [(.list 93 sA)], fun x => f365G K x.1⟩
def f363E (K : Nat) : Env := ⟨[], tys, eqs, mts, K, [0, 1, 2], [], []⟩
def f363G (K : Nat) (a0 : Int × Int × Int) : Option (List tV) :=
  some [(a0.1, (0 : Int)), a0.2]
def f363M (K : Nat) : Mdl := ⟨[(.ro, sL)], [(.list 79 sV)], fun x => f363G K x.1⟩
def f405E (K : Nat) (rec : Int → Int → Option Int) : Env := ⟨[(405, ⟨[(.ro, sI), (.ro, sI)], [sI], fun x => rec x.1 x.2.1⟩)], tys, eqs, mts, K, [0, 1, 4, 6], [], []⟩
def f405_s (K : Nat) (rec : Int → Int → Option Int) (a0 a1 : Int) : Option Int :=
  (bif (a1 == (0 : Int)) then some (if (w (0 - a0)) > a0 then (w (0 - a0)) else a0) else (bif (a1 != 0) then (rec a1 (a0.tmod a1)).bind fun y1 => some y1 else none))
def f405R (K : Nat) : Nat → Int → Int → Option Int
  | 0 => fun _ _ => none
  | n + 1 => fun a0 a1 => f405_s K (f405R K n) a0 a1
def f405G (K : Nat) (a0 a1 : Int) : Option Int := f405R K K a0 a1
def f405M (K : Nat) : Mdl := ⟨[(.ro, sI), (.ro, sI)], [sI], fun x => f405G K x.1 x.2.1⟩
def f406E (K : Nat) : Env := ⟨[], tys, eqs, mts, K, [0, 1, 2, 4], [], []⟩
def f406G (K : Nat) (a0 : Int × Int) (a1 : Int) : Option tV :=
  some ((w (a1 * a0.1)), (w (a1 * a0.2)))
def f406M (K : Nat) : Mdl := ⟨[(.ro, sV), (.ro, sI)], [sV], fun x => f406G K x.1 x.2.1⟩
def f364C : Code := codeOf Tryz.f364
def f364E (K : Nat) : Env := ⟨[(255, f255M K), (405, f405M K), (406, f406M K)], tys, eqs, mts, K, [0, 2, 3, 4, 5, 6, 7, 8, 13, 22, 50, 58, 62], [], []⟩
def f364_b15 (K : Nat) (a0 : List tV) (q11 q12 : Int) (L10 L15 : Int → Int → Int → Int → Option tL) (q16 q17 q18 q19 : Int) : Option tL :=
  (bif (q19 != (0 : Int)) then (bif (q19 != 0) then L15 q18 q19 (w (q16 - (w ((w (q17.tdiv q19)) * q18)))) (w (q17 - (w ((w (q17.tdiv q19)) * q19)))) else none) else (f405G K q11 q18).bind fun y20 => (bif (decide (y20 > (0 : Int))) then (f255G K q16 y20).bind fun y21 => L10 y20 (w (q12 + (1 : Int))) y21 q17 else L10 y20 (w (q12 + (1 : Int))) q16 q17))
def f364_l15 (K : Nat) (a0 : List tV) (q11 q12 : Int) (L10 : Int → Int → Int → Int → Option tL) (n : Nat) (q16 q17 q18 q19 : Int) : Option tL :=
  iter (X := Int × Int × Int × Int) (fun L x => (fun L15 => f364_b15 K a0 q11 q12 L10 L15 x.1 x.2.1 x.2.2.1 x.2.2.2) (fun v0 v1 v2 v3 => L (v0, v1, v2, v3))) n (q16, q17, q18, q19)
def f364_fr15 (a0 : List tV) (q11 q12 q16 q17 q18 q19 : Int) : Fr := ⟨74, [(0, .v false [.row 0]), (2, .v false [.box 0 0]), (3, .v false [.box 1 0]), (4, .v false [.int .i64 q11]), (5, .v false [.int .i64 q12]), (6, .v false [.box 2 0]), (13, .v false [.bool (decide (q12 < (a0.length : Int)))])], [some ⟨true, [.int .i64 (0 : Int), .int .i64 (0 : Int), .int .i64 (0 : Int)]⟩, some ⟨true, [.int .i64 q16, .int .i64 q17]⟩, some ⟨true, [.int .i64 q18, .int .i64 q19]⟩], [some ⟨79, sV, a0, .ro⟩]⟩
def f364_b10 (K : Nat) (a0 : List tV) (I15 : Int → Int → Int → Int → Int → Int → Option tL) (L10 : Int → Int → Int → Int → Option tL) (q11 q12 q13 q14 : Int) : Option tL :=
  (bif (decide (q12 < (a0.length : Int))) then (bif (decide (0 ≤ q12) && decide (q12 < (a0.length : Int))) then I15 q11 q12 q13 q14 ((a0.getD ((0 : Int) + q12).toNat ((0 : Int), (0 : Int))).1) ((a0.getD ((0 : Int) + q12).toNat ((0 : Int), (0 : Int))).2) else none) else (bif (decide (q14 < (0 : Int))) then (f406G K (q13, q14) (-1 : Int)).bind fun y22 => (bif (decide (q11 > (0 : Int))) then (f255G K y22.1 q11).bind fun y23 => some (q11, y23, y22.2) else some (q11, y22)) else (bif (decide (q11 > (0 : Int))) then (f255G K q13 q11).bind fun y24 => some (q11, y24, q14) else some (q11, q13, q14))))
def f364_l10 (K : Nat) (a0 : List tV) (n : Nat) (q11 q12 q13 q14 : Int) : Option tL :=
  iter (X := Int × Int × Int × Int) (fun L x => (fun L10 => f364_b10 K a0 (fun c0 c1 d0 d1 d2 d3 => f364_l15 K a0 c0 c1 L10 K d0 d1 d2 d3) L10 x.1 x.2.1 x.2.2.1 x.2.2.2) (fun v0 v1 v2 v3 => L (v0, v1, v2, v3))) n (q11, q12, q13, q14)
def f364_fr10 (a0 : List tV) (q11 q12 q13 q14 : Int) : Fr := ⟨74, [(0, .v false [.row 0]), (2, .v false [.box 0 0]), (3, .v false [.box 1 0]), (4, .v false [.int .i64 q11]), (5, .v false [.int .i64 q12])], [some ⟨true, [.int .i64 (0 : Int), .int .i64 (0 : Int), .int .i64 (0 : Int)]⟩, some ⟨true, [.int .i64 q13, .int .i64 q14]⟩], [some ⟨79, sV, a0, .ro⟩]⟩
def f364_k10 (K : Nat) (a0 : List tV) (lr : LR tL) : Ex → Fr → Option tL :=
  contC (f364E K) 1 lr f364C [1, 1, 0, 1, 0] (finK (f364E K) Tryz.f364 [(.ro, (.list 79 sV))] [sL] (a0, ()))
def f364_k15 (K : Nat) (a0 : List tV) (F10 : Fr → Option tL) (bq11 bq12 bq13 bq14 : Int) (lr : LR tL) : Ex → Fr → Option tL :=
  contC (f364E K) 1 lr (selC f364C [1, 1, 0, 1, 0, 0]) [1, 0, 0, 1, 0, 0] (loopK 1 (f364_fr10 a0 bq11 bq12 bq13 bq14) F10 (f364_k10 K a0 lr))
def f364_g (K : Nat) (a0 : List tV) (I10 : Int → Int → Int → Int → Option tL) : Option tL :=
  I10 (0 : Int) (0 : Int) (0 : Int) (0 : Int)
def f364G (K : Nat) (a0 : List tV) : Option tL :=
  f364_g K a0 (fun d0 d1 d2 d3 => f364_l10 K a0 K d0 d1 d2 d3)
def f364M (K : Nat) : Mdl := ⟨[(.ro, (.list 79 sV))], [sL], fun x => f364G K x.1⟩
def f313E (K : Nat) : Env := ⟨[(341, f341M K), (363, f363M K), (364, f364M K)], tys, eqs, mts, K, [0, 1, 2, 3, 4, 5], [], []⟩
def f313G (K : Nat) (a0 : Int × Int × Int × Int) (a1 : Int × Int × Int) : Option tL :=
  (f363G K a1).bind fun y1 => (bif (decide (0 ≤ (0 : Int)) && decide ((0 : Int) < (y1.length : Int))) then (f341G K a0 (y1.getD ((0 : Int) + (0 : Int)).toNat ((0 : Int), (0 : Int)))).bind fun y2 => (bif (decide (0 ≤ (1 : Int)) && decide ((1 : Int) < (y1.length : Int))) then (f341G K a0 (y1.getD ((0 : Int) + (1 : Int)).toNat ((0 : Int), (0 : Int)))).bind fun y3 => (f364G K [y2, y3]).bind fun y4 => some y4 else none) else none)
def f313M (K : Nat) : Mdl := ⟨[(.ro, sA), (.ro, sL)], [sL], fun x => f313G K x.1 x.2.1⟩
def f318C : Code := codeOf Tryz.f318
def f318E (K : Nat) : Env := ⟨[(313, f313M K), (365, f365M K)], tys, eqs, mts, K, [0, 1, 3, 4, 5, 6, 7, 14, 24], [], []⟩
def f318_b4 (K : Nat) (a0 : Int) (a1 : Int × Int × Int) (y1 : List tA) (L4 : Int → (List tA) → Option (List tA)) (q5 : Int) (q6 : List tA) : Option (List tA) :=
  (bif (decide (q5 < (y1.length : Int))) then (bif (decide (0 ≤ q5) && decide (q5 < (y1.length : Int))) then (f313G K ((y1.getD ((0 : Int) + q5).toNat zA).1, ((y1.getD ((0 : Int) + q5).toNat zA).2).1, (((y1.getD ((0 : Int) + q5).toNat zA).2).2)) a1).bind fun y7 => (bif ((y7.1 == a1.1) && ((y7.2.1 == a1.2.1) && (y7.2.2 == a1.2.2))) then (bif (decide (0 ≤ q5) && decide (q5 < (y1.length : Int))) then (bif (Nat.ble (q6.length + [((y1.getD ((0 : Int) + q5).toNat zA).1, ((y1.getD ((0 : Int) + q5).toNat zA).2).1, (((y1.getD ((0 : Int) + q5).toNat zA).2).2))].length) (lim 32)) then L4 (w (q5 + (1 : Int))) (q6 ++ [((y1.getD ((0 : Int) + q5).toNat zA).1, ((y1.getD ((0 : Int) + q5).toNat zA).2).1, (((y1.getD ((0 : Int) + q5).toNat zA).2).2))]) else none) else none) else L4 (w (q5 + (1 : Int))) q6) else none) else some q6)
def f318_l4 (K : Nat) (a0 : Int) (a1 : Int × Int × Int) (y1 : List tA) (n : Nat) (q5 : Int) (q6 : List tA) : Option (List tA) :=
  iter (X := Int × List tA) (fun L x => (fun L4 => f318_b4 K a0 a1 y1 L4 x.1 x.2) (fun v0 v1 => L (v0, v1))) n (q5, q6)
def f318_fr4 (a0 : Int) (a1 : Int × Int × Int) (y1 : List tA) (q5 : Int) (q6 : List tA) : Fr := ⟨33, [(0, .v false [.int .i64 a0]), (1, .v true [.int .i64 a1.1, .int .i64 a1.2.1, .int .i64 a1.2.2]), (3, .v false [.box 0 0]), (4, .v false [.row 0]), (5, .v false [.row 1]), (6, .v false [.row 2]), (7, .v false [.int .i64 q5])], [some ⟨true, [.int .i64 a1.1, .int .i64 a1.2.1, .int .i64 a1.2.2]⟩], [some ⟨93, sA, [], .own⟩, some ⟨93, sA, y1, .own⟩, some ⟨93, sA, q6, .own⟩]⟩
def f318_k4 (K : Nat) (a0 : Int) (a1 : Int × Int × Int) (lr : LR (List tA)) : Ex → Fr → Option (List tA) :=
  contC (f318E K) 0 lr f318C [1, 1, 1, 0, 1, 0] (finK (f318E K) Tryz.f318 [(.ro, sI), (.ro, sL)] [(.list 93 sA)] (a0, a1, ()))
def f318_g (K : Nat) (a0 : Int) (a1 : Int × Int × Int) (I4 : (List tA) → Int → (List tA) → Option (List tA)) : Option (List tA) :=
  (f365G K a0).bind fun y1 => I4 y1 (0 : Int) []
def f318G (K : Nat) (a0 : Int) (a1 : Int × Int × Int) : Option (List tA) :=
  f318_g K a0 a1 (fun c0 d0 d1 => f318_l4 K a0 a1 c0 K d0 d1)
def f318M (K : Nat) : Mdl := ⟨[(.ro, sI), (.ro, sL)], [(.list 93 sA)], fun x => f318G K x.1 x.2.1⟩
def f309E (K : Nat) : Env := ⟨[(229, f229M K), (233, f233M K), (318, f318M K)], tys, eqs, mts, K, [0, 1, 2, 5, 6, 7, 8, 13], [(194, f194M K)], []⟩
def f309G (K : Nat) (a0 : (List Int) × Int × Int) (a1 : Int) (a2 : Int × Int × Int) : Option (tV × tA × Int × Int) :=
  (f233G K).bind fun y1 => (f229G K a1 a2).bind fun y2 => (bif (y2 == (0 : Int)) then (f318G K a1 a2).bind fun y3 => (f194G K a0 (y3.length : Int)).bind fun y4 => (bif (decide (0 ≤ y4.2) && decide (y4.2 < (y3.length : Int))) then (f194G K (a0.1, y4.1) (9 : Int)).bind fun y5 => (f194G K (a0.1, y5.1) (9 : Int)).bind fun y6 => some (y6.1, ((y3.getD ((0 : Int) + y4.2).toNat zA).1, ((y3.getD ((0 : Int) + y4.2).toNat zA).2).1, (((y3.getD ((0 : Int) + y4.2).toNat zA).2).2)), (w (y5.2 - (4 : Int))), (w (y6.2 - (4 : Int)))) else none) else (f194G K a0 (9 : Int)).bind fun y7 => (f194G K (a0.1, y7.1) (9 : Int)).bind fun y8 => some (y8.1, y1, (w (y7.2 - (4 : Int))), (w (y8.2 - (4 : Int)))))
def f309M (K : Nat) : PMdl := ⟨5, (.int .u8), sV, [(.ro, sI), (.ro, sL)], [sM], fun x => f309G K x.1 x.2.1 x.2.2.1⟩
def f290C : Code := codeOf Tryz.f290
def f290E (K : Nat) : Env := ⟨[(126, f126M K), (229, f229M K), (253, f253M K), (303, f303M K), (306, f306M K)], tys, eqs, mts, K, [0, 1, 2, 5, 6, 7, 8, 9, 10, 11, 12, 13, 14, 15, 23, 29, 35, 60, 72], [(194, f194M K), (309, f309M K)], []⟩
def f290_b27 (K : Nat) (a0 : (List Int) × Int × Int) (a1 : Int) (a2 : Int × Int × Int) (q9 : Int) (q12 : List tM) (q21 q22 q23 : Int) (q24 : List Int) (y1 : Int) (y3 : tV × Int) (y15 : List tM) (y16 : List Int) (y17 : tV × Int) (L27 : Int → (List Int) → Option (tV × Int × tL × List Int)) (q28 : Int) (q29 : List Int) : Option (tV × Int × tL × List Int) :=
  (bif (decide (q28 < (y16.length : Int))) then (bif (decide (0 ≤ q28) && decide (q28 < (y16.length : Int))) then (bif (decide (0 ≤ (y16.getD ((0 : Int) + q28).toNat (0 : Int))) && decide ((y16.getD ((0 : Int) + q28).toNat (0 : Int)) < (q24.length : Int))) then (bif (Nat.ble (q29.length + [(q24.getD ((0 : Int) + (y16.getD ((0 : Int) + q28).toNat (0 : Int))).toNat (0 : Int))].length) (lim 8)) then L27 (w (q28 + (1 : Int))) (q29 ++ [(q24.getD ((0 : Int) + (y16.getD ((0 : Int) + q28).toNat (0 : Int))).toNat (0 : Int))]) else none) else none) else none) else some ((q22, q23), a1, a2, q29))
def f290_l27 (K : Nat) (a0 : (List Int) × Int × Int) (a1 : Int) (a2 : Int × Int × Int) (q9 : Int) (q12 : List tM) (q21 q22 q23 : Int) (q24 : List Int) (y1 : Int) (y3 : tV × Int) (y15 : List tM) (y16 : List Int) (y17 : tV × Int) (n : Nat) (q28 : Int) (q29 : List Int) : Option (tV × Int × tL × List Int) :=
  iter (X := Int × List Int) (fun L x => (fun L27 => f290_b27 K a0 a1 a2 q9 q12 q21 q22 q23 q24 y1 y3 y15 y16 y17 L27 x.1 x.2) (fun v0 v1 => L (v0, v1))) n (q28, q29)
def f290_fr27 (a0 : (List Int) × Int × Int) (a1 : Int) (a2 : Int × Int × Int) (q9 : Int) (q12 : List tM) (q21 q22 q23 : Int) (q24 : List Int) (y1 : Int) (y3 : tV × Int) (y15 : List tM) (y16 : List Int) (y17 : tV × Int) (q28 : Int) (q29 : List Int) : Fr := ⟨88, [(0, .v false [.box 0 0]), (1, .v false [.int .i64 a1]), (2, .v true [.int .i64 a2.1, .int .i64 a2.2.1, .int .i64 a2.2.2]), (5, .v false [.box 1 0]), (6, .v false [.box 2 0]), (7, .v false [.box 3 0]), (8, .v false [.row 1]), (9, .v false [.row 2]), (10, .v false [.int .i64 q9]), (11, .v false [.row 3]), (12, .v false [.row 4]), (13, .v false [.int .i64 (w ((2 : Int) + y17.2))]), (14, .v false [.int .i64 q21]), (15, .v false [.int .i64 q28]), (23, .v false [.bool (y1 != (0 : Int))]), (29, .v false [.bool (decide (y3.2 > (0 : Int)))]), (35, .v false [.bool (decide (q9 > (0 : Int)))]), (60, .v false [.bool (decide (q21 < (y16.length : Int)))])], [some ⟨true, [.row 0, .int .i64 q22, .int .i64 q23]⟩, some ⟨true, [.int .i64 a2.1, .int .i64 a2.2.1, .int .i64 a2.2.2]⟩, some ⟨true, [.int .i64 (0 : Int), .int .i64 (0 : Int), .int .i64 (0 : Int), .int .i64 (0 : Int), .row 5]⟩, some ⟨true, [.int .i64 a1, .int .i64 a2.1, .int .i64 a2.2.1, .int .i64 a2.2.2, .row 6]⟩], [some ⟨5, (.int .u8), a0.1, .ro⟩, some ⟨95, sM, y15, .own⟩, some ⟨95, sM, q12, .own⟩, some ⟨2, sI, y16, .own⟩, some ⟨2, sI, q24, .own⟩, some ⟨2, sI, [], .own⟩, some ⟨2, sI, q29, .own⟩]⟩
def f290_b20 (K : Nat) (a0 : (List Int) × Int × Int) (a1 : Int) (a2 : Int × Int × Int) (q9 : Int) (q12 : List tM) (y1 : Int) (y3 : tV × Int) (y15 : List tM) (y16 : List Int) (y17 : tV × Int) (I27 : Int → (List tM) → Int → Int → Int → (List Int) → Int → (tV × Int) → (List tM) → (List Int) → (tV × Int) → Int → (List Int) → Option (tV × Int × tL × List Int)) (L20 : Int → Int → Int → (List Int) → Option (tV × Int × tL × List Int)) (q21 q22 q23 : Int) (q24 : List Int) : Option (tV × Int × tL × List Int) :=
  (bif (decide (q21 < (y16.length : Int))) then (f194G K (a0.1, q22, q23) (w ((2 : Int) + y17.2))).bind fun y25 => (bif (Nat.ble (q24.length + [y25.2].length) (lim 8)) then L20 (w (q21 + (1 : Int))) y25.1.1 y25.1.2 (q24 ++ [y25.2]) else none) else I27 q9 q12 q21 q22 q23 q24 y1 y3 y15 y16 y17 (0 : Int) [])
def f290_l20 (K : Nat) (a0 : (List Int) × Int × Int) (a1 : Int) (a2 : Int × Int × Int) (q9 : Int) (q12 : List tM) (y1 : Int) (y3 : tV × Int) (y15 : List tM) (y16 : List Int) (y17 : tV × Int) (n : Nat) (q21 q22 q23 : Int) (q24 : List Int) : Option (tV × Int × tL × List Int) :=
  iter (X := Int × Int × Int × List Int) (fun L x => (fun L20 => f290_b20 K a0 a1 a2 q9 q12 y1 y3 y15 y16 y17 (fun c0 c1 c2 c3 c4 c5 c6 c7 c8 c9 c10 d0 d1 => f290_l27 K a0 a1 a2 c0 c1 c2 c3 c4 c5 c6 c7 c8 c9 c10 K d0 d1) L20 x.1 x.2.1 x.2.2.1 x.2.2.2) (fun v0 v1 v2 v3 => L (v0, v1, v2, v3))) n (q21, q22, q23, q24)
def f290_fr20 (a0 : (List Int) × Int × Int) (a1 : Int) (a2 : Int × Int × Int) (q9 : Int) (q12 : List tM) (y1 : Int) (y3 : tV × Int) (y15 : List tM) (y16 : List Int) (y17 : tV × Int) (q21 q22 q23 : Int) (q24 : List Int) : Fr := ⟨88, [(0, .v false [.box 0 0]), (1, .v false [.int .i64 a1]), (2, .v true [.int .i64 a2.1, .int .i64 a2.2.1, .int .i64 a2.2.2]), (5, .v false [.box 1 0]), (6, .v false [.box 2 0]), (7, .v false [.box 3 0]), (8, .v false [.row 1]), (9, .v false [.row 2]), (10, .v false [.int .i64 q9]), (11, .v false [.row 3]), (12, .v false [.row 4]), (13, .v false [.int .i64 (w ((2 : Int) + y17.2))]), (14, .v false [.int .i64 q21]), (23, .v false [.bool (y1 != (0 : Int))]), (29, .v false [.bool (decide (y3.2 > (0 : Int)))]), (35, .v false [.bool (decide (q9 > (0 : Int)))])], [some ⟨true, [.row 0, .int .i64 q22, .int .i64 q23]⟩, some ⟨true, [.int .i64 a2.1, .int .i64 a2.2.1, .int .i64 a2.2.2]⟩, some ⟨true, [.int .i64 (0 : Int), .int .i64 (0 : Int), .int .i64 (0 : Int), .int .i64 (0 : Int), .row 5]⟩, some ⟨true, [.int .i64 a1, .int .i64 a2.1, .int .i64 a2.2.1, .int .i64 a2.2.2, .row 6]⟩], [some ⟨5, (.int .u8), a0.1, .ro⟩, some ⟨95, sM, y15, .own⟩, some ⟨95, sM, q12, .own⟩, some ⟨2, sI, y16, .own⟩, some ⟨2, sI, q24, .own⟩, some ⟨2, sI, [], .own⟩, some ⟨2, sI, [], .own⟩]⟩
def f290_b8 (K : Nat) (a0 : (List Int) × Int × Int) (a1 : Int) (a2 : Int × Int × Int) (y1 : Int) (y2 : tA × Int × Int) (y3 : tV × Int) (I20 : Int → (List tM) → Int → (tV × Int) → (List tM) → (List Int) → (tV × Int) → Int → Int → Int → (List Int) → Option (tV × Int × tL × List Int)) (L8 : Int → Int → Int → (List tM) → Option (tV × Int × tL × List Int)) (q9 q10 q11 : Int) (q12 : List tM) : Option (tV × Int × tL × List Int) :=
  (bif (decide (q9 > (0 : Int))) then (f309G K (a0.1, q10, q11) a1 a2).bind fun y13 => (f303G K a2 y13.2).bind fun y14 => (bif (Nat.ble (q12.length + [y14].length) (lim 48)) then L8 (w (q9 - (1 : Int))) y13.1.1 y13.1.2 (q12 ++ [y14]) else none) else (f253G K a2 q12).bind fun y15 => (f126G K a2 y15).bind fun y16 => (f194G K (a0.1, q10, q11) (3 : Int)).bind fun y17 => I20 q9 q12 y1 y3 y15 y16 y17 (0 : Int) y17.1.1 y17.1.2 [])
def f290_l8 (K : Nat) (a0 : (List Int) × Int × Int) (a1 : Int) (a2 : Int × Int × Int) (y1 : Int) (y2 : tA × Int × Int) (y3 : tV × Int) (n : Nat) (q9 q10 q11 : Int) (q12 : List tM) : Option (tV × Int × tL × List Int) :=
  iter (X := Int × Int × Int × List tM) (fun L x => (fun L8 => f290_b8 K a0 a1 a2 y1 y2 y3 (fun c0 c1 c2 c3 c4 c5 c6 d0 d1 d2 d3 => f290_l20 K a0 a1 a2 c0 c1 c2 c3 c4 c5 c6 K d0 d1 d2 d3) L8 x.1 x.2.1 x.2.2.1 x.2.2.2) (fun v0 v1 v2 v3 => L (v0, v1, v2, v3))) n (q9, q10, q11, q12)
def f290_fr8 (a0 : (List Int) × Int × Int) (a1 : Int) (a2 : Int × Int × Int) (y1 : Int) (y2 : tA × Int × Int) (y3 : tV × Int) (q9 q10 q11 : Int) (q12 : List tM) : Fr := ⟨88, [(0, .v false [.box 0 0]), (1, .v false [.int .i64 a1]), (2, .v true [.int .i64 a2.1, .int .i64 a2.2.1, .int .i64 a2.2.2]), (5, .v false [.box 1 0]), (6, .v false [.box 2 0]), (7, .v false [.box 3 0]), (8, .v false [.row 1]), (9, .v false [.row 2]), (10, .v false [.int .i64 q9]), (23, .v false [.bool (y1 != (0 : Int))]), (29, .v false [.bool (decide (y3.2 > (0 : Int)))])], [some ⟨true, [.row 0, .int .i64 q10, .int .i64 q11]⟩, some ⟨true, [.int .i64 a2.1, .int .i64 a2.2.1, .int .i64 a2.2.2]⟩, some ⟨true, [.int .i64 (0 : Int), .int .i64 (0 : Int), .int .i64 (0 : Int), .int .i64 (0 : Int), .row 3]⟩, some ⟨true, [.int .i64 a1, .int .i64 a2.1, .int .i64 a2.2.1, .int .i64 a2.2.2, .row 4]⟩], [some ⟨5, (.int .u8), a0.1, .ro⟩, some ⟨95, sM, [y2], .own⟩, some ⟨95, sM, q12, .own⟩, some ⟨2, sI, [], .own⟩, some ⟨2, sI, [], .own⟩]⟩
def f290_b46 (K : Nat) (a0 : (List Int) × Int × Int) (a1 : Int) (a2 : Int × Int × Int) (q39 q40 q41 : Int) (q42 q43 : List Int) (y1 : Int) (y2 : tA × Int × Int) (y3 : tV × Int) (y30 : List Int) (y31 : tV × Int) (L46 : Int → (List Int) → Option (tV × Int × tL × List Int)) (q47 : Int) (q48 : List Int) : Option (tV × Int × tL × List Int) :=
  (bif (decide (q47 < (y30.length : Int))) then (bif (decide (0 ≤ q47) && decide (q47 < (y30.length : Int))) then (bif (decide (0 ≤ (y30.getD ((0 : Int) + q47).toNat (0 : Int))) && decide ((y30.getD ((0 : Int) + q47).toNat (0 : Int)) < (q43.length : Int))) then (bif (Nat.ble (q48.length + [(q43.getD ((0 : Int) + (y30.getD ((0 : Int) + q47).toNat (0 : Int))).toNat (0 : Int))].length) (lim 8)) then L46 (w (q47 + (1 : Int))) (q48 ++ [(q43.getD ((0 : Int) + (y30.getD ((0 : Int) + q47).toNat (0 : Int))).toNat (0 : Int))]) else none) else none) else none) else some ((q40, q41), a1, a2, q48))
def f290_l46 (K : Nat) (a0 : (List Int) × Int × Int) (a1 : Int) (a2 : Int × Int × Int) (q39 q40 q41 : Int) (q42 q43 : List Int) (y1 : Int) (y2 : tA × Int × Int) (y3 : tV × Int) (y30 : List Int) (y31 : tV × Int) (n : Nat) (q47 : Int) (q48 : List Int) : Option (tV × Int × tL × List Int) :=
  iter (X := Int × List Int) (fun L x => (fun L46 => f290_b46 K a0 a1 a2 q39 q40 q41 q42 q43 y1 y2 y3 y30 y31 L46 x.1 x.2) (fun v0 v1 => L (v0, v1))) n (q47, q48)
def f290_fr46 (a0 : (List Int) × Int × Int) (a1 : Int) (a2 : Int × Int × Int) (q39 q40 q41 : Int) (q42 q43 : List Int) (y1 : Int) (y2 : tA × Int × Int) (y3 : tV × Int) (y30 : List Int) (y31 : tV × Int) (q47 : Int) (q48 : List Int) : Fr := ⟨88, [(0, .v false [.box 0 0]), (1, .v false [.int .i64 a1]), (2, .v true [.int .i64 a2.1, .int .i64 a2.2.1, .int .i64 a2.2.2]), (5, .v false [.box 1 0]), (6, .v false [.box 2 0]), (7, .v false [.box 3 0]), (8, .v false [.row 1]), (11, .v false [.row 2]), (12, .v false [.row 3]), (13, .v false [.int .i64 (w ((2 : Int) + y31.2))]), (14, .v false [.int .i64 q39]), (15, .v false [.int .i64 q47]), (23, .v false [.bool (y1 != (0 : Int))]), (29, .v false [.bool (decide (y3.2 > (0 : Int)))]), (60, .v false [.bool (decide (q39 < (y30.length : Int)))])], [some ⟨true, [.row 0, .int .i64 q40, .int .i64 q41]⟩, some ⟨true, [.int .i64 a2.1, .int .i64 a2.2.1, .int .i64 a2.2.2]⟩, some ⟨true, [.int .i64 (0 : Int), .int .i64 (0 : Int), .int .i64 (0 : Int), .int .i64 (0 : Int), .row 4]⟩, some ⟨true, [.int .i64 a1, .int .i64 a2.1, .int .i64 a2.2.1, .int .i64 a2.2.2, .row 5]⟩], [some ⟨5, (.int .u8), a0.1, .ro⟩, some ⟨95, sM, [y2], .own⟩, some ⟨2, sI, y30, .own⟩, some ⟨2, sI, q43, .own⟩, some ⟨2, sI, q42, .own⟩, some ⟨2, sI, q48, .own⟩]⟩
def f290_b38 (K : Nat) (a0 : (List Int) × Int × Int) (a1 : Int) (a2 : Int × Int × Int) (y1 : Int) (y2 : tA × Int × Int) (y3 : tV × Int) (y30 : List Int) (y31 : tV × Int) (I46 : Int → Int → Int → (List Int) → (List Int) → Int → tM → (tV × Int) → (List Int) → (tV × Int) → Int → (List Int) → Option (tV × Int × tL × List Int)) (L38 : Int → Int → Int → (List Int) → (List Int) → Option (tV × Int × tL × List Int)) (q39 q40 q41 : Int) (q42 q43 : List Int) : Option (tV × Int × tL × List Int) :=
  (bif (decide (q39 < (y30.length : Int))) then (f194G K (a0.1, q40, q41) (w ((2 : Int) + y31.2))).bind fun y44 => (bif (Nat.ble (q43.length + [y44.2].length) (lim 8)) then L38 (w (q39 + (1 : Int))) y44.1.1 y44.1.2 q42 (q43 ++ [y44.2]) else none) else I46 q39 q40 q41 q42 q43 y1 y2 y3 y30 y31 (0 : Int) [])
def f290_l38 (K : Nat) (a0 : (List Int) × Int × Int) (a1 : Int) (a2 : Int × Int × Int) (y1 : Int) (y2 : tA × Int × Int) (y3 : tV × Int) (y30 : List Int) (y31 : tV × Int) (n : Nat) (q39 q40 q41 : Int) (q42 q43 : List Int) : Option (tV × Int × tL × List Int) :=
  iter (X := Int × Int × Int × List Int × List Int) (fun L x => (fun L38 => f290_b38 K a0 a1 a2 y1 y2 y3 y30 y31 (fun c0 c1 c2 c3 c4 c5 c6 c7 c8 c9 d0 d1 => f290_l46 K a0 a1 a2 c0 c1 c2 c3 c4 c5 c6 c7 c8 c9 K d0 d1) L38 x.1 x.2.1 x.2.2.1 x.2.2.2.1 x.2.2.2.2) (fun v0 v1 v2 v3 v4 => L (v0, v1, v2, v3, v4))) n (q39, q40, q41, q42, q43)
def f290_fr38 (a0 : (List Int) × Int × Int) (a1 : Int) (a2 : Int × Int × Int) (y1 : Int) (y2 : tA × Int × Int) (y3 : tV × Int) (y30 : List Int) (y31 : tV × Int) (q39 q40 q41 : Int) (q42 q43 : List Int) : Fr := ⟨88, [(0, .v false [.box 0 0]), (1, .v false [.int .i64 a1]), (2, .v true [.int .i64 a2.1, .int .i64 a2.2.1, .int .i64 a2.2.2]), (5, .v false [.box 1 0]), (6, .v false [.box 2 0]), (7, .v false [.box 3 0]), (8, .v false [.row 1]), (11, .v false [.row 2]), (12, .v false [.row 3]), (13, .v false [.int .i64 (w ((2 : Int) + y31.2))]), (14, .v false [.int .i64 q39]), (23, .v false [.bool (y1 != (0 : Int))]), (29, .v false [.bool (decide (y3.2 > (0 : Int)))])], [some ⟨true, [.row 0, .int .i64 q40, .int .i64 q41]⟩, some ⟨true, [.int .i64 a2.1, .int .i64 a2.2.1, .int .i64 a2.2.2]⟩, some ⟨true, [.int .i64 (0 : Int), .int .i64 (0 : Int), .int .i64 (0 : Int), .int .i64 (0 : Int), .row 4]⟩, some ⟨true, [.int .i64 a1, .int .i64 a2.1, .int .i64 a2.2.1, .int .i64 a2.2.2, .row 5]⟩], [some ⟨5, (.int .u8), a0.1, .ro⟩, some ⟨95, sM, [y2], .own⟩, some ⟨2, sI, y30, .own⟩, some ⟨2, sI, q43, .own⟩, some ⟨2, sI, q42, .own⟩, some ⟨2, sI, [], .own⟩]⟩
def f290_k20 (K : Nat) (a0 : (List Int) × Int × Int) (a1 : Int) (a2 : Int × Int × Int) (lr : LR (tV × Int × tL × List Int)) : Ex → Fr → Option (tV × Int × tL × List Int) :=
  contC (f290E K) 1 lr f290C [1, 1, 1, 1, 1, 1, 1, 1, 0, 1, 0] (finP (f290E K) Tryz.f290 sV [(.cons sI (.cons sL (.list 2 sI)))])
def f290_k8 (K : Nat) (a0 : (List Int) × Int × Int) (a1 : Int) (a2 : Int × Int × Int) (lr : LR (tV × Int × tL × List Int)) : Ex → Fr → Option (tV × Int × tL × List Int) :=
  contC (f290E K) 1 lr f290C [1, 1, 1, 1, 0, 1, 0, 1, 0, 1, 0] (finP (f290E K) Tryz.f290 sV [(.cons sI (.cons sL (.list 2 sI)))])
def f290_k38 (K : Nat) (a0 : (List Int) × Int × Int) (a1 : Int) (a2 : Int × Int × Int) (lr : LR (tV × Int × tL × List Int)) : Ex → Fr → Option (tV × Int × tL × List Int) :=
  contC (f290E K) 1 lr f290C [1, 1, 1, 1, 1, 1, 1, 1, 0, 1, 0] (finP (f290E K) Tryz.f290 sV [(.cons sI (.cons sL (.list 2 sI)))])
def f290_k27 (K : Nat) (a0 : (List Int) × Int × Int) (a1 : Int) (a2 : Int × Int × Int) (lr : LR (tV × Int × tL × List Int)) : Ex → Fr → Option (tV × Int × tL × List Int) :=
  contC (f290E K) 1 lr f290C [1, 1, 1, 1, 1, 1, 1, 1, 1, 0, 1, 0] (finP (f290E K) Tryz.f290 sV [(.cons sI (.cons sL (.list 2 sI)))])
def f290_k46 (K : Nat) (a0 : (List Int) × Int × Int) (a1 : Int) (a2 : Int × Int × Int) (lr : LR (tV × Int × tL × List Int)) : Ex → Fr → Option (tV × Int × tL × List Int) :=
  contC (f290E K) 1 lr f290C [1, 1, 1, 1, 1, 1, 1, 1, 1, 0, 1, 0] (finP (f290E K) Tryz.f290 sV [(.cons sI (.cons sL (.list 2 sI)))])
def f290_g (K : Nat) (a0 : (List Int) × Int × Int) (a1 : Int) (a2 : Int × Int × Int) (I8 : Int → tM → (tV × Int) → Int → Int → Int → (List tM) → Option (tV × Int × tL × List Int)) (I38 : Int → tM → (tV × Int) → (List Int) → (tV × Int) → Int → Int → Int → (List Int) → (List Int) → Option (tV × Int × tL × List Int)) : Option (tV × Int × tL × List Int) :=
  (f229G K a1 a2).bind fun y1 => (bif (y1 != (0 : Int)) then some (a0.2, a1, a2, []) else (f306G K).bind fun y2 => (f194G K a0 (4 : Int)).bind fun y3 => (bif (decide (y3.2 > (0 : Int))) then (f194G K (a0.1, y3.1) (2 : Int)).bind fun y4 => I8 y1 y2 y3 (w ((1 : Int) + y4.2)) y4.1.1 y4.1.2 [] else (f126G K a2 [y2]).bind fun y30 => (f194G K (a0.1, y3.1) (3 : Int)).bind fun y31 => I38 y1 y2 y3 y30 y31 (0 : Int) y31.1.1 y31.1.2 [] []))
def f290G (K : Nat) (a0 : (List Int) × Int × Int) (a1 : Int) (a2 : Int × Int × Int) : Option (tV × Int × tL × List Int) :=
  f290_g K a0 a1 a2 (fun c0 c1 c2 d0 d1 d2 d3 => f290_l8 K a0 a1 a2 c0 c1 c2 K d0 d1 d2 d3) (fun c0 c1 c2 c3 c4 d0 d1 d2 d3 d4 => f290_l38 K a0 a1 a2 c0 c1 c2 c3 c4 K d0 d1 d2 d3 d4)
def f290M (K : Nat) : PMdl := ⟨5, (.int .u8), sV, [(.ro, sI), (.ro, sL)], [(.cons sI (.cons sL (.list 2 sI)))], fun x => f290G K x.1 x.2.1 x.2.2.1⟩
def f195E (K : Nat) : Env := ⟨[], tys, eqs, mts, K, [0, 2, 3, 4, 5, 16, 17, 24, 29], [(194, f194M K), (196, f196M K), (227, f227M K), (290, f290M K)], []⟩
def f195G (K : Nat) (a0 : (List Int) × Int × Int) : Option (tV × Int × tL × List Int) :=
  (f227G K a0).bind fun y1 => (f290G K (a0.1, y1.1) y1.2.1 y1.2.2).bind fun y2 => (f194G K (a0.1, y2.1) (60 : Int)).bind fun y3 => (bif (y3.2 == (0 : Int)) then (bif (Nat.ble (y2.2.2.2.length + [(0 : Int)].length) (lim 8)) then some (y3.1, y2.2.1, y2.2.2.1, (y2.2.2.2 ++ [(0 : Int)])) else none) else (bif (y3.2 == (1 : Int)) then (bif (decide ((y2.2.2.2.length : Int) > (0 : Int))) then (f196G K (a0.1, y3.1) [(-1 : Int), (9 : Int), (10 : Int)]).bind fun y4 => (bif (decide (0 ≤ (0 : Int)) && decide ((0 : Int) < (y2.2.2.2.length : Int))) then some (y4.1, y2.2.1, y2.2.2.1, (y2.2.2.2.set ((0 : Int) + (0 : Int)).toNat y4.2)) else none) else some (y3.1, y2.2)) else some (y3.1, y2.2)))
def f195M (K : Nat) : PMdl := ⟨5, (.int .u8), sV, [], [(.cons sI (.cons sL (.list 2 sI)))], fun x => f195G K x.1⟩
def f78E (K : Nat) : Env := ⟨[], tys, eqs, mts, K, [0, 2, 3, 4, 9], [(194, f194M K), (195, f195M K), (196, f196M K), (199, f199M K), (200, f200M K)], [(174, f174M K)]⟩
def f78G (K : Nat) (a0 : List Int) : Option ((List (tV × Int)) × Int) :=
  (f174G K a0).bind fun y1 => (f194G K (a0, y1) (12 : Int)).bind fun y2 => (bif (y2.2 == (0 : Int)) then (f199G K (a0, y2.1)).bind fun y3 => (f196G K (a0, y3.1) [(0 : Int), (1 : Int), (64 : Int), (65 : Int)]).bind fun y4 => some (y3.2, y4.2) else (f195G K (a0, y2.1)).bind fun y5 => (f200G K (a0, y5.1) y5.2).bind fun y6 => (f194G K (a0, y6.1) (12 : Int)).bind fun y7 => some (y6.2, (w ((1 : Int) + y7.2))))
def f78M (K : Nat) : Mdl := ⟨[(.ro, (.list 5 (.int .u8)))], [(.list 133 (.cons sV sI)), sI], fun x => f78G K x.1⟩
def f293C : Code := codeOf Tryz.f293
def f293E (K : Nat) : Env := ⟨[], tys, eqs, mts, K, [0, 2, 3, 4, 5, 9, 12, 13, 14, 19], [], []⟩
def f293_b9 (K : Nat) (a0 q7 : Int) (L6 L9 : Int → (List tL) → Option (List tL)) (q10 : Int) (q11 : List tL) : Option (List tL) :=
  (bif (decide (q10 < q7)) then (bif (q7 != 0) then (bif ((a0.tmod q7) == (0 : Int)) then (bif (q7 != 0) then (bif (Nat.ble (q11.length + [(q7, q10, (w (a0.tdiv q7)))].length) (lim 24)) then L9 (w (q10 + (1 : Int))) (q11 ++ [(q7, q10, (w (a0.tdiv q7)))]) else none) else none) else L9 (w (q10 + (1 : Int))) q11) else none) else L6 (w (q7 + (1 : Int))) q11)
def f293_l9 (K : Nat) (a0 q7 : Int) (L6 : Int → (List tL) → Option (List tL)) (n : Nat) (q10 : Int) (q11 : List tL) : Option (List tL) :=
  iter (X := Int × List tL) (fun L x => (fun L9 => f293_b9 K a0 q7 L6 L9 x.1 x.2) (fun v0 v1 => L (v0, v1))) n (q10, q11)
def f293_fr9 (a0 q7 q10 : Int) (q11 : List tL) : Fr := ⟨31, [(0, .v false [.int .i64 a0]), (2, .v false [.row 0]), (3, .v false [.row 1]), (4, .v false [.int .i64 q7]), (9, .v false [.bool (decide (q7 ≤ a0))]), (12, .v false [.int .i64 q7]), (13, .v false [.int .i64 q10])], [], [some ⟨31, sL, [], .own⟩, some ⟨31, sL, q11, .own⟩]⟩
def f293_b6 (K : Nat) (a0 : Int) (I9 : Int → Int → (List tL) → Option (List tL)) (L6 : Int → (List tL) → Option (List tL)) (q7 : Int) (q8 : List tL) : Option (List tL) :=
  (bif (decide (q7 ≤ a0)) then I9 q7 (0 : Int) q8 else some q8)
def f293_l6 (K : Nat) (a0 : Int) (n : Nat) (q7 : Int) (q8 : List tL) : Option (List tL) :=
  iter (X := Int × List tL) (fun L x => (fun L6 => f293_b6 K a0 (fun c0 d0 d1 => f293_l9 K a0 c0 L6 K d0 d1) L6 x.1 x.2) (fun v0 v1 => L (v0, v1))) n (q7, q8)
def f293_fr6 (a0 q7 : Int) (q8 : List tL) : Fr := ⟨31, [(0, .v false [.int .i64 a0]), (2, .v false [.row 0]), (3, .v false [.row 1]), (4, .v false [.int .i64 q7])], [], [some ⟨31, sL, [], .own⟩, some ⟨31, sL, q8, .own⟩]⟩
def f293_k6 (K : Nat) (a0 : Int) (lr : LR (List tL)) : Ex → Fr → Option (List tL) :=
  contC (f293E K) 0 lr f293C [1, 1, 0, 1, 0] (finK (f293E K) Tryz.f293 [(.ro, sI)] [(.list 31 sL)] (a0, ()))
def f293_k9 (K : Nat) (a0 : Int) (F6 : Fr → Option (List tL)) (bq7 : Int) (bq8 : List tL) (lr : LR (List tL)) : Ex → Fr → Option (List tL) :=
  contC (f293E K) 0 lr (selC f293C [1, 1, 0, 1, 0, 0]) [1, 0, 0, 1, 0] (loopK 0 (f293_fr6 a0 bq7 bq8) F6 (f293_k6 K a0 lr))
def f293_g (K : Nat) (a0 : Int) (I6 : Int → (List tL) → Option (List tL)) : Option (List tL) :=
  I6 (1 : Int) []
def f293G (K : Nat) (a0 : Int) : Option (List tL) :=
  f293_g K a0 (fun d0 d1 => f293_l6 K a0 K d0 d1)
def f293M (K : Nat) : Mdl := ⟨[(.ro, sI)], [(.list 31 sL)], fun x => f293G K x.1⟩
def f294E (K : Nat) : Env := ⟨[(148, f148M K)], tys, eqs, mts, K, [0, 1, 2, 3, 4, 7], [], []⟩
def f294G (K : Nat) (a0 : Int × Int × Int) (a1 : List tM) (a2 : List (tV × Int)) : Option Bool :=
  (f148G K a0 a1 a2).bind fun y1 => some y1.2.2
def f294M (K : Nat) : Mdl := ⟨[(.ro, sL), (.cap, (.list 95 sM)), (.cap, (.list 133 (.cons sV sI)))], [.bool], fun x => f294G K x.1 x.2.1 x.2.2.1⟩
def f346C : Code := codeOf Tryz.f346
def f346E (K : Nat) : Env := ⟨[], tys, eqs, mts, K, [0, 1, 4, 5, 7, 8, 9, 16], [], []⟩
def f346_b3 (K : Nat) (a0 : List tL) (a1 : (tL → Option Bool)) (L3 : Int → Option Int) (q4 : Int) : Option Int :=
  (bif (decide (q4 < (a0.length : Int))) then (bif (decide (0 ≤ q4) && decide (q4 < (a0.length : Int))) then (a1 ((a0.getD ((0 : Int) + q4).toNat ((0 : Int), ((0 : Int), (0 : Int)))).1, ((a0.getD ((0 : Int) + q4).toNat ((0 : Int), ((0 : Int), (0 : Int)))).2))).bind fun y5 => (bif y5 then some q4 else L3 (w (q4 + (1 : Int)))) else none) else some (-1 : Int))
def f346_l3 (K : Nat) (a0 : List tL) (a1 : (tL → Option Bool)) (n : Nat) (q4 : Int) : Option Int :=
  iter (X := Int) (fun L x => (fun L3 => f346_b3 K a0 a1 L3 x) (fun v0 => L v0)) n q4
def f346_fr3 (a0 : List tL) (a1 : (tL → Option Bool)) (q4 : Int) : Fr := ⟨19, [(0, .v false [.row 0]), (1, .v false [.fv1 sL .bool a1]), (4, .v false [.int .i64 (0 : Int)]), (7, .v false [.int .i64 (a0.length : Int)]), (8, .v false [.int .i64 q4])], [], [some ⟨31, sL, a0, .ro⟩]⟩
def f346_k3 (K : Nat) (a0 : List tL) (a1 : (tL → Option Bool)) (lr : LR Int) : Ex → Fr → Option Int :=
  contC (f346E K) 1 lr f346C [1, 0, 1, 0] (finK (f346E K) Tryz.f346 [(.ro, (.list 31 sL)), (.ro, (.fn1 sL .bool))] [sI] (a0, a1, ()))
def f346_g (K : Nat) (a0 : List tL) (a1 : (tL → Option Bool)) (I3 : Int → Option Int) : Option Int :=
  I3 (0 : Int)
def f346G (K : Nat) (a0 : List tL) (a1 : (tL → Option Bool)) : Option Int :=
  f346_g K a0 a1 (fun d0 => f346_l3 K a0 a1 K d0)
def f346M (K : Nat) : Mdl := ⟨[(.ro, (.list 31 sL)), (.ro, (.fn1 sL .bool))], [sI], fun x => f346G K x.1 x.2.1⟩
def f292C : Code := codeOf Tryz.f292
def f292E (K : Nat) : Env := ⟨[(346, f346M K)], tys, eqs, mts, K, [0, 1, 4, 5, 6, 7, 12, 19, 29], [], []⟩
def f292_b4 (K : Nat) (a1 : (tL → Option Bool)) (y1 : Int) (L4 : Int → Int → (List tL) → Option (List tL)) (q5 q6 : Int) (q7 : List tL) : Option (List tL) :=
  (bif (decide (q6 < (q7.length : Int))) then (bif (decide (0 ≤ q6) && decide (q6 < (q7.length : Int))) then (a1 ((q7.getD ((0 : Int) + q6).toNat ((0 : Int), ((0 : Int), (0 : Int)))).1, ((q7.getD ((0 : Int) + q6).toNat ((0 : Int), ((0 : Int), (0 : Int)))).2))).bind fun y8 => (bif (!y8) then (bif (decide (0 ≤ q5) && decide (q5 < (q7.length : Int))) then L4 (w (q5 + (1 : Int))) (w (q6 + (1 : Int))) (q7.set ((0 : Int) + q5).toNat ((q7.getD ((0 : Int) + q6).toNat ((0 : Int), ((0 : Int), (0 : Int)))).1, ((q7.getD ((0 : Int) + q6).toNat ((0 : Int), ((0 : Int), (0 : Int)))).2))) else none) else L4 q5 (w (q6 + (1 : Int))) q7) else none) else (bif (decide (0 ≤ q5) && decide (q5 ≤ (q7.length : Int)) && decide ((q7.length : Int) ≤ (q7.length : Int))) then (bif (decide (0 ≤ (0 : Int)) && decide ((0 : Int) ≤ q5) && decide (q5 ≤ ((clr q7 ((0 : Int) + q5).toNat (((0 : Int) + q5) + (((0 : Int) + (q7.length : Int)) - ((0 : Int) + q5))).toNat ((0 : Int), ((0 : Int), (0 : Int)))).length : Int))) then some ((clr q7 ((0 : Int) + q5).toNat (((0 : Int) + q5) + (((0 : Int) + (q7.length : Int)) - ((0 : Int) + q5))).toNat ((0 : Int), ((0 : Int), (0 : Int)))).take ((0 : Int) + q5).toNat) else none) else none))
def f292_l4 (K : Nat) (a1 : (tL → Option Bool)) (y1 : Int) (n : Nat) (q5 q6 : Int) (q7 : List tL) : Option (List tL) :=
  iter (X := Int × Int × List tL) (fun L x => (fun L4 => f292_b4 K a1 y1 L4 x.1 x.2.1 x.2.2) (fun v0 v1 v2 => L (v0, v1, v2))) n (q5, q6, q7)
def f292_fr4 (a1 : (tL → Option Bool)) (y1 q5 q6 : Int) (q7 : List tL) : Fr := ⟨42, [(0, .v false [.row 0]), (1, .v false [.fv1 sL .bool a1]), (4, .v false [.row 1]), (5, .v false [.int .i64 q5]), (6, .v false [.int .i64 q6]), (12, .v false [.bool (y1 == (-1 : Int))])], [], [some ⟨31, sL, q7, .own⟩, some ⟨31, sL, [], .own⟩]⟩
def f292_k4 (K : Nat) (a0 : List tL) (a1 : (tL → Option Bool)) (lr : LR (List tL)) : Ex → Fr → Option (List tL) :=
  contC (f292E K) 1 lr f292C [1, 1, 1, 0, 1, 0] (finK (f292E K) Tryz.f292 [(.mv, (.list 31 sL)), (.ro, (.fn1 sL .bool))] [(.list 31 sL)] (a0, a1, ()))
def f292_g (K : Nat) (a0 : List tL) (a1 : (tL → Option Bool)) (I4 : Int → Int → Int → (List tL) → Option (List tL)) : Option (List tL) :=
  (f346G K a0 a1).bind fun y1 => (bif (y1 == (-1 : Int)) then some a0 else I4 y1 y1 (w (y1 + (1 : Int))) a0)
def f292G (K : Nat) (a0 : List tL) (a1 : (tL → Option Bool)) : Option (List tL) :=
  f292_g K a0 a1 (fun c0 d0 d1 d2 => f292_l4 K a1 c0 K d0 d1 d2)
def f292M (K : Nat) : Mdl := ⟨[(.mv, (.list 31 sL)), (.ro, (.fn1 sL .bool))], [(.list 31 sL)], fun x => f292G K x.1 x.2.1⟩
def f202E (K : Nat) : Env := ⟨[(231, f231M K), (292, f292M K), (293, f293M K), (294, f294M K)], tys, eqs, mts, K, [0, 1, 2, 4, 5], [], []⟩
def f202G (K : Nat) (a0 : List (tV × Int)) (a1 : Int) : Option (List tL) :=
  (f231G K).bind fun y1 => (f293G K a1).bind fun y2 => (f292G K y2 (fun z3 => f294G K z3 [(y1, (0 : Int), (0 : Int))] a0)).bind fun y4 => some y4
def f202M (K : Nat) : Mdl := ⟨[(.ro, (.list 133 (.cons sV sI))), (.ro, sI)], [(.list 31 sL)], fun x => f202G K x.1 x.2.1⟩
def f79E (K : Nat) : Env := ⟨[(95, f95M K), (146, f146M K), (202, f202M K)], tys, eqs, mts, K, [0, 1, 4, 5, 13], [], []⟩
def f79G (K : Nat) (a0 : List (tV × Int)) (a1 : Int) : Option ((List tL) × Int) :=
  (f95G K a0).bind fun y1 => (bif ((!(!(!y1))) || true) then ((bif (!(!y1)) then f146G K a1 (1 : Int) (64 : Int) else some false)).bind fun y2 => (bif ((!(!(!y1))) || true) then (bif (bif (!y1) then true else (!y2)) then some ([], (2 : Int)) else (f202G K a0 a1).bind fun y3 => some (y3, (0 : Int))) else none) else none)
def f79M (K : Nat) : Mdl := ⟨[(.ro, (.list 133 (.cons sV sI))), (.ro, sI)], [(.list 31 sL), sI], fun x => f79G K x.1 x.2.1⟩
def f295C : Code := codeOf Tryz.f295
def f295E (K : Nat) : Env := ⟨[(141, f141M K)], tys, eqs, mts, K, [0, 2, 3, 4, 5, 6, 9, 13, 24], [], []⟩
def f295_b10 (K : Nat) (a0 q8 : Int) (y1 : Bool) (L7 : Int → (List tL) → Option ((List tL) × Int)) (L10 : Int → (List tL) → Option ((List tL) × Int)) (q11 : Int) (q12 : List tL) : Option ((List tL) × Int) :=
  (bif (q8 != 0) then (bif ((!((a0.tmod q8) == (0 : Int))) || true) then (bif ((!((a0.tmod q8) == (0 : Int))) || true) then (bif ((!((a0.tmod q8) == (0 : Int))) || true) then (bif (bif ((a0.tmod q8) == (0 : Int)) then (decide (q11 < q8)) else false) then (bif (q8 != 0) then (bif (Nat.ble (q12.length + [(q8, q11, (w (a0.tdiv q8)))].length) (lim 24)) then L10 (w (q11 + (1 : Int))) (q12 ++ [(q8, q11, (w (a0.tdiv q8)))]) else none) else none) else L7 (w (q8 + (1 : Int))) q12) else none) else none) else none) else none)
def f295_l10 (K : Nat) (a0 q8 : Int) (y1 : Bool) (L7 : Int → (List tL) → Option ((List tL) × Int)) (n : Nat) (q11 : Int) (q12 : List tL) : Option ((List tL) × Int) :=
  iter (X := Int × List tL) (fun L x => (fun L10 => f295_b10 K a0 q8 y1 L7 L10 x.1 x.2) (fun v0 v1 => L (v0, v1))) n (q11, q12)
def f295_fr10 (a0 q8 : Int) (y1 : Bool) (q11 : Int) (q12 : List tL) : Fr := ⟨37, [(0, .v false [.int .i64 a0]), (2, .v false [.row 0]), (3, .v false [.int .i64 (0 : Int)]), (4, .v false [.row 1]), (5, .v false [.int .i64 q8]), (6, .v false [.int .i64 q11]), (9, .v false [.bool (!y1)]), (13, .v false [.bool (decide (q8 ≤ a0))])], [], [some ⟨31, sL, [], .own⟩, some ⟨31, sL, q12, .own⟩]⟩
def f295_b7 (K : Nat) (a0 : Int) (y1 : Bool) (I10 : Int → Int → (List tL) → Option ((List tL) × Int)) (L7 : Int → (List tL) → Option ((List tL) × Int)) (q8 : Int) (q9 : List tL) : Option ((List tL) × Int) :=
  (bif (decide (q8 ≤ a0)) then I10 q8 (0 : Int) q9 else some (q9, (0 : Int)))
def f295_l7 (K : Nat) (a0 : Int) (y1 : Bool) (n : Nat) (q8 : Int) (q9 : List tL) : Option ((List tL) × Int) :=
  iter (X := Int × List tL) (fun L x => (fun L7 => f295_b7 K a0 y1 (fun c0 d0 d1 => f295_l10 K a0 c0 y1 L7 K d0 d1) L7 x.1 x.2) (fun v0 v1 => L (v0, v1))) n (q8, q9)
def f295_fr7 (a0 : Int) (y1 : Bool) (q8 : Int) (q9 : List tL) : Fr := ⟨37, [(0, .v false [.int .i64 a0]), (2, .v false [.row 0]), (3, .v false [.int .i64 (0 : Int)]), (4, .v false [.row 1]), (5, .v false [.int .i64 q8]), (9, .v false [.bool (!y1)])], [], [some ⟨31, sL, [], .own⟩, some ⟨31, sL, q9, .own⟩]⟩
def f295_k7 (K : Nat) (a0 : Int) (lr : LR ((List tL) × Int)) : Ex → Fr → Option ((List tL) × Int) :=
  contC (f295E K) 0 lr f295C [1, 1, 1, 0, 1, 0] (finK (f295E K) Tryz.f295 [(.ro, sI)] [(.list 31 sL), sI] (a0, ()))
def f295_k10 (K : Nat) (a0 : Int) (y1 : Bool) (F7 : Fr → Option ((List tL) × Int)) (bq8 : Int) (bq9 : List tL) (lr : LR ((List tL) × Int)) : Ex → Fr → Option ((List tL) × Int) :=
  contC (f295E K) 0 lr (selC f295C [1, 1, 1, 0, 1, 0, 0]) [1, 0, 0, 1, 0] (loopK 0 (f295_fr7 a0 y1 bq8 bq9) F7 (f295_k7 K a0 lr))
def f295_g (K : Nat) (a0 : Int) (I7 : Bool → Int → (List tL) → Option ((List tL) × Int)) : Option ((List tL) × Int) :=
  (f141G K a0 (1 : Int) (64 : Int)).bind fun y1 => (bif (!y1) then some ([], (2 : Int)) else I7 y1 (1 : Int) [])
def f295G (K : Nat) (a0 : Int) : Option ((List tL) × Int) :=
  f295_g K a0 (fun c0 d0 d1 => f295_l7 K a0 c0 K d0 d1)
def f295M (K : Nat) : Mdl := ⟨[(.ro, sI)], [(.list 31 sL), sI], fun x => f295G K x.1⟩
end
end Go.Proofs.YtfccacobkcglcaaGreat.X
