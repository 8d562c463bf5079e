/- Functions of the program as plain Lean functions, and that the program does what they say. Printed by gen.py. -/
import Derived.Test.YtniidcalfhhciaaGreatQzXLoop
import Derived.Test.YtniidcalfhhciaaGreatQzXLib
import Derived.Test.YtniidcalfhhciaaGreatProg
namespace Go.Proofs.YtniidcalfhhciaaGreat.X
open Go
set_option maxRecDepth 100000
set_option linter.unusedVariables false
abbrev tM : Type := ((Int × Int × Int × Int) × Int × Int)
abbrev tA : Type := (Int × Int × Int × Int)
abbrev tL : Type := (Int × Int × Int)
abbrev tV : Type := (Int × Int)
abbrev sM : Sh := (.cons (.cons (.int .i64) (.cons (.int .i64) (.cons (.int .i64) (.int .i64)))) (.cons (.int .i64) (.int .i64)))
abbrev sA : Sh := (.cons (.int .i64) (.cons (.int .i64) (.cons (.int .i64) (.int .i64))))
abbrev sL : Sh := (.cons (.int .i64) (.cons (.int .i64) (.int .i64)))
abbrev sV : Sh := (.cons (.int .i64) (.int .i64))
abbrev sI : Sh := (.int .i64)
abbrev zM : tM := (((0 : Int), ((0 : Int), ((0 : Int), (0 : Int)))), ((0 : Int), (0 : Int)))
abbrev zA : tA := ((0 : Int), ((0 : Int), ((0 : Int), (0 : Int))))
noncomputable def tys : List (Nat × Ty) := [(2, .sc sI), (3, .sc sI), (4, .sc .bool), (5, .sc (.int .u8)), (9, .sc .str), (22, .sl 5 (.int .u8) 1), (25, .st sL [(0, 1), (1, 1), (2, 1)]), (26, .sl 2 sI 8), (38, .sl 57 sM 48), (53, .st sA [(0, 1), (1, 1), (2, 1), (3, 1)]), (55, .st sV [(0, 1), (1, 1)]), (57, .st sM [(0, 4), (4, 2)]), (58, .sl 55 sV 16), (62, .sl 58 (.list 55 sV) 24), (164, .sc (.int .u64)), (237, .st (.cons (.list 5 (.int .u8)) sV) [(0, 1), (1, 1), (2, 1)]), (243, .sl 53 sA 32), (266, .sl 38 (.list 57 sM) 24)]
noncomputable def eqs : List (Nat × List Sh) := [(25, [sI, sI, sI]), (53, [sI, sI, sI, sI]), (55, [sI, sI]), (57, [sI, sI, sI, sI, sI, sI])]
noncomputable def mts : List (Nat × MTy) := [(257, ⟨55, 4, sV, .bool⟩), (272, ⟨57, 4, sM, .bool⟩)]
theorem tab_ok : tabB Tryz.prog tys eqs mts = true := by kernel_rfl
theorem mixed_ok : Tryz.prog.follows .mixedOrders = true := by kernel_rfl
/-! laws.big -/
noncomputable def f14E (K : Nat) : Env := ⟨[], tys, eqs, mts, K, [0, 2], [], []⟩
noncomputable def f14G (K : Nat) (a0 : List Int) : Option Bool :=
  some (decide ((a0.length : Int) > (4096 : Int)))
noncomputable def f14M (K : Nat) : Mdl := ⟨[(.ro, (.list 5 (.int .u8)))], [.bool], fun x => f14G K x.1⟩
/-! spec.l01From -/
noncomputable def f124C : Code := codeOf Tryz.f124
noncomputable def f124E (K : Nat) : Env := ⟨[], tys, eqs, mts, K, [0, 2, 3, 4, 15], [], []⟩
noncomputable def f124_b2 (K : Nat) (a0 : List Int) (L2 : Int → Int → Option tV) (q3 : Int) (q4 : Int) : Option tV :=
  (bif ((!(decide (q3 < (a0.length : Int)))) || true) then (bif ((!(decide (q3 < (a0.length : Int)))) || true) then (bif (bif (decide (q3 < (a0.length : Int))) then (decide (q3 < (64 : Int))) else false) then (bif (decide (0 ≤ q3) && decide (q3 < (a0.length : Int))) then L2 (w (q3 + (1 : Int))) ((w ((w (q4 * (73 : Int))) + (w (a0.getD ((0 : Int) + q3).toNat (0 : Int))))).tmod (2147483647 : Int)) else none) else some ((0 : Int), q4)) else none) else none)
noncomputable def f124_l2 (K : Nat) (a0 : List Int) (n : Nat) (q3 : Int) (q4 : Int) : Option tV :=
  iter (X := Int × Int) (fun L x => (fun L2 => f124_b2 K a0 L2 x.1 x.2) (fun v0 v1 => L (v0, v1))) n (q3, q4)
noncomputable def f124_fr2 (a0 : List Int) (q3 : Int) (q4 : Int) : Fr := ⟨34, [(0, .v false [.row 0]), (2, .v false [.und]), (3, .v false [.box 0 0]), (4, .v false [.int .i64 q3])], [some ⟨true, [.row 0, .int .i64 (0 : Int), .int .i64 q4]⟩], [some ⟨5, (.int .u8), a0, .ro⟩]⟩
noncomputable def f124_k2 (K : Nat) (a0 : List Int) (lr : LR tV) : Ex → Fr → Option tV :=
  contC (f124E K) 1 lr f124C [1, 1, 0, 1, 0] (finN Tryz.f124 sV)
noncomputable def f124_g (K : Nat) (a0 : List Int) (I2 : Int → Int → Option tV) : Option tV :=
  I2 (0 : Int) (93001 : Int)
noncomputable def f124G (K : Nat) (a0 : List Int) : Option tV :=
  f124_g K a0 (fun d0 d1 => f124_l2 K a0 K d0 d1)
noncomputable def f124M (K : Nat) : NMdl := ⟨5, (.int .u8), sV, [], fun x => f124G K x.1⟩
/-! spec.l01Next -/
noncomputable def f140E (K : Nat) : Env := ⟨[], tys, eqs, mts, K, [0, 1, 4, 5, 7, 32, 62], [], []⟩
noncomputable def f140G (K : Nat) (a0 : (List Int) × Int × Int) (a1 : Int) : Option (tV × Int) :=
  (bif (decide (a1 ≤ (1 : Int))) then some (a0.2, (0 : Int)) else (bif (decide (a0.2.1 < (a0.1.length : Int))) then (bif (decide (0 ≤ a0.2.1) && decide (a0.2.1 < (a0.1.length : Int))) then (bif ((!(decide (a1 ≤ (256 : Int)))) || true) then (bif ((!(decide (a1 ≤ (256 : Int)))) || true) then (bif ((!(decide (a1 ≤ (256 : Int)))) || true) then (bif ((!(decide (a1 ≤ (256 : Int)))) || true) then (bif ((!(decide (a1 ≤ (256 : Int)))) || true) then (bif ((!(decide (a1 ≤ (256 : Int)))) || true) then (bif (bif (decide (a1 ≤ (256 : Int))) then (((w (a0.2.1 + (1 : Int))).tmod (2 : Int)) == (0 : Int)) else false) then (bif (decide (0 ≤ (w ((w (a0.2.1 + (1 : Int))) - (1 : Int)))) && decide ((w ((w (a0.2.1 + (1 : Int))) - (1 : Int))) < (a0.1.length : Int))) then (bif (a1 != 0) then some (((w (a0.2.1 + (1 : Int))), ((w ((w (a0.2.2 * (48271 : Int))) + (67 : Int))).tmod (2147483647 : Int))), ((w (a0.1.getD ((0 : Int) + (w ((w (a0.2.1 + (1 : Int))) - (1 : Int)))).toNat (0 : Int))).tmod a1)) else none) else none) else (bif (a1 != 0) then some (((w (a0.2.1 + (1 : Int))), ((w ((w (a0.2.2 * (48271 : Int))) + (67 : Int))).tmod (2147483647 : Int))), ((w ((w (((w ((w (a0.2.2 * (48271 : Int))) + (67 : Int))).tmod (2147483647 : Int)).tdiv (37 : Int))) + (w (a0.1.getD ((0 : Int) + a0.2.1).toNat (0 : Int))))).tmod a1)) else none)) else none) else none) else none) else none) else none) else none) else none) else (bif (a1 != 0) then some ((a0.2.1, ((w ((w (a0.2.2 * (48271 : Int))) + (67 : Int))).tmod (2147483647 : Int))), ((w (((w ((w (a0.2.2 * (48271 : Int))) + (67 : Int))).tmod (2147483647 : Int)).tdiv (37 : Int))).tmod a1)) else none)))
noncomputable def f140M (K : Nat) : PMdl := ⟨5, (.int .u8), sV, [(.ro, sI)], [sI], fun x => f140G K x.1 x.2.1⟩
/-! spec.l13Motions -/
noncomputable def f363E (K : Nat) : Env := ⟨[], tys, eqs, mts, K, [0, 1, 4, 5, 6, 7, 8, 9, 10, 11, 12, 13, 14, 38, 39, 41, 45, 49, 53, 57, 62, 67, 72, 77, 81, 86, 91, 95, 100, 106, 110], [], []⟩
noncomputable def f363G (K : Nat) (a0 : ByteArray) (a1 : Int) : Option (Int × (List tM) × Bool) :=
  (bif (a0 == (bs [112, 49])) then some ((0 : Int), [], true) else (bif (a0 == (bs [112, 50])) then some ((0 : Int), [(((-1 : Int), (0 : Int), (0 : Int), (-1 : Int)), (0 : Int), (0 : Int))], true) else (bif (a0 == (bs [112, 109])) then some ((0 : Int), [(((1 : Int), (0 : Int), (0 : Int), (-1 : Int)), (0 : Int), (0 : Int))], true) else (bif (a0 == (bs [112, 103])) then some ((0 : Int), [(((1 : Int), (0 : Int), (0 : Int), (-1 : Int)), a1, (0 : Int))], true) else (bif (a0 == (bs [99, 109])) then some ((0 : Int), [(((0 : Int), (1 : Int), (1 : Int), (0 : Int)), (0 : Int), (0 : Int))], true) else (bif (a0 == (bs [112, 109, 109])) then some ((0 : Int), [(((1 : Int), (0 : Int), (0 : Int), (-1 : Int)), (0 : Int), (0 : Int)), (((-1 : Int), (0 : Int), (0 : Int), (-1 : Int)), (0 : Int), (0 : Int))], true) else (bif (a0 == (bs [112, 109, 103])) then some ((0 : Int), [(((1 : Int), (0 : Int), (0 : Int), (-1 : Int)), a1, (0 : Int)), (((-1 : Int), (0 : Int), (0 : Int), (-1 : Int)), (0 : Int), (0 : Int))], true) else (bif (a0 == (bs [112, 103, 103])) then some ((0 : Int), [(((1 : Int), (0 : Int), (0 : Int), (-1 : Int)), a1, a1), (((-1 : Int), (0 : Int), (0 : Int), (-1 : Int)), (0 : Int), (0 : Int))], true) else (bif (a0 == (bs [99, 109, 109])) then some ((0 : Int), [(((0 : Int), (1 : Int), (1 : Int), (0 : Int)), (0 : Int), (0 : Int)), (((-1 : Int), (0 : Int), (0 : Int), (-1 : Int)), (0 : Int), (0 : Int))], true) else (bif (a0 == (bs [112, 52])) then some ((0 : Int), [(((0 : Int), (-1 : Int), (1 : Int), (0 : Int)), (0 : Int), (0 : Int))], true) else (bif (a0 == (bs [112, 52, 109])) then some ((0 : Int), [(((0 : Int), (-1 : Int), (1 : Int), (0 : Int)), (0 : Int), (0 : Int)), (((1 : Int), (0 : Int), (0 : Int), (-1 : Int)), (0 : Int), (0 : Int))], true) else (bif (a0 == (bs [112, 52, 103])) then some ((0 : Int), [(((0 : Int), (-1 : Int), (1 : Int), (0 : Int)), (0 : Int), (0 : Int)), (((1 : Int), (0 : Int), (0 : Int), (-1 : Int)), a1, a1)], true) else (bif (a0 == (bs [112, 51])) then some ((1 : Int), [(((-1 : Int), (-1 : Int), (1 : Int), (0 : Int)), (0 : Int), (0 : Int))], true) else (bif (a0 == (bs [112, 51, 109, 49])) then some ((1 : Int), [(((-1 : Int), (-1 : Int), (1 : Int), (0 : Int)), (0 : Int), (0 : Int)), (((0 : Int), (1 : Int), (1 : Int), (0 : Int)), (0 : Int), (0 : Int))], true) else (bif (a0 == (bs [112, 51, 49, 109])) then some ((1 : Int), [(((-1 : Int), (-1 : Int), (1 : Int), (0 : Int)), (0 : Int), (0 : Int)), (((1 : Int), (1 : Int), (0 : Int), (-1 : Int)), (0 : Int), (0 : Int))], true) else (bif (a0 == (bs [112, 54])) then some ((1 : Int), [(((0 : Int), (-1 : Int), (1 : Int), (1 : Int)), (0 : Int), (0 : Int))], true) else (bif (a0 == (bs [112, 54, 109])) then some ((1 : Int), [(((0 : Int), (-1 : Int), (1 : Int), (1 : Int)), (0 : Int), (0 : Int)), (((0 : Int), (1 : Int), (1 : Int), (0 : Int)), (0 : Int), (0 : Int))], true) else some ((0 : Int), [], false))))))))))))))))))
noncomputable def f363M (K : Nat) : Mdl := ⟨[(.ro, .str), (.ro, sI)], [sI, (.list 57 sM), .bool], fun x => f363G K x.1 x.2.1⟩
/-! spec.l01In -/
noncomputable def f195E (K : Nat) : Env := ⟨[], tys, eqs, mts, K, [0, 1, 2, 6], [], []⟩
noncomputable def f195G (K : Nat) (a0 : Int) (a1 : Int) (a2 : Int) : Option Bool :=
  (bif ((!(decide (a0 ≥ a1))) || true) then (bif ((!(decide (a0 ≥ a1))) || true) then (bif ((!(decide (a0 ≥ a1))) || true) then some (bif (decide (a0 ≥ a1)) then (decide (a0 ≤ a2)) else false) else none) else none) else none)
noncomputable def f195M (K : Nat) : Mdl := ⟨[(.ro, sI), (.ro, sI), (.ro, sI)], [.bool], fun x => f195G K x.1 x.2.1 x.2.2.1⟩
/-! spec.l02Unit -/
noncomputable def f218E (K : Nat) : Env := ⟨[], tys, eqs, mts, K, [0], [], []⟩
noncomputable def f218G (K : Nat) : Option tA :=
  some ((1 : Int), (0 : Int), (0 : Int), (1 : Int))
noncomputable def f218M (K : Nat) : Mdl := ⟨[], [sA], fun x => f218G K ⟩
/-! spec.l06Unit -/
noncomputable def f141E (K : Nat) : Env := ⟨[(218, f218M K)], tys, eqs, mts, K, [0], [], []⟩
noncomputable def f141G (K : Nat) : Option tM :=
  (f218G K).bind fun y1 => some (y1, (0 : Int), (0 : Int))
noncomputable def f141M (K : Nat) : Mdl := ⟨[], [sM], fun x => f141G K ⟩
/-! spec.l02Multiply -/
noncomputable def f344E (K : Nat) : Env := ⟨[], tys, eqs, mts, K, [0, 1, 2, 3, 4], [], []⟩
noncomputable def f344G (K : Nat) (a0 : Int × Int × Int × Int) (a1 : Int × Int × Int × Int) : Option tA :=
  some ((w ((w (a0.1 * a1.1)) + (w (a0.2.1 * a1.2.2.1)))), (w ((w (a0.1 * a1.2.1)) + (w (a0.2.1 * a1.2.2.2)))), (w ((w (a0.2.2.1 * a1.1)) + (w (a0.2.2.2 * a1.2.2.1)))), (w ((w (a0.2.2.1 * a1.2.1)) + (w (a0.2.2.2 * a1.2.2.2)))))
noncomputable def f344M (K : Nat) : Mdl := ⟨[(.ro, sA), (.ro, sA)], [sA], fun x => f344G K x.1 x.2.1⟩
/-! spec.l02Apply -/
noncomputable def f278E (K : Nat) : Env := ⟨[], tys, eqs, mts, K, [0, 1, 2, 3, 4], [], []⟩
noncomputable def f278G (K : Nat) (a0 : Int × Int × Int × Int) (a1 : Int × Int) : Option tV :=
  some ((w ((w (a0.1 * a1.1)) + (w (a0.2.1 * a1.2)))), (w ((w (a0.2.2.1 * a1.1)) + (w (a0.2.2.2 * a1.2)))))
noncomputable def f278M (K : Nat) : Mdl := ⟨[(.ro, sA), (.ro, sV)], [sV], fun x => f278G K x.1 x.2.1⟩
/-! spec.l01Add -/
noncomputable def f277E (K : Nat) : Env := ⟨[], tys, eqs, mts, K, [0, 1, 2, 3, 4], [], []⟩
noncomputable def f277G (K : Nat) (a0 : Int × Int) (a1 : Int × Int) : Option tV :=
  some ((w (a0.1 + a1.1)), (w (a0.2 + a1.2)))
noncomputable def f277M (K : Nat) : Mdl := ⟨[(.ro, sV), (.ro, sV)], [sV], fun x => f277G K x.1 x.2.1⟩
/-! spec.l05Compose -/
noncomputable def f276E (K : Nat) : Env := ⟨[(277, f277M K), (278, f278M K), (344, f344M K)], tys, eqs, mts, K, [0, 1, 2, 3, 4], [], []⟩
noncomputable def f276G (K : Nat) (a0 : tA × Int × Int) (a1 : tA × Int × Int) : Option tM :=
  (f344G K a0.1 a1.1).bind fun y1 => (f278G K a0.1 a1.2).bind fun y2 => (f277G K y2 a0.2).bind fun y3 => some (y1, y3)
noncomputable def f276M (K : Nat) : Mdl := ⟨[(.ro, sM), (.ro, sM)], [sM], fun x => f276G K x.1 x.2.1⟩
/-! spec.l01Mod -/
noncomputable def f324E (K : Nat) : Env := ⟨[], tys, eqs, mts, K, [0, 1, 4, 9], [], []⟩
noncomputable def f324G (K : Nat) (a0 : Int) (a1 : Int) : Option Int :=
  (bif (a1 != 0) then (bif (decide ((a0.tmod a1) < (0 : Int))) then some (w ((a0.tmod a1) + a1)) else some (a0.tmod a1)) else none)
noncomputable def f324M (K : Nat) : Mdl := ⟨[(.ro, sI), (.ro, sI)], [sI], fun x => f324G K x.1 x.2.1⟩
/-! spec.l03Reduce -/
noncomputable def f250E (K : Nat) : Env := ⟨[(324, f324M K)], tys, eqs, mts, K, [0, 1, 2, 3, 4, 5, 6], [], []⟩
noncomputable def f250G (K : Nat) (a0 : Int × Int × Int) (a1 : Int × Int) : Option tV :=
  (f324G K a1.2 a0.2.2).bind fun y1 => (bif (a0.2.2 != 0) then (f324G K (w (a1.1 - (w ((w ((w (a1.2 - y1)).tdiv a0.2.2)) * a0.2.1)))) a0.1).bind fun y2 => some (y2, y1) else none)
noncomputable def f250M (K : Nat) : Mdl := ⟨[(.ro, sL), (.ro, sV)], [sV], fun x => f250G K x.1 x.2.1⟩
/-! spec.l06Reduce -/
noncomputable def f273E (K : Nat) : Env := ⟨[(250, f250M K)], tys, eqs, mts, K, [0, 1, 2, 3, 4], [], []⟩
noncomputable def f273G (K : Nat) (a0 : Int × Int × Int) (a1 : tA × Int × Int) : Option tM :=
  (f250G K a0 a1.2).bind fun y1 => some (a1.1, y1)
noncomputable def f273M (K : Nat) : Mdl := ⟨[(.ro, sL), (.ro, sM)], [sM], fun x => f273G K x.1 x.2.1⟩
/-! spec.l02Numbers -/
noncomputable def f380E (K : Nat) : Env := ⟨[], tys, eqs, mts, K, [0, 1, 2], [], []⟩
noncomputable def f380G (K : Nat) (a0 : Int × Int × Int × Int) : Option (List Int) :=
  some [a0.1, a0.2.1, a0.2.2.1, a0.2.2.2]
noncomputable def f380M (K : Nat) : Mdl := ⟨[(.ro, sA)], [(.list 2 sI)], fun x => f380G K x.1⟩
/-! spec.l01LessList -/
noncomputable def f153C : Code := codeOf Tryz.f153
noncomputable def f153E (K : Nat) : Env := ⟨[], tys, eqs, mts, K, [0, 1, 4, 5, 15, 26], [], []⟩
noncomputable def f153_b2 (K : Nat) (a0 : List Int) (a1 : List Int) (L2 : Int → Option Bool) (q3 : Int) : Option Bool :=
  (bif ((!(decide (q3 < (a0.length : Int)))) || true) then (bif ((!(decide (q3 < (a0.length : Int)))) || true) then (bif ((!(decide (q3 < (a0.length : Int)))) || true) then (bif ((!(decide (q3 < (a0.length : Int)))) || true) then (bif (bif (decide (q3 < (a0.length : Int))) then (decide (q3 < (a1.length : Int))) else false) then (bif (decide (0 ≤ q3) && decide (q3 < (a0.length : Int))) then (bif (decide (0 ≤ q3) && decide (q3 < (a1.length : Int))) then (bif ((a0.getD ((0 : Int) + q3).toNat (0 : Int)) != (a1.getD ((0 : Int) + q3).toNat (0 : Int))) then (bif (decide (0 ≤ q3) && decide (q3 < (a0.length : Int))) then (bif (decide (0 ≤ q3) && decide (q3 < (a1.length : Int))) then some (decide ((a0.getD ((0 : Int) + q3).toNat (0 : Int)) < (a1.getD ((0 : Int) + q3).toNat (0 : Int)))) else none) else none) else L2 (w (q3 + (1 : Int)))) else none) else none) else some (decide ((a0.length : Int) < (a1.length : Int)))) else none) else none) else none) else none)
noncomputable def f153_l2 (K : Nat) (a0 : List Int) (a1 : List Int) (n : Nat) (q3 : Int) : Option Bool :=
  iter (X := Int) (fun L x => (fun L2 => f153_b2 K a0 a1 L2 x) (fun v0 => L v0)) n q3
noncomputable def f153_fr2 (a0 : List Int) (a1 : List Int) (q3 : Int) : Fr := ⟨41, [(0, .v false [.row 0]), (1, .v false [.row 1]), (4, .v false [.bool false]), (5, .v false [.int .i64 q3])], [], [some ⟨2, sI, a0, .ro⟩, some ⟨2, sI, a1, .ro⟩]⟩
noncomputable def f153_k2 (K : Nat) (a0 : List Int) (a1 : List Int) (lr : LR Bool) : Ex → Fr → Option Bool :=
  contC (f153E K) 2 lr f153C [1, 0, 1, 0] (finK (f153E K) Tryz.f153 [(.ro, (.list 2 sI)), (.ro, (.list 2 sI))] [.bool] (a0, a1, ()))
noncomputable def f153_g (K : Nat) (a0 : List Int) (a1 : List Int) (I2 : Int → Option Bool) : Option Bool :=
  I2 (0 : Int)
noncomputable def f153G (K : Nat) (a0 : List Int) (a1 : List Int) : Option Bool :=
  f153_g K a0 a1 (fun d0 => f153_l2 K a0 a1 K d0)
noncomputable def f153M (K : Nat) : Mdl := ⟨[(.ro, (.list 2 sI)), (.ro, (.list 2 sI))], [.bool], fun x => f153G K x.1 x.2.1⟩
/-! spec.l02Less -/
noncomputable def f342E (K : Nat) : Env := ⟨[(153, f153M K), (380, f380M K)], tys, eqs, mts, K, [0, 1, 2, 3, 4], [], []⟩
noncomputable def f342G (K : Nat) (a0 : Int × Int × Int × Int) (a1 : Int × Int × Int × Int) : Option Bool :=
  (f380G K a0).bind fun y1 => (f380G K a1).bind fun y2 => (f153G K y1 y2).bind fun y3 => some y3
noncomputable def f342M (K : Nat) : Mdl := ⟨[(.ro, sA), (.ro, sA)], [.bool], fun x => f342G K x.1 x.2.1⟩
/-! spec.l01Less -/
noncomputable def f320E (K : Nat) : Env := ⟨[], tys, eqs, mts, K, [0, 1, 2, 3, 4], [], []⟩
noncomputable def f320G (K : Nat) (a0 : Int × Int) (a1 : Int × Int) : Option Bool :=
  (bif ((!(!(decide (a0.1 < a1.1)))) || true) then (bif ((!(!(decide (a0.1 < a1.1)))) || true) then (bif ((!(!(decide (a0.1 < a1.1)))) || true) then (bif ((!(!(decide (a0.1 < a1.1)))) || true) then (bif ((!(!(decide (a0.1 < a1.1)))) || true) then (bif ((!(!(decide (a0.1 < a1.1)))) || true) then (bif ((!((!(decide (a0.1 < a1.1))) && (a0.1 == a1.1))) || true) then (bif ((!((!(decide (a0.1 < a1.1))) && (a0.1 == a1.1))) || true) then (bif ((!((!(decide (a0.1 < a1.1))) && (a0.1 == a1.1))) || true) then (bif ((!((!(decide (a0.1 < a1.1))) && (a0.1 == a1.1))) || true) then (bif ((!((!(decide (a0.1 < a1.1))) && (a0.1 == a1.1))) || true) then (bif ((!(!(decide (a0.1 < a1.1)))) || true) then some (bif (decide (a0.1 < a1.1)) then true else (bif (a0.1 == a1.1) then (decide (a0.2 < a1.2)) else false)) else none) else none) else none) else none) else none) else none) else none) else none) else none) else none) else none) else none)
noncomputable def f320M (K : Nat) : Mdl := ⟨[(.ro, sV), (.ro, sV)], [.bool], fun x => f320G K x.1 x.2.1⟩
/-! spec.l05Less -/
noncomputable def f274E (K : Nat) : Env := ⟨[(320, f320M K), (342, f342M K)], tys, eqs, mts, K, [0, 1, 2, 3, 4, 9], [], []⟩
noncomputable def f274G (K : Nat) (a0 : tA × Int × Int) (a1 : tA × Int × Int) : Option Bool :=
  (bif (!((a0.1.1 == a1.1.1) && ((a0.1.2.1 == a1.1.2.1) && ((a0.1.2.2.1 == a1.1.2.2.1) && (a0.1.2.2.2 == a1.1.2.2.2))))) then (f342G K a0.1 a1.1).bind fun y1 => some y1 else (f320G K a0.2 a1.2).bind fun y2 => some y2)
noncomputable def f274M (K : Nat) : Mdl := ⟨[(.ro, sM), (.ro, sM)], [.bool], fun x => f274G K x.1 x.2.1⟩
/-! spec.l06Place -/
noncomputable def f343C : Code := codeOf Tryz.f343
noncomputable def f343E (K : Nat) : Env := ⟨[(274, f274M K)], tys, eqs, mts, K, [0, 1, 3, 4, 5, 6, 7, 12, 22], [], []⟩
noncomputable def f343_b6 (K : Nat) (a0 : List tM) (a1 : tA × Int × Int) (L6 : Int → Int → Option Int) (q7 : Int) (q8 : Int) : Option Int :=
  (bif (decide (q7 < q8)) then (bif (decide (0 ≤ (w ((w (q7 + q8)).tdiv (2 : Int)))) && decide ((w ((w (q7 + q8)).tdiv (2 : Int))) < (a0.length : Int))) then (f274G K ((((a0.getD ((0 : Int) + (w ((w (q7 + q8)).tdiv (2 : Int)))).toNat zM).1).1, (((a0.getD ((0 : Int) + (w ((w (q7 + q8)).tdiv (2 : Int)))).toNat zM).1).2).1, ((((a0.getD ((0 : Int) + (w ((w (q7 + q8)).tdiv (2 : Int)))).toNat zM).1).2).2)), ((a0.getD ((0 : Int) + (w ((w (q7 + q8)).tdiv (2 : Int)))).toNat zM).2)) a1).bind fun y9 => (bif y9 then L6 (w ((w ((w (q7 + q8)).tdiv (2 : Int))) + (1 : Int))) q8 else L6 q7 (w ((w (q7 + q8)).tdiv (2 : Int)))) else none) else some q7)
noncomputable def f343_l6 (K : Nat) (a0 : List tM) (a1 : tA × Int × Int) (n : Nat) (q7 : Int) (q8 : Int) : Option Int :=
  iter (X := Int × Int) (fun L x => (fun L6 => f343_b6 K a0 a1 L6 x.1 x.2) (fun v0 v1 => L (v0, v1))) n (q7, q8)
noncomputable def f343_fr6 (a0 : List tM) (a1 : tA × Int × Int) (q7 : Int) (q8 : Int) : Fr := ⟨27, [(0, .v false [.row 0]), (1, .v true [.int .i64 a1.1.1, .int .i64 a1.1.2.1, .int .i64 a1.1.2.2.1, .int .i64 a1.1.2.2.2, .int .i64 a1.2.1, .int .i64 a1.2.2]), (3, .v false [.box 0 0]), (4, .v false [.int .i64 (0 : Int)]), (5, .v false [.int .i64 q7]), (6, .v false [.int .i64 q8])], [some ⟨true, [.int .i64 a1.1.1, .int .i64 a1.1.2.1, .int .i64 a1.1.2.2.1, .int .i64 a1.1.2.2.2, .int .i64 a1.2.1, .int .i64 a1.2.2]⟩], [some ⟨57, sM, a0, .ro⟩]⟩
noncomputable def f343_k6 (K : Nat) (a0 : List tM) (a1 : tA × Int × Int) (lr : LR Int) : Ex → Fr → Option Int :=
  contC (f343E K) 1 lr f343C [1, 1, 0, 0] (finK (f343E K) Tryz.f343 [(.ro, (.list 57 sM)), (.ro, sM)] [sI] (a0, a1, ()))
noncomputable def f343_g (K : Nat) (a0 : List tM) (a1 : tA × Int × Int) (I6 : Int → Int → Option Int) : Option Int :=
  I6 (0 : Int) (a0.length : Int)
noncomputable def f343G (K : Nat) (a0 : List tM) (a1 : tA × Int × Int) : Option Int :=
  f343_g K a0 a1 (fun d0 d1 => f343_l6 K a0 a1 K d0 d1)
noncomputable def f343M (K : Nat) : Mdl := ⟨[(.ro, (.list 57 sM)), (.ro, sM)], [sI], fun x => f343G K x.1 x.2.1⟩
/-! spec.l06Has -/
noncomputable def f275E (K : Nat) : Env := ⟨[(343, f343M K)], tys, eqs, mts, K, [0, 1, 3, 4, 5], [], []⟩
noncomputable def f275G (K : Nat) (a0 : List tM) (a1 : tA × Int × Int) : Option Bool :=
  (f343G K a0 a1).bind fun y1 => (bif ((!(decide (y1 < (a0.length : Int)))) || true) then (bif ((!(decide (y1 < (a0.length : Int)))) || true) then (bif ((!(decide (y1 < (a0.length : Int)))) || (decide (0 ≤ y1) && decide (y1 < (a0.length : Int)))) then (bif ((!(decide (y1 < (a0.length : Int)))) || true) then (bif ((!(decide (y1 < (a0.length : Int)))) || true) then (bif ((!(decide (y1 < (a0.length : Int)))) || true) then some (bif (decide (y1 < (a0.length : Int))) then ((((a0.getD ((0 : Int) + y1).toNat zM).1).1 == a1.1.1) && (((((a0.getD ((0 : Int) + y1).toNat zM).1).2).1 == a1.1.2.1) && ((((((a0.getD ((0 : Int) + y1).toNat zM).1).2).2).1 == a1.1.2.2.1) && ((((((a0.getD ((0 : Int) + y1).toNat zM).1).2).2).2 == a1.1.2.2.2) && ((((a0.getD ((0 : Int) + y1).toNat zM).2).1 == a1.2.1) && (((a0.getD ((0 : Int) + y1).toNat zM).2).2 == a1.2.2)))))) else false) else none) else none) else none) else none) else none) else none)
noncomputable def f275M (K : Nat) : Mdl := ⟨[(.ro, (.list 57 sM)), (.ro, sM)], [.bool], fun x => f275G K x.1 x.2.1⟩
/-! spec.l06Insert -/
noncomputable def f352E (K : Nat) : Env := ⟨[(343, f343M K)], tys, eqs, mts, K, [0, 1, 3, 4, 5, 20], [], []⟩
noncomputable def f352G (K : Nat) (a0 : List tM) (a1 : tA × Int × Int) : Option (List tM) :=
  (f343G K a0 a1).bind fun y1 => (bif ((!(decide (y1 < (a0.length : Int)))) || true) then (bif ((!(decide (y1 < (a0.length : Int)))) || true) then (bif ((!(decide (y1 < (a0.length : Int)))) || (decide (0 ≤ y1) && decide (y1 < (a0.length : Int)))) then (bif ((!(decide (y1 < (a0.length : Int)))) || true) then (bif ((!(decide (y1 < (a0.length : Int)))) || true) then (bif ((!(decide (y1 < (a0.length : Int)))) || true) then (bif (bif (decide (y1 < (a0.length : Int))) then ((((a0.getD ((0 : Int) + y1).toNat zM).1).1 == a1.1.1) && (((((a0.getD ((0 : Int) + y1).toNat zM).1).2).1 == a1.1.2.1) && ((((((a0.getD ((0 : Int) + y1).toNat zM).1).2).2).1 == a1.1.2.2.1) && ((((((a0.getD ((0 : Int) + y1).toNat zM).1).2).2).2 == a1.1.2.2.2) && ((((a0.getD ((0 : Int) + y1).toNat zM).2).1 == a1.2.1) && (((a0.getD ((0 : Int) + y1).toNat zM).2).2 == a1.2.2)))))) else false) then some a0 else (bif (decide (0 ≤ (0 : Int)) && decide ((0 : Int) ≤ y1) && decide (y1 ≤ (a0.length : Int))) then (bif (Nat.ble (0 + ((a0.take ((0 : Int) + y1).toNat).drop 0).length) (lim 48)) then (bif (Nat.ble (([] ++ ((a0.take ((0 : Int) + y1).toNat).drop 0)).length + [a1].length) (lim 48)) then (bif (decide (0 ≤ y1) && decide (y1 ≤ (a0.length : Int)) && decide ((a0.length : Int) ≤ (a0.length : Int))) then (bif (Nat.ble ((([] ++ ((a0.take ((0 : Int) + y1).toNat).drop 0)) ++ [a1]).length + ((a0.take ((0 : Int) + (a0.length : Int)).toNat).drop ((0 : Int) + y1).toNat).length) (lim 48)) then some ((([] ++ ((a0.take ((0 : Int) + y1).toNat).drop 0)) ++ [a1]) ++ ((a0.take ((0 : Int) + (a0.length : Int)).toNat).drop ((0 : Int) + y1).toNat)) else none) else none) else none) else none) else none)) else none) else none) else none) else none) else none) else none)
noncomputable def f352M (K : Nat) : Mdl := ⟨[(.mv, (.list 57 sM)), (.ro, sM)], [(.list 57 sM)], fun x => f352G K x.1 x.2.1⟩
/-! spec.l06Close -/
noncomputable def f292C : Code := codeOf Tryz.f292
noncomputable def f292E (K : Nat) : Env := ⟨[(141, f141M K), (273, f273M K), (275, f275M K), (276, f276M K), (352, f352M K)], tys, eqs, mts, K, [0, 1, 2, 4, 5, 6, 7, 8, 9, 17, 23, 40], [], []⟩
noncomputable def f292_b21 (K : Nat) (a0 : Int × Int × Int) (a1 : List tM) (q18 : Int) (q20 : List tM) (L17 : Int → (List tM) → (List tM) → Option (List tM)) (L21 : Int → (List tM) → (List tM) → Option (List tM)) (q22 : Int) (q23 : List tM) (q24 : List tM) : Option (List tM) :=
  (bif (decide (q22 < (a1.length : Int))) then (bif (decide (0 ≤ q22) && decide (q22 < (a1.length : Int))) then (bif (decide (0 ≤ q18) && decide (q18 < (q24.length : Int))) then (f276G K ((((a1.getD ((0 : Int) + q22).toNat zM).1).1, (((a1.getD ((0 : Int) + q22).toNat zM).1).2).1, ((((a1.getD ((0 : Int) + q22).toNat zM).1).2).2)), ((a1.getD ((0 : Int) + q22).toNat zM).2)) ((((q24.getD ((0 : Int) + q18).toNat zM).1).1, (((q24.getD ((0 : Int) + q18).toNat zM).1).2).1, ((((q24.getD ((0 : Int) + q18).toNat zM).1).2).2)), ((q24.getD ((0 : Int) + q18).toNat zM).2))).bind fun y25 => (f273G K a0 y25).bind fun y26 => (f275G K q23 y26).bind fun y27 => (bif (!y27) then (f352G K q23 y26).bind fun y28 => (bif (Nat.ble (q24.length + [y26].length) (lim 48)) then L21 (w (q22 + (1 : Int))) y28 (q24 ++ [y26]) else none) else L21 (w (q22 + (1 : Int))) q23 q24) else none) else none) else L17 (w (q18 + (1 : Int))) q23 q24)
noncomputable def f292_l21 (K : Nat) (a0 : Int × Int × Int) (a1 : List tM) (q18 : Int) (q20 : List tM) (L17 : Int → (List tM) → (List tM) → Option (List tM)) (n : Nat) (q22 : Int) (q23 : List tM) (q24 : List tM) : Option (List tM) :=
  iter (X := Int × List tM × List tM) (fun L x => (fun L21 => f292_b21 K a0 a1 q18 q20 L17 L21 x.1 x.2.1 x.2.2) (fun v0 v1 v2 => L (v0, v1, v2))) n (q22, q23, q24)
noncomputable def f292_fr21 (a0 : Int × Int × Int) (a1 : List tM) (q18 : Int) (q20 : List tM) (q22 : Int) (q23 : List tM) (q24 : List tM) : Fr := ⟨49, [(0, .v true [.int .i64 a0.1, .int .i64 a0.2.1, .int .i64 a0.2.2]), (1, .v false [.row 0]), (2, .v false [.box 0 0]), (4, .v false [.row 1]), (5, .v false [.row 2]), (6, .v false [.row 3]), (7, .v false [.int .i64 q18]), (8, .v false [.int .i64 q22]), (17, .v false [.bool (decide (q18 < (q20.length : Int)))])], [some ⟨true, [.int .i64 a0.1, .int .i64 a0.2.1, .int .i64 a0.2.2]⟩], [some ⟨57, sM, a1, .ro⟩, some ⟨57, sM, [], .own⟩, some ⟨57, sM, q23, .own⟩, some ⟨57, sM, q24, .own⟩]⟩
noncomputable def f292_b17 (K : Nat) (a0 : Int × Int × Int) (a1 : List tM) (I21 : Int → (List tM) → Int → (List tM) → (List tM) → Option (List tM)) (L17 : Int → (List tM) → (List tM) → Option (List tM)) (q18 : Int) (q19 : List tM) (q20 : List tM) : Option (List tM) :=
  (bif (decide (q18 < (q20.length : Int))) then I21 q18 q20 (0 : Int) q19 q20 else some q19)
noncomputable def f292_l17 (K : Nat) (a0 : Int × Int × Int) (a1 : List tM) (n : Nat) (q18 : Int) (q19 : List tM) (q20 : List tM) : Option (List tM) :=
  iter (X := Int × List tM × List tM) (fun L x => (fun L17 => f292_b17 K a0 a1 (fun c0 c1 d0 d1 d2 => f292_l21 K a0 a1 c0 c1 L17 K d0 d1 d2) L17 x.1 x.2.1 x.2.2) (fun v0 v1 v2 => L (v0, v1, v2))) n (q18, q19, q20)
noncomputable def f292_fr17 (a0 : Int × Int × Int) (a1 : List tM) (q18 : Int) (q19 : List tM) (q20 : List tM) : Fr := ⟨49, [(0, .v true [.int .i64 a0.1, .int .i64 a0.2.1, .int .i64 a0.2.2]), (1, .v false [.row 0]), (2, .v false [.box 0 0]), (4, .v false [.row 1]), (5, .v false [.row 2]), (6, .v false [.row 3]), (7, .v false [.int .i64 q18])], [some ⟨true, [.int .i64 a0.1, .int .i64 a0.2.1, .int .i64 a0.2.2]⟩], [some ⟨57, sM, a1, .ro⟩, some ⟨57, sM, [], .own⟩, some ⟨57, sM, q19, .own⟩, some ⟨57, sM, q20, .own⟩]⟩
noncomputable def f292_k17 (K : Nat) (a0 : Int × Int × Int) (a1 : List tM) (lr : LR (List tM)) : Ex → Fr → Option (List tM) :=
  contC (f292E K) 1 lr f292C [1, 1, 1, 0, 1, 0] (finK (f292E K) Tryz.f292 [(.ro, sL), (.ro, (.list 57 sM))] [(.list 57 sM)] (a0, a1, ()))
noncomputable def f292_k21 (K : Nat) (a0 : Int × Int × Int) (a1 : List tM) (F17 : Fr → Option (List tM)) (bq18 : Int) (bq19 : List tM) (bq20 : List tM) (lr : LR (List tM)) : Ex → Fr → Option (List tM) :=
  contC (f292E K) 1 lr (selC f292C [1, 1, 1, 0, 1, 0, 0]) [1, 0, 0, 1, 0] (loopK 1 (f292_fr17 a0 a1 bq18 bq19 bq20) F17 (f292_k17 K a0 a1 lr))
noncomputable def f292_g (K : Nat) (a0 : Int × Int × Int) (a1 : List tM) (I17 : Int → (List tM) → (List tM) → Option (List tM)) : Option (List tM) :=
  (f141G K).bind fun y1 => (f141G K).bind fun y2 => I17 (0 : Int) [y1] [y2]
noncomputable def f292G (K : Nat) (a0 : Int × Int × Int) (a1 : List tM) : Option (List tM) :=
  f292_g K a0 a1 (fun d0 d1 d2 => f292_l17 K a0 a1 K d0 d1 d2)
noncomputable def f292M (K : Nat) : Mdl := ⟨[(.ro, sL), (.ro, (.list 57 sM))], [(.list 57 sM)], fun x => f292G K x.1 x.2.1⟩
/-! spec.StandardGroup -/
noncomputable def f312E (K : Nat) : Env := ⟨[(195, f195M K), (292, f292M K), (363, f363M K)], tys, eqs, mts, K, [0, 1, 4, 5, 6, 7, 8, 9, 10, 11, 19, 23], [], []⟩
noncomputable def f312G (K : Nat) (a0 : ByteArray) (a1 : Int) : Option (Int × tL × (List tM) × Int) :=
  (f363G K a0 a1).bind fun y1 => (bif (!y1.2.2) then some ((0 : Int), ((0 : Int), (0 : Int), (0 : Int)), [], (4 : Int)) else (f195G K a1 (1 : Int) (4 : Int)).bind fun y2 => (bif (!y2) then some ((0 : Int), ((0 : Int), (0 : Int), (0 : Int)), [], (2 : Int)) else (f292G K ((w ((2 : Int) * a1)), (0 : Int), (w ((2 : Int) * a1))) y1.2.1).bind fun y3 => some (y1.1, ((w ((2 : Int) * a1)), (0 : Int), (w ((2 : Int) * a1))), y3, (0 : Int))))
noncomputable def f312M (K : Nat) : Mdl := ⟨[(.ro, .str), (.ro, sI)], [sI, sL, (.list 57 sM), sI], fun x => f312G K x.1 x.2.1⟩
/-! spec.l01Pick -/
noncomputable def f142E (K : Nat) : Env := ⟨[], tys, eqs, mts, K, [0, 1, 4], [(140, f140M K)], []⟩
noncomputable def f142G (K : Nat) (a0 : (List Int) × Int × Int) (a1 : List Int) : Option (tV × Int) :=
  (f140G K a0 (a1.length : Int)).bind fun y1 => (bif (decide (0 ≤ y1.2) && decide (y1.2 < (a1.length : Int))) then some (y1.1, (a1.getD ((0 : Int) + y1.2).toNat (0 : Int))) else none)
noncomputable def f142M (K : Nat) : PMdl := ⟨5, (.int .u8), sV, [(.ro, (.list 2 sI))], [sI], fun x => f142G K x.1 x.2.1⟩
/-! spec.l04DrawFrame -/
noncomputable def f304E (K : Nat) : Env := ⟨[], tys, eqs, mts, K, [0, 2, 5], [(140, f140M K), (142, f142M K)], []⟩
noncomputable def f304G (K : Nat) (a0 : (List Int) × Int × Int) : Option (tV × Int) :=
  (f140G K a0 (40 : Int)).bind fun y1 => (bif (y1.2 == (0 : Int)) then (f142G K (a0.1, y1.1) [(-1 : Int), (2 : Int)]).bind fun y2 => some y2 else (f140G K (a0.1, y1.1) (2 : Int)).bind fun y3 => some y3)
noncomputable def f304M (K : Nat) : PMdl := ⟨5, (.int .u8), sV, [], [sI], fun x => f304G K x.1⟩
/-! spec.l03Draw -/
noncomputable def f305E (K : Nat) : Env := ⟨[], tys, eqs, mts, K, [0, 2, 3, 17, 18, 24, 35], [(140, f140M K), (142, f142M K)], []⟩
noncomputable def f305G (K : Nat) (a0 : (List Int) × Int × Int) : Option (tV × Int × Int × Int) :=
  (f140G K a0 (6 : Int)).bind fun y1 => (f140G K (a0.1, y1.1) (6 : Int)).bind fun y2 => (f140G K (a0.1, y2.1) (w ((1 : Int) + y1.2))).bind fun y3 => (f140G K (a0.1, y3.1) (60 : Int)).bind fun y4 => (bif (y4.2 == (0 : Int)) then (f142G K (a0.1, y4.1) [(0 : Int), (64 : Int), (65 : Int), (8 : Int)]).bind fun y5 => some (y5.1, y5.2, y3.2, (w ((1 : Int) + y2.2))) else (bif (y4.2 == (1 : Int)) then (f142G K (a0.1, y4.1) [(-1 : Int), (w ((1 : Int) + y1.2)), (w ((w ((1 : Int) + y1.2)) - (1 : Int)))]).bind fun y6 => some (y6.1, (w ((1 : Int) + y1.2)), y6.2, (w ((1 : Int) + y2.2))) else (bif (y4.2 == (2 : Int)) then (f142G K (a0.1, y4.1) [(8 : Int), (9 : Int)]).bind fun y7 => some (y7.1, (8 : Int), (3 : Int), y7.2) else some (y4.1, (w ((1 : Int) + y1.2)), y3.2, (w ((1 : Int) + y2.2))))))
noncomputable def f305M (K : Nat) : PMdl := ⟨5, (.int .u8), sV, [], [sL], fun x => f305G K x.1⟩
/-! spec.l06DrawLattice -/
noncomputable def f213E (K : Nat) : Env := ⟨[], tys, eqs, mts, K, [0, 2, 3, 4, 5, 9, 10, 15, 25, 28], [(140, f140M K), (304, f304M K), (305, f305M K)], []⟩
noncomputable def f213G (K : Nat) (a0 : (List Int) × Int × Int) : Option (tV × Int × Int × Int × Int) :=
  (f304G K a0).bind fun y1 => (f140G K (a0.1, y1.1) (5 : Int)).bind fun y2 => (bif (y2.2 == (0 : Int)) then (f305G K (a0.1, y2.1)).bind fun y3 => some (y3.1, y1.2, y3.2) else (bif (y2.2 == (1 : Int)) then (f140G K (a0.1, y2.1) (4 : Int)).bind fun y4 => (f140G K (a0.1, y4.1) (4 : Int)).bind fun y5 => some (y5.1, y1.2, (w ((1 : Int) + y4.2)), (0 : Int), (w ((1 : Int) + y5.2))) else (bif (y2.2 == (2 : Int)) then (bif (y1.2 == (0 : Int)) then some (y2.1, y1.2, (2 : Int), (1 : Int), (1 : Int)) else some (y2.1, y1.2, (3 : Int), (1 : Int), (1 : Int))) else (f140G K (a0.1, y2.1) (4 : Int)).bind fun y6 => some (y6.1, y1.2, (w ((1 : Int) + y6.2)), (0 : Int), (w ((1 : Int) + y6.2))))))
noncomputable def f213M (K : Nat) : PMdl := ⟨5, (.int .u8), sV, [], [sI, sL], fun x => f213G K x.1⟩
/-! spec.IsFrame -/
noncomputable def f306E (K : Nat) : Env := ⟨[], tys, eqs, mts, K, [0, 2], [], []⟩
noncomputable def f306G (K : Nat) (a0 : Int) : Option Bool :=
  (bif ((!(!(a0 == (0 : Int)))) || true) then (bif ((!(!(a0 == (0 : Int)))) || true) then some (bif (a0 == (0 : Int)) then true else (a0 == (1 : Int))) else none) else none)
noncomputable def f306M (K : Nat) : Mdl := ⟨[(.ro, sI)], [.bool], fun x => f306G K x.1⟩
/-! spec.IsLattice -/
noncomputable def f307E (K : Nat) : Env := ⟨[(195, f195M K)], tys, eqs, mts, K, [0, 1, 2], [], []⟩
noncomputable def f307G (K : Nat) (a0 : Int × Int × Int) : Option Bool :=
  (f195G K a0.1 (1 : Int) (64 : Int)).bind fun y1 => (bif ((!y1) || true) then (bif ((!y1) || true) then ((bif y1 then f195G K a0.2.2 (1 : Int) (64 : Int) else some false)).bind fun y2 => (bif ((!(bif y1 then y2 else false)) || true) then (bif ((!(bif y1 then y2 else false)) || true) then (bif ((!(bif y1 then y2 else false)) || true) then (bif ((!(bif y1 then y2 else false)) || true) then (bif ((!(bif y1 then y2 else false)) || true) then ((bif (bif y1 then y2 else false) then f195G K a0.2.1 (0 : Int) (w (a0.1 - (1 : Int))) else some false)).bind fun y3 => (bif ((!(bif (bif y1 then y2 else false) then y3 else false)) || true) then (bif ((!(bif (bif y1 then y2 else false) then y3 else false)) || true) then (bif ((!(bif (bif y1 then y2 else false) then y3 else false)) || true) then (bif ((!(bif (bif y1 then y2 else false) then y3 else false)) || true) then (bif ((!(bif (bif y1 then y2 else false) then y3 else false)) || true) then (bif ((!(bif (bif y1 then y2 else false) then y3 else false)) || true) then some (bif (bif (bif y1 then y2 else false) then y3 else false) then (decide ((w (a0.1 * a0.2.2)) ≤ (64 : Int))) else false) else none) else none) else none) else none) else none) else none) else none) else none) else none) else none) else none) else none) else none)
noncomputable def f307M (K : Nat) : Mdl := ⟨[(.ro, sL)], [.bool], fun x => f307G K x.1⟩
/-! spec.l04Code -/
noncomputable def f215E (K : Nat) : Env := ⟨[(306, f306M K), (307, f307M K)], tys, eqs, mts, K, [0, 1, 3, 4, 12], [], []⟩
noncomputable def f215G (K : Nat) (a0 : Int) (a1 : Int × Int × Int) : Option Int :=
  (f306G K a0).bind fun y1 => (bif ((!(!(!y1))) || true) then ((bif (!(!y1)) then f307G K a1 else some false)).bind fun y2 => (bif ((!(!(!y1))) || true) then (bif (bif (!y1) then true else (!y2)) then some (1 : Int) else some (0 : Int)) else none) else none)
noncomputable def f215M (K : Nat) : Mdl := ⟨[(.ro, sI), (.ro, sL)], [sI], fun x => f215G K x.1 x.2.1⟩
/-! spec.l04Norm -/
noncomputable def f385E (K : Nat) : Env := ⟨[], tys, eqs, mts, K, [0, 1, 3, 4, 5, 18], [], []⟩
noncomputable def f385G (K : Nat) (a0 : Int) (a1 : Int × Int) : Option Int :=
  (bif (a0 == (1 : Int)) then some (w ((w ((w (a1.1 * a1.1)) + (w (a1.2 * a1.2)))) + (w (a1.1 * a1.2)))) else some (w ((w (a1.1 * a1.1)) + (w (a1.2 * a1.2)))))
noncomputable def f385M (K : Nat) : Mdl := ⟨[(.ro, sI), (.ro, sV)], [sI], fun x => f385G K x.1 x.2.1⟩
/-! spec.l04Keeps -/
noncomputable def f359E (K : Nat) : Env := ⟨[(277, f277M K), (385, f385M K)], tys, eqs, mts, K, [0, 1, 3, 4, 5, 6], [], []⟩
noncomputable def f359G (K : Nat) (a0 : Int) (a1 : Int × Int × Int × Int) : Option Bool :=
  (f385G K a0 (a1.1, a1.2.2.1)).bind fun y1 => (bif ((!(y1 == (1 : Int))) || true) then (bif ((!(y1 == (1 : Int))) || true) then ((bif (y1 == (1 : Int)) then f385G K a0 (a1.2.1, a1.2.2.2) else some (0 : Int))).bind fun y2 => (bif ((!(y1 == (1 : Int))) || true) then (bif ((!(bif (y1 == (1 : Int)) then (y2 == (1 : Int)) else false)) || true) then (bif ((!(bif (y1 == (1 : Int)) then (y2 == (1 : Int)) else false)) || true) then (bif ((!(bif (y1 == (1 : Int)) then (y2 == (1 : Int)) else false)) || true) then ((bif (bif (y1 == (1 : Int)) then (y2 == (1 : Int)) else false) then f277G K (a1.1, a1.2.2.1) (a1.2.1, a1.2.2.2) else some ((0 : Int), (0 : Int)))).bind fun y3 => ((bif (bif (y1 == (1 : Int)) then (y2 == (1 : Int)) else false) then f385G K a0 y3 else some (0 : Int))).bind fun y4 => (bif ((!(bif (y1 == (1 : Int)) then (y2 == (1 : Int)) else false)) || true) then (bif ((!(bif (y1 == (1 : Int)) then (y2 == (1 : Int)) else false)) || true) then (bif ((!(bif (y1 == (1 : Int)) then (y2 == (1 : Int)) else false)) || true) then some (bif (bif (y1 == (1 : Int)) then (y2 == (1 : Int)) else false) then (y4 == (w ((2 : Int) + a0))) else false) else none) else none) else none) else none) else none) else none) else none) else none) else none)
noncomputable def f359M (K : Nat) : Mdl := ⟨[(.ro, sI), (.ro, sA)], [.bool], fun x => f359G K x.1 x.2.1⟩
/-! spec.l04Mats -/
noncomputable def f336C : Code := codeOf Tryz.f336
noncomputable def f336E (K : Nat) : Env := ⟨[(359, f359M K)], tys, eqs, mts, K, [0, 2, 3, 4, 5, 8, 28], [], []⟩
noncomputable def f336_b3 (K : Nat) (a0 : Int) (L3 : Int → (List tA) → Option (List tA)) (q4 : Int) (q5 : List tA) : Option (List tA) :=
  (bif (decide (q4 < (81 : Int))) then (f359G K a0 ((w ((w (q4.tdiv (27 : Int))) - (1 : Int))), (w (((w (q4.tdiv (9 : Int))).tmod (3 : Int)) - (1 : Int))), (w (((w (q4.tdiv (3 : Int))).tmod (3 : Int)) - (1 : Int))), (w ((q4.tmod (3 : Int)) - (1 : Int))))).bind fun y6 => (bif y6 then (bif (Nat.ble (q5.length + [((w ((w (q4.tdiv (27 : Int))) - (1 : Int))), (w (((w (q4.tdiv (9 : Int))).tmod (3 : Int)) - (1 : Int))), (w (((w (q4.tdiv (3 : Int))).tmod (3 : Int)) - (1 : Int))), (w ((q4.tmod (3 : Int)) - (1 : Int))))].length) (lim 32)) then L3 (w (q4 + (1 : Int))) (q5 ++ [((w ((w (q4.tdiv (27 : Int))) - (1 : Int))), (w (((w (q4.tdiv (9 : Int))).tmod (3 : Int)) - (1 : Int))), (w (((w (q4.tdiv (3 : Int))).tmod (3 : Int)) - (1 : Int))), (w ((q4.tmod (3 : Int)) - (1 : Int))))]) else none) else L3 (w (q4 + (1 : Int))) q5) else some q5)
noncomputable def f336_l3 (K : Nat) (a0 : Int) (n : Nat) (q4 : Int) (q5 : List tA) : Option (List tA) :=
  iter (X := Int × List tA) (fun L x => (fun L3 => f336_b3 K a0 L3 x.1 x.2) (fun v0 v1 => L (v0, v1))) n (q4, q5)
noncomputable def f336_fr3 (a0 : Int) (q4 : Int) (q5 : List tA) : Fr := ⟨34, [(0, .v false [.int .i64 a0]), (2, .v false [.row 0]), (3, .v false [.row 1]), (4, .v false [.int .i64 q4])], [], [some ⟨53, sA, [], .own⟩, some ⟨53, sA, q5, .own⟩]⟩
noncomputable def f336_k3 (K : Nat) (a0 : Int) (lr : LR (List tA)) : Ex → Fr → Option (List tA) :=
  contC (f336E K) 0 lr f336C [1, 1, 0, 1, 0] (finK (f336E K) Tryz.f336 [(.ro, sI)] [(.list 53 sA)] (a0, ()))
noncomputable def f336_g (K : Nat) (a0 : Int) (I3 : Int → (List tA) → Option (List tA)) : Option (List tA) :=
  I3 (0 : Int) []
noncomputable def f336G (K : Nat) (a0 : Int) : Option (List tA) :=
  f336_g K a0 (fun d0 d1 => f336_l3 K a0 K d0 d1)
noncomputable def f336M (K : Nat) : Mdl := ⟨[(.ro, sI)], [(.list 53 sA)], fun x => f336G K x.1⟩
/-! spec.l03Basis -/
noncomputable def f295E (K : Nat) : Env := ⟨[], tys, eqs, mts, K, [0, 1, 2], [], []⟩
noncomputable def f295G (K : Nat) (a0 : Int × Int × Int) : Option (List tV) :=
  some [(a0.1, (0 : Int)), a0.2]
noncomputable def f295M (K : Nat) : Mdl := ⟨[(.ro, sL)], [(.list 55 sV)], fun x => f295G K x.1⟩
/-! spec.l01Divisor -/
noncomputable def f136E (K : Nat) (rec : Int → Int → Option Int) : Env := ⟨[(136, ⟨[(.ro, sI), (.ro, sI)], [sI], fun x => rec x.1 x.2.1⟩)], tys, eqs, mts, K, [0, 1, 4, 6], [], []⟩
noncomputable def f136_s (K : Nat) (rec : Int → Int → Option Int) (a0 : Int) (a1 : Int) : Option Int :=
  (bif (a1 == (0 : Int)) then some (if (w (0 - a0)) > a0 then (w (0 - a0)) else a0) else (bif (a1 != 0) then (rec a1 (a0.tmod a1)).bind fun y1 => some y1 else none))
noncomputable def f136R (K : Nat) : Nat → Int → Int → Option Int
  | 0 => fun _ _ => none
  | n + 1 => fun a0 a1 => f136_s K (f136R K n) a0 a1
noncomputable def f136G (K : Nat) (a0 : Int) (a1 : Int) : Option Int := f136R K K a0 a1
noncomputable def f136M (K : Nat) : Mdl := ⟨[(.ro, sI), (.ro, sI)], [sI], fun x => f136G K x.1 x.2.1⟩
/-! spec.l01Scale -/
noncomputable def f333E (K : Nat) : Env := ⟨[], tys, eqs, mts, K, [0, 1, 2, 4], [], []⟩
noncomputable def f333G (K : Nat) (a0 : Int × Int) (a1 : Int) : Option tV :=
  some ((w (a1 * a0.1)), (w (a1 * a0.2)))
noncomputable def f333M (K : Nat) : Mdl := ⟨[(.ro, sV), (.ro, sI)], [sV], fun x => f333G K x.1 x.2.1⟩
/-! spec.l03Hermite -/
noncomputable def f296C : Code := codeOf Tryz.f296
noncomputable def f296E (K : Nat) : Env := ⟨[(136, f136M K), (324, f324M K), (333, f333M K)], tys, eqs, mts, K, [0, 2, 3, 4, 5, 6, 7, 8, 13, 22, 50, 58, 62], [], []⟩
noncomputable def f296_b15 (K : Nat) (a0 : List tV) (q11 : Int) (q12 : Int) (L10 : Int → Int → Int → Int → Option tL) (L15 : Int → Int → Int → Int → Option tL) (q16 : Int) (q17 : Int) (q18 : Int) (q19 : Int) : Option tL :=
  (bif (q19 != (0 : Int)) then (bif (q19 != 0) then L15 q18 q19 (w (q16 - (w ((w (q17.tdiv q19)) * q18)))) (w (q17 - (w ((w (q17.tdiv q19)) * q19)))) else none) else (f136G K q11 q18).bind fun y20 => (bif (decide (y20 > (0 : Int))) then (f324G K q16 y20).bind fun y21 => L10 y20 (w (q12 + (1 : Int))) y21 q17 else L10 y20 (w (q12 + (1 : Int))) q16 q17))
noncomputable def f296_l15 (K : Nat) (a0 : List tV) (q11 : Int) (q12 : Int) (L10 : Int → Int → Int → Int → Option tL) (n : Nat) (q16 : Int) (q17 : Int) (q18 : Int) (q19 : Int) : Option tL :=
  iter (X := Int × Int × Int × Int) (fun L x => (fun L15 => f296_b15 K a0 q11 q12 L10 L15 x.1 x.2.1 x.2.2.1 x.2.2.2) (fun v0 v1 v2 v3 => L (v0, v1, v2, v3))) n (q16, q17, q18, q19)
noncomputable def f296_fr15 (a0 : List tV) (q11 : Int) (q12 : Int) (q16 : Int) (q17 : Int) (q18 : Int) (q19 : Int) : Fr := ⟨74, [(0, .v false [.row 0]), (2, .v false [.box 0 0]), (3, .v false [.box 1 0]), (4, .v false [.int .i64 q11]), (5, .v false [.int .i64 q12]), (6, .v false [.box 2 0]), (13, .v false [.bool (decide (q12 < (a0.length : Int)))])], [some ⟨true, [.int .i64 (0 : Int), .int .i64 (0 : Int), .int .i64 (0 : Int)]⟩, some ⟨true, [.int .i64 q16, .int .i64 q17]⟩, some ⟨true, [.int .i64 q18, .int .i64 q19]⟩], [some ⟨55, sV, a0, .ro⟩]⟩
noncomputable def f296_b10 (K : Nat) (a0 : List tV) (I15 : Int → Int → Int → Int → Int → Int → Option tL) (L10 : Int → Int → Int → Int → Option tL) (q11 : Int) (q12 : Int) (q13 : Int) (q14 : Int) : Option tL :=
  (bif (decide (q12 < (a0.length : Int))) then (bif (decide (0 ≤ q12) && decide (q12 < (a0.length : Int))) then I15 q11 q12 q13 q14 ((a0.getD ((0 : Int) + q12).toNat ((0 : Int), (0 : Int))).1) ((a0.getD ((0 : Int) + q12).toNat ((0 : Int), (0 : Int))).2) else none) else (bif (decide (q14 < (0 : Int))) then (f333G K (q13, q14) (-1 : Int)).bind fun y22 => (bif (decide (q11 > (0 : Int))) then (f324G K y22.1 q11).bind fun y23 => some (q11, y23, y22.2) else some (q11, y22)) else (bif (decide (q11 > (0 : Int))) then (f324G K q13 q11).bind fun y24 => some (q11, y24, q14) else some (q11, q13, q14))))
noncomputable def f296_l10 (K : Nat) (a0 : List tV) (n : Nat) (q11 : Int) (q12 : Int) (q13 : Int) (q14 : Int) : Option tL :=
  iter (X := Int × Int × Int × Int) (fun L x => (fun L10 => f296_b10 K a0 (fun c0 c1 d0 d1 d2 d3 => f296_l15 K a0 c0 c1 L10 K d0 d1 d2 d3) L10 x.1 x.2.1 x.2.2.1 x.2.2.2) (fun v0 v1 v2 v3 => L (v0, v1, v2, v3))) n (q11, q12, q13, q14)
noncomputable def f296_fr10 (a0 : List tV) (q11 : Int) (q12 : Int) (q13 : Int) (q14 : Int) : Fr := ⟨74, [(0, .v false [.row 0]), (2, .v false [.box 0 0]), (3, .v false [.box 1 0]), (4, .v false [.int .i64 q11]), (5, .v false [.int .i64 q12])], [some ⟨true, [.int .i64 (0 : Int), .int .i64 (0 : Int), .int .i64 (0 : Int)]⟩, some ⟨true, [.int .i64 q13, .int .i64 q14]⟩], [some ⟨55, sV, a0, .ro⟩]⟩
noncomputable def f296_k10 (K : Nat) (a0 : List tV) (lr : LR tL) : Ex → Fr → Option tL :=
  contC (f296E K) 1 lr f296C [1, 1, 0, 1, 0] (finK (f296E K) Tryz.f296 [(.ro, (.list 55 sV))] [sL] (a0, ()))
noncomputable def f296_k15 (K : Nat) (a0 : List tV) (F10 : Fr → Option tL) (bq11 : Int) (bq12 : Int) (bq13 : Int) (bq14 : Int) (lr : LR tL) : Ex → Fr → Option tL :=
  contC (f296E K) 1 lr (selC f296C [1, 1, 0, 1, 0, 0]) [1, 0, 0, 1, 0, 0] (loopK 1 (f296_fr10 a0 bq11 bq12 bq13 bq14) F10 (f296_k10 K a0 lr))
noncomputable def f296_g (K : Nat) (a0 : List tV) (I10 : Int → Int → Int → Int → Option tL) : Option tL :=
  I10 (0 : Int) (0 : Int) (0 : Int) (0 : Int)
noncomputable def f296G (K : Nat) (a0 : List tV) : Option tL :=
  f296_g K a0 (fun d0 d1 d2 d3 => f296_l10 K a0 K d0 d1 d2 d3)
noncomputable def f296M (K : Nat) : Mdl := ⟨[(.ro, (.list 55 sV))], [sL], fun x => f296G K x.1⟩
/-! spec.l04Image -/
noncomputable def f303E (K : Nat) : Env := ⟨[(278, f278M K), (295, f295M K), (296, f296M K)], tys, eqs, mts, K, [0, 1, 2, 3, 4, 5], [], []⟩
noncomputable def f303G (K : Nat) (a0 : Int × Int × Int × Int) (a1 : Int × Int × Int) : Option tL :=
  (f295G K a1).bind fun y1 => (bif (decide (0 ≤ (0 : Int)) && decide ((0 : Int) < (y1.length : Int))) then (f278G K a0 (y1.getD ((0 : Int) + (0 : Int)).toNat ((0 : Int), (0 : Int)))).bind fun y2 => (bif (decide (0 ≤ (1 : Int)) && decide ((1 : Int) < (y1.length : Int))) then (f278G K a0 (y1.getD ((0 : Int) + (1 : Int)).toNat ((0 : Int), (0 : Int)))).bind fun y3 => (f296G K [y2, y3]).bind fun y4 => some y4 else none) else none)
noncomputable def f303M (K : Nat) : Mdl := ⟨[(.ro, sA), (.ro, sL)], [sL], fun x => f303G K x.1 x.2.1⟩
/-! spec.l04Stable -/
noncomputable def f264C : Code := codeOf Tryz.f264
noncomputable def f264E (K : Nat) : Env := ⟨[(303, f303M K), (336, f336M K)], tys, eqs, mts, K, [0, 1, 3, 4, 5, 6, 7, 14, 24], [], []⟩
noncomputable def f264_b4 (K : Nat) (a0 : Int) (a1 : Int × Int × Int) (y1 : List tA) (L4 : Int → (List tA) → Option (List tA)) (q5 : Int) (q6 : List tA) : Option (List tA) :=
  (bif (decide (q5 < (y1.length : Int))) then (bif (decide (0 ≤ q5) && decide (q5 < (y1.length : Int))) then (f303G K ((y1.getD ((0 : Int) + q5).toNat zA).1, ((y1.getD ((0 : Int) + q5).toNat zA).2).1, (((y1.getD ((0 : Int) + q5).toNat zA).2).2)) a1).bind fun y7 => (bif ((y7.1 == a1.1) && ((y7.2.1 == a1.2.1) && (y7.2.2 == a1.2.2))) then (bif (decide (0 ≤ q5) && decide (q5 < (y1.length : Int))) then (bif (Nat.ble (q6.length + [((y1.getD ((0 : Int) + q5).toNat zA).1, ((y1.getD ((0 : Int) + q5).toNat zA).2).1, (((y1.getD ((0 : Int) + q5).toNat zA).2).2))].length) (lim 32)) then L4 (w (q5 + (1 : Int))) (q6 ++ [((y1.getD ((0 : Int) + q5).toNat zA).1, ((y1.getD ((0 : Int) + q5).toNat zA).2).1, (((y1.getD ((0 : Int) + q5).toNat zA).2).2))]) else none) else none) else L4 (w (q5 + (1 : Int))) q6) else none) else some q6)
noncomputable def f264_l4 (K : Nat) (a0 : Int) (a1 : Int × Int × Int) (y1 : List tA) (n : Nat) (q5 : Int) (q6 : List tA) : Option (List tA) :=
  iter (X := Int × List tA) (fun L x => (fun L4 => f264_b4 K a0 a1 y1 L4 x.1 x.2) (fun v0 v1 => L (v0, v1))) n (q5, q6)
noncomputable def f264_fr4 (a0 : Int) (a1 : Int × Int × Int) (y1 : List tA) (q5 : Int) (q6 : List tA) : Fr := ⟨33, [(0, .v false [.int .i64 a0]), (1, .v true [.int .i64 a1.1, .int .i64 a1.2.1, .int .i64 a1.2.2]), (3, .v false [.box 0 0]), (4, .v false [.row 0]), (5, .v false [.row 1]), (6, .v false [.row 2]), (7, .v false [.int .i64 q5])], [some ⟨true, [.int .i64 a1.1, .int .i64 a1.2.1, .int .i64 a1.2.2]⟩], [some ⟨53, sA, [], .own⟩, some ⟨53, sA, y1, .own⟩, some ⟨53, sA, q6, .own⟩]⟩
noncomputable def f264_k4 (K : Nat) (a0 : Int) (a1 : Int × Int × Int) (lr : LR (List tA)) : Ex → Fr → Option (List tA) :=
  contC (f264E K) 0 lr f264C [1, 1, 1, 0, 1, 0] (finK (f264E K) Tryz.f264 [(.ro, sI), (.ro, sL)] [(.list 53 sA)] (a0, a1, ()))
noncomputable def f264_g (K : Nat) (a0 : Int) (a1 : Int × Int × Int) (I4 : (List tA) → Int → (List tA) → Option (List tA)) : Option (List tA) :=
  (f336G K a0).bind fun y1 => I4 y1 (0 : Int) []
noncomputable def f264G (K : Nat) (a0 : Int) (a1 : Int × Int × Int) : Option (List tA) :=
  f264_g K a0 a1 (fun c0 d0 d1 => f264_l4 K a0 a1 c0 K d0 d1)
noncomputable def f264M (K : Nat) : Mdl := ⟨[(.ro, sI), (.ro, sL)], [(.list 53 sA)], fun x => f264G K x.1 x.2.1⟩
/-! spec.l06DrawMotion -/
noncomputable def f291E (K : Nat) : Env := ⟨[(215, f215M K), (218, f218M K), (264, f264M K)], tys, eqs, mts, K, [0, 1, 2, 5, 6, 7, 8, 13], [(140, f140M K)], []⟩
noncomputable def f291G (K : Nat) (a0 : (List Int) × Int × Int) (a1 : Int) (a2 : Int × Int × Int) : Option (tV × tA × Int × Int) :=
  (f218G K).bind fun y1 => (f215G K a1 a2).bind fun y2 => (bif (y2 == (0 : Int)) then (f264G K a1 a2).bind fun y3 => (f140G K a0 (y3.length : Int)).bind fun y4 => (bif (decide (0 ≤ y4.2) && decide (y4.2 < (y3.length : Int))) then (f140G K (a0.1, y4.1) (9 : Int)).bind fun y5 => (f140G K (a0.1, y5.1) (9 : Int)).bind fun y6 => some (y6.1, ((y3.getD ((0 : Int) + y4.2).toNat zA).1, ((y3.getD ((0 : Int) + y4.2).toNat zA).2).1, (((y3.getD ((0 : Int) + y4.2).toNat zA).2).2)), (w (y5.2 - (4 : Int))), (w (y6.2 - (4 : Int)))) else none) else (f140G K a0 (9 : Int)).bind fun y7 => (f140G K (a0.1, y7.1) (9 : Int)).bind fun y8 => some (y8.1, y1, (w (y7.2 - (4 : Int))), (w (y8.2 - (4 : Int)))))
noncomputable def f291M (K : Nat) : PMdl := ⟨5, (.int .u8), sV, [(.ro, sI), (.ro, sL)], [sM], fun x => f291G K x.1 x.2.1 x.2.2.1⟩
/-! spec.l06Draw -/
noncomputable def f178C : Code := codeOf Tryz.f178
noncomputable def f178E (K : Nat) : Env := ⟨[(215, f215M K), (273, f273M K), (292, f292M K)], tys, eqs, mts, K, [0, 2, 3, 4, 5, 6, 7, 8, 9, 19, 23, 40, 53, 59, 60, 72, 81], [(140, f140M K), (213, f213M K), (291, f291M K)], []⟩
noncomputable def f178_b7 (K : Nat) (a0 : (List Int) × Int × Int) (y1 : tV × Int × Int × Int × Int) (y2 : Int) (L7 : Int → Int → Int → (List tM) → Option (tV × Int × tL × List tM)) (q8 : Int) (q9 : Int) (q10 : Int) (q11 : List tM) : Option (tV × Int × tL × List tM) :=
  (bif (decide (q8 > (0 : Int))) then (f291G K (a0.1, q9, q10) y1.2.1 y1.2.2).bind fun y12 => (f273G K y1.2.2 y12.2).bind fun y13 => (bif (Nat.ble (q11.length + [y13].length) (lim 48)) then L7 (w (q8 - (1 : Int))) y12.1.1 y12.1.2 (q11 ++ [y13]) else none) else (f292G K y1.2.2 q11).bind fun y14 => (bif (decide ((y14.length : Int) > (24 : Int))) then (f140G K (a0.1, q9, q10) (y14.length : Int)).bind fun y15 => (bif (decide (0 ≤ y15.2) && decide (y15.2 < (y14.length : Int))) then (f292G K y1.2.2 [((((y14.getD ((0 : Int) + y15.2).toNat zM).1).1, (((y14.getD ((0 : Int) + y15.2).toNat zM).1).2).1, ((((y14.getD ((0 : Int) + y15.2).toNat zM).1).2).2)), ((y14.getD ((0 : Int) + y15.2).toNat zM).2))]).bind fun y16 => (bif (decide ((y16.length : Int) > (0 : Int))) then (f140G K (a0.1, y15.1) (y16.length : Int)).bind fun y17 => (f140G K (a0.1, y17.1) (30 : Int)).bind fun y18 => (bif (y18.2 == (0 : Int)) then (bif (decide (0 ≤ (0 : Int)) && decide ((0 : Int) ≤ y17.2) && decide (y17.2 ≤ (y16.length : Int))) then (bif (Nat.ble (0 + ((y16.take ((0 : Int) + y17.2).toNat).drop 0).length) (lim 48)) then (bif (decide (0 ≤ (w (y17.2 + (1 : Int)))) && decide ((w (y17.2 + (1 : Int))) ≤ (y16.length : Int)) && decide ((y16.length : Int) ≤ (y16.length : Int))) then (bif (Nat.ble (([] ++ ((y16.take ((0 : Int) + y17.2).toNat).drop 0)).length + ((y16.take ((0 : Int) + (y16.length : Int)).toNat).drop ((0 : Int) + (w (y17.2 + (1 : Int)))).toNat).length) (lim 48)) then some (y18.1, y1.2.1, y1.2.2, (([] ++ ((y16.take ((0 : Int) + y17.2).toNat).drop 0)) ++ ((y16.take ((0 : Int) + (y16.length : Int)).toNat).drop ((0 : Int) + (w (y17.2 + (1 : Int)))).toNat))) else none) else none) else none) else none) else (bif (y18.2 == (1 : Int)) then (bif (decide (0 ≤ y17.2) && decide (y17.2 < (y16.length : Int))) then (bif (Nat.ble (y16.length + [((((y16.getD ((0 : Int) + y17.2).toNat zM).1).1, (((y16.getD ((0 : Int) + y17.2).toNat zM).1).2).1, ((((y16.getD ((0 : Int) + y17.2).toNat zM).1).2).2)), ((y16.getD ((0 : Int) + y17.2).toNat zM).2))].length) (lim 48)) then some (y18.1, y1.2.1, y1.2.2, (y16 ++ [((((y16.getD ((0 : Int) + y17.2).toNat zM).1).1, (((y16.getD ((0 : Int) + y17.2).toNat zM).1).2).1, ((((y16.getD ((0 : Int) + y17.2).toNat zM).1).2).2)), ((y16.getD ((0 : Int) + y17.2).toNat zM).2))])) else none) else none) else (bif (y18.2 == (2 : Int)) then (bif (decide (0 ≤ y17.2) && decide (y17.2 < (y16.length : Int))) then (bif (decide (0 ≤ y17.2) && decide (y17.2 < (y16.length : Int))) then some (y18.1, y1.2.1, y1.2.2, (y16.set ((0 : Int) + y17.2).toNat ((y16.getD ((0 : Int) + y17.2).toNat zM).1, (w (((y16.getD ((0 : Int) + y17.2).toNat zM).2).1 + (1 : Int))), ((y16.getD ((0 : Int) + y17.2).toNat zM).2).2))) else none) else none) else some (y18.1, y1.2.1, y1.2.2, y16)))) else some (y15.1, y1.2.1, y1.2.2, y16)) else none) else (bif (decide ((y14.length : Int) > (0 : Int))) then (f140G K (a0.1, q9, q10) (y14.length : Int)).bind fun y19 => (f140G K (a0.1, y19.1) (30 : Int)).bind fun y20 => (bif (y20.2 == (0 : Int)) then (bif (decide (0 ≤ (0 : Int)) && decide ((0 : Int) ≤ y19.2) && decide (y19.2 ≤ (y14.length : Int))) then (bif (Nat.ble (0 + ((y14.take ((0 : Int) + y19.2).toNat).drop 0).length) (lim 48)) then (bif (decide (0 ≤ (w (y19.2 + (1 : Int)))) && decide ((w (y19.2 + (1 : Int))) ≤ (y14.length : Int)) && decide ((y14.length : Int) ≤ (y14.length : Int))) then (bif (Nat.ble (([] ++ ((y14.take ((0 : Int) + y19.2).toNat).drop 0)).length + ((y14.take ((0 : Int) + (y14.length : Int)).toNat).drop ((0 : Int) + (w (y19.2 + (1 : Int)))).toNat).length) (lim 48)) then some (y20.1, y1.2.1, y1.2.2, (([] ++ ((y14.take ((0 : Int) + y19.2).toNat).drop 0)) ++ ((y14.take ((0 : Int) + (y14.length : Int)).toNat).drop ((0 : Int) + (w (y19.2 + (1 : Int)))).toNat))) else none) else none) else none) else none) else (bif (y20.2 == (1 : Int)) then (bif (decide (0 ≤ y19.2) && decide (y19.2 < (y14.length : Int))) then (bif (Nat.ble (y14.length + [((((y14.getD ((0 : Int) + y19.2).toNat zM).1).1, (((y14.getD ((0 : Int) + y19.2).toNat zM).1).2).1, ((((y14.getD ((0 : Int) + y19.2).toNat zM).1).2).2)), ((y14.getD ((0 : Int) + y19.2).toNat zM).2))].length) (lim 48)) then some (y20.1, y1.2.1, y1.2.2, (y14 ++ [((((y14.getD ((0 : Int) + y19.2).toNat zM).1).1, (((y14.getD ((0 : Int) + y19.2).toNat zM).1).2).1, ((((y14.getD ((0 : Int) + y19.2).toNat zM).1).2).2)), ((y14.getD ((0 : Int) + y19.2).toNat zM).2))])) else none) else none) else (bif (y20.2 == (2 : Int)) then (bif (decide (0 ≤ y19.2) && decide (y19.2 < (y14.length : Int))) then (bif (decide (0 ≤ y19.2) && decide (y19.2 < (y14.length : Int))) then some (y20.1, y1.2.1, y1.2.2, (y14.set ((0 : Int) + y19.2).toNat ((y14.getD ((0 : Int) + y19.2).toNat zM).1, (w (((y14.getD ((0 : Int) + y19.2).toNat zM).2).1 + (1 : Int))), ((y14.getD ((0 : Int) + y19.2).toNat zM).2).2))) else none) else none) else some (y20.1, y1.2.1, y1.2.2, y14)))) else some ((q9, q10), y1.2.1, y1.2.2, y14))))
noncomputable def f178_l7 (K : Nat) (a0 : (List Int) × Int × Int) (y1 : tV × Int × Int × Int × Int) (y2 : Int) (n : Nat) (q8 : Int) (q9 : Int) (q10 : Int) (q11 : List tM) : Option (tV × Int × tL × List tM) :=
  iter (X := Int × Int × Int × List tM) (fun L x => (fun L7 => f178_b7 K a0 y1 y2 L7 x.1 x.2.1 x.2.2.1 x.2.2.2) (fun v0 v1 v2 v3 => L (v0, v1, v2, v3))) n (q8, q9, q10, q11)
noncomputable def f178_fr7 (a0 : (List Int) × Int × Int) (y1 : tV × Int × Int × Int × Int) (y2 : Int) (q8 : Int) (q9 : Int) (q10 : Int) (q11 : List tM) : Fr := ⟨98, [(0, .v false [.box 0 0]), (2, .v false [.int .i64 (0 : Int)]), (3, .v false [.box 1 0]), (4, .v false [.row 1]), (5, .v false [.int .i64 y1.2.1]), (6, .v false [.box 2 0]), (7, .v false [.row 2]), (8, .v false [.int .i64 q8]), (19, .v false [.bool (y2 == (0 : Int))])], [some ⟨true, [.row 0, .int .i64 q9, .int .i64 q10]⟩, some ⟨true, [.int .i64 (0 : Int), .int .i64 (0 : Int), .int .i64 (0 : Int)]⟩, some ⟨true, [.int .i64 y1.2.2.1, .int .i64 y1.2.2.2.1, .int .i64 y1.2.2.2.2]⟩], [some ⟨5, (.int .u8), a0.1, .ro⟩, some ⟨57, sM, [], .own⟩, some ⟨57, sM, q11, .own⟩]⟩
noncomputable def f178_k7 (K : Nat) (a0 : (List Int) × Int × Int) (lr : LR (tV × Int × tL × List tM)) : Ex → Fr → Option (tV × Int × tL × List tM) :=
  contC (f178E K) 1 lr f178C [1, 1, 1, 0, 1, 0, 0, 1, 0] (finP (f178E K) Tryz.f178 sV [sI, sL, (.list 57 sM)])
noncomputable def f178_g (K : Nat) (a0 : (List Int) × Int × Int) (I7 : (tV × Int × Int × Int × Int) → Int → Int → Int → Int → (List tM) → Option (tV × Int × tL × List tM)) : Option (tV × Int × tL × List tM) :=
  (f213G K a0).bind fun y1 => (f215G K y1.2.1 y1.2.2).bind fun y2 => (bif (y2 == (0 : Int)) then (f140G K (a0.1, y1.1) (3 : Int)).bind fun y3 => I7 y1 y2 y3.2 y3.1.1 y3.1.2 [] else (bif (decide ((([] : List tM).length : Int) > (24 : Int))) then (f140G K (a0.1, y1.1) (([] : List tM).length : Int)).bind fun y21 => (bif (decide (0 ≤ y21.2) && decide (y21.2 < (([] : List tM).length : Int))) then (f292G K y1.2.2 [((((([] : List tM).getD ((0 : Int) + y21.2).toNat zM).1).1, (((([] : List tM).getD ((0 : Int) + y21.2).toNat zM).1).2).1, ((((([] : List tM).getD ((0 : Int) + y21.2).toNat zM).1).2).2)), ((([] : List tM).getD ((0 : Int) + y21.2).toNat zM).2))]).bind fun y22 => (bif (decide ((y22.length : Int) > (0 : Int))) then (f140G K (a0.1, y21.1) (y22.length : Int)).bind fun y23 => (f140G K (a0.1, y23.1) (30 : Int)).bind fun y24 => (bif (y24.2 == (0 : Int)) then (bif (decide (0 ≤ (0 : Int)) && decide ((0 : Int) ≤ y23.2) && decide (y23.2 ≤ (y22.length : Int))) then (bif (Nat.ble (0 + ((y22.take ((0 : Int) + y23.2).toNat).drop 0).length) (lim 48)) then (bif (decide (0 ≤ (w (y23.2 + (1 : Int)))) && decide ((w (y23.2 + (1 : Int))) ≤ (y22.length : Int)) && decide ((y22.length : Int) ≤ (y22.length : Int))) then (bif (Nat.ble (([] ++ ((y22.take ((0 : Int) + y23.2).toNat).drop 0)).length + ((y22.take ((0 : Int) + (y22.length : Int)).toNat).drop ((0 : Int) + (w (y23.2 + (1 : Int)))).toNat).length) (lim 48)) then some (y24.1, y1.2.1, y1.2.2, (([] ++ ((y22.take ((0 : Int) + y23.2).toNat).drop 0)) ++ ((y22.take ((0 : Int) + (y22.length : Int)).toNat).drop ((0 : Int) + (w (y23.2 + (1 : Int)))).toNat))) else none) else none) else none) else none) else (bif (y24.2 == (1 : Int)) then (bif (decide (0 ≤ y23.2) && decide (y23.2 < (y22.length : Int))) then (bif (Nat.ble (y22.length + [((((y22.getD ((0 : Int) + y23.2).toNat zM).1).1, (((y22.getD ((0 : Int) + y23.2).toNat zM).1).2).1, ((((y22.getD ((0 : Int) + y23.2).toNat zM).1).2).2)), ((y22.getD ((0 : Int) + y23.2).toNat zM).2))].length) (lim 48)) then some (y24.1, y1.2.1, y1.2.2, (y22 ++ [((((y22.getD ((0 : Int) + y23.2).toNat zM).1).1, (((y22.getD ((0 : Int) + y23.2).toNat zM).1).2).1, ((((y22.getD ((0 : Int) + y23.2).toNat zM).1).2).2)), ((y22.getD ((0 : Int) + y23.2).toNat zM).2))])) else none) else none) else (bif (y24.2 == (2 : Int)) then (bif (decide (0 ≤ y23.2) && decide (y23.2 < (y22.length : Int))) then (bif (decide (0 ≤ y23.2) && decide (y23.2 < (y22.length : Int))) then some (y24.1, y1.2.1, y1.2.2, (y22.set ((0 : Int) + y23.2).toNat ((y22.getD ((0 : Int) + y23.2).toNat zM).1, (w (((y22.getD ((0 : Int) + y23.2).toNat zM).2).1 + (1 : Int))), ((y22.getD ((0 : Int) + y23.2).toNat zM).2).2))) else none) else none) else some (y24.1, y1.2.1, y1.2.2, y22)))) else some (y21.1, y1.2.1, y1.2.2, y22)) else none) else (bif (decide ((([] : List tM).length : Int) > (0 : Int))) then (f140G K (a0.1, y1.1) (([] : List tM).length : Int)).bind fun y25 => (f140G K (a0.1, y25.1) (30 : Int)).bind fun y26 => (bif (y26.2 == (0 : Int)) then (bif (decide (0 ≤ (0 : Int)) && decide ((0 : Int) ≤ y25.2) && decide (y25.2 ≤ (([] : List tM).length : Int))) then (bif (Nat.ble (0 + ((([] : List tM).take ((0 : Int) + y25.2).toNat).drop 0).length) (lim 48)) then (bif (decide (0 ≤ (w (y25.2 + (1 : Int)))) && decide ((w (y25.2 + (1 : Int))) ≤ (([] : List tM).length : Int)) && decide ((([] : List tM).length : Int) ≤ (([] : List tM).length : Int))) then (bif (Nat.ble (([] ++ ((([] : List tM).take ((0 : Int) + y25.2).toNat).drop 0)).length + ((([] : List tM).take ((0 : Int) + (([] : List tM).length : Int)).toNat).drop ((0 : Int) + (w (y25.2 + (1 : Int)))).toNat).length) (lim 48)) then some (y26.1, y1.2.1, y1.2.2, (([] ++ ((([] : List tM).take ((0 : Int) + y25.2).toNat).drop 0)) ++ ((([] : List tM).take ((0 : Int) + (([] : List tM).length : Int)).toNat).drop ((0 : Int) + (w (y25.2 + (1 : Int)))).toNat))) else none) else none) else none) else none) else (bif (y26.2 == (1 : Int)) then (bif (decide (0 ≤ y25.2) && decide (y25.2 < (([] : List tM).length : Int))) then (bif (Nat.ble (0 + [((((([] : List tM).getD ((0 : Int) + y25.2).toNat zM).1).1, (((([] : List tM).getD ((0 : Int) + y25.2).toNat zM).1).2).1, ((((([] : List tM).getD ((0 : Int) + y25.2).toNat zM).1).2).2)), ((([] : List tM).getD ((0 : Int) + y25.2).toNat zM).2))].length) (lim 48)) then some (y26.1, y1.2.1, y1.2.2, ([] ++ [((((([] : List tM).getD ((0 : Int) + y25.2).toNat zM).1).1, (((([] : List tM).getD ((0 : Int) + y25.2).toNat zM).1).2).1, ((((([] : List tM).getD ((0 : Int) + y25.2).toNat zM).1).2).2)), ((([] : List tM).getD ((0 : Int) + y25.2).toNat zM).2))])) else none) else none) else (bif (y26.2 == (2 : Int)) then (bif (decide (0 ≤ y25.2) && decide (y25.2 < (([] : List tM).length : Int))) then (bif (decide (0 ≤ y25.2) && decide (y25.2 < (([] : List tM).length : Int))) then some (y26.1, y1.2.1, y1.2.2, (([] : List tM).set ((0 : Int) + y25.2).toNat ((([] : List tM).getD ((0 : Int) + y25.2).toNat zM).1, (w (((([] : List tM).getD ((0 : Int) + y25.2).toNat zM).2).1 + (1 : Int))), ((([] : List tM).getD ((0 : Int) + y25.2).toNat zM).2).2))) else none) else none) else some (y26.1, y1.2.1, y1.2.2, [])))) else some (y1.1, y1.2.1, y1.2.2, []))))
noncomputable def f178G (K : Nat) (a0 : (List Int) × Int × Int) : Option (tV × Int × tL × List tM) :=
  f178_g K a0 (fun c0 c1 d0 d1 d2 d3 => f178_l7 K a0 c0 c1 K d0 d1 d2 d3)
noncomputable def f178M (K : Nat) : PMdl := ⟨5, (.int .u8), sV, [], [sI, sL, (.list 57 sM)], fun x => f178G K x.1⟩
/-! spec.l23DrawFree -/
noncomputable def f223E (K : Nat) : Env := ⟨[(292, f292M K), (312, f312M K)], tys, eqs, mts, K, [0, 2, 3, 4, 5, 6, 7, 9, 10, 11, 12, 13, 14, 16, 17, 31, 42, 53], [(140, f140M K), (178, f178M K)], []⟩
noncomputable def f223G (K : Nat) (a0 : (List Int) × Int × Int) : Option (tV × Int × tL × List tM) :=
  (f140G K a0 (6 : Int)).bind fun y1 => (bif (y1.2 == (0 : Int)) then (f140G K (a0.1, y1.1) (2 : Int)).bind fun y2 => (f312G K (bs [112, 103]) (w ((1 : Int) + y2.2))).bind fun y3 => some (y2.1, y3.1, y3.2.1, y3.2.2.1) else (bif (y1.2 == (1 : Int)) then (f292G K ((4 : Int), (0 : Int), (4 : Int)) [(((-1 : Int), (0 : Int), (0 : Int), (-1 : Int)), (1 : Int), (0 : Int))]).bind fun y4 => some (y1.1, (0 : Int), ((4 : Int), (0 : Int), (4 : Int)), y4) else (bif (y1.2 == (2 : Int)) then (f292G K ((4 : Int), (0 : Int), (4 : Int)) [(((0 : Int), (-1 : Int), (1 : Int), (0 : Int)), (1 : Int), (0 : Int))]).bind fun y5 => some (y1.1, (0 : Int), ((4 : Int), (0 : Int), (4 : Int)), y5) else (bif (y1.2 == (3 : Int)) then (f292G K ((4 : Int), (0 : Int), (4 : Int)) [(((1 : Int), (0 : Int), (0 : Int), (-1 : Int)), (0 : Int), (1 : Int))]).bind fun y6 => some (y1.1, (0 : Int), ((4 : Int), (0 : Int), (4 : Int)), y6) else (f178G K (a0.1, y1.1)).bind fun y7 => some y7))))
noncomputable def f223M (K : Nat) : PMdl := ⟨5, (.int .u8), sV, [], [sI, sL, (.list 57 sM)], fun x => f223G K x.1⟩
/-! spec.DrawConnectedUnit -/
noncomputable def f105E (K : Nat) : Env := ⟨[], tys, eqs, mts, K, [0, 2, 3, 4], [(223, f223M K)], [(124, f124M K)]⟩
noncomputable def f105G (K : Nat) (a0 : List Int) : Option (Int × tL × List tM) :=
  (f124G K a0).bind fun y1 => (f223G K (a0, y1)).bind fun y2 => some y2.2
noncomputable def f105M (K : Nat) : Mdl := ⟨[(.ro, (.list 5 (.int .u8)))], [sI, sL, (.list 57 sM)], fun x => f105G K x.1⟩
/-! impl.within -/
noncomputable def f194E (K : Nat) : Env := ⟨[], tys, eqs, mts, K, [0, 1, 2, 6], [], []⟩
noncomputable def f194G (K : Nat) (a0 : Int) (a1 : Int) (a2 : Int) : Option Bool :=
  (bif ((!(decide (a0 ≥ a1))) || true) then (bif ((!(decide (a0 ≥ a1))) || true) then (bif ((!(decide (a0 ≥ a1))) || true) then some (bif (decide (a0 ≥ a1)) then (decide (a0 ≤ a2)) else false) else none) else none) else none)
noncomputable def f194M (K : Nat) : Mdl := ⟨[(.ro, sI), (.ro, sI), (.ro, sI)], [.bool], fun x => f194G K x.1 x.2.1 x.2.2.1⟩
/-! impl.IsFrame -/
noncomputable def f256E (K : Nat) : Env := ⟨[(194, f194M K)], tys, eqs, mts, K, [0, 2], [], []⟩
noncomputable def f256G (K : Nat) (a0 : Int) : Option Bool :=
  (f194G K a0 (0 : Int) (1 : Int)).bind fun y1 => some y1
noncomputable def f256M (K : Nat) : Mdl := ⟨[(.ro, sI)], [.bool], fun x => f256G K x.1⟩
/-! (impl.Lattice).index -/
noncomputable def f133E (K : Nat) : Env := ⟨[], tys, eqs, mts, K, [0, 1, 2], [], []⟩
noncomputable def f133G (K : Nat) (a0 : Int × Int × Int) : Option Int :=
  some (w (a0.1 * a0.2.2))
noncomputable def f133M (K : Nat) : Mdl := ⟨[(.ro, sL)], [sI], fun x => f133G K x.1⟩
/-! impl.IsLattice -/
noncomputable def f184E (K : Nat) : Env := ⟨[(133, f133M K), (194, f194M K)], tys, eqs, mts, K, [0, 1, 2], [], []⟩
noncomputable def f184G (K : Nat) (a0 : Int × Int × Int) : Option Bool :=
  (f194G K a0.1 (1 : Int) (64 : Int)).bind fun y1 => (bif ((!y1) || true) then (bif ((!y1) || true) then ((bif y1 then f194G K a0.2.2 (1 : Int) (64 : Int) else some false)).bind fun y2 => (bif ((!(bif y1 then y2 else false)) || true) then (bif ((!(bif y1 then y2 else false)) || true) then (bif ((!(bif y1 then y2 else false)) || true) then (bif ((!(bif y1 then y2 else false)) || true) then (bif ((!(bif y1 then y2 else false)) || true) then ((bif (bif y1 then y2 else false) then f194G K a0.2.1 (0 : Int) (w (a0.1 - (1 : Int))) else some false)).bind fun y3 => (bif ((!(bif (bif y1 then y2 else false) then y3 else false)) || true) then ((bif (bif (bif y1 then y2 else false) then y3 else false) then f133G K a0 else some (0 : Int))).bind fun y4 => (bif ((!(bif (bif y1 then y2 else false) then y3 else false)) || true) then some (bif (bif (bif y1 then y2 else false) then y3 else false) then (decide (y4 ≤ (64 : Int))) else false) else none) else none) else none) else none) else none) else none) else none) else none) else none)
noncomputable def f184M (K : Nat) : Mdl := ⟨[(.ro, sL)], [.bool], fun x => f184G K x.1⟩
/-! impl.frameCode -/
noncomputable def f186E (K : Nat) : Env := ⟨[(184, f184M K), (256, f256M K)], tys, eqs, mts, K, [0, 1, 3, 4, 12], [], []⟩
noncomputable def f186G (K : Nat) (a0 : Int) (a1 : Int × Int × Int) : Option Int :=
  (f256G K a0).bind fun y1 => (bif ((!(!(!y1))) || true) then ((bif (!(!y1)) then f184G K a1 else some false)).bind fun y2 => (bif ((!(!(!y1))) || true) then (bif (bif (!y1) then true else (!y2)) then some (1 : Int) else some (0 : Int)) else none) else none)
noncomputable def f186M (K : Nat) : Mdl := ⟨[(.ro, sI), (.ro, sL)], [sI], fun x => f186G K x.1 x.2.1⟩
/-! (impl.Lattice).basis -/
noncomputable def f268E (K : Nat) : Env := ⟨[], tys, eqs, mts, K, [0, 1, 2, 3], [], []⟩
noncomputable def f268G (K : Nat) (a0 : Int × Int × Int) : Option (tV × Int × Int) :=
  some ((a0.1, (0 : Int)), a0.2)
noncomputable def f268M (K : Nat) : Mdl := ⟨[(.ro, sL)], [sV, sV], fun x => f268G K x.1⟩
/-! (impl.Mat).apply -/
noncomputable def f282E (K : Nat) : Env := ⟨[], tys, eqs, mts, K, [0, 1, 2, 3, 4], [], []⟩
noncomputable def f282G (K : Nat) (a0 : Int × Int × Int × Int) (a1 : Int × Int) : Option tV :=
  some ((w ((w (a0.1 * a1.1)) + (w (a0.2.1 * a1.2)))), (w ((w (a0.2.2.1 * a1.1)) + (w (a0.2.2.2 * a1.2)))))
noncomputable def f282M (K : Nat) : Mdl := ⟨[(.ro, sA), (.ro, sV)], [sV], fun x => f282G K x.1 x.2.1⟩
/-! impl.norm -/
noncomputable def f346E (K : Nat) : Env := ⟨[], tys, eqs, mts, K, [0, 1, 3, 4], [], []⟩
noncomputable def f346G (K : Nat) (a0 : Int) (a1 : Int × Int) : Option Int :=
  some (w ((w ((w (a1.1 * a1.1)) + (w ((w (a0 * a1.1)) * a1.2)))) + (w (a1.2 * a1.2))))
noncomputable def f346M (K : Nat) : Mdl := ⟨[(.ro, sI), (.ro, sV)], [sI], fun x => f346G K x.1 x.2.1⟩
/-! impl.pointMats -/
noncomputable def f280C : Code := codeOf Tryz.f280
noncomputable def f280E (K : Nat) : Env := ⟨[(282, f282M K), (346, f346M K)], tys, eqs, mts, K, [0, 2, 3, 4, 5, 6, 7, 8, 10, 11, 54], [], []⟩
noncomputable def f280_b8 (K : Nat) (a0 : Int) (L8 : Int → (List tA) → Option (List tA)) (q9 : Int) (q10 : List tA) : Option (List tA) :=
  (bif (decide (q9 < (81 : Int))) then (f282G K ((w ((w (q9.tdiv (27 : Int))) - (1 : Int))), (w (((w (q9.tdiv (9 : Int))).tmod (3 : Int)) - (1 : Int))), (w (((w (q9.tdiv (3 : Int))).tmod (3 : Int)) - (1 : Int))), (w ((q9.tmod (3 : Int)) - (1 : Int)))) ((1 : Int), (0 : Int))).bind fun y11 => (f282G K ((w ((w (q9.tdiv (27 : Int))) - (1 : Int))), (w (((w (q9.tdiv (9 : Int))).tmod (3 : Int)) - (1 : Int))), (w (((w (q9.tdiv (3 : Int))).tmod (3 : Int)) - (1 : Int))), (w ((q9.tmod (3 : Int)) - (1 : Int)))) ((0 : Int), (1 : Int))).bind fun y12 => (f282G K ((w ((w (q9.tdiv (27 : Int))) - (1 : Int))), (w (((w (q9.tdiv (9 : Int))).tmod (3 : Int)) - (1 : Int))), (w (((w (q9.tdiv (3 : Int))).tmod (3 : Int)) - (1 : Int))), (w ((q9.tmod (3 : Int)) - (1 : Int)))) ((1 : Int), (1 : Int))).bind fun y13 => (f346G K a0 y11).bind fun y14 => (bif ((!(y14 == (1 : Int))) || true) then (bif ((!(y14 == (1 : Int))) || true) then ((bif (y14 == (1 : Int)) then f346G K a0 y12 else some (0 : Int))).bind fun y15 => (bif ((!(y14 == (1 : Int))) || true) then (bif ((!(bif (y14 == (1 : Int)) then (y15 == (1 : Int)) else false)) || true) then (bif ((!(bif (y14 == (1 : Int)) then (y15 == (1 : Int)) else false)) || true) then ((bif (bif (y14 == (1 : Int)) then (y15 == (1 : Int)) else false) then f346G K a0 y13 else some (0 : Int))).bind fun y16 => (bif ((!(bif (y14 == (1 : Int)) then (y15 == (1 : Int)) else false)) || true) then (bif ((!(bif (y14 == (1 : Int)) then (y15 == (1 : Int)) else false)) || true) then (bif ((!(bif (y14 == (1 : Int)) then (y15 == (1 : Int)) else false)) || true) then (bif (bif (bif (y14 == (1 : Int)) then (y15 == (1 : Int)) else false) then (y16 == (w ((2 : Int) + a0))) else false) then (bif (Nat.ble (q10.length + [((w ((w (q9.tdiv (27 : Int))) - (1 : Int))), (w (((w (q9.tdiv (9 : Int))).tmod (3 : Int)) - (1 : Int))), (w (((w (q9.tdiv (3 : Int))).tmod (3 : Int)) - (1 : Int))), (w ((q9.tmod (3 : Int)) - (1 : Int))))].length) (lim 32)) then L8 (w (q9 + (1 : Int))) (q10 ++ [((w ((w (q9.tdiv (27 : Int))) - (1 : Int))), (w (((w (q9.tdiv (9 : Int))).tmod (3 : Int)) - (1 : Int))), (w (((w (q9.tdiv (3 : Int))).tmod (3 : Int)) - (1 : Int))), (w ((q9.tmod (3 : Int)) - (1 : Int))))]) else none) else L8 (w (q9 + (1 : Int))) q10) else none) else none) else none) else none) else none) else none) else none) else none) else some q10)
noncomputable def f280_l8 (K : Nat) (a0 : Int) (n : Nat) (q9 : Int) (q10 : List tA) : Option (List tA) :=
  iter (X := Int × List tA) (fun L x => (fun L8 => f280_b8 K a0 L8 x.1 x.2) (fun v0 v1 => L (v0, v1))) n (q9, q10)
noncomputable def f280_fr8 (a0 : Int) (q9 : Int) (q10 : List tA) : Fr := ⟨61, [(0, .v false [.int .i64 a0]), (2, .v false [.row 0]), (3, .v false [.row 1]), (10, .v false [.int .i64 q9])], [], [some ⟨53, sA, [], .own⟩, some ⟨53, sA, q10, .own⟩]⟩
noncomputable def f280_k8 (K : Nat) (a0 : Int) (lr : LR (List tA)) : Ex → Fr → Option (List tA) :=
  contC (f280E K) 0 lr f280C [1, 1, 0, 1, 0] (finK (f280E K) Tryz.f280 [(.ro, sI)] [(.list 53 sA)] (a0, ()))
noncomputable def f280_g (K : Nat) (a0 : Int) (I8 : Int → (List tA) → Option (List tA)) : Option (List tA) :=
  I8 (0 : Int) []
noncomputable def f280G (K : Nat) (a0 : Int) : Option (List tA) :=
  f280_g K a0 (fun d0 d1 => f280_l8 K a0 K d0 d1)
noncomputable def f280M (K : Nat) : Mdl := ⟨[(.ro, sI)], [(.list 53 sA)], fun x => f280G K x.1⟩
/-! impl.mod -/
noncomputable def f290E (K : Nat) : Env := ⟨[], tys, eqs, mts, K, [0, 1, 4], [], []⟩
noncomputable def f290G (K : Nat) (a0 : Int) (a1 : Int) : Option Int :=
  (bif (a1 != 0) then (bif (a1 != 0) then some ((w ((a0.tmod a1) + a1)).tmod a1) else none) else none)
noncomputable def f290M (K : Nat) : Mdl := ⟨[(.ro, sI), (.ro, sI)], [sI], fun x => f290G K x.1 x.2.1⟩
/-! (impl.Lattice).reduce -/
noncomputable def f176E (K : Nat) : Env := ⟨[(290, f290M K)], tys, eqs, mts, K, [0, 1, 2, 3, 4, 5], [], []⟩
noncomputable def f176G (K : Nat) (a0 : Int × Int × Int) (a1 : Int × Int) : Option tV :=
  (f290G K a1.2 a0.2.2).bind fun y1 => (bif (a0.2.2 != 0) then (f290G K (w (a1.1 - (w ((w ((w (a1.2 - y1)).tdiv a0.2.2)) * a0.2.1)))) a0.1).bind fun y2 => some (y2, y1) else none)
noncomputable def f176M (K : Nat) : Mdl := ⟨[(.ro, sL), (.ro, sV)], [sV], fun x => f176G K x.1 x.2.1⟩
/-! (impl.Lattice).has -/
noncomputable def f339E (K : Nat) : Env := ⟨[(176, f176M K)], tys, eqs, mts, K, [0, 1, 2, 3, 4], [], []⟩
noncomputable def f339G (K : Nat) (a0 : Int × Int × Int) (a1 : Int × Int) : Option Bool :=
  (f176G K a0 a1).bind fun y1 => some ((y1.1 == (0 : Int)) && (y1.2 == (0 : Int)))
noncomputable def f339M (K : Nat) : Mdl := ⟨[(.ro, sL), (.ro, sV)], [.bool], fun x => f339G K x.1 x.2.1⟩
/-! impl.latticeMats$1 -/
noncomputable def f338E (K : Nat) : Env := ⟨[(282, f282M K), (339, f339M K)], tys, eqs, mts, K, [0, 1, 2, 3, 4, 5], [], []⟩
noncomputable def f338G (K : Nat) (a0 : Int × Int × Int × Int) (a1 : Int × Int × Int) (a2 : Int × Int) (a3 : Int × Int) : Option Bool :=
  (f282G K a0 a2).bind fun y1 => (f339G K a1 y1).bind fun y2 => (bif ((!(!(!y2))) || true) then (bif ((!(!(!y2))) || true) then (bif ((!(!(!y2))) || true) then ((bif (!(!y2)) then f282G K a0 a3 else some ((0 : Int), (0 : Int)))).bind fun y3 => ((bif (!(!y2)) then f339G K a1 y3 else some false)).bind fun y4 => (bif ((!(!(!y2))) || true) then some (bif (!y2) then true else (!y4)) else none) else none) else none) else none)
noncomputable def f338M (K : Nat) : Mdl := ⟨[(.ro, sA), (.cap, sL), (.cap, sV), (.cap, sV)], [.bool], fun x => f338G K x.1 x.2.1 x.2.2.1 x.2.2.2.1⟩
/-! slices.IndexFunc[[]impl.Mat,impl.Mat] -/
noncomputable def f378C : Code := codeOf Tryz.f378
noncomputable def f378E (K : Nat) : Env := ⟨[], tys, eqs, mts, K, [0, 1, 4, 5, 7, 8, 9, 16], [], []⟩
noncomputable def f378_b3 (K : Nat) (a0 : List tA) (a1 : (tA → Option Bool)) (L3 : Int → Option Int) (q4 : Int) : Option Int :=
  (bif (decide (q4 < (a0.length : Int))) then (bif (decide (0 ≤ q4) && decide (q4 < (a0.length : Int))) then (a1 ((a0.getD ((0 : Int) + q4).toNat zA).1, ((a0.getD ((0 : Int) + q4).toNat zA).2).1, (((a0.getD ((0 : Int) + q4).toNat zA).2).2))).bind fun y5 => (bif y5 then some q4 else L3 (w (q4 + (1 : Int)))) else none) else some (-1 : Int))
noncomputable def f378_l3 (K : Nat) (a0 : List tA) (a1 : (tA → Option Bool)) (n : Nat) (q4 : Int) : Option Int :=
  iter (X := Int) (fun L x => (fun L3 => f378_b3 K a0 a1 L3 x) (fun v0 => L v0)) n q4
noncomputable def f378_fr3 (a0 : List tA) (a1 : (tA → Option Bool)) (q4 : Int) : Fr := ⟨19, [(0, .v false [.row 0]), (1, .v false [.fv1 sA .bool a1]), (4, .v false [.int .i64 (0 : Int)]), (7, .v false [.int .i64 (a0.length : Int)]), (8, .v false [.int .i64 q4])], [], [some ⟨53, sA, a0, .ro⟩]⟩
noncomputable def f378_k3 (K : Nat) (a0 : List tA) (a1 : (tA → Option Bool)) (lr : LR Int) : Ex → Fr → Option Int :=
  contC (f378E K) 1 lr f378C [1, 0, 1, 0] (finK (f378E K) Tryz.f378 [(.ro, (.list 53 sA)), (.ro, (.fn1 sA .bool))] [sI] (a0, a1, ()))
noncomputable def f378_g (K : Nat) (a0 : List tA) (a1 : (tA → Option Bool)) (I3 : Int → Option Int) : Option Int :=
  I3 (0 : Int)
noncomputable def f378G (K : Nat) (a0 : List tA) (a1 : (tA → Option Bool)) : Option Int :=
  f378_g K a0 a1 (fun d0 => f378_l3 K a0 a1 K d0)
noncomputable def f378M (K : Nat) : Mdl := ⟨[(.ro, (.list 53 sA)), (.ro, (.fn1 sA .bool))], [sI], fun x => f378G K x.1 x.2.1⟩
/-! slices.DeleteFunc[[]impl.Mat,impl.Mat] -/
noncomputable def f337C : Code := codeOf Tryz.f337
noncomputable def f337E (K : Nat) : Env := ⟨[(378, f378M K)], tys, eqs, mts, K, [0, 1, 4, 5, 6, 7, 12, 19, 29], [], []⟩
noncomputable def f337_b4 (K : Nat) (a1 : (tA → Option Bool)) (y1 : Int) (L4 : Int → Int → (List tA) → Option (List tA)) (q5 : Int) (q6 : Int) (q7 : List tA) : Option (List tA) :=
  (bif (decide (q6 < (q7.length : Int))) then (bif (decide (0 ≤ q6) && decide (q6 < (q7.length : Int))) then (a1 ((q7.getD ((0 : Int) + q6).toNat zA).1, ((q7.getD ((0 : Int) + q6).toNat zA).2).1, (((q7.getD ((0 : Int) + q6).toNat zA).2).2))).bind fun y8 => (bif (!y8) then (bif (decide (0 ≤ q5) && decide (q5 < (q7.length : Int))) then L4 (w (q5 + (1 : Int))) (w (q6 + (1 : Int))) (q7.set ((0 : Int) + q5).toNat ((q7.getD ((0 : Int) + q6).toNat zA).1, ((q7.getD ((0 : Int) + q6).toNat zA).2).1, (((q7.getD ((0 : Int) + q6).toNat zA).2).2))) else none) else L4 q5 (w (q6 + (1 : Int))) q7) else none) else (bif (decide (0 ≤ q5) && decide (q5 ≤ (q7.length : Int)) && decide ((q7.length : Int) ≤ (q7.length : Int))) then (bif (decide (0 ≤ (0 : Int)) && decide ((0 : Int) ≤ q5) && decide (q5 ≤ ((clr q7 ((0 : Int) + q5).toNat (((0 : Int) + q5) + (((0 : Int) + (q7.length : Int)) - ((0 : Int) + q5))).toNat zA).length : Int))) then some ((clr q7 ((0 : Int) + q5).toNat (((0 : Int) + q5) + (((0 : Int) + (q7.length : Int)) - ((0 : Int) + q5))).toNat zA).take ((0 : Int) + q5).toNat) else none) else none))
noncomputable def f337_l4 (K : Nat) (a1 : (tA → Option Bool)) (y1 : Int) (n : Nat) (q5 : Int) (q6 : Int) (q7 : List tA) : Option (List tA) :=
  iter (X := Int × Int × List tA) (fun L x => (fun L4 => f337_b4 K a1 y1 L4 x.1 x.2.1 x.2.2) (fun v0 v1 v2 => L (v0, v1, v2))) n (q5, q6, q7)
noncomputable def f337_fr4 (a1 : (tA → Option Bool)) (y1 : Int) (q5 : Int) (q6 : Int) (q7 : List tA) : Fr := ⟨42, [(0, .v false [.row 0]), (1, .v false [.fv1 sA .bool a1]), (4, .v false [.row 1]), (5, .v false [.int .i64 q5]), (6, .v false [.int .i64 q6]), (12, .v false [.bool (y1 == (-1 : Int))])], [], [some ⟨53, sA, q7, .own⟩, some ⟨53, sA, [], .own⟩]⟩
noncomputable def f337_k4 (K : Nat) (a0 : List tA) (a1 : (tA → Option Bool)) (lr : LR (List tA)) : Ex → Fr → Option (List tA) :=
  contC (f337E K) 1 lr f337C [1, 1, 1, 0, 1, 0] (finK (f337E K) Tryz.f337 [(.mv, (.list 53 sA)), (.ro, (.fn1 sA .bool))] [(.list 53 sA)] (a0, a1, ()))
noncomputable def f337_g (K : Nat) (a0 : List tA) (a1 : (tA → Option Bool)) (I4 : Int → Int → Int → (List tA) → Option (List tA)) : Option (List tA) :=
  (f378G K a0 a1).bind fun y1 => (bif (y1 == (-1 : Int)) then some a0 else I4 y1 y1 (w (y1 + (1 : Int))) a0)
noncomputable def f337G (K : Nat) (a0 : List tA) (a1 : (tA → Option Bool)) : Option (List tA) :=
  f337_g K a0 a1 (fun c0 d0 d1 d2 => f337_l4 K a1 c0 K d0 d1 d2)
noncomputable def f337M (K : Nat) : Mdl := ⟨[(.mv, (.list 53 sA)), (.ro, (.fn1 sA .bool))], [(.list 53 sA)], fun x => f337G K x.1 x.2.1⟩
/-! impl.latticeMats -/
noncomputable def f266E (K : Nat) : Env := ⟨[(268, f268M K), (280, f280M K), (337, f337M K), (338, f338M K)], tys, eqs, mts, K, [0, 1, 3, 4, 5, 6], [], []⟩
noncomputable def f266G (K : Nat) (a0 : Int) (a1 : Int × Int × Int) : Option (List tA) :=
  (f268G K a1).bind fun y1 => (f280G K a0).bind fun y2 => (f337G K y2 (fun z3 => f338G K z3 a1 y1.1 y1.2)).bind fun y4 => some y4
noncomputable def f266M (K : Nat) : Mdl := ⟨[(.ro, sI), (.ro, sL)], [(.list 53 sA)], fun x => f266G K x.1 x.2.1⟩
/-! slices.Index[[]impl.Mat,impl.Mat] -/
noncomputable def f345C : Code := codeOf Tryz.f345
noncomputable def f345E (K : Nat) : Env := ⟨[], tys, eqs, mts, K, [0, 1, 3, 4, 5, 7, 8, 9, 16], [], []⟩
noncomputable def f345_b2 (K : Nat) (a0 : List tA) (a1 : Int × Int × Int × Int) (L2 : Int → Option Int) (q3 : Int) : Option Int :=
  (bif (decide (q3 < (a0.length : Int))) then (bif (decide (0 ≤ q3) && decide (q3 < (a0.length : Int))) then (bif ((a1.1 == (a0.getD ((0 : Int) + q3).toNat zA).1) && ((a1.2.1 == ((a0.getD ((0 : Int) + q3).toNat zA).2).1) && ((a1.2.2.1 == (((a0.getD ((0 : Int) + q3).toNat zA).2).2).1) && (a1.2.2.2 == (((a0.getD ((0 : Int) + q3).toNat zA).2).2).2)))) then some q3 else L2 (w (q3 + (1 : Int)))) else none) else some (-1 : Int))
noncomputable def f345_l2 (K : Nat) (a0 : List tA) (a1 : Int × Int × Int × Int) (n : Nat) (q3 : Int) : Option Int :=
  iter (X := Int) (fun L x => (fun L2 => f345_b2 K a0 a1 L2 x) (fun v0 => L v0)) n q3
noncomputable def f345_fr2 (a0 : List tA) (a1 : Int × Int × Int × Int) (q3 : Int) : Fr := ⟨19, [(0, .v false [.row 0]), (1, .v true [.int .i64 a1.1, .int .i64 a1.2.1, .int .i64 a1.2.2.1, .int .i64 a1.2.2.2]), (3, .v false [.box 0 0]), (4, .v false [.int .i64 (0 : Int)]), (7, .v false [.int .i64 (a0.length : Int)]), (8, .v false [.int .i64 q3])], [some ⟨true, [.int .i64 a1.1, .int .i64 a1.2.1, .int .i64 a1.2.2.1, .int .i64 a1.2.2.2]⟩], [some ⟨53, sA, a0, .ro⟩]⟩
noncomputable def f345_k2 (K : Nat) (a0 : List tA) (a1 : Int × Int × Int × Int) (lr : LR Int) : Ex → Fr → Option Int :=
  contC (f345E K) 1 lr f345C [1, 0, 1, 0] (finK (f345E K) Tryz.f345 [(.ro, (.list 53 sA)), (.ro, sA)] [sI] (a0, a1, ()))
noncomputable def f345_g (K : Nat) (a0 : List tA) (a1 : Int × Int × Int × Int) (I2 : Int → Option Int) : Option Int :=
  I2 (0 : Int)
noncomputable def f345G (K : Nat) (a0 : List tA) (a1 : Int × Int × Int × Int) : Option Int :=
  f345_g K a0 a1 (fun d0 => f345_l2 K a0 a1 K d0)
noncomputable def f345M (K : Nat) : Mdl := ⟨[(.ro, (.list 53 sA)), (.ro, sA)], [sI], fun x => f345G K x.1 x.2.1⟩
/-! slices.Contains[[]impl.Mat,impl.Mat] -/
noncomputable def f279E (K : Nat) : Env := ⟨[(345, f345M K)], tys, eqs, mts, K, [0, 1, 3, 4], [], []⟩
noncomputable def f279G (K : Nat) (a0 : List tA) (a1 : Int × Int × Int × Int) : Option Bool :=
  (f345G K a0 a1).bind fun y1 => some (decide (y1 ≥ (0 : Int)))
noncomputable def f279M (K : Nat) : Mdl := ⟨[(.ro, (.list 53 sA)), (.ro, sA)], [.bool], fun x => f279G K x.1 x.2.1⟩
/-! impl.compareNumbers -/
noncomputable def f318C : Code := codeOf Tryz.f318
noncomputable def f318E (K : Nat) : Env := ⟨[], tys, eqs, mts, K, [0, 1, 4, 5, 7, 8, 9, 19, 28], [], []⟩
noncomputable def f318_b2 (K : Nat) (a0 : List Int) (a1 : List Int) (L2 : Int → Option Int) (q3 : Int) : Option Int :=
  (bif (decide (q3 < (a0.length : Int))) then (bif (decide (0 ≤ q3) && decide (q3 < (a0.length : Int))) then (bif (decide (0 ≤ q3) && decide (q3 < (a1.length : Int))) then (bif ((a0.getD ((0 : Int) + q3).toNat (0 : Int)) != (a1.getD ((0 : Int) + q3).toNat (0 : Int))) then (bif (decide (0 ≤ q3) && decide (q3 < (a0.length : Int))) then (bif (decide (0 ≤ q3) && decide (q3 < (a1.length : Int))) then (bif (decide ((a0.getD ((0 : Int) + q3).toNat (0 : Int)) < (a1.getD ((0 : Int) + q3).toNat (0 : Int)))) then some (-1 : Int) else some (1 : Int)) else none) else none) else L2 (w (q3 + (1 : Int)))) else none) else none) else some (0 : Int))
noncomputable def f318_l2 (K : Nat) (a0 : List Int) (a1 : List Int) (n : Nat) (q3 : Int) : Option Int :=
  iter (X := Int) (fun L x => (fun L2 => f318_b2 K a0 a1 L2 x) (fun v0 => L v0)) n q3
noncomputable def f318_fr2 (a0 : List Int) (a1 : List Int) (q3 : Int) : Fr := ⟨30, [(0, .v false [.row 0]), (1, .v false [.row 1]), (4, .v false [.int .i64 (0 : Int)]), (7, .v false [.int .i64 (a0.length : Int)]), (8, .v false [.int .i64 q3])], [], [some ⟨2, sI, a0, .ro⟩, some ⟨2, sI, a1, .ro⟩]⟩
noncomputable def f318_k2 (K : Nat) (a0 : List Int) (a1 : List Int) (lr : LR Int) : Ex → Fr → Option Int :=
  contC (f318E K) 2 lr f318C [1, 0, 1, 0] (finK (f318E K) Tryz.f318 [(.ro, (.list 2 sI)), (.ro, (.list 2 sI))] [sI] (a0, a1, ()))
noncomputable def f318_g (K : Nat) (a0 : List Int) (a1 : List Int) (I2 : Int → Option Int) : Option Int :=
  I2 (0 : Int)
noncomputable def f318G (K : Nat) (a0 : List Int) (a1 : List Int) : Option Int :=
  f318_g K a0 a1 (fun d0 => f318_l2 K a0 a1 K d0)
noncomputable def f318M (K : Nat) : Mdl := ⟨[(.ro, (.list 2 sI)), (.ro, (.list 2 sI))], [sI], fun x => f318G K x.1 x.2.1⟩
/-! impl.compareMats -/
noncomputable def f362E (K : Nat) : Env := ⟨[(318, f318M K)], tys, eqs, mts, K, [0, 1, 2, 3, 4], [], []⟩
noncomputable def f362G (K : Nat) (a0 : Int × Int × Int × Int) (a1 : Int × Int × Int × Int) : Option Int :=
  (f318G K [a0.1, a0.2.1, a0.2.2.1, a0.2.2.2] [a1.1, a1.2.1, a1.2.2.1, a1.2.2.2]).bind fun y1 => some y1
noncomputable def f362M (K : Nat) : Mdl := ⟨[(.ro, sA), (.ro, sA)], [sI], fun x => f362G K x.1 x.2.1⟩
/-! impl.compareVecs -/
noncomputable def f233E (K : Nat) : Env := ⟨[(318, f318M K)], tys, eqs, mts, K, [0, 1, 2, 3, 4], [], []⟩
noncomputable def f233G (K : Nat) (a0 : Int × Int) (a1 : Int × Int) : Option Int :=
  (f318G K [a0.1, a0.2] [a1.1, a1.2]).bind fun y1 => some y1
noncomputable def f233M (K : Nat) : Mdl := ⟨[(.ro, sV), (.ro, sV)], [sI], fun x => f233G K x.1 x.2.1⟩
/-! impl.compareMotions -/
noncomputable def f311E (K : Nat) : Env := ⟨[(233, f233M K), (362, f362M K)], tys, eqs, mts, K, [0, 1, 2, 3, 4, 5, 12], [], []⟩
noncomputable def f311G (K : Nat) (a0 : tA × Int × Int) (a1 : tA × Int × Int) : Option Int :=
  (f362G K a0.1 a1.1).bind fun y1 => (bif (y1 != (0 : Int)) then some y1 else (f233G K a0.2 a1.2).bind fun y2 => some y2)
noncomputable def f311M (K : Nat) : Mdl := ⟨[(.ro, sM), (.ro, sM)], [sI], fun x => f311G K x.1 x.2.1⟩
/-! impl.unit -/
noncomputable def f217E (K : Nat) : Env := ⟨[], tys, eqs, mts, K, [0], [], []⟩
noncomputable def f217G (K : Nat) : Option tA :=
  some ((1 : Int), (0 : Int), (0 : Int), (1 : Int))
noncomputable def f217M (K : Nat) : Mdl := ⟨[], [sA], fun x => f217G K ⟩
/-! (impl.Mat).times -/
noncomputable def f360E (K : Nat) : Env := ⟨[], tys, eqs, mts, K, [0, 1, 2, 3, 4], [], []⟩
noncomputable def f360G (K : Nat) (a0 : Int × Int × Int × Int) (a1 : Int × Int × Int × Int) : Option tA :=
  some ((w ((w (a0.1 * a1.1)) + (w (a0.2.1 * a1.2.2.1)))), (w ((w (a0.1 * a1.2.1)) + (w (a0.2.1 * a1.2.2.2)))), (w ((w (a0.2.2.1 * a1.1)) + (w (a0.2.2.2 * a1.2.2.1)))), (w ((w (a0.2.2.1 * a1.2.1)) + (w (a0.2.2.2 * a1.2.2.2)))))
noncomputable def f360M (K : Nat) : Mdl := ⟨[(.ro, sA), (.ro, sA)], [sA], fun x => f360G K x.1 x.2.1⟩
/-! (impl.Vec).add -/
noncomputable def f289E (K : Nat) : Env := ⟨[], tys, eqs, mts, K, [0, 1, 2, 3, 4], [], []⟩
noncomputable def f289G (K : Nat) (a0 : Int × Int) (a1 : Int × Int) : Option tV :=
  some ((w (a0.1 + a1.1)), (w (a0.2 + a1.2)))
noncomputable def f289M (K : Nat) : Mdl := ⟨[(.ro, sV), (.ro, sV)], [sV], fun x => f289G K x.1 x.2.1⟩
/-! (impl.Motion).times -/
noncomputable def f309E (K : Nat) : Env := ⟨[(282, f282M K), (289, f289M K), (360, f360M K)], tys, eqs, mts, K, [0, 1, 2, 3, 4], [], []⟩
noncomputable def f309G (K : Nat) (a0 : tA × Int × Int) (a1 : tA × Int × Int) : Option tM :=
  (f360G K a0.1 a1.1).bind fun y1 => (f282G K a0.1 a1.2).bind fun y2 => (f289G K y2 a0.2).bind fun y3 => some (y1, y3)
noncomputable def f309M (K : Nat) : Mdl := ⟨[(.ro, sM), (.ro, sM)], [sM], fun x => f309G K x.1 x.2.1⟩
/-! (impl.Lattice).reduceMotion -/
noncomputable def f308E (K : Nat) : Env := ⟨[(176, f176M K)], tys, eqs, mts, K, [0, 1, 2, 3, 4], [], []⟩
noncomputable def f308G (K : Nat) (a0 : Int × Int × Int) (a1 : tA × Int × Int) : Option tM :=
  (f176G K a0 a1.2).bind fun y1 => some (a1.1, y1)
noncomputable def f308M (K : Nat) : Mdl := ⟨[(.ro, sL), (.ro, sM)], [sM], fun x => f308G K x.1 x.2.1⟩
/-! impl.isGroup -/
noncomputable def f298C : Code := codeOf Tryz.f298
noncomputable def f298E (K : Nat) : Env := ⟨[(176, f176M K), (217, f217M K), (266, f266M K), (279, f279M K), (308, f308M K), (309, f309M K), (311, f311M K)], tys, eqs, mts, K, [0, 1, 2, 4, 6, 7, 8, 9, 10, 12, 14, 19, 20, 21, 22, 53, 61, 62, 63, 64, 65, 68, 69, 70, 71, 81], [], []⟩
noncomputable def f298_b23 (K : Nat) (a0 : Int) (a1 : Int × Int × Int) (a2 : List tM) (q7 : Int) (q8 : List (tM × Bool)) (q22 : Int) (y1 : List tA) (y12 : Int × Int × Int × Int) (L21 : Int → Option Bool) (L23 : Int → Option Bool) (q24 : Int) : Option Bool :=
  (bif (decide (q24 < (a2.length : Int))) then (bif (decide (0 ≤ q24) && decide (q24 < (a2.length : Int))) then (f309G K ((((a2.getD ((0 : Int) + q22).toNat zM).1).1, (((a2.getD ((0 : Int) + q22).toNat zM).1).2).1, ((((a2.getD ((0 : Int) + q22).toNat zM).1).2).2)), ((a2.getD ((0 : Int) + q22).toNat zM).2)) ((((a2.getD ((0 : Int) + q24).toNat zM).1).1, (((a2.getD ((0 : Int) + q24).toNat zM).1).2).1, ((((a2.getD ((0 : Int) + q24).toNat zM).1).2).2)), ((a2.getD ((0 : Int) + q24).toNat zM).2))).bind fun y25 => (f308G K a1 y25).bind fun y26 => (bif (!((mfind (eqSh sM) q8 y26).getD false)) then some false else L23 (w (q24 + (1 : Int)))) else none) else L21 (w (q22 + (1 : Int))))
noncomputable def f298_l23 (K : Nat) (a0 : Int) (a1 : Int × Int × Int) (a2 : List tM) (q7 : Int) (q8 : List (tM × Bool)) (q22 : Int) (y1 : List tA) (y12 : Int × Int × Int × Int) (L21 : Int → Option Bool) (n : Nat) (q24 : Int) : Option Bool :=
  iter (X := Int) (fun L x => (fun L23 => f298_b23 K a0 a1 a2 q7 q8 q22 y1 y12 L21 L23 x) (fun v0 => L v0)) n q24
noncomputable def f298_fr23 (a0 : Int) (a1 : Int × Int × Int) (a2 : List tM) (q7 : Int) (q8 : List (tM × Bool)) (q22 : Int) (y1 : List tA) (y12 : Int × Int × Int × Int) (q24 : Int) : Fr := ⟨84, [(0, .v false [.int .i64 a0]), (1, .v true [.int .i64 a1.1, .int .i64 a1.2.1, .int .i64 a1.2.2]), (2, .v false [.row 0]), (4, .v false [.box 0 0]), (6, .v false [.bool false]), (7, .v false [.row 1]), (8, .v false [.mp 1]), (12, .v false [.box 2 0]), (19, .v false [.row 0]), (20, .v false [.int .i64 (a2.length : Int)]), (21, .v false [.int .i64 q7]), (22, .v false [.bool (decide (q7 < (a2.length : Int)))]), (61, .v false [.bool (!((mfind (eqSh sM) q8 (y12, (0 : Int), (0 : Int))).getD false))]), (62, .v false [.row 0]), (63, .v false [.int .i64 (a2.length : Int)]), (64, .v false [.int .i64 q22]), (65, .v false [.bool (decide (q22 < (a2.length : Int)))]), (68, .v false [.row 0]), (69, .v false [.int .i64 (a2.length : Int)]), (70, .v false [.int .i64 q24])], [some ⟨true, [.int .i64 a1.1, .int .i64 a1.2.1, .int .i64 a1.2.2]⟩, some ⟨true, [.mc sM .bool q8]⟩, some ⟨true, [.int .i64 (((a2.getD ((0 : Int) + q22).toNat zM).1).1), .int .i64 ((((a2.getD ((0 : Int) + q22).toNat zM).1).2).1), .int .i64 (((((a2.getD ((0 : Int) + q22).toNat zM).1).2).2).1), .int .i64 (((((a2.getD ((0 : Int) + q22).toNat zM).1).2).2).2), .int .i64 (((a2.getD ((0 : Int) + q22).toNat zM).2).1), .int .i64 (((a2.getD ((0 : Int) + q22).toNat zM).2).2)]⟩], [some ⟨57, sM, a2, .ro⟩, some ⟨53, sA, y1, .own⟩]⟩
noncomputable def f298_b21 (K : Nat) (a0 : Int) (a1 : Int × Int × Int) (a2 : List tM) (q7 : Int) (q8 : List (tM × Bool)) (y1 : List tA) (y12 : Int × Int × Int × Int) (I23 : Int → Int → Option Bool) (L21 : Int → Option Bool) (q22 : Int) : Option Bool :=
  (bif (decide (q22 < (a2.length : Int))) then (bif (decide (0 ≤ q22) && decide (q22 < (a2.length : Int))) then I23 q22 (0 : Int) else none) else some true)
noncomputable def f298_l21 (K : Nat) (a0 : Int) (a1 : Int × Int × Int) (a2 : List tM) (q7 : Int) (q8 : List (tM × Bool)) (y1 : List tA) (y12 : Int × Int × Int × Int) (n : Nat) (q22 : Int) : Option Bool :=
  iter (X := Int) (fun L x => (fun L21 => f298_b21 K a0 a1 a2 q7 q8 y1 y12 (fun c0 d0 => f298_l23 K a0 a1 a2 q7 q8 c0 y1 y12 L21 K d0) L21 x) (fun v0 => L v0)) n q22
noncomputable def f298_fr21 (a0 : Int) (a1 : Int × Int × Int) (a2 : List tM) (q7 : Int) (q8 : List (tM × Bool)) (y1 : List tA) (y12 : Int × Int × Int × Int) (q22 : Int) : Fr := ⟨84, [(0, .v false [.int .i64 a0]), (1, .v true [.int .i64 a1.1, .int .i64 a1.2.1, .int .i64 a1.2.2]), (2, .v false [.row 0]), (4, .v false [.box 0 0]), (6, .v false [.bool false]), (7, .v false [.row 1]), (8, .v false [.mp 1]), (19, .v false [.row 0]), (20, .v false [.int .i64 (a2.length : Int)]), (21, .v false [.int .i64 q7]), (22, .v false [.bool (decide (q7 < (a2.length : Int)))]), (61, .v false [.bool (!((mfind (eqSh sM) q8 (y12, (0 : Int), (0 : Int))).getD false))]), (62, .v false [.row 0]), (63, .v false [.int .i64 (a2.length : Int)]), (64, .v false [.int .i64 q22])], [some ⟨true, [.int .i64 a1.1, .int .i64 a1.2.1, .int .i64 a1.2.2]⟩, some ⟨true, [.mc sM .bool q8]⟩], [some ⟨57, sM, a2, .ro⟩, some ⟨53, sA, y1, .own⟩]⟩
noncomputable def f298_b6 (K : Nat) (a0 : Int) (a1 : Int × Int × Int) (a2 : List tM) (y1 : List tA) (I21 : Int → (List (tM × Bool)) → (List tA) → tA → Int → Option Bool) (L6 : Int → (List (tM × Bool)) → Option Bool) (q7 : Int) (q8 : List (tM × Bool)) : Option Bool :=
  (bif (decide (q7 < (a2.length : Int))) then (bif (decide (0 ≤ q7) && decide (q7 < (a2.length : Int))) then (f279G K y1 (((a2.getD ((0 : Int) + q7).toNat zM).1).1, (((a2.getD ((0 : Int) + q7).toNat zM).1).2).1, ((((a2.getD ((0 : Int) + q7).toNat zM).1).2).2))).bind fun y9 => (bif ((!(!(!y9))) || true) then (bif ((!(!(!y9))) || true) then (bif ((!(!(!y9))) || true) then ((bif (!(!y9)) then f176G K a1 ((a2.getD ((0 : Int) + q7).toNat zM).2) else some ((0 : Int), (0 : Int)))).bind fun y10 => (bif ((!(!(!y9))) || true) then (bif ((!(!(!y9))) || true) then (bif ((!(!(!y9))) || true) then (bif ((!(!(bif (!y9) then true else (!((y10.1 == ((a2.getD ((0 : Int) + q7).toNat zM).2).1) && (y10.2 == ((a2.getD ((0 : Int) + q7).toNat zM).2).2)))))) || true) then (bif ((!(!(bif (!y9) then true else (!((y10.1 == ((a2.getD ((0 : Int) + q7).toNat zM).2).1) && (y10.2 == ((a2.getD ((0 : Int) + q7).toNat zM).2).2)))))) || true) then (bif ((!(!(bif (!y9) then true else (!((y10.1 == ((a2.getD ((0 : Int) + q7).toNat zM).2).1) && (y10.2 == ((a2.getD ((0 : Int) + q7).toNat zM).2).2)))))) || true) then (bif ((!((!(bif (!y9) then true else (!((y10.1 == ((a2.getD ((0 : Int) + q7).toNat zM).2).1) && (y10.2 == ((a2.getD ((0 : Int) + q7).toNat zM).2).2))))) && (decide (q7 > (0 : Int))))) || true) then (bif ((!((!(bif (!y9) then true else (!((y10.1 == ((a2.getD ((0 : Int) + q7).toNat zM).2).1) && (y10.2 == ((a2.getD ((0 : Int) + q7).toNat zM).2).2))))) && (decide (q7 > (0 : Int))))) || true) then (bif ((!((!(bif (!y9) then true else (!((y10.1 == ((a2.getD ((0 : Int) + q7).toNat zM).2).1) && (y10.2 == ((a2.getD ((0 : Int) + q7).toNat zM).2).2))))) && (decide (q7 > (0 : Int))))) || true) then (bif ((!((!(bif (!y9) then true else (!((y10.1 == ((a2.getD ((0 : Int) + q7).toNat zM).2).1) && (y10.2 == ((a2.getD ((0 : Int) + q7).toNat zM).2).2))))) && (decide (q7 > (0 : Int))))) || (decide (0 ≤ (w (q7 - (1 : Int)))) && decide ((w (q7 - (1 : Int))) < (a2.length : Int)))) then (bif ((!((!(bif (!y9) then true else (!((y10.1 == ((a2.getD ((0 : Int) + q7).toNat zM).2).1) && (y10.2 == ((a2.getD ((0 : Int) + q7).toNat zM).2).2))))) && (decide (q7 > (0 : Int))))) || true) then (bif ((!((!(bif (!y9) then true else (!((y10.1 == ((a2.getD ((0 : Int) + q7).toNat zM).2).1) && (y10.2 == ((a2.getD ((0 : Int) + q7).toNat zM).2).2))))) && (decide (q7 > (0 : Int))))) || true) then ((bif ((!(bif (!y9) then true else (!((y10.1 == ((a2.getD ((0 : Int) + q7).toNat zM).2).1) && (y10.2 == ((a2.getD ((0 : Int) + q7).toNat zM).2).2))))) && (decide (q7 > (0 : Int)))) then f311G K ((((a2.getD ((0 : Int) + (w (q7 - (1 : Int)))).toNat zM).1).1, (((a2.getD ((0 : Int) + (w (q7 - (1 : Int)))).toNat zM).1).2).1, ((((a2.getD ((0 : Int) + (w (q7 - (1 : Int)))).toNat zM).1).2).2)), ((a2.getD ((0 : Int) + (w (q7 - (1 : Int)))).toNat zM).2)) ((((a2.getD ((0 : Int) + q7).toNat zM).1).1, (((a2.getD ((0 : Int) + q7).toNat zM).1).2).1, ((((a2.getD ((0 : Int) + q7).toNat zM).1).2).2)), ((a2.getD ((0 : Int) + q7).toNat zM).2)) else some (0 : Int))).bind fun y11 => (bif ((!((!(bif (!y9) then true else (!((y10.1 == ((a2.getD ((0 : Int) + q7).toNat zM).2).1) && (y10.2 == ((a2.getD ((0 : Int) + q7).toNat zM).2).2))))) && (decide (q7 > (0 : Int))))) || true) then (bif ((!(!(bif (!y9) then true else (!((y10.1 == ((a2.getD ((0 : Int) + q7).toNat zM).2).1) && (y10.2 == ((a2.getD ((0 : Int) + q7).toNat zM).2).2)))))) || true) then (bif (bif (bif (!y9) then true else (!((y10.1 == ((a2.getD ((0 : Int) + q7).toNat zM).2).1) && (y10.2 == ((a2.getD ((0 : Int) + q7).toNat zM).2).2)))) then true else (bif (decide (q7 > (0 : Int))) then (decide (y11 ≥ (0 : Int))) else false)) then some false else L6 (w (q7 + (1 : Int))) (mput (eqSh sM) q8 ((((a2.getD ((0 : Int) + q7).toNat zM).1).1, (((a2.getD ((0 : Int) + q7).toNat zM).1).2).1, ((((a2.getD ((0 : Int) + q7).toNat zM).1).2).2)), ((a2.getD ((0 : Int) + q7).toNat zM).2)) true)) else none) else none) else none) else none) else none) else none) else none) else none) else none) else none) else none) else none) else none) else none) else none) else none) else none) else none) else (f217G K).bind fun y12 => (bif (!((mfind (eqSh sM) q8 (y12, (0 : Int), (0 : Int))).getD false)) then some false else I21 q7 q8 y1 y12 (0 : Int)))
noncomputable def f298_l6 (K : Nat) (a0 : Int) (a1 : Int × Int × Int) (a2 : List tM) (y1 : List tA) (n : Nat) (q7 : Int) (q8 : List (tM × Bool)) : Option Bool :=
  iter (X := Int × List (tM × Bool)) (fun L x => (fun L6 => f298_b6 K a0 a1 a2 y1 (fun c0 c1 c2 c3 d0 => f298_l21 K a0 a1 a2 c0 c1 c2 c3 K d0) L6 x.1 x.2) (fun v0 v1 => L (v0, v1))) n (q7, q8)
noncomputable def f298_fr6 (a0 : Int) (a1 : Int × Int × Int) (a2 : List tM) (y1 : List tA) (q7 : Int) (q8 : List (tM × Bool)) : Fr := ⟨84, [(0, .v false [.int .i64 a0]), (1, .v true [.int .i64 a1.1, .int .i64 a1.2.1, .int .i64 a1.2.2]), (2, .v false [.row 0]), (4, .v false [.box 0 0]), (6, .v false [.bool false]), (7, .v false [.row 1]), (8, .v false [.mp 1]), (19, .v false [.row 0]), (20, .v false [.int .i64 (a2.length : Int)]), (21, .v false [.int .i64 q7])], [some ⟨true, [.int .i64 a1.1, .int .i64 a1.2.1, .int .i64 a1.2.2]⟩, some ⟨true, [.mc sM .bool q8]⟩], [some ⟨57, sM, a2, .ro⟩, some ⟨53, sA, y1, .own⟩]⟩
noncomputable def f298_k6 (K : Nat) (a0 : Int) (a1 : Int × Int × Int) (a2 : List tM) (lr : LR Bool) : Ex → Fr → Option Bool :=
  contC (f298E K) 1 lr f298C [1, 1, 0, 1, 0] (finK (f298E K) Tryz.f298 [(.ro, sI), (.ro, sL), (.ro, (.list 57 sM))] [.bool] (a0, a1, a2, ()))
noncomputable def f298_k21 (K : Nat) (a0 : Int) (a1 : Int × Int × Int) (a2 : List tM) (lr : LR Bool) : Ex → Fr → Option Bool :=
  contC (f298E K) 1 lr f298C [1, 1, 1, 1, 0, 1, 0] (finK (f298E K) Tryz.f298 [(.ro, sI), (.ro, sL), (.ro, (.list 57 sM))] [.bool] (a0, a1, a2, ()))
noncomputable def f298_k23 (K : Nat) (a0 : Int) (a1 : Int × Int × Int) (a2 : List tM) (q7 : Int) (q8 : List (tM × Bool)) (y1 : List tA) (y12 : Int × Int × Int × Int) (F21 : Fr → Option Bool) (bq22 : Int) (lr : LR Bool) : Ex → Fr → Option Bool :=
  contC (f298E K) 1 lr (selC f298C [1, 1, 1, 1, 0, 1, 0, 0]) [1, 1, 0, 0, 1, 1, 0] (loopK 1 (f298_fr21 a0 a1 a2 q7 q8 y1 y12 bq22) F21 (f298_k21 K a0 a1 a2 lr))
noncomputable def f298_g (K : Nat) (a0 : Int) (a1 : Int × Int × Int) (a2 : List tM) (I6 : (List tA) → Int → (List (tM × Bool)) → Option Bool) : Option Bool :=
  (f266G K a0 a1).bind fun y1 => I6 y1 (0 : Int) []
noncomputable def f298G (K : Nat) (a0 : Int) (a1 : Int × Int × Int) (a2 : List tM) : Option Bool :=
  f298_g K a0 a1 a2 (fun c0 d0 d1 => f298_l6 K a0 a1 a2 c0 K d0 d1)
noncomputable def f298M (K : Nat) : Mdl := ⟨[(.ro, sI), (.ro, sL), (.ro, (.list 57 sM))], [.bool], fun x => f298G K x.1 x.2.1 x.2.2.1⟩
/-! impl.groupCode -/
noncomputable def f198C : Code := codeOf Tryz.f198
noncomputable def f198E (K : Nat) : Env := ⟨[(186, f186M K), (298, f298M K)], tys, eqs, mts, K, [0, 1, 2, 4, 6, 7, 9, 14, 16, 17, 18, 19, 26], [], []⟩
noncomputable def f198_b4 (K : Nat) (a0 : Int) (a1 : Int × Int × Int) (a2 : List (List tM)) (y1 : Int) (L4 : Int → Option Int) (q5 : Int) : Option Int :=
  (bif (decide (q5 < (a2.length : Int))) then (bif (decide (0 ≤ q5) && decide (q5 < (a2.length : Int))) then (f298G K a0 a1 (a2.getD ((0 : Int) + q5).toNat [])).bind fun y6 => (bif (!y6) then some (2 : Int) else L4 (w (q5 + (1 : Int)))) else none) else some (0 : Int))
noncomputable def f198_l4 (K : Nat) (a0 : Int) (a1 : Int × Int × Int) (a2 : List (List tM)) (y1 : Int) (n : Nat) (q5 : Int) : Option Int :=
  iter (X := Int) (fun L x => (fun L4 => f198_b4 K a0 a1 a2 y1 L4 x) (fun v0 => L v0)) n q5
noncomputable def f198_fr4 (a0 : Int) (a1 : Int × Int × Int) (a2 : List (List tM)) (y1 : Int) (q5 : Int) : Fr := ⟨28, [(0, .v false [.int .i64 a0]), (1, .v true [.int .i64 a1.1, .int .i64 a1.2.1, .int .i64 a1.2.2]), (2, .v false [.row 0]), (4, .v false [.box 0 0]), (6, .v false [.int .i64 (0 : Int)]), (7, .v false [.int .i64 y1]), (14, .v false [.bool (y1 != (0 : Int))]), (16, .v false [.row 0]), (17, .v false [.int .i64 (a2.length : Int)]), (18, .v false [.int .i64 q5])], [some ⟨true, [.int .i64 a1.1, .int .i64 a1.2.1, .int .i64 a1.2.2]⟩], [some ⟨38, (.list 57 sM), a2, .ro⟩]⟩
noncomputable def f198_k4 (K : Nat) (a0 : Int) (a1 : Int × Int × Int) (a2 : List (List tM)) (lr : LR Int) : Ex → Fr → Option Int :=
  contC (f198E K) 1 lr f198C [1, 1, 0, 1, 0] (finK (f198E K) Tryz.f198 [(.ro, sI), (.ro, sL), (.ro, (.list 38 (.list 57 sM)))] [sI] (a0, a1, a2, ()))
noncomputable def f198_g (K : Nat) (a0 : Int) (a1 : Int × Int × Int) (a2 : List (List tM)) (I4 : Int → Int → Option Int) : Option Int :=
  (f186G K a0 a1).bind fun y1 => (bif (y1 != (0 : Int)) then some y1 else I4 y1 (0 : Int))
noncomputable def f198G (K : Nat) (a0 : Int) (a1 : Int × Int × Int) (a2 : List (List tM)) : Option Int :=
  f198_g K a0 a1 a2 (fun c0 d0 => f198_l4 K a0 a1 a2 c0 K d0)
noncomputable def f198M (K : Nat) : Mdl := ⟨[(.ro, sI), (.ro, sL), (.ro, (.list 38 (.list 57 sM)))], [sI], fun x => f198G K x.1 x.2.1 x.2.2.1⟩
/-! math/bits.Mul -/
noncomputable def f353G (K : Nat) (a0 : Int) (a1 : Int) : Option tV := mulF a0 a1
noncomputable def f353M (K : Nat) : Mdl := ⟨[(.ro, (.int .u64)), (.ro, (.int .u64))], [(.int .u64), (.int .u64)], fun x => f353G K x.1 x.2.1⟩
/-! slices.Repeat[[]int64,int64] -/
noncomputable def f294C : Code := codeOf Tryz.f294
noncomputable def f294E (K : Nat) : Env := ⟨[(353, f353M K)], tys, eqs, mts, K, [0, 1, 4, 5, 6, 7, 8, 10, 26, 37], [], []⟩
noncomputable def f294_b3 (K : Nat) (a0 : List Int) (a1 : Int) (y1 : Int × Int) (L3 : Int → (List Int) → Option (List Int)) (q4 : Int) (q5 : List Int) : Option (List Int) :=
  (bif (decide (q4 < (q5.length : Int))) then (bif (decide (0 ≤ q4) && decide (q4 ≤ (q5.length : Int)) && decide ((q5.length : Int) ≤ (q5.length : Int))) then (bif (decide (0 ≤ (0 : Int)) && decide ((0 : Int) ≤ q4) && decide (q4 ≤ (q5.length : Int))) then L3 (w (q4 + (bif decide ((((0 : Int) + (q5.length : Int)) - ((0 : Int) + q4)) ≤ (((0 : Int) + q4) - (0 : Int))) then (((0 : Int) + (q5.length : Int)) - ((0 : Int) + q4)) else (((0 : Int) + q4) - (0 : Int))))) (q5.take ((0 : Int) + q4).toNat ++ ((q5.take ((0 : Int) + (((0 : Int) + q4) - (0 : Int))).toNat).drop 0).take (bif decide ((((0 : Int) + (q5.length : Int)) - ((0 : Int) + q4)) ≤ (((0 : Int) + q4) - (0 : Int))) then (((0 : Int) + (q5.length : Int)) - ((0 : Int) + q4)) else (((0 : Int) + q4) - (0 : Int))).toNat ++ q5.drop (((0 : Int) + q4).toNat + (bif decide ((((0 : Int) + (q5.length : Int)) - ((0 : Int) + q4)) ≤ (((0 : Int) + q4) - (0 : Int))) then (((0 : Int) + (q5.length : Int)) - ((0 : Int) + q4)) else (((0 : Int) + q4) - (0 : Int))).toNat)) else none) else none) else some q5)
noncomputable def f294_l3 (K : Nat) (a0 : List Int) (a1 : Int) (y1 : Int × Int) (n : Nat) (q4 : Int) (q5 : List Int) : Option (List Int) :=
  iter (X := Int × List Int) (fun L x => (fun L3 => f294_b3 K a0 a1 y1 L3 x.1 x.2) (fun v0 v1 => L (v0, v1))) n (q4, q5)
noncomputable def f294_fr3 (a0 : List Int) (a1 : Int) (y1 : Int × Int) (q4 : Int) (q5 : List Int) : Fr := ⟨48, [(0, .v false [.row 0]), (1, .v false [.int .i64 a1]), (4, .v false [.row 1]), (5, .v false [.int .u64 y1.1]), (6, .v false [.int .u64 y1.2]), (7, .v false [.row 2]), (8, .v false [.int .i64 q4]), (10, .v false [.bool (decide (a1 < (0 : Int)))]), (26, .v false [.bool (bif (decide (y1.1 > (0 : Int))) then true else (decide (y1.2 > (9223372036854775807 : Int))))])], [], [some ⟨2, sI, a0, .ro⟩, some ⟨2, sI, [], .own⟩, some ⟨2, sI, q5, .own⟩]⟩
noncomputable def f294_k3 (K : Nat) (a0 : List Int) (a1 : Int) (lr : LR (List Int)) : Ex → Fr → Option (List Int) :=
  contC (f294E K) 1 lr f294C [1, 1, 1, 1, 1, 1, 0, 0] (finK (f294E K) Tryz.f294 [(.ro, (.list 2 sI)), (.ro, sI)] [(.list 2 sI)] (a0, a1, ()))
noncomputable def f294_g (K : Nat) (a0 : List Int) (a1 : Int) (I3 : tV → Int → (List Int) → Option (List Int)) : Option (List Int) :=
  (bif (decide (a1 < (0 : Int))) then none else (f353G K (IntKind.u64.wrap (a0.length : Int)) (IntKind.u64.wrap a1)).bind fun y1 => (bif ((!(!(decide (y1.1 > (0 : Int))))) || true) then (bif ((!(!(decide (y1.1 > (0 : Int))))) || true) then (bif (bif (decide (y1.1 > (0 : Int))) then true else (decide (y1.2 > (9223372036854775807 : Int)))) then none else (bif (decide (0 ≤ (w y1.2)) && Nat.ble (w y1.2).toNat (lim 8) && ((w y1.2) == (w y1.2))) then I3 y1 (bif decide (((List.replicate (w y1.2).toNat (0 : Int)).length : Int) ≤ (a0.length : Int)) then ((List.replicate (w y1.2).toNat (0 : Int)).length : Int) else (a0.length : Int)) ((List.replicate (w y1.2).toNat (0 : Int)).take 0 ++ ((a0.take ((0 : Int) + (a0.length : Int)).toNat).drop 0).take (bif decide (((List.replicate (w y1.2).toNat (0 : Int)).length : Int) ≤ (a0.length : Int)) then ((List.replicate (w y1.2).toNat (0 : Int)).length : Int) else (a0.length : Int)).toNat ++ (List.replicate (w y1.2).toNat (0 : Int)).drop (0 + (bif decide (((List.replicate (w y1.2).toNat (0 : Int)).length : Int) ≤ (a0.length : Int)) then ((List.replicate (w y1.2).toNat (0 : Int)).length : Int) else (a0.length : Int)).toNat)) else none)) else none) else none))
noncomputable def f294G (K : Nat) (a0 : List Int) (a1 : Int) : Option (List Int) :=
  f294_g K a0 a1 (fun c0 d0 d1 => f294_l3 K a0 a1 c0 K d0 d1)
noncomputable def f294M (K : Nat) : Mdl := ⟨[(.ro, (.list 2 sI)), (.ro, sI)], [(.list 2 sI)], fun x => f294G K x.1 x.2.1⟩
/-! (impl.Lattice).cells -/
noncomputable def f185C : Code := codeOf Tryz.f185
noncomputable def f185E (K : Nat) : Env := ⟨[], tys, eqs, mts, K, [0, 1, 2, 3, 4, 5, 8, 9, 10, 13, 14, 15], [], []⟩
noncomputable def f185_b9 (K : Nat) (a0 : Int × Int × Int) (q7 : Int) (L6 : Int → (List tV) → Option (List tV)) (L9 : Int → (List tV) → Option (List tV)) (q10 : Int) (q11 : List tV) : Option (List tV) :=
  (bif (decide (q10 < a0.2.2)) then (bif (Nat.ble (q11.length + [(q7, q10)].length) (lim 16)) then L9 (w (q10 + (1 : Int))) (q11 ++ [(q7, q10)]) else none) else L6 (w (q7 + (1 : Int))) q11)
noncomputable def f185_l9 (K : Nat) (a0 : Int × Int × Int) (q7 : Int) (L6 : Int → (List tV) → Option (List tV)) (n : Nat) (q10 : Int) (q11 : List tV) : Option (List tV) :=
  iter (X := Int × List tV) (fun L x => (fun L9 => f185_b9 K a0 q7 L6 L9 x.1 x.2) (fun v0 v1 => L (v0, v1))) n (q10, q11)
noncomputable def f185_fr9 (a0 : Int × Int × Int) (q7 : Int) (q10 : Int) (q11 : List tV) : Fr := ⟨26, [(0, .v true [.int .i64 a0.1, .int .i64 a0.2.1, .int .i64 a0.2.2]), (1, .v false [.box 0 0]), (2, .v false [.row 0]), (3, .v false [.row 1]), (4, .v false [.int .i64 q7]), (8, .v false [.int .i64 a0.1]), (9, .v false [.int .i64 q7]), (10, .v false [.bool (decide (q7 < a0.1))]), (13, .v false [.int .i64 a0.2.2]), (14, .v false [.int .i64 q10])], [some ⟨true, [.int .i64 a0.1, .int .i64 a0.2.1, .int .i64 a0.2.2]⟩], [some ⟨55, sV, [], .own⟩, some ⟨55, sV, q11, .own⟩]⟩
noncomputable def f185_b6 (K : Nat) (a0 : Int × Int × Int) (I9 : Int → Int → (List tV) → Option (List tV)) (L6 : Int → (List tV) → Option (List tV)) (q7 : Int) (q8 : List tV) : Option (List tV) :=
  (bif (decide (q7 < a0.1)) then I9 q7 (0 : Int) q8 else some q8)
noncomputable def f185_l6 (K : Nat) (a0 : Int × Int × Int) (n : Nat) (q7 : Int) (q8 : List tV) : Option (List tV) :=
  iter (X := Int × List tV) (fun L x => (fun L6 => f185_b6 K a0 (fun c0 d0 d1 => f185_l9 K a0 c0 L6 K d0 d1) L6 x.1 x.2) (fun v0 v1 => L (v0, v1))) n (q7, q8)
noncomputable def f185_fr6 (a0 : Int × Int × Int) (q7 : Int) (q8 : List tV) : Fr := ⟨26, [(0, .v true [.int .i64 a0.1, .int .i64 a0.2.1, .int .i64 a0.2.2]), (1, .v false [.box 0 0]), (2, .v false [.row 0]), (3, .v false [.row 1]), (8, .v false [.int .i64 a0.1]), (9, .v false [.int .i64 q7])], [some ⟨true, [.int .i64 a0.1, .int .i64 a0.2.1, .int .i64 a0.2.2]⟩], [some ⟨55, sV, [], .own⟩, some ⟨55, sV, q8, .own⟩]⟩
noncomputable def f185_k6 (K : Nat) (a0 : Int × Int × Int) (lr : LR (List tV)) : Ex → Fr → Option (List tV) :=
  contC (f185E K) 0 lr f185C [1, 1, 0, 1, 0] (finK (f185E K) Tryz.f185 [(.ro, sL)] [(.list 55 sV)] (a0, ()))
noncomputable def f185_k9 (K : Nat) (a0 : Int × Int × Int) (F6 : Fr → Option (List tV)) (bq7 : Int) (bq8 : List tV) (lr : LR (List tV)) : Ex → Fr → Option (List tV) :=
  contC (f185E K) 0 lr (selC f185C [1, 1, 0, 1, 0, 0]) [1, 1, 0, 0, 1, 1, 0] (loopK 0 (f185_fr6 a0 bq7 bq8) F6 (f185_k6 K a0 lr))
noncomputable def f185_g (K : Nat) (a0 : Int × Int × Int) (I6 : Int → (List tV) → Option (List tV)) : Option (List tV) :=
  I6 (0 : Int) []
noncomputable def f185G (K : Nat) (a0 : Int × Int × Int) : Option (List tV) :=
  f185_g K a0 (fun d0 d1 => f185_l6 K a0 K d0 d1)
noncomputable def f185M (K : Nat) : Mdl := ⟨[(.ro, sL)], [(.list 55 sV)], fun x => f185G K x.1⟩
/-! (impl.Lattice).number -/
noncomputable def f163E (K : Nat) : Env := ⟨[], tys, eqs, mts, K, [0, 1, 2, 3, 4], [], []⟩
noncomputable def f163G (K : Nat) (a0 : Int × Int × Int) (a1 : Int × Int) : Option Int :=
  some (w ((w (a1.1 * a0.2.2)) + a1.2))
noncomputable def f163M (K : Nat) : Mdl := ⟨[(.ro, sL), (.ro, sV)], [sI], fun x => f163G K x.1 x.2.1⟩
/-! (impl.Motion).apply -/
noncomputable def f174E (K : Nat) : Env := ⟨[(282, f282M K), (289, f289M K)], tys, eqs, mts, K, [0, 1, 2, 3, 4], [], []⟩
noncomputable def f174G (K : Nat) (a0 : tA × Int × Int) (a1 : Int × Int) : Option tV :=
  (f282G K a0.1 a1).bind fun y1 => (f289G K y1 a0.2).bind fun y2 => some y2
noncomputable def f174M (K : Nat) : Mdl := ⟨[(.ro, sM), (.ro, sV)], [sV], fun x => f174G K x.1 x.2.1⟩
/-! (impl.Lattice).take -/
noncomputable def f188E (K : Nat) : Env := ⟨[(174, f174M K), (176, f176M K)], tys, eqs, mts, K, [0, 1, 2, 3, 4, 5, 6], [], []⟩
noncomputable def f188G (K : Nat) (a0 : Int × Int × Int) (a1 : tA × Int × Int) (a2 : Int × Int) : Option tV :=
  (f174G K a1 a2).bind fun y1 => (f176G K a0 y1).bind fun y2 => some y2
noncomputable def f188M (K : Nat) : Mdl := ⟨[(.ro, sL), (.ro, sM), (.ro, sV)], [sV], fun x => f188G K x.1 x.2.1 x.2.2.1⟩
/-! slices.SortFunc[[]impl.Vec,impl.Vec] -/
noncomputable def f232G (K : Nat) (a0 : List tV) (a1 : tV → tV → Option Int) : Option (List tV) := sortF sV a0 a1
noncomputable def f232M (K : Nat) : Mdl := ⟨[(.io, (.list 55 sV)), (.ro, (.fn2 sV sV sI))], [], fun x => f232G K x.1 x.2.1⟩
/-! slices.Compact[[]impl.Vec,impl.Vec] -/
noncomputable def f297C : Code := codeOf Tryz.f297
noncomputable def f297E (K : Nat) : Env := ⟨[], tys, eqs, mts, K, [0, 2, 3, 4, 5, 8, 13, 25, 32, 44], [], []⟩
noncomputable def f297_b9 (K : Nat) (a0 : List tV) (q8 : Int) (L9 : Int → Int → (List tV) → Option (List tV)) (q10 : Int) (q11 : Int) (q12 : List tV) : Option (List tV) :=
  (bif (decide (q11 < (((0 : Int) + (a0.length : Int)) - ((0 : Int) + q8)))) then (bif (decide (0 ≤ q11) && decide (q11 < (((0 : Int) + (a0.length : Int)) - ((0 : Int) + q8)))) then (bif (decide (0 ≤ (w (q11 - (1 : Int)))) && decide ((w (q11 - (1 : Int))) < (((0 : Int) + (a0.length : Int)) - ((0 : Int) + q8)))) then (bif (!(((q12.getD (((0 : Int) + q8) + q11).toNat ((0 : Int), (0 : Int))).1 == (q12.getD (((0 : Int) + q8) + (w (q11 - (1 : Int)))).toNat ((0 : Int), (0 : Int))).1) && ((q12.getD (((0 : Int) + q8) + q11).toNat ((0 : Int), (0 : Int))).2 == (q12.getD (((0 : Int) + q8) + (w (q11 - (1 : Int)))).toNat ((0 : Int), (0 : Int))).2))) then (bif (decide (0 ≤ q11) && decide (q11 < (((0 : Int) + (a0.length : Int)) - ((0 : Int) + q8)))) then (bif (decide (0 ≤ q10) && decide (q10 < (q12.length : Int))) then L9 (w (q10 + (1 : Int))) (w (q11 + (1 : Int))) (q12.set ((0 : Int) + q10).toNat (q12.getD (((0 : Int) + q8) + q11).toNat ((0 : Int), (0 : Int)))) else none) else none) else L9 q10 (w (q11 + (1 : Int))) q12) else none) else none) else (bif (decide (0 ≤ q10) && decide (q10 ≤ (q12.length : Int)) && decide ((q12.length : Int) ≤ (q12.length : Int))) then (bif (decide (0 ≤ (0 : Int)) && decide ((0 : Int) ≤ q10) && decide (q10 ≤ ((clr q12 ((0 : Int) + q10).toNat (((0 : Int) + q10) + (((0 : Int) + (q12.length : Int)) - ((0 : Int) + q10))).toNat ((0 : Int), (0 : Int))).length : Int))) then some ((clr q12 ((0 : Int) + q10).toNat (((0 : Int) + q10) + (((0 : Int) + (q12.length : Int)) - ((0 : Int) + q10))).toNat ((0 : Int), (0 : Int))).take ((0 : Int) + q10).toNat) else none) else none))
noncomputable def f297_l9 (K : Nat) (a0 : List tV) (q8 : Int) (n : Nat) (q10 : Int) (q11 : Int) (q12 : List tV) : Option (List tV) :=
  iter (X := Int × Int × List tV) (fun L x => (fun L9 => f297_b9 K a0 q8 L9 x.1 x.2.1 x.2.2) (fun v0 v1 v2 => L (v0, v1, v2))) n (q10, q11, q12)
noncomputable def f297_fr9 (a0 : List tV) (q8 : Int) (q10 : Int) (q11 : Int) (q12 : List tV) : Fr := ⟨61, [(0, .v false [.row 0]), (2, .v false [.row 1]), (3, .v false [.int .i64 q10]), (4, .v false [.view 0 ((0 : Int) + q8) ((0 : Int) + (a0.length : Int))]), (5, .v false [.int .i64 q11]), (8, .v false [.bool (decide ((a0.length : Int) < (2 : Int)))]), (13, .v false [.bool (decide (q8 < (a0.length : Int)))]), (25, .v false [.bool (((a0.getD ((0 : Int) + q8).toNat ((0 : Int), (0 : Int))).1 == (a0.getD ((0 : Int) + (w (q8 - (1 : Int)))).toNat ((0 : Int), (0 : Int))).1) && ((a0.getD ((0 : Int) + q8).toNat ((0 : Int), (0 : Int))).2 == (a0.getD ((0 : Int) + (w (q8 - (1 : Int)))).toNat ((0 : Int), (0 : Int))).2))])], [], [some ⟨55, sV, q12, .own⟩, some ⟨55, sV, [], .own⟩]⟩
noncomputable def f297_b7 (K : Nat) (a0 : List tV) (I9 : Int → Int → Int → (List tV) → Option (List tV)) (L7 : Int → Option (List tV)) (q8 : Int) : Option (List tV) :=
  (bif (decide (q8 < (a0.length : Int))) then (bif (decide (0 ≤ q8) && decide (q8 < (a0.length : Int))) then (bif (decide (0 ≤ (w (q8 - (1 : Int)))) && decide ((w (q8 - (1 : Int))) < (a0.length : Int))) then (bif (((a0.getD ((0 : Int) + q8).toNat ((0 : Int), (0 : Int))).1 == (a0.getD ((0 : Int) + (w (q8 - (1 : Int)))).toNat ((0 : Int), (0 : Int))).1) && ((a0.getD ((0 : Int) + q8).toNat ((0 : Int), (0 : Int))).2 == (a0.getD ((0 : Int) + (w (q8 - (1 : Int)))).toNat ((0 : Int), (0 : Int))).2)) then (bif (decide (0 ≤ q8) && decide (q8 ≤ (a0.length : Int)) && decide ((a0.length : Int) ≤ (a0.length : Int))) then I9 q8 q8 (1 : Int) a0 else none) else L7 (w (q8 + (1 : Int)))) else none) else none) else some a0)
noncomputable def f297_l7 (K : Nat) (a0 : List tV) (n : Nat) (q8 : Int) : Option (List tV) :=
  iter (X := Int) (fun L x => (fun L7 => f297_b7 K a0 (fun c0 d0 d1 d2 => f297_l9 K a0 c0 K d0 d1 d2) L7 x) (fun v0 => L v0)) n q8
noncomputable def f297_fr7 (a0 : List tV) (q8 : Int) : Fr := ⟨61, [(0, .v false [.row 0]), (2, .v false [.row 1]), (3, .v false [.int .i64 q8]), (8, .v false [.bool (decide ((a0.length : Int) < (2 : Int)))])], [], [some ⟨55, sV, a0, .own⟩, some ⟨55, sV, [], .own⟩]⟩
noncomputable def f297_k7 (K : Nat) (a0 : List tV) (lr : LR (List tV)) : Ex → Fr → Option (List tV) :=
  contC (f297E K) 1 lr f297C [1, 1, 0, 1, 0] (finK (f297E K) Tryz.f297 [(.mv, (.list 55 sV))] [(.list 55 sV)] (a0, ()))
noncomputable def f297_k9 (K : Nat) (a0 : List tV) (F7 : Fr → Option (List tV)) (bq8 : Int) (lr : LR (List tV)) : Ex → Fr → Option (List tV) :=
  contC (f297E K) 1 lr (selC f297C [1, 1, 0, 1, 0, 0]) [1, 0, 0, 1, 0, 1, 0, 1, 0] (loopK 1 (f297_fr7 a0 bq8) F7 (f297_k7 K a0 lr))
noncomputable def f297_g (K : Nat) (a0 : List tV) (I7 : Int → Option (List tV)) : Option (List tV) :=
  (bif (decide ((a0.length : Int) < (2 : Int))) then some a0 else I7 (1 : Int))
noncomputable def f297G (K : Nat) (a0 : List tV) : Option (List tV) :=
  f297_g K a0 (fun d0 => f297_l7 K a0 K d0)
noncomputable def f297M (K : Nat) : Mdl := ⟨[(.mv, (.list 55 sV))], [(.list 55 sV)], fun x => f297G K x.1⟩
/-! impl.orbitOf -/
noncomputable def f192C : Code := codeOf Tryz.f192
noncomputable def f192E (K : Nat) : Env := ⟨[(188, f188M K), (232, f232M K), (233, f233M K), (297, f297M K)], tys, eqs, mts, K, [0, 1, 2, 3, 5, 6, 7, 9, 11, 12, 13, 14], [], []⟩
noncomputable def f192_b3 (K : Nat) (a0 : Int × Int × Int) (a1 : List tM) (a2 : Int × Int) (L3 : Int → (List tV) → Option (List tV)) (q4 : Int) (q5 : List tV) : Option (List tV) :=
  (bif (decide (q4 < (a1.length : Int))) then (bif (decide (0 ≤ q4) && decide (q4 < (a1.length : Int))) then (f188G K a0 ((((a1.getD ((0 : Int) + q4).toNat zM).1).1, (((a1.getD ((0 : Int) + q4).toNat zM).1).2).1, ((((a1.getD ((0 : Int) + q4).toNat zM).1).2).2)), ((a1.getD ((0 : Int) + q4).toNat zM).2)) a2).bind fun y6 => (bif (Nat.ble (q5.length + [y6].length) (lim 16)) then L3 (w (q4 + (1 : Int))) (q5 ++ [y6]) else none) else none) else (f232G K q5 (fun z7 z8 => f233G K z7 z8)).bind fun y9 => (f297G K y9).bind fun y10 => some y10)
noncomputable def f192_l3 (K : Nat) (a0 : Int × Int × Int) (a1 : List tM) (a2 : Int × Int) (n : Nat) (q4 : Int) (q5 : List tV) : Option (List tV) :=
  iter (X := Int × List tV) (fun L x => (fun L3 => f192_b3 K a0 a1 a2 L3 x.1 x.2) (fun v0 v1 => L (v0, v1))) n (q4, q5)
noncomputable def f192_fr3 (a0 : Int × Int × Int) (a1 : List tM) (a2 : Int × Int) (q4 : Int) (q5 : List tV) : Fr := ⟨29, [(0, .v true [.int .i64 a0.1, .int .i64 a0.2.1, .int .i64 a0.2.2]), (1, .v false [.row 0]), (2, .v true [.int .i64 a2.1, .int .i64 a2.2]), (3, .v false [.box 0 0]), (5, .v false [.box 1 0]), (6, .v false [.row 1]), (7, .v false [.row 2]), (11, .v false [.row 0]), (12, .v false [.int .i64 (a1.length : Int)]), (13, .v false [.int .i64 q4])], [some ⟨true, [.int .i64 a0.1, .int .i64 a0.2.1, .int .i64 a0.2.2]⟩, some ⟨true, [.int .i64 a2.1, .int .i64 a2.2]⟩], [some ⟨57, sM, a1, .ro⟩, some ⟨55, sV, [], .own⟩, some ⟨55, sV, q5, .own⟩]⟩
noncomputable def f192_k3 (K : Nat) (a0 : Int × Int × Int) (a1 : List tM) (a2 : Int × Int) (lr : LR (List tV)) : Ex → Fr → Option (List tV) :=
  contC (f192E K) 1 lr f192C [1, 1, 0, 1, 0] (finK (f192E K) Tryz.f192 [(.ro, sL), (.ro, (.list 57 sM)), (.ro, sV)] [(.list 55 sV)] (a0, a1, a2, ()))
noncomputable def f192_g (K : Nat) (a0 : Int × Int × Int) (a1 : List tM) (a2 : Int × Int) (I3 : Int → (List tV) → Option (List tV)) : Option (List tV) :=
  I3 (0 : Int) []
noncomputable def f192G (K : Nat) (a0 : Int × Int × Int) (a1 : List tM) (a2 : Int × Int) : Option (List tV) :=
  f192_g K a0 a1 a2 (fun d0 d1 => f192_l3 K a0 a1 a2 K d0 d1)
noncomputable def f192M (K : Nat) : Mdl := ⟨[(.ro, sL), (.ro, (.list 57 sM)), (.ro, sV)], [(.list 55 sV)], fun x => f192G K x.1 x.2.1 x.2.2.1⟩
/-! impl.orbitsOf -/
noncomputable def f180C : Code := codeOf Tryz.f180
noncomputable def f180E (K : Nat) : Env := ⟨[(133, f133M K), (163, f163M K), (185, f185M K), (192, f192M K), (294, f294M K)], tys, eqs, mts, K, [0, 1, 2, 4, 5, 6, 7, 9, 10, 12, 19, 20, 21, 22, 31, 36, 37, 38, 39], [], []⟩
noncomputable def f180_b22 (K : Nat) (a0 : Int × Int × Int) (a1 : List tM) (q17 : Int) (q18 : List (List tV)) (q19 : List Int) (y3 : List tV) (y20 : Int) (y21 : List tV) (L16 : Int → (List (List tV)) → (List Int) → Option ((List (List tV)) × List Int)) (L22 : Int → (List Int) → Option ((List (List tV)) × List Int)) (q23 : Int) (q24 : List Int) : Option ((List (List tV)) × List Int) :=
  (bif (decide (q23 < (y21.length : Int))) then (bif (decide (0 ≤ q23) && decide (q23 < (y21.length : Int))) then (f163G K a0 (y21.getD ((0 : Int) + q23).toNat ((0 : Int), (0 : Int)))).bind fun y25 => (bif (decide (0 ≤ y25) && decide (y25 < (q24.length : Int))) then L22 (w (q23 + (1 : Int))) (q24.set ((0 : Int) + y25).toNat (q18.length : Int)) else none) else none) else (bif (Nat.ble (q18.length + [y21].length) (lim 24)) then L16 (w (q17 + (1 : Int))) (q18 ++ [y21]) q24 else none))
noncomputable def f180_l22 (K : Nat) (a0 : Int × Int × Int) (a1 : List tM) (q17 : Int) (q18 : List (List tV)) (q19 : List Int) (y3 : List tV) (y20 : Int) (y21 : List tV) (L16 : Int → (List (List tV)) → (List Int) → Option ((List (List tV)) × List Int)) (n : Nat) (q23 : Int) (q24 : List Int) : Option ((List (List tV)) × List Int) :=
  iter (X := Int × List Int) (fun L x => (fun L22 => f180_b22 K a0 a1 q17 q18 q19 y3 y20 y21 L16 L22 x.1 x.2) (fun v0 v1 => L (v0, v1))) n (q23, q24)
noncomputable def f180_fr22 (a0 : Int × Int × Int) (a1 : List tM) (q17 : Int) (q18 : List (List tV)) (q19 : List Int) (y3 : List tV) (y20 : Int) (y21 : List tV) (q23 : Int) (q24 : List Int) : Fr := ⟨57, [(0, .v true [.int .i64 a0.1, .int .i64 a0.2.1, .int .i64 a0.2.2]), (1, .v false [.row 0]), (2, .v false [.box 0 0]), (4, .v false [.row 1]), (5, .v false [.row 2]), (6, .v false [.row 3]), (7, .v false [.row 4]), (9, .v false [.box 1 0]), (10, .v false [.row 5]), (19, .v false [.row 6]), (20, .v false [.int .i64 (y3.length : Int)]), (21, .v false [.int .i64 q17]), (22, .v false [.bool (decide (q17 < (y3.length : Int)))]), (31, .v false [.bool (decide ((q19.getD ((0 : Int) + y20).toNat (0 : Int)) ≥ (0 : Int)))]), (36, .v false [.row 5]), (37, .v false [.int .i64 (y21.length : Int)]), (38, .v false [.int .i64 q23])], [some ⟨true, [.int .i64 a0.1, .int .i64 a0.2.1, .int .i64 a0.2.2]⟩, some ⟨true, [.int .i64 ((y3.getD ((0 : Int) + q17).toNat ((0 : Int), (0 : Int))).1), .int .i64 ((y3.getD ((0 : Int) + q17).toNat ((0 : Int), (0 : Int))).2)]⟩], [some ⟨57, sM, a1, .ro⟩, some ⟨58, (.list 55 sV), [], .own⟩, some ⟨2, sI, [], .own⟩, some ⟨58, (.list 55 sV), q18, .own⟩, some ⟨2, sI, q24, .own⟩, some ⟨55, sV, y21, .own⟩, some ⟨55, sV, y3, .own⟩]⟩
noncomputable def f180_b16 (K : Nat) (a0 : Int × Int × Int) (a1 : List tM) (y3 : List tV) (I22 : Int → (List (List tV)) → (List Int) → Int → (List tV) → Int → (List Int) → Option ((List (List tV)) × List Int)) (L16 : Int → (List (List tV)) → (List Int) → Option ((List (List tV)) × List Int)) (q17 : Int) (q18 : List (List tV)) (q19 : List Int) : Option ((List (List tV)) × List Int) :=
  (bif (decide (q17 < (y3.length : Int))) then (bif (decide (0 ≤ q17) && decide (q17 < (y3.length : Int))) then (f163G K a0 (y3.getD ((0 : Int) + q17).toNat ((0 : Int), (0 : Int)))).bind fun y20 => (bif (decide (0 ≤ y20) && decide (y20 < (q19.length : Int))) then (bif (decide ((q19.getD ((0 : Int) + y20).toNat (0 : Int)) ≥ (0 : Int))) then L16 (w (q17 + (1 : Int))) q18 q19 else (f192G K a0 a1 (y3.getD ((0 : Int) + q17).toNat ((0 : Int), (0 : Int)))).bind fun y21 => I22 q17 q18 q19 y20 y21 (0 : Int) q19) else none) else none) else some (q18, q19))
noncomputable def f180_l16 (K : Nat) (a0 : Int × Int × Int) (a1 : List tM) (y3 : List tV) (n : Nat) (q17 : Int) (q18 : List (List tV)) (q19 : List Int) : Option ((List (List tV)) × List Int) :=
  iter (X := Int × List (List tV) × List Int) (fun L x => (fun L16 => f180_b16 K a0 a1 y3 (fun c0 c1 c2 c3 c4 d0 d1 => f180_l22 K a0 a1 c0 c1 c2 y3 c3 c4 L16 K d0 d1) L16 x.1 x.2.1 x.2.2) (fun v0 v1 v2 => L (v0, v1, v2))) n (q17, q18, q19)
noncomputable def f180_fr16 (a0 : Int × Int × Int) (a1 : List tM) (y3 : List tV) (q17 : Int) (q18 : List (List tV)) (q19 : List Int) : Fr := ⟨57, [(0, .v true [.int .i64 a0.1, .int .i64 a0.2.1, .int .i64 a0.2.2]), (1, .v false [.row 0]), (2, .v false [.box 0 0]), (4, .v false [.row 1]), (5, .v false [.row 2]), (6, .v false [.row 3]), (7, .v false [.row 4]), (19, .v false [.row 5]), (20, .v false [.int .i64 (y3.length : Int)]), (21, .v false [.int .i64 q17])], [some ⟨true, [.int .i64 a0.1, .int .i64 a0.2.1, .int .i64 a0.2.2]⟩], [some ⟨57, sM, a1, .ro⟩, some ⟨58, (.list 55 sV), [], .own⟩, some ⟨2, sI, [], .own⟩, some ⟨58, (.list 55 sV), q18, .own⟩, some ⟨2, sI, q19, .own⟩, some ⟨55, sV, y3, .own⟩]⟩
noncomputable def f180_k16 (K : Nat) (a0 : Int × Int × Int) (a1 : List tM) (lr : LR ((List (List tV)) × List Int)) : Ex → Fr → Option ((List (List tV)) × List Int) :=
  contC (f180E K) 1 lr f180C [1, 1, 0, 1, 0] (finK (f180E K) Tryz.f180 [(.ro, sL), (.ro, (.list 57 sM))] [(.list 58 (.list 55 sV)), (.list 2 sI)] (a0, a1, ()))
noncomputable def f180_k22 (K : Nat) (a0 : Int × Int × Int) (a1 : List tM) (y3 : List tV) (F16 : Fr → Option ((List (List tV)) × List Int)) (bq17 : Int) (bq18 : List (List tV)) (bq19 : List Int) (lr : LR ((List (List tV)) × List Int)) : Ex → Fr → Option ((List (List tV)) × List Int) :=
  contC (f180E K) 1 lr (selC f180C [1, 1, 0, 1, 0, 0]) [1, 1, 0, 0, 1, 1, 1, 0, 1, 0] (loopK 1 (f180_fr16 a0 a1 y3 bq17 bq18 bq19) F16 (f180_k16 K a0 a1 lr))
noncomputable def f180_g (K : Nat) (a0 : Int × Int × Int) (a1 : List tM) (I16 : (List tV) → Int → (List (List tV)) → (List Int) → Option ((List (List tV)) × List Int)) : Option ((List (List tV)) × List Int) :=
  (f133G K a0).bind fun y1 => (f294G K [(-1 : Int)] y1).bind fun y2 => (f185G K a0).bind fun y3 => I16 y3 (0 : Int) [] y2
noncomputable def f180G (K : Nat) (a0 : Int × Int × Int) (a1 : List tM) : Option ((List (List tV)) × List Int) :=
  f180_g K a0 a1 (fun c0 d0 d1 d2 => f180_l16 K a0 a1 c0 K d0 d1 d2)
noncomputable def f180M (K : Nat) : Mdl := ⟨[(.ro, sL), (.ro, (.list 57 sM))], [(.list 58 (.list 55 sV)), (.list 2 sI)], fun x => f180G K x.1 x.2.1⟩
/-! impl.unitCode$1 -/
noncomputable def f314E (K : Nat) : Env := ⟨[], tys, eqs, mts, K, [0, 1, 3], [], []⟩
noncomputable def f314G (K : Nat) (a0 : List tV) (a1 : List tM) : Option Bool :=
  some (decide ((a0.length : Int) < (a1.length : Int)))
noncomputable def f314M (K : Nat) : Mdl := ⟨[(.ro, (.list 55 sV)), (.cap, (.list 57 sM))], [.bool], fun x => f314G K x.1 x.2.1⟩
/-! slices.IndexFunc[[][]impl.Vec,[]impl.Vec] -/
noncomputable def f322C : Code := codeOf Tryz.f322
noncomputable def f322E (K : Nat) : Env := ⟨[], tys, eqs, mts, K, [0, 1, 4, 5, 7, 8, 9, 16], [], []⟩
noncomputable def f322_b3 (K : Nat) (a0 : List (List tV)) (a1 : ((List tV) → Option Bool)) (L3 : Int → Option Int) (q4 : Int) : Option Int :=
  (bif (decide (q4 < (a0.length : Int))) then (bif (decide (0 ≤ q4) && decide (q4 < (a0.length : Int))) then (a1 (a0.getD ((0 : Int) + q4).toNat [])).bind fun y5 => (bif y5 then some q4 else L3 (w (q4 + (1 : Int)))) else none) else some (-1 : Int))
noncomputable def f322_l3 (K : Nat) (a0 : List (List tV)) (a1 : ((List tV) → Option Bool)) (n : Nat) (q4 : Int) : Option Int :=
  iter (X := Int) (fun L x => (fun L3 => f322_b3 K a0 a1 L3 x) (fun v0 => L v0)) n q4
noncomputable def f322_fr3 (a0 : List (List tV)) (a1 : ((List tV) → Option Bool)) (q4 : Int) : Fr := ⟨19, [(0, .v false [.row 0]), (1, .v false [.fv1 (.list 55 sV) .bool a1]), (4, .v false [.int .i64 (0 : Int)]), (7, .v false [.int .i64 (a0.length : Int)]), (8, .v false [.int .i64 q4])], [], [some ⟨58, (.list 55 sV), a0, .ro⟩]⟩
noncomputable def f322_k3 (K : Nat) (a0 : List (List tV)) (a1 : ((List tV) → Option Bool)) (lr : LR Int) : Ex → Fr → Option Int :=
  contC (f322E K) 1 lr f322C [1, 0, 1, 0] (finK (f322E K) Tryz.f322 [(.ro, (.list 58 (.list 55 sV))), (.ro, (.fn1 (.list 55 sV) .bool))] [sI] (a0, a1, ()))
noncomputable def f322_g (K : Nat) (a0 : List (List tV)) (a1 : ((List tV) → Option Bool)) (I3 : Int → Option Int) : Option Int :=
  I3 (0 : Int)
noncomputable def f322G (K : Nat) (a0 : List (List tV)) (a1 : ((List tV) → Option Bool)) : Option Int :=
  f322_g K a0 a1 (fun d0 => f322_l3 K a0 a1 K d0)
noncomputable def f322M (K : Nat) : Mdl := ⟨[(.ro, (.list 58 (.list 55 sV))), (.ro, (.fn1 (.list 55 sV) .bool))], [sI], fun x => f322G K x.1 x.2.1⟩
/-! slices.ContainsFunc[[][]impl.Vec,[]impl.Vec] -/
noncomputable def f313E (K : Nat) : Env := ⟨[(322, f322M K)], tys, eqs, mts, K, [0, 1, 4], [], []⟩
noncomputable def f313G (K : Nat) (a0 : List (List tV)) (a1 : ((List tV) → Option Bool)) : Option Bool :=
  (f322G K a0 a1).bind fun y1 => some (decide (y1 ≥ (0 : Int)))
noncomputable def f313M (K : Nat) : Mdl := ⟨[(.ro, (.list 58 (.list 55 sV))), (.ro, (.fn1 (.list 55 sV) .bool))], [.bool], fun x => f313G K x.1 x.2.1⟩
/-! impl.unitCode -/
noncomputable def f224E (K : Nat) : Env := ⟨[(180, f180M K), (198, f198M K), (313, f313M K), (314, f314M K)], tys, eqs, mts, K, [0, 1, 2, 4, 5, 6, 7, 8, 9, 17, 27, 30], [], []⟩
noncomputable def f224G (K : Nat) (a0 : Int) (a1 : Int × Int × Int) (a2 : List tM) : Option ((List (List tV)) × Int) :=
  (f198G K a0 a1 [a2]).bind fun y1 => (bif (y1 != (0 : Int)) then some ([], y1) else (f180G K a1 a2).bind fun y2 => (f313G K y2.1 (fun z3 => f314G K z3 a2)).bind fun y4 => (bif y4 then some ([], (5 : Int)) else (bif (decide ((y2.1.length : Int) > (16 : Int))) then some ([], (4 : Int)) else some (y2.1, (0 : Int)))))
noncomputable def f224M (K : Nat) : Mdl := ⟨[(.ro, sI), (.ro, sL), (.ro, (.list 57 sM))], [(.list 58 (.list 55 sV)), sI], fun x => f224G K x.1 x.2.1 x.2.2.1⟩
/-! impl.neighbours -/
noncomputable def f227E (K : Nat) : Env := ⟨[(289, f289M K)], tys, eqs, mts, K, [0, 1, 2], [], []⟩
noncomputable def f227G (K : Nat) (a0 : Int × Int) : Option (List tV) :=
  (f289G K a0 ((1 : Int), (0 : Int))).bind fun y1 => (f289G K a0 ((0 : Int), (1 : Int))).bind fun y2 => (f289G K a0 ((-1 : Int), (0 : Int))).bind fun y3 => (f289G K a0 ((0 : Int), (-1 : Int))).bind fun y4 => some [y1, y2, y3, y4]
noncomputable def f227M (K : Nat) : Mdl := ⟨[(.ro, sV)], [(.list 55 sV)], fun x => f227G K x.1⟩
/-! slices.Index[[]impl.Vec,impl.Vec] -/
noncomputable def f169C : Code := codeOf Tryz.f169
noncomputable def f169E (K : Nat) : Env := ⟨[], tys, eqs, mts, K, [0, 1, 3, 4, 5, 7, 8, 9, 16], [], []⟩
noncomputable def f169_b2 (K : Nat) (a0 : List tV) (a1 : Int × Int) (L2 : Int → Option Int) (q3 : Int) : Option Int :=
  (bif (decide (q3 < (a0.length : Int))) then (bif (decide (0 ≤ q3) && decide (q3 < (a0.length : Int))) then (bif ((a1.1 == (a0.getD ((0 : Int) + q3).toNat ((0 : Int), (0 : Int))).1) && (a1.2 == (a0.getD ((0 : Int) + q3).toNat ((0 : Int), (0 : Int))).2)) then some q3 else L2 (w (q3 + (1 : Int)))) else none) else some (-1 : Int))
noncomputable def f169_l2 (K : Nat) (a0 : List tV) (a1 : Int × Int) (n : Nat) (q3 : Int) : Option Int :=
  iter (X := Int) (fun L x => (fun L2 => f169_b2 K a0 a1 L2 x) (fun v0 => L v0)) n q3
noncomputable def f169_fr2 (a0 : List tV) (a1 : Int × Int) (q3 : Int) : Fr := ⟨19, [(0, .v false [.row 0]), (1, .v true [.int .i64 a1.1, .int .i64 a1.2]), (3, .v false [.box 0 0]), (4, .v false [.int .i64 (0 : Int)]), (7, .v false [.int .i64 (a0.length : Int)]), (8, .v false [.int .i64 q3])], [some ⟨true, [.int .i64 a1.1, .int .i64 a1.2]⟩], [some ⟨55, sV, a0, .ro⟩]⟩
noncomputable def f169_k2 (K : Nat) (a0 : List tV) (a1 : Int × Int) (lr : LR Int) : Ex → Fr → Option Int :=
  contC (f169E K) 1 lr f169C [1, 0, 1, 0] (finK (f169E K) Tryz.f169 [(.ro, (.list 55 sV)), (.ro, sV)] [sI] (a0, a1, ()))
noncomputable def f169_g (K : Nat) (a0 : List tV) (a1 : Int × Int) (I2 : Int → Option Int) : Option Int :=
  I2 (0 : Int)
noncomputable def f169G (K : Nat) (a0 : List tV) (a1 : Int × Int) : Option Int :=
  f169_g K a0 a1 (fun d0 => f169_l2 K a0 a1 K d0)
noncomputable def f169M (K : Nat) : Mdl := ⟨[(.ro, (.list 55 sV)), (.ro, sV)], [sI], fun x => f169G K x.1 x.2.1⟩
/-! slices.Contains[[]impl.Vec,impl.Vec] -/
noncomputable def f229E (K : Nat) : Env := ⟨[(169, f169M K)], tys, eqs, mts, K, [0, 1, 3, 4], [], []⟩
noncomputable def f229G (K : Nat) (a0 : List tV) (a1 : Int × Int) : Option Bool :=
  (f169G K a0 a1).bind fun y1 => some (decide (y1 ≥ (0 : Int)))
noncomputable def f229M (K : Nat) : Mdl := ⟨[(.ro, (.list 55 sV)), (.ro, sV)], [.bool], fun x => f229G K x.1 x.2.1⟩
/-! impl.ConnectedUnit$1$1 -/
noncomputable def f228E (K : Nat) : Env := ⟨[(229, f229M K)], tys, eqs, mts, K, [0, 1, 2, 3], [], []⟩
noncomputable def f228G (K : Nat) (a0 : Int × Int) (a1 : List tV) : Option Bool :=
  (f229G K a1 a0).bind fun y1 => some y1
noncomputable def f228M (K : Nat) : Mdl := ⟨[(.ro, sV), (.cap, (.list 55 sV))], [.bool], fun x => f228G K x.1 x.2.1⟩
/-! slices.IndexFunc[[]impl.Vec,impl.Vec] -/
noncomputable def f231C : Code := codeOf Tryz.f231
noncomputable def f231E (K : Nat) : Env := ⟨[], tys, eqs, mts, K, [0, 1, 4, 5, 7, 8, 9, 16], [], []⟩
noncomputable def f231_b3 (K : Nat) (a0 : List tV) (a1 : (tV → Option Bool)) (L3 : Int → Option Int) (q4 : Int) : Option Int :=
  (bif (decide (q4 < (a0.length : Int))) then (bif (decide (0 ≤ q4) && decide (q4 < (a0.length : Int))) then (a1 (a0.getD ((0 : Int) + q4).toNat ((0 : Int), (0 : Int)))).bind fun y5 => (bif y5 then some q4 else L3 (w (q4 + (1 : Int)))) else none) else some (-1 : Int))
noncomputable def f231_l3 (K : Nat) (a0 : List tV) (a1 : (tV → Option Bool)) (n : Nat) (q4 : Int) : Option Int :=
  iter (X := Int) (fun L x => (fun L3 => f231_b3 K a0 a1 L3 x) (fun v0 => L v0)) n q4
noncomputable def f231_fr3 (a0 : List tV) (a1 : (tV → Option Bool)) (q4 : Int) : Fr := ⟨19, [(0, .v false [.row 0]), (1, .v false [.fv1 sV .bool a1]), (4, .v false [.int .i64 (0 : Int)]), (7, .v false [.int .i64 (a0.length : Int)]), (8, .v false [.int .i64 q4])], [], [some ⟨55, sV, a0, .ro⟩]⟩
noncomputable def f231_k3 (K : Nat) (a0 : List tV) (a1 : (tV → Option Bool)) (lr : LR Int) : Ex → Fr → Option Int :=
  contC (f231E K) 1 lr f231C [1, 0, 1, 0] (finK (f231E K) Tryz.f231 [(.ro, (.list 55 sV)), (.ro, (.fn1 sV .bool))] [sI] (a0, a1, ()))
noncomputable def f231_g (K : Nat) (a0 : List tV) (a1 : (tV → Option Bool)) (I3 : Int → Option Int) : Option Int :=
  I3 (0 : Int)
noncomputable def f231G (K : Nat) (a0 : List tV) (a1 : (tV → Option Bool)) : Option Int :=
  f231_g K a0 a1 (fun d0 => f231_l3 K a0 a1 K d0)
noncomputable def f231M (K : Nat) : Mdl := ⟨[(.ro, (.list 55 sV)), (.ro, (.fn1 sV .bool))], [sI], fun x => f231G K x.1 x.2.1⟩
/-! slices.ContainsFunc[[]impl.Vec,impl.Vec] -/
noncomputable def f226E (K : Nat) : Env := ⟨[(231, f231M K)], tys, eqs, mts, K, [0, 1, 4], [], []⟩
noncomputable def f226G (K : Nat) (a0 : List tV) (a1 : (tV → Option Bool)) : Option Bool :=
  (f231G K a0 a1).bind fun y1 => some (decide (y1 ≥ (0 : Int)))
noncomputable def f226M (K : Nat) : Mdl := ⟨[(.ro, (.list 55 sV)), (.ro, (.fn1 sV .bool))], [.bool], fun x => f226G K x.1 x.2.1⟩
/-! slices.Index[[]int64,int64] -/
noncomputable def f315C : Code := codeOf Tryz.f315
noncomputable def f315E (K : Nat) : Env := ⟨[], tys, eqs, mts, K, [0, 1, 4, 5, 7, 8, 9, 16], [], []⟩
noncomputable def f315_b2 (K : Nat) (a0 : List Int) (a1 : Int) (L2 : Int → Option Int) (q3 : Int) : Option Int :=
  (bif (decide (q3 < (a0.length : Int))) then (bif (decide (0 ≤ q3) && decide (q3 < (a0.length : Int))) then (bif (a1 == (a0.getD ((0 : Int) + q3).toNat (0 : Int))) then some q3 else L2 (w (q3 + (1 : Int)))) else none) else some (-1 : Int))
noncomputable def f315_l2 (K : Nat) (a0 : List Int) (a1 : Int) (n : Nat) (q3 : Int) : Option Int :=
  iter (X := Int) (fun L x => (fun L2 => f315_b2 K a0 a1 L2 x) (fun v0 => L v0)) n q3
noncomputable def f315_fr2 (a0 : List Int) (a1 : Int) (q3 : Int) : Fr := ⟨19, [(0, .v false [.row 0]), (1, .v false [.int .i64 a1]), (4, .v false [.int .i64 (0 : Int)]), (7, .v false [.int .i64 (a0.length : Int)]), (8, .v false [.int .i64 q3])], [], [some ⟨2, sI, a0, .ro⟩]⟩
noncomputable def f315_k2 (K : Nat) (a0 : List Int) (a1 : Int) (lr : LR Int) : Ex → Fr → Option Int :=
  contC (f315E K) 1 lr f315C [1, 0, 1, 0] (finK (f315E K) Tryz.f315 [(.ro, (.list 2 sI)), (.ro, sI)] [sI] (a0, a1, ()))
noncomputable def f315_g (K : Nat) (a0 : List Int) (a1 : Int) (I2 : Int → Option Int) : Option Int :=
  I2 (0 : Int)
noncomputable def f315G (K : Nat) (a0 : List Int) (a1 : Int) : Option Int :=
  f315_g K a0 a1 (fun d0 => f315_l2 K a0 a1 K d0)
noncomputable def f315M (K : Nat) : Mdl := ⟨[(.ro, (.list 2 sI)), (.ro, sI)], [sI], fun x => f315G K x.1 x.2.1⟩
/-! slices.Contains[[]int64,int64] -/
noncomputable def f230E (K : Nat) : Env := ⟨[(315, f315M K)], tys, eqs, mts, K, [0, 1, 4], [], []⟩
noncomputable def f230G (K : Nat) (a0 : List Int) (a1 : Int) : Option Bool :=
  (f315G K a0 a1).bind fun y1 => some (decide (y1 ≥ (0 : Int)))
noncomputable def f230M (K : Nat) : Mdl := ⟨[(.ro, (.list 2 sI)), (.ro, sI)], [.bool], fun x => f230G K x.1 x.2.1⟩
/-! impl.ConnectedUnit$1 -/
noncomputable def f225E (K : Nat) : Env := ⟨[(163, f163M K), (226, f226M K), (227, f227M K), (228, f228M K), (230, f230M K)], tys, eqs, mts, K, [0, 1, 2, 3, 4, 5, 6, 7], [], []⟩
noncomputable def f225G (K : Nat) (a0 : Int × Int) (a1 : List tV) (a2 : List Int) (a3 : List Int) (a4 : Int × Int × Int) : Option Bool :=
  (f227G K a0).bind fun y1 => (f226G K y1 (fun z2 => f228G K z2 a1)).bind fun y3 => (bif ((!y3) || true) then (bif ((!y3) || true) then (bif ((!y3) || true) then (bif ((!y3) || true) then ((bif y3 then f163G K a4 a0 else some (0 : Int))).bind fun y4 => (bif ((!y3) || (decide (0 ≤ y4) && decide (y4 < (a3.length : Int)))) then (bif ((!y3) || true) then ((bif y3 then f230G K a2 (a3.getD ((0 : Int) + y4).toNat (0 : Int)) else some false)).bind fun y5 => (bif ((!y3) || true) then some (bif y3 then (!y5) else false) else none) else none) else none) else none) else none) else none) else none)
noncomputable def f225M (K : Nat) : Mdl := ⟨[(.ro, sV), (.cap, (.list 55 sV)), (.cap, (.list 2 sI)), (.cap, (.list 2 sI)), (.cap, sL)], [.bool], fun x => f225G K x.1 x.2.1 x.2.2.1 x.2.2.2.1 x.2.2.2.2.1⟩
/-! impl.ConnectedUnit -/
noncomputable def f106C : Code := codeOf Tryz.f106
noncomputable def f106E (K : Nat) : Env := ⟨[(180, f180M K), (185, f185M K), (224, f224M K), (225, f225M K), (231, f231M K), (232, f232M K), (233, f233M K)], tys, eqs, mts, K, [0, 1, 2, 4, 6, 7, 8, 9, 11, 12, 13, 14, 15, 16, 25, 41, 48], [], []⟩
noncomputable def f106_b7 (K : Nat) (a0 : Int) (a1 : Int × Int × Int) (a2 : List tM) (y1 : (List (List tV)) × Int) (y2 : (List (List tV)) × List Int) (L7 : (List tV) → (List Int) → Option ((List tV) × Int)) (q8 : List tV) (q9 : List Int) : Option ((List tV) × Int) :=
  (bif (decide ((q8.length : Int) < (y1.1.length : Int))) then (f185G K a1).bind fun y10 => (f231G K y10 (fun z11 => f225G K z11 q8 q9 y2.2 a1)).bind fun y12 => (bif (decide (y12 < (0 : Int))) then some ([], (4 : Int)) else (bif (decide (0 ≤ y12) && decide (y12 < (y10.length : Int))) then (bif (Nat.ble (q8.length + [(y10.getD ((0 : Int) + y12).toNat ((0 : Int), (0 : Int)))].length) (lim 16)) then (bif (decide (0 ≤ y12) && decide (y12 < (y2.2.length : Int))) then (bif (Nat.ble (q9.length + [(y2.2.getD ((0 : Int) + y12).toNat (0 : Int))].length) (lim 8)) then L7 (q8 ++ [(y10.getD ((0 : Int) + y12).toNat ((0 : Int), (0 : Int)))]) (q9 ++ [(y2.2.getD ((0 : Int) + y12).toNat (0 : Int))]) else none) else none) else none) else none)) else (f232G K q8 (fun z13 z14 => f233G K z13 z14)).bind fun y15 => some (y15, (0 : Int)))
noncomputable def f106_l7 (K : Nat) (a0 : Int) (a1 : Int × Int × Int) (a2 : List tM) (y1 : (List (List tV)) × Int) (y2 : (List (List tV)) × List Int) (n : Nat) (q8 : List tV) (q9 : List Int) : Option ((List tV) × Int) :=
  iter (X := List tV × List Int) (fun L x => (fun L7 => f106_b7 K a0 a1 a2 y1 y2 L7 x.1 x.2) (fun v0 v1 => L (v0, v1))) n (q8, q9)
noncomputable def f106_fr7 (a0 : Int) (a1 : Int × Int × Int) (a2 : List tM) (y1 : (List (List tV)) × Int) (y2 : (List (List tV)) × List Int) (q8 : List tV) (q9 : List Int) : Fr := ⟨66, [(0, .v false [.int .i64 a0]), (1, .v true [.int .i64 a1.1, .int .i64 a1.2.1, .int .i64 a1.2.2]), (2, .v false [.row 0]), (4, .v false [.box 0 0]), (6, .v false [.row 1]), (7, .v false [.int .i64 (0 : Int)]), (8, .v false [.row 2]), (9, .v false [.int .i64 y1.2]), (11, .v false [.box 1 0]), (12, .v false [.box 2 0]), (13, .v false [.box 3 0]), (14, .v false [.fn 225 [2, 3, 1, 0]]), (25, .v false [.bool (y1.2 != (0 : Int))])], [some ⟨true, [.int .i64 a1.1, .int .i64 a1.2.1, .int .i64 a1.2.2]⟩, some ⟨true, [.row 3]⟩, some ⟨true, [.row 4]⟩, some ⟨true, [.row 5]⟩], [some ⟨57, sM, a2, .ro⟩, some ⟨55, sV, [], .own⟩, some ⟨58, (.list 55 sV), y1.1, .own⟩, some ⟨2, sI, y2.2, .own⟩, some ⟨55, sV, q8, .own⟩, some ⟨2, sI, q9, .own⟩]⟩
noncomputable def f106_k7 (K : Nat) (a0 : Int) (a1 : Int × Int × Int) (a2 : List tM) (lr : LR ((List tV) × Int)) : Ex → Fr → Option ((List tV) × Int) :=
  contC (f106E K) 1 lr f106C [1, 1, 1, 1, 1, 1, 0, 0] (finK (f106E K) Tryz.f106 [(.ro, sI), (.ro, sL), (.ro, (.list 57 sM))] [(.list 55 sV), sI] (a0, a1, a2, ()))
noncomputable def f106_g (K : Nat) (a0 : Int) (a1 : Int × Int × Int) (a2 : List tM) (I7 : ((List (List tV)) × Int) → ((List (List tV)) × List Int) → (List tV) → (List Int) → Option ((List tV) × Int)) : Option ((List tV) × Int) :=
  (f224G K a0 a1 a2).bind fun y1 => (bif (y1.2 != (0 : Int)) then some ([], y1.2) else (f180G K a1 a2).bind fun y2 => I7 y1 y2 [((0 : Int), (0 : Int))] [(0 : Int)])
noncomputable def f106G (K : Nat) (a0 : Int) (a1 : Int × Int × Int) (a2 : List tM) : Option ((List tV) × Int) :=
  f106_g K a0 a1 a2 (fun c0 c1 d0 d1 => f106_l7 K a0 a1 a2 c0 c1 K d0 d1)
noncomputable def f106M (K : Nat) : Mdl := ⟨[(.ro, sI), (.ro, sL), (.ro, (.list 57 sM))], [(.list 55 sV), sI], fun x => f106G K x.1 x.2.1 x.2.2.1⟩
/-! spec.IsVec -/
noncomputable def f254E (K : Nat) : Env := ⟨[(195, f195M K)], tys, eqs, mts, K, [0, 1, 2], [], []⟩
noncomputable def f254G (K : Nat) (a0 : Int × Int) : Option Bool :=
  (f195G K a0.1 (-1000 : Int) (1000 : Int)).bind fun y1 => (bif ((!y1) || true) then (bif ((!y1) || true) then ((bif y1 then f195G K a0.2 (-1000 : Int) (1000 : Int) else some false)).bind fun y2 => some (bif y1 then y2 else false) else none) else none)
noncomputable def f254M (K : Nat) : Mdl := ⟨[(.ro, sV)], [.bool], fun x => f254G K x.1⟩
/-! spec.l02Small -/
noncomputable def f384E (K : Nat) : Env := ⟨[(254, f254M K)], tys, eqs, mts, K, [0, 1, 2], [], []⟩
noncomputable def f384G (K : Nat) (a0 : Int × Int × Int × Int) : Option Bool :=
  (f254G K (a0.1, a0.2.1)).bind fun y1 => (bif ((!y1) || true) then (bif ((!y1) || true) then (bif ((!y1) || true) then (bif ((!y1) || true) then (bif ((!y1) || true) then ((bif y1 then f254G K a0.2.2 else some false)).bind fun y2 => some (bif y1 then y2 else false) else none) else none) else none) else none) else none)
noncomputable def f384M (K : Nat) : Mdl := ⟨[(.ro, sA)], [.bool], fun x => f384G K x.1⟩
/-! spec.l02Det -/
noncomputable def f132E (K : Nat) : Env := ⟨[], tys, eqs, mts, K, [0, 1, 2], [], []⟩
noncomputable def f132G (K : Nat) (a0 : Int × Int × Int × Int) : Option Int :=
  some (w ((w (a0.1 * a0.2.2.2)) - (w (a0.2.1 * a0.2.2.1))))
noncomputable def f132M (K : Nat) : Mdl := ⟨[(.ro, sA)], [sI], fun x => f132G K x.1⟩
/-! spec.IsMat -/
noncomputable def f358E (K : Nat) : Env := ⟨[(132, f132M K), (384, f384M K)], tys, eqs, mts, K, [0, 1, 2], [], []⟩
noncomputable def f358G (K : Nat) (a0 : Int × Int × Int × Int) : Option Bool :=
  (f384G K a0).bind fun y1 => (bif ((!y1) || true) then ((bif y1 then f132G K a0 else some (0 : Int))).bind fun y2 => (bif ((!y1) || true) then (bif ((!y1) || true) then (bif ((!(y1 && (!(y2 == (1 : Int))))) || true) then ((bif (y1 && (!(y2 == (1 : Int)))) then f132G K a0 else some (0 : Int))).bind fun y3 => (bif ((!(y1 && (!(y2 == (1 : Int))))) || true) then (bif ((!y1) || true) then some (bif y1 then (bif (y2 == (1 : Int)) then true else (y3 == (-1 : Int))) else false) else none) else none) else none) else none) else none) else none)
noncomputable def f358M (K : Nat) : Mdl := ⟨[(.ro, sA)], [.bool], fun x => f358G K x.1⟩
/-! spec.IsPointMat -/
noncomputable def f302E (K : Nat) : Env := ⟨[(306, f306M K), (358, f358M K), (359, f359M K)], tys, eqs, mts, K, [0, 1, 3, 4], [], []⟩
noncomputable def f302G (K : Nat) (a0 : Int) (a1 : Int × Int × Int × Int) : Option Bool :=
  (f306G K a0).bind fun y1 => (bif ((!y1) || true) then ((bif y1 then f358G K a1 else some false)).bind fun y2 => (bif ((!(bif y1 then y2 else false)) || true) then (bif ((!(bif y1 then y2 else false)) || true) then ((bif (bif y1 then y2 else false) then f359G K a0 a1 else some false)).bind fun y3 => some (bif (bif y1 then y2 else false) then y3 else false) else none) else none) else none)
noncomputable def f302M (K : Nat) : Mdl := ⟨[(.ro, sI), (.ro, sA)], [.bool], fun x => f302G K x.1 x.2.1⟩
/-! spec.IsSuitable -/
noncomputable def f210E (K : Nat) : Env := ⟨[(215, f215M K), (254, f254M K), (302, f302M K), (303, f303M K)], tys, eqs, mts, K, [0, 1, 2, 4, 5, 6], [], []⟩
noncomputable def f210G (K : Nat) (a0 : Int) (a1 : Int × Int × Int) (a2 : tA × Int × Int) : Option Bool :=
  (f215G K a0 a1).bind fun y1 => (bif ((!(y1 == (0 : Int))) || true) then (bif ((!(y1 == (0 : Int))) || true) then (bif ((!(y1 == (0 : Int))) || true) then ((bif (y1 == (0 : Int)) then f302G K a0 a2.1 else some false)).bind fun y2 => (bif ((!(bif (y1 == (0 : Int)) then y2 else false)) || true) then (bif ((!(bif (y1 == (0 : Int)) then y2 else false)) || true) then (bif ((!(bif (y1 == (0 : Int)) then y2 else false)) || true) then ((bif (bif (y1 == (0 : Int)) then y2 else false) then f303G K a2.1 a1 else some ((0 : Int), ((0 : Int), (0 : Int))))).bind fun y3 => (bif ((!(bif (y1 == (0 : Int)) then y2 else false)) || true) then (bif ((!(bif (y1 == (0 : Int)) then y2 else false)) || true) then (bif ((!(bif (bif (y1 == (0 : Int)) then y2 else false) then ((y3.1 == a1.1) && ((y3.2.1 == a1.2.1) && (y3.2.2 == a1.2.2))) else false)) || true) then (bif ((!(bif (bif (y1 == (0 : Int)) then y2 else false) then ((y3.1 == a1.1) && ((y3.2.1 == a1.2.1) && (y3.2.2 == a1.2.2))) else false)) || true) then ((bif (bif (bif (y1 == (0 : Int)) then y2 else false) then ((y3.1 == a1.1) && ((y3.2.1 == a1.2.1) && (y3.2.2 == a1.2.2))) else false) then f254G K a2.2 else some false)).bind fun y4 => some (bif (bif (bif (y1 == (0 : Int)) then y2 else false) then ((y3.1 == a1.1) && ((y3.2.1 == a1.2.1) && (y3.2.2 == a1.2.2))) else false) then y4 else false) else none) else none) else none) else none) else none) else none) else none) else none) else none) else none)
noncomputable def f210M (K : Nat) : Mdl := ⟨[(.ro, sI), (.ro, sL), (.ro, sM)], [.bool], fun x => f210G K x.1 x.2.1 x.2.2.1⟩
/-! spec.IsGroup -/
noncomputable def f148C : Code := codeOf Tryz.f148
noncomputable def f148E (K : Nat) : Env := ⟨[(141, f141M K), (210, f210M K), (215, f215M K), (273, f273M K), (274, f274M K), (275, f275M K), (276, f276M K)], tys, eqs, mts, K, [0, 1, 2, 4, 6, 7, 8, 9, 18, 22, 62, 66, 70, 76, 92], [], []⟩
noncomputable def f148_b25 (K : Nat) (a0 : Int) (a1 : Int × Int × Int) (a2 : List tM) (q7 : Int) (q24 : Int) (y1 : Int) (y12 : Bool) (L23 : Int → Option Bool) (L25 : Int → Option Bool) (q26 : Int) : Option Bool :=
  (bif (decide (q26 < (a2.length : Int))) then (bif (decide (0 ≤ q24) && decide (q24 < (a2.length : Int))) then (bif (decide (0 ≤ q26) && decide (q26 < (a2.length : Int))) then (f276G K ((((a2.getD ((0 : Int) + q24).toNat zM).1).1, (((a2.getD ((0 : Int) + q24).toNat zM).1).2).1, ((((a2.getD ((0 : Int) + q24).toNat zM).1).2).2)), ((a2.getD ((0 : Int) + q24).toNat zM).2)) ((((a2.getD ((0 : Int) + q26).toNat zM).1).1, (((a2.getD ((0 : Int) + q26).toNat zM).1).2).1, ((((a2.getD ((0 : Int) + q26).toNat zM).1).2).2)), ((a2.getD ((0 : Int) + q26).toNat zM).2))).bind fun y27 => (f273G K a1 y27).bind fun y28 => (f275G K a2 y28).bind fun y29 => (bif (!y29) then some false else L25 (w (q26 + (1 : Int)))) else none) else none) else L23 (w (q24 + (1 : Int))))
noncomputable def f148_l25 (K : Nat) (a0 : Int) (a1 : Int × Int × Int) (a2 : List tM) (q7 : Int) (q24 : Int) (y1 : Int) (y12 : Bool) (L23 : Int → Option Bool) (n : Nat) (q26 : Int) : Option Bool :=
  iter (X := Int) (fun L x => (fun L25 => f148_b25 K a0 a1 a2 q7 q24 y1 y12 L23 L25 x) (fun v0 => L v0)) n q26
noncomputable def f148_fr25 (a0 : Int) (a1 : Int × Int × Int) (a2 : List tM) (q7 : Int) (q24 : Int) (y1 : Int) (y12 : Bool) (q26 : Int) : Fr := ⟨93, [(0, .v false [.int .i64 a0]), (1, .v true [.int .i64 a1.1, .int .i64 a1.2.1, .int .i64 a1.2.2]), (2, .v false [.row 0]), (4, .v false [.box 0 0]), (6, .v false [.bool false]), (7, .v false [.int .i64 q7]), (8, .v false [.int .i64 q24]), (9, .v false [.int .i64 q26]), (18, .v false [.bool (bif (y1 != (0 : Int)) then true else (decide ((a2.length : Int) > (768 : Int))))]), (22, .v false [.bool (decide (q7 < (a2.length : Int)))]), (66, .v false [.bool (!y12)]), (70, .v false [.bool (decide (q24 < (a2.length : Int)))])], [some ⟨true, [.int .i64 a1.1, .int .i64 a1.2.1, .int .i64 a1.2.2]⟩], [some ⟨57, sM, a2, .ro⟩]⟩
noncomputable def f148_b23 (K : Nat) (a0 : Int) (a1 : Int × Int × Int) (a2 : List tM) (q7 : Int) (y1 : Int) (y12 : Bool) (I25 : Int → Int → Option Bool) (L23 : Int → Option Bool) (q24 : Int) : Option Bool :=
  (bif (decide (q24 < (a2.length : Int))) then I25 q24 (0 : Int) else some true)
noncomputable def f148_l23 (K : Nat) (a0 : Int) (a1 : Int × Int × Int) (a2 : List tM) (q7 : Int) (y1 : Int) (y12 : Bool) (n : Nat) (q24 : Int) : Option Bool :=
  iter (X := Int) (fun L x => (fun L23 => f148_b23 K a0 a1 a2 q7 y1 y12 (fun c0 d0 => f148_l25 K a0 a1 a2 q7 c0 y1 y12 L23 K d0) L23 x) (fun v0 => L v0)) n q24
noncomputable def f148_fr23 (a0 : Int) (a1 : Int × Int × Int) (a2 : List tM) (q7 : Int) (y1 : Int) (y12 : Bool) (q24 : Int) : Fr := ⟨93, [(0, .v false [.int .i64 a0]), (1, .v true [.int .i64 a1.1, .int .i64 a1.2.1, .int .i64 a1.2.2]), (2, .v false [.row 0]), (4, .v false [.box 0 0]), (6, .v false [.bool false]), (7, .v false [.int .i64 q7]), (8, .v false [.int .i64 q24]), (18, .v false [.bool (bif (y1 != (0 : Int)) then true else (decide ((a2.length : Int) > (768 : Int))))]), (22, .v false [.bool (decide (q7 < (a2.length : Int)))]), (66, .v false [.bool (!y12)])], [some ⟨true, [.int .i64 a1.1, .int .i64 a1.2.1, .int .i64 a1.2.2]⟩], [some ⟨57, sM, a2, .ro⟩]⟩
noncomputable def f148_b6 (K : Nat) (a0 : Int) (a1 : Int × Int × Int) (a2 : List tM) (y1 : Int) (I23 : Int → Int → Bool → Int → Option Bool) (L6 : Int → Option Bool) (q7 : Int) : Option Bool :=
  (bif (decide (q7 < (a2.length : Int))) then (bif (decide (0 ≤ q7) && decide (q7 < (a2.length : Int))) then (f210G K a0 a1 ((((a2.getD ((0 : Int) + q7).toNat zM).1).1, (((a2.getD ((0 : Int) + q7).toNat zM).1).2).1, ((((a2.getD ((0 : Int) + q7).toNat zM).1).2).2)), ((a2.getD ((0 : Int) + q7).toNat zM).2))).bind fun y8 => (bif ((!(!(!y8))) || true) then (bif ((!(!(!y8))) || true) then (bif ((!(!(!y8))) || true) then (bif ((!(!(!y8))) || (decide (0 ≤ q7) && decide (q7 < (a2.length : Int)))) then (bif ((!(!(!y8))) || true) then ((bif (!(!y8)) then f273G K a1 ((((a2.getD ((0 : Int) + q7).toNat zM).1).1, (((a2.getD ((0 : Int) + q7).toNat zM).1).2).1, ((((a2.getD ((0 : Int) + q7).toNat zM).1).2).2)), ((a2.getD ((0 : Int) + q7).toNat zM).2)) else some zM)).bind fun y9 => (bif ((!(!(!y8))) || true) then (bif ((!(!(!y8))) || true) then (bif ((!(!(!y8))) || (decide (0 ≤ q7) && decide (q7 < (a2.length : Int)))) then (bif ((!(!(!y8))) || true) then (bif ((!(!(!y8))) || true) then (bif ((!(!(bif (!y8) then true else (!((y9.1.1 == ((a2.getD ((0 : Int) + q7).toNat zM).1).1) && ((y9.1.2.1 == (((a2.getD ((0 : Int) + q7).toNat zM).1).2).1) && ((y9.1.2.2.1 == ((((a2.getD ((0 : Int) + q7).toNat zM).1).2).2).1) && ((y9.1.2.2.2 == ((((a2.getD ((0 : Int) + q7).toNat zM).1).2).2).2) && ((y9.2.1 == ((a2.getD ((0 : Int) + q7).toNat zM).2).1) && (y9.2.2 == ((a2.getD ((0 : Int) + q7).toNat zM).2).2)))))))))) || true) then (bif ((!(!(bif (!y8) then true else (!((y9.1.1 == ((a2.getD ((0 : Int) + q7).toNat zM).1).1) && ((y9.1.2.1 == (((a2.getD ((0 : Int) + q7).toNat zM).1).2).1) && ((y9.1.2.2.1 == ((((a2.getD ((0 : Int) + q7).toNat zM).1).2).2).1) && ((y9.1.2.2.2 == ((((a2.getD ((0 : Int) + q7).toNat zM).1).2).2).2) && ((y9.2.1 == ((a2.getD ((0 : Int) + q7).toNat zM).2).1) && (y9.2.2 == ((a2.getD ((0 : Int) + q7).toNat zM).2).2)))))))))) || true) then (bif ((!(!(bif (!y8) then true else (!((y9.1.1 == ((a2.getD ((0 : Int) + q7).toNat zM).1).1) && ((y9.1.2.1 == (((a2.getD ((0 : Int) + q7).toNat zM).1).2).1) && ((y9.1.2.2.1 == ((((a2.getD ((0 : Int) + q7).toNat zM).1).2).2).1) && ((y9.1.2.2.2 == ((((a2.getD ((0 : Int) + q7).toNat zM).1).2).2).2) && ((y9.2.1 == ((a2.getD ((0 : Int) + q7).toNat zM).2).1) && (y9.2.2 == ((a2.getD ((0 : Int) + q7).toNat zM).2).2)))))))))) || true) then (bif ((!((!(bif (!y8) then true else (!((y9.1.1 == ((a2.getD ((0 : Int) + q7).toNat zM).1).1) && ((y9.1.2.1 == (((a2.getD ((0 : Int) + q7).toNat zM).1).2).1) && ((y9.1.2.2.1 == ((((a2.getD ((0 : Int) + q7).toNat zM).1).2).2).1) && ((y9.1.2.2.2 == ((((a2.getD ((0 : Int) + q7).toNat zM).1).2).2).2) && ((y9.2.1 == ((a2.getD ((0 : Int) + q7).toNat zM).2).1) && (y9.2.2 == ((a2.getD ((0 : Int) + q7).toNat zM).2).2))))))))) && (decide (q7 > (0 : Int))))) || true) then (bif ((!((!(bif (!y8) then true else (!((y9.1.1 == ((a2.getD ((0 : Int) + q7).toNat zM).1).1) && ((y9.1.2.1 == (((a2.getD ((0 : Int) + q7).toNat zM).1).2).1) && ((y9.1.2.2.1 == ((((a2.getD ((0 : Int) + q7).toNat zM).1).2).2).1) && ((y9.1.2.2.2 == ((((a2.getD ((0 : Int) + q7).toNat zM).1).2).2).2) && ((y9.2.1 == ((a2.getD ((0 : Int) + q7).toNat zM).2).1) && (y9.2.2 == ((a2.getD ((0 : Int) + q7).toNat zM).2).2))))))))) && (decide (q7 > (0 : Int))))) || true) then (bif ((!((!(bif (!y8) then true else (!((y9.1.1 == ((a2.getD ((0 : Int) + q7).toNat zM).1).1) && ((y9.1.2.1 == (((a2.getD ((0 : Int) + q7).toNat zM).1).2).1) && ((y9.1.2.2.1 == ((((a2.getD ((0 : Int) + q7).toNat zM).1).2).2).1) && ((y9.1.2.2.2 == ((((a2.getD ((0 : Int) + q7).toNat zM).1).2).2).2) && ((y9.2.1 == ((a2.getD ((0 : Int) + q7).toNat zM).2).1) && (y9.2.2 == ((a2.getD ((0 : Int) + q7).toNat zM).2).2))))))))) && (decide (q7 > (0 : Int))))) || true) then (bif ((!((!(bif (!y8) then true else (!((y9.1.1 == ((a2.getD ((0 : Int) + q7).toNat zM).1).1) && ((y9.1.2.1 == (((a2.getD ((0 : Int) + q7).toNat zM).1).2).1) && ((y9.1.2.2.1 == ((((a2.getD ((0 : Int) + q7).toNat zM).1).2).2).1) && ((y9.1.2.2.2 == ((((a2.getD ((0 : Int) + q7).toNat zM).1).2).2).2) && ((y9.2.1 == ((a2.getD ((0 : Int) + q7).toNat zM).2).1) && (y9.2.2 == ((a2.getD ((0 : Int) + q7).toNat zM).2).2))))))))) && (decide (q7 > (0 : Int))))) || (decide (0 ≤ (w (q7 - (1 : Int)))) && decide ((w (q7 - (1 : Int))) < (a2.length : Int)))) then (bif ((!((!(bif (!y8) then true else (!((y9.1.1 == ((a2.getD ((0 : Int) + q7).toNat zM).1).1) && ((y9.1.2.1 == (((a2.getD ((0 : Int) + q7).toNat zM).1).2).1) && ((y9.1.2.2.1 == ((((a2.getD ((0 : Int) + q7).toNat zM).1).2).2).1) && ((y9.1.2.2.2 == ((((a2.getD ((0 : Int) + q7).toNat zM).1).2).2).2) && ((y9.2.1 == ((a2.getD ((0 : Int) + q7).toNat zM).2).1) && (y9.2.2 == ((a2.getD ((0 : Int) + q7).toNat zM).2).2))))))))) && (decide (q7 > (0 : Int))))) || true) then (bif ((!((!(bif (!y8) then true else (!((y9.1.1 == ((a2.getD ((0 : Int) + q7).toNat zM).1).1) && ((y9.1.2.1 == (((a2.getD ((0 : Int) + q7).toNat zM).1).2).1) && ((y9.1.2.2.1 == ((((a2.getD ((0 : Int) + q7).toNat zM).1).2).2).1) && ((y9.1.2.2.2 == ((((a2.getD ((0 : Int) + q7).toNat zM).1).2).2).2) && ((y9.2.1 == ((a2.getD ((0 : Int) + q7).toNat zM).2).1) && (y9.2.2 == ((a2.getD ((0 : Int) + q7).toNat zM).2).2))))))))) && (decide (q7 > (0 : Int))))) || true) then (bif ((!((!(bif (!y8) then true else (!((y9.1.1 == ((a2.getD ((0 : Int) + q7).toNat zM).1).1) && ((y9.1.2.1 == (((a2.getD ((0 : Int) + q7).toNat zM).1).2).1) && ((y9.1.2.2.1 == ((((a2.getD ((0 : Int) + q7).toNat zM).1).2).2).1) && ((y9.1.2.2.2 == ((((a2.getD ((0 : Int) + q7).toNat zM).1).2).2).2) && ((y9.2.1 == ((a2.getD ((0 : Int) + q7).toNat zM).2).1) && (y9.2.2 == ((a2.getD ((0 : Int) + q7).toNat zM).2).2))))))))) && (decide (q7 > (0 : Int))))) || true) then (bif ((!((!(bif (!y8) then true else (!((y9.1.1 == ((a2.getD ((0 : Int) + q7).toNat zM).1).1) && ((y9.1.2.1 == (((a2.getD ((0 : Int) + q7).toNat zM).1).2).1) && ((y9.1.2.2.1 == ((((a2.getD ((0 : Int) + q7).toNat zM).1).2).2).1) && ((y9.1.2.2.2 == ((((a2.getD ((0 : Int) + q7).toNat zM).1).2).2).2) && ((y9.2.1 == ((a2.getD ((0 : Int) + q7).toNat zM).2).1) && (y9.2.2 == ((a2.getD ((0 : Int) + q7).toNat zM).2).2))))))))) && (decide (q7 > (0 : Int))))) || (decide (0 ≤ q7) && decide (q7 < (a2.length : Int)))) then (bif ((!((!(bif (!y8) then true else (!((y9.1.1 == ((a2.getD ((0 : Int) + q7).toNat zM).1).1) && ((y9.1.2.1 == (((a2.getD ((0 : Int) + q7).toNat zM).1).2).1) && ((y9.1.2.2.1 == ((((a2.getD ((0 : Int) + q7).toNat zM).1).2).2).1) && ((y9.1.2.2.2 == ((((a2.getD ((0 : Int) + q7).toNat zM).1).2).2).2) && ((y9.2.1 == ((a2.getD ((0 : Int) + q7).toNat zM).2).1) && (y9.2.2 == ((a2.getD ((0 : Int) + q7).toNat zM).2).2))))))))) && (decide (q7 > (0 : Int))))) || true) then ((bif ((!(bif (!y8) then true else (!((y9.1.1 == ((a2.getD ((0 : Int) + q7).toNat zM).1).1) && ((y9.1.2.1 == (((a2.getD ((0 : Int) + q7).toNat zM).1).2).1) && ((y9.1.2.2.1 == ((((a2.getD ((0 : Int) + q7).toNat zM).1).2).2).1) && ((y9.1.2.2.2 == ((((a2.getD ((0 : Int) + q7).toNat zM).1).2).2).2) && ((y9.2.1 == ((a2.getD ((0 : Int) + q7).toNat zM).2).1) && (y9.2.2 == ((a2.getD ((0 : Int) + q7).toNat zM).2).2))))))))) && (decide (q7 > (0 : Int)))) then f274G K ((((a2.getD ((0 : Int) + (w (q7 - (1 : Int)))).toNat zM).1).1, (((a2.getD ((0 : Int) + (w (q7 - (1 : Int)))).toNat zM).1).2).1, ((((a2.getD ((0 : Int) + (w (q7 - (1 : Int)))).toNat zM).1).2).2)), ((a2.getD ((0 : Int) + (w (q7 - (1 : Int)))).toNat zM).2)) ((((a2.getD ((0 : Int) + q7).toNat zM).1).1, (((a2.getD ((0 : Int) + q7).toNat zM).1).2).1, ((((a2.getD ((0 : Int) + q7).toNat zM).1).2).2)), ((a2.getD ((0 : Int) + q7).toNat zM).2)) else some false)).bind fun y10 => (bif ((!((!(bif (!y8) then true else (!((y9.1.1 == ((a2.getD ((0 : Int) + q7).toNat zM).1).1) && ((y9.1.2.1 == (((a2.getD ((0 : Int) + q7).toNat zM).1).2).1) && ((y9.1.2.2.1 == ((((a2.getD ((0 : Int) + q7).toNat zM).1).2).2).1) && ((y9.1.2.2.2 == ((((a2.getD ((0 : Int) + q7).toNat zM).1).2).2).2) && ((y9.2.1 == ((a2.getD ((0 : Int) + q7).toNat zM).2).1) && (y9.2.2 == ((a2.getD ((0 : Int) + q7).toNat zM).2).2))))))))) && (decide (q7 > (0 : Int))))) || true) then (bif ((!(!(bif (!y8) then true else (!((y9.1.1 == ((a2.getD ((0 : Int) + q7).toNat zM).1).1) && ((y9.1.2.1 == (((a2.getD ((0 : Int) + q7).toNat zM).1).2).1) && ((y9.1.2.2.1 == ((((a2.getD ((0 : Int) + q7).toNat zM).1).2).2).1) && ((y9.1.2.2.2 == ((((a2.getD ((0 : Int) + q7).toNat zM).1).2).2).2) && ((y9.2.1 == ((a2.getD ((0 : Int) + q7).toNat zM).2).1) && (y9.2.2 == ((a2.getD ((0 : Int) + q7).toNat zM).2).2)))))))))) || true) then (bif (bif (bif (!y8) then true else (!((y9.1.1 == ((a2.getD ((0 : Int) + q7).toNat zM).1).1) && ((y9.1.2.1 == (((a2.getD ((0 : Int) + q7).toNat zM).1).2).1) && ((y9.1.2.2.1 == ((((a2.getD ((0 : Int) + q7).toNat zM).1).2).2).1) && ((y9.1.2.2.2 == ((((a2.getD ((0 : Int) + q7).toNat zM).1).2).2).2) && ((y9.2.1 == ((a2.getD ((0 : Int) + q7).toNat zM).2).1) && (y9.2.2 == ((a2.getD ((0 : Int) + q7).toNat zM).2).2)))))))) then true else (bif (decide (q7 > (0 : Int))) then (!y10) else false)) then some false else L6 (w (q7 + (1 : Int)))) else none) else none) else none) else none) else none) else none) else none) else none) else none) else none) else none) else none) else none) else none) else none) else none) else none) else none) else none) else none) else none) else none) else none) else none) else none) else (f141G K).bind fun y11 => (f275G K a2 y11).bind fun y12 => (bif (!y12) then some false else I23 q7 y1 y12 (0 : Int)))
noncomputable def f148_l6 (K : Nat) (a0 : Int) (a1 : Int × Int × Int) (a2 : List tM) (y1 : Int) (n : Nat) (q7 : Int) : Option Bool :=
  iter (X := Int) (fun L x => (fun L6 => f148_b6 K a0 a1 a2 y1 (fun c0 c1 c2 d0 => f148_l23 K a0 a1 a2 c0 c1 c2 K d0) L6 x) (fun v0 => L v0)) n q7
noncomputable def f148_fr6 (a0 : Int) (a1 : Int × Int × Int) (a2 : List tM) (y1 : Int) (q7 : Int) : Fr := ⟨93, [(0, .v false [.int .i64 a0]), (1, .v true [.int .i64 a1.1, .int .i64 a1.2.1, .int .i64 a1.2.2]), (2, .v false [.row 0]), (4, .v false [.box 0 0]), (6, .v false [.bool false]), (7, .v false [.int .i64 q7]), (18, .v false [.bool (bif (y1 != (0 : Int)) then true else (decide ((a2.length : Int) > (768 : Int))))])], [some ⟨true, [.int .i64 a1.1, .int .i64 a1.2.1, .int .i64 a1.2.2]⟩], [some ⟨57, sM, a2, .ro⟩]⟩
noncomputable def f148_k6 (K : Nat) (a0 : Int) (a1 : Int × Int × Int) (a2 : List tM) (lr : LR Bool) : Ex → Fr → Option Bool :=
  contC (f148E K) 1 lr f148C [1, 1, 0, 1, 0] (finK (f148E K) Tryz.f148 [(.ro, sI), (.ro, sL), (.ro, (.list 57 sM))] [.bool] (a0, a1, a2, ()))
noncomputable def f148_k23 (K : Nat) (a0 : Int) (a1 : Int × Int × Int) (a2 : List tM) (lr : LR Bool) : Ex → Fr → Option Bool :=
  contC (f148E K) 1 lr f148C [1, 1, 1, 1, 0, 1, 0] (finK (f148E K) Tryz.f148 [(.ro, sI), (.ro, sL), (.ro, (.list 57 sM))] [.bool] (a0, a1, a2, ()))
noncomputable def f148_k25 (K : Nat) (a0 : Int) (a1 : Int × Int × Int) (a2 : List tM) (q7 : Int) (y1 : Int) (y12 : Bool) (F23 : Fr → Option Bool) (bq24 : Int) (lr : LR Bool) : Ex → Fr → Option Bool :=
  contC (f148E K) 1 lr (selC f148C [1, 1, 1, 1, 0, 1, 0, 0]) [1, 0, 0, 1, 0] (loopK 1 (f148_fr23 a0 a1 a2 q7 y1 y12 bq24) F23 (f148_k23 K a0 a1 a2 lr))
noncomputable def f148_g (K : Nat) (a0 : Int) (a1 : Int × Int × Int) (a2 : List tM) (I6 : Int → Int → Option Bool) : Option Bool :=
  (f215G K a0 a1).bind fun y1 => (bif ((!(!(y1 != (0 : Int)))) || true) then (bif ((!(!(y1 != (0 : Int)))) || true) then (bif ((!(!(y1 != (0 : Int)))) || true) then (bif (bif (y1 != (0 : Int)) then true else (decide ((a2.length : Int) > (768 : Int)))) then some false else I6 y1 (0 : Int)) else none) else none) else none)
noncomputable def f148G (K : Nat) (a0 : Int) (a1 : Int × Int × Int) (a2 : List tM) : Option Bool :=
  f148_g K a0 a1 a2 (fun c0 d0 => f148_l6 K a0 a1 a2 c0 K d0)
noncomputable def f148M (K : Nat) : Mdl := ⟨[(.ro, sI), (.ro, sL), (.ro, (.list 57 sM))], [.bool], fun x => f148G K x.1 x.2.1 x.2.2.1⟩
/-! spec.l06Code -/
noncomputable def f209E (K : Nat) : Env := ⟨[(215, f215M K)], tys, eqs, mts, K, [0, 1, 2, 4, 6, 7, 16], [], []⟩
noncomputable def f209G (K : Nat) (a0 : Int) (a1 : Int × Int × Int) (a2 : Bool) : Option Int :=
  (f215G K a0 a1).bind fun y1 => (bif ((!(y1 == (0 : Int))) || true) then (bif ((!(y1 == (0 : Int))) || true) then (bif (bif (y1 == (0 : Int)) then (!a2) else false) then some (2 : Int) else some y1) else none) else none)
noncomputable def f209M (K : Nat) : Mdl := ⟨[(.ro, sI), (.ro, sL), (.ro, .bool)], [sI], fun x => f209G K x.1 x.2.1 x.2.2.1⟩
/-! spec.l07Code -/
noncomputable def f181E (K : Nat) : Env := ⟨[(148, f148M K), (209, f209M K)], tys, eqs, mts, K, [0, 1, 2, 3, 5, 8], [], []⟩
noncomputable def f181G (K : Nat) (a0 : Int) (a1 : Int × Int × Int) (a2 : List tM) (a3 : Bool) : Option Int :=
  (bif ((!a3) || true) then (bif ((!a3) || true) then (bif ((!a3) || true) then ((bif a3 then f148G K a0 a1 a2 else some false)).bind fun y1 => (f209G K a0 a1 (bif a3 then y1 else false)).bind fun y2 => some y2 else none) else none) else none)
noncomputable def f181M (K : Nat) : Mdl := ⟨[(.ro, sI), (.ro, sL), (.ro, (.list 57 sM)), (.ro, .bool)], [sI], fun x => f181G K x.1 x.2.1 x.2.2.1 x.2.2.2.1⟩
/-! spec.l03Cells -/
noncomputable def f149C : Code := codeOf Tryz.f149
noncomputable def f149E (K : Nat) : Env := ⟨[], tys, eqs, mts, K, [0, 1, 2, 3, 4, 5, 10, 16], [], []⟩
noncomputable def f149_b9 (K : Nat) (a0 : Int × Int × Int) (q7 : Int) (L6 : Int → (List tV) → Option (List tV)) (L9 : Int → (List tV) → Option (List tV)) (q10 : Int) (q11 : List tV) : Option (List tV) :=
  (bif (decide (q10 < a0.2.2)) then (bif (Nat.ble (q11.length + [(q7, q10)].length) (lim 16)) then L9 (w (q10 + (1 : Int))) (q11 ++ [(q7, q10)]) else none) else L6 (w (q7 + (1 : Int))) q11)
noncomputable def f149_l9 (K : Nat) (a0 : Int × Int × Int) (q7 : Int) (L6 : Int → (List tV) → Option (List tV)) (n : Nat) (q10 : Int) (q11 : List tV) : Option (List tV) :=
  iter (X := Int × List tV) (fun L x => (fun L9 => f149_b9 K a0 q7 L6 L9 x.1 x.2) (fun v0 v1 => L (v0, v1))) n (q10, q11)
noncomputable def f149_fr9 (a0 : Int × Int × Int) (q7 : Int) (q10 : Int) (q11 : List tV) : Fr := ⟨26, [(0, .v true [.int .i64 a0.1, .int .i64 a0.2.1, .int .i64 a0.2.2]), (1, .v false [.box 0 0]), (2, .v false [.row 0]), (3, .v false [.row 1]), (4, .v false [.int .i64 q7]), (5, .v false [.int .i64 q10]), (10, .v false [.bool (decide (q7 < a0.1))])], [some ⟨true, [.int .i64 a0.1, .int .i64 a0.2.1, .int .i64 a0.2.2]⟩], [some ⟨55, sV, [], .own⟩, some ⟨55, sV, q11, .own⟩]⟩
noncomputable def f149_b6 (K : Nat) (a0 : Int × Int × Int) (I9 : Int → Int → (List tV) → Option (List tV)) (L6 : Int → (List tV) → Option (List tV)) (q7 : Int) (q8 : List tV) : Option (List tV) :=
  (bif (decide (q7 < a0.1)) then I9 q7 (0 : Int) q8 else some q8)
noncomputable def f149_l6 (K : Nat) (a0 : Int × Int × Int) (n : Nat) (q7 : Int) (q8 : List tV) : Option (List tV) :=
  iter (X := Int × List tV) (fun L x => (fun L6 => f149_b6 K a0 (fun c0 d0 d1 => f149_l9 K a0 c0 L6 K d0 d1) L6 x.1 x.2) (fun v0 v1 => L (v0, v1))) n (q7, q8)
noncomputable def f149_fr6 (a0 : Int × Int × Int) (q7 : Int) (q8 : List tV) : Fr := ⟨26, [(0, .v true [.int .i64 a0.1, .int .i64 a0.2.1, .int .i64 a0.2.2]), (1, .v false [.box 0 0]), (2, .v false [.row 0]), (3, .v false [.row 1]), (4, .v false [.int .i64 q7])], [some ⟨true, [.int .i64 a0.1, .int .i64 a0.2.1, .int .i64 a0.2.2]⟩], [some ⟨55, sV, [], .own⟩, some ⟨55, sV, q8, .own⟩]⟩
noncomputable def f149_k6 (K : Nat) (a0 : Int × Int × Int) (lr : LR (List tV)) : Ex → Fr → Option (List tV) :=
  contC (f149E K) 0 lr f149C [1, 1, 0, 1, 0] (finK (f149E K) Tryz.f149 [(.ro, sL)] [(.list 55 sV)] (a0, ()))
noncomputable def f149_k9 (K : Nat) (a0 : Int × Int × Int) (F6 : Fr → Option (List tV)) (bq7 : Int) (bq8 : List tV) (lr : LR (List tV)) : Ex → Fr → Option (List tV) :=
  contC (f149E K) 0 lr (selC f149C [1, 1, 0, 1, 0, 0]) [1, 0, 0, 1, 0] (loopK 0 (f149_fr6 a0 bq7 bq8) F6 (f149_k6 K a0 lr))
noncomputable def f149_g (K : Nat) (a0 : Int × Int × Int) (I6 : Int → (List tV) → Option (List tV)) : Option (List tV) :=
  I6 (0 : Int) []
noncomputable def f149G (K : Nat) (a0 : Int × Int × Int) : Option (List tV) :=
  f149_g K a0 (fun d0 d1 => f149_l6 K a0 K d0 d1)
noncomputable def f149M (K : Nat) : Mdl := ⟨[(.ro, sL)], [(.list 55 sV)], fun x => f149G K x.1⟩
/-! spec.l05Apply -/
noncomputable def f151E (K : Nat) : Env := ⟨[(277, f277M K), (278, f278M K)], tys, eqs, mts, K, [0, 1, 2, 3, 4], [], []⟩
noncomputable def f151G (K : Nat) (a0 : tA × Int × Int) (a1 : Int × Int) : Option tV :=
  (f278G K a0.1 a1).bind fun y1 => (f277G K y1 a0.2).bind fun y2 => some y2
noncomputable def f151M (K : Nat) : Mdl := ⟨[(.ro, sM), (.ro, sV)], [sV], fun x => f151G K x.1 x.2.1⟩
/-! spec.l07Move -/
noncomputable def f171E (K : Nat) : Env := ⟨[(151, f151M K), (250, f250M K)], tys, eqs, mts, K, [0, 1, 2, 3, 4, 5, 6], [], []⟩
noncomputable def f171G (K : Nat) (a0 : Int × Int × Int) (a1 : tA × Int × Int) (a2 : Int × Int) : Option tV :=
  (f151G K a1 a2).bind fun y1 => (f250G K a0 y1).bind fun y2 => some y2
noncomputable def f171M (K : Nat) : Mdl := ⟨[(.ro, sL), (.ro, sM), (.ro, sV)], [sV], fun x => f171G K x.1 x.2.1 x.2.2.1⟩
/-! spec.l01Insert -/
noncomputable def f236C : Code := codeOf Tryz.f236
noncomputable def f236E (K : Nat) : Env := ⟨[(320, f320M K)], tys, eqs, mts, K, [0, 1, 3, 4, 5, 17, 31], [], []⟩
noncomputable def f236_b3 (K : Nat) (a0 : List tV) (a1 : Int × Int) (L3 : Int → Option (List tV)) (q4 : Int) : Option (List tV) :=
  (bif ((!(decide (q4 < (a0.length : Int)))) || true) then (bif ((!(decide (q4 < (a0.length : Int)))) || true) then (bif ((!(decide (q4 < (a0.length : Int)))) || (decide (0 ≤ q4) && decide (q4 < (a0.length : Int)))) then (bif ((!(decide (q4 < (a0.length : Int)))) || true) then (bif ((!(decide (q4 < (a0.length : Int)))) || true) then ((bif (decide (q4 < (a0.length : Int))) then f320G K (a0.getD ((0 : Int) + q4).toNat ((0 : Int), (0 : Int))) a1 else some false)).bind fun y5 => (bif (bif (decide (q4 < (a0.length : Int))) then y5 else false) then L3 (w (q4 + (1 : Int))) else (bif ((!(decide (q4 < (a0.length : Int)))) || true) then (bif ((!(decide (q4 < (a0.length : Int)))) || true) then (bif ((!(decide (q4 < (a0.length : Int)))) || (decide (0 ≤ q4) && decide (q4 < (a0.length : Int)))) then (bif ((!(decide (q4 < (a0.length : Int)))) || true) then (bif ((!(decide (q4 < (a0.length : Int)))) || true) then (bif ((!(decide (q4 < (a0.length : Int)))) || true) then (bif (bif (decide (q4 < (a0.length : Int))) then (((a0.getD ((0 : Int) + q4).toNat ((0 : Int), (0 : Int))).1 == a1.1) && ((a0.getD ((0 : Int) + q4).toNat ((0 : Int), (0 : Int))).2 == a1.2)) else false) then some a0 else (bif (decide (0 ≤ (0 : Int)) && decide ((0 : Int) ≤ q4) && decide (q4 ≤ (a0.length : Int))) then (bif (Nat.ble (0 + ((a0.take ((0 : Int) + q4).toNat).drop 0).length) (lim 16)) then (bif (Nat.ble (([] ++ ((a0.take ((0 : Int) + q4).toNat).drop 0)).length + [a1].length) (lim 16)) then (bif (decide (0 ≤ q4) && decide (q4 ≤ (a0.length : Int)) && decide ((a0.length : Int) ≤ (a0.length : Int))) then (bif (Nat.ble ((([] ++ ((a0.take ((0 : Int) + q4).toNat).drop 0)) ++ [a1]).length + ((a0.take ((0 : Int) + (a0.length : Int)).toNat).drop ((0 : Int) + q4).toNat).length) (lim 16)) then some ((([] ++ ((a0.take ((0 : Int) + q4).toNat).drop 0)) ++ [a1]) ++ ((a0.take ((0 : Int) + (a0.length : Int)).toNat).drop ((0 : Int) + q4).toNat)) else none) else none) else none) else none) else none)) else none) else none) else none) else none) else none) else none)) else none) else none) else none) else none) else none)
noncomputable def f236_l3 (K : Nat) (a0 : List tV) (a1 : Int × Int) (n : Nat) (q4 : Int) : Option (List tV) :=
  iter (X := Int) (fun L x => (fun L3 => f236_b3 K a0 a1 L3 x) (fun v0 => L v0)) n q4
noncomputable def f236_fr3 (a0 : List tV) (a1 : Int × Int) (q4 : Int) : Fr := ⟨45, [(0, .v false [.row 0]), (1, .v true [.int .i64 a1.1, .int .i64 a1.2]), (3, .v false [.box 0 0]), (4, .v false [.row 1]), (5, .v false [.int .i64 q4])], [some ⟨true, [.int .i64 a1.1, .int .i64 a1.2]⟩], [some ⟨55, sV, a0, .own⟩, some ⟨55, sV, [], .own⟩]⟩
noncomputable def f236_k3 (K : Nat) (a0 : List tV) (a1 : Int × Int) (lr : LR (List tV)) : Ex → Fr → Option (List tV) :=
  contC (f236E K) 1 lr f236C [1, 1, 0, 0] (finK (f236E K) Tryz.f236 [(.mv, (.list 55 sV)), (.ro, sV)] [(.list 55 sV)] (a0, a1, ()))
noncomputable def f236_g (K : Nat) (a0 : List tV) (a1 : Int × Int) (I3 : Int → Option (List tV)) : Option (List tV) :=
  I3 (0 : Int)
noncomputable def f236G (K : Nat) (a0 : List tV) (a1 : Int × Int) : Option (List tV) :=
  f236_g K a0 a1 (fun d0 => f236_l3 K a0 a1 K d0)
noncomputable def f236M (K : Nat) : Mdl := ⟨[(.mv, (.list 55 sV)), (.ro, sV)], [(.list 55 sV)], fun x => f236G K x.1 x.2.1⟩
/-! spec.l07Orbit -/
noncomputable def f193C : Code := codeOf Tryz.f193
noncomputable def f193E (K : Nat) : Env := ⟨[(171, f171M K), (236, f236M K)], tys, eqs, mts, K, [0, 1, 2, 3, 5, 6, 7, 8, 13], [], []⟩
noncomputable def f193_b4 (K : Nat) (a0 : Int × Int × Int) (a1 : List tM) (a2 : Int × Int) (L4 : Int → (List tV) → Option (List tV)) (q5 : Int) (q6 : List tV) : Option (List tV) :=
  (bif (decide (q5 < (a1.length : Int))) then (bif (decide (0 ≤ q5) && decide (q5 < (a1.length : Int))) then (f171G K a0 ((((a1.getD ((0 : Int) + q5).toNat zM).1).1, (((a1.getD ((0 : Int) + q5).toNat zM).1).2).1, ((((a1.getD ((0 : Int) + q5).toNat zM).1).2).2)), ((a1.getD ((0 : Int) + q5).toNat zM).2)) a2).bind fun y7 => (f236G K q6 y7).bind fun y8 => L4 (w (q5 + (1 : Int))) y8 else none) else some q6)
noncomputable def f193_l4 (K : Nat) (a0 : Int × Int × Int) (a1 : List tM) (a2 : Int × Int) (n : Nat) (q5 : Int) (q6 : List tV) : Option (List tV) :=
  iter (X := Int × List tV) (fun L x => (fun L4 => f193_b4 K a0 a1 a2 L4 x.1 x.2) (fun v0 v1 => L (v0, v1))) n (q5, q6)
noncomputable def f193_fr4 (a0 : Int × Int × Int) (a1 : List tM) (a2 : Int × Int) (q5 : Int) (q6 : List tV) : Fr := ⟨26, [(0, .v true [.int .i64 a0.1, .int .i64 a0.2.1, .int .i64 a0.2.2]), (1, .v false [.row 0]), (2, .v true [.int .i64 a2.1, .int .i64 a2.2]), (3, .v false [.box 0 0]), (5, .v false [.box 1 0]), (6, .v false [.row 1]), (7, .v false [.row 2]), (8, .v false [.int .i64 q5])], [some ⟨true, [.int .i64 a0.1, .int .i64 a0.2.1, .int .i64 a0.2.2]⟩, some ⟨true, [.int .i64 a2.1, .int .i64 a2.2]⟩], [some ⟨57, sM, a1, .ro⟩, some ⟨55, sV, [], .own⟩, some ⟨55, sV, q6, .own⟩]⟩
noncomputable def f193_k4 (K : Nat) (a0 : Int × Int × Int) (a1 : List tM) (a2 : Int × Int) (lr : LR (List tV)) : Ex → Fr → Option (List tV) :=
  contC (f193E K) 1 lr f193C [1, 1, 0, 1, 0] (finK (f193E K) Tryz.f193 [(.ro, sL), (.ro, (.list 57 sM)), (.ro, sV)] [(.list 55 sV)] (a0, a1, a2, ()))
noncomputable def f193_g (K : Nat) (a0 : Int × Int × Int) (a1 : List tM) (a2 : Int × Int) (I4 : Int → (List tV) → Option (List tV)) : Option (List tV) :=
  I4 (0 : Int) []
noncomputable def f193G (K : Nat) (a0 : Int × Int × Int) (a1 : List tM) (a2 : Int × Int) : Option (List tV) :=
  f193_g K a0 a1 a2 (fun d0 d1 => f193_l4 K a0 a1 a2 K d0 d1)
noncomputable def f193M (K : Nat) : Mdl := ⟨[(.ro, sL), (.ro, (.list 57 sM)), (.ro, sV)], [(.list 55 sV)], fun x => f193G K x.1 x.2.1 x.2.2.1⟩
/-! spec.l07Orbits -/
noncomputable def f182C : Code := codeOf Tryz.f182
noncomputable def f182E (K : Nat) : Env := ⟨[(149, f149M K), (193, f193M K)], tys, eqs, mts, K, [0, 1, 2, 4, 5, 6, 7, 8, 15, 32], [], []⟩
noncomputable def f182_b4 (K : Nat) (a0 : Int × Int × Int) (a1 : List tM) (y1 : List tV) (L4 : Int → (List (List tV)) → Option (List (List tV))) (q5 : Int) (q6 : List (List tV)) : Option (List (List tV)) :=
  (bif (decide (q5 < (y1.length : Int))) then (bif (decide (0 ≤ q5) && decide (q5 < (y1.length : Int))) then (f193G K a0 a1 (y1.getD ((0 : Int) + q5).toNat ((0 : Int), (0 : Int)))).bind fun y7 => (bif (decide (0 ≤ (0 : Int)) && decide ((0 : Int) < (y7.length : Int))) then (bif (decide (0 ≤ q5) && decide (q5 < (y1.length : Int))) then (bif (((y7.getD ((0 : Int) + (0 : Int)).toNat ((0 : Int), (0 : Int))).1 == (y1.getD ((0 : Int) + q5).toNat ((0 : Int), (0 : Int))).1) && ((y7.getD ((0 : Int) + (0 : Int)).toNat ((0 : Int), (0 : Int))).2 == (y1.getD ((0 : Int) + q5).toNat ((0 : Int), (0 : Int))).2)) then (bif (Nat.ble (q6.length + [y7].length) (lim 24)) then L4 (w (q5 + (1 : Int))) (q6 ++ [y7]) else none) else L4 (w (q5 + (1 : Int))) q6) else none) else none) else none) else some q6)
noncomputable def f182_l4 (K : Nat) (a0 : Int × Int × Int) (a1 : List tM) (y1 : List tV) (n : Nat) (q5 : Int) (q6 : List (List tV)) : Option (List (List tV)) :=
  iter (X := Int × List (List tV)) (fun L x => (fun L4 => f182_b4 K a0 a1 y1 L4 x.1 x.2) (fun v0 v1 => L (v0, v1))) n (q5, q6)
noncomputable def f182_fr4 (a0 : Int × Int × Int) (a1 : List tM) (y1 : List tV) (q5 : Int) (q6 : List (List tV)) : Fr := ⟨38, [(0, .v true [.int .i64 a0.1, .int .i64 a0.2.1, .int .i64 a0.2.2]), (1, .v false [.row 0]), (2, .v false [.box 0 0]), (4, .v false [.row 1]), (5, .v false [.row 2]), (6, .v false [.row 3]), (7, .v false [.int .i64 q5])], [some ⟨true, [.int .i64 a0.1, .int .i64 a0.2.1, .int .i64 a0.2.2]⟩], [some ⟨57, sM, a1, .ro⟩, some ⟨58, (.list 55 sV), [], .own⟩, some ⟨55, sV, y1, .own⟩, some ⟨58, (.list 55 sV), q6, .own⟩]⟩
noncomputable def f182_k4 (K : Nat) (a0 : Int × Int × Int) (a1 : List tM) (lr : LR (List (List tV))) : Ex → Fr → Option (List (List tV)) :=
  contC (f182E K) 1 lr f182C [1, 1, 1, 0, 1, 0] (finK (f182E K) Tryz.f182 [(.ro, sL), (.ro, (.list 57 sM))] [(.list 58 (.list 55 sV))] (a0, a1, ()))
noncomputable def f182_g (K : Nat) (a0 : Int × Int × Int) (a1 : List tM) (I4 : (List tV) → Int → (List (List tV)) → Option (List (List tV))) : Option (List (List tV)) :=
  (f149G K a0).bind fun y1 => I4 y1 (0 : Int) []
noncomputable def f182G (K : Nat) (a0 : Int × Int × Int) (a1 : List tM) : Option (List (List tV)) :=
  f182_g K a0 a1 (fun c0 d0 d1 => f182_l4 K a0 a1 c0 K d0 d1)
noncomputable def f182M (K : Nat) : Mdl := ⟨[(.ro, sL), (.ro, (.list 57 sM))], [(.list 58 (.list 55 sV))], fun x => f182G K x.1 x.2.1⟩
/-! spec.l23Free -/
noncomputable def f234C : Code := codeOf Tryz.f234
noncomputable def f234E (K : Nat) : Env := ⟨[(181, f181M K), (182, f182M K)], tys, eqs, mts, K, [0, 1, 2, 4, 6, 7, 8, 9, 10, 16, 24, 34, 37], [], []⟩
noncomputable def f234_b4 (K : Nat) (a0 : Int) (a1 : Int × Int × Int) (a2 : List tM) (y1 : Int) (y2 : List (List tV)) (L4 : Int → Option ((List (List tV)) × Int)) (q5 : Int) : Option ((List (List tV)) × Int) :=
  (bif (decide (q5 < (y2.length : Int))) then (bif (decide (0 ≤ q5) && decide (q5 < (y2.length : Int))) then (bif (decide (((y2.getD ((0 : Int) + q5).toNat []).length : Int) < (a2.length : Int))) then some ([], (5 : Int)) else L4 (w (q5 + (1 : Int)))) else none) else (bif (decide ((y2.length : Int) > (16 : Int))) then some ([], (4 : Int)) else some (y2, (0 : Int))))
noncomputable def f234_l4 (K : Nat) (a0 : Int) (a1 : Int × Int × Int) (a2 : List tM) (y1 : Int) (y2 : List (List tV)) (n : Nat) (q5 : Int) : Option ((List (List tV)) × Int) :=
  iter (X := Int) (fun L x => (fun L4 => f234_b4 K a0 a1 a2 y1 y2 L4 x) (fun v0 => L v0)) n q5
noncomputable def f234_fr4 (a0 : Int) (a1 : Int × Int × Int) (a2 : List tM) (y1 : Int) (y2 : List (List tV)) (q5 : Int) : Fr := ⟨39, [(0, .v false [.int .i64 a0]), (1, .v true [.int .i64 a1.1, .int .i64 a1.2.1, .int .i64 a1.2.2]), (2, .v false [.row 0]), (4, .v false [.box 0 0]), (6, .v false [.row 1]), (7, .v false [.int .i64 (0 : Int)]), (8, .v false [.int .i64 y1]), (9, .v false [.row 2]), (10, .v false [.int .i64 q5]), (16, .v false [.bool (y1 != (0 : Int))])], [some ⟨true, [.int .i64 a1.1, .int .i64 a1.2.1, .int .i64 a1.2.2]⟩], [some ⟨57, sM, a2, .ro⟩, some ⟨58, (.list 55 sV), [], .own⟩, some ⟨58, (.list 55 sV), y2, .own⟩]⟩
noncomputable def f234_k4 (K : Nat) (a0 : Int) (a1 : Int × Int × Int) (a2 : List tM) (lr : LR ((List (List tV)) × Int)) : Ex → Fr → Option ((List (List tV)) × Int) :=
  contC (f234E K) 1 lr f234C [1, 1, 1, 1, 0, 1, 0] (finK (f234E K) Tryz.f234 [(.ro, sI), (.ro, sL), (.ro, (.list 57 sM))] [(.list 58 (.list 55 sV)), sI] (a0, a1, a2, ()))
noncomputable def f234_g (K : Nat) (a0 : Int) (a1 : Int × Int × Int) (a2 : List tM) (I4 : Int → (List (List tV)) → Int → Option ((List (List tV)) × Int)) : Option ((List (List tV)) × Int) :=
  (f181G K a0 a1 a2 true).bind fun y1 => (bif (y1 != (0 : Int)) then some ([], y1) else (f182G K a1 a2).bind fun y2 => I4 y1 y2 (0 : Int))
noncomputable def f234G (K : Nat) (a0 : Int) (a1 : Int × Int × Int) (a2 : List tM) : Option ((List (List tV)) × Int) :=
  f234_g K a0 a1 a2 (fun c0 c1 d0 => f234_l4 K a0 a1 a2 c0 c1 K d0)
noncomputable def f234M (K : Nat) : Mdl := ⟨[(.ro, sI), (.ro, sL), (.ro, (.list 57 sM))], [(.list 58 (.list 55 sV)), sI], fun x => f234G K x.1 x.2.1 x.2.2.1⟩
/-! spec.l03Number -/
noncomputable def f150E (K : Nat) : Env := ⟨[(250, f250M K)], tys, eqs, mts, K, [0, 1, 2, 3, 4], [], []⟩
noncomputable def f150G (K : Nat) (a0 : Int × Int × Int) (a1 : Int × Int) : Option Int :=
  (f250G K a0 a1).bind fun y1 => some (w ((w (y1.1 * a0.2.2)) + y1.2))
noncomputable def f150M (K : Nat) : Mdl := ⟨[(.ro, sL), (.ro, sV)], [sI], fun x => f150G K x.1 x.2.1⟩
end Go.Proofs.YtniidcalfhhciaaGreat.X
