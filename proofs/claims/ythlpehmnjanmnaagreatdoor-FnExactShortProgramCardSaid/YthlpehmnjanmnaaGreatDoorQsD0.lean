/- Functions of the program as plain Lean functions, and that the program does what they say. Printed by gen.py. -/
import Derived.Test.YthlpehmnjanmnaaGreatDoorQyXLoop
import Derived.Test.YthlpehmnjanmnaaGreatDoorQyXLib
import Derived.Test.YthlpehmnjanmnaaGreatDoorQyXStr
import Derived.Test.YthlpehmnjanmnaaGreatDoorProg
namespace Go.Proofs.YthlpehmnjanmnaaGreatDoor.X
open Go
set_option maxRecDepth 100000
attribute [local instance] cwD
set_option linter.unusedVariables false
abbrev tM : Type := ((Int × Int × Int × Int) × Int × Int)
abbrev tA : Type := (Int × Int × Int × Int)
abbrev tL : Type := (Int × Int × Int)
abbrev tV : Type := (Int × Int)
abbrev sM : Sh := (.cons (.cons (.int .i64) (.cons (.int .i64) (.cons (.int .i64) (.int .i64)))) (.cons (.int .i64) (.int .i64)))
abbrev sA : Sh := (.cons (.int .i64) (.cons (.int .i64) (.cons (.int .i64) (.int .i64))))
abbrev sL : Sh := (.cons (.int .i64) (.cons (.int .i64) (.int .i64)))
abbrev sV : Sh := (.cons (.int .i64) (.int .i64))
abbrev sI : Sh := (.int .i64)
abbrev zM : tM := (((0 : Int), ((0 : Int), ((0 : Int), (0 : Int)))), ((0 : Int), (0 : Int)))
abbrev zA : tA := ((0 : Int), ((0 : Int), ((0 : Int), (0 : Int))))
noncomputable section
def tys : List (Nat × Ty) := [(2, .sc sI), (3, .sc sI), (4, .sc .bool), (5, .sc (.int .u8)), (9, .sc .str), (23, .st sL [(0, 1), (1, 1), (2, 1)]), (24, .sl 2 sI 8), (26, .st (.cons sI (.cons sL (.list 2 sI))) [(0, 1), (1, 3), (4, 1)]), (30, .st sL [(0, 1), (1, 1), (2, 1)]), (32, .st (.cons sI (.cons sL (.list 2 sI))) [(0, 1), (1, 3), (4, 1)]), (39, .sl 47 sM 48), (43, .st sA [(0, 1), (1, 1), (2, 1), (3, 1)]), (45, .st sV [(0, 1), (1, 1)]), (47, .st sM [(0, 4), (4, 2)]), (52, .sl 55 (.list 45 sV) 24), (55, .sl 45 sV 16), (70, .sl 43 sA 32), (116, .sl 5 (.int .u8) 1), (126, .sc (.int .u64)), (143, .sl 9 .str 16)]
def eqs : List (Nat × List Sh) := [(30, [sI, sI, sI]), (43, [sI, sI, sI, sI]), (45, [sI, sI]), (47, [sI, sI, sI, sI, sI, sI])]
def mts : List (Nat × MTy) := [(92, ⟨47, 4, sM, .bool⟩)]
theorem tab_ok : tabB Tryz.prog tys eqs mts = true := by kernel_rfl
theorem mixed_ok : Tryz.prog.follows .mixedOrders = true := by kernel_rfl
def eE (K : Nat) (l : List (Nat × Mdl)) (k : List Nat) : Env := ⟨l, tys, eqs, mts, K, k, [], [], [], [], [], [], false⟩
abbrev rM (E : Env) (f : Func) (m : Mdl) (x : AT m.ps) := runF E f m.ps m.rs x
abbrev fM (E : Env) (f : Func) (m : Mdl) (x : AT m.ps) := finK E f m.ps m.rs x
theorem loop_o {X R : Type} {E : Env} {n0 : Nat} {S : Code} {fr0 : Fr} {k : Ex → Fr → Option R} (frame : X → Fr) {body : (X → Option R) → X → Option R} (h : ∀ (L : Fr → Option R) x, execG E n0 (realL E n0) S (frame x) (loopK n0 fr0 L k) = body (fun x => L (frame x)) x) (n : Nat) (x : X) : loopN (exec E n0 S) n0 fr0 n (frame x) k = iter body n x :=
  loopN_iter (fun L x => (exec_G E n0 S _ _).trans (h L x)) n x
def jI (n : Int) : Lf := .int .i64 n
def jV (v : Int × Int) : List Lf := [jI v.1, jI v.2]
def jL (l : Int × Int × Int) : List Lf := [jI l.1, jI l.2.1, jI l.2.2]
def jA (m : Int × Int × Int × Int) : List Lf := [jI m.1, jI m.2.1, jI m.2.2.1, jI m.2.2.2]
def jM (m : tA × Int × Int) : List Lf := [jI m.1.1, jI m.1.2.1, jI m.1.2.2.1, jI m.1.2.2.2, jI m.2.1, jI m.2.2]
def f22C : Code := codeOf Tryz.f22
def f22_fr2 (a0 : List Int) (q3 : Int) (q4 : List Int) : Fr := ⟨22, [(0, .v false [.row 0]), (2, .v false [.row 1]), (3, .v false [.row 2]), (4, .v false [jI q3])], [], [some ⟨2, sI, a0, .ro⟩, some ⟨2, sI, [], .own⟩, some ⟨2, sI, q4, .own⟩]⟩
def f35C : Code := codeOf Tryz.f35
def f35_fr3 (a0 : List Int) (a1 a2 a3 q4 : Int) : Fr := ⟨28, [(0, .v false [.row 0]), (1, .v false [jI a1]), (2, .v false [jI a2]), (3, .v false [jI a3]), (8, .v false [.bool false]), (9, .v false [jI q4])], [], [some ⟨2, sI, a0, .ro⟩]⟩
def f39C : Code := codeOf Tryz.f39
def f39_fr9 (a0 : Int × Int × Int) (q7 q10 : Int) (q11 : List tV) : Fr := ⟨26, [(0, .v true (jL a0)), (1, .v false [.box 0 0]), (2, .v false [.row 0]), (3, .v false [.row 1]), (4, .v false [jI q7]), (5, .v false [jI q10]), (10, .v false [.bool (decide (q7 < a0.1))])], [some ⟨true, (jL a0)⟩], [some ⟨45, sV, [], .own⟩, some ⟨45, sV, q11, .own⟩]⟩
def f39_fr6 (a0 : Int × Int × Int) (q7 : Int) (q8 : List tV) : Fr := ⟨26, [(0, .v true (jL a0)), (1, .v false [.box 0 0]), (2, .v false [.row 0]), (3, .v false [.row 1]), (4, .v false [jI q7])], [some ⟨true, (jL a0)⟩], [some ⟨45, sV, [], .own⟩, some ⟨45, sV, q8, .own⟩]⟩
def f40C : Code := codeOf Tryz.f40
def f40_fr6 (a0 : Int × tL × List Int) (a1 : tA × Int × Int) (y1 : List tV) (q7 : Int) : Fr := ⟨31, [(0, .v true [jI a0.1, jI a0.2.1.1, jI a0.2.1.2.1, jI a0.2.1.2.2, .row 0]), (1, .v true (jM a1)), (2, .v false [.box 0 0]), (3, .v false [.box 1 0]), (4, .v false [.bool false]), (5, .v false [.row 1]), (6, .v false [jI q7])], [some ⟨true, [jI a0.1, jI a0.2.1.1, jI a0.2.1.2.1, jI a0.2.1.2.2, .row 0]⟩, some ⟨true, (jM a1)⟩], [some ⟨2, sI, a0.2.2, .ro⟩, some ⟨45, sV, y1, .own⟩]⟩
def f81C : Code := codeOf Tryz.f81
def f81_fr15 (a0 : List tV) (q11 q12 q16 q17 q18 q19 : Int) : Fr := ⟨74, [(0, .v false [.row 0]), (2, .v false [.box 0 0]), (3, .v false [.box 1 0]), (4, .v false [jI q11]), (5, .v false [jI q12]), (6, .v false [.box 2 0]), (13, .v false [.bool (decide (q12 < (a0.length : Int)))])], [some ⟨true, [jI (0 : Int), jI (0 : Int), jI (0 : Int)]⟩, some ⟨true, [jI q16, jI q17]⟩, some ⟨true, [jI q18, jI q19]⟩], [some ⟨45, sV, a0, .ro⟩]⟩
def f81_fr10 (a0 : List tV) (q11 q12 q13 q14 : Int) : Fr := ⟨74, [(0, .v false [.row 0]), (2, .v false [.box 0 0]), (3, .v false [.box 1 0]), (4, .v false [jI q11]), (5, .v false [jI q12])], [some ⟨true, [jI (0 : Int), jI (0 : Int), jI (0 : Int)]⟩, some ⟨true, [jI q13, jI q14]⟩], [some ⟨45, sV, a0, .ro⟩]⟩
def f37C : Code := codeOf Tryz.f37
def f37_fr6 (a0 : Int × tL × List Int) (y1 : List tV) (q7 : Int) (q8 : List tV) : Fr := ⟨35, [(0, .v true [jI a0.1, jI a0.2.1.1, jI a0.2.1.2.1, jI a0.2.1.2.2, .row 0]), (1, .v false [.box 0 0]), (2, .v false [.box 1 0]), (3, .v false [.row 1]), (4, .v false [.row 2]), (5, .v false [jI q7])], [some ⟨true, [jI a0.1, jI a0.2.1.1, jI a0.2.1.2.1, jI a0.2.1.2.2, .row 0]⟩, some ⟨true, [jI (0 : Int), jI (0 : Int), jI (0 : Int)]⟩], [some ⟨2, sI, a0.2.2, .ro⟩, some ⟨45, sV, y1, .own⟩, some ⟨45, sV, q8, .own⟩]⟩
def f36C : Code := codeOf Tryz.f36
def f36_fr4 (a0 : Int × tL × List Int) (a1 : Int × Int × Int) (y1 : List tV) (q5 : Int) (q6 : List Int) : Fr := ⟨33, [(0, .v true [jI a0.1, jI a0.2.1.1, jI a0.2.1.2.1, jI a0.2.1.2.2, .row 0]), (1, .v true (jL a1)), (2, .v false [.box 0 0]), (3, .v false [.box 1 0]), (4, .v false [.box 2 0]), (5, .v false [.row 1]), (6, .v false [.box 3 0]), (7, .v false [jI q5])], [some ⟨true, [jI a0.1, jI a0.2.1.1, jI a0.2.1.2.1, jI a0.2.1.2.2, .row 0]⟩, some ⟨true, (jL a1)⟩, some ⟨true, [jI (0 : Int), jI (0 : Int), jI (0 : Int), jI (0 : Int), .row 2]⟩, some ⟨true, [jI a0.1, jI a1.1, jI a1.2.1, jI a1.2.2, .row 3]⟩], [some ⟨2, sI, a0.2.2, .ro⟩, some ⟨45, sV, y1, .own⟩, some ⟨2, sI, [], .own⟩, some ⟨2, sI, q6, .own⟩]⟩
def f82C : Code := codeOf Tryz.f82
def f82_fr3 (a0 q4 : Int) (q5 : List tA) : Fr := ⟨34, [(0, .v false [jI a0]), (2, .v false [.row 0]), (3, .v false [.row 1]), (4, .v false [jI q4])], [], [some ⟨43, sA, [], .own⟩, some ⟨43, sA, q5, .own⟩]⟩
def f38C : Code := codeOf Tryz.f38
def f38_fr4 (a0 : Int) (a1 : Int × Int × Int) (y1 : List tA) (q5 : Int) (q6 : List tA) : Fr := ⟨33, [(0, .v false [jI a0]), (1, .v true (jL a1)), (3, .v false [.box 0 0]), (4, .v false [.row 0]), (5, .v false [.row 1]), (6, .v false [.row 2]), (7, .v false [jI q5])], [some ⟨true, (jL a1)⟩], [some ⟨43, sA, [], .own⟩, some ⟨43, sA, y1, .own⟩, some ⟨43, sA, q6, .own⟩]⟩
def f12C : Code := codeOf Tryz.f12
def f12_fr13 (a0 : Int × tL × List Int) (q11 : Int) (y1 : List tA) (y2 : List tV) (q14 : Int) (q15 : List tM) : Fr := ⟨47, [(0, .v true [jI a0.1, jI a0.2.1.1, jI a0.2.1.2.1, jI a0.2.1.2.2, .row 0]), (1, .v false [.box 0 0]), (2, .v false [.row 1]), (3, .v false [.row 2]), (4, .v false [.row 3]), (5, .v false [.row 4]), (6, .v false [jI q11]), (7, .v false [jI q14]), (21, .v false [.bool (decide (q11 < (y1.length : Int)))])], [some ⟨true, [jI a0.1, jI a0.2.1.1, jI a0.2.1.2.1, jI a0.2.1.2.2, .row 0]⟩], [some ⟨2, sI, a0.2.2, .ro⟩, some ⟨47, sM, [], .own⟩, some ⟨43, sA, y1, .own⟩, some ⟨45, sV, y2, .own⟩, some ⟨47, sM, q15, .own⟩]⟩
def f12_fr10 (a0 : Int × tL × List Int) (y1 : List tA) (y2 : List tV) (q11 : Int) (q12 : List tM) : Fr := ⟨47, [(0, .v true [jI a0.1, jI a0.2.1.1, jI a0.2.1.2.1, jI a0.2.1.2.2, .row 0]), (1, .v false [.box 0 0]), (2, .v false [.row 1]), (3, .v false [.row 2]), (4, .v false [.row 3]), (5, .v false [.row 4]), (6, .v false [jI q11])], [some ⟨true, [jI a0.1, jI a0.2.1.1, jI a0.2.1.2.1, jI a0.2.1.2.2, .row 0]⟩], [some ⟨2, sI, a0.2.2, .ro⟩, some ⟨47, sM, [], .own⟩, some ⟨43, sA, y1, .own⟩, some ⟨45, sV, y2, .own⟩, some ⟨47, sM, q12, .own⟩]⟩
def f85C : Code := codeOf Tryz.f85
def f85_fr3 (a0 : List Int) (a1 q4 : ByteArray) (q5 : Int) : Fr := ⟨26, [(0, .v false [.row 0]), (1, .v false [.str a1]), (4, .v false [.str ByteArray.empty]), (5, .v false [.str q4]), (6, .v false [jI q5])], [], [some ⟨2, sI, a0, .ro⟩]⟩
def f162C : Code := codeOf Tryz.f162
def f162_fr2 (a0 a1 : List Int) (q3 : Int) : Fr := ⟨41, [(0, .v false [.row 0]), (1, .v false [.row 1]), (4, .v false [.bool false]), (5, .v false [jI q3])], [], [some ⟨2, sI, a0, .ro⟩, some ⟨2, sI, a1, .ro⟩]⟩
def f43C : Code := codeOf Tryz.f43
def f43_fr6 (a0 : List tM) (a1 : tA × Int × Int) (q7 q8 : Int) : Fr := ⟨27, [(0, .v false [.row 0]), (1, .v true (jM a1)), (3, .v false [.box 0 0]), (4, .v false [jI (0 : Int)]), (5, .v false [jI q7]), (6, .v false [jI q8])], [some ⟨true, (jM a1)⟩], [some ⟨47, sM, a0, .ro⟩]⟩
def f16C : Code := codeOf Tryz.f16
def f16_fr21 (a0 : Int × Int × Int) (a1 : List tM) (q18 : Int) (q20 : List tM) (q22 : Int) (q23 q24 : List tM) : Fr := ⟨49, [(0, .v true (jL a0)), (1, .v false [.row 0]), (2, .v false [.box 0 0]), (4, .v false [.row 1]), (5, .v false [.row 2]), (6, .v false [.row 3]), (7, .v false [jI q18]), (8, .v false [jI q22]), (17, .v false [.bool (decide (q18 < (q20.length : Int)))])], [some ⟨true, (jL a0)⟩], [some ⟨47, sM, a1, .ro⟩, some ⟨47, sM, [], .own⟩, some ⟨47, sM, q23, .own⟩, some ⟨47, sM, q24, .own⟩]⟩
def f16_fr17 (a0 : Int × Int × Int) (a1 : List tM) (q18 : Int) (q19 q20 : List tM) : Fr := ⟨49, [(0, .v true (jL a0)), (1, .v false [.row 0]), (2, .v false [.box 0 0]), (4, .v false [.row 1]), (5, .v false [.row 2]), (6, .v false [.row 3]), (7, .v false [jI q18])], [some ⟨true, (jL a0)⟩], [some ⟨47, sM, a1, .ro⟩, some ⟨47, sM, [], .own⟩, some ⟨47, sM, q19, .own⟩, some ⟨47, sM, q20, .own⟩]⟩
def f133C : Code := codeOf Tryz.f133
def f133_fr6 (a0 : Int × Int × Int × Int) (q7 q8 q9 q10 q11 : Int) : Fr := ⟨20, [(0, .v true (jA a0)), (1, .v false [.box 0 0]), (2, .v false [jI (0 : Int)]), (3, .v false [.box 1 0]), (4, .v false [jI q7])], [some ⟨true, (jA a0)⟩, some ⟨true, [jI q8, jI q9, jI q10, jI q11]⟩], []⟩
def f96C : Code := codeOf Tryz.f96
def f96_fr3 (a0 : List tV) (a1 : Int × Int) (q4 : Int) : Fr := ⟨45, [(0, .v false [.row 0]), (1, .v true (jV a1)), (3, .v false [.box 0 0]), (4, .v false [.row 1]), (5, .v false [jI q4])], [some ⟨true, (jV a1)⟩], [some ⟨45, sV, a0, .own⟩, some ⟨45, sV, [], .own⟩]⟩
def f50C : Code := codeOf Tryz.f50
def f50_fr4 (a0 : Int × Int × Int) (a1 : List tM) (a2 : Int × Int) (q5 : Int) (q6 : List tV) : Fr := ⟨26, [(0, .v true (jL a0)), (1, .v false [.row 0]), (2, .v true (jV a2)), (3, .v false [.box 0 0]), (5, .v false [.box 1 0]), (6, .v false [.row 1]), (7, .v false [.row 2]), (8, .v false [jI q5])], [some ⟨true, (jL a0)⟩, some ⟨true, (jV a2)⟩], [some ⟨47, sM, a1, .ro⟩, some ⟨45, sV, [], .own⟩, some ⟨45, sV, q6, .own⟩]⟩
def f18C : Code := codeOf Tryz.f18
def f18_fr4 (a0 : Int × Int × Int) (a1 : List tM) (y1 : List tV) (q5 : Int) (q6 : List (List tV)) : Fr := ⟨38, [(0, .v true (jL a0)), (1, .v false [.row 0]), (2, .v false [.box 0 0]), (4, .v false [.row 1]), (5, .v false [.row 2]), (6, .v false [.row 3]), (7, .v false [jI q5])], [some ⟨true, (jL a0)⟩], [some ⟨47, sM, a1, .ro⟩, some ⟨55, (.list 45 sV), [], .own⟩, some ⟨45, sV, y1, .own⟩, some ⟨55, (.list 45 sV), q6, .own⟩]⟩
def f5C : Code := codeOf Tryz.f5
def f5_fr22 (a0 : Int × tL × List Int) (q12 : Int) (q13 q14 : List tM) (y1 : Bool) (y2 : Int × tL × List Int) (y3 : List tM) (y18 : List (List tV)) (q23 : ByteArray) (q24 q25 : Int) : Fr := ⟨99, [(0, .v true [jI a0.1, jI a0.2.1.1, jI a0.2.1.2.1, jI a0.2.1.2.2, .row 0]), (1, .v false [.box 0 0]), (2, .v false [.str ByteArray.empty]), (3, .v false [jI (0 : Int)]), (4, .v false [.box 1 0]), (5, .v false [.row 1]), (6, .v false [.str q23]), (7, .v false [.row 2]), (8, .v false [.row 3]), (9, .v false [jI q12]), (10, .v false [.row 4]), (11, .v false [jI q24]), (12, .v false [jI q25]), (16, .v false [.bool (!y1)]), (29, .v false [.bool (decide (q12 < (y3.length : Int)))])], [some ⟨true, [jI a0.1, jI a0.2.1.1, jI a0.2.1.2.1, jI a0.2.1.2.2, .row 0]⟩, some ⟨true, [jI y2.1, jI y2.2.1.1, jI y2.2.1.2.1, jI y2.2.1.2.2, .row 5]⟩], [some ⟨2, sI, a0.2.2, .ro⟩, some ⟨47, sM, y3, .own⟩, some ⟨47, sM, q13, .own⟩, some ⟨47, sM, q14, .own⟩, some ⟨55, (.list 45 sV), y18, .own⟩, some ⟨2, sI, y2.2.2, .own⟩]⟩
def f5_fr10 (a0 : Int × tL × List Int) (y1 : Bool) (y2 : Int × tL × List Int) (y3 : List tM) (q11 : ByteArray) (q12 : Int) (q13 q14 : List tM) : Fr := ⟨99, [(0, .v true [jI a0.1, jI a0.2.1.1, jI a0.2.1.2.1, jI a0.2.1.2.2, .row 0]), (1, .v false [.box 0 0]), (2, .v false [.str ByteArray.empty]), (3, .v false [jI (0 : Int)]), (4, .v false [.box 1 0]), (5, .v false [.row 1]), (6, .v false [.str q11]), (7, .v false [.row 2]), (8, .v false [.row 3]), (9, .v false [jI q12]), (16, .v false [.bool (!y1)])], [some ⟨true, [jI a0.1, jI a0.2.1.1, jI a0.2.1.2.1, jI a0.2.1.2.2, .row 0]⟩, some ⟨true, [jI y2.1, jI y2.2.1.1, jI y2.2.1.2.1, jI y2.2.1.2.2, .row 4]⟩], [some ⟨2, sI, a0.2.2, .ro⟩, some ⟨47, sM, y3, .own⟩, some ⟨47, sM, q13, .own⟩, some ⟨47, sM, q14, .own⟩, some ⟨2, sI, y2.2.2, .own⟩]⟩
def f134C : Code := codeOf Tryz.f134
def f134_fr3 (a0 : List Int) (a1 : (Int → Option Bool)) (q4 : Int) : Fr := ⟨19, [(0, .v false [.row 0]), (1, .v false [.fv1 sI .bool a1]), (4, .v false [jI (0 : Int)]), (7, .v false [jI (a0.length : Int)]), (8, .v false [jI q4])], [], [some ⟨2, sI, a0, .ro⟩]⟩
def f66C : Code := codeOf Tryz.f66
def f66_fr9 (a0 : Int × Int × Int) (q7 q10 : Int) (q11 : List tV) : Fr := ⟨26, [(0, .v true (jL a0)), (1, .v false [.box 0 0]), (2, .v false [.row 0]), (3, .v false [.row 1]), (4, .v false [jI q7]), (8, .v false [jI a0.1]), (9, .v false [jI q7]), (10, .v false [.bool (decide (q7 < a0.1))]), (13, .v false [jI a0.2.2]), (14, .v false [jI q10])], [some ⟨true, (jL a0)⟩], [some ⟨45, sV, [], .own⟩, some ⟨45, sV, q11, .own⟩]⟩
def f66_fr6 (a0 : Int × Int × Int) (q7 : Int) (q8 : List tV) : Fr := ⟨26, [(0, .v true (jL a0)), (1, .v false [.box 0 0]), (2, .v false [.row 0]), (3, .v false [.row 1]), (8, .v false [jI a0.1]), (9, .v false [jI q7])], [some ⟨true, (jL a0)⟩], [some ⟨45, sV, [], .own⟩, some ⟨45, sV, q8, .own⟩]⟩
def f67C : Code := codeOf Tryz.f67
def f67_fr5 (a0 : Int × tL × List Int) (a1 : tA × Int × Int) (y1 : List tV) (q6 : Int) : Fr := ⟨28, [(0, .v true [jI a0.1, jI a0.2.1.1, jI a0.2.1.2.1, jI a0.2.1.2.2, .row 0]), (1, .v true (jM a1)), (2, .v false [.box 0 0]), (3, .v false [.box 1 0]), (4, .v false [.bool false]), (9, .v false [.row 1]), (10, .v false [jI (y1.length : Int)]), (11, .v false [jI q6])], [some ⟨true, [jI a0.1, jI a0.2.1.1, jI a0.2.1.2.1, jI a0.2.1.2.2, .row 0]⟩, some ⟨true, (jM a1)⟩], [some ⟨2, sI, a0.2.2, .ro⟩, some ⟨45, sV, y1, .own⟩]⟩
def f136C : Code := codeOf Tryz.f136
def f136_fr2 (q3 q4 : Int) : Fr := ⟨15, [(0, .v false [jI q3]), (1, .v false [jI q4]), (4, .v false [jI (0 : Int)])], [], []⟩
def f102C : Code := codeOf Tryz.f102
def f102_fr18 (a0 : List tV) (q14 q15 q19 q20 q21 q22 : Int) : Fr := ⟨48, [(0, .v false [.row 0]), (2, .v false [.box 0 0]), (3, .v false [jI q14]), (4, .v false [.box 1 0]), (6, .v false [.box 2 0]), (9, .v false [.row 0]), (10, .v false [jI (a0.length : Int)]), (11, .v false [jI q15]), (12, .v false [.bool (decide (q15 < (a0.length : Int)))])], [some ⟨true, [jI (0 : Int), jI (0 : Int), jI (0 : Int)]⟩, some ⟨true, [jI q19, jI q20]⟩, some ⟨true, [jI q21, jI q22]⟩], [some ⟨45, sV, a0, .ro⟩]⟩
def f102_fr13 (a0 : List tV) (q14 q15 q16 q17 : Int) : Fr := ⟨48, [(0, .v false [.row 0]), (2, .v false [.box 0 0]), (3, .v false [jI q14]), (4, .v false [.box 1 0]), (9, .v false [.row 0]), (10, .v false [jI (a0.length : Int)]), (11, .v false [jI q15])], [some ⟨true, [jI (0 : Int), jI (0 : Int), jI (0 : Int)]⟩, some ⟨true, [jI q16, jI q17]⟩], [some ⟨45, sV, a0, .ro⟩]⟩
def f58C : Code := codeOf Tryz.f58
def f58_fr6 (a0 : Int × tL × List Int) (y1 : tV × Int × Int) (y2 : List tV) (q7 : Int) (q8 : List tV) : Fr := ⟨37, [(0, .v true [jI a0.1, jI a0.2.1.1, jI a0.2.1.2.1, jI a0.2.1.2.2, .row 0]), (1, .v false [.box 0 0]), (2, .v false [.box 1 0]), (3, .v false [.box 2 0]), (4, .v false [.box 3 0]), (5, .v false [.row 1]), (19, .v false [.row 2]), (20, .v false [jI (y2.length : Int)]), (21, .v false [jI q7])], [some ⟨true, [jI a0.1, jI a0.2.1.1, jI a0.2.1.2.1, jI a0.2.1.2.2, .row 0]⟩, some ⟨true, [jI (0 : Int), jI (0 : Int), jI (0 : Int)]⟩, some ⟨true, (jV y1.1)⟩, some ⟨true, (jV y1.2)⟩], [some ⟨2, sI, a0.2.2, .ro⟩, some ⟨45, sV, q8, .own⟩, some ⟨45, sV, y2, .own⟩]⟩
def f57C : Code := codeOf Tryz.f57
def f57_fr4 (a0 : Int × tL × List Int) (a1 : Int × Int × Int) (y1 : List tV) (q5 : Int) (q6 : List Int) : Fr := ⟨29, [(0, .v true [jI a0.1, jI a0.2.1.1, jI a0.2.1.2.1, jI a0.2.1.2.2, .row 0]), (1, .v true (jL a1)), (2, .v false [.box 0 0]), (3, .v false [.box 1 0]), (4, .v false [.box 2 0]), (5, .v false [.box 3 0]), (13, .v false [.row 1]), (14, .v false [jI (y1.length : Int)]), (15, .v false [jI q5])], [some ⟨true, [jI a0.1, jI a0.2.1.1, jI a0.2.1.2.1, jI a0.2.1.2.2, .row 0]⟩, some ⟨true, (jL a1)⟩, some ⟨true, [jI (0 : Int), jI (0 : Int), jI (0 : Int), jI (0 : Int), .row 2]⟩, some ⟨true, [jI a0.1, jI a1.1, jI a1.2.1, jI a1.2.2, .row 3]⟩], [some ⟨2, sI, a0.2.2, .ro⟩, some ⟨45, sV, y1, .own⟩, some ⟨2, sI, [], .own⟩, some ⟨2, sI, q6, .own⟩]⟩
def f103C : Code := codeOf Tryz.f103
def f103_fr3 (a0 : ByteArray) (a1 : List Int) (q4 : Int) (q5 : List ByteArray) : Fr := ⟨24, [(0, .v false [.str a0]), (1, .v false [.row 0]), (4, .v false [.str ByteArray.empty]), (5, .v false [.row 1]), (9, .v false [.row 0]), (10, .v false [jI (a1.length : Int)]), (11, .v false [jI q4])], [], [some ⟨2, sI, a1, .ro⟩, some ⟨9, .str, q5, .own⟩]⟩
def f149C : Code := codeOf Tryz.f149
def f149_fr2 (a0 a1 : List Int) (q3 : Int) : Fr := ⟨30, [(0, .v false [.row 0]), (1, .v false [.row 1]), (4, .v false [jI (0 : Int)]), (7, .v false [jI (a0.length : Int)]), (8, .v false [jI q3])], [], [some ⟨2, sI, a0, .ro⟩, some ⟨2, sI, a1, .ro⟩]⟩
def f26C : Code := codeOf Tryz.f26
def f26_fr16 (a0 : Int × Int × Int) (a1 : List tM) (q13 : Int) (q15 : List tM) (q17 : Int) (q18 : List (tM × Bool)) (q19 : List tM) : Fr := ⟨53, [(0, .v true (jL a0)), (1, .v false [.row 0]), (2, .v false [.box 0 0]), (4, .v false [.row 1]), (5, .v false [.row 2]), (6, .v false [.mp 1]), (7, .v false [jI q13]), (22, .v false [.bool (decide (q13 < (q15.length : Int)))]), (25, .v false [.row 0]), (26, .v false [jI (a1.length : Int)]), (27, .v false [jI q17])], [some ⟨true, (jL a0)⟩, some ⟨true, [.mc sM .bool q18]⟩], [some ⟨47, sM, a1, .ro⟩, some ⟨47, sM, [], .own⟩, some ⟨47, sM, q19, .own⟩]⟩
def f26_fr12 (a0 : Int × Int × Int) (a1 : List tM) (q13 : Int) (q14 : List (tM × Bool)) (q15 : List tM) : Fr := ⟨53, [(0, .v true (jL a0)), (1, .v false [.row 0]), (2, .v false [.box 0 0]), (4, .v false [.row 1]), (5, .v false [.row 2]), (6, .v false [.mp 1]), (7, .v false [jI q13])], [some ⟨true, (jL a0)⟩, some ⟨true, [.mc sM .bool q14]⟩], [some ⟨47, sM, a1, .ro⟩, some ⟨47, sM, [], .own⟩, some ⟨47, sM, q15, .own⟩]⟩
def f113C : Code := codeOf Tryz.f113
def f113_fr8 (a0 q9 : Int) (q10 : List tA) : Fr := ⟨61, [(0, .v false [jI a0]), (2, .v false [.row 0]), (3, .v false [.row 1]), (10, .v false [jI q9])], [], [some ⟨43, sA, [], .own⟩, some ⟨43, sA, q10, .own⟩]⟩
def f150C : Code := codeOf Tryz.f150
def f150_fr3 (a0 : List tA) (a1 : (tA → Option Bool)) (q4 : Int) : Fr := ⟨19, [(0, .v false [.row 0]), (1, .v false [.fv1 sA .bool a1]), (4, .v false [jI (0 : Int)]), (7, .v false [jI (a0.length : Int)]), (8, .v false [jI q4])], [], [some ⟨43, sA, a0, .ro⟩]⟩
def f112C : Code := codeOf Tryz.f112
def f112_fr4 (a1 : (tA → Option Bool)) (y1 q5 q6 : Int) (q7 : List tA) : Fr := ⟨42, [(0, .v false [.row 0]), (1, .v false [.fv1 sA .bool a1]), (4, .v false [.row 1]), (5, .v false [jI q5]), (6, .v false [jI q6]), (12, .v false [.bool (y1 == (-1 : Int))])], [], [some ⟨43, sA, q7, .own⟩, some ⟨43, sA, [], .own⟩]⟩
def f27C : Code := codeOf Tryz.f27
def f27_fr14 (a0 : Int × tL × List Int) (q11 : Int) (y1 : List tA) (y13 : List tV) (q15 : Int) (q16 : List tM) : Fr := ⟨41, [(0, .v true [jI a0.1, jI a0.2.1.1, jI a0.2.1.2.1, jI a0.2.1.2.2, .row 0]), (1, .v false [.box 0 0]), (2, .v false [.row 1]), (3, .v false [.row 2]), (5, .v false [.box 1 0]), (13, .v false [.row 3]), (14, .v false [jI (y1.length : Int)]), (15, .v false [jI q11]), (16, .v false [.bool (decide (q11 < (y1.length : Int)))]), (21, .v false [.row 4]), (22, .v false [jI (y13.length : Int)]), (23, .v false [jI q15])], [some ⟨true, [jI a0.1, jI a0.2.1.1, jI a0.2.1.2.1, jI a0.2.1.2.2, .row 0]⟩, some ⟨true, [jI ((y1.getD ((0 : Int) + q11).toNat zA).1), jI (((y1.getD ((0 : Int) + q11).toNat zA).2).1), jI ((((y1.getD ((0 : Int) + q11).toNat zA).2).2).1), jI ((((y1.getD ((0 : Int) + q11).toNat zA).2).2).2)]⟩], [some ⟨2, sI, a0.2.2, .ro⟩, some ⟨47, sM, [], .own⟩, some ⟨47, sM, q16, .own⟩, some ⟨43, sA, y1, .own⟩, some ⟨45, sV, y13, .own⟩]⟩
def f27_fr10 (a0 : Int × tL × List Int) (y1 : List tA) (q11 : Int) (q12 : List tM) : Fr := ⟨41, [(0, .v true [jI a0.1, jI a0.2.1.1, jI a0.2.1.2.1, jI a0.2.1.2.2, .row 0]), (1, .v false [.box 0 0]), (2, .v false [.row 1]), (3, .v false [.row 2]), (13, .v false [.row 3]), (14, .v false [jI (y1.length : Int)]), (15, .v false [jI q11])], [some ⟨true, [jI a0.1, jI a0.2.1.1, jI a0.2.1.2.1, jI a0.2.1.2.2, .row 0]⟩], [some ⟨2, sI, a0.2.2, .ro⟩, some ⟨47, sM, [], .own⟩, some ⟨47, sM, q12, .own⟩, some ⟨43, sA, y1, .own⟩]⟩
def f68C : Code := codeOf Tryz.f68
def f68_fr2 (a0 : List tM) (a1 : tA × Int × Int) (q3 : Int) : Fr := ⟨19, [(0, .v false [.row 0]), (1, .v true (jM a1)), (3, .v false [.box 0 0]), (4, .v false [jI (0 : Int)]), (7, .v false [jI (a0.length : Int)]), (8, .v false [jI q3])], [some ⟨true, (jM a1)⟩], [some ⟨47, sM, a0, .ro⟩]⟩
def f72C : Code := codeOf Tryz.f72
def f72_fr3 (a0 : List Int) (a1 : Int) (y1 : Int × Int) (q4 : Int) (q5 : List Int) : Fr := ⟨48, [(0, .v false [.row 0]), (1, .v false [jI a1]), (4, .v false [.row 1]), (5, .v false [.int .u64 y1.1]), (6, .v false [.int .u64 y1.2]), (7, .v false [.row 2]), (8, .v false [jI q4]), (10, .v false [.bool (decide (a1 < (0 : Int)))]), (26, .v false [.bool (bif (decide (y1.1 > (0 : Int))) then true else (decide (y1.2 > (9223372036854775807 : Int))))])], [], [some ⟨2, sI, a0, .ro⟩, some ⟨2, sI, [], .own⟩, some ⟨2, sI, q5, .own⟩]⟩
def f123C : Code := codeOf Tryz.f123
def f123_fr9 (a0 : List tV) (q8 q10 q11 : Int) (q12 : List tV) : Fr := ⟨61, [(0, .v false [.row 0]), (2, .v false [.row 1]), (3, .v false [jI q10]), (4, .v false [.view 0 ((0 : Int) + q8) ((0 : Int) + (a0.length : Int))]), (5, .v false [jI q11]), (8, .v false [.bool (decide ((a0.length : Int) < (2 : Int)))]), (13, .v false [.bool (decide (q8 < (a0.length : Int)))]), (25, .v false [.bool (((a0.getD ((0 : Int) + q8).toNat ((0 : Int), (0 : Int))).1 == (a0.getD ((0 : Int) + (w (q8 - (1 : Int)))).toNat ((0 : Int), (0 : Int))).1) && ((a0.getD ((0 : Int) + q8).toNat ((0 : Int), (0 : Int))).2 == (a0.getD ((0 : Int) + (w (q8 - (1 : Int)))).toNat ((0 : Int), (0 : Int))).2))])], [], [some ⟨45, sV, q12, .own⟩, some ⟨45, sV, [], .own⟩]⟩
def f123_fr7 (a0 : List tV) (q8 : Int) : Fr := ⟨61, [(0, .v false [.row 0]), (2, .v false [.row 1]), (3, .v false [jI q8]), (8, .v false [.bool (decide ((a0.length : Int) < (2 : Int)))])], [], [some ⟨45, sV, a0, .own⟩, some ⟨45, sV, [], .own⟩]⟩
def f74C : Code := codeOf Tryz.f74
def f74_fr3 (a0 : Int × Int × Int) (a1 : List tM) (a2 : Int × Int) (q4 : Int) (q5 : List tV) : Fr := ⟨29, [(0, .v true (jL a0)), (1, .v false [.row 0]), (2, .v true (jV a2)), (3, .v false [.box 0 0]), (5, .v false [.box 1 0]), (6, .v false [.row 1]), (7, .v false [.row 2]), (11, .v false [.row 0]), (12, .v false [jI (a1.length : Int)]), (13, .v false [jI q4])], [some ⟨true, (jL a0)⟩, some ⟨true, (jV a2)⟩], [some ⟨47, sM, a1, .ro⟩, some ⟨45, sV, [], .own⟩, some ⟨45, sV, q5, .own⟩]⟩
def f30C : Code := codeOf Tryz.f30
def f30_fr22 (a0 : Int × Int × Int) (a1 : List tM) (q17 : Int) (q18 : List (List tV)) (q19 : List Int) (y3 : List tV) (y20 : Int) (y21 : List tV) (q23 : Int) (q24 : List Int) : Fr := ⟨57, [(0, .v true (jL a0)), (1, .v false [.row 0]), (2, .v false [.box 0 0]), (4, .v false [.row 1]), (5, .v false [.row 2]), (6, .v false [.row 3]), (7, .v false [.row 4]), (9, .v false [.box 1 0]), (10, .v false [.row 5]), (19, .v false [.row 6]), (20, .v false [jI (y3.length : Int)]), (21, .v false [jI q17]), (22, .v false [.bool (decide (q17 < (y3.length : Int)))]), (31, .v false [.bool (decide ((q19.getD ((0 : Int) + y20).toNat (0 : Int)) ≥ (0 : Int)))]), (36, .v false [.row 5]), (37, .v false [jI (y21.length : Int)]), (38, .v false [jI q23])], [some ⟨true, (jL a0)⟩, some ⟨true, [jI ((y3.getD ((0 : Int) + q17).toNat ((0 : Int), (0 : Int))).1), jI ((y3.getD ((0 : Int) + q17).toNat ((0 : Int), (0 : Int))).2)]⟩], [some ⟨47, sM, a1, .ro⟩, some ⟨55, (.list 45 sV), [], .own⟩, some ⟨2, sI, [], .own⟩, some ⟨55, (.list 45 sV), q18, .own⟩, some ⟨2, sI, q24, .own⟩, some ⟨45, sV, y21, .own⟩, some ⟨45, sV, y3, .own⟩]⟩
def f30_fr16 (a0 : Int × Int × Int) (a1 : List tM) (y3 : List tV) (q17 : Int) (q18 : List (List tV)) (q19 : List Int) : Fr := ⟨57, [(0, .v true (jL a0)), (1, .v false [.row 0]), (2, .v false [.box 0 0]), (4, .v false [.row 1]), (5, .v false [.row 2]), (6, .v false [.row 3]), (7, .v false [.row 4]), (19, .v false [.row 5]), (20, .v false [jI (y3.length : Int)]), (21, .v false [jI q17])], [some ⟨true, (jL a0)⟩], [some ⟨47, sM, a1, .ro⟩, some ⟨55, (.list 45 sV), [], .own⟩, some ⟨2, sI, [], .own⟩, some ⟨55, (.list 45 sV), q18, .own⟩, some ⟨2, sI, q19, .own⟩, some ⟨45, sV, y3, .own⟩]⟩
def f31C : Code := codeOf Tryz.f31
def f31_fr5 (a0 : Int × tL × List Int) (a1 : List tV) (q6 : ByteArray) (q7 q8 : Int) : Fr := ⟨38, [(0, .v true [jI a0.1, jI a0.2.1.1, jI a0.2.1.2.1, jI a0.2.1.2.2, .row 0]), (1, .v false [.row 1]), (2, .v false [.box 0 0]), (4, .v false [.str ByteArray.empty]), (5, .v false [jI (0 : Int)]), (6, .v false [.str q6]), (7, .v false [jI q7]), (11, .v false [.row 1]), (12, .v false [jI (a1.length : Int)]), (13, .v false [jI q8])], [some ⟨true, [jI a0.1, jI a0.2.1.1, jI a0.2.1.2.1, jI a0.2.1.2.2, .row 0]⟩], [some ⟨2, sI, a0.2.2, .ro⟩, some ⟨45, sV, a1, .ro⟩]⟩
def f7C : Code := codeOf Tryz.f7
def f7_fr20 (a0 : Int × tL × List Int) (q11 : ByteArray) (q12 : Int) (q13 q14 : List tM) (y1 : Bool) (y2 : Int × tL × List Int) (y5 : List tM) (y18 : (List (List tV)) × List Int) (q21 : Int) (q22 : List tV) : Fr := ⟨89, [(0, .v true [jI a0.1, jI a0.2.1.1, jI a0.2.1.2.1, jI a0.2.1.2.2, .row 0]), (1, .v false [.box 0 0]), (2, .v false [.str ByteArray.empty]), (3, .v false [jI (0 : Int)]), (4, .v false [.box 1 0]), (5, .v false [.str q11]), (6, .v false [.row 1]), (7, .v false [.row 2]), (8, .v false [.row 3]), (11, .v false [.row 4]), (12, .v false [.row 5]), (20, .v false [.bool (!y1)]), (31, .v false [.row 3]), (32, .v false [jI (y5.length : Int)]), (33, .v false [jI q12]), (34, .v false [.bool (decide (q12 < (y5.length : Int)))]), (64, .v false [.row 5]), (65, .v false [jI (y18.1.length : Int)]), (66, .v false [jI q21])], [some ⟨true, [jI a0.1, jI a0.2.1.1, jI a0.2.1.2.1, jI a0.2.1.2.2, .row 0]⟩, some ⟨true, [jI y2.1, jI y2.2.1.1, jI y2.2.1.2.1, jI y2.2.1.2.2, .row 6]⟩], [some ⟨2, sI, a0.2.2, .ro⟩, some ⟨47, sM, q13, .own⟩, some ⟨47, sM, q14, .own⟩, some ⟨47, sM, y5, .own⟩, some ⟨45, sV, q22, .own⟩, some ⟨55, (.list 45 sV), y18.1, .own⟩, some ⟨2, sI, y2.2.2, .own⟩]⟩
def f7_fr10 (a0 : Int × tL × List Int) (y1 : Bool) (y2 : Int × tL × List Int) (y5 : List tM) (q11 : ByteArray) (q12 : Int) (q13 q14 : List tM) : Fr := ⟨89, [(0, .v true [jI a0.1, jI a0.2.1.1, jI a0.2.1.2.1, jI a0.2.1.2.2, .row 0]), (1, .v false [.box 0 0]), (2, .v false [.str ByteArray.empty]), (3, .v false [jI (0 : Int)]), (4, .v false [.box 1 0]), (5, .v false [.str q11]), (6, .v false [.row 1]), (7, .v false [.row 2]), (8, .v false [.row 3]), (20, .v false [.bool (!y1)]), (31, .v false [.row 3]), (32, .v false [jI (y5.length : Int)]), (33, .v false [jI q12])], [some ⟨true, [jI a0.1, jI a0.2.1.1, jI a0.2.1.2.1, jI a0.2.1.2.2, .row 0]⟩, some ⟨true, [jI y2.1, jI y2.2.1.1, jI y2.2.1.2.1, jI y2.2.1.2.2, .row 4]⟩], [some ⟨2, sI, a0.2.2, .ro⟩, some ⟨47, sM, q13, .own⟩, some ⟨47, sM, q14, .own⟩, some ⟨47, sM, y5, .own⟩, some ⟨2, sI, y2.2.2, .own⟩]⟩
def f33C : Code := codeOf Tryz.f33
def f33_fr2 (a0 a1 : List Int) (q3 : Int) : Fr := ⟨26, [(0, .v false [.row 0]), (1, .v false [.row 1]), (4, .v false [.bool false]), (5, .v false [jI q3]), (10, .v false [.bool ((a0.length : Int) != (a1.length : Int))])], [], [some ⟨2, sI, a0, .ro⟩, some ⟨2, sI, a1, .ro⟩]⟩
variable (K : Nat)
include K
def f9E : Env := eE K [] [0, 1, 4, 10]
def f9G (K : Nat) (a0 : List Int) (a1 : Int) : Option Int :=
  (bif (decide ((w (a1 - (a0.length : Int))) < (0 : Int))) then some (-1 : Int) else some (w (a1 - (a0.length : Int))))
def f9M : Mdl := ⟨[(.ro, (.list 2 sI)), (.ro, sI)], [sI], fun x => f9G K x.1 x.2.1⟩
def f4E : Env := eE K [(9, f9M K)] [0, 1, 2, 4, 10]
def f4G (a0 : Int × tL × List Int) (a1 : Int) : Option Int :=
  (f9G K a0.2.2 a1).bind fun y1 => (bif (decide (y1 < (0 : Int))) then some (-1 : Int) else some y1)
def f4M : Mdl := ⟨[(.ro, (.cons sI (.cons sL (.list 2 sI)))), (.ro, sI)], [sI], fun x => f4G K x.1 x.2.1⟩
def f21E : Env := eE K [] [0, 1, 2, 3]
def f21G (K : Nat) (a0 : Int × Int × Int) : Option tL :=
  some a0
def f21M : Mdl := ⟨[(.ro, sL)], [sL], fun x => f21G K x.1⟩
def f22E : Env := eE K [] [0, 2, 3, 4, 11]
def f22_b2 (K : Nat) (a0 : List Int) (L2 : Int → (List Int) → Option (List Int)) (q3 : Int) (q4 : List Int) : Option (List Int) :=
  (bif (decide (q3 < (a0.length : Int))) then (bif (decide (0 ≤ q3) && decide (q3 < (a0.length : Int))) then (bif (decide (0 ≤ q3) && decide (q3 < (q4.length : Int))) then L2 (w (q3 + (1 : Int))) (q4.set ((0 : Int) + q3).toNat (a0.getD ((0 : Int) + q3).toNat (0 : Int))) else none) else none) else some q4)
def f22_l2 (a0 : List Int) (n : Nat) (q3 : Int) (q4 : List Int) : Option (List Int) :=
  iter (X := Int × List Int) (fun L x => f22_b2 K a0 (fun v0 v1 => L (v0, v1)) x.1 x.2) n (q3, q4)
def f22_g (K : Nat) (a0 : List Int) (I2 : Int → (List Int) → Option (List Int)) : Option (List Int) :=
  (bif (decide (0 ≤ (a0.length : Int)) && Nat.ble (a0.length : Int).toNat (lim 8) && ((a0.length : Int) == (a0.length : Int))) then I2 (0 : Int) (List.replicate (a0.length : Int).toNat (0 : Int)) else none)
def f22G (a0 : List Int) : Option (List Int) :=
  f22_g K a0 (fun d0 d1 => f22_l2 K a0 K d0 d1)
def f22M : Mdl := ⟨[(.ro, (.list 2 sI))], [(.list 2 sI)], fun x => f22G K x.1⟩
def f22_k2 (a0 : List Int) (lr : LR (List Int)) : Ex → Fr → Option (List Int) :=
  contC (f22E K) 1 lr f22C [1, 1, 0, 1, 0] (fM (f22E K) Tryz.f22 (f22M K) (a0, ()))
def f22_j2 (a0 : List Int) (lr : LR (List Int)) (bq3 : Int) (bq4 : List Int) : Option (List Int) :=
  lr (selC f22C [1, 1, 0, 1, 0, 0]) (f22_fr2 a0 bq3 bq4) (f22_k2 K a0 lr)
def f6E : Env := eE K [(21, f21M K), (22, f22M K)] [0, 1, 2, 3]
def f6G (a0 : Int × tL × List Int) : Option (Int × tL × List Int) :=
  (f21G K a0.2.1).bind fun y1 => (f22G K a0.2.2).bind fun y2 => some (a0.1, y1, y2)
def f6M : Mdl := ⟨[(.ro, (.cons sI (.cons sL (.list 2 sI))))], [(.cons sI (.cons sL (.list 2 sI)))], fun x => f6G K x.1⟩
def f77E : Env := eE K [] [0, 2]
def f77G (K : Nat) (a0 : Int) : Option Bool :=
  some (bif (a0 == (0 : Int)) then true else (a0 == (1 : Int)))
def f77M : Mdl := ⟨[(.ro, sI)], [.bool], fun x => f77G K x.1⟩
def f79E : Env := eE K [] [0, 1, 2, 6]
def f79G (K : Nat) (a0 a1 a2 : Int) : Option Bool :=
  some (bif (decide (a0 ≥ a1)) then (decide (a0 ≤ a2)) else false)
def f79M : Mdl := ⟨[(.ro, sI), (.ro, sI), (.ro, sI)], [.bool], fun x => f79G K x.1 x.2.1 x.2.2.1⟩
def f78E : Env := eE K [(79, f79M K)] [0, 1, 2]
def f78G (a0 : Int × Int × Int) : Option Bool :=
  (f79G K a0.1 (1 : Int) (64 : Int)).bind fun y1 => ((bif y1 then f79G K a0.2.2 (1 : Int) (64 : Int) else some false)).bind fun y2 => ((bif (bif y1 then y2 else false) then f79G K a0.2.1 (0 : Int) (w (a0.1 - (1 : Int))) else some false)).bind fun y3 => some (bif (bif (bif y1 then y2 else false) then y3 else false) then (decide ((w (a0.1 * a0.2.2)) ≤ (64 : Int))) else false)
def f78M : Mdl := ⟨[(.ro, sL)], [.bool], fun x => f78G K x.1⟩
def f34E : Env := eE K [(77, f77M K), (78, f78M K)] [0, 1, 3, 4, 12]
def f34G (a0 : Int) (a1 : Int × Int × Int) : Option Int :=
  (f77G K a0).bind fun y1 => ((bif (!(!y1)) then f78G K a1 else some false)).bind fun y2 => (bif (bif (!y1) then true else (!y2)) then some (1 : Int) else some (0 : Int))
def f34M : Mdl := ⟨[(.ro, sI), (.ro, sL)], [sI], fun x => f34G K x.1 x.2.1⟩
def f35E : Env := eE K [(79, f79M K)] [0, 1, 2, 3, 8, 9, 13, 23]
def f35_b3 (a0 : List Int) (a1 a2 a3 : Int) (L3 : Int → Option Bool) (q4 : Int) : Option Bool :=
  (bif (decide (q4 < (a0.length : Int))) then (bif (decide (0 ≤ q4) && decide (q4 < (a0.length : Int))) then (f79G K (a0.getD ((0 : Int) + q4).toNat (0 : Int)) a2 a3).bind fun y5 => (bif (!y5) then some false else L3 (w (q4 + (1 : Int)))) else none) else some (decide ((a0.length : Int) ≤ a1)))
def f35_l3 (a0 : List Int) (a1 a2 a3 : Int) (n : Nat) (q4 : Int) : Option Bool :=
  iter (X := Int) (fun L x => f35_b3 K a0 a1 a2 a3 (fun v0 => L v0) x) n q4
def f35_g (K : Nat) (a0 : List Int) (a1 a2 a3 : Int) (I3 : Int → Option Bool) : Option Bool :=
  I3 (0 : Int)
def f35G (a0 : List Int) (a1 a2 a3 : Int) : Option Bool :=
  f35_g K a0 a1 a2 a3 (fun d0 => f35_l3 K a0 a1 a2 a3 K d0)
def f35M : Mdl := ⟨[(.ro, (.list 2 sI)), (.ro, sI), (.ro, sI), (.ro, sI)], [.bool], fun x => f35G K x.1 x.2.1 x.2.2.1 x.2.2.2.1⟩
def f35_k3 (a0 : List Int) (a1 a2 a3 : Int) (lr : LR Bool) : Ex → Fr → Option Bool :=
  contC (f35E K) 1 lr f35C [1, 0, 1, 0] (fM (f35E K) Tryz.f35 (f35M K) (a0, a1, a2, a3, ()))
def f35_j3 (a0 : List Int) (a1 a2 a3 : Int) (lr : LR Bool) (bq4 : Int) : Option Bool :=
  lr (selC f35C [1, 0, 1, 0, 0]) (f35_fr3 a0 a1 a2 a3 bq4) (f35_k3 K a0 a1 a2 a3 lr)
def f10E : Env := eE K [(34, f34M K), (35, f35M K)] [0, 1, 2]
def f10G (a0 : Int × tL × List Int) : Option Bool :=
  (f34G K a0.1 a0.2.1).bind fun y1 => ((bif (bif (y1 == (0 : Int)) then ((a0.2.2.length : Int) == (w (a0.2.1.1 * a0.2.1.2.2))) else false) then f35G K a0.2.2 (64 : Int) (0 : Int) (9 : Int) else some false)).bind fun y2 => some (bif (bif (y1 == (0 : Int)) then ((a0.2.2.length : Int) == (w (a0.2.1.1 * a0.2.1.2.2))) else false) then y2 else false)
def f10M : Mdl := ⟨[(.ro, (.cons sI (.cons sL (.list 2 sI))))], [.bool], fun x => f10G K x.1⟩
def f39E : Env := eE K [] [0, 1, 2, 3, 4, 5, 10, 16]
def f39_b9 (K : Nat) (a0 : Int × Int × Int) (q7 : Int) (L6 L9 : Int → (List tV) → Option (List tV)) (q10 : Int) (q11 : List tV) : Option (List tV) :=
  (bif (decide (q10 < a0.2.2)) then (bif (Nat.ble (q11.length + [(q7, q10)].length) (lim 16)) then L9 (w (q10 + (1 : Int))) (q11 ++ [(q7, q10)]) else none) else L6 (w (q7 + (1 : Int))) q11)
def f39_l9 (a0 : Int × Int × Int) (q7 : Int) (L6 : Int → (List tV) → Option (List tV)) (n : Nat) (q10 : Int) (q11 : List tV) : Option (List tV) :=
  iter (X := Int × List tV) (fun L x => f39_b9 K a0 q7 L6 (fun v0 v1 => L (v0, v1)) x.1 x.2) n (q10, q11)
def f39_b6 (K : Nat) (a0 : Int × Int × Int) (I9 : Int → Int → (List tV) → Option (List tV)) (L6 : Int → (List tV) → Option (List tV)) (q7 : Int) (q8 : List tV) : Option (List tV) :=
  (bif (decide (q7 < a0.1)) then I9 q7 (0 : Int) q8 else some q8)
def f39_l6 (a0 : Int × Int × Int) (n : Nat) (q7 : Int) (q8 : List tV) : Option (List tV) :=
  iter (X := Int × List tV) (fun L x => (fun L6 => f39_b6 K a0 (fun c0 d0 d1 => f39_l9 K a0 c0 L6 K d0 d1) L6 x.1 x.2) (fun v0 v1 => L (v0, v1))) n (q7, q8)
def f39_g (K : Nat) (a0 : Int × Int × Int) (I6 : Int → (List tV) → Option (List tV)) : Option (List tV) :=
  I6 (0 : Int) []
def f39G (a0 : Int × Int × Int) : Option (List tV) :=
  f39_g K a0 (fun d0 d1 => f39_l6 K a0 K d0 d1)
def f39M : Mdl := ⟨[(.ro, sL)], [(.list 45 sV)], fun x => f39G K x.1⟩
def f39_k6 (a0 : Int × Int × Int) (lr : LR (List tV)) : Ex → Fr → Option (List tV) :=
  contC (f39E K) 0 lr f39C [1, 1, 0, 1, 0] (fM (f39E K) Tryz.f39 (f39M K) (a0, ()))
def f39_j6 (a0 : Int × Int × Int) (lr : LR (List tV)) (bq7 : Int) (bq8 : List tV) : Option (List tV) :=
  lr (selC f39C [1, 1, 0, 1, 0, 0]) (f39_fr6 a0 bq7 bq8) (f39_k6 K a0 lr)
def f39_k9 (a0 : Int × Int × Int) (F6 : Fr → Option (List tV)) (bq7 : Int) (bq8 : List tV) (lr : LR (List tV)) : Ex → Fr → Option (List tV) :=
  contC (f39E K) 0 lr (selC f39C [1, 1, 0, 1, 0, 0]) [1, 0, 0, 1, 0] (loopK 0 (f39_fr6 a0 bq7 bq8) F6 (f39_k6 K a0 lr))
def f39_j9 (a0 : Int × Int × Int) (F6 : Fr → Option (List tV)) (bq7 : Int) (bq8 : List tV) (lr : LR (List tV)) (q7 bq10 : Int) (bq11 : List tV) : Option (List tV) :=
  lr (selC f39C [1, 1, 0, 1, 0, 0, 1, 0, 0, 1, 0, 0]) (f39_fr9 a0 q7 bq10 bq11) (f39_k9 K a0 F6 bq7 bq8 lr)
def f80E : Env := eE K [] [0, 1, 2]
def f80G (K : Nat) (a0 : Int × Int × Int) : Option (List tV) :=
  some [(a0.1, (0 : Int)), a0.2]
def f80M : Mdl := ⟨[(.ro, sL)], [(.list 45 sV)], fun x => f80G K x.1⟩
def f42E : Env := eE K [] [0]
def f42G (K : Nat) : Option tA :=
  some ((1 : Int), (0 : Int), (0 : Int), (1 : Int))
def f42M : Mdl := ⟨[], [sA], fun x => f42G K ⟩
def f90E : Env := eE K [] [0, 1, 2, 3, 4]
def f90G (K : Nat) (a0 : Int × Int × Int × Int) (a1 : Int × Int) : Option tV :=
  some ((w ((w (a0.1 * a1.1)) + (w (a0.2.1 * a1.2)))), (w ((w (a0.2.2.1 * a1.1)) + (w (a0.2.2.2 * a1.2)))))
def f90M : Mdl := ⟨[(.ro, sA), (.ro, sV)], [sV], fun x => f90G K x.1 x.2.1⟩
def f89E : Env := eE K [] [0, 1, 2, 3, 4]
def f89G (K : Nat) (a0 a1 : Int × Int) : Option tV :=
  some ((w (a0.1 + a1.1)), (w (a0.2 + a1.2)))
def f89M : Mdl := ⟨[(.ro, sV), (.ro, sV)], [sV], fun x => f89G K x.1 x.2.1⟩
def f84E : Env := eE K [(89, f89M K), (90, f90M K)] [0, 1, 2, 3, 4]
def f84G (a0 : tA × Int × Int) (a1 : Int × Int) : Option tV :=
  (f90G K a0.1 a1).bind fun y1 => (f89G K y1 a0.2).bind fun y2 => some y2
def f84M : Mdl := ⟨[(.ro, sM), (.ro, sV)], [sV], fun x => f84G K x.1 x.2.1⟩
def f126E : Env := eE K [] [0, 1, 4, 9]
def f126G (K : Nat) (a0 a1 : Int) : Option Int :=
  (bif (a1 != 0) then (bif (decide ((a0.tmod a1) < (0 : Int))) then some (w ((a0.tmod a1) + a1)) else some (a0.tmod a1)) else none)
def f126M : Mdl := ⟨[(.ro, sI), (.ro, sI)], [sI], fun x => f126G K x.1 x.2.1⟩
def f87E : Env := eE K [(126, f126M K)] [0, 1, 2, 3, 4, 5, 6]
def f87G (a0 : Int × Int × Int) (a1 : Int × Int) : Option tV :=
  (f126G K a1.2 a0.2.2).bind fun y1 => (bif (a0.2.2 != 0) then (f126G K (w (a1.1 - (w ((w ((w (a1.2 - y1)).tdiv a0.2.2)) * a0.2.1)))) a0.1).bind fun y2 => some (y2, y1) else none)
def f87M : Mdl := ⟨[(.ro, sL), (.ro, sV)], [sV], fun x => f87G K x.1 x.2.1⟩
def f51E : Env := eE K [(87, f87M K)] [0, 1, 2, 3, 4]
def f51G (a0 : Int × Int × Int) (a1 : Int × Int) : Option Int :=
  (f87G K a0 a1).bind fun y1 => some (w ((w (y1.1 * a0.2.2)) + y1.2))
def f51M : Mdl := ⟨[(.ro, sL), (.ro, sV)], [sI], fun x => f51G K x.1 x.2.1⟩
def f19E : Env := eE K [(51, f51M K)] [0, 1, 2, 3, 4]
def f19G (a0 : Int × tL × List Int) (a1 : Int × Int) : Option Int :=
  (f51G K a0.2.1 a1).bind fun y1 => (bif (decide (0 ≤ y1) && decide (y1 < (a0.2.2.length : Int))) then some (a0.2.2.getD ((0 : Int) + y1).toNat (0 : Int)) else none)
def f19M : Mdl := ⟨[(.ro, (.cons sI (.cons sL (.list 2 sI)))), (.ro, sV)], [sI], fun x => f19G K x.1 x.2.1⟩
def f40E : Env := eE K [(19, f19M K), (39, f39M K), (84, f84M K)] [0, 1, 2, 3, 4, 5, 6, 13, 30]
def f40_b6 (a0 : Int × tL × List Int) (a1 : tA × Int × Int) (y1 : List tV) (L6 : Int → Option Bool) (q7 : Int) : Option Bool :=
  (bif (decide (q7 < (y1.length : Int))) then (bif (decide (0 ≤ q7) && decide (q7 < (y1.length : Int))) then (f84G K a1 (y1.getD ((0 : Int) + q7).toNat ((0 : Int), (0 : Int)))).bind fun y8 => (f19G K a0 y8).bind fun y9 => (bif (decide (0 ≤ q7) && decide (q7 < (y1.length : Int))) then (f19G K a0 (y1.getD ((0 : Int) + q7).toNat ((0 : Int), (0 : Int)))).bind fun y10 => (bif (y9 != y10) then some false else L6 (w (q7 + (1 : Int)))) else none) else none) else some true)
def f40_l6 (a0 : Int × tL × List Int) (a1 : tA × Int × Int) (y1 : List tV) (n : Nat) (q7 : Int) : Option Bool :=
  iter (X := Int) (fun L x => f40_b6 K a0 a1 y1 (fun v0 => L v0) x) n q7
def f40_g (a0 : Int × tL × List Int) (a1 : tA × Int × Int) (I6 : (List tV) → Int → Option Bool) : Option Bool :=
  (f39G K a0.2.1).bind fun y1 => I6 y1 (0 : Int)
def f40G (a0 : Int × tL × List Int) (a1 : tA × Int × Int) : Option Bool :=
  f40_g K a0 a1 (fun c0 d0 => f40_l6 K a0 a1 c0 K d0)
def f40M : Mdl := ⟨[(.ro, (.cons sI (.cons sL (.list 2 sI)))), (.ro, sM)], [.bool], fun x => f40G K x.1 x.2.1⟩
def f40_k6 (a0 : Int × tL × List Int) (a1 : tA × Int × Int) (lr : LR Bool) : Ex → Fr → Option Bool :=
  contC (f40E K) 1 lr f40C [1, 1, 0, 1, 0] (fM (f40E K) Tryz.f40 (f40M K) (a0, a1, ()))
def f40_j6 (a0 : Int × tL × List Int) (a1 : tA × Int × Int) (lr : LR Bool) (y1 : List tV) (bq7 : Int) : Option Bool :=
  lr (selC f40C [1, 1, 0, 1, 0, 0]) (f40_fr6 a0 a1 y1 bq7) (f40_k6 K a0 a1 lr)
omit K
def f125E (K : Nat) (rec : Int → Int → Option Int) : Env := ⟨[(125, ⟨[(.ro, sI), (.ro, sI)], [sI], fun x => rec x.1 x.2.1⟩)], tys, eqs, mts, K, [0, 1, 4, 6], [], [], [], [], [], [], false⟩
def f125_s (K : Nat) (rec : Int → Int → Option Int) (a0 a1 : Int) : Option Int :=
  (bif (a1 == (0 : Int)) then some (if (w (0 - a0)) > a0 then (w (0 - a0)) else a0) else (bif (a1 != 0) then (rec a1 (a0.tmod a1)).bind fun y1 => some y1 else none))
def f125R (K : Nat) : Nat → Int → Int → Option Int
  | 0 => fun _ _ => none
  | n + 1 => fun a0 a1 => f125_s K (f125R K n) a0 a1
def f125G (K : Nat) (a0 a1 : Int) : Option Int := f125R K K a0 a1
def f125M (K : Nat) : Mdl := ⟨[(.ro, sI), (.ro, sI)], [sI], fun x => f125G K x.1 x.2.1⟩
include K
def f127E : Env := eE K [] [0, 1, 2, 4]
def f127G (K : Nat) (a0 : Int × Int) (a1 : Int) : Option tV :=
  some ((w (a1 * a0.1)), (w (a1 * a0.2)))
def f127M : Mdl := ⟨[(.ro, sV), (.ro, sI)], [sV], fun x => f127G K x.1 x.2.1⟩
def f81E : Env := eE K [(125, f125M K), (126, f126M K), (127, f127M K)] [0, 2, 3, 4, 5, 6, 7, 8, 13, 22, 50, 58, 62]
def f81_b15 (a0 : List tV) (q11 q12 : Int) (L10 L15 : Int → Int → Int → Int → Option tL) (q16 q17 q18 q19 : Int) : Option tL :=
  (bif (q19 != (0 : Int)) then (bif (q19 != 0) then L15 q18 q19 (w (q16 - (w ((w (q17.tdiv q19)) * q18)))) (w (q17 - (w ((w (q17.tdiv q19)) * q19)))) else none) else (f125G K q11 q18).bind fun y20 => (bif (decide (y20 > (0 : Int))) then (f126G K q16 y20).bind fun y21 => L10 y20 (w (q12 + (1 : Int))) y21 q17 else L10 y20 (w (q12 + (1 : Int))) q16 q17))
def f81_l15 (a0 : List tV) (q11 q12 : Int) (L10 : Int → Int → Int → Int → Option tL) (n : Nat) (q16 q17 q18 q19 : Int) : Option tL :=
  iter (X := Int × Int × Int × Int) (fun L x => f81_b15 K a0 q11 q12 L10 (fun v0 v1 v2 v3 => L (v0, v1, v2, v3)) x.1 x.2.1 x.2.2.1 x.2.2.2) n (q16, q17, q18, q19)
def f81_b10 (a0 : List tV) (I15 : Int → Int → Int → Int → Int → Int → Option tL) (L10 : Int → Int → Int → Int → Option tL) (q11 q12 q13 q14 : Int) : Option tL :=
  (bif (decide (q12 < (a0.length : Int))) then (bif (decide (0 ≤ q12) && decide (q12 < (a0.length : Int))) then I15 q11 q12 q13 q14 ((a0.getD ((0 : Int) + q12).toNat ((0 : Int), (0 : Int))).1) ((a0.getD ((0 : Int) + q12).toNat ((0 : Int), (0 : Int))).2) else none) else (bif (decide (q14 < (0 : Int))) then (f127G K (q13, q14) (-1 : Int)).bind fun y22 => (bif (decide (q11 > (0 : Int))) then (f126G K y22.1 q11).bind fun y23 => some (q11, y23, y22.2) else some (q11, y22)) else (bif (decide (q11 > (0 : Int))) then (f126G K q13 q11).bind fun y24 => some (q11, y24, q14) else some (q11, q13, q14))))
def f81_l10 (a0 : List tV) (n : Nat) (q11 q12 q13 q14 : Int) : Option tL :=
  iter (X := Int × Int × Int × Int) (fun L x => (fun L10 => f81_b10 K a0 (fun c0 c1 d0 d1 d2 d3 => f81_l15 K a0 c0 c1 L10 K d0 d1 d2 d3) L10 x.1 x.2.1 x.2.2.1 x.2.2.2) (fun v0 v1 v2 v3 => L (v0, v1, v2, v3))) n (q11, q12, q13, q14)
def f81_g (K : Nat) (a0 : List tV) (I10 : Int → Int → Int → Int → Option tL) : Option tL :=
  I10 (0 : Int) (0 : Int) (0 : Int) (0 : Int)
def f81G (a0 : List tV) : Option tL :=
  f81_g K a0 (fun d0 d1 d2 d3 => f81_l10 K a0 K d0 d1 d2 d3)
def f81M : Mdl := ⟨[(.ro, (.list 45 sV))], [sL], fun x => f81G K x.1⟩
def f81_k10 (a0 : List tV) (lr : LR tL) : Ex → Fr → Option tL :=
  contC (f81E K) 1 lr f81C [1, 1, 0, 1, 0] (fM (f81E K) Tryz.f81 (f81M K) (a0, ()))
def f81_j10 (a0 : List tV) (lr : LR tL) (bq11 bq12 bq13 bq14 : Int) : Option tL :=
  lr (selC f81C [1, 1, 0, 1, 0, 0]) (f81_fr10 a0 bq11 bq12 bq13 bq14) (f81_k10 K a0 lr)
def f81_k15 (a0 : List tV) (F10 : Fr → Option tL) (bq11 bq12 bq13 bq14 : Int) (lr : LR tL) : Ex → Fr → Option tL :=
  contC (f81E K) 1 lr (selC f81C [1, 1, 0, 1, 0, 0]) [1, 0, 0, 1, 0, 0] (loopK 1 (f81_fr10 a0 bq11 bq12 bq13 bq14) F10 (f81_k10 K a0 lr))
def f81_j15 (a0 : List tV) (F10 : Fr → Option tL) (bq11 bq12 bq13 bq14 : Int) (lr : LR tL) (q11 q12 bq16 bq17 bq18 bq19 : Int) : Option tL :=
  lr (selC f81C [1, 1, 0, 1, 0, 0, 1, 0, 0, 1, 0, 0, 0]) (f81_fr15 a0 q11 q12 bq16 bq17 bq18 bq19) (f81_k15 K a0 F10 bq11 bq12 bq13 bq14 lr)
def f37E : Env := eE K [(39, f39M K), (40, f40M K), (42, f42M K), (80, f80M K), (81, f81M K)] [0, 1, 2, 3, 4, 5, 15, 25]
def f37_b6 (a0 : Int × tL × List Int) (y1 : List tV) (L6 : Int → (List tV) → Option tL) (q7 : Int) (q8 : List tV) : Option tL :=
  (bif (decide (q7 < (y1.length : Int))) then (f42G K).bind fun y9 => (bif (decide (0 ≤ q7) && decide (q7 < (y1.length : Int))) then (f40G K a0 (y9, (y1.getD ((0 : Int) + q7).toNat ((0 : Int), (0 : Int))))).bind fun y10 => (bif y10 then (bif (decide (0 ≤ q7) && decide (q7 < (y1.length : Int))) then (bif (Nat.ble (q8.length + [(y1.getD ((0 : Int) + q7).toNat ((0 : Int), (0 : Int)))].length) (lim 16)) then L6 (w (q7 + (1 : Int))) (q8 ++ [(y1.getD ((0 : Int) + q7).toNat ((0 : Int), (0 : Int)))]) else none) else none) else L6 (w (q7 + (1 : Int))) q8) else none) else (f81G K q8).bind fun y11 => some y11)
def f37_l6 (a0 : Int × tL × List Int) (y1 : List tV) (n : Nat) (q7 : Int) (q8 : List tV) : Option tL :=
  iter (X := Int × List tV) (fun L x => f37_b6 K a0 y1 (fun v0 v1 => L (v0, v1)) x.1 x.2) n (q7, q8)
def f37_g (a0 : Int × tL × List Int) (I6 : (List tV) → Int → (List tV) → Option tL) : Option tL :=
  (f39G K a0.2.1).bind fun y1 => (f80G K a0.2.1).bind fun y2 => I6 y1 (0 : Int) y2
def f37G (a0 : Int × tL × List Int) : Option tL :=
  f37_g K a0 (fun c0 d0 d1 => f37_l6 K a0 c0 K d0 d1)
def f37M : Mdl := ⟨[(.ro, (.cons sI (.cons sL (.list 2 sI))))], [sL], fun x => f37G K x.1⟩
def f37_k6 (a0 : Int × tL × List Int) (lr : LR tL) : Ex → Fr → Option tL :=
  contC (f37E K) 1 lr f37C [1, 1, 1, 0, 1, 0] (fM (f37E K) Tryz.f37 (f37M K) (a0, ()))
def f37_j6 (a0 : Int × tL × List Int) (lr : LR tL) (y1 : List tV) (bq7 : Int) (bq8 : List tV) : Option tL :=
  lr (selC f37C [1, 1, 1, 0, 1, 0, 0]) (f37_fr6 a0 y1 bq7 bq8) (f37_k6 K a0 lr)
def f36E : Env := eE K [(19, f19M K), (39, f39M K)] [0, 1, 2, 3, 4, 5, 6, 7, 18]
def f36_b4 (a0 : Int × tL × List Int) (a1 : Int × Int × Int) (y1 : List tV) (L4 : Int → (List Int) → Option (Int × tL × List Int)) (q5 : Int) (q6 : List Int) : Option (Int × tL × List Int) :=
  (bif (decide (q5 < (y1.length : Int))) then (bif (decide (0 ≤ q5) && decide (q5 < (y1.length : Int))) then (f19G K a0 (y1.getD ((0 : Int) + q5).toNat ((0 : Int), (0 : Int)))).bind fun y7 => (bif (Nat.ble (q6.length + [y7].length) (lim 8)) then L4 (w (q5 + (1 : Int))) (q6 ++ [y7]) else none) else none) else some (a0.1, a1, q6))
def f36_l4 (a0 : Int × tL × List Int) (a1 : Int × Int × Int) (y1 : List tV) (n : Nat) (q5 : Int) (q6 : List Int) : Option (Int × tL × List Int) :=
  iter (X := Int × List Int) (fun L x => f36_b4 K a0 a1 y1 (fun v0 v1 => L (v0, v1)) x.1 x.2) n (q5, q6)
def f36_g (a0 : Int × tL × List Int) (a1 : Int × Int × Int) (I4 : (List tV) → Int → (List Int) → Option (Int × tL × List Int)) : Option (Int × tL × List Int) :=
  (f39G K a1).bind fun y1 => I4 y1 (0 : Int) []
def f36G (a0 : Int × tL × List Int) (a1 : Int × Int × Int) : Option (Int × tL × List Int) :=
  f36_g K a0 a1 (fun c0 d0 d1 => f36_l4 K a0 a1 c0 K d0 d1)
def f36M : Mdl := ⟨[(.ro, (.cons sI (.cons sL (.list 2 sI)))), (.ro, sL)], [(.cons sI (.cons sL (.list 2 sI)))], fun x => f36G K x.1 x.2.1⟩
def f36_k4 (a0 : Int × tL × List Int) (a1 : Int × Int × Int) (lr : LR (Int × tL × List Int)) : Ex → Fr → Option (Int × tL × List Int) :=
  contC (f36E K) 1 lr f36C [1, 1, 1, 0, 1, 0] (fM (f36E K) Tryz.f36 (f36M K) (a0, a1, ()))
def f36_j4 (a0 : Int × tL × List Int) (a1 : Int × Int × Int) (lr : LR (Int × tL × List Int)) (y1 : List tV) (bq5 : Int) (bq6 : List Int) : Option (Int × tL × List Int) :=
  lr (selC f36C [1, 1, 1, 0, 1, 0, 0]) (f36_fr4 a0 a1 y1 bq5 bq6) (f36_k4 K a0 a1 lr)
def f11E : Env := eE K [(36, f36M K), (37, f37M K)] [0, 1, 2]
def f11G (a0 : Int × tL × List Int) : Option (Int × tL × List Int) :=
  (f37G K a0).bind fun y1 => (f36G K a0 y1).bind fun y2 => some y2
def f11M : Mdl := ⟨[(.ro, (.cons sI (.cons sL (.list 2 sI))))], [(.cons sI (.cons sL (.list 2 sI)))], fun x => f11G K x.1⟩
def f161E : Env := eE K [] [0, 1, 3, 4, 5, 18]
def f161G (K : Nat) (a0 : Int) (a1 : Int × Int) : Option Int :=
  (bif (a0 == (1 : Int)) then some (w ((w ((w (a1.1 * a1.1)) + (w (a1.2 * a1.2)))) + (w (a1.1 * a1.2)))) else some (w ((w (a1.1 * a1.1)) + (w (a1.2 * a1.2)))))
def f161M : Mdl := ⟨[(.ro, sI), (.ro, sV)], [sI], fun x => f161G K x.1 x.2.1⟩
def f128E : Env := eE K [(89, f89M K), (161, f161M K)] [0, 1, 3, 4, 5, 6]
def f128G (a0 : Int) (a1 : Int × Int × Int × Int) : Option Bool :=
  (f161G K a0 (a1.1, a1.2.2.1)).bind fun y1 => ((bif (y1 == (1 : Int)) then f161G K a0 (a1.2.1, a1.2.2.2) else some (0 : Int))).bind fun y2 => ((bif (bif (y1 == (1 : Int)) then (y2 == (1 : Int)) else false) then f89G K (a1.1, a1.2.2.1) (a1.2.1, a1.2.2.2) else some ((0 : Int), (0 : Int)))).bind fun y3 => ((bif (bif (y1 == (1 : Int)) then (y2 == (1 : Int)) else false) then f161G K a0 y3 else some (0 : Int))).bind fun y4 => some (bif (bif (y1 == (1 : Int)) then (y2 == (1 : Int)) else false) then (y4 == (w ((2 : Int) + a0))) else false)
def f128M : Mdl := ⟨[(.ro, sI), (.ro, sA)], [.bool], fun x => f128G K x.1 x.2.1⟩
def f82E : Env := eE K [(128, f128M K)] [0, 2, 3, 4, 5, 8, 28]
def f82_b3 (a0 : Int) (L3 : Int → (List tA) → Option (List tA)) (q4 : Int) (q5 : List tA) : Option (List tA) :=
  (bif (decide (q4 < (81 : Int))) then (f128G K a0 ((w ((w (q4.tdiv (27 : Int))) - (1 : Int))), (w (((w (q4.tdiv (9 : Int))).tmod (3 : Int)) - (1 : Int))), (w (((w (q4.tdiv (3 : Int))).tmod (3 : Int)) - (1 : Int))), (w ((q4.tmod (3 : Int)) - (1 : Int))))).bind fun y6 => (bif y6 then (bif (Nat.ble (q5.length + [((w ((w (q4.tdiv (27 : Int))) - (1 : Int))), (w (((w (q4.tdiv (9 : Int))).tmod (3 : Int)) - (1 : Int))), (w (((w (q4.tdiv (3 : Int))).tmod (3 : Int)) - (1 : Int))), (w ((q4.tmod (3 : Int)) - (1 : Int))))].length) (lim 32)) then L3 (w (q4 + (1 : Int))) (q5 ++ [((w ((w (q4.tdiv (27 : Int))) - (1 : Int))), (w (((w (q4.tdiv (9 : Int))).tmod (3 : Int)) - (1 : Int))), (w (((w (q4.tdiv (3 : Int))).tmod (3 : Int)) - (1 : Int))), (w ((q4.tmod (3 : Int)) - (1 : Int))))]) else none) else L3 (w (q4 + (1 : Int))) q5) else some q5)
def f82_l3 (a0 : Int) (n : Nat) (q4 : Int) (q5 : List tA) : Option (List tA) :=
  iter (X := Int × List tA) (fun L x => f82_b3 K a0 (fun v0 v1 => L (v0, v1)) x.1 x.2) n (q4, q5)
def f82_g (K : Nat) (a0 : Int) (I3 : Int → (List tA) → Option (List tA)) : Option (List tA) :=
  I3 (0 : Int) []
def f82G (a0 : Int) : Option (List tA) :=
  f82_g K a0 (fun d0 d1 => f82_l3 K a0 K d0 d1)
def f82M : Mdl := ⟨[(.ro, sI)], [(.list 43 sA)], fun x => f82G K x.1⟩
def f82_k3 (a0 : Int) (lr : LR (List tA)) : Ex → Fr → Option (List tA) :=
  contC (f82E K) 0 lr f82C [1, 1, 0, 1, 0] (fM (f82E K) Tryz.f82 (f82M K) (a0, ()))
def f82_j3 (a0 : Int) (lr : LR (List tA)) (bq4 : Int) (bq5 : List tA) : Option (List tA) :=
  lr (selC f82C [1, 1, 0, 1, 0, 0]) (f82_fr3 a0 bq4 bq5) (f82_k3 K a0 lr)
def f83E : Env := eE K [(80, f80M K), (81, f81M K), (90, f90M K)] [0, 1, 2, 3, 4, 5]
def f83G (a0 : Int × Int × Int × Int) (a1 : Int × Int × Int) : Option tL :=
  (f80G K a1).bind fun y1 => (bif (decide (0 ≤ (0 : Int)) && decide ((0 : Int) < (y1.length : Int))) then (f90G K a0 (y1.getD ((0 : Int) + (0 : Int)).toNat ((0 : Int), (0 : Int)))).bind fun y2 => (bif (decide (0 ≤ (1 : Int)) && decide ((1 : Int) < (y1.length : Int))) then (f90G K a0 (y1.getD ((0 : Int) + (1 : Int)).toNat ((0 : Int), (0 : Int)))).bind fun y3 => (f81G K [y2, y3]).bind fun y4 => some y4 else none) else none)
def f83M : Mdl := ⟨[(.ro, sA), (.ro, sL)], [sL], fun x => f83G K x.1 x.2.1⟩
def f38E : Env := eE K [(82, f82M K), (83, f83M K)] [0, 1, 3, 4, 5, 6, 7, 14, 24]
def f38_b4 (a0 : Int) (a1 : Int × Int × Int) (y1 : List tA) (L4 : Int → (List tA) → Option (List tA)) (q5 : Int) (q6 : List tA) : Option (List tA) :=
  (bif (decide (q5 < (y1.length : Int))) then (bif (decide (0 ≤ q5) && decide (q5 < (y1.length : Int))) then (f83G K ((y1.getD ((0 : Int) + q5).toNat zA).1, ((y1.getD ((0 : Int) + q5).toNat zA).2).1, (((y1.getD ((0 : Int) + q5).toNat zA).2).2)) a1).bind fun y7 => (bif ((y7.1 == a1.1) && ((y7.2.1 == a1.2.1) && (y7.2.2 == a1.2.2))) then (bif (decide (0 ≤ q5) && decide (q5 < (y1.length : Int))) then (bif (Nat.ble (q6.length + [((y1.getD ((0 : Int) + q5).toNat zA).1, ((y1.getD ((0 : Int) + q5).toNat zA).2).1, (((y1.getD ((0 : Int) + q5).toNat zA).2).2))].length) (lim 32)) then L4 (w (q5 + (1 : Int))) (q6 ++ [((y1.getD ((0 : Int) + q5).toNat zA).1, ((y1.getD ((0 : Int) + q5).toNat zA).2).1, (((y1.getD ((0 : Int) + q5).toNat zA).2).2))]) else none) else none) else L4 (w (q5 + (1 : Int))) q6) else none) else some q6)
def f38_l4 (a0 : Int) (a1 : Int × Int × Int) (y1 : List tA) (n : Nat) (q5 : Int) (q6 : List tA) : Option (List tA) :=
  iter (X := Int × List tA) (fun L x => f38_b4 K a0 a1 y1 (fun v0 v1 => L (v0, v1)) x.1 x.2) n (q5, q6)
def f38_g (a0 : Int) (a1 : Int × Int × Int) (I4 : (List tA) → Int → (List tA) → Option (List tA)) : Option (List tA) :=
  (f82G K a0).bind fun y1 => I4 y1 (0 : Int) []
def f38G (a0 : Int) (a1 : Int × Int × Int) : Option (List tA) :=
  f38_g K a0 a1 (fun c0 d0 d1 => f38_l4 K a0 a1 c0 K d0 d1)
def f38M : Mdl := ⟨[(.ro, sI), (.ro, sL)], [(.list 43 sA)], fun x => f38G K x.1 x.2.1⟩
def f38_k4 (a0 : Int) (a1 : Int × Int × Int) (lr : LR (List tA)) : Ex → Fr → Option (List tA) :=
  contC (f38E K) 0 lr f38C [1, 1, 1, 0, 1, 0] (fM (f38E K) Tryz.f38 (f38M K) (a0, a1, ()))
def f38_j4 (a0 : Int) (a1 : Int × Int × Int) (lr : LR (List tA)) (y1 : List tA) (bq5 : Int) (bq6 : List tA) : Option (List tA) :=
  lr (selC f38C [1, 1, 1, 0, 1, 0, 0]) (f38_fr4 a0 a1 y1 bq5 bq6) (f38_k4 K a0 a1 lr)
def f12E : Env := eE K [(38, f38M K), (39, f39M K), (40, f40M K)] [0, 1, 2, 3, 4, 5, 6, 7, 8, 21, 27, 41]
def f12_b13 (a0 : Int × tL × List Int) (q11 : Int) (y1 : List tA) (y2 : List tV) (L10 L13 : Int → (List tM) → Option (List tM)) (q14 : Int) (q15 : List tM) : Option (List tM) :=
  (bif (decide (q14 < (y2.length : Int))) then (bif (decide (0 ≤ q11) && decide (q11 < (y1.length : Int))) then (bif (decide (0 ≤ q14) && decide (q14 < (y2.length : Int))) then (f40G K a0 (((y1.getD ((0 : Int) + q11).toNat zA).1, ((y1.getD ((0 : Int) + q11).toNat zA).2).1, (((y1.getD ((0 : Int) + q11).toNat zA).2).2)), (y2.getD ((0 : Int) + q14).toNat ((0 : Int), (0 : Int))))).bind fun y16 => (bif y16 then (bif (Nat.ble (q15.length + [(((y1.getD ((0 : Int) + q11).toNat zA).1, ((y1.getD ((0 : Int) + q11).toNat zA).2).1, (((y1.getD ((0 : Int) + q11).toNat zA).2).2)), (y2.getD ((0 : Int) + q14).toNat ((0 : Int), (0 : Int))))].length) (lim 48)) then L13 (w (q14 + (1 : Int))) (q15 ++ [(((y1.getD ((0 : Int) + q11).toNat zA).1, ((y1.getD ((0 : Int) + q11).toNat zA).2).1, (((y1.getD ((0 : Int) + q11).toNat zA).2).2)), (y2.getD ((0 : Int) + q14).toNat ((0 : Int), (0 : Int))))]) else none) else L13 (w (q14 + (1 : Int))) q15) else none) else none) else L10 (w (q11 + (1 : Int))) q15)
def f12_l13 (a0 : Int × tL × List Int) (q11 : Int) (y1 : List tA) (y2 : List tV) (L10 : Int → (List tM) → Option (List tM)) (n : Nat) (q14 : Int) (q15 : List tM) : Option (List tM) :=
  iter (X := Int × List tM) (fun L x => f12_b13 K a0 q11 y1 y2 L10 (fun v0 v1 => L (v0, v1)) x.1 x.2) n (q14, q15)
def f12_b10 (K : Nat) (a0 : Int × tL × List Int) (y1 : List tA) (y2 : List tV) (I13 : Int → Int → (List tM) → Option (List tM)) (L10 : Int → (List tM) → Option (List tM)) (q11 : Int) (q12 : List tM) : Option (List tM) :=
  (bif (decide (q11 < (y1.length : Int))) then I13 q11 (0 : Int) q12 else some q12)
def f12_l10 (a0 : Int × tL × List Int) (y1 : List tA) (y2 : List tV) (n : Nat) (q11 : Int) (q12 : List tM) : Option (List tM) :=
  iter (X := Int × List tM) (fun L x => (fun L10 => f12_b10 K a0 y1 y2 (fun c0 d0 d1 => f12_l13 K a0 c0 y1 y2 L10 K d0 d1) L10 x.1 x.2) (fun v0 v1 => L (v0, v1))) n (q11, q12)
def f12_g (a0 : Int × tL × List Int) (I10 : (List tA) → (List tV) → Int → (List tM) → Option (List tM)) : Option (List tM) :=
  (f38G K a0.1 a0.2.1).bind fun y1 => (f39G K a0.2.1).bind fun y2 => I10 y1 y2 (0 : Int) []
def f12G (a0 : Int × tL × List Int) : Option (List tM) :=
  f12_g K a0 (fun c0 c1 d0 d1 => f12_l10 K a0 c0 c1 K d0 d1)
def f12M : Mdl := ⟨[(.ro, (.cons sI (.cons sL (.list 2 sI))))], [(.list 47 sM)], fun x => f12G K x.1⟩
def f12_k10 (a0 : Int × tL × List Int) (lr : LR (List tM)) : Ex → Fr → Option (List tM) :=
  contC (f12E K) 1 lr f12C [1, 1, 1, 0, 1, 0] (fM (f12E K) Tryz.f12 (f12M K) (a0, ()))
def f12_j10 (a0 : Int × tL × List Int) (lr : LR (List tM)) (y1 : List tA) (y2 : List tV) (bq11 : Int) (bq12 : List tM) : Option (List tM) :=
  lr (selC f12C [1, 1, 1, 0, 1, 0, 0]) (f12_fr10 a0 y1 y2 bq11 bq12) (f12_k10 K a0 lr)
def f12_k13 (a0 : Int × tL × List Int) (y1 : List tA) (y2 : List tV) (F10 : Fr → Option (List tM)) (bq11 : Int) (bq12 : List tM) (lr : LR (List tM)) : Ex → Fr → Option (List tM) :=
  contC (f12E K) 1 lr (selC f12C [1, 1, 1, 0, 1, 0, 0]) [1, 0, 0, 1, 0] (loopK 1 (f12_fr10 a0 y1 y2 bq11 bq12) F10 (f12_k10 K a0 lr))
def f12_j13 (a0 : Int × tL × List Int) (y1 : List tA) (y2 : List tV) (F10 : Fr → Option (List tM)) (bq11 : Int) (bq12 : List tM) (lr : LR (List tM)) (q11 bq14 : Int) (bq15 : List tM) : Option (List tM) :=
  lr (selC f12C [1, 1, 1, 0, 1, 0, 0, 1, 0, 0, 1, 0, 0]) (f12_fr13 a0 q11 y1 y2 bq14 bq15) (f12_k13 K a0 y1 y2 F10 bq11 bq12 lr)
omit K
def f52E (K : Nat) (rec : Int → Option ByteArray) : Env := ⟨[(52, ⟨[(.ro, sI)], [.str], fun x => rec x.1⟩)], tys, eqs, mts, K, [0, 2, 4], [], [], [], [], [], [], false⟩
def f52_s (K : Nat) (rec : Int → Option ByteArray) (a0 : Int) : Option ByteArray :=
  (bif (decide (a0 < (10 : Int))) then some (strOfNums [(IntKind.u8.wrap (w ((48 : Int) + a0)))]) else (rec (w (a0.tdiv (10 : Int)))).bind fun y1 => (bif (Nat.ble (y1.size + (strOfNums [(IntKind.u8.wrap (w ((48 : Int) + (a0.tmod (10 : Int)))))]).size) 9223372036854775807) then some (y1 ++ (strOfNums [(IntKind.u8.wrap (w ((48 : Int) + (a0.tmod (10 : Int)))))])) else none))
def f52R (K : Nat) : Nat → Int → Option ByteArray
  | 0 => fun _ => none
  | n + 1 => fun a0 => f52_s K (f52R K n) a0
def f52G (K : Nat) (a0 : Int) : Option ByteArray := f52R K K a0
def f52M (K : Nat) : Mdl := ⟨[(.ro, sI)], [.str], fun x => f52G K x.1⟩
include K
def f95E : Env := eE K [(52, f52M K)] [0, 2, 4]
def f95G (a0 : Int) : Option ByteArray :=
  (bif (decide (a0 < (0 : Int))) then (f52G K (w (0 - a0))).bind fun y1 => (bif (Nat.ble ((bs [45]).size + y1.size) 9223372036854775807) then some ((bs [45]) ++ y1) else none) else (f52G K a0).bind fun y2 => some y2)
def f95M : Mdl := ⟨[(.ro, sI)], [.str], fun x => f95G K x.1⟩
def f85E : Env := eE K [(95, f95M K)] [0, 1, 4, 5, 6, 10, 14]
def f85_b3 (a0 : List Int) (a1 : ByteArray) (L3 : ByteArray → Int → Option ByteArray) (q4 : ByteArray) (q5 : Int) : Option ByteArray :=
  (bif (decide (q5 < (a0.length : Int))) then (bif (decide (q5 > (0 : Int))) then (bif (Nat.ble (q4.size + a1.size) 9223372036854775807) then (bif (decide (0 ≤ q5) && decide (q5 < (a0.length : Int))) then (f95G K (a0.getD ((0 : Int) + q5).toNat (0 : Int))).bind fun y6 => (bif (Nat.ble ((q4 ++ a1).size + y6.size) 9223372036854775807) then L3 ((q4 ++ a1) ++ y6) (w (q5 + (1 : Int))) else none) else none) else none) else (bif (decide (0 ≤ q5) && decide (q5 < (a0.length : Int))) then (f95G K (a0.getD ((0 : Int) + q5).toNat (0 : Int))).bind fun y7 => (bif (Nat.ble (q4.size + y7.size) 9223372036854775807) then L3 (q4 ++ y7) (w (q5 + (1 : Int))) else none) else none)) else some q4)
def f85_l3 (a0 : List Int) (a1 : ByteArray) (n : Nat) (q4 : ByteArray) (q5 : Int) : Option ByteArray :=
  iter (X := ByteArray × Int) (fun L x => f85_b3 K a0 a1 (fun v0 v1 => L (v0, v1)) x.1 x.2) n (q4, q5)
def f85_g (K : Nat) (a0 : List Int) (a1 : ByteArray) (I3 : ByteArray → Int → Option ByteArray) : Option ByteArray :=
  I3 ByteArray.empty (0 : Int)
def f85G (a0 : List Int) (a1 : ByteArray) : Option ByteArray :=
  f85_g K a0 a1 (fun d0 d1 => f85_l3 K a0 a1 K d0 d1)
def f85M : Mdl := ⟨[(.ro, (.list 2 sI)), (.ro, .str)], [.str], fun x => f85G K x.1 x.2.1⟩
def f85_k3 (a0 : List Int) (a1 : ByteArray) (lr : LR ByteArray) : Ex → Fr → Option ByteArray :=
  contC (f85E K) 1 lr f85C [1, 1, 0, 1, 0] (fM (f85E K) Tryz.f85 (f85M K) (a0, a1, ()))
def f85_j3 (a0 : List Int) (a1 : ByteArray) (lr : LR ByteArray) (bq4 : ByteArray) (bq5 : Int) : Option ByteArray :=
  lr (selC f85C [1, 1, 0, 1, 0, 0]) (f85_fr3 a0 a1 bq4 bq5) (f85_k3 K a0 a1 lr)
def f41E : Env := eE K [(78, f78M K), (85, f85M K)] [0, 1, 2, 5]
def f41G (a0 : Int × Int × Int) : Option ByteArray :=
  (f78G K a0).bind fun y1 => (bif (!y1) then some ByteArray.empty else (f85G K [a0.1, a0.2.1, a0.2.2] (bs [44])).bind fun y2 => some y2)
def f41M : Mdl := ⟨[(.ro, sL)], [.str], fun x => f41G K x.1⟩
def f13E : Env := eE K [(41, f41M K)] [0, 1, 2]
def f13G (a0 : Int × tL × List Int) : Option ByteArray :=
  (bif (decide (0 ≤ a0.1) && decide (a0.1 ≤ (w (a0.1 + (1 : Int)))) && decide ((w (a0.1 + (1 : Int))) ≤ ((bs [83, 72]).size : Int))) then (bif (Nat.ble ((bs [102, 114, 97, 109, 101, 32]).size + ((bs [83, 72]).extract a0.1.toNat (w (a0.1 + (1 : Int))).toNat).size) 9223372036854775807) then (bif (Nat.ble (((bs [102, 114, 97, 109, 101, 32]) ++ ((bs [83, 72]).extract a0.1.toNat (w (a0.1 + (1 : Int))).toNat)).size + (bs [10, 108, 97, 116, 116, 105, 99, 101, 32]).size) 9223372036854775807) then (f41G K a0.2.1).bind fun y1 => (bif (Nat.ble ((((bs [102, 114, 97, 109, 101, 32]) ++ ((bs [83, 72]).extract a0.1.toNat (w (a0.1 + (1 : Int))).toNat)) ++ (bs [10, 108, 97, 116, 116, 105, 99, 101, 32])).size + y1.size) 9223372036854775807) then (bif (Nat.ble (((((bs [102, 114, 97, 109, 101, 32]) ++ ((bs [83, 72]).extract a0.1.toNat (w (a0.1 + (1 : Int))).toNat)) ++ (bs [10, 108, 97, 116, 116, 105, 99, 101, 32])) ++ y1).size + (bs [10]).size) 9223372036854775807) then some (((((bs [102, 114, 97, 109, 101, 32]) ++ ((bs [83, 72]).extract a0.1.toNat (w (a0.1 + (1 : Int))).toNat)) ++ (bs [10, 108, 97, 116, 116, 105, 99, 101, 32])) ++ y1) ++ (bs [10])) else none) else none) else none) else none) else none)
def f13M : Mdl := ⟨[(.ro, (.cons sI (.cons sL (.list 2 sI))))], [.str], fun x => f13G K x.1⟩
def f14E : Env := eE K [(42, f42M K)] [0]
def f14G : Option tM :=
  (f42G K).bind fun y1 => some (y1, (0 : Int), (0 : Int))
def f14M : Mdl := ⟨[], [sM], fun x => f14G K ⟩
def f94E : Env := eE K [] [0, 1, 2]
def f94G (K : Nat) (a0 : Int × Int × Int × Int) : Option (List Int) :=
  some [a0.1, a0.2.1, a0.2.2.1, a0.2.2.2]
def f94M : Mdl := ⟨[(.ro, sA)], [(.list 2 sI)], fun x => f94G K x.1⟩
def f162E : Env := eE K [] [0, 1, 4, 5, 15, 26]
def f162_b2 (K : Nat) (a0 a1 : List Int) (L2 : Int → Option Bool) (q3 : Int) : Option Bool :=
  (bif (bif (decide (q3 < (a0.length : Int))) then (decide (q3 < (a1.length : Int))) else false) then (bif (decide (0 ≤ q3) && decide (q3 < (a0.length : Int))) then (bif (decide (0 ≤ q3) && decide (q3 < (a1.length : Int))) then (bif ((a0.getD ((0 : Int) + q3).toNat (0 : Int)) != (a1.getD ((0 : Int) + q3).toNat (0 : Int))) then (bif (decide (0 ≤ q3) && decide (q3 < (a0.length : Int))) then (bif (decide (0 ≤ q3) && decide (q3 < (a1.length : Int))) then some (decide ((a0.getD ((0 : Int) + q3).toNat (0 : Int)) < (a1.getD ((0 : Int) + q3).toNat (0 : Int)))) else none) else none) else L2 (w (q3 + (1 : Int)))) else none) else none) else some (decide ((a0.length : Int) < (a1.length : Int))))
def f162_l2 (a0 a1 : List Int) (n : Nat) (q3 : Int) : Option Bool :=
  iter (X := Int) (fun L x => f162_b2 K a0 a1 (fun v0 => L v0) x) n q3
def f162_g (K : Nat) (a0 a1 : List Int) (I2 : Int → Option Bool) : Option Bool :=
  I2 (0 : Int)
def f162G (a0 a1 : List Int) : Option Bool :=
  f162_g K a0 a1 (fun d0 => f162_l2 K a0 a1 K d0)
def f162M : Mdl := ⟨[(.ro, (.list 2 sI)), (.ro, (.list 2 sI))], [.bool], fun x => f162G K x.1 x.2.1⟩
def f162_k2 (a0 a1 : List Int) (lr : LR Bool) : Ex → Fr → Option Bool :=
  contC (f162E K) 2 lr f162C [1, 0, 1, 0] (fM (f162E K) Tryz.f162 (f162M K) (a0, a1, ()))
def f162_j2 (a0 a1 : List Int) (lr : LR Bool) (bq3 : Int) : Option Bool :=
  lr (selC f162C [1, 0, 1, 0, 0]) (f162_fr2 a0 a1 bq3) (f162_k2 K a0 a1 lr)
def f129E : Env := eE K [(94, f94M K), (162, f162M K)] [0, 1, 2, 3, 4]
def f129G (a0 a1 : Int × Int × Int × Int) : Option Bool :=
  (f94G K a0).bind fun y1 => (f94G K a1).bind fun y2 => (f162G K y1 y2).bind fun y3 => some y3
def f129M : Mdl := ⟨[(.ro, sA), (.ro, sA)], [.bool], fun x => f129G K x.1 x.2.1⟩
def f130E : Env := eE K [] [0, 1, 2, 3, 4]
def f130G (K : Nat) (a0 a1 : Int × Int) : Option Bool :=
  some (bif (decide (a0.1 < a1.1)) then true else (bif (a0.1 == a1.1) then (decide (a0.2 < a1.2)) else false))
def f130M : Mdl := ⟨[(.ro, sV), (.ro, sV)], [.bool], fun x => f130G K x.1 x.2.1⟩
def f86E : Env := eE K [(129, f129M K), (130, f130M K)] [0, 1, 2, 3, 4, 9]
def f86G (a0 a1 : tA × Int × Int) : Option Bool :=
  (bif (!((a0.1.1 == a1.1.1) && ((a0.1.2.1 == a1.1.2.1) && ((a0.1.2.2.1 == a1.1.2.2.1) && (a0.1.2.2.2 == a1.1.2.2.2))))) then (f129G K a0.1 a1.1).bind fun y1 => some y1 else (f130G K a0.2 a1.2).bind fun y2 => some y2)
def f86M : Mdl := ⟨[(.ro, sM), (.ro, sM)], [.bool], fun x => f86G K x.1 x.2.1⟩
def f43E : Env := eE K [(86, f86M K)] [0, 1, 3, 4, 5, 6, 7, 12, 22]
def f43_b6 (a0 : List tM) (a1 : tA × Int × Int) (L6 : Int → Int → Option Int) (q7 q8 : Int) : Option Int :=
  (bif (decide (q7 < q8)) then (bif (decide (0 ≤ (w ((w (q7 + q8)).tdiv (2 : Int)))) && decide ((w ((w (q7 + q8)).tdiv (2 : Int))) < (a0.length : Int))) then (f86G K ((((a0.getD ((0 : Int) + (w ((w (q7 + q8)).tdiv (2 : Int)))).toNat zM).1).1, (((a0.getD ((0 : Int) + (w ((w (q7 + q8)).tdiv (2 : Int)))).toNat zM).1).2).1, ((((a0.getD ((0 : Int) + (w ((w (q7 + q8)).tdiv (2 : Int)))).toNat zM).1).2).2)), ((a0.getD ((0 : Int) + (w ((w (q7 + q8)).tdiv (2 : Int)))).toNat zM).2)) a1).bind fun y9 => (bif y9 then L6 (w ((w ((w (q7 + q8)).tdiv (2 : Int))) + (1 : Int))) q8 else L6 q7 (w ((w (q7 + q8)).tdiv (2 : Int)))) else none) else some q7)
def f43_l6 (a0 : List tM) (a1 : tA × Int × Int) (n : Nat) (q7 q8 : Int) : Option Int :=
  iter (X := Int × Int) (fun L x => f43_b6 K a0 a1 (fun v0 v1 => L (v0, v1)) x.1 x.2) n (q7, q8)
def f43_g (K : Nat) (a0 : List tM) (a1 : tA × Int × Int) (I6 : Int → Int → Option Int) : Option Int :=
  I6 (0 : Int) (a0.length : Int)
def f43G (a0 : List tM) (a1 : tA × Int × Int) : Option Int :=
  f43_g K a0 a1 (fun d0 d1 => f43_l6 K a0 a1 K d0 d1)
def f43M : Mdl := ⟨[(.ro, (.list 47 sM)), (.ro, sM)], [sI], fun x => f43G K x.1 x.2.1⟩
def f43_k6 (a0 : List tM) (a1 : tA × Int × Int) (lr : LR Int) : Ex → Fr → Option Int :=
  contC (f43E K) 1 lr f43C [1, 1, 0, 0] (fM (f43E K) Tryz.f43 (f43M K) (a0, a1, ()))
def f43_j6 (a0 : List tM) (a1 : tA × Int × Int) (lr : LR Int) (bq7 bq8 : Int) : Option Int :=
  lr (selC f43C [1, 1, 0, 0, 0]) (f43_fr6 a0 a1 bq7 bq8) (f43_k6 K a0 a1 lr)
def f15E : Env := eE K [(43, f43M K)] [0, 1, 3, 4, 5]
def f15G (a0 : List tM) (a1 : tA × Int × Int) : Option Bool :=
  (f43G K a0 a1).bind fun y1 => (bif ((decide (0 ≤ y1) && decide (y1 < (a0.length : Int))) || (!(decide (y1 < (a0.length : Int))))) then some (bif (decide (y1 < (a0.length : Int))) then ((((a0.getD ((0 : Int) + y1).toNat zM).1).1 == a1.1.1) && (((((a0.getD ((0 : Int) + y1).toNat zM).1).2).1 == a1.1.2.1) && ((((((a0.getD ((0 : Int) + y1).toNat zM).1).2).2).1 == a1.1.2.2.1) && ((((((a0.getD ((0 : Int) + y1).toNat zM).1).2).2).2 == a1.1.2.2.2) && ((((a0.getD ((0 : Int) + y1).toNat zM).2).1 == a1.2.1) && (((a0.getD ((0 : Int) + y1).toNat zM).2).2 == a1.2.2)))))) else false) else none)
def f15M : Mdl := ⟨[(.ro, (.list 47 sM)), (.ro, sM)], [.bool], fun x => f15G K x.1 x.2.1⟩
def f88E : Env := eE K [] [0, 1, 2, 3, 4]
def f88G (K : Nat) (a0 a1 : Int × Int × Int × Int) : Option tA :=
  some ((w ((w (a0.1 * a1.1)) + (w (a0.2.1 * a1.2.2.1)))), (w ((w (a0.1 * a1.2.1)) + (w (a0.2.1 * a1.2.2.2)))), (w ((w (a0.2.2.1 * a1.1)) + (w (a0.2.2.2 * a1.2.2.1)))), (w ((w (a0.2.2.1 * a1.2.1)) + (w (a0.2.2.2 * a1.2.2.2)))))
def f88M : Mdl := ⟨[(.ro, sA), (.ro, sA)], [sA], fun x => f88G K x.1 x.2.1⟩
def f45E : Env := eE K [(88, f88M K), (89, f89M K), (90, f90M K)] [0, 1, 2, 3, 4]
def f45G (a0 a1 : tA × Int × Int) : Option tM :=
  (f88G K a0.1 a1.1).bind fun y1 => (f90G K a0.1 a1.2).bind fun y2 => (f89G K y2 a0.2).bind fun y3 => some (y1, y3)
def f45M : Mdl := ⟨[(.ro, sM), (.ro, sM)], [sM], fun x => f45G K x.1 x.2.1⟩
def f44E : Env := eE K [(87, f87M K)] [0, 1, 2, 3, 4]
def f44G (a0 : Int × Int × Int) (a1 : tA × Int × Int) : Option tM :=
  (f87G K a0 a1.2).bind fun y1 => some (a1.1, y1)
def f44M : Mdl := ⟨[(.ro, sL), (.ro, sM)], [sM], fun x => f44G K x.1 x.2.1⟩
def f46E : Env := eE K [(43, f43M K)] [0, 1, 3, 4, 5, 20]
def f46G (a0 : List tM) (a1 : tA × Int × Int) : Option (List tM) :=
  (f43G K a0 a1).bind fun y1 => (bif ((decide (0 ≤ y1) && decide (y1 < (a0.length : Int))) || (!(decide (y1 < (a0.length : Int))))) then (bif (bif (decide (y1 < (a0.length : Int))) then ((((a0.getD ((0 : Int) + y1).toNat zM).1).1 == a1.1.1) && (((((a0.getD ((0 : Int) + y1).toNat zM).1).2).1 == a1.1.2.1) && ((((((a0.getD ((0 : Int) + y1).toNat zM).1).2).2).1 == a1.1.2.2.1) && ((((((a0.getD ((0 : Int) + y1).toNat zM).1).2).2).2 == a1.1.2.2.2) && ((((a0.getD ((0 : Int) + y1).toNat zM).2).1 == a1.2.1) && (((a0.getD ((0 : Int) + y1).toNat zM).2).2 == a1.2.2)))))) else false) then some a0 else (bif (decide (0 ≤ (0 : Int)) && decide ((0 : Int) ≤ y1) && decide (y1 ≤ (a0.length : Int))) then (bif (Nat.ble (0 + ((a0.take ((0 : Int) + y1).toNat).drop 0).length) (lim 48)) then (bif (Nat.ble (([] ++ ((a0.take ((0 : Int) + y1).toNat).drop 0)).length + [a1].length) (lim 48)) then (bif (decide (0 ≤ y1) && decide (y1 ≤ (a0.length : Int)) && decide ((a0.length : Int) ≤ (a0.length : Int))) then (bif (Nat.ble ((([] ++ ((a0.take ((0 : Int) + y1).toNat).drop 0)) ++ [a1]).length + ((a0.take ((0 : Int) + (a0.length : Int)).toNat).drop ((0 : Int) + y1).toNat).length) (lim 48)) then some ((([] ++ ((a0.take ((0 : Int) + y1).toNat).drop 0)) ++ [a1]) ++ ((a0.take ((0 : Int) + (a0.length : Int)).toNat).drop ((0 : Int) + y1).toNat)) else none) else none) else none) else none) else none)) else none)
def f46M : Mdl := ⟨[(.mv, (.list 47 sM)), (.ro, sM)], [(.list 47 sM)], fun x => f46G K x.1 x.2.1⟩
def f16E : Env := eE K [(14, f14M K), (15, f15M K), (44, f44M K), (45, f45M K), (46, f46M K)] [0, 1, 2, 4, 5, 6, 7, 8, 9, 17, 23, 40]
def f16_b21 (a0 : Int × Int × Int) (a1 : List tM) (q18 : Int) (q20 : List tM) (L17 L21 : Int → (List tM) → (List tM) → Option (List tM)) (q22 : Int) (q23 q24 : List tM) : Option (List tM) :=
  (bif (decide (q22 < (a1.length : Int))) then (bif (decide (0 ≤ q22) && decide (q22 < (a1.length : Int))) then (bif (decide (0 ≤ q18) && decide (q18 < (q24.length : Int))) then (f45G K ((((a1.getD ((0 : Int) + q22).toNat zM).1).1, (((a1.getD ((0 : Int) + q22).toNat zM).1).2).1, ((((a1.getD ((0 : Int) + q22).toNat zM).1).2).2)), ((a1.getD ((0 : Int) + q22).toNat zM).2)) ((((q24.getD ((0 : Int) + q18).toNat zM).1).1, (((q24.getD ((0 : Int) + q18).toNat zM).1).2).1, ((((q24.getD ((0 : Int) + q18).toNat zM).1).2).2)), ((q24.getD ((0 : Int) + q18).toNat zM).2))).bind fun y25 => (f44G K a0 y25).bind fun y26 => (f15G K q23 y26).bind fun y27 => (bif (!y27) then (f46G K q23 y26).bind fun y28 => (bif (Nat.ble (q24.length + [y26].length) (lim 48)) then L21 (w (q22 + (1 : Int))) y28 (q24 ++ [y26]) else none) else L21 (w (q22 + (1 : Int))) q23 q24) else none) else none) else L17 (w (q18 + (1 : Int))) q23 q24)
def f16_l21 (a0 : Int × Int × Int) (a1 : List tM) (q18 : Int) (q20 : List tM) (L17 : Int → (List tM) → (List tM) → Option (List tM)) (n : Nat) (q22 : Int) (q23 q24 : List tM) : Option (List tM) :=
  iter (X := Int × List tM × List tM) (fun L x => f16_b21 K a0 a1 q18 q20 L17 (fun v0 v1 v2 => L (v0, v1, v2)) x.1 x.2.1 x.2.2) n (q22, q23, q24)
def f16_b17 (K : Nat) (a0 : Int × Int × Int) (a1 : List tM) (I21 : Int → (List tM) → Int → (List tM) → (List tM) → Option (List tM)) (L17 : Int → (List tM) → (List tM) → Option (List tM)) (q18 : Int) (q19 q20 : List tM) : Option (List tM) :=
  (bif (decide (q18 < (q20.length : Int))) then I21 q18 q20 (0 : Int) q19 q20 else some q19)
def f16_l17 (a0 : Int × Int × Int) (a1 : List tM) (n : Nat) (q18 : Int) (q19 q20 : List tM) : Option (List tM) :=
  iter (X := Int × List tM × List tM) (fun L x => (fun L17 => f16_b17 K a0 a1 (fun c0 c1 d0 d1 d2 => f16_l21 K a0 a1 c0 c1 L17 K d0 d1 d2) L17 x.1 x.2.1 x.2.2) (fun v0 v1 v2 => L (v0, v1, v2))) n (q18, q19, q20)
def f16_g (a0 : Int × Int × Int) (a1 : List tM) (I17 : Int → (List tM) → (List tM) → Option (List tM)) : Option (List tM) :=
  (f14G K).bind fun y1 => (f14G K).bind fun y2 => I17 (0 : Int) [y1] [y2]
def f16G (a0 : Int × Int × Int) (a1 : List tM) : Option (List tM) :=
  f16_g K a0 a1 (fun d0 d1 d2 => f16_l17 K a0 a1 K d0 d1 d2)
def f16M : Mdl := ⟨[(.ro, sL), (.ro, (.list 47 sM))], [(.list 47 sM)], fun x => f16G K x.1 x.2.1⟩
def f16_k17 (a0 : Int × Int × Int) (a1 : List tM) (lr : LR (List tM)) : Ex → Fr → Option (List tM) :=
  contC (f16E K) 1 lr f16C [1, 1, 1, 0, 1, 0] (fM (f16E K) Tryz.f16 (f16M K) (a0, a1, ()))
def f16_j17 (a0 : Int × Int × Int) (a1 : List tM) (lr : LR (List tM)) (bq18 : Int) (bq19 bq20 : List tM) : Option (List tM) :=
  lr (selC f16C [1, 1, 1, 0, 1, 0, 0]) (f16_fr17 a0 a1 bq18 bq19 bq20) (f16_k17 K a0 a1 lr)
def f16_k21 (a0 : Int × Int × Int) (a1 : List tM) (F17 : Fr → Option (List tM)) (bq18 : Int) (bq19 bq20 : List tM) (lr : LR (List tM)) : Ex → Fr → Option (List tM) :=
  contC (f16E K) 1 lr (selC f16C [1, 1, 1, 0, 1, 0, 0]) [1, 0, 0, 1, 0] (loopK 1 (f16_fr17 a0 a1 bq18 bq19 bq20) F17 (f16_k17 K a0 a1 lr))
def f16_j21 (a0 : Int × Int × Int) (a1 : List tM) (F17 : Fr → Option (List tM)) (bq18 : Int) (bq19 bq20 : List tM) (lr : LR (List tM)) (q18 : Int) (q20 : List tM) (bq22 : Int) (bq23 bq24 : List tM) : Option (List tM) :=
  lr (selC f16C [1, 1, 1, 0, 1, 0, 0, 1, 0, 0, 1, 0, 0]) (f16_fr21 a0 a1 q18 q20 bq22 bq23 bq24) (f16_k21 K a0 a1 F17 bq18 bq19 bq20 lr)
def f93E : Env := eE K [(79, f79M K)] [0, 1, 2]
def f93G (a0 : Int × Int) : Option Bool :=
  (f79G K a0.1 (-1000 : Int) (1000 : Int)).bind fun y1 => ((bif y1 then f79G K a0.2 (-1000 : Int) (1000 : Int) else some false)).bind fun y2 => some (bif y1 then y2 else false)
def f93M : Mdl := ⟨[(.ro, sV)], [.bool], fun x => f93G K x.1⟩
def f131E : Env := eE K [(93, f93M K)] [0, 1, 2]
def f131G (a0 : Int × Int × Int × Int) : Option Bool :=
  (f93G K (a0.1, a0.2.1)).bind fun y1 => ((bif y1 then f93G K a0.2.2 else some false)).bind fun y2 => some (bif y1 then y2 else false)
def f131M : Mdl := ⟨[(.ro, sA)], [.bool], fun x => f131G K x.1⟩
def f132E : Env := eE K [] [0, 1, 2]
def f132G (K : Nat) (a0 : Int × Int × Int × Int) : Option Int :=
  some (w ((w (a0.1 * a0.2.2.2)) - (w (a0.2.1 * a0.2.2.1))))
def f132M : Mdl := ⟨[(.ro, sA)], [sI], fun x => f132G K x.1⟩
def f91E : Env := eE K [(131, f131M K), (132, f132M K)] [0, 1, 2]
def f91G (a0 : Int × Int × Int × Int) : Option Bool :=
  (f131G K a0).bind fun y1 => ((bif y1 then f132G K a0 else some (0 : Int))).bind fun y2 => ((bif (y1 && (!(y2 == (1 : Int)))) then f132G K a0 else some (0 : Int))).bind fun y3 => some (bif y1 then (bif (y2 == (1 : Int)) then true else (y3 == (-1 : Int))) else false)
def f91M : Mdl := ⟨[(.ro, sA)], [.bool], fun x => f91G K x.1⟩
def f133E : Env := eE K [(42, f42M K), (88, f88M K), (131, f131M K)] [0, 1, 2, 3, 4, 7, 15, 18]
def f133_b6 (a0 : Int × Int × Int × Int) (L6 : Int → Int → Int → Int → Int → Option Int) (q7 q8 q9 q10 q11 : Int) : Option Int :=
  (bif (decide (q7 ≤ (6 : Int))) then (f88G K a0 (q8, q9, q10, q11)).bind fun y12 => (f131G K y12).bind fun y13 => (bif (!y13) then some (0 : Int) else (f42G K).bind fun y14 => (bif ((y12.1 == y14.1) && ((y12.2.1 == y14.2.1) && ((y12.2.2.1 == y14.2.2.1) && (y12.2.2.2 == y14.2.2.2)))) then some q7 else L6 (w (q7 + (1 : Int))) y12.1 y12.2.1 y12.2.2.1 y12.2.2.2)) else some (0 : Int))
def f133_l6 (a0 : Int × Int × Int × Int) (n : Nat) (q7 q8 q9 q10 q11 : Int) : Option Int :=
  iter (X := Int × Int × Int × Int × Int) (fun L x => f133_b6 K a0 (fun v0 v1 v2 v3 v4 => L (v0, v1, v2, v3, v4)) x.1 x.2.1 x.2.2.1 x.2.2.2.1 x.2.2.2.2) n (q7, q8, q9, q10, q11)
def f133_g (a0 : Int × Int × Int × Int) (I6 : Int → Int → Int → Int → Int → Option Int) : Option Int :=
  (f42G K).bind fun y1 => I6 (1 : Int) y1.1 y1.2.1 y1.2.2.1 y1.2.2.2
def f133G (a0 : Int × Int × Int × Int) : Option Int :=
  f133_g K a0 (fun d0 d1 d2 d3 d4 => f133_l6 K a0 K d0 d1 d2 d3 d4)
def f133M : Mdl := ⟨[(.ro, sA)], [sI], fun x => f133G K x.1⟩
def f133_k6 (a0 : Int × Int × Int × Int) (lr : LR Int) : Ex → Fr → Option Int :=
  contC (f133E K) 0 lr f133C [1, 1, 0, 1, 0] (fM (f133E K) Tryz.f133 (f133M K) (a0, ()))
def f133_j6 (a0 : Int × Int × Int × Int) (lr : LR Int) (bq7 bq8 bq9 bq10 bq11 : Int) : Option Int :=
  lr (selC f133C [1, 1, 0, 1, 0, 0]) (f133_fr6 a0 bq7 bq8 bq9 bq10 bq11) (f133_k6 K a0 lr)
def f92E : Env := eE K [(132, f132M K), (133, f133M K)] [0, 1, 2, 3, 9]
def f92G (a0 : Int × Int × Int × Int) : Option Int :=
  (f132G K a0).bind fun y1 => (bif (y1 == (1 : Int)) then (f133G K a0).bind fun y2 => some y2 else (f133G K a0).bind fun y3 => (bif (y3 == (2 : Int)) then some (-2 : Int) else some (0 : Int)))
def f92M : Mdl := ⟨[(.ro, sA)], [sI], fun x => f92G K x.1⟩
def f47E : Env := eE K [(91, f91M K), (92, f92M K), (93, f93M K)] [0, 1, 2]
def f47G (a0 : tA × Int × Int) : Option Bool :=
  (f91G K a0.1).bind fun y1 => ((bif y1 then f92G K a0.1 else some (0 : Int))).bind fun y2 => ((bif (bif y1 then (y2 != (0 : Int)) else false) then f93G K a0.2 else some false)).bind fun y3 => some (bif (bif y1 then (y2 != (0 : Int)) else false) then y3 else false)
def f47M : Mdl := ⟨[(.ro, sM)], [.bool], fun x => f47G K x.1⟩
def f48E : Env := eE K [(85, f85M K), (91, f91M K), (94, f94M K)] [0, 1, 2, 5]
def f48G (a0 : Int × Int × Int × Int) : Option ByteArray :=
  (f91G K a0).bind fun y1 => (bif (!y1) then some ByteArray.empty else (f94G K a0).bind fun y2 => (f85G K y2 (bs [44])).bind fun y3 => some y3)
def f48M : Mdl := ⟨[(.ro, sA)], [.str], fun x => f48G K x.1⟩
def f49E : Env := eE K [(93, f93M K), (95, f95M K)] [0, 1, 2, 5]
def f49G (a0 : Int × Int) : Option ByteArray :=
  (f93G K a0).bind fun y1 => (bif (!y1) then some ByteArray.empty else (f95G K a0.1).bind fun y2 => (bif (Nat.ble (y2.size + (bs [44]).size) 9223372036854775807) then (f95G K a0.2).bind fun y3 => (bif (Nat.ble ((y2 ++ (bs [44])).size + y3.size) 9223372036854775807) then some ((y2 ++ (bs [44])) ++ y3) else none) else none))
def f49M : Mdl := ⟨[(.ro, sV)], [.str], fun x => f49G K x.1⟩
def f17E : Env := eE K [(47, f47M K), (48, f48M K), (49, f49M K)] [0, 1, 2, 5]
def f17G (a0 : tA × Int × Int) : Option ByteArray :=
  (f47G K a0).bind fun y1 => (bif (!y1) then some ByteArray.empty else (f48G K a0.1).bind fun y2 => (bif (Nat.ble (y2.size + (bs [59]).size) 9223372036854775807) then (f49G K a0.2).bind fun y3 => (bif (Nat.ble ((y2 ++ (bs [59])).size + y3.size) 9223372036854775807) then some ((y2 ++ (bs [59])) ++ y3) else none) else none))
def f17M : Mdl := ⟨[(.ro, sM)], [.str], fun x => f17G K x.1⟩
def f97E : Env := eE K [(84, f84M K), (87, f87M K)] [0, 1, 2, 3, 4, 5, 6]
def f97G (a0 : Int × Int × Int) (a1 : tA × Int × Int) (a2 : Int × Int) : Option tV :=
  (f84G K a1 a2).bind fun y1 => (f87G K a0 y1).bind fun y2 => some y2
def f97M : Mdl := ⟨[(.ro, sL), (.ro, sM), (.ro, sV)], [sV], fun x => f97G K x.1 x.2.1 x.2.2.1⟩
def f96E : Env := eE K [(130, f130M K)] [0, 1, 3, 4, 5, 17, 31]
def f96_b3 (a0 : List tV) (a1 : Int × Int) (L3 : Int → Option (List tV)) (q4 : Int) : Option (List tV) :=
  (bif ((decide (0 ≤ q4) && decide (q4 < (a0.length : Int))) || (!(decide (q4 < (a0.length : Int))))) then ((bif (decide (q4 < (a0.length : Int))) then f130G K (a0.getD ((0 : Int) + q4).toNat ((0 : Int), (0 : Int))) a1 else some false)).bind fun y5 => (bif (bif (decide (q4 < (a0.length : Int))) then y5 else false) then L3 (w (q4 + (1 : Int))) else (bif ((decide (0 ≤ q4) && decide (q4 < (a0.length : Int))) || (!(decide (q4 < (a0.length : Int))))) then (bif (bif (decide (q4 < (a0.length : Int))) then (((a0.getD ((0 : Int) + q4).toNat ((0 : Int), (0 : Int))).1 == a1.1) && ((a0.getD ((0 : Int) + q4).toNat ((0 : Int), (0 : Int))).2 == a1.2)) else false) then some a0 else (bif (decide (0 ≤ (0 : Int)) && decide ((0 : Int) ≤ q4) && decide (q4 ≤ (a0.length : Int))) then (bif (Nat.ble (0 + ((a0.take ((0 : Int) + q4).toNat).drop 0).length) (lim 16)) then (bif (Nat.ble (([] ++ ((a0.take ((0 : Int) + q4).toNat).drop 0)).length + [a1].length) (lim 16)) then (bif (decide (0 ≤ q4) && decide (q4 ≤ (a0.length : Int)) && decide ((a0.length : Int) ≤ (a0.length : Int))) then (bif (Nat.ble ((([] ++ ((a0.take ((0 : Int) + q4).toNat).drop 0)) ++ [a1]).length + ((a0.take ((0 : Int) + (a0.length : Int)).toNat).drop ((0 : Int) + q4).toNat).length) (lim 16)) then some ((([] ++ ((a0.take ((0 : Int) + q4).toNat).drop 0)) ++ [a1]) ++ ((a0.take ((0 : Int) + (a0.length : Int)).toNat).drop ((0 : Int) + q4).toNat)) else none) else none) else none) else none) else none)) else none)) else none)
def f96_l3 (a0 : List tV) (a1 : Int × Int) (n : Nat) (q4 : Int) : Option (List tV) :=
  iter (X := Int) (fun L x => f96_b3 K a0 a1 (fun v0 => L v0) x) n q4
def f96_g (K : Nat) (a0 : List tV) (a1 : Int × Int) (I3 : Int → Option (List tV)) : Option (List tV) :=
  I3 (0 : Int)
def f96G (a0 : List tV) (a1 : Int × Int) : Option (List tV) :=
  f96_g K a0 a1 (fun d0 => f96_l3 K a0 a1 K d0)
def f96M : Mdl := ⟨[(.mv, (.list 45 sV)), (.ro, sV)], [(.list 45 sV)], fun x => f96G K x.1 x.2.1⟩
def f96_k3 (a0 : List tV) (a1 : Int × Int) (lr : LR (List tV)) : Ex → Fr → Option (List tV) :=
  contC (f96E K) 1 lr f96C [1, 1, 0, 0] (fM (f96E K) Tryz.f96 (f96M K) (a0, a1, ()))
def f96_j3 (a0 : List tV) (a1 : Int × Int) (lr : LR (List tV)) (bq4 : Int) : Option (List tV) :=
  lr (selC f96C [1, 1, 0, 0, 0]) (f96_fr3 a0 a1 bq4) (f96_k3 K a0 a1 lr)
def f50E : Env := eE K [(96, f96M K), (97, f97M K)] [0, 1, 2, 3, 5, 6, 7, 8, 13]
def f50_b4 (a0 : Int × Int × Int) (a1 : List tM) (a2 : Int × Int) (L4 : Int → (List tV) → Option (List tV)) (q5 : Int) (q6 : List tV) : Option (List tV) :=
  (bif (decide (q5 < (a1.length : Int))) then (bif (decide (0 ≤ q5) && decide (q5 < (a1.length : Int))) then (f97G K a0 ((((a1.getD ((0 : Int) + q5).toNat zM).1).1, (((a1.getD ((0 : Int) + q5).toNat zM).1).2).1, ((((a1.getD ((0 : Int) + q5).toNat zM).1).2).2)), ((a1.getD ((0 : Int) + q5).toNat zM).2)) a2).bind fun y7 => (f96G K q6 y7).bind fun y8 => L4 (w (q5 + (1 : Int))) y8 else none) else some q6)
def f50_l4 (a0 : Int × Int × Int) (a1 : List tM) (a2 : Int × Int) (n : Nat) (q5 : Int) (q6 : List tV) : Option (List tV) :=
  iter (X := Int × List tV) (fun L x => f50_b4 K a0 a1 a2 (fun v0 v1 => L (v0, v1)) x.1 x.2) n (q5, q6)
def f50_g (K : Nat) (a0 : Int × Int × Int) (a1 : List tM) (a2 : Int × Int) (I4 : Int → (List tV) → Option (List tV)) : Option (List tV) :=
  I4 (0 : Int) []
def f50G (a0 : Int × Int × Int) (a1 : List tM) (a2 : Int × Int) : Option (List tV) :=
  f50_g K a0 a1 a2 (fun d0 d1 => f50_l4 K a0 a1 a2 K d0 d1)
def f50M : Mdl := ⟨[(.ro, sL), (.ro, (.list 47 sM)), (.ro, sV)], [(.list 45 sV)], fun x => f50G K x.1 x.2.1 x.2.2.1⟩
def f50_k4 (a0 : Int × Int × Int) (a1 : List tM) (a2 : Int × Int) (lr : LR (List tV)) : Ex → Fr → Option (List tV) :=
  contC (f50E K) 1 lr f50C [1, 1, 0, 1, 0] (fM (f50E K) Tryz.f50 (f50M K) (a0, a1, a2, ()))
def f50_j4 (a0 : Int × Int × Int) (a1 : List tM) (a2 : Int × Int) (lr : LR (List tV)) (bq5 : Int) (bq6 : List tV) : Option (List tV) :=
  lr (selC f50C [1, 1, 0, 1, 0, 0]) (f50_fr4 a0 a1 a2 bq5 bq6) (f50_k4 K a0 a1 a2 lr)
def f18E : Env := eE K [(39, f39M K), (50, f50M K)] [0, 1, 2, 4, 5, 6, 7, 8, 15, 32]
def f18_b4 (a0 : Int × Int × Int) (a1 : List tM) (y1 : List tV) (L4 : Int → (List (List tV)) → Option (List (List tV))) (q5 : Int) (q6 : List (List tV)) : Option (List (List tV)) :=
  (bif (decide (q5 < (y1.length : Int))) then (bif (decide (0 ≤ q5) && decide (q5 < (y1.length : Int))) then (f50G K a0 a1 (y1.getD ((0 : Int) + q5).toNat ((0 : Int), (0 : Int)))).bind fun y7 => (bif (decide (0 ≤ (0 : Int)) && decide ((0 : Int) < (y7.length : Int))) then (bif (decide (0 ≤ q5) && decide (q5 < (y1.length : Int))) then (bif (((y7.getD ((0 : Int) + (0 : Int)).toNat ((0 : Int), (0 : Int))).1 == (y1.getD ((0 : Int) + q5).toNat ((0 : Int), (0 : Int))).1) && ((y7.getD ((0 : Int) + (0 : Int)).toNat ((0 : Int), (0 : Int))).2 == (y1.getD ((0 : Int) + q5).toNat ((0 : Int), (0 : Int))).2)) then (bif (Nat.ble (q6.length + [y7].length) (lim 24)) then L4 (w (q5 + (1 : Int))) (q6 ++ [y7]) else none) else L4 (w (q5 + (1 : Int))) q6) else none) else none) else none) else some q6)
def f18_l4 (a0 : Int × Int × Int) (a1 : List tM) (y1 : List tV) (n : Nat) (q5 : Int) (q6 : List (List tV)) : Option (List (List tV)) :=
  iter (X := Int × List (List tV)) (fun L x => f18_b4 K a0 a1 y1 (fun v0 v1 => L (v0, v1)) x.1 x.2) n (q5, q6)
def f18_g (a0 : Int × Int × Int) (a1 : List tM) (I4 : (List tV) → Int → (List (List tV)) → Option (List (List tV))) : Option (List (List tV)) :=
  (f39G K a0).bind fun y1 => I4 y1 (0 : Int) []
def f18G (a0 : Int × Int × Int) (a1 : List tM) : Option (List (List tV)) :=
  f18_g K a0 a1 (fun c0 d0 d1 => f18_l4 K a0 a1 c0 K d0 d1)
def f18M : Mdl := ⟨[(.ro, sL), (.ro, (.list 47 sM))], [(.list 55 (.list 45 sV))], fun x => f18G K x.1 x.2.1⟩
def f18_k4 (a0 : Int × Int × Int) (a1 : List tM) (lr : LR (List (List tV))) : Ex → Fr → Option (List (List tV)) :=
  contC (f18E K) 1 lr f18C [1, 1, 1, 0, 1, 0] (fM (f18E K) Tryz.f18 (f18M K) (a0, a1, ()))
def f18_j4 (a0 : Int × Int × Int) (a1 : List tM) (lr : LR (List (List tV))) (y1 : List tV) (bq5 : Int) (bq6 : List (List tV)) : Option (List (List tV)) :=
  lr (selC f18C [1, 1, 1, 0, 1, 0, 0]) (f18_fr4 a0 a1 y1 bq5 bq6) (f18_k4 K a0 a1 lr)
def f20E : Env := eE K [(49, f49M K), (52, f52M K)] [0, 1, 2, 4]
def f20G (a0 : Int × Int) (a1 : Int) : Option ByteArray :=
  (f49G K a0).bind fun y1 => (bif (Nat.ble ((bs [109, 97, 114, 107, 32]).size + y1.size) 9223372036854775807) then (bif (Nat.ble (((bs [109, 97, 114, 107, 32]) ++ y1).size + (bs [32]).size) 9223372036854775807) then (f52G K a1).bind fun y2 => (bif (Nat.ble ((((bs [109, 97, 114, 107, 32]) ++ y1) ++ (bs [32])).size + y2.size) 9223372036854775807) then (bif (Nat.ble (((((bs [109, 97, 114, 107, 32]) ++ y1) ++ (bs [32])) ++ y2).size + (bs [10]).size) 9223372036854775807) then some (((((bs [109, 97, 114, 107, 32]) ++ y1) ++ (bs [32])) ++ y2) ++ (bs [10])) else none) else none) else none) else none)
def f20M : Mdl := ⟨[(.ro, sV), (.ro, sI)], [.str], fun x => f20G K x.1 x.2.1⟩
def f5E : Env := eE K [(10, f10M K), (11, f11M K), (12, f12M K), (13, f13M K), (14, f14M K), (15, f15M K), (16, f16M K), (17, f17M K), (18, f18M K), (19, f19M K), (20, f20M K)] [0, 1, 2, 3, 4, 5, 6, 7, 8, 9, 10, 11, 12, 13, 16, 29, 38, 66, 78, 97]
def f5_b22 (a0 : Int × tL × List Int) (q12 : Int) (q13 q14 : List tM) (y1 : Bool) (y2 : Int × tL × List Int) (y3 : List tM) (y18 : List (List tV)) (L22 : ByteArray → Int → Int → Option (ByteArray × Int)) (q23 : ByteArray) (q24 q25 : Int) : Option (ByteArray × Int) :=
  (bif (decide (q25 < (y18.length : Int))) then (bif (decide (0 ≤ q25) && decide (q25 < (y18.length : Int))) then (bif (decide (0 ≤ (0 : Int)) && decide ((0 : Int) < ((y18.getD ((0 : Int) + q25).toNat []).length : Int))) then (f19G K y2 ((y18.getD ((0 : Int) + q25).toNat []).getD ((0 : Int) + (0 : Int)).toNat ((0 : Int), (0 : Int)))).bind fun y26 => (bif (decide (y26 > (0 : Int))) then (bif (decide (0 ≤ q25) && decide (q25 < (y18.length : Int))) then (bif (decide (0 ≤ (0 : Int)) && decide ((0 : Int) < ((y18.getD ((0 : Int) + q25).toNat []).length : Int))) then (f20G K ((y18.getD ((0 : Int) + q25).toNat []).getD ((0 : Int) + (0 : Int)).toNat ((0 : Int), (0 : Int))) y26).bind fun y27 => (bif (Nat.ble (q23.size + y27.size) 9223372036854775807) then L22 (q23 ++ y27) (w (q24 + (1 : Int))) (w (q25 + (1 : Int))) else none) else none) else none) else L22 q23 q24 (w (q25 + (1 : Int)))) else none) else none) else (bif (bif (decide ((q13.length : Int) > (8 : Int))) then true else (decide (q24 > (40 : Int)))) then some (ByteArray.empty, (3 : Int)) else some (q23, (0 : Int))))
def f5_l22 (a0 : Int × tL × List Int) (q12 : Int) (q13 q14 : List tM) (y1 : Bool) (y2 : Int × tL × List Int) (y3 : List tM) (y18 : List (List tV)) (n : Nat) (q23 : ByteArray) (q24 q25 : Int) : Option (ByteArray × Int) :=
  iter (X := ByteArray × Int × Int) (fun L x => f5_b22 K a0 q12 q13 q14 y1 y2 y3 y18 (fun v0 v1 v2 => L (v0, v1, v2)) x.1 x.2.1 x.2.2) n (q23, q24, q25)
def f5_b10 (a0 : Int × tL × List Int) (y1 : Bool) (y2 : Int × tL × List Int) (y3 : List tM) (I22 : Int → (List tM) → (List tM) → Bool → (Int × tL × List Int) → (List tM) → (List (List tV)) → ByteArray → Int → Int → Option (ByteArray × Int)) (L10 : ByteArray → Int → (List tM) → (List tM) → Option (ByteArray × Int)) (q11 : ByteArray) (q12 : Int) (q13 q14 : List tM) : Option (ByteArray × Int) :=
  (bif (decide (q12 < (y3.length : Int))) then (bif (decide (0 ≤ q12) && decide (q12 < (y3.length : Int))) then (f15G K q14 ((((y3.getD ((0 : Int) + q12).toNat zM).1).1, (((y3.getD ((0 : Int) + q12).toNat zM).1).2).1, ((((y3.getD ((0 : Int) + q12).toNat zM).1).2).2)), ((y3.getD ((0 : Int) + q12).toNat zM).2))).bind fun y15 => (bif (!y15) then (bif (decide (0 ≤ q12) && decide (q12 < (y3.length : Int))) then (bif (Nat.ble (q13.length + [((((y3.getD ((0 : Int) + q12).toNat zM).1).1, (((y3.getD ((0 : Int) + q12).toNat zM).1).2).1, ((((y3.getD ((0 : Int) + q12).toNat zM).1).2).2)), ((y3.getD ((0 : Int) + q12).toNat zM).2))].length) (lim 48)) then (f16G K y2.2.1 (q13 ++ [((((y3.getD ((0 : Int) + q12).toNat zM).1).1, (((y3.getD ((0 : Int) + q12).toNat zM).1).2).1, ((((y3.getD ((0 : Int) + q12).toNat zM).1).2).2)), ((y3.getD ((0 : Int) + q12).toNat zM).2))])).bind fun y16 => (bif (Nat.ble (q11.size + (bs [109, 111, 116, 105, 111, 110, 32]).size) 9223372036854775807) then (bif (decide (0 ≤ q12) && decide (q12 < (y3.length : Int))) then (f17G K ((((y3.getD ((0 : Int) + q12).toNat zM).1).1, (((y3.getD ((0 : Int) + q12).toNat zM).1).2).1, ((((y3.getD ((0 : Int) + q12).toNat zM).1).2).2)), ((y3.getD ((0 : Int) + q12).toNat zM).2))).bind fun y17 => (bif (Nat.ble ((q11 ++ (bs [109, 111, 116, 105, 111, 110, 32])).size + y17.size) 9223372036854775807) then (bif (Nat.ble (((q11 ++ (bs [109, 111, 116, 105, 111, 110, 32])) ++ y17).size + (bs [10]).size) 9223372036854775807) then L10 (((q11 ++ (bs [109, 111, 116, 105, 111, 110, 32])) ++ y17) ++ (bs [10])) (w (q12 + (1 : Int))) (q13 ++ [((((y3.getD ((0 : Int) + q12).toNat zM).1).1, (((y3.getD ((0 : Int) + q12).toNat zM).1).2).1, ((((y3.getD ((0 : Int) + q12).toNat zM).1).2).2)), ((y3.getD ((0 : Int) + q12).toNat zM).2))]) y16 else none) else none) else none) else none) else none) else none) else L10 q11 (w (q12 + (1 : Int))) q13 q14) else none) else (f18G K y2.2.1 y3).bind fun y18 => I22 q12 q13 q14 y1 y2 y3 y18 q11 (0 : Int) (0 : Int))
def f5_l10 (a0 : Int × tL × List Int) (y1 : Bool) (y2 : Int × tL × List Int) (y3 : List tM) (n : Nat) (q11 : ByteArray) (q12 : Int) (q13 q14 : List tM) : Option (ByteArray × Int) :=
  iter (X := ByteArray × Int × List tM × List tM) (fun L x => f5_b10 K a0 y1 y2 y3 (fun c0 c1 c2 c3 c4 c5 c6 d0 d1 d2 => f5_l22 K a0 c0 c1 c2 c3 c4 c5 c6 K d0 d1 d2) (fun v0 v1 v2 v3 => L (v0, v1, v2, v3)) x.1 x.2.1 x.2.2.1 x.2.2.2) n (q11, q12, q13, q14)
def f5_g (a0 : Int × tL × List Int) (I10 : Bool → (Int × tL × List Int) → (List tM) → ByteArray → Int → (List tM) → (List tM) → Option (ByteArray × Int)) : Option (ByteArray × Int) :=
  (f10G K a0).bind fun y1 => (bif (!y1) then some (ByteArray.empty, (1 : Int)) else (f11G K a0).bind fun y2 => (f12G K y2).bind fun y3 => (f13G K y2).bind fun y4 => (f14G K).bind fun y5 => I10 y1 y2 y3 y4 (0 : Int) [] [y5])
def f5G (a0 : Int × tL × List Int) : Option (ByteArray × Int) :=
  f5_g K a0 (fun c0 c1 c2 d0 d1 d2 d3 => f5_l10 K a0 c0 c1 c2 K d0 d1 d2 d3)
def f5M : Mdl := ⟨[(.ro, (.cons sI (.cons sL (.list 2 sI))))], [.str, sI], fun x => f5G K x.1⟩
def f5_k10 (a0 : Int × tL × List Int) (lr : LR (ByteArray × Int)) : Ex → Fr → Option (ByteArray × Int) :=
  contC (f5E K) 1 lr f5C [1, 1, 1, 1, 1, 0, 1, 0] (fM (f5E K) Tryz.f5 (f5M K) (a0, ()))
def f5_j10 (a0 : Int × tL × List Int) (lr : LR (ByteArray × Int)) (y1 : Bool) (y2 : Int × tL × List Int) (y3 : List tM) (bq11 : ByteArray) (bq12 : Int) (bq13 bq14 : List tM) : Option (ByteArray × Int) :=
  lr (selC f5C [1, 1, 1, 1, 1, 0, 1, 0, 0]) (f5_fr10 a0 y1 y2 y3 bq11 bq12 bq13 bq14) (f5_k10 K a0 lr)
def f5_k22 (a0 : Int × tL × List Int) (lr : LR (ByteArray × Int)) : Ex → Fr → Option (ByteArray × Int) :=
  contC (f5E K) 1 lr f5C [1, 1, 1, 1, 1, 1, 1, 1, 0, 1, 0] (fM (f5E K) Tryz.f5 (f5M K) (a0, ()))
def f5_j22 (a0 : Int × tL × List Int) (lr : LR (ByteArray × Int)) (q12 : Int) (q13 q14 : List tM) (y1 : Bool) (y2 : Int × tL × List Int) (y3 : List tM) (y18 : List (List tV)) (bq23 : ByteArray) (bq24 bq25 : Int) : Option (ByteArray × Int) :=
  lr (selC f5C [1, 1, 1, 1, 1, 1, 1, 1, 0, 1, 0, 0]) (f5_fr22 a0 q12 q13 q14 y1 y2 y3 y18 bq23 bq24 bq25) (f5_k22 K a0 lr)
def f98E : Env := eE K [] [0, 1, 2, 6]
def f98G (K : Nat) (a0 a1 a2 : Int) : Option Bool :=
  some (bif (decide (a0 ≥ a1)) then (decide (a0 ≤ a2)) else false)
def f98M : Mdl := ⟨[(.ro, sI), (.ro, sI), (.ro, sI)], [.bool], fun x => f98G K x.1 x.2.1 x.2.2.1⟩
def f53E : Env := eE K [(98, f98M K)] [0, 2]
def f53G (a0 : Int) : Option Bool :=
  (f98G K a0 (0 : Int) (1 : Int)).bind fun y1 => some y1
def f53M : Mdl := ⟨[(.ro, sI)], [.bool], fun x => f53G K x.1⟩
def f55E : Env := eE K [] [0, 1, 2]
def f55G (K : Nat) (a0 : Int × Int × Int) : Option Int :=
  some (w (a0.1 * a0.2.2))
def f55M : Mdl := ⟨[(.ro, sL)], [sI], fun x => f55G K x.1⟩
def f54E : Env := eE K [(55, f55M K), (98, f98M K)] [0, 1, 2]
def f54G (a0 : Int × Int × Int) : Option Bool :=
  (f98G K a0.1 (1 : Int) (64 : Int)).bind fun y1 => ((bif y1 then f98G K a0.2.2 (1 : Int) (64 : Int) else some false)).bind fun y2 => ((bif (bif y1 then y2 else false) then f98G K a0.2.1 (0 : Int) (w (a0.1 - (1 : Int))) else some false)).bind fun y3 => ((bif (bif (bif y1 then y2 else false) then y3 else false) then f55G K a0 else some (0 : Int))).bind fun y4 => some (bif (bif (bif y1 then y2 else false) then y3 else false) then (decide (y4 ≤ (64 : Int))) else false)
def f54M : Mdl := ⟨[(.ro, sL)], [.bool], fun x => f54G K x.1⟩
def f100E : Env := eE K [(98, f98M K)] [0, 1, 2, 4]
def f100G (a0 a1 a2 : Int) : Option Bool :=
  (f98G K a0 a1 a2).bind fun y1 => some (!y1)
def f100M : Mdl := ⟨[(.ro, sI), (.cap, sI), (.cap, sI)], [.bool], fun x => f100G K x.1 x.2.1 x.2.2.1⟩
def f134E : Env := eE K [] [0, 1, 4, 5, 7, 8, 9, 16]
def f134_b3 (K : Nat) (a0 : List Int) (a1 : (Int → Option Bool)) (L3 : Int → Option Int) (q4 : Int) : Option Int :=
  (bif (decide (q4 < (a0.length : Int))) then (bif (decide (0 ≤ q4) && decide (q4 < (a0.length : Int))) then (a1 (a0.getD ((0 : Int) + q4).toNat (0 : Int))).bind fun y5 => (bif y5 then some q4 else L3 (w (q4 + (1 : Int)))) else none) else some (-1 : Int))
def f134_l3 (a0 : List Int) (a1 : (Int → Option Bool)) (n : Nat) (q4 : Int) : Option Int :=
  iter (X := Int) (fun L x => f134_b3 K a0 a1 (fun v0 => L v0) x) n q4
def f134_g (K : Nat) (a0 : List Int) (a1 : (Int → Option Bool)) (I3 : Int → Option Int) : Option Int :=
  I3 (0 : Int)
def f134G (a0 : List Int) (a1 : (Int → Option Bool)) : Option Int :=
  f134_g K a0 a1 (fun d0 => f134_l3 K a0 a1 K d0)
def f134M : Mdl := ⟨[(.ro, (.list 2 sI)), (.ro, (.fn1 sI .bool))], [sI], fun x => f134G K x.1 x.2.1⟩
def f134_k3 (a0 : List Int) (a1 : (Int → Option Bool)) (lr : LR Int) : Ex → Fr → Option Int :=
  contC (f134E K) 1 lr f134C [1, 0, 1, 0] (fM (f134E K) Tryz.f134 (f134M K) (a0, a1, ()))
def f134_j3 (a0 : List Int) (a1 : (Int → Option Bool)) (lr : LR Int) (bq4 : Int) : Option Int :=
  lr (selC f134C [1, 0, 1, 0, 0]) (f134_fr3 a0 a1 bq4) (f134_k3 K a0 a1 lr)
def f99E : Env := eE K [(134, f134M K)] [0, 1, 4]
def f99G (a0 : List Int) (a1 : (Int → Option Bool)) : Option Bool :=
  (f134G K a0 a1).bind fun y1 => some (decide (y1 ≥ (0 : Int)))
def f99M : Mdl := ⟨[(.ro, (.list 2 sI)), (.ro, (.fn1 sI .bool))], [.bool], fun x => f99G K x.1 x.2.1⟩
def f56E : Env := ⟨[(99, f99M K), (100, f100M K)], tys, eqs, mts, K, [0, 1, 2, 4, 5, 6], [], [], [], [], [(100, f100M K)], [], false⟩
def f56G (a0 : List Int) (a1 a2 : Int) : Option Bool :=
  (f99G K a0 (fun z1 => f100G K z1 a1 a2)).bind fun y2 => some (!y2)
def f56M : Mdl := ⟨[(.ro, (.list 2 sI)), (.ro, sI), (.ro, sI)], [.bool], fun x => f56G K x.1 x.2.1 x.2.2.1⟩
def f23E : Env := eE K [(53, f53M K), (54, f54M K), (55, f55M K), (56, f56M K)] [0, 1, 2]
def f23G (a0 : Int × tL × List Int) : Option Bool :=
  (f53G K a0.1).bind fun y1 => ((bif y1 then f54G K a0.2.1 else some false)).bind fun y2 => ((bif (bif y1 then y2 else false) then f55G K a0.2.1 else some (0 : Int))).bind fun y3 => ((bif (bif (bif y1 then y2 else false) then ((a0.2.2.length : Int) == y3) else false) then f56G K a0.2.2 (0 : Int) (9 : Int) else some false)).bind fun y4 => some (bif (bif (bif y1 then y2 else false) then ((a0.2.2.length : Int) == y3) else false) then y4 else false)
def f23M : Mdl := ⟨[(.ro, (.cons sI (.cons sL (.list 2 sI))))], [.bool], fun x => f23G K x.1⟩
def f101E : Env := eE K [] [0, 1, 2, 3]
def f101G (K : Nat) (a0 : Int × Int × Int) : Option (tV × Int × Int) :=
  some ((a0.1, (0 : Int)), a0.2)
def f101M : Mdl := ⟨[(.ro, sL)], [sV, sV], fun x => f101G K x.1⟩
def f66E : Env := eE K [] [0, 1, 2, 3, 4, 5, 8, 9, 10, 13, 14, 15]
def f66_b9 (K : Nat) (a0 : Int × Int × Int) (q7 : Int) (L6 L9 : Int → (List tV) → Option (List tV)) (q10 : Int) (q11 : List tV) : Option (List tV) :=
  (bif (decide (q10 < a0.2.2)) then (bif (Nat.ble (q11.length + [(q7, q10)].length) (lim 16)) then L9 (w (q10 + (1 : Int))) (q11 ++ [(q7, q10)]) else none) else L6 (w (q7 + (1 : Int))) q11)
def f66_l9 (a0 : Int × Int × Int) (q7 : Int) (L6 : Int → (List tV) → Option (List tV)) (n : Nat) (q10 : Int) (q11 : List tV) : Option (List tV) :=
  iter (X := Int × List tV) (fun L x => f66_b9 K a0 q7 L6 (fun v0 v1 => L (v0, v1)) x.1 x.2) n (q10, q11)
def f66_b6 (K : Nat) (a0 : Int × Int × Int) (I9 : Int → Int → (List tV) → Option (List tV)) (L6 : Int → (List tV) → Option (List tV)) (q7 : Int) (q8 : List tV) : Option (List tV) :=
  (bif (decide (q7 < a0.1)) then I9 q7 (0 : Int) q8 else some q8)
def f66_l6 (a0 : Int × Int × Int) (n : Nat) (q7 : Int) (q8 : List tV) : Option (List tV) :=
  iter (X := Int × List tV) (fun L x => (fun L6 => f66_b6 K a0 (fun c0 d0 d1 => f66_l9 K a0 c0 L6 K d0 d1) L6 x.1 x.2) (fun v0 v1 => L (v0, v1))) n (q7, q8)
def f66_g (K : Nat) (a0 : Int × Int × Int) (I6 : Int → (List tV) → Option (List tV)) : Option (List tV) :=
  I6 (0 : Int) []
def f66G (a0 : Int × Int × Int) : Option (List tV) :=
  f66_g K a0 (fun d0 d1 => f66_l6 K a0 K d0 d1)
def f66M : Mdl := ⟨[(.ro, sL)], [(.list 45 sV)], fun x => f66G K x.1⟩
def f66_k6 (a0 : Int × Int × Int) (lr : LR (List tV)) : Ex → Fr → Option (List tV) :=
  contC (f66E K) 0 lr f66C [1, 1, 0, 1, 0] (fM (f66E K) Tryz.f66 (f66M K) (a0, ()))
def f66_j6 (a0 : Int × Int × Int) (lr : LR (List tV)) (bq7 : Int) (bq8 : List tV) : Option (List tV) :=
  lr (selC f66C [1, 1, 0, 1, 0, 0]) (f66_fr6 a0 bq7 bq8) (f66_k6 K a0 lr)
def f66_k9 (a0 : Int × Int × Int) (F6 : Fr → Option (List tV)) (bq7 : Int) (bq8 : List tV) (lr : LR (List tV)) : Ex → Fr → Option (List tV) :=
  contC (f66E K) 0 lr (selC f66C [1, 1, 0, 1, 0, 0]) [1, 1, 0, 0, 1, 1, 0] (loopK 0 (f66_fr6 a0 bq7 bq8) F6 (f66_k6 K a0 lr))
def f66_j9 (a0 : Int × Int × Int) (F6 : Fr → Option (List tV)) (bq7 : Int) (bq8 : List tV) (lr : LR (List tV)) (q7 bq10 : Int) (bq11 : List tV) : Option (List tV) :=
  lr (selC f66C [1, 1, 0, 1, 0, 0, 1, 1, 0, 0, 1, 1, 0, 0]) (f66_fr9 a0 q7 bq10 bq11) (f66_k9 K a0 F6 bq7 bq8 lr)
def f60E : Env := eE K [] [0]
def f60G (K : Nat) : Option tA :=
  some ((1 : Int), (0 : Int), (0 : Int), (1 : Int))
def f60M : Mdl := ⟨[], [sA], fun x => f60G K ⟩
def f106E : Env := eE K [] [0, 1, 2, 3, 4]
def f106G (K : Nat) (a0 : Int × Int × Int × Int) (a1 : Int × Int) : Option tV :=
  some ((w ((w (a0.1 * a1.1)) + (w (a0.2.1 * a1.2)))), (w ((w (a0.2.2.1 * a1.1)) + (w (a0.2.2.2 * a1.2)))))
def f106M : Mdl := ⟨[(.ro, sA), (.ro, sV)], [sV], fun x => f106G K x.1 x.2.1⟩
def f107E : Env := eE K [] [0, 1, 2, 3, 4]
def f107G (K : Nat) (a0 a1 : Int × Int) : Option tV :=
  some ((w (a0.1 + a1.1)), (w (a0.2 + a1.2)))
def f107M : Mdl := ⟨[(.ro, sV), (.ro, sV)], [sV], fun x => f107G K x.1 x.2.1⟩
def f116E : Env := eE K [(106, f106M K), (107, f107M K)] [0, 1, 2, 3, 4]
def f116G (a0 : tA × Int × Int) (a1 : Int × Int) : Option tV :=
  (f106G K a0.1 a1).bind fun y1 => (f107G K y1 a0.2).bind fun y2 => some y2
def f116M : Mdl := ⟨[(.ro, sM), (.ro, sV)], [sV], fun x => f116G K x.1 x.2.1⟩
def f137E : Env := eE K [] [0, 1, 4]
def f137G (K : Nat) (a0 a1 : Int) : Option Int :=
  (bif (a1 != 0) then (bif (a1 != 0) then some ((w ((a0.tmod a1) + a1)).tmod a1) else none) else none)
def f137M : Mdl := ⟨[(.ro, sI), (.ro, sI)], [sI], fun x => f137G K x.1 x.2.1⟩
def f104E : Env := eE K [(137, f137M K)] [0, 1, 2, 3, 4, 5]
def f104G (a0 : Int × Int × Int) (a1 : Int × Int) : Option tV :=
  (f137G K a1.2 a0.2.2).bind fun y1 => (bif (a0.2.2 != 0) then (f137G K (w (a1.1 - (w ((w ((w (a1.2 - y1)).tdiv a0.2.2)) * a0.2.1)))) a0.1).bind fun y2 => some (y2, y1) else none)
def f104M : Mdl := ⟨[(.ro, sL), (.ro, sV)], [sV], fun x => f104G K x.1 x.2.1⟩
def f73E : Env := eE K [] [0, 1, 2, 3, 4]
def f73G (K : Nat) (a0 : Int × Int × Int) (a1 : Int × Int) : Option Int :=
  some (w ((w (a1.1 * a0.2.2)) + a1.2))
def f73M : Mdl := ⟨[(.ro, sL), (.ro, sV)], [sI], fun x => f73G K x.1 x.2.1⟩
def f75E : Env := eE K [(73, f73M K), (104, f104M K)] [0, 1, 2, 3, 4]
def f75G (a0 : Int × tL × List Int) (a1 : Int × Int) : Option Int :=
  (f104G K a0.2.1 a1).bind fun y1 => (f73G K a0.2.1 y1).bind fun y2 => (bif (decide (0 ≤ y2) && decide (y2 < (a0.2.2.length : Int))) then some (a0.2.2.getD ((0 : Int) + y2).toNat (0 : Int)) else none)
def f75M : Mdl := ⟨[(.ro, (.cons sI (.cons sL (.list 2 sI)))), (.ro, sV)], [sI], fun x => f75G K x.1 x.2.1⟩
def f67E : Env := eE K [(66, f66M K), (75, f75M K), (116, f116M K)] [0, 1, 2, 3, 4, 5, 6, 9, 10, 11, 12, 26]
def f67_b5 (a0 : Int × tL × List Int) (a1 : tA × Int × Int) (y1 : List tV) (L5 : Int → Option Bool) (q6 : Int) : Option Bool :=
  (bif (decide (q6 < (y1.length : Int))) then (bif (decide (0 ≤ q6) && decide (q6 < (y1.length : Int))) then (f116G K a1 (y1.getD ((0 : Int) + q6).toNat ((0 : Int), (0 : Int)))).bind fun y7 => (f75G K a0 y7).bind fun y8 => (bif (decide (0 ≤ q6) && decide (q6 < (a0.2.2.length : Int))) then (bif (y8 != (a0.2.2.getD ((0 : Int) + q6).toNat (0 : Int))) then some false else L5 (w (q6 + (1 : Int)))) else none) else none) else some true)
def f67_l5 (a0 : Int × tL × List Int) (a1 : tA × Int × Int) (y1 : List tV) (n : Nat) (q6 : Int) : Option Bool :=
  iter (X := Int) (fun L x => f67_b5 K a0 a1 y1 (fun v0 => L v0) x) n q6
def f67_g (a0 : Int × tL × List Int) (a1 : tA × Int × Int) (I5 : (List tV) → Int → Option Bool) : Option Bool :=
  (f66G K a0.2.1).bind fun y1 => I5 y1 (0 : Int)
def f67G (a0 : Int × tL × List Int) (a1 : tA × Int × Int) : Option Bool :=
  f67_g K a0 a1 (fun c0 d0 => f67_l5 K a0 a1 c0 K d0)
def f67M : Mdl := ⟨[(.ro, (.cons sI (.cons sL (.list 2 sI)))), (.ro, sM)], [.bool], fun x => f67G K x.1 x.2.1⟩
def f67_k5 (a0 : Int × tL × List Int) (a1 : tA × Int × Int) (lr : LR Bool) : Ex → Fr → Option Bool :=
  contC (f67E K) 1 lr f67C [1, 0, 1, 0] (fM (f67E K) Tryz.f67 (f67M K) (a0, a1, ()))
def f67_j5 (a0 : Int × tL × List Int) (a1 : tA × Int × Int) (lr : LR Bool) (y1 : List tV) (bq6 : Int) : Option Bool :=
  lr (selC f67C [1, 0, 1, 0, 0]) (f67_fr5 a0 a1 y1 bq6) (f67_k5 K a0 a1 lr)
def f135E : Env := eE K [] [0, 1, 2, 4]
def f135G (K : Nat) (a0 : Int × Int) (a1 : Int) : Option tV :=
  some ((w (a1 * a0.1)), (w (a1 * a0.2)))
def f135M : Mdl := ⟨[(.ro, sV), (.ro, sI)], [sV], fun x => f135G K x.1 x.2.1⟩
def f136E : Env := eE K [] [0, 1, 4, 6]
def f136_b2 (K : Nat) (L2 : Int → Int → Option Int) (q3 q4 : Int) : Option Int :=
  (bif (q4 != (0 : Int)) then (bif (q4 != 0) then L2 q4 (q3.tmod q4) else none) else some (if (w (0 - q3)) > q3 then (w (0 - q3)) else q3))
def f136_l2 (n : Nat) (q3 q4 : Int) : Option Int :=
  iter (X := Int × Int) (fun L x => f136_b2 K (fun v0 v1 => L (v0, v1)) x.1 x.2) n (q3, q4)
def f136_g (K : Nat) (a0 a1 : Int) (I2 : Int → Int → Option Int) : Option Int :=
  I2 a0 a1
def f136G (a0 a1 : Int) : Option Int :=
  f136_g K a0 a1 (fun d0 d1 => f136_l2 K K d0 d1)
def f136M : Mdl := ⟨[(.ro, sI), (.ro, sI)], [sI], fun x => f136G K x.1 x.2.1⟩
def f136_k2 (a0 a1 : Int) (lr : LR Int) : Ex → Fr → Option Int :=
  contC (f136E K) 0 lr f136C [1, 0, 0] (fM (f136E K) Tryz.f136 (f136M K) (a0, a1, ()))
def f136_j2 (a0 a1 : Int) (lr : LR Int) (bq3 bq4 : Int) : Option Int :=
  lr (selC f136C [1, 0, 0, 0]) (f136_fr2 bq3 bq4) (f136_k2 K a0 a1 lr)
def f102E : Env := eE K [(107, f107M K), (135, f135M K), (136, f136M K), (137, f137M K)] [0, 2, 3, 4, 6, 7, 9, 10, 11, 12, 17, 37]
def f102_b18 (a0 : List tV) (q14 q15 : Int) (L13 L18 : Int → Int → Int → Int → Option tL) (q19 q20 q21 q22 : Int) : Option tL :=
  (bif (q22 != (0 : Int)) then (bif (q22 != 0) then (f135G K (q21, q22) (w (0 - (w (q20.tdiv q22))))).bind fun y23 => (f107G K (q19, q20) y23).bind fun y24 => L18 q21 q22 y24.1 y24.2 else none) else (f136G K q14 q21).bind fun y25 => L13 y25 (w (q15 + (1 : Int))) q19 q20)
def f102_l18 (a0 : List tV) (q14 q15 : Int) (L13 : Int → Int → Int → Int → Option tL) (n : Nat) (q19 q20 q21 q22 : Int) : Option tL :=
  iter (X := Int × Int × Int × Int) (fun L x => f102_b18 K a0 q14 q15 L13 (fun v0 v1 v2 v3 => L (v0, v1, v2, v3)) x.1 x.2.1 x.2.2.1 x.2.2.2) n (q19, q20, q21, q22)
def f102_b13 (a0 : List tV) (I18 : Int → Int → Int → Int → Int → Int → Option tL) (L13 : Int → Int → Int → Int → Option tL) (q14 q15 q16 q17 : Int) : Option tL :=
  (bif (decide (q15 < (a0.length : Int))) then (bif (decide (0 ≤ q15) && decide (q15 < (a0.length : Int))) then I18 q14 q15 q16 q17 ((a0.getD ((0 : Int) + q15).toNat ((0 : Int), (0 : Int))).1) ((a0.getD ((0 : Int) + q15).toNat ((0 : Int), (0 : Int))).2) else none) else (bif (decide (q17 < (0 : Int))) then (f135G K (q16, q17) (-1 : Int)).bind fun y26 => (f137G K y26.1 q14).bind fun y27 => some (q14, y27, y26.2) else (f137G K q16 q14).bind fun y28 => some (q14, y28, q17)))
def f102_l13 (a0 : List tV) (n : Nat) (q14 q15 q16 q17 : Int) : Option tL :=
  iter (X := Int × Int × Int × Int) (fun L x => (fun L13 => f102_b13 K a0 (fun c0 c1 d0 d1 d2 d3 => f102_l18 K a0 c0 c1 L13 K d0 d1 d2 d3) L13 x.1 x.2.1 x.2.2.1 x.2.2.2) (fun v0 v1 v2 v3 => L (v0, v1, v2, v3))) n (q14, q15, q16, q17)
def f102_g (K : Nat) (a0 : List tV) (I13 : Int → Int → Int → Int → Option tL) : Option tL :=
  I13 (0 : Int) (0 : Int) (0 : Int) (0 : Int)
def f102G (a0 : List tV) : Option tL :=
  f102_g K a0 (fun d0 d1 d2 d3 => f102_l13 K a0 K d0 d1 d2 d3)
def f102M : Mdl := ⟨[(.ro, (.list 45 sV))], [sL], fun x => f102G K x.1⟩
def f102_k13 (a0 : List tV) (lr : LR tL) : Ex → Fr → Option tL :=
  contC (f102E K) 1 lr f102C [1, 1, 0, 1, 0] (fM (f102E K) Tryz.f102 (f102M K) (a0, ()))
def f102_j13 (a0 : List tV) (lr : LR tL) (bq14 bq15 bq16 bq17 : Int) : Option tL :=
  lr (selC f102C [1, 1, 0, 1, 0, 0]) (f102_fr13 a0 bq14 bq15 bq16 bq17) (f102_k13 K a0 lr)
def f102_k18 (a0 : List tV) (F13 : Fr → Option tL) (bq14 bq15 bq16 bq17 : Int) (lr : LR tL) : Ex → Fr → Option tL :=
  contC (f102E K) 1 lr (selC f102C [1, 1, 0, 1, 0, 0]) [1, 1, 0, 0, 1, 0, 0] (loopK 1 (f102_fr13 a0 bq14 bq15 bq16 bq17) F13 (f102_k13 K a0 lr))
def f102_j18 (a0 : List tV) (F13 : Fr → Option tL) (bq14 bq15 bq16 bq17 : Int) (lr : LR tL) (q14 q15 bq19 bq20 bq21 bq22 : Int) : Option tL :=
  lr (selC f102C [1, 1, 0, 1, 0, 0, 1, 1, 0, 0, 1, 0, 0, 0]) (f102_fr18 a0 q14 q15 bq19 bq20 bq21 bq22) (f102_k18 K a0 F13 bq14 bq15 bq16 bq17 lr)
def f58E : Env := eE K [(60, f60M K), (66, f66M K), (67, f67M K), (101, f101M K), (102, f102M K)] [0, 1, 2, 3, 4, 5, 7, 19, 20, 21, 22, 29]
def f58_b6 (a0 : Int × tL × List Int) (y1 : tV × Int × Int) (y2 : List tV) (L6 : Int → (List tV) → Option tL) (q7 : Int) (q8 : List tV) : Option tL :=
  (bif (decide (q7 < (y2.length : Int))) then (bif (decide (0 ≤ q7) && decide (q7 < (y2.length : Int))) then (f60G K).bind fun y9 => (f67G K a0 (y9, (y2.getD ((0 : Int) + q7).toNat ((0 : Int), (0 : Int))))).bind fun y10 => (bif y10 then (bif (Nat.ble (q8.length + [(y2.getD ((0 : Int) + q7).toNat ((0 : Int), (0 : Int)))].length) (lim 16)) then L6 (w (q7 + (1 : Int))) (q8 ++ [(y2.getD ((0 : Int) + q7).toNat ((0 : Int), (0 : Int)))]) else none) else L6 (w (q7 + (1 : Int))) q8) else none) else (f102G K q8).bind fun y11 => some y11)
def f58_l6 (a0 : Int × tL × List Int) (y1 : tV × Int × Int) (y2 : List tV) (n : Nat) (q7 : Int) (q8 : List tV) : Option tL :=
  iter (X := Int × List tV) (fun L x => f58_b6 K a0 y1 y2 (fun v0 v1 => L (v0, v1)) x.1 x.2) n (q7, q8)
def f58_g (a0 : Int × tL × List Int) (I6 : (tV × Int × Int) → (List tV) → Int → (List tV) → Option tL) : Option tL :=
  (f101G K a0.2.1).bind fun y1 => (f66G K a0.2.1).bind fun y2 => I6 y1 y2 (0 : Int) [y1.1, y1.2]
def f58G (a0 : Int × tL × List Int) : Option tL :=
  f58_g K a0 (fun c0 c1 d0 d1 => f58_l6 K a0 c0 c1 K d0 d1)
def f58M : Mdl := ⟨[(.ro, (.cons sI (.cons sL (.list 2 sI))))], [sL], fun x => f58G K x.1⟩
def f58_k6 (a0 : Int × tL × List Int) (lr : LR tL) : Ex → Fr → Option tL :=
  contC (f58E K) 1 lr f58C [1, 1, 1, 0, 1, 0] (fM (f58E K) Tryz.f58 (f58M K) (a0, ()))
def f58_j6 (a0 : Int × tL × List Int) (lr : LR tL) (y1 : tV × Int × Int) (y2 : List tV) (bq7 : Int) (bq8 : List tV) : Option tL :=
  lr (selC f58C [1, 1, 1, 0, 1, 0, 0]) (f58_fr6 a0 y1 y2 bq7 bq8) (f58_k6 K a0 lr)
def f57E : Env := eE K [(66, f66M K), (75, f75M K)] [0, 1, 2, 3, 4, 5, 7, 13, 14, 15, 16]
def f57_b4 (a0 : Int × tL × List Int) (a1 : Int × Int × Int) (y1 : List tV) (L4 : Int → (List Int) → Option (Int × tL × List Int)) (q5 : Int) (q6 : List Int) : Option (Int × tL × List Int) :=
  (bif (decide (q5 < (y1.length : Int))) then (bif (decide (0 ≤ q5) && decide (q5 < (y1.length : Int))) then (f75G K a0 (y1.getD ((0 : Int) + q5).toNat ((0 : Int), (0 : Int)))).bind fun y7 => (bif (Nat.ble (q6.length + [y7].length) (lim 8)) then L4 (w (q5 + (1 : Int))) (q6 ++ [y7]) else none) else none) else some (a0.1, a1, q6))
def f57_l4 (a0 : Int × tL × List Int) (a1 : Int × Int × Int) (y1 : List tV) (n : Nat) (q5 : Int) (q6 : List Int) : Option (Int × tL × List Int) :=
  iter (X := Int × List Int) (fun L x => f57_b4 K a0 a1 y1 (fun v0 v1 => L (v0, v1)) x.1 x.2) n (q5, q6)
def f57_g (a0 : Int × tL × List Int) (a1 : Int × Int × Int) (I4 : (List tV) → Int → (List Int) → Option (Int × tL × List Int)) : Option (Int × tL × List Int) :=
  (f66G K a1).bind fun y1 => I4 y1 (0 : Int) []
def f57G (a0 : Int × tL × List Int) (a1 : Int × Int × Int) : Option (Int × tL × List Int) :=
  f57_g K a0 a1 (fun c0 d0 d1 => f57_l4 K a0 a1 c0 K d0 d1)
def f57M : Mdl := ⟨[(.ro, (.cons sI (.cons sL (.list 2 sI)))), (.ro, sL)], [(.cons sI (.cons sL (.list 2 sI)))], fun x => f57G K x.1 x.2.1⟩
def f57_k4 (a0 : Int × tL × List Int) (a1 : Int × Int × Int) (lr : LR (Int × tL × List Int)) : Ex → Fr → Option (Int × tL × List Int) :=
  contC (f57E K) 1 lr f57C [1, 1, 0, 1, 0] (fM (f57E K) Tryz.f57 (f57M K) (a0, a1, ()))
def f57_j4 (a0 : Int × tL × List Int) (a1 : Int × Int × Int) (lr : LR (Int × tL × List Int)) (y1 : List tV) (bq5 : Int) (bq6 : List Int) : Option (Int × tL × List Int) :=
  lr (selC f57C [1, 1, 0, 1, 0, 0]) (f57_fr4 a0 a1 y1 bq5 bq6) (f57_k4 K a0 a1 lr)
def f24E : Env := eE K [(57, f57M K), (58, f58M K)] [0, 1, 2]
def f24G (a0 : Int × tL × List Int) : Option (Int × tL × List Int) :=
  (f58G K a0).bind fun y1 => (f57G K a0 y1).bind fun y2 => some y2
def f24M : Mdl := ⟨[(.ro, (.cons sI (.cons sL (.list 2 sI))))], [(.cons sI (.cons sL (.list 2 sI)))], fun x => f24G K x.1⟩
omit K
def f124G (K : Nat) (a0 a1 : Int) : Option ByteArray := fmtF a0 a1
def f124M (K : Nat) : Mdl := ⟨[(.ro, sI), (.ro, sI)], [.str], fun x => f124G K x.1 x.2.1⟩
include K
def f76E : Env := eE K [(124, f124M K)] [0, 2]
def f76G (a0 : Int) : Option ByteArray :=
  (f124G K a0 (10 : Int)).bind fun y1 => some y1
def f76M : Mdl := ⟨[(.ro, sI)], [.str], fun x => f76G K x.1⟩
omit K
def f138G (K : Nat) (a0 : List ByteArray) (a1 : ByteArray) : Option ByteArray := joinF a0 a1
def f138M (K : Nat) : Mdl := ⟨[(.mv, (.list 9 .str)), (.ro, .str)], [.str], fun x => f138G K x.1 x.2.1⟩
include K
def f103E : Env := eE K [(76, f76M K), (138, f138M K)] [0, 1, 4, 5, 7, 9, 10, 11, 12]
def f103_b3 (a0 : ByteArray) (a1 : List Int) (L3 : Int → (List ByteArray) → Option ByteArray) (q4 : Int) (q5 : List ByteArray) : Option ByteArray :=
  (bif (decide (q4 < (a1.length : Int))) then (bif (decide (0 ≤ q4) && decide (q4 < (a1.length : Int))) then (f76G K (a1.getD ((0 : Int) + q4).toNat (0 : Int))).bind fun y6 => (bif (Nat.ble (q5.length + [y6].length) (lim 16)) then L3 (w (q4 + (1 : Int))) (q5 ++ [y6]) else none) else none) else (f138G K q5 a0).bind fun y7 => some y7)
def f103_l3 (a0 : ByteArray) (a1 : List Int) (n : Nat) (q4 : Int) (q5 : List ByteArray) : Option ByteArray :=
  iter (X := Int × List ByteArray) (fun L x => f103_b3 K a0 a1 (fun v0 v1 => L (v0, v1)) x.1 x.2) n (q4, q5)
def f103_g (K : Nat) (a0 : ByteArray) (a1 : List Int) (I3 : Int → (List ByteArray) → Option ByteArray) : Option ByteArray :=
  I3 (0 : Int) []
def f103G (a0 : ByteArray) (a1 : List Int) : Option ByteArray :=
  f103_g K a0 a1 (fun d0 d1 => f103_l3 K a0 a1 K d0 d1)
def f103M : Mdl := ⟨[(.ro, .str), (.ro, (.list 2 sI))], [.str], fun x => f103G K x.1 x.2.1⟩
def f103_k3 (a0 : ByteArray) (a1 : List Int) (lr : LR ByteArray) : Ex → Fr → Option ByteArray :=
  contC (f103E K) 1 lr f103C [1, 1, 0, 1, 0] (fM (f103E K) Tryz.f103 (f103M K) (a0, a1, ()))
def f103_j3 (a0 : ByteArray) (a1 : List Int) (lr : LR ByteArray) (bq4 : Int) (bq5 : List ByteArray) : Option ByteArray :=
  lr (selC f103C [1, 1, 0, 1, 0, 0]) (f103_fr3 a0 a1 bq4 bq5) (f103_k3 K a0 a1 lr)
def f59E : Env := eE K [(54, f54M K), (103, f103M K)] [0, 1, 2, 5]
def f59G (a0 : Int × Int × Int) : Option ByteArray :=
  (f54G K a0).bind fun y1 => (bif (!y1) then some ByteArray.empty else (f103G K (bs [44]) [a0.1, a0.2.1, a0.2.2]).bind fun y2 => some y2)
def f59M : Mdl := ⟨[(.ro, sL)], [.str], fun x => f59G K x.1⟩
def f25E : Env := eE K [(59, f59M K)] [0, 1, 2]
def f25G (a0 : Int × tL × List Int) : Option ByteArray :=
  (bif (decide (0 ≤ a0.1) && decide (a0.1 ≤ (w (a0.1 + (1 : Int)))) && decide ((w (a0.1 + (1 : Int))) ≤ ((bs [83, 72]).size : Int))) then (bif (Nat.ble ((bs [102, 114, 97, 109, 101, 32]).size + ((bs [83, 72]).extract a0.1.toNat (w (a0.1 + (1 : Int))).toNat).size) 9223372036854775807) then (bif (Nat.ble (((bs [102, 114, 97, 109, 101, 32]) ++ ((bs [83, 72]).extract a0.1.toNat (w (a0.1 + (1 : Int))).toNat)).size + (bs [10, 108, 97, 116, 116, 105, 99, 101, 32]).size) 9223372036854775807) then (f59G K a0.2.1).bind fun y1 => (bif (Nat.ble ((((bs [102, 114, 97, 109, 101, 32]) ++ ((bs [83, 72]).extract a0.1.toNat (w (a0.1 + (1 : Int))).toNat)) ++ (bs [10, 108, 97, 116, 116, 105, 99, 101, 32])).size + y1.size) 9223372036854775807) then (bif (Nat.ble (((((bs [102, 114, 97, 109, 101, 32]) ++ ((bs [83, 72]).extract a0.1.toNat (w (a0.1 + (1 : Int))).toNat)) ++ (bs [10, 108, 97, 116, 116, 105, 99, 101, 32])) ++ y1).size + (bs [10]).size) 9223372036854775807) then some (((((bs [102, 114, 97, 109, 101, 32]) ++ ((bs [83, 72]).extract a0.1.toNat (w (a0.1 + (1 : Int))).toNat)) ++ (bs [10, 108, 97, 116, 116, 105, 99, 101, 32])) ++ y1) ++ (bs [10])) else none) else none) else none) else none) else none)
def f25M : Mdl := ⟨[(.ro, (.cons sI (.cons sL (.list 2 sI))))], [.str], fun x => f25G K x.1⟩
def f105E : Env := eE K [] [0, 1, 2, 3, 4]
def f105G (K : Nat) (a0 a1 : Int × Int × Int × Int) : Option tA :=
  some ((w ((w (a0.1 * a1.1)) + (w (a0.2.1 * a1.2.2.1)))), (w ((w (a0.1 * a1.2.1)) + (w (a0.2.1 * a1.2.2.2)))), (w ((w (a0.2.2.1 * a1.1)) + (w (a0.2.2.2 * a1.2.2.1)))), (w ((w (a0.2.2.1 * a1.2.1)) + (w (a0.2.2.2 * a1.2.2.2)))))
def f105M : Mdl := ⟨[(.ro, sA), (.ro, sA)], [sA], fun x => f105G K x.1 x.2.1⟩
def f62E : Env := eE K [(105, f105M K), (106, f106M K), (107, f107M K)] [0, 1, 2, 3, 4]
def f62G (a0 a1 : tA × Int × Int) : Option tM :=
  (f105G K a0.1 a1.1).bind fun y1 => (f106G K a0.1 a1.2).bind fun y2 => (f107G K y2 a0.2).bind fun y3 => some (y1, y3)
def f62M : Mdl := ⟨[(.ro, sM), (.ro, sM)], [sM], fun x => f62G K x.1 x.2.1⟩
def f61E : Env := eE K [(104, f104M K)] [0, 1, 2, 3, 4]
def f61G (a0 : Int × Int × Int) (a1 : tA × Int × Int) : Option tM :=
  (f104G K a0 a1.2).bind fun y1 => some (a1.1, y1)
def f61M : Mdl := ⟨[(.ro, sL), (.ro, sM)], [sM], fun x => f61G K x.1 x.2.1⟩
def f149E : Env := eE K [] [0, 1, 4, 5, 7, 8, 9, 19, 28]
def f149_b2 (K : Nat) (a0 a1 : List Int) (L2 : Int → Option Int) (q3 : Int) : Option Int :=
  (bif (decide (q3 < (a0.length : Int))) then (bif (decide (0 ≤ q3) && decide (q3 < (a0.length : Int))) then (bif (decide (0 ≤ q3) && decide (q3 < (a1.length : Int))) then (bif ((a0.getD ((0 : Int) + q3).toNat (0 : Int)) != (a1.getD ((0 : Int) + q3).toNat (0 : Int))) then (bif (decide (0 ≤ q3) && decide (q3 < (a0.length : Int))) then (bif (decide (0 ≤ q3) && decide (q3 < (a1.length : Int))) then (bif (decide ((a0.getD ((0 : Int) + q3).toNat (0 : Int)) < (a1.getD ((0 : Int) + q3).toNat (0 : Int)))) then some (-1 : Int) else some (1 : Int)) else none) else none) else L2 (w (q3 + (1 : Int)))) else none) else none) else some (0 : Int))
def f149_l2 (a0 a1 : List Int) (n : Nat) (q3 : Int) : Option Int :=
  iter (X := Int) (fun L x => f149_b2 K a0 a1 (fun v0 => L v0) x) n q3
def f149_g (K : Nat) (a0 a1 : List Int) (I2 : Int → Option Int) : Option Int :=
  I2 (0 : Int)
def f149G (a0 a1 : List Int) : Option Int :=
  f149_g K a0 a1 (fun d0 => f149_l2 K a0 a1 K d0)
def f149M : Mdl := ⟨[(.ro, (.list 2 sI)), (.ro, (.list 2 sI))], [sI], fun x => f149G K x.1 x.2.1⟩
def f149_k2 (a0 a1 : List Int) (lr : LR Int) : Ex → Fr → Option Int :=
  contC (f149E K) 2 lr f149C [1, 0, 1, 0] (fM (f149E K) Tryz.f149 (f149M K) (a0, a1, ()))
def f149_j2 (a0 a1 : List Int) (lr : LR Int) (bq3 : Int) : Option Int :=
  lr (selC f149C [1, 0, 1, 0, 0]) (f149_fr2 a0 a1 bq3) (f149_k2 K a0 a1 lr)
def f110E : Env := eE K [(149, f149M K)] [0, 1, 2, 3, 4]
def f110G (a0 a1 : Int × Int × Int × Int) : Option Int :=
  (f149G K [a0.1, a0.2.1, a0.2.2.1, a0.2.2.2] [a1.1, a1.2.1, a1.2.2.1, a1.2.2.2]).bind fun y1 => some y1
def f110M : Mdl := ⟨[(.ro, sA), (.ro, sA)], [sI], fun x => f110G K x.1 x.2.1⟩
def f111E : Env := eE K [(149, f149M K)] [0, 1, 2, 3, 4]
def f111G (a0 a1 : Int × Int) : Option Int :=
  (f149G K [a0.1, a0.2] [a1.1, a1.2]).bind fun y1 => some y1
def f111M : Mdl := ⟨[(.ro, sV), (.ro, sV)], [sI], fun x => f111G K x.1 x.2.1⟩
def f64E : Env := eE K [(110, f110M K), (111, f111M K)] [0, 1, 2, 3, 4, 5, 12]
def f64G (a0 a1 : tA × Int × Int) : Option Int :=
  (f110G K a0.1 a1.1).bind fun y1 => (bif (y1 != (0 : Int)) then some y1 else (f111G K a0.2 a1.2).bind fun y2 => some y2)
def f64M : Mdl := ⟨[(.ro, sM), (.ro, sM)], [sI], fun x => f64G K x.1 x.2.1⟩
omit K
def f63G (K : Nat) (a0 : List tM) (a1 : tM → tM → Option Int) : Option (List tM) := sortF sM a0 a1
def f63M (K : Nat) : Mdl := ⟨[(.io, (.list 47 sM)), (.ro, (.fn2 sM sM sI))], [], fun x => f63G K x.1 x.2.1⟩
include K
def f26E : Env := ⟨[(60, f60M K), (61, f61M K), (62, f62M K), (63, f63M K), (64, f64M K)], tys, eqs, mts, K, [0, 1, 2, 4, 5, 6, 7, 9, 10, 22, 25, 26, 27, 28, 42], [], [], [], [], [(64, f64M K)], [], false⟩
def f26_b16 (a0 : Int × Int × Int) (a1 : List tM) (q13 : Int) (q15 : List tM) (L12 : Int → (List (tM × Bool)) → (List tM) → Option (List tM)) (L16 : Int → (List (tM × Bool)) → (List tM) → Option (List tM)) (q17 : Int) (q18 : List (tM × Bool)) (q19 : List tM) : Option (List tM) :=
  (bif (decide (q17 < (a1.length : Int))) then (bif (decide (0 ≤ q17) && decide (q17 < (a1.length : Int))) then (bif (decide (0 ≤ q13) && decide (q13 < (q19.length : Int))) then (f62G K ((((a1.getD ((0 : Int) + q17).toNat zM).1).1, (((a1.getD ((0 : Int) + q17).toNat zM).1).2).1, ((((a1.getD ((0 : Int) + q17).toNat zM).1).2).2)), ((a1.getD ((0 : Int) + q17).toNat zM).2)) ((((q19.getD ((0 : Int) + q13).toNat zM).1).1, (((q19.getD ((0 : Int) + q13).toNat zM).1).2).1, ((((q19.getD ((0 : Int) + q13).toNat zM).1).2).2)), ((q19.getD ((0 : Int) + q13).toNat zM).2))).bind fun y20 => (f61G K a0 y20).bind fun y21 => (bif (!((mfind (eqSh sM) q18 y21).getD false)) then (bif (Nat.ble (q19.length + [y21].length) (lim 48)) then L16 (w (q17 + (1 : Int))) (mput (eqSh sM) q18 y21 true) (q19 ++ [y21]) else none) else L16 (w (q17 + (1 : Int))) q18 q19) else none) else none) else L12 (w (q13 + (1 : Int))) q18 q19)
def f26_l16 (a0 : Int × Int × Int) (a1 : List tM) (q13 : Int) (q15 : List tM) (L12 : Int → (List (tM × Bool)) → (List tM) → Option (List tM)) (n : Nat) (q17 : Int) (q18 : List (tM × Bool)) (q19 : List tM) : Option (List tM) :=
  iter (X := Int × List (tM × Bool) × List tM) (fun L x => f26_b16 K a0 a1 q13 q15 L12 (fun v0 v1 v2 => L (v0, v1, v2)) x.1 x.2.1 x.2.2) n (q17, q18, q19)
def f26_b12 (a0 : Int × Int × Int) (a1 : List tM) (I16 : Int → (List tM) → Int → (List (tM × Bool)) → (List tM) → Option (List tM)) (L12 : Int → (List (tM × Bool)) → (List tM) → Option (List tM)) (q13 : Int) (q14 : List (tM × Bool)) (q15 : List tM) : Option (List tM) :=
  (bif (decide (q13 < (q15.length : Int))) then I16 q13 q15 (0 : Int) q14 q15 else (f63G K q15 (fun z22 z23 => f64G K z22 z23)).bind fun y24 => some y24)
def f26_l12 (a0 : Int × Int × Int) (a1 : List tM) (n : Nat) (q13 : Int) (q14 : List (tM × Bool)) (q15 : List tM) : Option (List tM) :=
  iter (X := Int × List (tM × Bool) × List tM) (fun L x => (fun L12 => f26_b12 K a0 a1 (fun c0 c1 d0 d1 d2 => f26_l16 K a0 a1 c0 c1 L12 K d0 d1 d2) L12 x.1 x.2.1 x.2.2) (fun v0 v1 v2 => L (v0, v1, v2))) n (q13, q14, q15)
def f26_g (a0 : Int × Int × Int) (a1 : List tM) (I12 : Int → (List (tM × Bool)) → (List tM) → Option (List tM)) : Option (List tM) :=
  (f60G K).bind fun y1 => (bif (decide (0 ≤ (0 : Int)) && decide ((0 : Int) < ([(y1, (0 : Int), (0 : Int))].length : Int))) then I12 (0 : Int) (mput (eqSh sM) [] (((([(y1, (0 : Int), (0 : Int))].getD ((0 : Int) + (0 : Int)).toNat zM).1).1, ((([(y1, (0 : Int), (0 : Int))].getD ((0 : Int) + (0 : Int)).toNat zM).1).2).1, (((([(y1, (0 : Int), (0 : Int))].getD ((0 : Int) + (0 : Int)).toNat zM).1).2).2)), (([(y1, (0 : Int), (0 : Int))].getD ((0 : Int) + (0 : Int)).toNat zM).2)) true) [(y1, (0 : Int), (0 : Int))] else none)
def f26G (a0 : Int × Int × Int) (a1 : List tM) : Option (List tM) :=
  f26_g K a0 a1 (fun d0 d1 d2 => f26_l12 K a0 a1 K d0 d1 d2)
def f26M : Mdl := ⟨[(.ro, sL), (.ro, (.list 47 sM))], [(.list 47 sM)], fun x => f26G K x.1 x.2.1⟩
def f26_k12 (a0 : Int × Int × Int) (a1 : List tM) (lr : LR (List tM)) : Ex → Fr → Option (List tM) :=
  contC (f26E K) 1 lr f26C [1, 1, 1, 0, 1, 0] (fM (f26E K) Tryz.f26 (f26M K) (a0, a1, ()))
def f26_j12 (a0 : Int × Int × Int) (a1 : List tM) (lr : LR (List tM)) (bq13 : Int) (bq14 : List (tM × Bool)) (bq15 : List tM) : Option (List tM) :=
  lr (selC f26C [1, 1, 1, 0, 1, 0, 0]) (f26_fr12 a0 a1 bq13 bq14 bq15) (f26_k12 K a0 a1 lr)
def f26_k16 (a0 : Int × Int × Int) (a1 : List tM) (F12 : Fr → Option (List tM)) (bq13 : Int) (bq14 : List (tM × Bool)) (bq15 : List tM) (lr : LR (List tM)) : Ex → Fr → Option (List tM) :=
  contC (f26E K) 1 lr (selC f26C [1, 1, 1, 0, 1, 0, 0]) [1, 0, 0, 1, 0] (loopK 1 (f26_fr12 a0 a1 bq13 bq14 bq15) F12 (f26_k12 K a0 a1 lr))
def f26_j16 (a0 : Int × Int × Int) (a1 : List tM) (F12 : Fr → Option (List tM)) (bq13 : Int) (bq14 : List (tM × Bool)) (bq15 : List tM) (lr : LR (List tM)) (q13 : Int) (q15 : List tM) (bq17 : Int) (bq18 : List (tM × Bool)) (bq19 : List tM) : Option (List tM) :=
  lr (selC f26C [1, 1, 1, 0, 1, 0, 0, 1, 0, 0, 1, 0, 0]) (f26_fr16 a0 a1 q13 q15 bq17 bq18 bq19) (f26_k16 K a0 a1 F12 bq13 bq14 bq15 lr)
def f151E : Env := eE K [] [0, 1, 3, 4]
def f151G (K : Nat) (a0 : Int) (a1 : Int × Int) : Option Int :=
  some (w ((w ((w (a1.1 * a1.1)) + (w ((w (a0 * a1.1)) * a1.2)))) + (w (a1.2 * a1.2))))
def f151M : Mdl := ⟨[(.ro, sI), (.ro, sV)], [sI], fun x => f151G K x.1 x.2.1⟩
def f113E : Env := eE K [(106, f106M K), (151, f151M K)] [0, 2, 3, 4, 5, 6, 7, 8, 10, 11, 54]
def f113_b8 (a0 : Int) (L8 : Int → (List tA) → Option (List tA)) (q9 : Int) (q10 : List tA) : Option (List tA) :=
  (bif (decide (q9 < (81 : Int))) then (f106G K ((w ((w (q9.tdiv (27 : Int))) - (1 : Int))), (w (((w (q9.tdiv (9 : Int))).tmod (3 : Int)) - (1 : Int))), (w (((w (q9.tdiv (3 : Int))).tmod (3 : Int)) - (1 : Int))), (w ((q9.tmod (3 : Int)) - (1 : Int)))) ((1 : Int), (0 : Int))).bind fun y11 => (f106G K ((w ((w (q9.tdiv (27 : Int))) - (1 : Int))), (w (((w (q9.tdiv (9 : Int))).tmod (3 : Int)) - (1 : Int))), (w (((w (q9.tdiv (3 : Int))).tmod (3 : Int)) - (1 : Int))), (w ((q9.tmod (3 : Int)) - (1 : Int)))) ((0 : Int), (1 : Int))).bind fun y12 => (f106G K ((w ((w (q9.tdiv (27 : Int))) - (1 : Int))), (w (((w (q9.tdiv (9 : Int))).tmod (3 : Int)) - (1 : Int))), (w (((w (q9.tdiv (3 : Int))).tmod (3 : Int)) - (1 : Int))), (w ((q9.tmod (3 : Int)) - (1 : Int)))) ((1 : Int), (1 : Int))).bind fun y13 => (f151G K a0 y11).bind fun y14 => ((bif (y14 == (1 : Int)) then f151G K a0 y12 else some (0 : Int))).bind fun y15 => ((bif (bif (y14 == (1 : Int)) then (y15 == (1 : Int)) else false) then f151G K a0 y13 else some (0 : Int))).bind fun y16 => (bif (bif (bif (y14 == (1 : Int)) then (y15 == (1 : Int)) else false) then (y16 == (w ((2 : Int) + a0))) else false) then (bif (Nat.ble (q10.length + [((w ((w (q9.tdiv (27 : Int))) - (1 : Int))), (w (((w (q9.tdiv (9 : Int))).tmod (3 : Int)) - (1 : Int))), (w (((w (q9.tdiv (3 : Int))).tmod (3 : Int)) - (1 : Int))), (w ((q9.tmod (3 : Int)) - (1 : Int))))].length) (lim 32)) then L8 (w (q9 + (1 : Int))) (q10 ++ [((w ((w (q9.tdiv (27 : Int))) - (1 : Int))), (w (((w (q9.tdiv (9 : Int))).tmod (3 : Int)) - (1 : Int))), (w (((w (q9.tdiv (3 : Int))).tmod (3 : Int)) - (1 : Int))), (w ((q9.tmod (3 : Int)) - (1 : Int))))]) else none) else L8 (w (q9 + (1 : Int))) q10) else some q10)
def f113_l8 (a0 : Int) (n : Nat) (q9 : Int) (q10 : List tA) : Option (List tA) :=
  iter (X := Int × List tA) (fun L x => f113_b8 K a0 (fun v0 v1 => L (v0, v1)) x.1 x.2) n (q9, q10)
def f113_g (K : Nat) (a0 : Int) (I8 : Int → (List tA) → Option (List tA)) : Option (List tA) :=
  I8 (0 : Int) []
def f113G (a0 : Int) : Option (List tA) :=
  f113_g K a0 (fun d0 d1 => f113_l8 K a0 K d0 d1)
def f113M : Mdl := ⟨[(.ro, sI)], [(.list 43 sA)], fun x => f113G K x.1⟩
def f113_k8 (a0 : Int) (lr : LR (List tA)) : Ex → Fr → Option (List tA) :=
  contC (f113E K) 0 lr f113C [1, 1, 0, 1, 0] (fM (f113E K) Tryz.f113 (f113M K) (a0, ()))
def f113_j8 (a0 : Int) (lr : LR (List tA)) (bq9 : Int) (bq10 : List tA) : Option (List tA) :=
  lr (selC f113C [1, 1, 0, 1, 0, 0]) (f113_fr8 a0 bq9 bq10) (f113_k8 K a0 lr)
def f115E : Env := eE K [(104, f104M K)] [0, 1, 2, 3, 4]
def f115G (a0 : Int × Int × Int) (a1 : Int × Int) : Option Bool :=
  (f104G K a0 a1).bind fun y1 => some ((y1.1 == (0 : Int)) && (y1.2 == (0 : Int)))
def f115M : Mdl := ⟨[(.ro, sL), (.ro, sV)], [.bool], fun x => f115G K x.1 x.2.1⟩
def f114E : Env := eE K [(106, f106M K), (115, f115M K)] [0, 1, 2, 3, 4, 5]
def f114G (a0 : Int × Int × Int × Int) (a1 : Int × Int × Int) (a2 a3 : Int × Int) : Option Bool :=
  (f106G K a0 a2).bind fun y1 => (f115G K a1 y1).bind fun y2 => ((bif (!(!y2)) then f106G K a0 a3 else some ((0 : Int), (0 : Int)))).bind fun y3 => ((bif (!(!y2)) then f115G K a1 y3 else some false)).bind fun y4 => some (bif (!y2) then true else (!y4))
def f114M : Mdl := ⟨[(.ro, sA), (.cap, sL), (.cap, sV), (.cap, sV)], [.bool], fun x => f114G K x.1 x.2.1 x.2.2.1 x.2.2.2.1⟩
def f150E : Env := eE K [] [0, 1, 4, 5, 7, 8, 9, 16]
def f150_b3 (K : Nat) (a0 : List tA) (a1 : (tA → Option Bool)) (L3 : Int → Option Int) (q4 : Int) : Option Int :=
  (bif (decide (q4 < (a0.length : Int))) then (bif (decide (0 ≤ q4) && decide (q4 < (a0.length : Int))) then (a1 ((a0.getD ((0 : Int) + q4).toNat zA).1, ((a0.getD ((0 : Int) + q4).toNat zA).2).1, (((a0.getD ((0 : Int) + q4).toNat zA).2).2))).bind fun y5 => (bif y5 then some q4 else L3 (w (q4 + (1 : Int)))) else none) else some (-1 : Int))
def f150_l3 (a0 : List tA) (a1 : (tA → Option Bool)) (n : Nat) (q4 : Int) : Option Int :=
  iter (X := Int) (fun L x => f150_b3 K a0 a1 (fun v0 => L v0) x) n q4
def f150_g (K : Nat) (a0 : List tA) (a1 : (tA → Option Bool)) (I3 : Int → Option Int) : Option Int :=
  I3 (0 : Int)
def f150G (a0 : List tA) (a1 : (tA → Option Bool)) : Option Int :=
  f150_g K a0 a1 (fun d0 => f150_l3 K a0 a1 K d0)
def f150M : Mdl := ⟨[(.ro, (.list 43 sA)), (.ro, (.fn1 sA .bool))], [sI], fun x => f150G K x.1 x.2.1⟩
def f150_k3 (a0 : List tA) (a1 : (tA → Option Bool)) (lr : LR Int) : Ex → Fr → Option Int :=
  contC (f150E K) 1 lr f150C [1, 0, 1, 0] (fM (f150E K) Tryz.f150 (f150M K) (a0, a1, ()))
def f150_j3 (a0 : List tA) (a1 : (tA → Option Bool)) (lr : LR Int) (bq4 : Int) : Option Int :=
  lr (selC f150C [1, 0, 1, 0, 0]) (f150_fr3 a0 a1 bq4) (f150_k3 K a0 a1 lr)
def f112E : Env := eE K [(150, f150M K)] [0, 1, 4, 5, 6, 7, 12, 19, 29]
def f112_b4 (K : Nat) (a1 : (tA → Option Bool)) (y1 : Int) (L4 : Int → Int → (List tA) → Option (List tA)) (q5 q6 : Int) (q7 : List tA) : Option (List tA) :=
  (bif (decide (q6 < (q7.length : Int))) then (bif (decide (0 ≤ q6) && decide (q6 < (q7.length : Int))) then (a1 ((q7.getD ((0 : Int) + q6).toNat zA).1, ((q7.getD ((0 : Int) + q6).toNat zA).2).1, (((q7.getD ((0 : Int) + q6).toNat zA).2).2))).bind fun y8 => (bif (!y8) then (bif (decide (0 ≤ q5) && decide (q5 < (q7.length : Int))) then L4 (w (q5 + (1 : Int))) (w (q6 + (1 : Int))) (q7.set ((0 : Int) + q5).toNat ((q7.getD ((0 : Int) + q6).toNat zA).1, ((q7.getD ((0 : Int) + q6).toNat zA).2).1, (((q7.getD ((0 : Int) + q6).toNat zA).2).2))) else none) else L4 q5 (w (q6 + (1 : Int))) q7) else none) else (bif (decide (0 ≤ q5) && decide (q5 ≤ (q7.length : Int)) && decide ((q7.length : Int) ≤ (q7.length : Int))) then (bif (decide (0 ≤ (0 : Int)) && decide ((0 : Int) ≤ q5) && decide (q5 ≤ ((clr q7 ((0 : Int) + q5).toNat (((0 : Int) + q5) + (((0 : Int) + (q7.length : Int)) - ((0 : Int) + q5))).toNat zA).length : Int))) then some ((clr q7 ((0 : Int) + q5).toNat (((0 : Int) + q5) + (((0 : Int) + (q7.length : Int)) - ((0 : Int) + q5))).toNat zA).take ((0 : Int) + q5).toNat) else none) else none))
def f112_l4 (a1 : (tA → Option Bool)) (y1 : Int) (n : Nat) (q5 q6 : Int) (q7 : List tA) : Option (List tA) :=
  iter (X := Int × Int × List tA) (fun L x => f112_b4 K a1 y1 (fun v0 v1 v2 => L (v0, v1, v2)) x.1 x.2.1 x.2.2) n (q5, q6, q7)
def f112_g (a0 : List tA) (a1 : (tA → Option Bool)) (I4 : Int → Int → Int → (List tA) → Option (List tA)) : Option (List tA) :=
  (f150G K a0 a1).bind fun y1 => (bif (y1 == (-1 : Int)) then some a0 else I4 y1 y1 (w (y1 + (1 : Int))) a0)
def f112G (a0 : List tA) (a1 : (tA → Option Bool)) : Option (List tA) :=
  f112_g K a0 a1 (fun c0 d0 d1 d2 => f112_l4 K a1 c0 K d0 d1 d2)
def f112M : Mdl := ⟨[(.mv, (.list 43 sA)), (.ro, (.fn1 sA .bool))], [(.list 43 sA)], fun x => f112G K x.1 x.2.1⟩
def f112_k4 (a0 : List tA) (a1 : (tA → Option Bool)) (lr : LR (List tA)) : Ex → Fr → Option (List tA) :=
  contC (f112E K) 1 lr f112C [1, 1, 1, 0, 1, 0] (fM (f112E K) Tryz.f112 (f112M K) (a0, a1, ()))
def f112_j4 (a0 : List tA) (a1 : (tA → Option Bool)) (lr : LR (List tA)) (y1 bq5 bq6 : Int) (bq7 : List tA) : Option (List tA) :=
  lr (selC f112C [1, 1, 1, 0, 1, 0, 0]) (f112_fr4 a1 y1 bq5 bq6 bq7) (f112_k4 K a0 a1 lr)
def f65E : Env := ⟨[(101, f101M K), (112, f112M K), (113, f113M K), (114, f114M K)], tys, eqs, mts, K, [0, 1, 3, 4, 5, 6], [], [], [], [], [(114, f114M K)], [], false⟩
def f65G (a0 : Int) (a1 : Int × Int × Int) : Option (List tA) :=
  (f101G K a1).bind fun y1 => (f113G K a0).bind fun y2 => (f112G K y2 (fun z3 => f114G K z3 a1 y1.1 y1.2)).bind fun y4 => some y4
def f65M : Mdl := ⟨[(.ro, sI), (.ro, sL)], [(.list 43 sA)], fun x => f65G K x.1 x.2.1⟩
def f27E : Env := eE K [(65, f65M K), (66, f66M K), (67, f67M K)] [0, 1, 2, 3, 5, 7, 13, 14, 15, 16, 21, 22, 23, 24, 31]
def f27_b14 (a0 : Int × tL × List Int) (q11 : Int) (y1 : List tA) (y13 : List tV) (L10 L14 : Int → (List tM) → Option (List tM)) (q15 : Int) (q16 : List tM) : Option (List tM) :=
  (bif (decide (q15 < (y13.length : Int))) then (bif (decide (0 ≤ q15) && decide (q15 < (y13.length : Int))) then (f67G K a0 (((y1.getD ((0 : Int) + q11).toNat zA).1, ((y1.getD ((0 : Int) + q11).toNat zA).2).1, (((y1.getD ((0 : Int) + q11).toNat zA).2).2)), (y13.getD ((0 : Int) + q15).toNat ((0 : Int), (0 : Int))))).bind fun y17 => (bif y17 then (bif (Nat.ble (q16.length + [(((y1.getD ((0 : Int) + q11).toNat zA).1, ((y1.getD ((0 : Int) + q11).toNat zA).2).1, (((y1.getD ((0 : Int) + q11).toNat zA).2).2)), (y13.getD ((0 : Int) + q15).toNat ((0 : Int), (0 : Int))))].length) (lim 48)) then L14 (w (q15 + (1 : Int))) (q16 ++ [(((y1.getD ((0 : Int) + q11).toNat zA).1, ((y1.getD ((0 : Int) + q11).toNat zA).2).1, (((y1.getD ((0 : Int) + q11).toNat zA).2).2)), (y13.getD ((0 : Int) + q15).toNat ((0 : Int), (0 : Int))))]) else none) else L14 (w (q15 + (1 : Int))) q16) else none) else L10 (w (q11 + (1 : Int))) q16)
def f27_l14 (a0 : Int × tL × List Int) (q11 : Int) (y1 : List tA) (y13 : List tV) (L10 : Int → (List tM) → Option (List tM)) (n : Nat) (q15 : Int) (q16 : List tM) : Option (List tM) :=
  iter (X := Int × List tM) (fun L x => f27_b14 K a0 q11 y1 y13 L10 (fun v0 v1 => L (v0, v1)) x.1 x.2) n (q15, q16)
def f27_b10 (a0 : Int × tL × List Int) (y1 : List tA) (I14 : Int → (List tV) → Int → (List tM) → Option (List tM)) (L10 : Int → (List tM) → Option (List tM)) (q11 : Int) (q12 : List tM) : Option (List tM) :=
  (bif (decide (q11 < (y1.length : Int))) then (bif (decide (0 ≤ q11) && decide (q11 < (y1.length : Int))) then (f66G K a0.2.1).bind fun y13 => I14 q11 y13 (0 : Int) q12 else none) else some q12)
def f27_l10 (a0 : Int × tL × List Int) (y1 : List tA) (n : Nat) (q11 : Int) (q12 : List tM) : Option (List tM) :=
  iter (X := Int × List tM) (fun L x => (fun L10 => f27_b10 K a0 y1 (fun c0 c1 d0 d1 => f27_l14 K a0 c0 y1 c1 L10 K d0 d1) L10 x.1 x.2) (fun v0 v1 => L (v0, v1))) n (q11, q12)
def f27_g (a0 : Int × tL × List Int) (I10 : (List tA) → Int → (List tM) → Option (List tM)) : Option (List tM) :=
  (f65G K a0.1 a0.2.1).bind fun y1 => I10 y1 (0 : Int) []
def f27G (a0 : Int × tL × List Int) : Option (List tM) :=
  f27_g K a0 (fun c0 d0 d1 => f27_l10 K a0 c0 K d0 d1)
def f27M : Mdl := ⟨[(.ro, (.cons sI (.cons sL (.list 2 sI))))], [(.list 47 sM)], fun x => f27G K x.1⟩
def f27_k10 (a0 : Int × tL × List Int) (lr : LR (List tM)) : Ex → Fr → Option (List tM) :=
  contC (f27E K) 1 lr f27C [1, 1, 0, 1, 0] (fM (f27E K) Tryz.f27 (f27M K) (a0, ()))
def f27_j10 (a0 : Int × tL × List Int) (lr : LR (List tM)) (y1 : List tA) (bq11 : Int) (bq12 : List tM) : Option (List tM) :=
  lr (selC f27C [1, 1, 0, 1, 0, 0]) (f27_fr10 a0 y1 bq11 bq12) (f27_k10 K a0 lr)
def f27_k14 (a0 : Int × tL × List Int) (y1 : List tA) (F10 : Fr → Option (List tM)) (bq11 : Int) (bq12 : List tM) (lr : LR (List tM)) : Ex → Fr → Option (List tM) :=
  contC (f27E K) 1 lr (selC f27C [1, 1, 0, 1, 0, 0]) [1, 1, 0, 0, 1, 1, 0] (loopK 1 (f27_fr10 a0 y1 bq11 bq12) F10 (f27_k10 K a0 lr))
def f27_j14 (a0 : Int × tL × List Int) (y1 : List tA) (F10 : Fr → Option (List tM)) (bq11 : Int) (bq12 : List tM) (lr : LR (List tM)) (q11 : Int) (y13 : List tV) (bq15 : Int) (bq16 : List tM) : Option (List tM) :=
  lr (selC f27C [1, 1, 0, 1, 0, 0, 1, 1, 0, 0, 1, 1, 0, 0]) (f27_fr14 a0 q11 y1 y13 bq15 bq16) (f27_k14 K a0 y1 F10 bq11 bq12 lr)
def f68E : Env := eE K [] [0, 1, 3, 4, 5, 7, 8, 9, 16]
def f68_b2 (K : Nat) (a0 : List tM) (a1 : tA × Int × Int) (L2 : Int → Option Int) (q3 : Int) : Option Int :=
  (bif (decide (q3 < (a0.length : Int))) then (bif (decide (0 ≤ q3) && decide (q3 < (a0.length : Int))) then (bif ((a1.1.1 == ((a0.getD ((0 : Int) + q3).toNat zM).1).1) && ((a1.1.2.1 == (((a0.getD ((0 : Int) + q3).toNat zM).1).2).1) && ((a1.1.2.2.1 == ((((a0.getD ((0 : Int) + q3).toNat zM).1).2).2).1) && ((a1.1.2.2.2 == ((((a0.getD ((0 : Int) + q3).toNat zM).1).2).2).2) && ((a1.2.1 == ((a0.getD ((0 : Int) + q3).toNat zM).2).1) && (a1.2.2 == ((a0.getD ((0 : Int) + q3).toNat zM).2).2)))))) then some q3 else L2 (w (q3 + (1 : Int)))) else none) else some (-1 : Int))
def f68_l2 (a0 : List tM) (a1 : tA × Int × Int) (n : Nat) (q3 : Int) : Option Int :=
  iter (X := Int) (fun L x => f68_b2 K a0 a1 (fun v0 => L v0) x) n q3
def f68_g (K : Nat) (a0 : List tM) (a1 : tA × Int × Int) (I2 : Int → Option Int) : Option Int :=
  I2 (0 : Int)
def f68G (a0 : List tM) (a1 : tA × Int × Int) : Option Int :=
  f68_g K a0 a1 (fun d0 => f68_l2 K a0 a1 K d0)
def f68M : Mdl := ⟨[(.ro, (.list 47 sM)), (.ro, sM)], [sI], fun x => f68G K x.1 x.2.1⟩
def f68_k2 (a0 : List tM) (a1 : tA × Int × Int) (lr : LR Int) : Ex → Fr → Option Int :=
  contC (f68E K) 1 lr f68C [1, 0, 1, 0] (fM (f68E K) Tryz.f68 (f68M K) (a0, a1, ()))
def f68_j2 (a0 : List tM) (a1 : tA × Int × Int) (lr : LR Int) (bq3 : Int) : Option Int :=
  lr (selC f68C [1, 0, 1, 0, 0]) (f68_fr2 a0 a1 bq3) (f68_k2 K a0 a1 lr)
def f28E : Env := eE K [(68, f68M K)] [0, 1, 3, 4]
def f28G (a0 : List tM) (a1 : tA × Int × Int) : Option Bool :=
  (f68G K a0 a1).bind fun y1 => some (decide (y1 ≥ (0 : Int)))
def f28M : Mdl := ⟨[(.ro, (.list 47 sM)), (.ro, sM)], [.bool], fun x => f28G K x.1 x.2.1⟩
def f156E : Env := eE K [(98, f98M K)] [0, 2]
def f156G (a0 : Int) : Option Bool :=
  (f98G K a0 (-1000 : Int) (1000 : Int)).bind fun y1 => some y1
def f156M : Mdl := ⟨[(.ro, sI)], [.bool], fun x => f156G K x.1⟩
def f152E : Env := eE K [(156, f156M K)] [0, 1, 2]
def f152G (a0 : Int × Int × Int × Int) : Option Bool :=
  (f156G K a0.1).bind fun y1 => ((bif y1 then f156G K a0.2.1 else some false)).bind fun y2 => ((bif (bif y1 then y2 else false) then f156G K a0.2.2.1 else some false)).bind fun y3 => ((bif (bif (bif y1 then y2 else false) then y3 else false) then f156G K a0.2.2.2 else some false)).bind fun y4 => some (bif (bif (bif y1 then y2 else false) then y3 else false) then y4 else false)
def f152M : Mdl := ⟨[(.ro, sA)], [.bool], fun x => f152G K x.1⟩
def f153E : Env := eE K [] [0, 1, 2]
def f153G (K : Nat) (a0 : Int × Int × Int × Int) : Option Int :=
  some (w ((w (a0.1 * a0.2.2.2)) - (w (a0.2.1 * a0.2.2.1))))
def f153M : Mdl := ⟨[(.ro, sA)], [sI], fun x => f153G K x.1⟩
def f117E : Env := eE K [(152, f152M K), (153, f153M K)] [0, 1, 2]
def f117G (a0 : Int × Int × Int × Int) : Option Bool :=
  (f152G K a0).bind fun y1 => ((bif y1 then f153G K a0 else some (0 : Int))).bind fun y2 => ((bif (y1 && (!(y2 == (1 : Int)))) then f153G K a0 else some (0 : Int))).bind fun y3 => some (bif y1 then (bif (y2 == (1 : Int)) then true else (y3 == (-1 : Int))) else false)
def f117M : Mdl := ⟨[(.ro, sA)], [.bool], fun x => f117G K x.1⟩
def f171E : Env := eE K [(60, f60M K), (153, f153M K)] [0, 1, 2, 3, 9, 13, 24, 32, 40]
def f171G (a0 : Int × Int × Int × Int) : Option Int :=
  (f60G K).bind fun y1 => (bif ((a0.1 == y1.1) && ((a0.2.1 == y1.2.1) && ((a0.2.2.1 == y1.2.2.1) && (a0.2.2.2 == y1.2.2.2)))) then some (1 : Int) else (f153G K a0).bind fun y2 => (bif (bif (y2 == (-1 : Int)) then ((w (a0.1 + a0.2.2.2)) == (0 : Int)) else false) then (bif (bif (y2 == (-1 : Int)) then ((w (a0.1 + a0.2.2.2)) == (0 : Int)) else false) then some (2 : Int) else (f153G K a0).bind fun y3 => (bif (bif (y3 == (1 : Int)) then ((w (a0.1 + a0.2.2.2)) == (-1 : Int)) else false) then some (3 : Int) else (f153G K a0).bind fun y4 => (bif (bif (y4 == (1 : Int)) then ((w (a0.1 + a0.2.2.2)) == (0 : Int)) else false) then some (4 : Int) else (f153G K a0).bind fun y5 => (bif (bif (y5 == (1 : Int)) then ((w (a0.1 + a0.2.2.2)) == (1 : Int)) else false) then some (6 : Int) else some (0 : Int))))) else (bif ((a0.1 == (-1 : Int)) && ((a0.2.1 == (0 : Int)) && ((a0.2.2.1 == (0 : Int)) && (a0.2.2.2 == (-1 : Int))))) then some (2 : Int) else (f153G K a0).bind fun y6 => (bif (bif (y6 == (1 : Int)) then ((w (a0.1 + a0.2.2.2)) == (-1 : Int)) else false) then some (3 : Int) else (f153G K a0).bind fun y7 => (bif (bif (y7 == (1 : Int)) then ((w (a0.1 + a0.2.2.2)) == (0 : Int)) else false) then some (4 : Int) else (f153G K a0).bind fun y8 => (bif (bif (y8 == (1 : Int)) then ((w (a0.1 + a0.2.2.2)) == (1 : Int)) else false) then some (6 : Int) else some (0 : Int)))))))
def f171M : Mdl := ⟨[(.ro, sA)], [sI], fun x => f171G K x.1⟩
def f154E : Env := eE K [(153, f153M K), (171, f171M K)] [0, 1, 2]
def f154G (a0 : Int × Int × Int × Int) : Option Bool :=
  (f153G K a0).bind fun y1 => ((bif (y1 == (1 : Int)) then f171G K a0 else some (0 : Int))).bind fun y2 => some (bif (y1 == (1 : Int)) then (decide (y2 > (0 : Int))) else false)
def f154M : Mdl := ⟨[(.ro, sA)], [.bool], fun x => f154G K x.1⟩
def f155E : Env := eE K [(153, f153M K), (171, f171M K)] [0, 1, 2]
def f155G (a0 : Int × Int × Int × Int) : Option Bool :=
  (f153G K a0).bind fun y1 => ((bif (y1 == (-1 : Int)) then f171G K a0 else some (0 : Int))).bind fun y2 => some (bif (y1 == (-1 : Int)) then (y2 == (2 : Int)) else false)
def f155M : Mdl := ⟨[(.ro, sA)], [.bool], fun x => f155G K x.1⟩
def f118E : Env := eE K [(154, f154M K), (155, f155M K)] [0, 1, 2]
def f118G (a0 : Int × Int × Int × Int) : Option Bool :=
  (f154G K a0).bind fun y1 => ((bif (!y1) then f155G K a0 else some false)).bind fun y2 => some (bif y1 then true else y2)
def f118M : Mdl := ⟨[(.ro, sA)], [.bool], fun x => f118G K x.1⟩
def f119E : Env := eE K [(156, f156M K)] [0, 1, 2]
def f119G (a0 : Int × Int) : Option Bool :=
  (f156G K a0.1).bind fun y1 => ((bif y1 then f156G K a0.2 else some false)).bind fun y2 => some (bif y1 then y2 else false)
def f119M : Mdl := ⟨[(.ro, sV)], [.bool], fun x => f119G K x.1⟩
def f69E : Env := eE K [(117, f117M K), (118, f118M K), (119, f119M K)] [0, 1, 2]
def f69G (a0 : tA × Int × Int) : Option Bool :=
  (f117G K a0.1).bind fun y1 => ((bif y1 then f118G K a0.1 else some false)).bind fun y2 => ((bif (bif y1 then y2 else false) then f119G K a0.2 else some false)).bind fun y3 => some (bif (bif y1 then y2 else false) then y3 else false)
def f69M : Mdl := ⟨[(.ro, sM)], [.bool], fun x => f69G K x.1⟩
def f70E : Env := eE K [(103, f103M K), (117, f117M K)] [0, 1, 2, 5]
def f70G (a0 : Int × Int × Int × Int) : Option ByteArray :=
  (f117G K a0).bind fun y1 => (bif (!y1) then some ByteArray.empty else (f103G K (bs [44]) [a0.1, a0.2.1, a0.2.2.1, a0.2.2.2]).bind fun y2 => some y2)
def f70M : Mdl := ⟨[(.ro, sA)], [.str], fun x => f70G K x.1⟩
def f71E : Env := eE K [(103, f103M K), (119, f119M K)] [0, 1, 2, 5]
def f71G (a0 : Int × Int) : Option ByteArray :=
  (f119G K a0).bind fun y1 => (bif (!y1) then some ByteArray.empty else (f103G K (bs [44]) [a0.1, a0.2]).bind fun y2 => some y2)
def f71M : Mdl := ⟨[(.ro, sV)], [.str], fun x => f71G K x.1⟩
def f29E : Env := eE K [(69, f69M K), (70, f70M K), (71, f71M K)] [0, 1, 2, 5]
def f29G (a0 : tA × Int × Int) : Option ByteArray :=
  (f69G K a0).bind fun y1 => (bif (!y1) then some ByteArray.empty else (f70G K a0.1).bind fun y2 => (bif (Nat.ble (y2.size + (bs [59]).size) 9223372036854775807) then (f71G K a0.2).bind fun y3 => (bif (Nat.ble ((y2 ++ (bs [59])).size + y3.size) 9223372036854775807) then some ((y2 ++ (bs [59])) ++ y3) else none) else none))
def f29M : Mdl := ⟨[(.ro, sM)], [.str], fun x => f29G K x.1⟩
omit K
def f120G (K : Nat) (a0 a1 : Int) : Option tV := mulF a0 a1
def f120M (K : Nat) : Mdl := ⟨[(.ro, (.int .u64)), (.ro, (.int .u64))], [(.int .u64), (.int .u64)], fun x => f120G K x.1 x.2.1⟩
include K
def f72E : Env := eE K [(120, f120M K)] [0, 1, 4, 5, 6, 7, 8, 10, 26, 37]
def f72_b3 (K : Nat) (a0 : List Int) (a1 : Int) (y1 : Int × Int) (L3 : Int → (List Int) → Option (List Int)) (q4 : Int) (q5 : List Int) : Option (List Int) :=
  (bif (decide (q4 < (q5.length : Int))) then (bif (decide (0 ≤ q4) && decide (q4 ≤ (q5.length : Int)) && decide ((q5.length : Int) ≤ (q5.length : Int))) then (bif (decide (0 ≤ (0 : Int)) && decide ((0 : Int) ≤ q4) && decide (q4 ≤ (q5.length : Int))) then L3 (w (q4 + (bif decide ((((0 : Int) + (q5.length : Int)) - ((0 : Int) + q4)) ≤ (((0 : Int) + q4) - (0 : Int))) then (((0 : Int) + (q5.length : Int)) - ((0 : Int) + q4)) else (((0 : Int) + q4) - (0 : Int))))) (q5.take ((0 : Int) + q4).toNat ++ ((q5.take ((0 : Int) + (((0 : Int) + q4) - (0 : Int))).toNat).drop 0).take (bif decide ((((0 : Int) + (q5.length : Int)) - ((0 : Int) + q4)) ≤ (((0 : Int) + q4) - (0 : Int))) then (((0 : Int) + (q5.length : Int)) - ((0 : Int) + q4)) else (((0 : Int) + q4) - (0 : Int))).toNat ++ q5.drop (((0 : Int) + q4).toNat + (bif decide ((((0 : Int) + (q5.length : Int)) - ((0 : Int) + q4)) ≤ (((0 : Int) + q4) - (0 : Int))) then (((0 : Int) + (q5.length : Int)) - ((0 : Int) + q4)) else (((0 : Int) + q4) - (0 : Int))).toNat)) else none) else none) else some q5)
def f72_l3 (a0 : List Int) (a1 : Int) (y1 : Int × Int) (n : Nat) (q4 : Int) (q5 : List Int) : Option (List Int) :=
  iter (X := Int × List Int) (fun L x => f72_b3 K a0 a1 y1 (fun v0 v1 => L (v0, v1)) x.1 x.2) n (q4, q5)
def f72_g (a0 : List Int) (a1 : Int) (I3 : tV → Int → (List Int) → Option (List Int)) : Option (List Int) :=
  (bif (decide (a1 < (0 : Int))) then none else (f120G K (IntKind.u64.wrap (a0.length : Int)) (IntKind.u64.wrap a1)).bind fun y1 => (bif (bif (decide (y1.1 > (0 : Int))) then true else (decide (y1.2 > (9223372036854775807 : Int)))) then none else (bif (decide (0 ≤ (w y1.2)) && Nat.ble (w y1.2).toNat (lim 8) && ((w y1.2) == (w y1.2))) then I3 y1 (bif decide (((List.replicate (w y1.2).toNat (0 : Int)).length : Int) ≤ (a0.length : Int)) then ((List.replicate (w y1.2).toNat (0 : Int)).length : Int) else (a0.length : Int)) ((List.replicate (w y1.2).toNat (0 : Int)).take 0 ++ ((a0.take ((0 : Int) + (a0.length : Int)).toNat).drop 0).take (bif decide (((List.replicate (w y1.2).toNat (0 : Int)).length : Int) ≤ (a0.length : Int)) then ((List.replicate (w y1.2).toNat (0 : Int)).length : Int) else (a0.length : Int)).toNat ++ (List.replicate (w y1.2).toNat (0 : Int)).drop (0 + (bif decide (((List.replicate (w y1.2).toNat (0 : Int)).length : Int) ≤ (a0.length : Int)) then ((List.replicate (w y1.2).toNat (0 : Int)).length : Int) else (a0.length : Int)).toNat)) else none)))
def f72G (a0 : List Int) (a1 : Int) : Option (List Int) :=
  f72_g K a0 a1 (fun c0 d0 d1 => f72_l3 K a0 a1 c0 K d0 d1)
def f72M : Mdl := ⟨[(.ro, (.list 2 sI)), (.ro, sI)], [(.list 2 sI)], fun x => f72G K x.1 x.2.1⟩
def f72_k3 (a0 : List Int) (a1 : Int) (lr : LR (List Int)) : Ex → Fr → Option (List Int) :=
  contC (f72E K) 1 lr f72C [1, 1, 1, 1, 1, 1, 0, 0] (fM (f72E K) Tryz.f72 (f72M K) (a0, a1, ()))
def f72_j3 (a0 : List Int) (a1 : Int) (lr : LR (List Int)) (y1 : Int × Int) (bq4 : Int) (bq5 : List Int) : Option (List Int) :=
  lr (selC f72C [1, 1, 1, 1, 1, 1, 0, 0, 0]) (f72_fr3 a0 a1 y1 bq4 bq5) (f72_k3 K a0 a1 lr)
def f121E : Env := eE K [(104, f104M K), (116, f116M K)] [0, 1, 2, 3, 4, 5, 6]
def f121G (a0 : Int × Int × Int) (a1 : tA × Int × Int) (a2 : Int × Int) : Option tV :=
  (f116G K a1 a2).bind fun y1 => (f104G K a0 y1).bind fun y2 => some y2
def f121M : Mdl := ⟨[(.ro, sL), (.ro, sM), (.ro, sV)], [sV], fun x => f121G K x.1 x.2.1 x.2.2.1⟩
omit K
def f122G (K : Nat) (a0 : List tV) (a1 : tV → tV → Option Int) : Option (List tV) := sortF sV a0 a1
def f122M (K : Nat) : Mdl := ⟨[(.io, (.list 45 sV)), (.ro, (.fn2 sV sV sI))], [], fun x => f122G K x.1 x.2.1⟩
include K
def f123E : Env := eE K [] [0, 2, 3, 4, 5, 8, 13, 25, 32, 44]
def f123_b9 (K : Nat) (a0 : List tV) (q8 : Int) (L9 : Int → Int → (List tV) → Option (List tV)) (q10 q11 : Int) (q12 : List tV) : Option (List tV) :=
  (bif (decide (q11 < (((0 : Int) + (a0.length : Int)) - ((0 : Int) + q8)))) then (bif (decide (0 ≤ q11) && decide (q11 < (((0 : Int) + (a0.length : Int)) - ((0 : Int) + q8)))) then (bif (decide (0 ≤ (w (q11 - (1 : Int)))) && decide ((w (q11 - (1 : Int))) < (((0 : Int) + (a0.length : Int)) - ((0 : Int) + q8)))) then (bif (!(((q12.getD (((0 : Int) + q8) + q11).toNat ((0 : Int), (0 : Int))).1 == (q12.getD (((0 : Int) + q8) + (w (q11 - (1 : Int)))).toNat ((0 : Int), (0 : Int))).1) && ((q12.getD (((0 : Int) + q8) + q11).toNat ((0 : Int), (0 : Int))).2 == (q12.getD (((0 : Int) + q8) + (w (q11 - (1 : Int)))).toNat ((0 : Int), (0 : Int))).2))) then (bif (decide (0 ≤ q11) && decide (q11 < (((0 : Int) + (a0.length : Int)) - ((0 : Int) + q8)))) then (bif (decide (0 ≤ q10) && decide (q10 < (q12.length : Int))) then L9 (w (q10 + (1 : Int))) (w (q11 + (1 : Int))) (q12.set ((0 : Int) + q10).toNat (q12.getD (((0 : Int) + q8) + q11).toNat ((0 : Int), (0 : Int)))) else none) else none) else L9 q10 (w (q11 + (1 : Int))) q12) else none) else none) else (bif (decide (0 ≤ q10) && decide (q10 ≤ (q12.length : Int)) && decide ((q12.length : Int) ≤ (q12.length : Int))) then (bif (decide (0 ≤ (0 : Int)) && decide ((0 : Int) ≤ q10) && decide (q10 ≤ ((clr q12 ((0 : Int) + q10).toNat (((0 : Int) + q10) + (((0 : Int) + (q12.length : Int)) - ((0 : Int) + q10))).toNat ((0 : Int), (0 : Int))).length : Int))) then some ((clr q12 ((0 : Int) + q10).toNat (((0 : Int) + q10) + (((0 : Int) + (q12.length : Int)) - ((0 : Int) + q10))).toNat ((0 : Int), (0 : Int))).take ((0 : Int) + q10).toNat) else none) else none))
def f123_l9 (a0 : List tV) (q8 : Int) (n : Nat) (q10 q11 : Int) (q12 : List tV) : Option (List tV) :=
  iter (X := Int × Int × List tV) (fun L x => f123_b9 K a0 q8 (fun v0 v1 v2 => L (v0, v1, v2)) x.1 x.2.1 x.2.2) n (q10, q11, q12)
def f123_b7 (K : Nat) (a0 : List tV) (I9 : Int → Int → Int → (List tV) → Option (List tV)) (L7 : Int → Option (List tV)) (q8 : Int) : Option (List tV) :=
  (bif (decide (q8 < (a0.length : Int))) then (bif (decide (0 ≤ q8) && decide (q8 < (a0.length : Int))) then (bif (decide (0 ≤ (w (q8 - (1 : Int)))) && decide ((w (q8 - (1 : Int))) < (a0.length : Int))) then (bif (((a0.getD ((0 : Int) + q8).toNat ((0 : Int), (0 : Int))).1 == (a0.getD ((0 : Int) + (w (q8 - (1 : Int)))).toNat ((0 : Int), (0 : Int))).1) && ((a0.getD ((0 : Int) + q8).toNat ((0 : Int), (0 : Int))).2 == (a0.getD ((0 : Int) + (w (q8 - (1 : Int)))).toNat ((0 : Int), (0 : Int))).2)) then (bif (decide (0 ≤ q8) && decide (q8 ≤ (a0.length : Int)) && decide ((a0.length : Int) ≤ (a0.length : Int))) then I9 q8 q8 (1 : Int) a0 else none) else L7 (w (q8 + (1 : Int)))) else none) else none) else some a0)
def f123_l7 (a0 : List tV) (n : Nat) (q8 : Int) : Option (List tV) :=
  iter (X := Int) (fun L x => f123_b7 K a0 (fun c0 d0 d1 d2 => f123_l9 K a0 c0 K d0 d1 d2) (fun v0 => L v0) x) n q8
def f123_g (K : Nat) (a0 : List tV) (I7 : Int → Option (List tV)) : Option (List tV) :=
  (bif (decide ((a0.length : Int) < (2 : Int))) then some a0 else I7 (1 : Int))
def f123G (a0 : List tV) : Option (List tV) :=
  f123_g K a0 (fun d0 => f123_l7 K a0 K d0)
def f123M : Mdl := ⟨[(.mv, (.list 45 sV))], [(.list 45 sV)], fun x => f123G K x.1⟩
def f123_k7 (a0 : List tV) (lr : LR (List tV)) : Ex → Fr → Option (List tV) :=
  contC (f123E K) 1 lr f123C [1, 1, 0, 1, 0] (fM (f123E K) Tryz.f123 (f123M K) (a0, ()))
def f123_j7 (a0 : List tV) (lr : LR (List tV)) (bq8 : Int) : Option (List tV) :=
  lr (selC f123C [1, 1, 0, 1, 0, 0]) (f123_fr7 a0 bq8) (f123_k7 K a0 lr)
def f123_k9 (a0 : List tV) (F7 : Fr → Option (List tV)) (bq8 : Int) (lr : LR (List tV)) : Ex → Fr → Option (List tV) :=
  contC (f123E K) 1 lr (selC f123C [1, 1, 0, 1, 0, 0]) [1, 0, 0, 1, 0, 1, 0, 1, 0] (loopK 1 (f123_fr7 a0 bq8) F7 (f123_k7 K a0 lr))
def f123_j9 (a0 : List tV) (F7 : Fr → Option (List tV)) (bq8 : Int) (lr : LR (List tV)) (q8 bq10 bq11 : Int) (bq12 : List tV) : Option (List tV) :=
  lr (selC f123C [1, 1, 0, 1, 0, 0, 1, 0, 0, 1, 0, 1, 0, 1, 0, 0]) (f123_fr9 a0 q8 bq10 bq11 bq12) (f123_k9 K a0 F7 bq8 lr)
def f74E : Env := ⟨[(111, f111M K), (121, f121M K), (122, f122M K), (123, f123M K)], tys, eqs, mts, K, [0, 1, 2, 3, 5, 6, 7, 9, 11, 12, 13, 14], [], [], [], [], [(111, f111M K)], [], false⟩
def f74_b3 (a0 : Int × Int × Int) (a1 : List tM) (a2 : Int × Int) (L3 : Int → (List tV) → Option (List tV)) (q4 : Int) (q5 : List tV) : Option (List tV) :=
  (bif (decide (q4 < (a1.length : Int))) then (bif (decide (0 ≤ q4) && decide (q4 < (a1.length : Int))) then (f121G K a0 ((((a1.getD ((0 : Int) + q4).toNat zM).1).1, (((a1.getD ((0 : Int) + q4).toNat zM).1).2).1, ((((a1.getD ((0 : Int) + q4).toNat zM).1).2).2)), ((a1.getD ((0 : Int) + q4).toNat zM).2)) a2).bind fun y6 => (bif (Nat.ble (q5.length + [y6].length) (lim 16)) then L3 (w (q4 + (1 : Int))) (q5 ++ [y6]) else none) else none) else (f122G K q5 (fun z7 z8 => f111G K z7 z8)).bind fun y9 => (f123G K y9).bind fun y10 => some y10)
def f74_l3 (a0 : Int × Int × Int) (a1 : List tM) (a2 : Int × Int) (n : Nat) (q4 : Int) (q5 : List tV) : Option (List tV) :=
  iter (X := Int × List tV) (fun L x => f74_b3 K a0 a1 a2 (fun v0 v1 => L (v0, v1)) x.1 x.2) n (q4, q5)
def f74_g (K : Nat) (a0 : Int × Int × Int) (a1 : List tM) (a2 : Int × Int) (I3 : Int → (List tV) → Option (List tV)) : Option (List tV) :=
  I3 (0 : Int) []
def f74G (a0 : Int × Int × Int) (a1 : List tM) (a2 : Int × Int) : Option (List tV) :=
  f74_g K a0 a1 a2 (fun d0 d1 => f74_l3 K a0 a1 a2 K d0 d1)
def f74M : Mdl := ⟨[(.ro, sL), (.ro, (.list 47 sM)), (.ro, sV)], [(.list 45 sV)], fun x => f74G K x.1 x.2.1 x.2.2.1⟩
def f74_k3 (a0 : Int × Int × Int) (a1 : List tM) (a2 : Int × Int) (lr : LR (List tV)) : Ex → Fr → Option (List tV) :=
  contC (f74E K) 1 lr f74C [1, 1, 0, 1, 0] (fM (f74E K) Tryz.f74 (f74M K) (a0, a1, a2, ()))
def f74_j3 (a0 : Int × Int × Int) (a1 : List tM) (a2 : Int × Int) (lr : LR (List tV)) (bq4 : Int) (bq5 : List tV) : Option (List tV) :=
  lr (selC f74C [1, 1, 0, 1, 0, 0]) (f74_fr3 a0 a1 a2 bq4 bq5) (f74_k3 K a0 a1 a2 lr)
def f30E : Env := eE K [(55, f55M K), (66, f66M K), (72, f72M K), (73, f73M K), (74, f74M K)] [0, 1, 2, 4, 5, 6, 7, 9, 10, 12, 19, 20, 21, 22, 31, 36, 37, 38, 39]
def f30_b22 (a0 : Int × Int × Int) (a1 : List tM) (q17 : Int) (q18 : List (List tV)) (q19 : List Int) (y3 : List tV) (y20 : Int) (y21 : List tV) (L16 : Int → (List (List tV)) → (List Int) → Option ((List (List tV)) × List Int)) (L22 : Int → (List Int) → Option ((List (List tV)) × List Int)) (q23 : Int) (q24 : List Int) : Option ((List (List tV)) × List Int) :=
  (bif (decide (q23 < (y21.length : Int))) then (bif (decide (0 ≤ q23) && decide (q23 < (y21.length : Int))) then (f73G K a0 (y21.getD ((0 : Int) + q23).toNat ((0 : Int), (0 : Int)))).bind fun y25 => (bif (decide (0 ≤ y25) && decide (y25 < (q24.length : Int))) then L22 (w (q23 + (1 : Int))) (q24.set ((0 : Int) + y25).toNat (q18.length : Int)) else none) else none) else (bif (Nat.ble (q18.length + [y21].length) (lim 24)) then L16 (w (q17 + (1 : Int))) (q18 ++ [y21]) q24 else none))
def f30_l22 (a0 : Int × Int × Int) (a1 : List tM) (q17 : Int) (q18 : List (List tV)) (q19 : List Int) (y3 : List tV) (y20 : Int) (y21 : List tV) (L16 : Int → (List (List tV)) → (List Int) → Option ((List (List tV)) × List Int)) (n : Nat) (q23 : Int) (q24 : List Int) : Option ((List (List tV)) × List Int) :=
  iter (X := Int × List Int) (fun L x => f30_b22 K a0 a1 q17 q18 q19 y3 y20 y21 L16 (fun v0 v1 => L (v0, v1)) x.1 x.2) n (q23, q24)
def f30_b16 (a0 : Int × Int × Int) (a1 : List tM) (y3 : List tV) (I22 : Int → (List (List tV)) → (List Int) → Int → (List tV) → Int → (List Int) → Option ((List (List tV)) × List Int)) (L16 : Int → (List (List tV)) → (List Int) → Option ((List (List tV)) × List Int)) (q17 : Int) (q18 : List (List tV)) (q19 : List Int) : Option ((List (List tV)) × List Int) :=
  (bif (decide (q17 < (y3.length : Int))) then (bif (decide (0 ≤ q17) && decide (q17 < (y3.length : Int))) then (f73G K a0 (y3.getD ((0 : Int) + q17).toNat ((0 : Int), (0 : Int)))).bind fun y20 => (bif (decide (0 ≤ y20) && decide (y20 < (q19.length : Int))) then (bif (decide ((q19.getD ((0 : Int) + y20).toNat (0 : Int)) ≥ (0 : Int))) then L16 (w (q17 + (1 : Int))) q18 q19 else (f74G K a0 a1 (y3.getD ((0 : Int) + q17).toNat ((0 : Int), (0 : Int)))).bind fun y21 => I22 q17 q18 q19 y20 y21 (0 : Int) q19) else none) else none) else some (q18, q19))
def f30_l16 (a0 : Int × Int × Int) (a1 : List tM) (y3 : List tV) (n : Nat) (q17 : Int) (q18 : List (List tV)) (q19 : List Int) : Option ((List (List tV)) × List Int) :=
  iter (X := Int × List (List tV) × List Int) (fun L x => (fun L16 => f30_b16 K a0 a1 y3 (fun c0 c1 c2 c3 c4 d0 d1 => f30_l22 K a0 a1 c0 c1 c2 y3 c3 c4 L16 K d0 d1) L16 x.1 x.2.1 x.2.2) (fun v0 v1 v2 => L (v0, v1, v2))) n (q17, q18, q19)
def f30_g (a0 : Int × Int × Int) (a1 : List tM) (I16 : (List tV) → Int → (List (List tV)) → (List Int) → Option ((List (List tV)) × List Int)) : Option ((List (List tV)) × List Int) :=
  (f55G K a0).bind fun y1 => (f72G K [(-1 : Int)] y1).bind fun y2 => (f66G K a0).bind fun y3 => I16 y3 (0 : Int) [] y2
def f30G (a0 : Int × Int × Int) (a1 : List tM) : Option ((List (List tV)) × List Int) :=
  f30_g K a0 a1 (fun c0 d0 d1 d2 => f30_l16 K a0 a1 c0 K d0 d1 d2)
def f30M : Mdl := ⟨[(.ro, sL), (.ro, (.list 47 sM))], [(.list 55 (.list 45 sV)), (.list 2 sI)], fun x => f30G K x.1 x.2.1⟩
def f30_k16 (a0 : Int × Int × Int) (a1 : List tM) (lr : LR ((List (List tV)) × List Int)) : Ex → Fr → Option ((List (List tV)) × List Int) :=
  contC (f30E K) 1 lr f30C [1, 1, 0, 1, 0] (fM (f30E K) Tryz.f30 (f30M K) (a0, a1, ()))
def f30_j16 (a0 : Int × Int × Int) (a1 : List tM) (lr : LR ((List (List tV)) × List Int)) (y3 : List tV) (bq17 : Int) (bq18 : List (List tV)) (bq19 : List Int) : Option ((List (List tV)) × List Int) :=
  lr (selC f30C [1, 1, 0, 1, 0, 0]) (f30_fr16 a0 a1 y3 bq17 bq18 bq19) (f30_k16 K a0 a1 lr)
def f30_k22 (a0 : Int × Int × Int) (a1 : List tM) (y3 : List tV) (F16 : Fr → Option ((List (List tV)) × List Int)) (bq17 : Int) (bq18 : List (List tV)) (bq19 : List Int) (lr : LR ((List (List tV)) × List Int)) : Ex → Fr → Option ((List (List tV)) × List Int) :=
  contC (f30E K) 1 lr (selC f30C [1, 1, 0, 1, 0, 0]) [1, 1, 0, 0, 1, 1, 1, 0, 1, 0] (loopK 1 (f30_fr16 a0 a1 y3 bq17 bq18 bq19) F16 (f30_k16 K a0 a1 lr))
def f30_j22 (a0 : Int × Int × Int) (a1 : List tM) (y3 : List tV) (F16 : Fr → Option ((List (List tV)) × List Int)) (bq17 : Int) (bq18 : List (List tV)) (bq19 : List Int) (lr : LR ((List (List tV)) × List Int)) (q17 : Int) (q18 : List (List tV)) (q19 : List Int) (y20 : Int) (y21 : List tV) (bq23 : Int) (bq24 : List Int) : Option ((List (List tV)) × List Int) :=
  lr (selC f30C [1, 1, 0, 1, 0, 0, 1, 1, 0, 0, 1, 1, 1, 0, 1, 0, 0]) (f30_fr22 a0 a1 q17 q18 q19 y3 y20 y21 bq23 bq24) (f30_k22 K a0 a1 y3 F16 bq17 bq18 bq19 lr)
def f31E : Env := eE K [(71, f71M K), (75, f75M K), (76, f76M K)] [0, 1, 2, 4, 5, 6, 7, 9, 10, 11, 12, 13, 14, 21, 36]
def f31_b5 (a0 : Int × tL × List Int) (a1 : List tV) (L5 : ByteArray → Int → Int → Option (ByteArray × Int)) (q6 : ByteArray) (q7 q8 : Int) : Option (ByteArray × Int) :=
  (bif (decide (q8 < (a1.length : Int))) then (bif (decide (0 ≤ q8) && decide (q8 < (a1.length : Int))) then (f75G K a0 (a1.getD ((0 : Int) + q8).toNat ((0 : Int), (0 : Int)))).bind fun y9 => (bif (y9 != (0 : Int)) then (f71G K (a1.getD ((0 : Int) + q8).toNat ((0 : Int), (0 : Int)))).bind fun y10 => (bif (Nat.ble ((bs [109, 97, 114, 107, 32]).size + y10.size) 9223372036854775807) then (bif (Nat.ble (((bs [109, 97, 114, 107, 32]) ++ y10).size + (bs [32]).size) 9223372036854775807) then (f76G K y9).bind fun y11 => (bif (Nat.ble ((((bs [109, 97, 114, 107, 32]) ++ y10) ++ (bs [32])).size + y11.size) 9223372036854775807) then (bif (Nat.ble (((((bs [109, 97, 114, 107, 32]) ++ y10) ++ (bs [32])) ++ y11).size + (bs [10]).size) 9223372036854775807) then (bif (Nat.ble (q6.size + (((((bs [109, 97, 114, 107, 32]) ++ y10) ++ (bs [32])) ++ y11) ++ (bs [10])).size) 9223372036854775807) then L5 (q6 ++ (((((bs [109, 97, 114, 107, 32]) ++ y10) ++ (bs [32])) ++ y11) ++ (bs [10]))) (w (q7 + (1 : Int))) (w (q8 + (1 : Int))) else none) else none) else none) else none) else none) else L5 q6 q7 (w (q8 + (1 : Int)))) else none) else (bif (decide (q7 > (40 : Int))) then some (ByteArray.empty, (3 : Int)) else some (q6, (0 : Int))))
def f31_l5 (a0 : Int × tL × List Int) (a1 : List tV) (n : Nat) (q6 : ByteArray) (q7 q8 : Int) : Option (ByteArray × Int) :=
  iter (X := ByteArray × Int × Int) (fun L x => f31_b5 K a0 a1 (fun v0 v1 v2 => L (v0, v1, v2)) x.1 x.2.1 x.2.2) n (q6, q7, q8)
def f31_g (K : Nat) (a0 : Int × tL × List Int) (a1 : List tV) (I5 : ByteArray → Int → Int → Option (ByteArray × Int)) : Option (ByteArray × Int) :=
  I5 ByteArray.empty (0 : Int) (0 : Int)
def f31G (a0 : Int × tL × List Int) (a1 : List tV) : Option (ByteArray × Int) :=
  f31_g K a0 a1 (fun d0 d1 d2 => f31_l5 K a0 a1 K d0 d1 d2)
def f31M : Mdl := ⟨[(.ro, (.cons sI (.cons sL (.list 2 sI)))), (.ro, (.list 45 sV))], [.str, sI], fun x => f31G K x.1 x.2.1⟩
def f31_k5 (a0 : Int × tL × List Int) (a1 : List tV) (lr : LR (ByteArray × Int)) : Ex → Fr → Option (ByteArray × Int) :=
  contC (f31E K) 2 lr f31C [1, 1, 0, 1, 0] (fM (f31E K) Tryz.f31 (f31M K) (a0, a1, ()))
def f31_j5 (a0 : Int × tL × List Int) (a1 : List tV) (lr : LR (ByteArray × Int)) (bq6 : ByteArray) (bq7 bq8 : Int) : Option (ByteArray × Int) :=
  lr (selC f31C [1, 1, 0, 1, 0, 0]) (f31_fr5 a0 a1 bq6 bq7 bq8) (f31_k5 K a0 a1 lr)
def f7E : Env := eE K [(23, f23M K), (24, f24M K), (25, f25M K), (26, f26M K), (27, f27M K), (28, f28M K), (29, f29M K), (30, f30M K), (31, f31M K)] [0, 1, 2, 3, 4, 5, 6, 7, 8, 10, 11, 12, 15, 16, 17, 20, 31, 32, 33, 34, 40, 64, 65, 66, 67, 84]
def f7_b20 (a0 : Int × tL × List Int) (q11 : ByteArray) (q12 : Int) (q13 q14 : List tM) (y1 : Bool) (y2 : Int × tL × List Int) (y5 : List tM) (y18 : (List (List tV)) × List Int) (L20 : Int → (List tV) → Option (ByteArray × Int)) (q21 : Int) (q22 : List tV) : Option (ByteArray × Int) :=
  (bif (decide (q21 < (y18.1.length : Int))) then (bif (decide (0 ≤ q21) && decide (q21 < (y18.1.length : Int))) then (bif (decide (0 ≤ (0 : Int)) && decide ((0 : Int) < ((y18.1.getD ((0 : Int) + q21).toNat []).length : Int))) then (bif (Nat.ble (q22.length + [((y18.1.getD ((0 : Int) + q21).toNat []).getD ((0 : Int) + (0 : Int)).toNat ((0 : Int), (0 : Int)))].length) (lim 16)) then L20 (w (q21 + (1 : Int))) (q22 ++ [((y18.1.getD ((0 : Int) + q21).toNat []).getD ((0 : Int) + (0 : Int)).toNat ((0 : Int), (0 : Int)))]) else none) else none) else none) else (f31G K y2 q22).bind fun y23 => (bif (y23.2 != (0 : Int)) then some (ByteArray.empty, y23.2) else (bif (Nat.ble (q11.size + y23.1.size) 9223372036854775807) then some ((q11 ++ y23.1), (0 : Int)) else none)))
def f7_l20 (a0 : Int × tL × List Int) (q11 : ByteArray) (q12 : Int) (q13 q14 : List tM) (y1 : Bool) (y2 : Int × tL × List Int) (y5 : List tM) (y18 : (List (List tV)) × List Int) (n : Nat) (q21 : Int) (q22 : List tV) : Option (ByteArray × Int) :=
  iter (X := Int × List tV) (fun L x => f7_b20 K a0 q11 q12 q13 q14 y1 y2 y5 y18 (fun v0 v1 => L (v0, v1)) x.1 x.2) n (q21, q22)
def f7_b10 (a0 : Int × tL × List Int) (y1 : Bool) (y2 : Int × tL × List Int) (y5 : List tM) (I20 : ByteArray → Int → (List tM) → (List tM) → Bool → (Int × tL × List Int) → (List tM) → ((List (List tV)) × List Int) → Int → (List tV) → Option (ByteArray × Int)) (L10 : ByteArray → Int → (List tM) → (List tM) → Option (ByteArray × Int)) (q11 : ByteArray) (q12 : Int) (q13 q14 : List tM) : Option (ByteArray × Int) :=
  (bif (decide (q12 < (y5.length : Int))) then (bif (decide (0 ≤ q12) && decide (q12 < (y5.length : Int))) then (f28G K q14 ((((y5.getD ((0 : Int) + q12).toNat zM).1).1, (((y5.getD ((0 : Int) + q12).toNat zM).1).2).1, ((((y5.getD ((0 : Int) + q12).toNat zM).1).2).2)), ((y5.getD ((0 : Int) + q12).toNat zM).2))).bind fun y15 => (bif (!y15) then (f29G K ((((y5.getD ((0 : Int) + q12).toNat zM).1).1, (((y5.getD ((0 : Int) + q12).toNat zM).1).2).1, ((((y5.getD ((0 : Int) + q12).toNat zM).1).2).2)), ((y5.getD ((0 : Int) + q12).toNat zM).2))).bind fun y16 => (bif (Nat.ble ((bs [109, 111, 116, 105, 111, 110, 32]).size + y16.size) 9223372036854775807) then (bif (Nat.ble (((bs [109, 111, 116, 105, 111, 110, 32]) ++ y16).size + (bs [10]).size) 9223372036854775807) then (bif (Nat.ble (q11.size + (((bs [109, 111, 116, 105, 111, 110, 32]) ++ y16) ++ (bs [10])).size) 9223372036854775807) then (bif (Nat.ble (q13.length + [((((y5.getD ((0 : Int) + q12).toNat zM).1).1, (((y5.getD ((0 : Int) + q12).toNat zM).1).2).1, ((((y5.getD ((0 : Int) + q12).toNat zM).1).2).2)), ((y5.getD ((0 : Int) + q12).toNat zM).2))].length) (lim 48)) then (f26G K y2.2.1 (q13 ++ [((((y5.getD ((0 : Int) + q12).toNat zM).1).1, (((y5.getD ((0 : Int) + q12).toNat zM).1).2).1, ((((y5.getD ((0 : Int) + q12).toNat zM).1).2).2)), ((y5.getD ((0 : Int) + q12).toNat zM).2))])).bind fun y17 => L10 (q11 ++ (((bs [109, 111, 116, 105, 111, 110, 32]) ++ y16) ++ (bs [10]))) (w (q12 + (1 : Int))) (q13 ++ [((((y5.getD ((0 : Int) + q12).toNat zM).1).1, (((y5.getD ((0 : Int) + q12).toNat zM).1).2).1, ((((y5.getD ((0 : Int) + q12).toNat zM).1).2).2)), ((y5.getD ((0 : Int) + q12).toNat zM).2))]) y17 else none) else none) else none) else none) else L10 q11 (w (q12 + (1 : Int))) q13 q14) else none) else (f30G K y2.2.1 y5).bind fun y18 => I20 q11 q12 q13 q14 y1 y2 y5 y18 (0 : Int) [])
def f7_l10 (a0 : Int × tL × List Int) (y1 : Bool) (y2 : Int × tL × List Int) (y5 : List tM) (n : Nat) (q11 : ByteArray) (q12 : Int) (q13 q14 : List tM) : Option (ByteArray × Int) :=
  iter (X := ByteArray × Int × List tM × List tM) (fun L x => f7_b10 K a0 y1 y2 y5 (fun c0 c1 c2 c3 c4 c5 c6 c7 d0 d1 => f7_l20 K a0 c0 c1 c2 c3 c4 c5 c6 c7 K d0 d1) (fun v0 v1 v2 v3 => L (v0, v1, v2, v3)) x.1 x.2.1 x.2.2.1 x.2.2.2) n (q11, q12, q13, q14)
def f7_g (a0 : Int × tL × List Int) (I10 : Bool → (Int × tL × List Int) → (List tM) → ByteArray → Int → (List tM) → (List tM) → Option (ByteArray × Int)) : Option (ByteArray × Int) :=
  (f23G K a0).bind fun y1 => (bif (!y1) then some (ByteArray.empty, (1 : Int)) else (f24G K a0).bind fun y2 => (f25G K y2).bind fun y3 => (f26G K y2.2.1 []).bind fun y4 => (f27G K y2).bind fun y5 => I10 y1 y2 y5 y3 (0 : Int) [] y4)
def f7G (a0 : Int × tL × List Int) : Option (ByteArray × Int) :=
  f7_g K a0 (fun c0 c1 c2 d0 d1 d2 d3 => f7_l10 K a0 c0 c1 c2 K d0 d1 d2 d3)
def f7M : Mdl := ⟨[(.ro, (.cons sI (.cons sL (.list 2 sI))))], [.str, sI], fun x => f7G K x.1⟩
def f7_k10 (a0 : Int × tL × List Int) (lr : LR (ByteArray × Int)) : Ex → Fr → Option (ByteArray × Int) :=
  contC (f7E K) 1 lr f7C [1, 1, 1, 1, 0, 1, 0] (fM (f7E K) Tryz.f7 (f7M K) (a0, ()))
def f7_j10 (a0 : Int × tL × List Int) (lr : LR (ByteArray × Int)) (y1 : Bool) (y2 : Int × tL × List Int) (y5 : List tM) (bq11 : ByteArray) (bq12 : Int) (bq13 bq14 : List tM) : Option (ByteArray × Int) :=
  lr (selC f7C [1, 1, 1, 1, 0, 1, 0, 0]) (f7_fr10 a0 y1 y2 y5 bq11 bq12 bq13 bq14) (f7_k10 K a0 lr)
def f7_k20 (a0 : Int × tL × List Int) (lr : LR (ByteArray × Int)) : Ex → Fr → Option (ByteArray × Int) :=
  contC (f7E K) 1 lr f7C [1, 1, 1, 1, 1, 1, 1, 0, 1, 0] (fM (f7E K) Tryz.f7 (f7M K) (a0, ()))
def f7_j20 (a0 : Int × tL × List Int) (lr : LR (ByteArray × Int)) (q11 : ByteArray) (q12 : Int) (q13 q14 : List tM) (y1 : Bool) (y2 : Int × tL × List Int) (y5 : List tM) (y18 : (List (List tV)) × List Int) (bq21 : Int) (bq22 : List tV) : Option (ByteArray × Int) :=
  lr (selC f7C [1, 1, 1, 1, 1, 1, 1, 0, 1, 0, 0]) (f7_fr20 a0 q11 q12 q13 q14 y1 y2 y5 y18 bq21 bq22) (f7_k20 K a0 lr)
def f32E : Env := eE K [] [0, 1, 2, 3, 4, 9, 14, 19]
def f32G (K : Nat) (a0 a1 : Int × Int × Int) : Option Bool :=
  (bif (a0.1 != a1.1) then some false else (bif (a0.2.1 != a1.2.1) then some false else (bif (a0.2.2 != a1.2.2) then some false else some true)))
def f32M : Mdl := ⟨[(.ro, sL), (.ro, sL)], [.bool], fun x => f32G K x.1 x.2.1⟩
def f33E : Env := eE K [] [0, 1, 4, 5, 10, 14, 25]
def f33_b2 (K : Nat) (a0 a1 : List Int) (L2 : Int → Option Bool) (q3 : Int) : Option Bool :=
  (bif (decide (q3 < (a0.length : Int))) then (bif (decide (0 ≤ q3) && decide (q3 < (a0.length : Int))) then (bif (decide (0 ≤ q3) && decide (q3 < (a1.length : Int))) then (bif ((a0.getD ((0 : Int) + q3).toNat (0 : Int)) != (a1.getD ((0 : Int) + q3).toNat (0 : Int))) then some false else L2 (w (q3 + (1 : Int)))) else none) else none) else some true)
def f33_l2 (a0 a1 : List Int) (n : Nat) (q3 : Int) : Option Bool :=
  iter (X := Int) (fun L x => f33_b2 K a0 a1 (fun v0 => L v0) x) n q3
def f33_g (K : Nat) (a0 a1 : List Int) (I2 : Int → Option Bool) : Option Bool :=
  (bif ((a0.length : Int) != (a1.length : Int)) then some false else I2 (0 : Int))
def f33G (a0 a1 : List Int) : Option Bool :=
  f33_g K a0 a1 (fun d0 => f33_l2 K a0 a1 K d0)
def f33M : Mdl := ⟨[(.ro, (.list 2 sI)), (.ro, (.list 2 sI))], [.bool], fun x => f33G K x.1 x.2.1⟩
def f33_k2 (a0 a1 : List Int) (lr : LR Bool) : Ex → Fr → Option Bool :=
  contC (f33E K) 2 lr f33C [1, 1, 0, 1, 0] (fM (f33E K) Tryz.f33 (f33M K) (a0, a1, ()))
def f33_j2 (a0 a1 : List Int) (lr : LR Bool) (bq3 : Int) : Option Bool :=
  lr (selC f33C [1, 1, 0, 1, 0, 0]) (f33_fr2 a0 a1 bq3) (f33_k2 K a0 a1 lr)
def f8E : Env := eE K [(32, f32M K), (33, f33M K)] [0, 1, 2, 3, 4, 9, 15, 21]
def f8G (a0 a1 : Int × tL × List Int) : Option Bool :=
  (bif (a0.1 != a1.1) then some false else (f32G K a0.2.1 a1.2.1).bind fun y1 => (bif (!y1) then some false else (f33G K a0.2.2 a1.2.2).bind fun y2 => (bif (!y2) then some false else some true)))
def f8M : Mdl := ⟨[(.ro, (.cons sI (.cons sL (.list 2 sI)))), (.ro, (.cons sI (.cons sL (.list 2 sI))))], [.bool], fun x => f8G K x.1 x.2.1⟩
def f3E : Env := eE K [(4, f4M K), (5, f5M K), (6, f6M K), (7, f7M K), (8, f8M K)] [0, 1, 2, 3, 4, 5, 6, 7, 8, 13, 34, 39]
def f3G (a0 : Int × tL × List Int) : Option Bool :=
  (f4G K a0 (1048576 : Int)).bind fun y1 => (bif (decide (y1 < (0 : Int))) then some true else (f6G K a0).bind fun y2 => (f5G K y2).bind fun y3 => (f6G K a0).bind fun y4 => (f7G K y4).bind fun y5 => (bif (bif (y5.1 != y3.1) then true else (y5.2 != y3.2)) then some false else (f6G K a0).bind fun y6 => (f8G K y4 y6).bind fun y7 => (bif (!y7) then some false else some true)))
def f3M : Mdl := ⟨[(.ro, (.cons sI (.cons sL (.list 2 sI))))], [.bool], fun x => f3G K x.1⟩
end
end Go.Proofs.YthlpehmnjanmnaaGreatDoor.X
