/- Functions of the program as plain Lean functions, and that the program does what they say. Printed by gen.py. -/
import Derived.Test.YtakemdehgdpplaaGreatDoorQzXLoop
import Derived.Test.YtakemdehgdpplaaGreatDoorQzXLib
import Derived.Test.YtakemdehgdpplaaGreatDoorQzXStr
import Derived.Test.YtakemdehgdpplaaGreatDoorProg
namespace Go.Proofs.YtakemdehgdpplaaGreatDoor.X
open Go
set_option maxRecDepth 100000
attribute [local instance] cwD
set_option linter.unusedVariables false
abbrev tM : Type := ((Int × Int × Int × Int) × Int × Int)
abbrev tA : Type := (Int × Int × Int × Int)
abbrev tL : Type := (Int × Int × Int)
abbrev tV : Type := (Int × Int)
abbrev sM : Sh := (.cons (.cons (.int .i64) (.cons (.int .i64) (.cons (.int .i64) (.int .i64)))) (.cons (.int .i64) (.int .i64)))
abbrev sA : Sh := (.cons (.int .i64) (.cons (.int .i64) (.cons (.int .i64) (.int .i64))))
abbrev sL : Sh := (.cons (.int .i64) (.cons (.int .i64) (.int .i64)))
abbrev sV : Sh := (.cons (.int .i64) (.int .i64))
abbrev sI : Sh := (.int .i64)
abbrev zM : tM := (((0 : Int), ((0 : Int), ((0 : Int), (0 : Int)))), ((0 : Int), (0 : Int)))
abbrev zA : tA := ((0 : Int), ((0 : Int), ((0 : Int), (0 : Int))))
noncomputable section
def tys : List (Nat × Ty) := [(2, .sc sI), (3, .sc sI), (4, .sc .bool), (5, .sc (.int .u8)), (9, .sc .str), (26, .st sL [(0, 1), (1, 1), (2, 1)]), (27, .sl 63 sM 48), (28, .sl 73 (.cons sV sI) 24), (30, .st (.cons sI (.cons sL (.cons sI (.cons (.list 63 sM) (.list 73 (.cons sV sI)))))) [(0, 1), (1, 3), (4, 1), (5, 1), (6, 1)]), (34, .sl 2 sI 8), (36, .st (.cons sI (.cons sL (.list 2 sI))) [(0, 1), (1, 3), (4, 1)]), (40, .st (.cons sI (.cons sI (.cons sL (.cons (.list 63 sM) (.list 73 (.cons sV sI)))))) [(0, 1), (1, 1), (2, 3), (5, 1), (6, 1)]), (41, .sl 9 .str 16), (59, .st sA [(0, 1), (1, 1), (2, 1), (3, 1)]), (61, .st sV [(0, 1), (1, 1)]), (63, .st sM [(0, 4), (4, 2)]), (73, .st (.cons sV sI) [(0, 2), (2, 1)]), (75, .sl 77 (.list 61 sV) 24), (77, .sl 61 sV 16), (137, .sl 5 (.int .u8) 1), (147, .sc (.int .u64)), (151, .sl 59 sA 32), (153, .sl 27 (.list 63 sM) 24)]
def eqs : List (Nat × List Sh) := [(26, [sI, sI, sI]), (59, [sI, sI, sI, sI]), (61, [sI, sI]), (63, [sI, sI, sI, sI, sI, sI])]
def mts : List (Nat × MTy) := [(131, ⟨63, 4, sM, .bool⟩)]
theorem tab_ok : tabB Tryz.prog tys eqs mts = true := by kernel_rfl
theorem mixed_ok : Tryz.prog.follows .mixedOrders = true := by kernel_rfl
def eE (K : Nat) (l : List (Nat × Mdl)) (k : List Nat) : Env := ⟨l, tys, eqs, mts, K, k, [], [], [], [], [], [], false⟩
abbrev rM (E : Env) (f : Func) (m : Mdl) (x : AT m.ps) := runF E f m.ps m.rs x
abbrev fM (E : Env) (f : Func) (m : Mdl) (x : AT m.ps) := finK E f m.ps m.rs x
theorem loop_o {X R : Type} {E : Env} {n0 : Nat} {S : Code} {fr0 : Fr} {k : Ex → Fr → Option R} (frame : X → Fr) {body : (X → Option R) → X → Option R} (h : ∀ (L : Fr → Option R) x, execG E n0 (realL E n0) S (frame x) (loopK n0 fr0 L k) = body (fun x => L (frame x)) x) (n : Nat) (x : X) : loopN (exec E n0 S) n0 fr0 n (frame x) k = iter body n x :=
  loopN_iter (fun L x => (exec_G E n0 S _ _).trans (h L x)) n x
def jI (n : Int) : Lf := .int .i64 n
def jV (v : Int × Int) : List Lf := [jI v.1, jI v.2]
def jL (l : Int × Int × Int) : List Lf := [jI l.1, jI l.2.1, jI l.2.2]
def jA (m : Int × Int × Int × Int) : List Lf := [jI m.1, jI m.2.1, jI m.2.2.1, jI m.2.2.2]
def jM (m : tA × Int × Int) : List Lf := [jI m.1.1, jI m.1.2.1, jI m.1.2.2.1, jI m.1.2.2.2, jI m.2.1, jI m.2.2]
def f8C : Code := codeOf Tryz.f8
def f8_fr2 (a0 : ByteArray) (a1 q3 q4 : Int) (q5 : List ByteArray) : Fr := ⟨36, [(0, .v false [.str a0]), (1, .v false [.int .u8 a1]), (4, .v false [.row 0]), (5, .v false [.row 1]), (6, .v false [jI q3]), (7, .v false [jI q4])], [], [some ⟨9, .str, [], .own⟩, some ⟨9, .str, q5, .own⟩]⟩
def f23C : Code := codeOf Tryz.f23
def f23_fr2 (a0 : ByteArray) (q3 q4 : Int) : Fr := ⟨43, [(0, .v false [.str a0]), (2, .v false [jI (0 : Int)]), (3, .v false [.bool false]), (4, .v false [jI q3]), (5, .v false [jI q4]), (13, .v false [.bool (bif (decide ((a0.size : Int) < (1 : Int))) then true else (decide ((a0.size : Int) > (10 : Int))))])], [], []⟩
def f46C : Code := codeOf Tryz.f46
def f46_fr3 (a0 : List ByteArray) (q4 : Int) (q5 : List Int) : Fr := ⟨30, [(0, .v false [.row 0]), (2, .v false [.row 1]), (3, .v false [.bool false]), (4, .v false [.row 2]), (5, .v false [jI q4])], [], [some ⟨9, .str, a0, .ro⟩, some ⟨2, sI, [], .own⟩, some ⟨2, sI, q5, .own⟩]⟩
def f132C : Code := codeOf Tryz.f132
def f132_fr6 (a0 : Int × Int × Int × Int) (q7 q8 q9 q10 q11 : Int) : Fr := ⟨20, [(0, .v true (jA a0)), (1, .v false [.box 0 0]), (2, .v false [jI (0 : Int)]), (3, .v false [.box 1 0]), (4, .v false [jI q7])], [some ⟨true, (jA a0)⟩, some ⟨true, [jI q8, jI q9, jI q10, jI q11]⟩], []⟩
def f95C : Code := codeOf Tryz.f95
def f95_fr15 (a0 : List tV) (q11 q12 q16 q17 q18 q19 : Int) : Fr := ⟨74, [(0, .v false [.row 0]), (2, .v false [.box 0 0]), (3, .v false [.box 1 0]), (4, .v false [jI q11]), (5, .v false [jI q12]), (6, .v false [.box 2 0]), (13, .v false [.bool (decide (q12 < (a0.length : Int)))])], [some ⟨true, [jI (0 : Int), jI (0 : Int), jI (0 : Int)]⟩, some ⟨true, [jI q16, jI q17]⟩, some ⟨true, [jI q18, jI q19]⟩], [some ⟨61, sV, a0, .ro⟩]⟩
def f95_fr10 (a0 : List tV) (q11 q12 q13 q14 : Int) : Fr := ⟨74, [(0, .v false [.row 0]), (2, .v false [.box 0 0]), (3, .v false [.box 1 0]), (4, .v false [jI q11]), (5, .v false [jI q12])], [some ⟨true, [jI (0 : Int), jI (0 : Int), jI (0 : Int)]⟩, some ⟨true, [jI q13, jI q14]⟩], [some ⟨61, sV, a0, .ro⟩]⟩
def f175C : Code := codeOf Tryz.f175
def f175_fr2 (a0 a1 : List Int) (q3 : Int) : Fr := ⟨41, [(0, .v false [.row 0]), (1, .v false [.row 1]), (4, .v false [.bool false]), (5, .v false [jI q3])], [], [some ⟨2, sI, a0, .ro⟩, some ⟨2, sI, a1, .ro⟩]⟩
def f62C : Code := codeOf Tryz.f62
def f62_fr6 (a0 : List tM) (a1 : tA × Int × Int) (q7 q8 : Int) : Fr := ⟨27, [(0, .v false [.row 0]), (1, .v true (jM a1)), (3, .v false [.box 0 0]), (4, .v false [jI (0 : Int)]), (5, .v false [jI q7]), (6, .v false [jI q8])], [some ⟨true, (jM a1)⟩], [some ⟨63, sM, a0, .ro⟩]⟩
def f12C : Code := codeOf Tryz.f12
def f12_fr21 (a0 : Int × Int × Int) (a1 : List tM) (q18 : Int) (q20 : List tM) (q22 : Int) (q23 q24 : List tM) : Fr := ⟨49, [(0, .v true (jL a0)), (1, .v false [.row 0]), (2, .v false [.box 0 0]), (4, .v false [.row 1]), (5, .v false [.row 2]), (6, .v false [.row 3]), (7, .v false [jI q18]), (8, .v false [jI q22]), (17, .v false [.bool (decide (q18 < (q20.length : Int)))])], [some ⟨true, (jL a0)⟩], [some ⟨63, sM, a1, .ro⟩, some ⟨63, sM, [], .own⟩, some ⟨63, sM, q23, .own⟩, some ⟨63, sM, q24, .own⟩]⟩
def f12_fr17 (a0 : Int × Int × Int) (a1 : List tM) (q18 : Int) (q19 q20 : List tM) : Fr := ⟨49, [(0, .v true (jL a0)), (1, .v false [.row 0]), (2, .v false [.box 0 0]), (4, .v false [.row 1]), (5, .v false [.row 2]), (6, .v false [.row 3]), (7, .v false [jI q18])], [some ⟨true, (jL a0)⟩], [some ⟨63, sM, a1, .ro⟩, some ⟨63, sM, [], .own⟩, some ⟨63, sM, q19, .own⟩, some ⟨63, sM, q20, .own⟩]⟩
def f56C : Code := codeOf Tryz.f56
def f56_fr9 (a0 : Int × Int × Int) (q7 q10 : Int) (q11 : List tV) : Fr := ⟨26, [(0, .v true (jL a0)), (1, .v false [.box 0 0]), (2, .v false [.row 0]), (3, .v false [.row 1]), (4, .v false [jI q7]), (5, .v false [jI q10]), (10, .v false [.bool (decide (q7 < a0.1))])], [some ⟨true, (jL a0)⟩], [some ⟨61, sV, [], .own⟩, some ⟨61, sV, q11, .own⟩]⟩
def f56_fr6 (a0 : Int × Int × Int) (q7 : Int) (q8 : List tV) : Fr := ⟨26, [(0, .v true (jL a0)), (1, .v false [.box 0 0]), (2, .v false [.row 0]), (3, .v false [.row 1]), (4, .v false [jI q7])], [some ⟨true, (jL a0)⟩], [some ⟨61, sV, [], .own⟩, some ⟨61, sV, q8, .own⟩]⟩
def f97C : Code := codeOf Tryz.f97
def f97_fr3 (a0 : List tV) (a1 : Int × Int) (q4 : Int) : Fr := ⟨45, [(0, .v false [.row 0]), (1, .v true (jV a1)), (3, .v false [.box 0 0]), (4, .v false [.row 1]), (5, .v false [jI q4])], [some ⟨true, (jV a1)⟩], [some ⟨61, sV, a0, .own⟩, some ⟨61, sV, [], .own⟩]⟩
def f57C : Code := codeOf Tryz.f57
def f57_fr4 (a0 : Int × Int × Int) (a1 : List tM) (a2 : Int × Int) (q5 : Int) (q6 : List tV) : Fr := ⟨26, [(0, .v true (jL a0)), (1, .v false [.row 0]), (2, .v true (jV a2)), (3, .v false [.box 0 0]), (5, .v false [.box 1 0]), (6, .v false [.row 1]), (7, .v false [.row 2]), (8, .v false [jI q5])], [some ⟨true, (jL a0)⟩, some ⟨true, (jV a2)⟩], [some ⟨63, sM, a1, .ro⟩, some ⟨61, sV, [], .own⟩, some ⟨61, sV, q6, .own⟩]⟩
def f25C : Code := codeOf Tryz.f25
def f25_fr4 (a0 : Int × Int × Int) (a1 : List tM) (y1 : List tV) (q5 : Int) (q6 : List (List tV)) : Fr := ⟨38, [(0, .v true (jL a0)), (1, .v false [.row 0]), (2, .v false [.box 0 0]), (4, .v false [.row 1]), (5, .v false [.row 2]), (6, .v false [.row 3]), (7, .v false [jI q5])], [some ⟨true, (jL a0)⟩], [some ⟨63, sM, a1, .ro⟩, some ⟨77, (.list 61 sV), [], .own⟩, some ⟨61, sV, y1, .own⟩, some ⟨77, (.list 61 sV), q6, .own⟩]⟩
def f11C : Code := codeOf Tryz.f11
def f11_fr12 (a0 : Int × Int × Int) (a1 : List tM) (q10 : Int) (y1 : List (List tV)) (q13 : Int) (q14 : List Int) : Fr := ⟨46, [(0, .v true (jL a0)), (1, .v false [.row 0]), (2, .v false [.box 0 0]), (4, .v false [.row 1]), (5, .v false [.row 2]), (6, .v false [.row 3]), (7, .v false [jI q10]), (8, .v false [jI q13]), (21, .v false [.bool (decide (q10 < (y1.length : Int)))])], [some ⟨true, (jL a0)⟩], [some ⟨63, sM, a1, .ro⟩, some ⟨2, sI, [], .own⟩, some ⟨2, sI, q14, .own⟩, some ⟨77, (.list 61 sV), y1, .own⟩]⟩
def f11_fr9 (a0 : Int × Int × Int) (a1 : List tM) (y1 : List (List tV)) (q10 : Int) (q11 : List Int) : Fr := ⟨46, [(0, .v true (jL a0)), (1, .v false [.row 0]), (2, .v false [.box 0 0]), (4, .v false [.row 1]), (5, .v false [.row 2]), (6, .v false [.row 3]), (7, .v false [jI q10])], [some ⟨true, (jL a0)⟩], [some ⟨63, sM, a1, .ro⟩, some ⟨2, sI, [], .own⟩, some ⟨2, sI, q11, .own⟩, some ⟨77, (.list 61 sV), y1, .own⟩]⟩
def f10C : Code := codeOf Tryz.f10
def f10_fr11 (a0 : Int × Int × Int) (a1 : List Int) (a2 : List (tV × Int)) (q10 q12 : Int) : Fr := ⟨62, [(0, .v true (jL a0)), (1, .v false [.row 0]), (2, .v false [.row 1]), (3, .v false [.box 0 0]), (6, .v false [jI (0 : Int)]), (7, .v false [jI (0 : Int)]), (8, .v false [.bool false]), (9, .v false [jI q10]), (10, .v false [jI q12]), (16, .v false [.bool (decide (q10 < (a2.length : Int)))])], [some ⟨true, (jL a0)⟩], [some ⟨2, sI, a1, .ro⟩, some ⟨73, (.cons sV sI), a2, .ro⟩]⟩
def f10_fr9 (a0 : Int × Int × Int) (a1 : List Int) (a2 : List (tV × Int)) (q10 : Int) : Fr := ⟨62, [(0, .v true (jL a0)), (1, .v false [.row 0]), (2, .v false [.row 1]), (3, .v false [.box 0 0]), (6, .v false [jI (0 : Int)]), (7, .v false [jI (0 : Int)]), (8, .v false [.bool false]), (9, .v false [jI q10])], [some ⟨true, (jL a0)⟩], [some ⟨2, sI, a1, .ro⟩, some ⟨73, (.cons sV sI), a2, .ro⟩]⟩
def f6C : Code := codeOf Tryz.f6
def f6_fr4 (a0 : ByteArray) (y1 : List ByteArray) (q5 q6 q7 q8 q9 q10 : Int) (q11 : List tM) (q12 : List (tV × Int)) : Fr := ⟨75, [(0, .v false [.str a0]), (2, .v false [.box 0 0]), (3, .v false [jI (0 : Int)]), (4, .v false [jI (0 : Int)]), (5, .v false [.box 1 0]), (6, .v false [.row 0]), (7, .v false [jI q5]), (16, .v false [.bool (decide ((a0.size : Int) > (3000 : Int)))]), (26, .v false [.bool ((y1.getD ((0 : Int) + (w ((y1.length : Int) - (1 : Int)))).toNat ByteArray.empty) != ByteArray.empty)])], [some ⟨true, [jI (0 : Int), jI (0 : Int), jI (0 : Int), jI (0 : Int), jI (0 : Int), .row 1, .row 2]⟩, some ⟨true, [jI q6, jI q7, jI q8, jI q9, jI q10, .row 3, .row 4]⟩], [some ⟨9, .str, y1, .own⟩, some ⟨63, sM, [], .own⟩, some ⟨73, (.cons sV sI), [], .own⟩, some ⟨63, sM, q11, .own⟩, some ⟨73, (.cons sV sI), q12, .own⟩]⟩
def f68C : Code := codeOf Tryz.f68
def f68_fr4 (a0 a1 : ByteArray) (a2 : Int) (y1 : List ByteArray) (q5 : Int) (q6 : List Int) : Fr := ⟨41, [(0, .v false [.str a0]), (1, .v false [.str a1]), (2, .v false [jI a2]), (6, .v false [.row 0]), (7, .v false [.bool false]), (8, .v false [.row 1]), (9, .v false [.row 2]), (20, .v false [.bool ((y1.length : Int) != a2)]), (22, .v false [.row 1]), (23, .v false [jI (y1.length : Int)]), (24, .v false [jI q5])], [], [some ⟨2, sI, [], .own⟩, some ⟨9, .str, y1, .own⟩, some ⟨2, sI, q6, .own⟩]⟩
def f104C : Code := codeOf Tryz.f104
def f104_fr2 (a0 : ByteArray) (q3 : Int) (q4 : List Int) : Fr := ⟨32, [(0, .v false [.str a0]), (2, .v false [.row 0]), (3, .v false [.bool false]), (4, .v false [.row 1]), (8, .v false [jI (a0.size : Int)]), (9, .v false [jI q3])], [], [some ⟨2, sI, [], .own⟩, some ⟨2, sI, q4, .own⟩]⟩
def f151C : Code := codeOf Tryz.f151
def f151_fr8 (a0 q9 : Int) (q10 : List tA) : Fr := ⟨61, [(0, .v false [jI a0]), (2, .v false [.row 0]), (3, .v false [.row 1]), (10, .v false [jI q9])], [], [some ⟨59, sA, [], .own⟩, some ⟨59, sA, q10, .own⟩]⟩
def f184C : Code := codeOf Tryz.f184
def f184_fr3 (a0 : List tA) (a1 : (tA → Option Bool)) (q4 : Int) : Fr := ⟨19, [(0, .v false [.row 0]), (1, .v false [.fv1 sA .bool a1]), (4, .v false [jI (0 : Int)]), (7, .v false [jI (a0.length : Int)]), (8, .v false [jI q4])], [], [some ⟨59, sA, a0, .ro⟩]⟩
def f150C : Code := codeOf Tryz.f150
def f150_fr4 (a1 : (tA → Option Bool)) (y1 q5 q6 : Int) (q7 : List tA) : Fr := ⟨42, [(0, .v false [.row 0]), (1, .v false [.fv1 sA .bool a1]), (4, .v false [.row 1]), (5, .v false [jI q5]), (6, .v false [jI q6]), (12, .v false [.bool (y1 == (-1 : Int))])], [], [some ⟨59, sA, q7, .own⟩, some ⟨59, sA, [], .own⟩]⟩
def f148C : Code := codeOf Tryz.f148
def f148_fr2 (a0 : List tA) (a1 : Int × Int × Int × Int) (q3 : Int) : Fr := ⟨19, [(0, .v false [.row 0]), (1, .v true (jA a1)), (3, .v false [.box 0 0]), (4, .v false [jI (0 : Int)]), (7, .v false [jI (a0.length : Int)]), (8, .v false [jI q3])], [some ⟨true, (jA a1)⟩], [some ⟨59, sA, a0, .ro⟩]⟩
def f124C : Code := codeOf Tryz.f124
def f124_fr2 (a0 a1 : List Int) (q3 : Int) : Fr := ⟨30, [(0, .v false [.row 0]), (1, .v false [.row 1]), (4, .v false [jI (0 : Int)]), (7, .v false [jI (a0.length : Int)]), (8, .v false [jI q3])], [], [some ⟨2, sI, a0, .ro⟩, some ⟨2, sI, a1, .ro⟩]⟩
def f45C : Code := codeOf Tryz.f45
def f45_fr16 (a0 : Int × Int × Int) (a1 : List tM) (q13 : Int) (q15 : List tM) (q17 : Int) (q18 : List (tM × Bool)) (q19 : List tM) : Fr := ⟨53, [(0, .v true (jL a0)), (1, .v false [.row 0]), (2, .v false [.box 0 0]), (4, .v false [.row 1]), (5, .v false [.row 2]), (6, .v false [.mp 1]), (7, .v false [jI q13]), (22, .v false [.bool (decide (q13 < (q15.length : Int)))]), (25, .v false [.row 0]), (26, .v false [jI (a1.length : Int)]), (27, .v false [jI q17])], [some ⟨true, (jL a0)⟩, some ⟨true, [.mc sM .bool q18]⟩], [some ⟨63, sM, a1, .ro⟩, some ⟨63, sM, [], .own⟩, some ⟨63, sM, q19, .own⟩]⟩
def f45_fr12 (a0 : Int × Int × Int) (a1 : List tM) (q13 : Int) (q14 : List (tM × Bool)) (q15 : List tM) : Fr := ⟨53, [(0, .v true (jL a0)), (1, .v false [.row 0]), (2, .v false [.box 0 0]), (4, .v false [.row 1]), (5, .v false [.row 2]), (6, .v false [.mp 1]), (7, .v false [jI q13])], [some ⟨true, (jL a0)⟩, some ⟨true, [.mc sM .bool q14]⟩], [some ⟨63, sM, a1, .ro⟩, some ⟨63, sM, [], .own⟩, some ⟨63, sM, q15, .own⟩]⟩
def f117C : Code := codeOf Tryz.f117
def f117_fr23 (a0 : Int) (a1 : Int × Int × Int) (a2 : List tM) (q7 : Int) (q8 : List (tM × Bool)) (q22 : Int) (y1 : List tA) (y12 : Int × Int × Int × Int) (q24 : Int) : Fr := ⟨84, [(0, .v false [jI a0]), (1, .v true (jL a1)), (2, .v false [.row 0]), (4, .v false [.box 0 0]), (6, .v false [.bool false]), (7, .v false [.row 1]), (8, .v false [.mp 1]), (12, .v false [.box 2 0]), (19, .v false [.row 0]), (20, .v false [jI (a2.length : Int)]), (21, .v false [jI q7]), (22, .v false [.bool (decide (q7 < (a2.length : Int)))]), (61, .v false [.bool (!((mfind (eqSh sM) q8 (y12, (0 : Int), (0 : Int))).getD false))]), (62, .v false [.row 0]), (63, .v false [jI (a2.length : Int)]), (64, .v false [jI q22]), (65, .v false [.bool (decide (q22 < (a2.length : Int)))]), (68, .v false [.row 0]), (69, .v false [jI (a2.length : Int)]), (70, .v false [jI q24])], [some ⟨true, (jL a1)⟩, some ⟨true, [.mc sM .bool q8]⟩, some ⟨true, [jI (((a2.getD ((0 : Int) + q22).toNat zM).1).1), jI ((((a2.getD ((0 : Int) + q22).toNat zM).1).2).1), jI (((((a2.getD ((0 : Int) + q22).toNat zM).1).2).2).1), jI (((((a2.getD ((0 : Int) + q22).toNat zM).1).2).2).2), jI (((a2.getD ((0 : Int) + q22).toNat zM).2).1), jI (((a2.getD ((0 : Int) + q22).toNat zM).2).2)]⟩], [some ⟨63, sM, a2, .ro⟩, some ⟨59, sA, y1, .own⟩]⟩
def f117_fr21 (a0 : Int) (a1 : Int × Int × Int) (a2 : List tM) (q7 : Int) (q8 : List (tM × Bool)) (y1 : List tA) (y12 : Int × Int × Int × Int) (q22 : Int) : Fr := ⟨84, [(0, .v false [jI a0]), (1, .v true (jL a1)), (2, .v false [.row 0]), (4, .v false [.box 0 0]), (6, .v false [.bool false]), (7, .v false [.row 1]), (8, .v false [.mp 1]), (19, .v false [.row 0]), (20, .v false [jI (a2.length : Int)]), (21, .v false [jI q7]), (22, .v false [.bool (decide (q7 < (a2.length : Int)))]), (61, .v false [.bool (!((mfind (eqSh sM) q8 (y12, (0 : Int), (0 : Int))).getD false))]), (62, .v false [.row 0]), (63, .v false [jI (a2.length : Int)]), (64, .v false [jI q22])], [some ⟨true, (jL a1)⟩, some ⟨true, [.mc sM .bool q8]⟩], [some ⟨63, sM, a2, .ro⟩, some ⟨59, sA, y1, .own⟩]⟩
def f117_fr6 (a0 : Int) (a1 : Int × Int × Int) (a2 : List tM) (y1 : List tA) (q7 : Int) (q8 : List (tM × Bool)) : Fr := ⟨84, [(0, .v false [jI a0]), (1, .v true (jL a1)), (2, .v false [.row 0]), (4, .v false [.box 0 0]), (6, .v false [.bool false]), (7, .v false [.row 1]), (8, .v false [.mp 1]), (19, .v false [.row 0]), (20, .v false [jI (a2.length : Int)]), (21, .v false [jI q7])], [some ⟨true, (jL a1)⟩, some ⟨true, [.mc sM .bool q8]⟩], [some ⟨63, sM, a2, .ro⟩, some ⟨59, sA, y1, .own⟩]⟩
def f73C : Code := codeOf Tryz.f73
def f73_fr4 (a0 : Int) (a1 : Int × Int × Int) (a2 : List (List tM)) (y1 q5 : Int) : Fr := ⟨28, [(0, .v false [jI a0]), (1, .v true (jL a1)), (2, .v false [.row 0]), (4, .v false [.box 0 0]), (6, .v false [jI (0 : Int)]), (7, .v false [jI y1]), (14, .v false [.bool (y1 != (0 : Int))]), (16, .v false [.row 0]), (17, .v false [jI (a2.length : Int)]), (18, .v false [jI q5])], [some ⟨true, (jL a1)⟩], [some ⟨27, (.list 63 sM), a2, .ro⟩]⟩
def f155C : Code := codeOf Tryz.f155
def f155_fr3 (a0 : List (tV × Int)) (a1 : ((tV × Int) → Option Bool)) (q4 : Int) : Fr := ⟨19, [(0, .v false [.row 0]), (1, .v false [.fv1 (.cons sV sI) .bool a1]), (4, .v false [jI (0 : Int)]), (7, .v false [jI (a0.length : Int)]), (8, .v false [jI q4])], [], [some ⟨73, (.cons sV sI), a0, .ro⟩]⟩
def f120C : Code := codeOf Tryz.f120
def f120_fr3 (a0 : List Int) (a1 : Int) (y1 : Int × Int) (q4 : Int) (q5 : List Int) : Fr := ⟨48, [(0, .v false [.row 0]), (1, .v false [jI a1]), (4, .v false [.row 1]), (5, .v false [.int .u64 y1.1]), (6, .v false [.int .u64 y1.2]), (7, .v false [.row 2]), (8, .v false [jI q4]), (10, .v false [.bool (decide (a1 < (0 : Int)))]), (26, .v false [.bool (bif (decide (y1.1 > (0 : Int))) then true else (decide (y1.2 > (9223372036854775807 : Int))))])], [], [some ⟨2, sI, a0, .ro⟩, some ⟨2, sI, [], .own⟩, some ⟨2, sI, q5, .own⟩]⟩
def f41C : Code := codeOf Tryz.f41
def f41_fr9 (a0 : Int × Int × Int) (q7 q10 : Int) (q11 : List tV) : Fr := ⟨26, [(0, .v true (jL a0)), (1, .v false [.box 0 0]), (2, .v false [.row 0]), (3, .v false [.row 1]), (4, .v false [jI q7]), (8, .v false [jI a0.1]), (9, .v false [jI q7]), (10, .v false [.bool (decide (q7 < a0.1))]), (13, .v false [jI a0.2.2]), (14, .v false [jI q10])], [some ⟨true, (jL a0)⟩], [some ⟨61, sV, [], .own⟩, some ⟨61, sV, q11, .own⟩]⟩
def f41_fr6 (a0 : Int × Int × Int) (q7 : Int) (q8 : List tV) : Fr := ⟨26, [(0, .v true (jL a0)), (1, .v false [.box 0 0]), (2, .v false [.row 0]), (3, .v false [.row 1]), (8, .v false [jI a0.1]), (9, .v false [jI q7])], [some ⟨true, (jL a0)⟩], [some ⟨61, sV, [], .own⟩, some ⟨61, sV, q8, .own⟩]⟩
def f82C : Code := codeOf Tryz.f82
def f82_fr9 (a0 : List tV) (q8 q10 q11 : Int) (q12 : List tV) : Fr := ⟨61, [(0, .v false [.row 0]), (2, .v false [.row 1]), (3, .v false [jI q10]), (4, .v false [.view 0 ((0 : Int) + q8) ((0 : Int) + (a0.length : Int))]), (5, .v false [jI q11]), (8, .v false [.bool (decide ((a0.length : Int) < (2 : Int)))]), (13, .v false [.bool (decide (q8 < (a0.length : Int)))]), (25, .v false [.bool (((a0.getD ((0 : Int) + q8).toNat ((0 : Int), (0 : Int))).1 == (a0.getD ((0 : Int) + (w (q8 - (1 : Int)))).toNat ((0 : Int), (0 : Int))).1) && ((a0.getD ((0 : Int) + q8).toNat ((0 : Int), (0 : Int))).2 == (a0.getD ((0 : Int) + (w (q8 - (1 : Int)))).toNat ((0 : Int), (0 : Int))).2))])], [], [some ⟨61, sV, q12, .own⟩, some ⟨61, sV, [], .own⟩]⟩
def f82_fr7 (a0 : List tV) (q8 : Int) : Fr := ⟨61, [(0, .v false [.row 0]), (2, .v false [.row 1]), (3, .v false [jI q8]), (8, .v false [.bool (decide ((a0.length : Int) < (2 : Int)))])], [], [some ⟨61, sV, a0, .own⟩, some ⟨61, sV, [], .own⟩]⟩
def f42C : Code := codeOf Tryz.f42
def f42_fr3 (a0 : Int × Int × Int) (a1 : List tM) (a2 : Int × Int) (q4 : Int) (q5 : List tV) : Fr := ⟨29, [(0, .v true (jL a0)), (1, .v false [.row 0]), (2, .v true (jV a2)), (3, .v false [.box 0 0]), (5, .v false [.box 1 0]), (6, .v false [.row 1]), (7, .v false [.row 2]), (11, .v false [.row 0]), (12, .v false [jI (a1.length : Int)]), (13, .v false [jI q4])], [some ⟨true, (jL a0)⟩, some ⟨true, (jV a2)⟩], [some ⟨63, sM, a1, .ro⟩, some ⟨61, sV, [], .own⟩, some ⟨61, sV, q5, .own⟩]⟩
def f76C : Code := codeOf Tryz.f76
def f76_fr22 (a0 : Int × Int × Int) (a1 : List tM) (q17 : Int) (q18 : List (List tV)) (q19 : List Int) (y3 : List tV) (y20 : Int) (y21 : List tV) (q23 : Int) (q24 : List Int) : Fr := ⟨57, [(0, .v true (jL a0)), (1, .v false [.row 0]), (2, .v false [.box 0 0]), (4, .v false [.row 1]), (5, .v false [.row 2]), (6, .v false [.row 3]), (7, .v false [.row 4]), (9, .v false [.box 1 0]), (10, .v false [.row 5]), (19, .v false [.row 6]), (20, .v false [jI (y3.length : Int)]), (21, .v false [jI q17]), (22, .v false [.bool (decide (q17 < (y3.length : Int)))]), (31, .v false [.bool (decide ((q19.getD ((0 : Int) + y20).toNat (0 : Int)) ≥ (0 : Int)))]), (36, .v false [.row 5]), (37, .v false [jI (y21.length : Int)]), (38, .v false [jI q23])], [some ⟨true, (jL a0)⟩, some ⟨true, [jI ((y3.getD ((0 : Int) + q17).toNat ((0 : Int), (0 : Int))).1), jI ((y3.getD ((0 : Int) + q17).toNat ((0 : Int), (0 : Int))).2)]⟩], [some ⟨63, sM, a1, .ro⟩, some ⟨77, (.list 61 sV), [], .own⟩, some ⟨2, sI, [], .own⟩, some ⟨77, (.list 61 sV), q18, .own⟩, some ⟨2, sI, q24, .own⟩, some ⟨61, sV, y21, .own⟩, some ⟨61, sV, y3, .own⟩]⟩
def f76_fr16 (a0 : Int × Int × Int) (a1 : List tM) (y3 : List tV) (q17 : Int) (q18 : List (List tV)) (q19 : List Int) : Fr := ⟨57, [(0, .v true (jL a0)), (1, .v false [.row 0]), (2, .v false [.box 0 0]), (4, .v false [.row 1]), (5, .v false [.row 2]), (6, .v false [.row 3]), (7, .v false [.row 4]), (19, .v false [.row 5]), (20, .v false [jI (y3.length : Int)]), (21, .v false [jI q17])], [some ⟨true, (jL a0)⟩], [some ⟨63, sM, a1, .ro⟩, some ⟨77, (.list 61 sV), [], .own⟩, some ⟨2, sI, [], .own⟩, some ⟨77, (.list 61 sV), q18, .own⟩, some ⟨2, sI, q19, .own⟩, some ⟨61, sV, y3, .own⟩]⟩
def f39C : Code := codeOf Tryz.f39
def f39_fr12 (a0 : Int × Int × Int) (a1 : List tM) (a2 : List (tV × Int)) (q11 : Int) (y1 : (List (List tV)) × List Int) (q13 : Int) : Fr := ⟨57, [(0, .v true (jL a0)), (1, .v false [.row 0]), (2, .v false [.row 1]), (3, .v false [.box 0 0]), (6, .v false [jI (0 : Int)]), (7, .v false [jI (0 : Int)]), (8, .v false [.bool false]), (10, .v false [.box 1 0]), (11, .v false [.fn 77 [1, 0]]), (12, .v false [jI q11]), (13, .v false [.box 2 0]), (23, .v false [.row 1]), (24, .v false [jI (a2.length : Int)]), (25, .v false [jI q11]), (26, .v false [.bool (decide (q11 < (a2.length : Int)))]), (32, .v false [.view 1 (0 : Int) ((0 : Int) + q11)]), (33, .v false [jI (((0 : Int) + q11) - (0 : Int))]), (34, .v false [jI q13])], [some ⟨true, (jL a0)⟩, some ⟨true, [.row 2]⟩, some ⟨true, [jI (((a2.getD ((0 : Int) + q11).toNat (((0 : Int), (0 : Int)), (0 : Int))).1).1), jI (((a2.getD ((0 : Int) + q11).toNat (((0 : Int), (0 : Int)), (0 : Int))).1).2), jI ((a2.getD ((0 : Int) + q11).toNat (((0 : Int), (0 : Int)), (0 : Int))).2)]⟩], [some ⟨63, sM, a1, .ro⟩, some ⟨73, (.cons sV sI), a2, .ro⟩, some ⟨2, sI, y1.2, .own⟩]⟩
def f39_fr10 (a0 : Int × Int × Int) (a1 : List tM) (a2 : List (tV × Int)) (y1 : (List (List tV)) × List Int) (q11 : Int) : Fr := ⟨57, [(0, .v true (jL a0)), (1, .v false [.row 0]), (2, .v false [.row 1]), (3, .v false [.box 0 0]), (6, .v false [jI (0 : Int)]), (7, .v false [jI (0 : Int)]), (8, .v false [.bool false]), (10, .v false [.box 1 0]), (11, .v false [.fn 77 [1, 0]]), (23, .v false [.row 1]), (24, .v false [jI (a2.length : Int)]), (25, .v false [jI q11])], [some ⟨true, (jL a0)⟩, some ⟨true, [.row 2]⟩], [some ⟨63, sM, a1, .ro⟩, some ⟨73, (.cons sV sI), a2, .ro⟩, some ⟨2, sI, y1.2, .own⟩]⟩
def f40C : Code := codeOf Tryz.f40
def f40_fr4 (a0 : Int) (a1 : Int × Int × Int) (a2 : List tV) (a3 q5 : Int) (q6 : List Int) : Fr := ⟨33, [(0, .v false [jI a0]), (1, .v true (jL a1)), (2, .v false [.row 0]), (3, .v false [jI a3]), (5, .v false [.box 0 0]), (8, .v false [.box 1 0]), (9, .v false [.box 2 0]), (18, .v false [.row 0]), (19, .v false [jI (a2.length : Int)]), (20, .v false [jI q5])], [some ⟨true, (jL a1)⟩, some ⟨true, [jI (0 : Int), jI (0 : Int), jI (0 : Int), jI (0 : Int), .row 1]⟩, some ⟨true, [jI a0, jI a1.1, jI a1.2.1, jI a1.2.2, .row 2]⟩], [some ⟨61, sV, a2, .ro⟩, some ⟨2, sI, [], .own⟩, some ⟨2, sI, q6, .own⟩]⟩
def f16C : Code := codeOf Tryz.f16
def f16_fr20 (a0 : Int) (a1 : Int × Int × Int) (a2 : List tM) (a3 : List (tV × Int)) (a4 q16 y1 : Int) (y2 : Bool) (y3 : Int × Int × Bool) (y5 : Int × tL × List Int) (y19 : List tV) (q21 : Int) (q22 : List Int) : Fr := ⟨79, [(0, .v false [jI a0]), (1, .v true (jL a1)), (2, .v false [.row 0]), (3, .v false [.row 1]), (4, .v false [jI a4]), (6, .v false [.box 0 0]), (10, .v false [.box 1 0]), (11, .v false [jI (0 : Int)]), (12, .v false [jI y1]), (15, .v false [.bool y3.2.2]), (16, .v false [.box 2 0]), (18, .v false [.box 3 0]), (27, .v false [.bool (y1 != (0 : Int))]), (32, .v false [.bool (!y2)]), (42, .v false [.bool y3.2.2]), (50, .v false [.row 1]), (51, .v false [jI (a3.length : Int)]), (52, .v false [jI q16]), (53, .v false [.bool (decide (q16 < (a3.length : Int)))]), (62, .v false [.row 2]), (63, .v false [jI (y19.length : Int)]), (64, .v false [jI q21])], [some ⟨true, (jL a1)⟩, some ⟨true, [jI (0 : Int), jI (0 : Int), jI (0 : Int), jI (0 : Int), .row 3]⟩, some ⟨true, [jI y5.1, jI y5.2.1.1, jI y5.2.1.2.1, jI y5.2.1.2.2, .row 4]⟩, some ⟨true, [jI (((a3.getD ((0 : Int) + q16).toNat (((0 : Int), (0 : Int)), (0 : Int))).1).1), jI (((a3.getD ((0 : Int) + q16).toNat (((0 : Int), (0 : Int)), (0 : Int))).1).2), jI ((a3.getD ((0 : Int) + q16).toNat (((0 : Int), (0 : Int)), (0 : Int))).2)]⟩], [some ⟨63, sM, a2, .ro⟩, some ⟨73, (.cons sV sI), a3, .ro⟩, some ⟨61, sV, y19, .own⟩, some ⟨2, sI, [], .own⟩, some ⟨2, sI, q22, .own⟩]⟩
def f16_fr15 (a0 : Int) (a1 : Int × Int × Int) (a2 : List tM) (a3 : List (tV × Int)) (a4 y1 : Int) (y2 : Bool) (y3 : Int × Int × Bool) (y5 : Int × tL × List Int) (q16 : Int) (q17 : List Int) : Fr := ⟨79, [(0, .v false [jI a0]), (1, .v true (jL a1)), (2, .v false [.row 0]), (3, .v false [.row 1]), (4, .v false [jI a4]), (6, .v false [.box 0 0]), (10, .v false [.box 1 0]), (11, .v false [jI (0 : Int)]), (12, .v false [jI y1]), (15, .v false [.bool y3.2.2]), (16, .v false [.box 2 0]), (27, .v false [.bool (y1 != (0 : Int))]), (32, .v false [.bool (!y2)]), (42, .v false [.bool y3.2.2]), (50, .v false [.row 1]), (51, .v false [jI (a3.length : Int)]), (52, .v false [jI q16])], [some ⟨true, (jL a1)⟩, some ⟨true, [jI (0 : Int), jI (0 : Int), jI (0 : Int), jI (0 : Int), .row 2]⟩, some ⟨true, [jI y5.1, jI y5.2.1.1, jI y5.2.1.2.1, jI y5.2.1.2.2, .row 3]⟩], [some ⟨63, sM, a2, .ro⟩, some ⟨73, (.cons sV sI), a3, .ro⟩, some ⟨2, sI, [], .own⟩, some ⟨2, sI, q17, .own⟩]⟩
def f7C : Code := codeOf Tryz.f7
def f7_fr5 (a0 : ByteArray) (y1 : ByteArray × Bool) (y2 : List ByteArray) (q6 q7 q8 q9 q10 q11 : Int) (q12 : List tM) (q13 : List (tV × Int)) : Fr := ⟨82, [(0, .v false [.str a0]), (2, .v false [.und]), (3, .v false [.box 0 0]), (4, .v false [jI (0 : Int)]), (5, .v false [jI (0 : Int)]), (6, .v false [.str y1.1]), (7, .v false [.bool y1.2]), (8, .v false [.box 1 0]), (16, .v false [.bool (decide ((a0.size : Int) > (3000 : Int)))]), (28, .v false [.bool (bif (a0 != ByteArray.empty) then (!y1.2) else false)]), (33, .v false [.bool (a0 != ByteArray.empty)]), (35, .v false [.row 0]), (36, .v false [jI (y2.length : Int)]), (37, .v false [jI q6])], [some ⟨true, [jI (0 : Int), jI (0 : Int), jI (0 : Int), jI (0 : Int), .row 1]⟩, some ⟨true, [jI q7, jI q8, jI q9, jI q10, jI q11, .row 2, .row 3]⟩], [some ⟨9, .str, y2, .own⟩, some ⟨2, sI, [], .own⟩, some ⟨63, sM, q12, .own⟩, some ⟨73, (.cons sV sI), q13, .own⟩]⟩
variable (K : Nat)
include K
def f8E : Env := eE K [] [0, 1, 4, 5, 6, 7, 12, 25]
def f8_b2 (K : Nat) (a0 : ByteArray) (a1 : Int) (L2 : Int → Int → (List ByteArray) → Option (List ByteArray)) (q3 q4 : Int) (q5 : List ByteArray) : Option (List ByteArray) :=
  (bif (decide (q4 ≤ (a0.size : Int))) then (bif ((decide (0 ≤ q4) && decide (q4 < (a0.size : Int))) || (!(!(q4 == (a0.size : Int))))) then (bif (bif (q4 == (a0.size : Int)) then true else (((a0.data.getD q4.toNat 0).toNat : Int) == a1)) then (bif (decide (0 ≤ q3) && decide (q3 ≤ q4) && decide (q4 ≤ (a0.size : Int))) then (bif (Nat.ble (q5.length + [(a0.extract q3.toNat q4.toNat)].length) (lim 16)) then L2 (w (q4 + (1 : Int))) (w (q4 + (1 : Int))) (q5 ++ [(a0.extract q3.toNat q4.toNat)]) else none) else none) else L2 q3 (w (q4 + (1 : Int))) q5) else none) else some q5)
def f8_l2 (a0 : ByteArray) (a1 : Int) (n : Nat) (q3 q4 : Int) (q5 : List ByteArray) : Option (List ByteArray) :=
  iter (X := Int × Int × List ByteArray) (fun L x => f8_b2 K a0 a1 (fun v0 v1 v2 => L (v0, v1, v2)) x.1 x.2.1 x.2.2) n (q3, q4, q5)
def f8_g (K : Nat) (a0 : ByteArray) (a1 : Int) (I2 : Int → Int → (List ByteArray) → Option (List ByteArray)) : Option (List ByteArray) :=
  I2 (0 : Int) (0 : Int) []
def f8G (a0 : ByteArray) (a1 : Int) : Option (List ByteArray) :=
  f8_g K a0 a1 (fun d0 d1 d2 => f8_l2 K a0 a1 K d0 d1 d2)
def f8M : Mdl := ⟨[(.ro, .str), (.ro, (.int .u8))], [(.list 9 .str)], fun x => f8G K x.1 x.2.1⟩
def f8_k2 (a0 : ByteArray) (a1 : Int) (lr : LR (List ByteArray)) : Ex → Fr → Option (List ByteArray) :=
  contC (f8E K) 0 lr f8C [1, 1, 1, 0, 1, 0] (fM (f8E K) Tryz.f8 (f8M K) (a0, a1, ()))
def f8_j2 (a0 : ByteArray) (a1 : Int) (lr : LR (List ByteArray)) (bq3 bq4 : Int) (bq5 : List ByteArray) : Option (List ByteArray) :=
  lr (selC f8C [1, 1, 1, 0, 1, 0, 0]) (f8_fr2 a0 a1 bq3 bq4 bq5) (f8_k2 K a0 a1 lr)
omit K
def f55E (K : Nat) (rec : Int → Option ByteArray) : Env := ⟨[(55, ⟨[(.ro, sI)], [.str], fun x => rec x.1⟩)], tys, eqs, mts, K, [0, 2, 4], [], [], [], [], [], [], false⟩
def f55_s (K : Nat) (rec : Int → Option ByteArray) (a0 : Int) : Option ByteArray :=
  (bif (decide (a0 < (10 : Int))) then some (strOfNums [(IntKind.u8.wrap (w ((48 : Int) + a0)))]) else (rec (w (a0.tdiv (10 : Int)))).bind fun y1 => (bif (Nat.ble (y1.size + (strOfNums [(IntKind.u8.wrap (w ((48 : Int) + (a0.tmod (10 : Int)))))]).size) 9223372036854775807) then some (y1 ++ (strOfNums [(IntKind.u8.wrap (w ((48 : Int) + (a0.tmod (10 : Int)))))])) else none))
def f55R (K : Nat) : Nat → Int → Option ByteArray
  | 0 => fun _ => none
  | n + 1 => fun a0 => f55_s K (f55R K n) a0
def f55G (K : Nat) (a0 : Int) : Option ByteArray := f55R K K a0
def f55M (K : Nat) : Mdl := ⟨[(.ro, sI)], [.str], fun x => f55G K x.1⟩
include K
def f23E : Env := eE K [(55, f55M K)] [0, 2, 3, 4, 5, 13, 17, 29]
def f23_b2 (a0 : ByteArray) (L2 : Int → Int → Option (Int × Bool)) (q3 q4 : Int) : Option (Int × Bool) :=
  (bif (decide (q4 < (a0.size : Int))) then (bif (decide (0 ≤ q4) && decide (q4 < (a0.size : Int))) then (bif ((decide (0 ≤ q4) && decide (q4 < (a0.size : Int))) || (!(!(decide (((a0.data.getD q4.toNat 0).toNat : Int) < (48 : Int)))))) then (bif (bif (decide (((a0.data.getD q4.toNat 0).toNat : Int) < (48 : Int))) then true else (decide (((a0.data.getD q4.toNat 0).toNat : Int) > (57 : Int)))) then some ((0 : Int), false) else (bif (decide (0 ≤ q4) && decide (q4 < (a0.size : Int))) then L2 (w ((w ((10 : Int) * q3)) + (w (IntKind.u8.wrap (((a0.data.getD q4.toNat 0).toNat : Int) - (48 : Int)))))) (w (q4 + (1 : Int))) else none)) else none) else none) else (f55G K q3).bind fun y5 => some (q3, (y5 == a0)))
def f23_l2 (a0 : ByteArray) (n : Nat) (q3 q4 : Int) : Option (Int × Bool) :=
  iter (X := Int × Int) (fun L x => f23_b2 K a0 (fun v0 v1 => L (v0, v1)) x.1 x.2) n (q3, q4)
def f23_g (K : Nat) (a0 : ByteArray) (I2 : Int → Int → Option (Int × Bool)) : Option (Int × Bool) :=
  (bif (bif (decide ((a0.size : Int) < (1 : Int))) then true else (decide ((a0.size : Int) > (10 : Int)))) then some ((0 : Int), false) else I2 (0 : Int) (0 : Int))
def f23G (a0 : ByteArray) : Option (Int × Bool) :=
  f23_g K a0 (fun d0 d1 => f23_l2 K a0 K d0 d1)
def f23M : Mdl := ⟨[(.ro, .str)], [sI, .bool], fun x => f23G K x.1⟩
def f23_k2 (a0 : ByteArray) (lr : LR (Int × Bool)) : Ex → Fr → Option (Int × Bool) :=
  contC (f23E K) 0 lr f23C [1, 1, 1, 0, 1, 0] (fM (f23E K) Tryz.f23 (f23M K) (a0, ()))
def f23_j2 (a0 : ByteArray) (lr : LR (Int × Bool)) (bq3 bq4 : Int) : Option (Int × Bool) :=
  lr (selC f23C [1, 1, 1, 0, 1, 0, 0]) (f23_fr2 a0 bq3 bq4) (f23_k2 K a0 lr)
def f88E : Env := eE K [(23, f23M K)] [0, 2, 3, 4, 5, 13]
def f88G (a0 : ByteArray) : Option (Int × Bool) :=
  (bif ((decide (0 ≤ (0 : Int)) && decide ((0 : Int) < (a0.size : Int))) || (!(decide ((a0.size : Int) > (0 : Int))))) then (bif (bif (decide ((a0.size : Int) > (0 : Int))) then (((a0.data.getD 0 0).toNat : Int) == (45 : Int)) else false) then (bif (decide (0 ≤ (1 : Int)) && decide ((1 : Int) ≤ (a0.size : Int)) && decide ((a0.size : Int) ≤ (a0.size : Int))) then (f23G K (a0.extract 1 (a0.size : Int).toNat)).bind fun y1 => some ((w (0 - y1.1)), (bif y1.2 then (decide (y1.1 > (0 : Int))) else false)) else none) else (f23G K a0).bind fun y2 => some y2) else none)
def f88M : Mdl := ⟨[(.ro, .str)], [sI, .bool], fun x => f88G K x.1⟩
def f46E : Env := eE K [(88, f88M K)] [0, 2, 3, 4, 5, 6, 7, 12, 24]
def f46_b3 (a0 : List ByteArray) (L3 : Int → (List Int) → Option ((List Int) × Bool)) (q4 : Int) (q5 : List Int) : Option ((List Int) × Bool) :=
  (bif (decide (q4 < (a0.length : Int))) then (bif (decide (0 ≤ q4) && decide (q4 < (a0.length : Int))) then (f88G K (a0.getD ((0 : Int) + q4).toNat ByteArray.empty)).bind fun y6 => (bif (!y6.2) then some ([], false) else (bif (Nat.ble (q5.length + [y6.1].length) (lim 8)) then L3 (w (q4 + (1 : Int))) (q5 ++ [y6.1]) else none)) else none) else some (q5, true))
def f46_l3 (a0 : List ByteArray) (n : Nat) (q4 : Int) (q5 : List Int) : Option ((List Int) × Bool) :=
  iter (X := Int × List Int) (fun L x => f46_b3 K a0 (fun v0 v1 => L (v0, v1)) x.1 x.2) n (q4, q5)
def f46_g (K : Nat) (a0 : List ByteArray) (I3 : Int → (List Int) → Option ((List Int) × Bool)) : Option ((List Int) × Bool) :=
  I3 (0 : Int) []
def f46G (a0 : List ByteArray) : Option ((List Int) × Bool) :=
  f46_g K a0 (fun d0 d1 => f46_l3 K a0 K d0 d1)
def f46M : Mdl := ⟨[(.ro, (.list 9 .str))], [(.list 2 sI), .bool], fun x => f46G K x.1⟩
def f46_k3 (a0 : List ByteArray) (lr : LR ((List Int) × Bool)) : Ex → Fr → Option ((List Int) × Bool) :=
  contC (f46E K) 1 lr f46C [1, 1, 0, 1, 0] (fM (f46E K) Tryz.f46 (f46M K) (a0, ()))
def f46_j3 (a0 : List ByteArray) (lr : LR ((List Int) × Bool)) (bq4 : Int) (bq5 : List Int) : Option ((List Int) × Bool) :=
  lr (selC f46C [1, 1, 0, 1, 0, 0]) (f46_fr3 a0 bq4 bq5) (f46_k3 K a0 lr)
def f89E : Env := eE K [] [0, 1, 2, 6]
def f89G (K : Nat) (a0 a1 a2 : Int) : Option Bool :=
  some (bif (decide (a0 ≥ a1)) then (decide (a0 ≤ a2)) else false)
def f89M : Mdl := ⟨[(.ro, sI), (.ro, sI), (.ro, sI)], [.bool], fun x => f89G K x.1 x.2.1 x.2.2.1⟩
def f47E : Env := eE K [(89, f89M K)] [0, 1, 2]
def f47G (a0 : Int × Int × Int) : Option Bool :=
  (f89G K a0.1 (1 : Int) (64 : Int)).bind fun y1 => ((bif y1 then f89G K a0.2.2 (1 : Int) (64 : Int) else some false)).bind fun y2 => ((bif (bif y1 then y2 else false) then f89G K a0.2.1 (0 : Int) (w (a0.1 - (1 : Int))) else some false)).bind fun y3 => some (bif (bif (bif y1 then y2 else false) then y3 else false) then (decide ((w (a0.1 * a0.2.2)) ≤ (64 : Int))) else false)
def f47M : Mdl := ⟨[(.ro, sL)], [.bool], fun x => f47G K x.1⟩
def f18E : Env := eE K [(8, f8M K), (46, f46M K), (47, f47M K)] [0, 2, 3, 4, 5, 32]
def f18G (a0 : ByteArray) : Option (tL × Bool) :=
  (f8G K a0 (44 : Int)).bind fun y1 => (f46G K y1).bind fun y2 => (bif ((decide (0 ≤ (0 : Int)) && decide ((0 : Int) < (y2.1.length : Int))) || (!(!(bif (!y2.2) then true else ((y2.1.length : Int) != (3 : Int)))))) then (bif ((decide (0 ≤ (1 : Int)) && decide ((1 : Int) < (y2.1.length : Int))) || (!(!(bif (!y2.2) then true else ((y2.1.length : Int) != (3 : Int)))))) then (bif ((decide (0 ≤ (2 : Int)) && decide ((2 : Int) < (y2.1.length : Int))) || (!(!(bif (!y2.2) then true else ((y2.1.length : Int) != (3 : Int)))))) then ((bif (!(bif (!y2.2) then true else ((y2.1.length : Int) != (3 : Int)))) then f47G K ((y2.1.getD ((0 : Int) + (0 : Int)).toNat (0 : Int)), (y2.1.getD ((0 : Int) + (1 : Int)).toNat (0 : Int)), (y2.1.getD ((0 : Int) + (2 : Int)).toNat (0 : Int))) else some false)).bind fun y3 => (bif (bif (bif (!y2.2) then true else ((y2.1.length : Int) != (3 : Int))) then true else (!y3)) then some (((0 : Int), (0 : Int), (0 : Int)), false) else (bif (decide (0 ≤ (0 : Int)) && decide ((0 : Int) < (y2.1.length : Int))) then (bif (decide (0 ≤ (1 : Int)) && decide ((1 : Int) < (y2.1.length : Int))) then (bif (decide (0 ≤ (2 : Int)) && decide ((2 : Int) < (y2.1.length : Int))) then some (((y2.1.getD ((0 : Int) + (0 : Int)).toNat (0 : Int)), (y2.1.getD ((0 : Int) + (1 : Int)).toNat (0 : Int)), (y2.1.getD ((0 : Int) + (2 : Int)).toNat (0 : Int))), true) else none) else none) else none)) else none) else none) else none)
def f18M : Mdl := ⟨[(.ro, .str)], [sL, .bool], fun x => f18G K x.1⟩
def f53E : Env := eE K [(89, f89M K)] [0, 1, 2]
def f53G (a0 : Int × Int) : Option Bool :=
  (f89G K a0.1 (-1000 : Int) (1000 : Int)).bind fun y1 => ((bif y1 then f89G K a0.2 (-1000 : Int) (1000 : Int) else some false)).bind fun y2 => some (bif y1 then y2 else false)
def f53M : Mdl := ⟨[(.ro, sV)], [.bool], fun x => f53G K x.1⟩
def f130E : Env := eE K [(53, f53M K)] [0, 1, 2]
def f130G (a0 : Int × Int × Int × Int) : Option Bool :=
  (f53G K (a0.1, a0.2.1)).bind fun y1 => ((bif y1 then f53G K a0.2.2 else some false)).bind fun y2 => some (bif y1 then y2 else false)
def f130M : Mdl := ⟨[(.ro, sA)], [.bool], fun x => f130G K x.1⟩
def f131E : Env := eE K [] [0, 1, 2]
def f131G (K : Nat) (a0 : Int × Int × Int × Int) : Option Int :=
  some (w ((w (a0.1 * a0.2.2.2)) - (w (a0.2.1 * a0.2.2.1))))
def f131M : Mdl := ⟨[(.ro, sA)], [sI], fun x => f131G K x.1⟩
def f90E : Env := eE K [(130, f130M K), (131, f131M K)] [0, 1, 2]
def f90G (a0 : Int × Int × Int × Int) : Option Bool :=
  (f130G K a0).bind fun y1 => ((bif y1 then f131G K a0 else some (0 : Int))).bind fun y2 => ((bif (y1 && (!(y2 == (1 : Int)))) then f131G K a0 else some (0 : Int))).bind fun y3 => some (bif y1 then (bif (y2 == (1 : Int)) then true else (y3 == (-1 : Int))) else false)
def f90M : Mdl := ⟨[(.ro, sA)], [.bool], fun x => f90G K x.1⟩
def f48E : Env := eE K [(8, f8M K), (46, f46M K), (90, f90M K)] [0, 2, 3, 4, 5, 6, 19, 36]
def f48G (a0 : ByteArray) : Option (tA × Bool) :=
  (f8G K a0 (44 : Int)).bind fun y1 => (f46G K y1).bind fun y2 => (bif (bif (!y2.2) then true else ((y2.1.length : Int) != (4 : Int))) then some (((0 : Int), (0 : Int), (0 : Int), (0 : Int)), false) else (bif (decide (0 ≤ (0 : Int)) && decide ((0 : Int) < (y2.1.length : Int))) then (bif (decide (0 ≤ (1 : Int)) && decide ((1 : Int) < (y2.1.length : Int))) then (bif (decide (0 ≤ (2 : Int)) && decide ((2 : Int) < (y2.1.length : Int))) then (bif (decide (0 ≤ (3 : Int)) && decide ((3 : Int) < (y2.1.length : Int))) then (f90G K ((y2.1.getD ((0 : Int) + (0 : Int)).toNat (0 : Int)), (y2.1.getD ((0 : Int) + (1 : Int)).toNat (0 : Int)), (y2.1.getD ((0 : Int) + (2 : Int)).toNat (0 : Int)), (y2.1.getD ((0 : Int) + (3 : Int)).toNat (0 : Int)))).bind fun y3 => (bif (!y3) then some (((0 : Int), (0 : Int), (0 : Int), (0 : Int)), false) else some (((y2.1.getD ((0 : Int) + (0 : Int)).toNat (0 : Int)), (y2.1.getD ((0 : Int) + (1 : Int)).toNat (0 : Int)), (y2.1.getD ((0 : Int) + (2 : Int)).toNat (0 : Int)), (y2.1.getD ((0 : Int) + (3 : Int)).toNat (0 : Int))), true)) else none) else none) else none) else none))
def f48M : Mdl := ⟨[(.ro, .str)], [sA, .bool], fun x => f48G K x.1⟩
def f22E : Env := eE K [(8, f8M K), (46, f46M K), (53, f53M K)] [0, 2, 3, 4, 5, 29]
def f22G (a0 : ByteArray) : Option (tV × Bool) :=
  (f8G K a0 (44 : Int)).bind fun y1 => (f46G K y1).bind fun y2 => (bif ((decide (0 ≤ (0 : Int)) && decide ((0 : Int) < (y2.1.length : Int))) || (!(!(bif (!y2.2) then true else ((y2.1.length : Int) != (2 : Int)))))) then (bif ((decide (0 ≤ (1 : Int)) && decide ((1 : Int) < (y2.1.length : Int))) || (!(!(bif (!y2.2) then true else ((y2.1.length : Int) != (2 : Int)))))) then ((bif (!(bif (!y2.2) then true else ((y2.1.length : Int) != (2 : Int)))) then f53G K ((y2.1.getD ((0 : Int) + (0 : Int)).toNat (0 : Int)), (y2.1.getD ((0 : Int) + (1 : Int)).toNat (0 : Int))) else some false)).bind fun y3 => (bif (bif (bif (!y2.2) then true else ((y2.1.length : Int) != (2 : Int))) then true else (!y3)) then some (((0 : Int), (0 : Int)), false) else (bif (decide (0 ≤ (0 : Int)) && decide ((0 : Int) < (y2.1.length : Int))) then (bif (decide (0 ≤ (1 : Int)) && decide ((1 : Int) < (y2.1.length : Int))) then some (((y2.1.getD ((0 : Int) + (0 : Int)).toNat (0 : Int)), (y2.1.getD ((0 : Int) + (1 : Int)).toNat (0 : Int))), true) else none) else none)) else none) else none)
def f22M : Mdl := ⟨[(.ro, .str)], [sV, .bool], fun x => f22G K x.1⟩
def f58E : Env := eE K [] [0]
def f58G (K : Nat) : Option tA :=
  some ((1 : Int), (0 : Int), (0 : Int), (1 : Int))
def f58M : Mdl := ⟨[], [sA], fun x => f58G K ⟩
def f59E : Env := eE K [] [0, 1, 2, 3, 4]
def f59G (K : Nat) (a0 a1 : Int × Int × Int × Int) : Option tA :=
  some ((w ((w (a0.1 * a1.1)) + (w (a0.2.1 * a1.2.2.1)))), (w ((w (a0.1 * a1.2.1)) + (w (a0.2.1 * a1.2.2.2)))), (w ((w (a0.2.2.1 * a1.1)) + (w (a0.2.2.2 * a1.2.2.1)))), (w ((w (a0.2.2.1 * a1.2.1)) + (w (a0.2.2.2 * a1.2.2.2)))))
def f59M : Mdl := ⟨[(.ro, sA), (.ro, sA)], [sA], fun x => f59G K x.1 x.2.1⟩
def f132E : Env := eE K [(58, f58M K), (59, f59M K), (130, f130M K)] [0, 1, 2, 3, 4, 7, 15, 18]
def f132_b6 (a0 : Int × Int × Int × Int) (L6 : Int → Int → Int → Int → Int → Option Int) (q7 q8 q9 q10 q11 : Int) : Option Int :=
  (bif (decide (q7 ≤ (6 : Int))) then (f59G K a0 (q8, q9, q10, q11)).bind fun y12 => (f130G K y12).bind fun y13 => (bif (!y13) then some (0 : Int) else (f58G K).bind fun y14 => (bif ((y12.1 == y14.1) && ((y12.2.1 == y14.2.1) && ((y12.2.2.1 == y14.2.2.1) && (y12.2.2.2 == y14.2.2.2)))) then some q7 else L6 (w (q7 + (1 : Int))) y12.1 y12.2.1 y12.2.2.1 y12.2.2.2)) else some (0 : Int))
def f132_l6 (a0 : Int × Int × Int × Int) (n : Nat) (q7 q8 q9 q10 q11 : Int) : Option Int :=
  iter (X := Int × Int × Int × Int × Int) (fun L x => f132_b6 K a0 (fun v0 v1 v2 v3 v4 => L (v0, v1, v2, v3, v4)) x.1 x.2.1 x.2.2.1 x.2.2.2.1 x.2.2.2.2) n (q7, q8, q9, q10, q11)
def f132_g (a0 : Int × Int × Int × Int) (I6 : Int → Int → Int → Int → Int → Option Int) : Option Int :=
  (f58G K).bind fun y1 => I6 (1 : Int) y1.1 y1.2.1 y1.2.2.1 y1.2.2.2
def f132G (a0 : Int × Int × Int × Int) : Option Int :=
  f132_g K a0 (fun d0 d1 d2 d3 d4 => f132_l6 K a0 K d0 d1 d2 d3 d4)
def f132M : Mdl := ⟨[(.ro, sA)], [sI], fun x => f132G K x.1⟩
def f132_k6 (a0 : Int × Int × Int × Int) (lr : LR Int) : Ex → Fr → Option Int :=
  contC (f132E K) 0 lr f132C [1, 1, 0, 1, 0] (fM (f132E K) Tryz.f132 (f132M K) (a0, ()))
def f132_j6 (a0 : Int × Int × Int × Int) (lr : LR Int) (bq7 bq8 bq9 bq10 bq11 : Int) : Option Int :=
  lr (selC f132C [1, 1, 0, 1, 0, 0]) (f132_fr6 a0 bq7 bq8 bq9 bq10 bq11) (f132_k6 K a0 lr)
def f91E : Env := eE K [(131, f131M K), (132, f132M K)] [0, 1, 2, 3, 9]
def f91G (a0 : Int × Int × Int × Int) : Option Int :=
  (f131G K a0).bind fun y1 => (bif (y1 == (1 : Int)) then (f132G K a0).bind fun y2 => some y2 else (f132G K a0).bind fun y3 => (bif (y3 == (2 : Int)) then some (-2 : Int) else some (0 : Int)))
def f91M : Mdl := ⟨[(.ro, sA)], [sI], fun x => f91G K x.1⟩
def f49E : Env := eE K [(53, f53M K), (90, f90M K), (91, f91M K)] [0, 1, 2]
def f49G (a0 : tA × Int × Int) : Option Bool :=
  (f90G K a0.1).bind fun y1 => ((bif y1 then f91G K a0.1 else some (0 : Int))).bind fun y2 => ((bif (bif y1 then (y2 != (0 : Int)) else false) then f53G K a0.2 else some false)).bind fun y3 => some (bif (bif y1 then (y2 != (0 : Int)) else false) then y3 else false)
def f49M : Mdl := ⟨[(.ro, sM)], [.bool], fun x => f49G K x.1⟩
def f19E : Env := eE K [(8, f8M K), (22, f22M K), (48, f48M K), (49, f49M K)] [0, 2, 3, 4, 5, 6, 7, 8, 9, 14, 43]
def f19G (a0 : ByteArray) : Option (tM × Bool) :=
  (f8G K a0 (59 : Int)).bind fun y1 => (bif ((y1.length : Int) != (2 : Int)) then some ((((0 : Int), (0 : Int), (0 : Int), (0 : Int)), (0 : Int), (0 : Int)), false) else (bif (decide (0 ≤ (0 : Int)) && decide ((0 : Int) < (y1.length : Int))) then (f48G K (y1.getD ((0 : Int) + (0 : Int)).toNat ByteArray.empty)).bind fun y2 => (bif (decide (0 ≤ (1 : Int)) && decide ((1 : Int) < (y1.length : Int))) then (f22G K (y1.getD ((0 : Int) + (1 : Int)).toNat ByteArray.empty)).bind fun y3 => ((bif (!(bif (!y2.2) then true else (!y3.2))) then f49G K (y2.1, y3.1) else some false)).bind fun y4 => (bif (bif (bif (!y2.2) then true else (!y3.2)) then true else (!y4)) then some ((((0 : Int), (0 : Int), (0 : Int), (0 : Int)), (0 : Int), (0 : Int)), false) else some ((y2.1, y3.1), true)) else none) else none))
def f19M : Mdl := ⟨[(.ro, .str)], [sM, .bool], fun x => f19G K x.1⟩
def f92E : Env := eE K [] [0, 2]
def f92G (K : Nat) (a0 : Int) : Option Bool :=
  some (bif (a0 == (0 : Int)) then true else (a0 == (1 : Int)))
def f92M : Mdl := ⟨[(.ro, sI)], [.bool], fun x => f92G K x.1⟩
def f50E : Env := eE K [(47, f47M K), (92, f92M K)] [0, 1, 3, 4, 12]
def f50G (a0 : Int) (a1 : Int × Int × Int) : Option Int :=
  (f92G K a0).bind fun y1 => ((bif (!(!y1)) then f47G K a1 else some false)).bind fun y2 => (bif (bif (!y1) then true else (!y2)) then some (1 : Int) else some (0 : Int))
def f50M : Mdl := ⟨[(.ro, sI), (.ro, sL)], [sI], fun x => f50G K x.1 x.2.1⟩
def f133E : Env := eE K [] [0, 1, 3, 4, 5, 18]
def f133G (K : Nat) (a0 : Int) (a1 : Int × Int) : Option Int :=
  (bif (a0 == (1 : Int)) then some (w ((w ((w (a1.1 * a1.1)) + (w (a1.2 * a1.2)))) + (w (a1.1 * a1.2)))) else some (w ((w (a1.1 * a1.1)) + (w (a1.2 * a1.2)))))
def f133M : Mdl := ⟨[(.ro, sI), (.ro, sV)], [sI], fun x => f133G K x.1 x.2.1⟩
def f60E : Env := eE K [] [0, 1, 2, 3, 4]
def f60G (K : Nat) (a0 a1 : Int × Int) : Option tV :=
  some ((w (a0.1 + a1.1)), (w (a0.2 + a1.2)))
def f60M : Mdl := ⟨[(.ro, sV), (.ro, sV)], [sV], fun x => f60G K x.1 x.2.1⟩
def f93E : Env := eE K [(60, f60M K), (133, f133M K)] [0, 1, 3, 4, 5, 6]
def f93G (a0 : Int) (a1 : Int × Int × Int × Int) : Option Bool :=
  (f133G K a0 (a1.1, a1.2.2.1)).bind fun y1 => ((bif (y1 == (1 : Int)) then f133G K a0 (a1.2.1, a1.2.2.2) else some (0 : Int))).bind fun y2 => ((bif (bif (y1 == (1 : Int)) then (y2 == (1 : Int)) else false) then f60G K (a1.1, a1.2.2.1) (a1.2.1, a1.2.2.2) else some ((0 : Int), (0 : Int)))).bind fun y3 => ((bif (bif (y1 == (1 : Int)) then (y2 == (1 : Int)) else false) then f133G K a0 y3 else some (0 : Int))).bind fun y4 => some (bif (bif (y1 == (1 : Int)) then (y2 == (1 : Int)) else false) then (y4 == (w ((2 : Int) + a0))) else false)
def f93M : Mdl := ⟨[(.ro, sI), (.ro, sA)], [.bool], fun x => f93G K x.1 x.2.1⟩
def f51E : Env := eE K [(90, f90M K), (92, f92M K), (93, f93M K)] [0, 1, 3, 4]
def f51G (a0 : Int) (a1 : Int × Int × Int × Int) : Option Bool :=
  (f92G K a0).bind fun y1 => ((bif y1 then f90G K a1 else some false)).bind fun y2 => ((bif (bif y1 then y2 else false) then f93G K a0 a1 else some false)).bind fun y3 => some (bif (bif y1 then y2 else false) then y3 else false)
def f51M : Mdl := ⟨[(.ro, sI), (.ro, sA)], [.bool], fun x => f51G K x.1 x.2.1⟩
def f94E : Env := eE K [] [0, 1, 2]
def f94G (K : Nat) (a0 : Int × Int × Int) : Option (List tV) :=
  some [(a0.1, (0 : Int)), a0.2]
def f94M : Mdl := ⟨[(.ro, sL)], [(.list 61 sV)], fun x => f94G K x.1⟩
def f61E : Env := eE K [] [0, 1, 2, 3, 4]
def f61G (K : Nat) (a0 : Int × Int × Int × Int) (a1 : Int × Int) : Option tV :=
  some ((w ((w (a0.1 * a1.1)) + (w (a0.2.1 * a1.2)))), (w ((w (a0.2.2.1 * a1.1)) + (w (a0.2.2.2 * a1.2)))))
def f61M : Mdl := ⟨[(.ro, sA), (.ro, sV)], [sV], fun x => f61G K x.1 x.2.1⟩
omit K
def f134E (K : Nat) (rec : Int → Int → Option Int) : Env := ⟨[(134, ⟨[(.ro, sI), (.ro, sI)], [sI], fun x => rec x.1 x.2.1⟩)], tys, eqs, mts, K, [0, 1, 4, 6], [], [], [], [], [], [], false⟩
def f134_s (K : Nat) (rec : Int → Int → Option Int) (a0 a1 : Int) : Option Int :=
  (bif (a1 == (0 : Int)) then some (if (w (0 - a0)) > a0 then (w (0 - a0)) else a0) else (bif (a1 != 0) then (rec a1 (a0.tmod a1)).bind fun y1 => some y1 else none))
def f134R (K : Nat) : Nat → Int → Int → Option Int
  | 0 => fun _ _ => none
  | n + 1 => fun a0 a1 => f134_s K (f134R K n) a0 a1
def f134G (K : Nat) (a0 a1 : Int) : Option Int := f134R K K a0 a1
def f134M (K : Nat) : Mdl := ⟨[(.ro, sI), (.ro, sI)], [sI], fun x => f134G K x.1 x.2.1⟩
include K
def f96E : Env := eE K [] [0, 1, 4, 9]
def f96G (K : Nat) (a0 a1 : Int) : Option Int :=
  (bif (a1 != 0) then (bif (decide ((a0.tmod a1) < (0 : Int))) then some (w ((a0.tmod a1) + a1)) else some (a0.tmod a1)) else none)
def f96M : Mdl := ⟨[(.ro, sI), (.ro, sI)], [sI], fun x => f96G K x.1 x.2.1⟩
def f135E : Env := eE K [] [0, 1, 2, 4]
def f135G (K : Nat) (a0 : Int × Int) (a1 : Int) : Option tV :=
  some ((w (a1 * a0.1)), (w (a1 * a0.2)))
def f135M : Mdl := ⟨[(.ro, sV), (.ro, sI)], [sV], fun x => f135G K x.1 x.2.1⟩
def f95E : Env := eE K [(96, f96M K), (134, f134M K), (135, f135M K)] [0, 2, 3, 4, 5, 6, 7, 8, 13, 22, 50, 58, 62]
def f95_b15 (a0 : List tV) (q11 q12 : Int) (L10 L15 : Int → Int → Int → Int → Option tL) (q16 q17 q18 q19 : Int) : Option tL :=
  (bif (q19 != (0 : Int)) then (bif (q19 != 0) then L15 q18 q19 (w (q16 - (w ((w (q17.tdiv q19)) * q18)))) (w (q17 - (w ((w (q17.tdiv q19)) * q19)))) else none) else (f134G K q11 q18).bind fun y20 => (bif (decide (y20 > (0 : Int))) then (f96G K q16 y20).bind fun y21 => L10 y20 (w (q12 + (1 : Int))) y21 q17 else L10 y20 (w (q12 + (1 : Int))) q16 q17))
def f95_l15 (a0 : List tV) (q11 q12 : Int) (L10 : Int → Int → Int → Int → Option tL) (n : Nat) (q16 q17 q18 q19 : Int) : Option tL :=
  iter (X := Int × Int × Int × Int) (fun L x => f95_b15 K a0 q11 q12 L10 (fun v0 v1 v2 v3 => L (v0, v1, v2, v3)) x.1 x.2.1 x.2.2.1 x.2.2.2) n (q16, q17, q18, q19)
def f95_b10 (a0 : List tV) (I15 : Int → Int → Int → Int → Int → Int → Option tL) (L10 : Int → Int → Int → Int → Option tL) (q11 q12 q13 q14 : Int) : Option tL :=
  (bif (decide (q12 < (a0.length : Int))) then (bif (decide (0 ≤ q12) && decide (q12 < (a0.length : Int))) then I15 q11 q12 q13 q14 ((a0.getD ((0 : Int) + q12).toNat ((0 : Int), (0 : Int))).1) ((a0.getD ((0 : Int) + q12).toNat ((0 : Int), (0 : Int))).2) else none) else (bif (decide (q14 < (0 : Int))) then (f135G K (q13, q14) (-1 : Int)).bind fun y22 => (bif (decide (q11 > (0 : Int))) then (f96G K y22.1 q11).bind fun y23 => some (q11, y23, y22.2) else some (q11, y22)) else (bif (decide (q11 > (0 : Int))) then (f96G K q13 q11).bind fun y24 => some (q11, y24, q14) else some (q11, q13, q14))))
def f95_l10 (a0 : List tV) (n : Nat) (q11 q12 q13 q14 : Int) : Option tL :=
  iter (X := Int × Int × Int × Int) (fun L x => (fun L10 => f95_b10 K a0 (fun c0 c1 d0 d1 d2 d3 => f95_l15 K a0 c0 c1 L10 K d0 d1 d2 d3) L10 x.1 x.2.1 x.2.2.1 x.2.2.2) (fun v0 v1 v2 v3 => L (v0, v1, v2, v3))) n (q11, q12, q13, q14)
def f95_g (K : Nat) (a0 : List tV) (I10 : Int → Int → Int → Int → Option tL) : Option tL :=
  I10 (0 : Int) (0 : Int) (0 : Int) (0 : Int)
def f95G (a0 : List tV) : Option tL :=
  f95_g K a0 (fun d0 d1 d2 d3 => f95_l10 K a0 K d0 d1 d2 d3)
def f95M : Mdl := ⟨[(.ro, (.list 61 sV))], [sL], fun x => f95G K x.1⟩
def f95_k10 (a0 : List tV) (lr : LR tL) : Ex → Fr → Option tL :=
  contC (f95E K) 1 lr f95C [1, 1, 0, 1, 0] (fM (f95E K) Tryz.f95 (f95M K) (a0, ()))
def f95_j10 (a0 : List tV) (lr : LR tL) (bq11 bq12 bq13 bq14 : Int) : Option tL :=
  lr (selC f95C [1, 1, 0, 1, 0, 0]) (f95_fr10 a0 bq11 bq12 bq13 bq14) (f95_k10 K a0 lr)
def f95_k15 (a0 : List tV) (F10 : Fr → Option tL) (bq11 bq12 bq13 bq14 : Int) (lr : LR tL) : Ex → Fr → Option tL :=
  contC (f95E K) 1 lr (selC f95C [1, 1, 0, 1, 0, 0]) [1, 0, 0, 1, 0, 0] (loopK 1 (f95_fr10 a0 bq11 bq12 bq13 bq14) F10 (f95_k10 K a0 lr))
def f95_j15 (a0 : List tV) (F10 : Fr → Option tL) (bq11 bq12 bq13 bq14 : Int) (lr : LR tL) (q11 q12 bq16 bq17 bq18 bq19 : Int) : Option tL :=
  lr (selC f95C [1, 1, 0, 1, 0, 0, 1, 0, 0, 1, 0, 0, 0]) (f95_fr15 a0 q11 q12 bq16 bq17 bq18 bq19) (f95_k15 K a0 F10 bq11 bq12 bq13 bq14 lr)
def f52E : Env := eE K [(61, f61M K), (94, f94M K), (95, f95M K)] [0, 1, 2, 3, 4, 5]
def f52G (a0 : Int × Int × Int × Int) (a1 : Int × Int × Int) : Option tL :=
  (f94G K a1).bind fun y1 => (bif (decide (0 ≤ (0 : Int)) && decide ((0 : Int) < (y1.length : Int))) then (f61G K a0 (y1.getD ((0 : Int) + (0 : Int)).toNat ((0 : Int), (0 : Int)))).bind fun y2 => (bif (decide (0 ≤ (1 : Int)) && decide ((1 : Int) < (y1.length : Int))) then (f61G K a0 (y1.getD ((0 : Int) + (1 : Int)).toNat ((0 : Int), (0 : Int)))).bind fun y3 => (f95G K [y2, y3]).bind fun y4 => some y4 else none) else none)
def f52M : Mdl := ⟨[(.ro, sA), (.ro, sL)], [sL], fun x => f52G K x.1 x.2.1⟩
def f20E : Env := eE K [(50, f50M K), (51, f51M K), (52, f52M K), (53, f53M K)] [0, 1, 2, 4, 5, 6]
def f20G (a0 : Int) (a1 : Int × Int × Int) (a2 : tA × Int × Int) : Option Bool :=
  (f50G K a0 a1).bind fun y1 => ((bif (y1 == (0 : Int)) then f51G K a0 a2.1 else some false)).bind fun y2 => ((bif (bif (y1 == (0 : Int)) then y2 else false) then f52G K a2.1 a1 else some ((0 : Int), ((0 : Int), (0 : Int))))).bind fun y3 => ((bif (bif (bif (y1 == (0 : Int)) then y2 else false) then ((y3.1 == a1.1) && ((y3.2.1 == a1.2.1) && (y3.2.2 == a1.2.2))) else false) then f53G K a2.2 else some false)).bind fun y4 => some (bif (bif (bif (y1 == (0 : Int)) then y2 else false) then ((y3.1 == a1.1) && ((y3.2.1 == a1.2.1) && (y3.2.2 == a1.2.2))) else false) then y4 else false)
def f20M : Mdl := ⟨[(.ro, sI), (.ro, sL), (.ro, sM)], [.bool], fun x => f20G K x.1 x.2.1 x.2.2.1⟩
def f54E : Env := eE K [(96, f96M K)] [0, 1, 2, 3, 4, 5, 6]
def f54G (a0 : Int × Int × Int) (a1 : Int × Int) : Option tV :=
  (f96G K a1.2 a0.2.2).bind fun y1 => (bif (a0.2.2 != 0) then (f96G K (w (a1.1 - (w ((w ((w (a1.2 - y1)).tdiv a0.2.2)) * a0.2.1)))) a0.1).bind fun y2 => some (y2, y1) else none)
def f54M : Mdl := ⟨[(.ro, sL), (.ro, sV)], [sV], fun x => f54G K x.1 x.2.1⟩
def f21E : Env := eE K [(54, f54M K)] [0, 1, 2, 3, 4]
def f21G (a0 : Int × Int × Int) (a1 : tA × Int × Int) : Option tM :=
  (f54G K a0 a1.2).bind fun y1 => some (a1.1, y1)
def f21M : Mdl := ⟨[(.ro, sL), (.ro, sM)], [sM], fun x => f21G K x.1 x.2.1⟩
def f9E : Env := eE K [(8, f8M K), (18, f18M K), (19, f19M K), (20, f20M K), (21, f21M K), (22, f22M K), (23, f23M K)] [0, 1, 2, 4, 5, 6, 7, 8, 9, 10, 11, 12, 13, 14, 21, 45, 51, 54, 72, 76, 81, 98, 102, 107, 113, 134, 158, 173, 178]
def f9G (a0 : Int × tL × Int × (List tM) × List (tV × Int)) (a1 : ByteArray) : Option ((Int × tL × Int × (List tM) × List (tV × Int)) × Int) :=
  (f8G K a1 (32 : Int)).bind fun y1 => (bif ((decide (0 ≤ (0 : Int)) && decide ((0 : Int) < (y1.length : Int))) || (!((y1.length : Int) == (2 : Int)))) then (bif ((decide (0 ≤ (1 : Int)) && decide ((1 : Int) < (y1.length : Int))) || (!(bif ((y1.length : Int) == (2 : Int)) then ((y1.getD ((0 : Int) + (0 : Int)).toNat ByteArray.empty) == (bs [102, 114, 97, 109, 101])) else false))) then (bif ((decide (0 ≤ (1 : Int)) && decide ((1 : Int) < (y1.length : Int))) || (!((bif ((y1.length : Int) == (2 : Int)) then ((y1.getD ((0 : Int) + (0 : Int)).toNat ByteArray.empty) == (bs [102, 114, 97, 109, 101])) else false) && (!((y1.getD ((0 : Int) + (1 : Int)).toNat ByteArray.empty) == (bs [83])))))) then (bif (bif (bif ((y1.length : Int) == (2 : Int)) then ((y1.getD ((0 : Int) + (0 : Int)).toNat ByteArray.empty) == (bs [102, 114, 97, 109, 101])) else false) then (bif ((y1.getD ((0 : Int) + (1 : Int)).toNat ByteArray.empty) == (bs [83])) then true else ((y1.getD ((0 : Int) + (1 : Int)).toNat ByteArray.empty) == (bs [72]))) else false) then (bif ((w (a0.2.2.1 + (1 : Int))) != (1 : Int)) then some ((a0.1, a0.2.1, (w (a0.2.2.1 + (1 : Int))), a0.2.2.2), (5 : Int)) else (bif (decide (0 ≤ (1 : Int)) && decide ((1 : Int) < (y1.length : Int))) then (bif ((y1.getD ((0 : Int) + (1 : Int)).toNat ByteArray.empty) == (bs [72])) then some (((1 : Int), a0.2.1, (w (a0.2.2.1 + (1 : Int))), a0.2.2.2), (0 : Int)) else some (((0 : Int), a0.2.1, (w (a0.2.2.1 + (1 : Int))), a0.2.2.2), (0 : Int))) else none)) else (bif ((decide (0 ≤ (0 : Int)) && decide ((0 : Int) < (y1.length : Int))) || (!((y1.length : Int) == (2 : Int)))) then (bif (bif ((y1.length : Int) == (2 : Int)) then ((y1.getD ((0 : Int) + (0 : Int)).toNat ByteArray.empty) == (bs [108, 97, 116, 116, 105, 99, 101])) else false) then (bif (decide (0 ≤ (1 : Int)) && decide ((1 : Int) < (y1.length : Int))) then (f18G K (y1.getD ((0 : Int) + (1 : Int)).toNat ByteArray.empty)).bind fun y2 => (bif (!y2.2) then some ((a0.1, a0.2.1, (w (a0.2.2.1 + (1 : Int))), a0.2.2.2), (6 : Int)) else (bif ((w (a0.2.2.1 + (1 : Int))) != (2 : Int)) then some ((a0.1, a0.2.1, (w (a0.2.2.1 + (1 : Int))), a0.2.2.2), (5 : Int)) else some ((a0.1, y2.1, (w (a0.2.2.1 + (1 : Int))), a0.2.2.2), (0 : Int)))) else none) else (bif ((decide (0 ≤ (0 : Int)) && decide ((0 : Int) < (y1.length : Int))) || (!((y1.length : Int) == (2 : Int)))) then (bif (bif ((y1.length : Int) == (2 : Int)) then ((y1.getD ((0 : Int) + (0 : Int)).toNat ByteArray.empty) == (bs [109, 111, 116, 105, 111, 110])) else false) then (bif (decide (0 ≤ (1 : Int)) && decide ((1 : Int) < (y1.length : Int))) then (f19G K (y1.getD ((0 : Int) + (1 : Int)).toNat ByteArray.empty)).bind fun y3 => (bif (!y3.2) then some ((a0.1, a0.2.1, (w (a0.2.2.1 + (1 : Int))), a0.2.2.2), (6 : Int)) else (bif (decide ((w (a0.2.2.1 + (1 : Int))) < (3 : Int))) then some ((a0.1, a0.2.1, (w (a0.2.2.1 + (1 : Int))), a0.2.2.2), (5 : Int)) else (bif ((a0.2.2.2.1.length : Int) == (8 : Int)) then some ((a0.1, a0.2.1, (w (a0.2.2.1 + (1 : Int))), a0.2.2.2), (3 : Int)) else (f20G K a0.1 a0.2.1 y3.1).bind fun y4 => (bif (!y4) then some ((a0.1, a0.2.1, (w (a0.2.2.1 + (1 : Int))), a0.2.2.2), (2 : Int)) else (bif (Nat.ble (0 + a0.2.2.2.1.length) (lim 48)) then (f21G K a0.2.1 y3.1).bind fun y5 => (bif (Nat.ble (([] ++ a0.2.2.2.1).length + [y5].length) (lim 48)) then some ((a0.1, a0.2.1, (w (a0.2.2.1 + (1 : Int))), (([] ++ a0.2.2.2.1) ++ [y5]), a0.2.2.2.2), (0 : Int)) else none) else none))))) else none) else (bif ((decide (0 ≤ (0 : Int)) && decide ((0 : Int) < (y1.length : Int))) || (!((y1.length : Int) == (3 : Int)))) then (bif (bif ((y1.length : Int) == (3 : Int)) then ((y1.getD ((0 : Int) + (0 : Int)).toNat ByteArray.empty) == (bs [109, 97, 114, 107])) else false) then (bif (decide (0 ≤ (1 : Int)) && decide ((1 : Int) < (y1.length : Int))) then (f22G K (y1.getD ((0 : Int) + (1 : Int)).toNat ByteArray.empty)).bind fun y6 => (bif (decide (0 ≤ (2 : Int)) && decide ((2 : Int) < (y1.length : Int))) then (f23G K (y1.getD ((0 : Int) + (2 : Int)).toNat ByteArray.empty)).bind fun y7 => (bif ((decide (0 ≤ (2 : Int)) && decide ((2 : Int) < (y1.length : Int))) || (!(!(bif (!y6.2) then true else (!y7.2))))) then (bif (bif (bif (!y6.2) then true else (!y7.2)) then true else (((y1.getD ((0 : Int) + (2 : Int)).toNat ByteArray.empty).size : Int) != (1 : Int))) then some ((a0.1, a0.2.1, (w (a0.2.2.1 + (1 : Int))), a0.2.2.2), (6 : Int)) else (bif (decide ((w (a0.2.2.1 + (1 : Int))) < (3 : Int))) then some ((a0.1, a0.2.1, (w (a0.2.2.1 + (1 : Int))), a0.2.2.2), (5 : Int)) else (bif ((a0.2.2.2.2.length : Int) == (40 : Int)) then some ((a0.1, a0.2.1, (w (a0.2.2.1 + (1 : Int))), a0.2.2.2), (3 : Int)) else (bif (Nat.ble (0 + a0.2.2.2.2.length) (lim 24)) then (bif (Nat.ble (([] ++ a0.2.2.2.2).length + [(y6.1, y7.1)].length) (lim 24)) then some ((a0.1, a0.2.1, (w (a0.2.2.1 + (1 : Int))), a0.2.2.2.1, (([] ++ a0.2.2.2.2) ++ [(y6.1, y7.1)])), (0 : Int)) else none) else none)))) else none) else none) else none) else some ((a0.1, a0.2.1, (w (a0.2.2.1 + (1 : Int))), a0.2.2.2), (6 : Int))) else none)) else none)) else none)) else none) else none) else none)
def f9M : Mdl := ⟨[(.mv, (.cons sI (.cons sL (.cons sI (.cons (.list 63 sM) (.list 73 (.cons sV sI))))))), (.ro, .str)], [(.cons sI (.cons sL (.cons sI (.cons (.list 63 sM) (.list 73 (.cons sV sI)))))), sI], fun x => f9G K x.1 x.2.1⟩
def f26E : Env := eE K [(58, f58M K)] [0]
def f26G : Option tM :=
  (f58G K).bind fun y1 => some (y1, (0 : Int), (0 : Int))
def f26M : Mdl := ⟨[], [sM], fun x => f26G K ⟩
def f27E : Env := eE K [(59, f59M K), (60, f60M K), (61, f61M K)] [0, 1, 2, 3, 4]
def f27G (a0 a1 : tA × Int × Int) : Option tM :=
  (f59G K a0.1 a1.1).bind fun y1 => (f61G K a0.1 a1.2).bind fun y2 => (f60G K y2 a0.2).bind fun y3 => some (y1, y3)
def f27M : Mdl := ⟨[(.ro, sM), (.ro, sM)], [sM], fun x => f27G K x.1 x.2.1⟩
def f176E : Env := eE K [] [0, 1, 2]
def f176G (K : Nat) (a0 : Int × Int × Int × Int) : Option (List Int) :=
  some [a0.1, a0.2.1, a0.2.2.1, a0.2.2.2]
def f176M : Mdl := ⟨[(.ro, sA)], [(.list 2 sI)], fun x => f176G K x.1⟩
def f175E : Env := eE K [] [0, 1, 4, 5, 15, 26]
def f175_b2 (K : Nat) (a0 a1 : List Int) (L2 : Int → Option Bool) (q3 : Int) : Option Bool :=
  (bif (bif (decide (q3 < (a0.length : Int))) then (decide (q3 < (a1.length : Int))) else false) then (bif (decide (0 ≤ q3) && decide (q3 < (a0.length : Int))) then (bif (decide (0 ≤ q3) && decide (q3 < (a1.length : Int))) then (bif ((a0.getD ((0 : Int) + q3).toNat (0 : Int)) != (a1.getD ((0 : Int) + q3).toNat (0 : Int))) then (bif (decide (0 ≤ q3) && decide (q3 < (a0.length : Int))) then (bif (decide (0 ≤ q3) && decide (q3 < (a1.length : Int))) then some (decide ((a0.getD ((0 : Int) + q3).toNat (0 : Int)) < (a1.getD ((0 : Int) + q3).toNat (0 : Int)))) else none) else none) else L2 (w (q3 + (1 : Int)))) else none) else none) else some (decide ((a0.length : Int) < (a1.length : Int))))
def f175_l2 (a0 a1 : List Int) (n : Nat) (q3 : Int) : Option Bool :=
  iter (X := Int) (fun L x => f175_b2 K a0 a1 (fun v0 => L v0) x) n q3
def f175_g (K : Nat) (a0 a1 : List Int) (I2 : Int → Option Bool) : Option Bool :=
  I2 (0 : Int)
def f175G (a0 a1 : List Int) : Option Bool :=
  f175_g K a0 a1 (fun d0 => f175_l2 K a0 a1 K d0)
def f175M : Mdl := ⟨[(.ro, (.list 2 sI)), (.ro, (.list 2 sI))], [.bool], fun x => f175G K x.1 x.2.1⟩
def f175_k2 (a0 a1 : List Int) (lr : LR Bool) : Ex → Fr → Option Bool :=
  contC (f175E K) 2 lr f175C [1, 0, 1, 0] (fM (f175E K) Tryz.f175 (f175M K) (a0, a1, ()))
def f175_j2 (a0 a1 : List Int) (lr : LR Bool) (bq3 : Int) : Option Bool :=
  lr (selC f175C [1, 0, 1, 0, 0]) (f175_fr2 a0 a1 bq3) (f175_k2 K a0 a1 lr)
def f138E : Env := eE K [(175, f175M K), (176, f176M K)] [0, 1, 2, 3, 4]
def f138G (a0 a1 : Int × Int × Int × Int) : Option Bool :=
  (f176G K a0).bind fun y1 => (f176G K a1).bind fun y2 => (f175G K y1 y2).bind fun y3 => some y3
def f138M : Mdl := ⟨[(.ro, sA), (.ro, sA)], [.bool], fun x => f138G K x.1 x.2.1⟩
def f136E : Env := eE K [] [0, 1, 2, 3, 4]
def f136G (K : Nat) (a0 a1 : Int × Int) : Option Bool :=
  some (bif (decide (a0.1 < a1.1)) then true else (bif (a0.1 == a1.1) then (decide (a0.2 < a1.2)) else false))
def f136M : Mdl := ⟨[(.ro, sV), (.ro, sV)], [.bool], fun x => f136G K x.1 x.2.1⟩
def f99E : Env := eE K [(136, f136M K), (138, f138M K)] [0, 1, 2, 3, 4, 9]
def f99G (a0 a1 : tA × Int × Int) : Option Bool :=
  (bif (!((a0.1.1 == a1.1.1) && ((a0.1.2.1 == a1.1.2.1) && ((a0.1.2.2.1 == a1.1.2.2.1) && (a0.1.2.2.2 == a1.1.2.2.2))))) then (f138G K a0.1 a1.1).bind fun y1 => some y1 else (f136G K a0.2 a1.2).bind fun y2 => some y2)
def f99M : Mdl := ⟨[(.ro, sM), (.ro, sM)], [.bool], fun x => f99G K x.1 x.2.1⟩
def f62E : Env := eE K [(99, f99M K)] [0, 1, 3, 4, 5, 6, 7, 12, 22]
def f62_b6 (a0 : List tM) (a1 : tA × Int × Int) (L6 : Int → Int → Option Int) (q7 q8 : Int) : Option Int :=
  (bif (decide (q7 < q8)) then (bif (decide (0 ≤ (w ((w (q7 + q8)).tdiv (2 : Int)))) && decide ((w ((w (q7 + q8)).tdiv (2 : Int))) < (a0.length : Int))) then (f99G K ((((a0.getD ((0 : Int) + (w ((w (q7 + q8)).tdiv (2 : Int)))).toNat zM).1).1, (((a0.getD ((0 : Int) + (w ((w (q7 + q8)).tdiv (2 : Int)))).toNat zM).1).2).1, ((((a0.getD ((0 : Int) + (w ((w (q7 + q8)).tdiv (2 : Int)))).toNat zM).1).2).2)), ((a0.getD ((0 : Int) + (w ((w (q7 + q8)).tdiv (2 : Int)))).toNat zM).2)) a1).bind fun y9 => (bif y9 then L6 (w ((w ((w (q7 + q8)).tdiv (2 : Int))) + (1 : Int))) q8 else L6 q7 (w ((w (q7 + q8)).tdiv (2 : Int)))) else none) else some q7)
def f62_l6 (a0 : List tM) (a1 : tA × Int × Int) (n : Nat) (q7 q8 : Int) : Option Int :=
  iter (X := Int × Int) (fun L x => f62_b6 K a0 a1 (fun v0 v1 => L (v0, v1)) x.1 x.2) n (q7, q8)
def f62_g (K : Nat) (a0 : List tM) (a1 : tA × Int × Int) (I6 : Int → Int → Option Int) : Option Int :=
  I6 (0 : Int) (a0.length : Int)
def f62G (a0 : List tM) (a1 : tA × Int × Int) : Option Int :=
  f62_g K a0 a1 (fun d0 d1 => f62_l6 K a0 a1 K d0 d1)
def f62M : Mdl := ⟨[(.ro, (.list 63 sM)), (.ro, sM)], [sI], fun x => f62G K x.1 x.2.1⟩
def f62_k6 (a0 : List tM) (a1 : tA × Int × Int) (lr : LR Int) : Ex → Fr → Option Int :=
  contC (f62E K) 1 lr f62C [1, 1, 0, 0] (fM (f62E K) Tryz.f62 (f62M K) (a0, a1, ()))
def f62_j6 (a0 : List tM) (a1 : tA × Int × Int) (lr : LR Int) (bq7 bq8 : Int) : Option Int :=
  lr (selC f62C [1, 1, 0, 0, 0]) (f62_fr6 a0 a1 bq7 bq8) (f62_k6 K a0 a1 lr)
def f28E : Env := eE K [(62, f62M K)] [0, 1, 3, 4, 5]
def f28G (a0 : List tM) (a1 : tA × Int × Int) : Option Bool :=
  (f62G K a0 a1).bind fun y1 => (bif ((decide (0 ≤ y1) && decide (y1 < (a0.length : Int))) || (!(decide (y1 < (a0.length : Int))))) then some (bif (decide (y1 < (a0.length : Int))) then ((((a0.getD ((0 : Int) + y1).toNat zM).1).1 == a1.1.1) && (((((a0.getD ((0 : Int) + y1).toNat zM).1).2).1 == a1.1.2.1) && ((((((a0.getD ((0 : Int) + y1).toNat zM).1).2).2).1 == a1.1.2.2.1) && ((((((a0.getD ((0 : Int) + y1).toNat zM).1).2).2).2 == a1.1.2.2.2) && ((((a0.getD ((0 : Int) + y1).toNat zM).2).1 == a1.2.1) && (((a0.getD ((0 : Int) + y1).toNat zM).2).2 == a1.2.2)))))) else false) else none)
def f28M : Mdl := ⟨[(.ro, (.list 63 sM)), (.ro, sM)], [.bool], fun x => f28G K x.1 x.2.1⟩
def f29E : Env := eE K [(62, f62M K)] [0, 1, 3, 4, 5, 20]
def f29G (a0 : List tM) (a1 : tA × Int × Int) : Option (List tM) :=
  (f62G K a0 a1).bind fun y1 => (bif ((decide (0 ≤ y1) && decide (y1 < (a0.length : Int))) || (!(decide (y1 < (a0.length : Int))))) then (bif (bif (decide (y1 < (a0.length : Int))) then ((((a0.getD ((0 : Int) + y1).toNat zM).1).1 == a1.1.1) && (((((a0.getD ((0 : Int) + y1).toNat zM).1).2).1 == a1.1.2.1) && ((((((a0.getD ((0 : Int) + y1).toNat zM).1).2).2).1 == a1.1.2.2.1) && ((((((a0.getD ((0 : Int) + y1).toNat zM).1).2).2).2 == a1.1.2.2.2) && ((((a0.getD ((0 : Int) + y1).toNat zM).2).1 == a1.2.1) && (((a0.getD ((0 : Int) + y1).toNat zM).2).2 == a1.2.2)))))) else false) then some a0 else (bif (decide (0 ≤ (0 : Int)) && decide ((0 : Int) ≤ y1) && decide (y1 ≤ (a0.length : Int))) then (bif (Nat.ble (0 + ((a0.take ((0 : Int) + y1).toNat).drop 0).length) (lim 48)) then (bif (Nat.ble (([] ++ ((a0.take ((0 : Int) + y1).toNat).drop 0)).length + [a1].length) (lim 48)) then (bif (decide (0 ≤ y1) && decide (y1 ≤ (a0.length : Int)) && decide ((a0.length : Int) ≤ (a0.length : Int))) then (bif (Nat.ble ((([] ++ ((a0.take ((0 : Int) + y1).toNat).drop 0)) ++ [a1]).length + ((a0.take ((0 : Int) + (a0.length : Int)).toNat).drop ((0 : Int) + y1).toNat).length) (lim 48)) then some ((([] ++ ((a0.take ((0 : Int) + y1).toNat).drop 0)) ++ [a1]) ++ ((a0.take ((0 : Int) + (a0.length : Int)).toNat).drop ((0 : Int) + y1).toNat)) else none) else none) else none) else none) else none)) else none)
def f29M : Mdl := ⟨[(.mv, (.list 63 sM)), (.ro, sM)], [(.list 63 sM)], fun x => f29G K x.1 x.2.1⟩
def f12E : Env := eE K [(21, f21M K), (26, f26M K), (27, f27M K), (28, f28M K), (29, f29M K)] [0, 1, 2, 4, 5, 6, 7, 8, 9, 17, 23, 40]
def f12_b21 (a0 : Int × Int × Int) (a1 : List tM) (q18 : Int) (q20 : List tM) (L17 L21 : Int → (List tM) → (List tM) → Option (List tM)) (q22 : Int) (q23 q24 : List tM) : Option (List tM) :=
  (bif (decide (q22 < (a1.length : Int))) then (bif (decide (0 ≤ q22) && decide (q22 < (a1.length : Int))) then (bif (decide (0 ≤ q18) && decide (q18 < (q24.length : Int))) then (f27G K ((((a1.getD ((0 : Int) + q22).toNat zM).1).1, (((a1.getD ((0 : Int) + q22).toNat zM).1).2).1, ((((a1.getD ((0 : Int) + q22).toNat zM).1).2).2)), ((a1.getD ((0 : Int) + q22).toNat zM).2)) ((((q24.getD ((0 : Int) + q18).toNat zM).1).1, (((q24.getD ((0 : Int) + q18).toNat zM).1).2).1, ((((q24.getD ((0 : Int) + q18).toNat zM).1).2).2)), ((q24.getD ((0 : Int) + q18).toNat zM).2))).bind fun y25 => (f21G K a0 y25).bind fun y26 => (f28G K q23 y26).bind fun y27 => (bif (!y27) then (f29G K q23 y26).bind fun y28 => (bif (Nat.ble (q24.length + [y26].length) (lim 48)) then L21 (w (q22 + (1 : Int))) y28 (q24 ++ [y26]) else none) else L21 (w (q22 + (1 : Int))) q23 q24) else none) else none) else L17 (w (q18 + (1 : Int))) q23 q24)
def f12_l21 (a0 : Int × Int × Int) (a1 : List tM) (q18 : Int) (q20 : List tM) (L17 : Int → (List tM) → (List tM) → Option (List tM)) (n : Nat) (q22 : Int) (q23 q24 : List tM) : Option (List tM) :=
  iter (X := Int × List tM × List tM) (fun L x => f12_b21 K a0 a1 q18 q20 L17 (fun v0 v1 v2 => L (v0, v1, v2)) x.1 x.2.1 x.2.2) n (q22, q23, q24)
def f12_b17 (K : Nat) (a0 : Int × Int × Int) (a1 : List tM) (I21 : Int → (List tM) → Int → (List tM) → (List tM) → Option (List tM)) (L17 : Int → (List tM) → (List tM) → Option (List tM)) (q18 : Int) (q19 q20 : List tM) : Option (List tM) :=
  (bif (decide (q18 < (q20.length : Int))) then I21 q18 q20 (0 : Int) q19 q20 else some q19)
def f12_l17 (a0 : Int × Int × Int) (a1 : List tM) (n : Nat) (q18 : Int) (q19 q20 : List tM) : Option (List tM) :=
  iter (X := Int × List tM × List tM) (fun L x => (fun L17 => f12_b17 K a0 a1 (fun c0 c1 d0 d1 d2 => f12_l21 K a0 a1 c0 c1 L17 K d0 d1 d2) L17 x.1 x.2.1 x.2.2) (fun v0 v1 v2 => L (v0, v1, v2))) n (q18, q19, q20)
def f12_g (a0 : Int × Int × Int) (a1 : List tM) (I17 : Int → (List tM) → (List tM) → Option (List tM)) : Option (List tM) :=
  (f26G K).bind fun y1 => (f26G K).bind fun y2 => I17 (0 : Int) [y1] [y2]
def f12G (a0 : Int × Int × Int) (a1 : List tM) : Option (List tM) :=
  f12_g K a0 a1 (fun d0 d1 d2 => f12_l17 K a0 a1 K d0 d1 d2)
def f12M : Mdl := ⟨[(.ro, sL), (.ro, (.list 63 sM))], [(.list 63 sM)], fun x => f12G K x.1 x.2.1⟩
def f12_k17 (a0 : Int × Int × Int) (a1 : List tM) (lr : LR (List tM)) : Ex → Fr → Option (List tM) :=
  contC (f12E K) 1 lr f12C [1, 1, 1, 0, 1, 0] (fM (f12E K) Tryz.f12 (f12M K) (a0, a1, ()))
def f12_j17 (a0 : Int × Int × Int) (a1 : List tM) (lr : LR (List tM)) (bq18 : Int) (bq19 bq20 : List tM) : Option (List tM) :=
  lr (selC f12C [1, 1, 1, 0, 1, 0, 0]) (f12_fr17 a0 a1 bq18 bq19 bq20) (f12_k17 K a0 a1 lr)
def f12_k21 (a0 : Int × Int × Int) (a1 : List tM) (F17 : Fr → Option (List tM)) (bq18 : Int) (bq19 bq20 : List tM) (lr : LR (List tM)) : Ex → Fr → Option (List tM) :=
  contC (f12E K) 1 lr (selC f12C [1, 1, 1, 0, 1, 0, 0]) [1, 0, 0, 1, 0] (loopK 1 (f12_fr17 a0 a1 bq18 bq19 bq20) F17 (f12_k17 K a0 a1 lr))
def f12_j21 (a0 : Int × Int × Int) (a1 : List tM) (F17 : Fr → Option (List tM)) (bq18 : Int) (bq19 bq20 : List tM) (lr : LR (List tM)) (q18 : Int) (q20 : List tM) (bq22 : Int) (bq23 bq24 : List tM) : Option (List tM) :=
  lr (selC f12C [1, 1, 1, 0, 1, 0, 0, 1, 0, 0, 1, 0, 0]) (f12_fr21 a0 a1 q18 q20 bq22 bq23 bq24) (f12_k21 K a0 a1 F17 bq18 bq19 bq20 lr)
def f56E : Env := eE K [] [0, 1, 2, 3, 4, 5, 10, 16]
def f56_b9 (K : Nat) (a0 : Int × Int × Int) (q7 : Int) (L6 L9 : Int → (List tV) → Option (List tV)) (q10 : Int) (q11 : List tV) : Option (List tV) :=
  (bif (decide (q10 < a0.2.2)) then (bif (Nat.ble (q11.length + [(q7, q10)].length) (lim 16)) then L9 (w (q10 + (1 : Int))) (q11 ++ [(q7, q10)]) else none) else L6 (w (q7 + (1 : Int))) q11)
def f56_l9 (a0 : Int × Int × Int) (q7 : Int) (L6 : Int → (List tV) → Option (List tV)) (n : Nat) (q10 : Int) (q11 : List tV) : Option (List tV) :=
  iter (X := Int × List tV) (fun L x => f56_b9 K a0 q7 L6 (fun v0 v1 => L (v0, v1)) x.1 x.2) n (q10, q11)
def f56_b6 (K : Nat) (a0 : Int × Int × Int) (I9 : Int → Int → (List tV) → Option (List tV)) (L6 : Int → (List tV) → Option (List tV)) (q7 : Int) (q8 : List tV) : Option (List tV) :=
  (bif (decide (q7 < a0.1)) then I9 q7 (0 : Int) q8 else some q8)
def f56_l6 (a0 : Int × Int × Int) (n : Nat) (q7 : Int) (q8 : List tV) : Option (List tV) :=
  iter (X := Int × List tV) (fun L x => (fun L6 => f56_b6 K a0 (fun c0 d0 d1 => f56_l9 K a0 c0 L6 K d0 d1) L6 x.1 x.2) (fun v0 v1 => L (v0, v1))) n (q7, q8)
def f56_g (K : Nat) (a0 : Int × Int × Int) (I6 : Int → (List tV) → Option (List tV)) : Option (List tV) :=
  I6 (0 : Int) []
def f56G (a0 : Int × Int × Int) : Option (List tV) :=
  f56_g K a0 (fun d0 d1 => f56_l6 K a0 K d0 d1)
def f56M : Mdl := ⟨[(.ro, sL)], [(.list 61 sV)], fun x => f56G K x.1⟩
def f56_k6 (a0 : Int × Int × Int) (lr : LR (List tV)) : Ex → Fr → Option (List tV) :=
  contC (f56E K) 0 lr f56C [1, 1, 0, 1, 0] (fM (f56E K) Tryz.f56 (f56M K) (a0, ()))
def f56_j6 (a0 : Int × Int × Int) (lr : LR (List tV)) (bq7 : Int) (bq8 : List tV) : Option (List tV) :=
  lr (selC f56C [1, 1, 0, 1, 0, 0]) (f56_fr6 a0 bq7 bq8) (f56_k6 K a0 lr)
def f56_k9 (a0 : Int × Int × Int) (F6 : Fr → Option (List tV)) (bq7 : Int) (bq8 : List tV) (lr : LR (List tV)) : Ex → Fr → Option (List tV) :=
  contC (f56E K) 0 lr (selC f56C [1, 1, 0, 1, 0, 0]) [1, 0, 0, 1, 0] (loopK 0 (f56_fr6 a0 bq7 bq8) F6 (f56_k6 K a0 lr))
def f56_j9 (a0 : Int × Int × Int) (F6 : Fr → Option (List tV)) (bq7 : Int) (bq8 : List tV) (lr : LR (List tV)) (q7 bq10 : Int) (bq11 : List tV) : Option (List tV) :=
  lr (selC f56C [1, 1, 0, 1, 0, 0, 1, 0, 0, 1, 0, 0]) (f56_fr9 a0 q7 bq10 bq11) (f56_k9 K a0 F6 bq7 bq8 lr)
def f137E : Env := eE K [(60, f60M K), (61, f61M K)] [0, 1, 2, 3, 4]
def f137G (a0 : tA × Int × Int) (a1 : Int × Int) : Option tV :=
  (f61G K a0.1 a1).bind fun y1 => (f60G K y1 a0.2).bind fun y2 => some y2
def f137M : Mdl := ⟨[(.ro, sM), (.ro, sV)], [sV], fun x => f137G K x.1 x.2.1⟩
def f98E : Env := eE K [(54, f54M K), (137, f137M K)] [0, 1, 2, 3, 4, 5, 6]
def f98G (a0 : Int × Int × Int) (a1 : tA × Int × Int) (a2 : Int × Int) : Option tV :=
  (f137G K a1 a2).bind fun y1 => (f54G K a0 y1).bind fun y2 => some y2
def f98M : Mdl := ⟨[(.ro, sL), (.ro, sM), (.ro, sV)], [sV], fun x => f98G K x.1 x.2.1 x.2.2.1⟩
def f97E : Env := eE K [(136, f136M K)] [0, 1, 3, 4, 5, 17, 31]
def f97_b3 (a0 : List tV) (a1 : Int × Int) (L3 : Int → Option (List tV)) (q4 : Int) : Option (List tV) :=
  (bif ((decide (0 ≤ q4) && decide (q4 < (a0.length : Int))) || (!(decide (q4 < (a0.length : Int))))) then ((bif (decide (q4 < (a0.length : Int))) then f136G K (a0.getD ((0 : Int) + q4).toNat ((0 : Int), (0 : Int))) a1 else some false)).bind fun y5 => (bif (bif (decide (q4 < (a0.length : Int))) then y5 else false) then L3 (w (q4 + (1 : Int))) else (bif ((decide (0 ≤ q4) && decide (q4 < (a0.length : Int))) || (!(decide (q4 < (a0.length : Int))))) then (bif (bif (decide (q4 < (a0.length : Int))) then (((a0.getD ((0 : Int) + q4).toNat ((0 : Int), (0 : Int))).1 == a1.1) && ((a0.getD ((0 : Int) + q4).toNat ((0 : Int), (0 : Int))).2 == a1.2)) else false) then some a0 else (bif (decide (0 ≤ (0 : Int)) && decide ((0 : Int) ≤ q4) && decide (q4 ≤ (a0.length : Int))) then (bif (Nat.ble (0 + ((a0.take ((0 : Int) + q4).toNat).drop 0).length) (lim 16)) then (bif (Nat.ble (([] ++ ((a0.take ((0 : Int) + q4).toNat).drop 0)).length + [a1].length) (lim 16)) then (bif (decide (0 ≤ q4) && decide (q4 ≤ (a0.length : Int)) && decide ((a0.length : Int) ≤ (a0.length : Int))) then (bif (Nat.ble ((([] ++ ((a0.take ((0 : Int) + q4).toNat).drop 0)) ++ [a1]).length + ((a0.take ((0 : Int) + (a0.length : Int)).toNat).drop ((0 : Int) + q4).toNat).length) (lim 16)) then some ((([] ++ ((a0.take ((0 : Int) + q4).toNat).drop 0)) ++ [a1]) ++ ((a0.take ((0 : Int) + (a0.length : Int)).toNat).drop ((0 : Int) + q4).toNat)) else none) else none) else none) else none) else none)) else none)) else none)
def f97_l3 (a0 : List tV) (a1 : Int × Int) (n : Nat) (q4 : Int) : Option (List tV) :=
  iter (X := Int) (fun L x => f97_b3 K a0 a1 (fun v0 => L v0) x) n q4
def f97_g (K : Nat) (a0 : List tV) (a1 : Int × Int) (I3 : Int → Option (List tV)) : Option (List tV) :=
  I3 (0 : Int)
def f97G (a0 : List tV) (a1 : Int × Int) : Option (List tV) :=
  f97_g K a0 a1 (fun d0 => f97_l3 K a0 a1 K d0)
def f97M : Mdl := ⟨[(.mv, (.list 61 sV)), (.ro, sV)], [(.list 61 sV)], fun x => f97G K x.1 x.2.1⟩
def f97_k3 (a0 : List tV) (a1 : Int × Int) (lr : LR (List tV)) : Ex → Fr → Option (List tV) :=
  contC (f97E K) 1 lr f97C [1, 1, 0, 0] (fM (f97E K) Tryz.f97 (f97M K) (a0, a1, ()))
def f97_j3 (a0 : List tV) (a1 : Int × Int) (lr : LR (List tV)) (bq4 : Int) : Option (List tV) :=
  lr (selC f97C [1, 1, 0, 0, 0]) (f97_fr3 a0 a1 bq4) (f97_k3 K a0 a1 lr)
def f57E : Env := eE K [(97, f97M K), (98, f98M K)] [0, 1, 2, 3, 5, 6, 7, 8, 13]
def f57_b4 (a0 : Int × Int × Int) (a1 : List tM) (a2 : Int × Int) (L4 : Int → (List tV) → Option (List tV)) (q5 : Int) (q6 : List tV) : Option (List tV) :=
  (bif (decide (q5 < (a1.length : Int))) then (bif (decide (0 ≤ q5) && decide (q5 < (a1.length : Int))) then (f98G K a0 ((((a1.getD ((0 : Int) + q5).toNat zM).1).1, (((a1.getD ((0 : Int) + q5).toNat zM).1).2).1, ((((a1.getD ((0 : Int) + q5).toNat zM).1).2).2)), ((a1.getD ((0 : Int) + q5).toNat zM).2)) a2).bind fun y7 => (f97G K q6 y7).bind fun y8 => L4 (w (q5 + (1 : Int))) y8 else none) else some q6)
def f57_l4 (a0 : Int × Int × Int) (a1 : List tM) (a2 : Int × Int) (n : Nat) (q5 : Int) (q6 : List tV) : Option (List tV) :=
  iter (X := Int × List tV) (fun L x => f57_b4 K a0 a1 a2 (fun v0 v1 => L (v0, v1)) x.1 x.2) n (q5, q6)
def f57_g (K : Nat) (a0 : Int × Int × Int) (a1 : List tM) (a2 : Int × Int) (I4 : Int → (List tV) → Option (List tV)) : Option (List tV) :=
  I4 (0 : Int) []
def f57G (a0 : Int × Int × Int) (a1 : List tM) (a2 : Int × Int) : Option (List tV) :=
  f57_g K a0 a1 a2 (fun d0 d1 => f57_l4 K a0 a1 a2 K d0 d1)
def f57M : Mdl := ⟨[(.ro, sL), (.ro, (.list 63 sM)), (.ro, sV)], [(.list 61 sV)], fun x => f57G K x.1 x.2.1 x.2.2.1⟩
def f57_k4 (a0 : Int × Int × Int) (a1 : List tM) (a2 : Int × Int) (lr : LR (List tV)) : Ex → Fr → Option (List tV) :=
  contC (f57E K) 1 lr f57C [1, 1, 0, 1, 0] (fM (f57E K) Tryz.f57 (f57M K) (a0, a1, a2, ()))
def f57_j4 (a0 : Int × Int × Int) (a1 : List tM) (a2 : Int × Int) (lr : LR (List tV)) (bq5 : Int) (bq6 : List tV) : Option (List tV) :=
  lr (selC f57C [1, 1, 0, 1, 0, 0]) (f57_fr4 a0 a1 a2 bq5 bq6) (f57_k4 K a0 a1 a2 lr)
def f25E : Env := eE K [(56, f56M K), (57, f57M K)] [0, 1, 2, 4, 5, 6, 7, 8, 15, 32]
def f25_b4 (a0 : Int × Int × Int) (a1 : List tM) (y1 : List tV) (L4 : Int → (List (List tV)) → Option (List (List tV))) (q5 : Int) (q6 : List (List tV)) : Option (List (List tV)) :=
  (bif (decide (q5 < (y1.length : Int))) then (bif (decide (0 ≤ q5) && decide (q5 < (y1.length : Int))) then (f57G K a0 a1 (y1.getD ((0 : Int) + q5).toNat ((0 : Int), (0 : Int)))).bind fun y7 => (bif (decide (0 ≤ (0 : Int)) && decide ((0 : Int) < (y7.length : Int))) then (bif (decide (0 ≤ q5) && decide (q5 < (y1.length : Int))) then (bif (((y7.getD ((0 : Int) + (0 : Int)).toNat ((0 : Int), (0 : Int))).1 == (y1.getD ((0 : Int) + q5).toNat ((0 : Int), (0 : Int))).1) && ((y7.getD ((0 : Int) + (0 : Int)).toNat ((0 : Int), (0 : Int))).2 == (y1.getD ((0 : Int) + q5).toNat ((0 : Int), (0 : Int))).2)) then (bif (Nat.ble (q6.length + [y7].length) (lim 24)) then L4 (w (q5 + (1 : Int))) (q6 ++ [y7]) else none) else L4 (w (q5 + (1 : Int))) q6) else none) else none) else none) else some q6)
def f25_l4 (a0 : Int × Int × Int) (a1 : List tM) (y1 : List tV) (n : Nat) (q5 : Int) (q6 : List (List tV)) : Option (List (List tV)) :=
  iter (X := Int × List (List tV)) (fun L x => f25_b4 K a0 a1 y1 (fun v0 v1 => L (v0, v1)) x.1 x.2) n (q5, q6)
def f25_g (a0 : Int × Int × Int) (a1 : List tM) (I4 : (List tV) → Int → (List (List tV)) → Option (List (List tV))) : Option (List (List tV)) :=
  (f56G K a0).bind fun y1 => I4 y1 (0 : Int) []
def f25G (a0 : Int × Int × Int) (a1 : List tM) : Option (List (List tV)) :=
  f25_g K a0 a1 (fun c0 d0 d1 => f25_l4 K a0 a1 c0 K d0 d1)
def f25M : Mdl := ⟨[(.ro, sL), (.ro, (.list 63 sM))], [(.list 77 (.list 61 sV))], fun x => f25G K x.1 x.2.1⟩
def f25_k4 (a0 : Int × Int × Int) (a1 : List tM) (lr : LR (List (List tV))) : Ex → Fr → Option (List (List tV)) :=
  contC (f25E K) 1 lr f25C [1, 1, 1, 0, 1, 0] (fM (f25E K) Tryz.f25 (f25M K) (a0, a1, ()))
def f25_j4 (a0 : Int × Int × Int) (a1 : List tM) (lr : LR (List (List tV))) (y1 : List tV) (bq5 : Int) (bq6 : List (List tV)) : Option (List (List tV)) :=
  lr (selC f25C [1, 1, 1, 0, 1, 0, 0]) (f25_fr4 a0 a1 y1 bq5 bq6) (f25_k4 K a0 a1 lr)
def f24E : Env := eE K [(54, f54M K)] [0, 1, 2, 3, 4]
def f24G (a0 : Int × Int × Int) (a1 : Int × Int) : Option Int :=
  (f54G K a0 a1).bind fun y1 => some (w ((w (y1.1 * a0.2.2)) + y1.2))
def f24M : Mdl := ⟨[(.ro, sL), (.ro, sV)], [sI], fun x => f24G K x.1 x.2.1⟩
def f11E : Env := eE K [(24, f24M K), (25, f25M K)] [0, 1, 2, 4, 5, 6, 7, 8, 21, 30]
def f11_b12 (a0 : Int × Int × Int) (a1 : List tM) (q10 : Int) (y1 : List (List tV)) (L9 L12 : Int → (List Int) → Option (List Int)) (q13 : Int) (q14 : List Int) : Option (List Int) :=
  (bif (decide (0 ≤ q10) && decide (q10 < (y1.length : Int))) then (bif (decide (q13 < ((y1.getD ((0 : Int) + q10).toNat []).length : Int))) then (bif (decide (0 ≤ q10) && decide (q10 < (y1.length : Int))) then (bif (decide (0 ≤ q13) && decide (q13 < ((y1.getD ((0 : Int) + q10).toNat []).length : Int))) then (f24G K a0 ((y1.getD ((0 : Int) + q10).toNat []).getD ((0 : Int) + q13).toNat ((0 : Int), (0 : Int)))).bind fun y15 => (bif (decide (0 ≤ y15) && decide (y15 < (q14.length : Int))) then L12 (w (q13 + (1 : Int))) (q14.set ((0 : Int) + y15).toNat q10) else none) else none) else none) else L9 (w (q10 + (1 : Int))) q14) else none)
def f11_l12 (a0 : Int × Int × Int) (a1 : List tM) (q10 : Int) (y1 : List (List tV)) (L9 : Int → (List Int) → Option (List Int)) (n : Nat) (q13 : Int) (q14 : List Int) : Option (List Int) :=
  iter (X := Int × List Int) (fun L x => f11_b12 K a0 a1 q10 y1 L9 (fun v0 v1 => L (v0, v1)) x.1 x.2) n (q13, q14)
def f11_b9 (K : Nat) (a0 : Int × Int × Int) (a1 : List tM) (y1 : List (List tV)) (I12 : Int → Int → (List Int) → Option (List Int)) (L9 : Int → (List Int) → Option (List Int)) (q10 : Int) (q11 : List Int) : Option (List Int) :=
  (bif (decide (q10 < (y1.length : Int))) then I12 q10 (0 : Int) q11 else some q11)
def f11_l9 (a0 : Int × Int × Int) (a1 : List tM) (y1 : List (List tV)) (n : Nat) (q10 : Int) (q11 : List Int) : Option (List Int) :=
  iter (X := Int × List Int) (fun L x => (fun L9 => f11_b9 K a0 a1 y1 (fun c0 d0 d1 => f11_l12 K a0 a1 c0 y1 L9 K d0 d1) L9 x.1 x.2) (fun v0 v1 => L (v0, v1))) n (q10, q11)
def f11_g (a0 : Int × Int × Int) (a1 : List tM) (I9 : (List (List tV)) → Int → (List Int) → Option (List Int)) : Option (List Int) :=
  (bif (decide (0 ≤ (w (a0.1 * a0.2.2))) && Nat.ble (w (a0.1 * a0.2.2)).toNat (lim 8) && ((w (a0.1 * a0.2.2)) == (w (a0.1 * a0.2.2)))) then (f25G K a0 a1).bind fun y1 => I9 y1 (0 : Int) (List.replicate (w (a0.1 * a0.2.2)).toNat (0 : Int)) else none)
def f11G (a0 : Int × Int × Int) (a1 : List tM) : Option (List Int) :=
  f11_g K a0 a1 (fun c0 d0 d1 => f11_l9 K a0 a1 c0 K d0 d1)
def f11M : Mdl := ⟨[(.ro, sL), (.ro, (.list 63 sM))], [(.list 2 sI)], fun x => f11G K x.1 x.2.1⟩
def f11_k9 (a0 : Int × Int × Int) (a1 : List tM) (lr : LR (List Int)) : Ex → Fr → Option (List Int) :=
  contC (f11E K) 1 lr f11C [1, 1, 1, 0, 1, 0] (fM (f11E K) Tryz.f11 (f11M K) (a0, a1, ()))
def f11_j9 (a0 : Int × Int × Int) (a1 : List tM) (lr : LR (List Int)) (y1 : List (List tV)) (bq10 : Int) (bq11 : List Int) : Option (List Int) :=
  lr (selC f11C [1, 1, 1, 0, 1, 0, 0]) (f11_fr9 a0 a1 y1 bq10 bq11) (f11_k9 K a0 a1 lr)
def f11_k12 (a0 : Int × Int × Int) (a1 : List tM) (y1 : List (List tV)) (F9 : Fr → Option (List Int)) (bq10 : Int) (bq11 : List Int) (lr : LR (List Int)) : Ex → Fr → Option (List Int) :=
  contC (f11E K) 1 lr (selC f11C [1, 1, 1, 0, 1, 0, 0]) [1, 0, 0, 1, 0] (loopK 1 (f11_fr9 a0 a1 y1 bq10 bq11) F9 (f11_k9 K a0 a1 lr))
def f11_j12 (a0 : Int × Int × Int) (a1 : List tM) (y1 : List (List tV)) (F9 : Fr → Option (List Int)) (bq10 : Int) (bq11 : List Int) (lr : LR (List Int)) (q10 bq13 : Int) (bq14 : List Int) : Option (List Int) :=
  lr (selC f11C [1, 1, 1, 0, 1, 0, 0, 1, 0, 0, 1, 0, 0]) (f11_fr12 a0 a1 q10 y1 bq13 bq14) (f11_k12 K a0 a1 y1 F9 bq10 bq11 lr)
def f10E : Env := eE K [(24, f24M K)] [0, 1, 2, 3, 6, 7, 8, 9, 10, 11, 12, 16, 21, 59]
def f10_b11 (a0 : Int × Int × Int) (a1 : List Int) (a2 : List (tV × Int)) (q10 : Int) (L9 L11 : Int → Option (Int × Int × Bool)) (q12 : Int) : Option (Int × Int × Bool) :=
  (bif (decide (q12 < q10)) then (bif (decide (0 ≤ q12) && decide (q12 < (a2.length : Int))) then (f24G K a0 ((a2.getD ((0 : Int) + q12).toNat (((0 : Int), (0 : Int)), (0 : Int))).1)).bind fun y13 => (bif (decide (0 ≤ y13) && decide (y13 < (a1.length : Int))) then (bif (decide (0 ≤ q10) && decide (q10 < (a2.length : Int))) then (f24G K a0 ((a2.getD ((0 : Int) + q10).toNat (((0 : Int), (0 : Int)), (0 : Int))).1)).bind fun y14 => (bif (decide (0 ≤ y14) && decide (y14 < (a1.length : Int))) then (bif ((decide (0 ≤ q12) && decide (q12 < (a2.length : Int))) || (!((a1.getD ((0 : Int) + y13).toNat (0 : Int)) == (a1.getD ((0 : Int) + y14).toNat (0 : Int))))) then (bif ((decide (0 ≤ q10) && decide (q10 < (a2.length : Int))) || (!((a1.getD ((0 : Int) + y13).toNat (0 : Int)) == (a1.getD ((0 : Int) + y14).toNat (0 : Int))))) then (bif (bif ((a1.getD ((0 : Int) + y13).toNat (0 : Int)) == (a1.getD ((0 : Int) + y14).toNat (0 : Int))) then ((a2.getD ((0 : Int) + q12).toNat (((0 : Int), (0 : Int)), (0 : Int))).2 != (a2.getD ((0 : Int) + q10).toNat (((0 : Int), (0 : Int)), (0 : Int))).2) else false) then some (q12, q10, true) else L11 (w (q12 + (1 : Int)))) else none) else none) else none) else none) else none) else none) else L9 (w (q10 + (1 : Int))))
def f10_l11 (a0 : Int × Int × Int) (a1 : List Int) (a2 : List (tV × Int)) (q10 : Int) (L9 : Int → Option (Int × Int × Bool)) (n : Nat) (q12 : Int) : Option (Int × Int × Bool) :=
  iter (X := Int) (fun L x => f10_b11 K a0 a1 a2 q10 L9 (fun v0 => L v0) x) n q12
def f10_b9 (K : Nat) (a0 : Int × Int × Int) (a1 : List Int) (a2 : List (tV × Int)) (I11 : Int → Int → Option (Int × Int × Bool)) (L9 : Int → Option (Int × Int × Bool)) (q10 : Int) : Option (Int × Int × Bool) :=
  (bif (decide (q10 < (a2.length : Int))) then I11 q10 (0 : Int) else some ((0 : Int), (0 : Int), false))
def f10_l9 (a0 : Int × Int × Int) (a1 : List Int) (a2 : List (tV × Int)) (n : Nat) (q10 : Int) : Option (Int × Int × Bool) :=
  iter (X := Int) (fun L x => (fun L9 => f10_b9 K a0 a1 a2 (fun c0 d0 => f10_l11 K a0 a1 a2 c0 L9 K d0) L9 x) (fun v0 => L v0)) n q10
def f10_g (K : Nat) (a0 : Int × Int × Int) (a1 : List Int) (a2 : List (tV × Int)) (I9 : Int → Option (Int × Int × Bool)) : Option (Int × Int × Bool) :=
  I9 (0 : Int)
def f10G (a0 : Int × Int × Int) (a1 : List Int) (a2 : List (tV × Int)) : Option (Int × Int × Bool) :=
  f10_g K a0 a1 a2 (fun d0 => f10_l9 K a0 a1 a2 K d0)
def f10M : Mdl := ⟨[(.ro, sL), (.ro, (.list 2 sI)), (.ro, (.list 73 (.cons sV sI)))], [sI, sI, .bool], fun x => f10G K x.1 x.2.1 x.2.2.1⟩
def f10_k9 (a0 : Int × Int × Int) (a1 : List Int) (a2 : List (tV × Int)) (lr : LR (Int × Int × Bool)) : Ex → Fr → Option (Int × Int × Bool) :=
  contC (f10E K) 2 lr f10C [1, 0, 1, 0] (fM (f10E K) Tryz.f10 (f10M K) (a0, a1, a2, ()))
def f10_j9 (a0 : Int × Int × Int) (a1 : List Int) (a2 : List (tV × Int)) (lr : LR (Int × Int × Bool)) (bq10 : Int) : Option (Int × Int × Bool) :=
  lr (selC f10C [1, 0, 1, 0, 0]) (f10_fr9 a0 a1 a2 bq10) (f10_k9 K a0 a1 a2 lr)
def f10_k11 (a0 : Int × Int × Int) (a1 : List Int) (a2 : List (tV × Int)) (F9 : Fr → Option (Int × Int × Bool)) (bq10 : Int) (lr : LR (Int × Int × Bool)) : Ex → Fr → Option (Int × Int × Bool) :=
  contC (f10E K) 2 lr (selC f10C [1, 0, 1, 0, 0]) [1, 0, 0, 1, 0] (loopK 2 (f10_fr9 a0 a1 a2 bq10) F9 (f10_k9 K a0 a1 a2 lr))
def f10_j11 (a0 : Int × Int × Int) (a1 : List Int) (a2 : List (tV × Int)) (F9 : Fr → Option (Int × Int × Bool)) (bq10 : Int) (lr : LR (Int × Int × Bool)) (q10 bq12 : Int) : Option (Int × Int × Bool) :=
  lr (selC f10C [1, 0, 1, 0, 0, 1, 0, 0, 1, 0, 0]) (f10_fr11 a0 a1 a2 q10 bq12) (f10_k11 K a0 a1 a2 F9 bq10 lr)
def f6E : Env := eE K [(8, f8M K), (9, f9M K), (10, f10M K), (11, f11M K), (12, f12M K)] [0, 2, 3, 4, 5, 6, 7, 8, 9, 12, 16, 26, 32, 45, 53, 72]
def f6_b4 (a0 : ByteArray) (y1 : List ByteArray) (L4 : Int → Int → Int → Int → Int → Int → (List tM) → (List (tV × Int)) → Option (Option (Int × tL × Int × (List tM) × List (tV × Int)) × Int × Int)) (q5 q6 q7 q8 q9 q10 : Int) (q11 : List tM) (q12 : List (tV × Int)) : Option (Option (Int × tL × Int × (List tM) × List (tV × Int)) × Int × Int) :=
  (bif (decide ((w (q5 + (1 : Int))) < (y1.length : Int))) then (bif (decide (0 ≤ q5) && decide (q5 < (y1.length : Int))) then (f9G K (q6, (q7, q8, q9), q10, q11, q12) (y1.getD ((0 : Int) + q5).toNat ByteArray.empty)).bind fun y13 => (bif (y13.2 != (0 : Int)) then some (none, ((w (q5 + (1 : Int))), y13.2)) else L4 (w (q5 + (1 : Int))) y13.1.1 y13.1.2.1.1 y13.1.2.1.2.1 y13.1.2.1.2.2 y13.1.2.2.1 y13.1.2.2.2.1 y13.1.2.2.2.2) else none) else (bif (decide (q10 < (2 : Int))) then some ((some (q6, (q7, q8, q9), q10, q11, q12)), ((0 : Int), (4 : Int))) else (f12G K (q7, q8, q9) q11).bind fun y14 => (f11G K (q7, q8, q9) y14).bind fun y15 => (f10G K (q7, q8, q9) y15 q12).bind fun y16 => (bif y16.2.2 then some ((some (q6, (q7, q8, q9), q10, q11, q12)), ((0 : Int), (1 : Int))) else some ((some (q6, (q7, q8, q9), q10, q11, q12)), ((0 : Int), (0 : Int))))))
def f6_l4 (a0 : ByteArray) (y1 : List ByteArray) (n : Nat) (q5 q6 q7 q8 q9 q10 : Int) (q11 : List tM) (q12 : List (tV × Int)) : Option (Option (Int × tL × Int × (List tM) × List (tV × Int)) × Int × Int) :=
  iter (X := Int × Int × Int × Int × Int × Int × List tM × List (tV × Int)) (fun L x => f6_b4 K a0 y1 (fun v0 v1 v2 v3 v4 v5 v6 v7 => L (v0, v1, v2, v3, v4, v5, v6, v7)) x.1 x.2.1 x.2.2.1 x.2.2.2.1 x.2.2.2.2.1 x.2.2.2.2.2.1 x.2.2.2.2.2.2.1 x.2.2.2.2.2.2.2) n (q5, q6, q7, q8, q9, q10, q11, q12)
def f6_g (a0 : ByteArray) (I4 : (List ByteArray) → Int → Int → Int → Int → Int → Int → (List tM) → (List (tV × Int)) → Option (Option (Int × tL × Int × (List tM) × List (tV × Int)) × Int × Int)) : Option (Option (Int × tL × Int × (List tM) × List (tV × Int)) × Int × Int) :=
  (bif (decide ((a0.size : Int) > (3000 : Int))) then some ((some ((0 : Int), ((0 : Int), (0 : Int), (0 : Int)), (0 : Int), [], [])), ((0 : Int), (3 : Int))) else (f8G K a0 (10 : Int)).bind fun y1 => (bif (decide (0 ≤ (w ((y1.length : Int) - (1 : Int)))) && decide ((w ((y1.length : Int) - (1 : Int))) < (y1.length : Int))) then (bif ((y1.getD ((0 : Int) + (w ((y1.length : Int) - (1 : Int)))).toNat ByteArray.empty) != ByteArray.empty) then some ((some ((0 : Int), ((0 : Int), (0 : Int), (0 : Int)), (0 : Int), [], [])), ((0 : Int), (6 : Int))) else I4 y1 (0 : Int) (0 : Int) (0 : Int) (0 : Int) (0 : Int) (0 : Int) [] []) else none))
def f6G (a0 : ByteArray) : Option (Option (Int × tL × Int × (List tM) × List (tV × Int)) × Int × Int) :=
  f6_g K a0 (fun c0 d0 d1 d2 d3 d4 d5 d6 d7 => f6_l4 K a0 c0 K d0 d1 d2 d3 d4 d5 d6 d7)
def f6M : CMdl := ⟨(.cons sI (.cons sL (.cons sI (.cons (.list 63 sM) (.list 73 (.cons sV sI)))))), [(.ro, .str)], [sI, sI], fun x => f6G K x.1⟩
def f6_k4 (a0 : ByteArray) (lr : LR (Option (Int × tL × Int × (List tM) × List (tV × Int)) × Int × Int)) : Ex → Fr → Option (Option (Int × tL × Int × (List tM) × List (tV × Int)) × Int × Int) :=
  contC (f6E K) 0 lr f6C [1, 1, 1, 1, 1, 0, 1, 0] (finO (f6E K) Tryz.f6 (.cons sI (.cons sL (.cons sI (.cons (.list 63 sM) (.list 73 (.cons sV sI)))))) [sI, sI])
def f6_j4 (a0 : ByteArray) (lr : LR (Option (Int × tL × Int × (List tM) × List (tV × Int)) × Int × Int)) (y1 : List ByteArray) (bq5 bq6 bq7 bq8 bq9 bq10 : Int) (bq11 : List tM) (bq12 : List (tV × Int)) : Option (Option (Int × tL × Int × (List tM) × List (tV × Int)) × Int × Int) :=
  lr (selC f6C [1, 1, 1, 1, 1, 0, 1, 0, 0]) (f6_fr4 a0 y1 bq5 bq6 bq7 bq8 bq9 bq10 bq11 bq12) (f6_k4 K a0 lr)
def f4E : Env := ⟨[], tys, eqs, mts, K, [0, 2, 3, 4, 6, 14], [], [], [], [], [], [(6, f6M K)], false⟩
def f4G (a0 : ByteArray) : Option tV :=
  (f6G K a0).bind fun y1 => optK y1.1 ((bif (y1.2.2 != (0 : Int)) then some ((0 : Int), y1.2.2) else none)) (fun z2 => (bif (y1.2.2 != (0 : Int)) then some ((0 : Int), y1.2.2) else some (z2.2.2.1, (0 : Int))))
def f4M : Mdl := ⟨[(.ro, .str)], [sI, sI], fun x => f4G K x.1⟩
def f63E : Env := eE K [] [0, 1, 4]
def f63G (K : Nat) (a0 a1 : ByteArray) : Option Bool :=
  (bif ((decide (0 ≤ (w ((a0.size : Int) - (a1.size : Int)))) && decide ((w ((a0.size : Int) - (a1.size : Int))) ≤ (a0.size : Int)) && decide ((a0.size : Int) ≤ (a0.size : Int))) || (!(decide ((a0.size : Int) ≥ (a1.size : Int))))) then some (bif (decide ((a0.size : Int) ≥ (a1.size : Int))) then ((a0.extract (w ((a0.size : Int) - (a1.size : Int))).toNat (a0.size : Int).toNat) == a1) else false) else none)
def f63M : Mdl := ⟨[(.ro, .str), (.ro, .str)], [.bool], fun x => f63G K x.1 x.2.1⟩
def f30E : Env := eE K [(63, f63M K)] [0, 1, 4, 5, 9]
def f30G (a0 a1 : ByteArray) : Option (ByteArray × Bool) :=
  (f63G K a0 a1).bind fun y1 => (bif (!y1) then some (a0, false) else (bif (decide (0 ≤ (0 : Int)) && decide ((0 : Int) ≤ (w ((a0.size : Int) - (a1.size : Int)))) && decide ((w ((a0.size : Int) - (a1.size : Int))) ≤ (a0.size : Int))) then some ((a0.extract 0 (w ((a0.size : Int) - (a1.size : Int))).toNat), true) else none))
def f30M : Mdl := ⟨[(.ro, .str), (.ro, .str)], [.str, .bool], fun x => f30G K x.1 x.2.1⟩
def f13E : Env := eE K [(30, f30M K)] [0, 1, 4, 5]
def f13G (a0 a1 : ByteArray) : Option (ByteArray × Bool) :=
  (f30G K a0 a1).bind fun y1 => some y1
def f13M : Mdl := ⟨[(.ro, .str), (.ro, .str)], [.str, .bool], fun x => f13G K x.1 x.2.1⟩
omit K
def f14G (K : Nat) (a0 a1 : ByteArray) : Option (List ByteArray) := splitF a0 a1
def f14M (K : Nat) : Mdl := ⟨[(.ro, .str), (.ro, .str)], [(.list 9 .str)], fun x => f14G K x.1 x.2.1⟩
include K
omit K
def f179G (K : Nat) (a0 a1 : Int) : Option ByteArray := fmtF a0 a1
def f179M (K : Nat) : Mdl := ⟨[(.ro, sI), (.ro, sI)], [.str], fun x => f179G K x.1 x.2.1⟩
include K
def f143E : Env := eE K [(179, f179M K)] [0, 2]
def f143G (a0 : Int) : Option ByteArray :=
  (f179G K a0 (10 : Int)).bind fun y1 => some y1
def f143M : Mdl := ⟨[(.ro, sI)], [.str], fun x => f143G K x.1⟩
omit K
def f109G (K : Nat) (a0 : ByteArray) : Option (Int × Bool) := numF a0
def f109M (K : Nat) : Mdl := ⟨[(.ro, .str)], [.int .i64, .bool], fun x => f109G K x.1⟩
include K
def f68E : Env := eE K [(14, f14M K), (109, f109M K)] [0, 1, 2, 6, 7, 8, 9, 11, 12, 13, 20, 22, 23, 24, 25, 34]
def f68_b4 (a0 a1 : ByteArray) (a2 : Int) (y1 : List ByteArray) (L4 : Int → (List Int) → Option ((List Int) × Bool)) (q5 : Int) (q6 : List Int) : Option ((List Int) × Bool) :=
  (bif (decide (q5 < (y1.length : Int))) then (bif (decide (0 ≤ q5) && decide (q5 < (y1.length : Int))) then (f109G K (y1.getD ((0 : Int) + q5).toNat ByteArray.empty)).bind fun y7 => (bif (!y7.2) then some ([], false) else (bif (Nat.ble (q6.length + [y7.1].length) (lim 8)) then L4 (w (q5 + (1 : Int))) (q6 ++ [y7.1]) else none)) else none) else some (q6, true))
def f68_l4 (a0 a1 : ByteArray) (a2 : Int) (y1 : List ByteArray) (n : Nat) (q5 : Int) (q6 : List Int) : Option ((List Int) × Bool) :=
  iter (X := Int × List Int) (fun L x => f68_b4 K a0 a1 a2 y1 (fun v0 v1 => L (v0, v1)) x.1 x.2) n (q5, q6)
def f68_g (a0 a1 : ByteArray) (a2 : Int) (I4 : (List ByteArray) → Int → (List Int) → Option ((List Int) × Bool)) : Option ((List Int) × Bool) :=
  (f14G K a0 a1).bind fun y1 => (bif ((y1.length : Int) != a2) then some ([], false) else I4 y1 (0 : Int) [])
def f68G (a0 a1 : ByteArray) (a2 : Int) : Option ((List Int) × Bool) :=
  f68_g K a0 a1 a2 (fun c0 d0 d1 => f68_l4 K a0 a1 a2 c0 K d0 d1)
def f68M : Mdl := ⟨[(.ro, .str), (.ro, .str), (.ro, sI)], [(.list 2 sI), .bool], fun x => f68G K x.1 x.2.1 x.2.2.1⟩
def f68_k4 (a0 a1 : ByteArray) (a2 : Int) (lr : LR ((List Int) × Bool)) : Ex → Fr → Option ((List Int) × Bool) :=
  contC (f68E K) 0 lr f68C [1, 1, 1, 1, 0, 1, 0] (fM (f68E K) Tryz.f68 (f68M K) (a0, a1, a2, ()))
def f68_j4 (a0 a1 : ByteArray) (a2 : Int) (lr : LR ((List Int) × Bool)) (y1 : List ByteArray) (bq5 : Int) (bq6 : List Int) : Option ((List Int) × Bool) :=
  lr (selC f68C [1, 1, 1, 1, 0, 1, 0, 0]) (f68_fr4 a0 a1 a2 y1 bq5 bq6) (f68_k4 K a0 a1 a2 lr)
def f75E : Env := eE K [] [0, 1, 2, 6]
def f75G (K : Nat) (a0 a1 a2 : Int) : Option Bool :=
  some (bif (decide (a0 ≥ a1)) then (decide (a0 ≤ a2)) else false)
def f75M : Mdl := ⟨[(.ro, sI), (.ro, sI), (.ro, sI)], [.bool], fun x => f75G K x.1 x.2.1 x.2.2.1⟩
def f147E : Env := eE K [(75, f75M K)] [0, 2]
def f147G (a0 : Int) : Option Bool :=
  (f75G K a0 (-1000 : Int) (1000 : Int)).bind fun y1 => some y1
def f147M : Mdl := ⟨[(.ro, sI)], [.bool], fun x => f147G K x.1⟩
def f113E : Env := eE K [(147, f147M K)] [0, 1, 2]
def f113G (a0 : Int × Int) : Option Bool :=
  (f147G K a0.1).bind fun y1 => ((bif y1 then f147G K a0.2 else some false)).bind fun y2 => some (bif y1 then y2 else false)
def f113M : Mdl := ⟨[(.ro, sV)], [.bool], fun x => f113G K x.1⟩
def f103E : Env := eE K [(68, f68M K), (113, f113M K)] [0, 2, 3, 4, 5, 23]
def f103G (a0 : ByteArray) : Option (tV × Bool) :=
  (f68G K a0 (bs [44]) (2 : Int)).bind fun y1 => (bif ((decide (0 ≤ (0 : Int)) && decide ((0 : Int) < (y1.1.length : Int))) || (!(!(!y1.2)))) then (bif ((decide (0 ≤ (1 : Int)) && decide ((1 : Int) < (y1.1.length : Int))) || (!(!(!y1.2)))) then ((bif (!(!y1.2)) then f113G K ((y1.1.getD ((0 : Int) + (0 : Int)).toNat (0 : Int)), (y1.1.getD ((0 : Int) + (1 : Int)).toNat (0 : Int))) else some false)).bind fun y2 => (bif (bif (!y1.2) then true else (!y2)) then some (((0 : Int), (0 : Int)), false) else (bif (decide (0 ≤ (0 : Int)) && decide ((0 : Int) < (y1.1.length : Int))) then (bif (decide (0 ≤ (1 : Int)) && decide ((1 : Int) < (y1.1.length : Int))) then some (((y1.1.getD ((0 : Int) + (0 : Int)).toNat (0 : Int)), (y1.1.getD ((0 : Int) + (1 : Int)).toNat (0 : Int))), true) else none) else none)) else none) else none)
def f103M : Mdl := ⟨[(.ro, .str)], [sV, .bool], fun x => f103G K x.1⟩
def f104E : Env := eE K [] [0, 2, 3, 4, 5, 8, 9, 10, 21]
def f104_b2 (K : Nat) (a0 : ByteArray) (L2 : Int → (List Int) → Option ((List Int) × Bool)) (q3 : Int) (q4 : List Int) : Option ((List Int) × Bool) :=
  (bif (decide (q3 < (a0.size : Int))) then (bif (decide (0 ≤ q3) && decide (q3 < (a0.size : Int))) then (bif ((decide (0 ≤ q3) && decide (q3 < (a0.size : Int))) || (!(!(decide (((a0.data.getD q3.toNat 0).toNat : Int) < (48 : Int)))))) then (bif (bif (decide (((a0.data.getD q3.toNat 0).toNat : Int) < (48 : Int))) then true else (decide (((a0.data.getD q3.toNat 0).toNat : Int) > (57 : Int)))) then some ([], false) else (bif (decide (0 ≤ q3) && decide (q3 < (a0.size : Int))) then (bif (Nat.ble (q4.length + [(w (IntKind.u8.wrap (((a0.data.getD q3.toNat 0).toNat : Int) - (48 : Int))))].length) (lim 8)) then L2 (w (q3 + (1 : Int))) (q4 ++ [(w (IntKind.u8.wrap (((a0.data.getD q3.toNat 0).toNat : Int) - (48 : Int))))]) else none) else none)) else none) else none) else some (q4, true))
def f104_l2 (a0 : ByteArray) (n : Nat) (q3 : Int) (q4 : List Int) : Option ((List Int) × Bool) :=
  iter (X := Int × List Int) (fun L x => f104_b2 K a0 (fun v0 v1 => L (v0, v1)) x.1 x.2) n (q3, q4)
def f104_g (K : Nat) (a0 : ByteArray) (I2 : Int → (List Int) → Option ((List Int) × Bool)) : Option ((List Int) × Bool) :=
  I2 (0 : Int) []
def f104G (a0 : ByteArray) : Option ((List Int) × Bool) :=
  f104_g K a0 (fun d0 d1 => f104_l2 K a0 K d0 d1)
def f104M : Mdl := ⟨[(.ro, .str)], [(.list 2 sI), .bool], fun x => f104G K x.1⟩
def f104_k2 (a0 : ByteArray) (lr : LR ((List Int) × Bool)) : Ex → Fr → Option ((List Int) × Bool) :=
  contC (f104E K) 0 lr f104C [1, 1, 0, 1, 0] (fM (f104E K) Tryz.f104 (f104M K) (a0, ()))
def f104_j2 (a0 : ByteArray) (lr : LR ((List Int) × Bool)) (bq3 : Int) (bq4 : List Int) : Option ((List Int) × Bool) :=
  lr (selC f104C [1, 1, 0, 1, 0, 0]) (f104_fr2 a0 bq3 bq4) (f104_k2 K a0 lr)
def f66E : Env := eE K [(103, f103M K), (104, f104M K)] [0, 1, 4, 5, 6, 7, 8, 9, 30]
def f66G (a0 a1 : ByteArray) : Option ((tV × Int) × Bool) :=
  (f103G K a0).bind fun y1 => (f104G K a1).bind fun y2 => (bif (bif (bif (!y1.2) then true else (!y2.2)) then true else ((y2.1.length : Int) != (1 : Int))) then some ((((0 : Int), (0 : Int)), (0 : Int)), false) else (bif (decide (0 ≤ (0 : Int)) && decide ((0 : Int) < (y2.1.length : Int))) then some ((y1.1, (y2.1.getD ((0 : Int) + (0 : Int)).toNat (0 : Int))), true) else none))
def f66M : Mdl := ⟨[(.ro, .str), (.ro, .str)], [(.cons sV sI), .bool], fun x => f66G K x.1 x.2.1⟩
def f32E : Env := eE K [(66, f66M K)] [0, 1, 2, 3, 8, 9, 10, 17, 20, 23]
def f32G (a0 : Int × Int × tL × (List tM) × List (tV × Int)) (a1 a2 : ByteArray) (a3 : Int) : Option ((Int × Int × tL × (List tM) × List (tV × Int)) × Int) :=
  (f66G K a1 a2).bind fun y1 => (bif (!y1.2) then some (a0, (6 : Int)) else (bif (decide (a3 < (2 : Int))) then some (a0, (5 : Int)) else (bif ((a0.2.2.2.2.length : Int) == (40 : Int)) then some (a0, (3 : Int)) else (bif (Nat.ble (a0.2.2.2.2.length + [y1.1].length) (lim 24)) then some ((a0.1, a0.2.1, a0.2.2.1, a0.2.2.2.1, (a0.2.2.2.2 ++ [y1.1])), (0 : Int)) else none))))
def f32M : QMdl := ⟨(.cons sI (.cons sI (.cons sL (.cons (.list 63 sM) (.list 73 (.cons sV sI)))))), [(.ro, .str), (.ro, .str), (.ro, sI)], [sI], fun x => f32G K x.1 x.2.1 x.2.2.1 x.2.2.2.1⟩
omit K
def f33G (K : Nat) (a0 a1 : ByteArray) : Option (Int) := idxF a0 a1
def f33M (K : Nat) : Mdl := ⟨[(.ro, .str), (.ro, .str)], [sI], fun x => f33G K x.1 x.2.1⟩
include K
def f34E : Env := eE K [] [0, 2, 3]
def f34G (K : Nat) (a0 : Bool) : Option Int :=
  (bif a0 then some (0 : Int) else some (5 : Int))
def f34M : Mdl := ⟨[(.ro, .bool)], [sI], fun x => f34G K x.1⟩
def f78E : Env := eE K [] [0, 1, 2]
def f78G (K : Nat) (a0 : Int × Int × Int) : Option Int :=
  some (w (a0.1 * a0.2.2))
def f78M : Mdl := ⟨[(.ro, sL)], [sI], fun x => f78G K x.1⟩
def f69E : Env := eE K [(75, f75M K), (78, f78M K)] [0, 1, 2]
def f69G (a0 : Int × Int × Int) : Option Bool :=
  (f75G K a0.1 (1 : Int) (64 : Int)).bind fun y1 => ((bif y1 then f75G K a0.2.2 (1 : Int) (64 : Int) else some false)).bind fun y2 => ((bif (bif y1 then y2 else false) then f75G K a0.2.1 (0 : Int) (w (a0.1 - (1 : Int))) else some false)).bind fun y3 => ((bif (bif (bif y1 then y2 else false) then y3 else false) then f78G K a0 else some (0 : Int))).bind fun y4 => some (bif (bif (bif y1 then y2 else false) then y3 else false) then (decide (y4 ≤ (64 : Int))) else false)
def f69M : Mdl := ⟨[(.ro, sL)], [.bool], fun x => f69G K x.1⟩
def f35E : Env := eE K [(68, f68M K), (69, f69M K)] [0, 2, 3, 4, 5, 26]
def f35G (a0 : ByteArray) : Option (tL × Bool) :=
  (f68G K a0 (bs [44]) (3 : Int)).bind fun y1 => (bif ((decide (0 ≤ (0 : Int)) && decide ((0 : Int) < (y1.1.length : Int))) || (!(!(!y1.2)))) then (bif ((decide (0 ≤ (1 : Int)) && decide ((1 : Int) < (y1.1.length : Int))) || (!(!(!y1.2)))) then (bif ((decide (0 ≤ (2 : Int)) && decide ((2 : Int) < (y1.1.length : Int))) || (!(!(!y1.2)))) then ((bif (!(!y1.2)) then f69G K ((y1.1.getD ((0 : Int) + (0 : Int)).toNat (0 : Int)), (y1.1.getD ((0 : Int) + (1 : Int)).toNat (0 : Int)), (y1.1.getD ((0 : Int) + (2 : Int)).toNat (0 : Int))) else some false)).bind fun y2 => (bif (bif (!y1.2) then true else (!y2)) then some (((0 : Int), (0 : Int), (0 : Int)), false) else (bif (decide (0 ≤ (0 : Int)) && decide ((0 : Int) < (y1.1.length : Int))) then (bif (decide (0 ≤ (1 : Int)) && decide ((1 : Int) < (y1.1.length : Int))) then (bif (decide (0 ≤ (2 : Int)) && decide ((2 : Int) < (y1.1.length : Int))) then some (((y1.1.getD ((0 : Int) + (0 : Int)).toNat (0 : Int)), (y1.1.getD ((0 : Int) + (1 : Int)).toNat (0 : Int)), (y1.1.getD ((0 : Int) + (2 : Int)).toNat (0 : Int))), true) else none) else none) else none)) else none) else none) else none)
def f35M : Mdl := ⟨[(.ro, .str)], [sL, .bool], fun x => f35G K x.1⟩
omit K
def f110G (K : Nat) (a0 a1 : ByteArray) : Option (ByteArray × ByteArray × Bool) := cutF a0 a1
def f110M (K : Nat) : Mdl := ⟨[(.ro, .str), (.ro, .str)], [.str, .str, .bool], fun x => f110G K x.1 x.2.1⟩
include K
def f180E : Env := eE K [(147, f147M K)] [0, 1, 2]
def f180G (a0 : Int × Int × Int × Int) : Option Bool :=
  (f147G K a0.1).bind fun y1 => ((bif y1 then f147G K a0.2.1 else some false)).bind fun y2 => ((bif (bif y1 then y2 else false) then f147G K a0.2.2.1 else some false)).bind fun y3 => ((bif (bif (bif y1 then y2 else false) then y3 else false) then f147G K a0.2.2.2 else some false)).bind fun y4 => some (bif (bif (bif y1 then y2 else false) then y3 else false) then y4 else false)
def f180M : Mdl := ⟨[(.ro, sA)], [.bool], fun x => f180G K x.1⟩
def f181E : Env := eE K [] [0, 1, 2]
def f181G (K : Nat) (a0 : Int × Int × Int × Int) : Option Int :=
  some (w ((w (a0.1 * a0.2.2.2)) - (w (a0.2.1 * a0.2.2.1))))
def f181M : Mdl := ⟨[(.ro, sA)], [sI], fun x => f181G K x.1⟩
def f145E : Env := eE K [(180, f180M K), (181, f181M K)] [0, 1, 2]
def f145G (a0 : Int × Int × Int × Int) : Option Bool :=
  (f180G K a0).bind fun y1 => ((bif y1 then f181G K a0 else some (0 : Int))).bind fun y2 => ((bif (y1 && (!(y2 == (1 : Int)))) then f181G K a0 else some (0 : Int))).bind fun y3 => some (bif y1 then (bif (y2 == (1 : Int)) then true else (y3 == (-1 : Int))) else false)
def f145M : Mdl := ⟨[(.ro, sA)], [.bool], fun x => f145G K x.1⟩
def f111E : Env := eE K [(68, f68M K), (145, f145M K)] [0, 2, 3, 4, 5, 29]
def f111G (a0 : ByteArray) : Option (tA × Bool) :=
  (f68G K a0 (bs [44]) (4 : Int)).bind fun y1 => (bif ((decide (0 ≤ (0 : Int)) && decide ((0 : Int) < (y1.1.length : Int))) || (!(!(!y1.2)))) then (bif ((decide (0 ≤ (1 : Int)) && decide ((1 : Int) < (y1.1.length : Int))) || (!(!(!y1.2)))) then (bif ((decide (0 ≤ (2 : Int)) && decide ((2 : Int) < (y1.1.length : Int))) || (!(!(!y1.2)))) then (bif ((decide (0 ≤ (3 : Int)) && decide ((3 : Int) < (y1.1.length : Int))) || (!(!(!y1.2)))) then ((bif (!(!y1.2)) then f145G K ((y1.1.getD ((0 : Int) + (0 : Int)).toNat (0 : Int)), (y1.1.getD ((0 : Int) + (1 : Int)).toNat (0 : Int)), (y1.1.getD ((0 : Int) + (2 : Int)).toNat (0 : Int)), (y1.1.getD ((0 : Int) + (3 : Int)).toNat (0 : Int))) else some false)).bind fun y2 => (bif (bif (!y1.2) then true else (!y2)) then some (((0 : Int), (0 : Int), (0 : Int), (0 : Int)), false) else (bif (decide (0 ≤ (0 : Int)) && decide ((0 : Int) < (y1.1.length : Int))) then (bif (decide (0 ≤ (1 : Int)) && decide ((1 : Int) < (y1.1.length : Int))) then (bif (decide (0 ≤ (2 : Int)) && decide ((2 : Int) < (y1.1.length : Int))) then (bif (decide (0 ≤ (3 : Int)) && decide ((3 : Int) < (y1.1.length : Int))) then some (((y1.1.getD ((0 : Int) + (0 : Int)).toNat (0 : Int)), (y1.1.getD ((0 : Int) + (1 : Int)).toNat (0 : Int)), (y1.1.getD ((0 : Int) + (2 : Int)).toNat (0 : Int)), (y1.1.getD ((0 : Int) + (3 : Int)).toNat (0 : Int))), true) else none) else none) else none) else none)) else none) else none) else none) else none)
def f111M : Mdl := ⟨[(.ro, .str)], [sA, .bool], fun x => f111G K x.1⟩
def f84E : Env := eE K [] [0]
def f84G (K : Nat) : Option tA :=
  some ((1 : Int), (0 : Int), (0 : Int), (1 : Int))
def f84M : Mdl := ⟨[], [sA], fun x => f84G K ⟩
def f202E : Env := eE K [(84, f84M K), (181, f181M K)] [0, 1, 2, 3, 9, 13, 24, 32, 40]
def f202G (a0 : Int × Int × Int × Int) : Option Int :=
  (f84G K).bind fun y1 => (bif ((a0.1 == y1.1) && ((a0.2.1 == y1.2.1) && ((a0.2.2.1 == y1.2.2.1) && (a0.2.2.2 == y1.2.2.2)))) then some (1 : Int) else (f181G K a0).bind fun y2 => (bif (bif (y2 == (-1 : Int)) then ((w (a0.1 + a0.2.2.2)) == (0 : Int)) else false) then (bif (bif (y2 == (-1 : Int)) then ((w (a0.1 + a0.2.2.2)) == (0 : Int)) else false) then some (2 : Int) else (f181G K a0).bind fun y3 => (bif (bif (y3 == (1 : Int)) then ((w (a0.1 + a0.2.2.2)) == (-1 : Int)) else false) then some (3 : Int) else (f181G K a0).bind fun y4 => (bif (bif (y4 == (1 : Int)) then ((w (a0.1 + a0.2.2.2)) == (0 : Int)) else false) then some (4 : Int) else (f181G K a0).bind fun y5 => (bif (bif (y5 == (1 : Int)) then ((w (a0.1 + a0.2.2.2)) == (1 : Int)) else false) then some (6 : Int) else some (0 : Int))))) else (bif ((a0.1 == (-1 : Int)) && ((a0.2.1 == (0 : Int)) && ((a0.2.2.1 == (0 : Int)) && (a0.2.2.2 == (-1 : Int))))) then some (2 : Int) else (f181G K a0).bind fun y6 => (bif (bif (y6 == (1 : Int)) then ((w (a0.1 + a0.2.2.2)) == (-1 : Int)) else false) then some (3 : Int) else (f181G K a0).bind fun y7 => (bif (bif (y7 == (1 : Int)) then ((w (a0.1 + a0.2.2.2)) == (0 : Int)) else false) then some (4 : Int) else (f181G K a0).bind fun y8 => (bif (bif (y8 == (1 : Int)) then ((w (a0.1 + a0.2.2.2)) == (1 : Int)) else false) then some (6 : Int) else some (0 : Int)))))))
def f202M : Mdl := ⟨[(.ro, sA)], [sI], fun x => f202G K x.1⟩
def f182E : Env := eE K [(181, f181M K), (202, f202M K)] [0, 1, 2]
def f182G (a0 : Int × Int × Int × Int) : Option Bool :=
  (f181G K a0).bind fun y1 => ((bif (y1 == (1 : Int)) then f202G K a0 else some (0 : Int))).bind fun y2 => some (bif (y1 == (1 : Int)) then (decide (y2 > (0 : Int))) else false)
def f182M : Mdl := ⟨[(.ro, sA)], [.bool], fun x => f182G K x.1⟩
def f183E : Env := eE K [(181, f181M K), (202, f202M K)] [0, 1, 2]
def f183G (a0 : Int × Int × Int × Int) : Option Bool :=
  (f181G K a0).bind fun y1 => ((bif (y1 == (-1 : Int)) then f202G K a0 else some (0 : Int))).bind fun y2 => some (bif (y1 == (-1 : Int)) then (y2 == (2 : Int)) else false)
def f183M : Mdl := ⟨[(.ro, sA)], [.bool], fun x => f183G K x.1⟩
def f146E : Env := eE K [(182, f182M K), (183, f183M K)] [0, 1, 2]
def f146G (a0 : Int × Int × Int × Int) : Option Bool :=
  (f182G K a0).bind fun y1 => ((bif (!y1) then f183G K a0 else some false)).bind fun y2 => some (bif y1 then true else y2)
def f146M : Mdl := ⟨[(.ro, sA)], [.bool], fun x => f146G K x.1⟩
def f112E : Env := eE K [(113, f113M K), (145, f145M K), (146, f146M K)] [0, 1, 2]
def f112G (a0 : tA × Int × Int) : Option Bool :=
  (f145G K a0.1).bind fun y1 => ((bif y1 then f146G K a0.1 else some false)).bind fun y2 => ((bif (bif y1 then y2 else false) then f113G K a0.2 else some false)).bind fun y3 => some (bif (bif y1 then y2 else false) then y3 else false)
def f112M : Mdl := ⟨[(.ro, sM)], [.bool], fun x => f112G K x.1⟩
def f70E : Env := eE K [(103, f103M K), (110, f110M K), (111, f111M K), (112, f112M K)] [0, 2, 3, 4, 5, 7, 8, 9, 10, 39]
def f70G (a0 : ByteArray) : Option (tM × Bool) :=
  (f110G K a0 (bs [59])).bind fun y1 => (f111G K y1.1).bind fun y2 => (f103G K y1.2.1).bind fun y3 => ((bif (!(bif (!y2.2) then true else (!y3.2))) then f112G K (y2.1, y3.1) else some false)).bind fun y4 => (bif (bif (bif (!y2.2) then true else (!y3.2)) then true else (!y4)) then some ((((0 : Int), (0 : Int), (0 : Int), (0 : Int)), (0 : Int), (0 : Int)), false) else some ((y2.1, y3.1), true))
def f70M : Mdl := ⟨[(.ro, .str)], [sM, .bool], fun x => f70G K x.1⟩
def f149E : Env := eE K [] [0, 1, 2, 3]
def f149G (K : Nat) (a0 : Int × Int × Int) : Option (tV × Int × Int) :=
  some ((a0.1, (0 : Int)), a0.2)
def f149M : Mdl := ⟨[(.ro, sL)], [sV, sV], fun x => f149G K x.1⟩
def f126E : Env := eE K [] [0, 1, 2, 3, 4]
def f126G (K : Nat) (a0 : Int × Int × Int × Int) (a1 : Int × Int) : Option tV :=
  some ((w ((w (a0.1 * a1.1)) + (w (a0.2.1 * a1.2)))), (w ((w (a0.2.2.1 * a1.1)) + (w (a0.2.2.2 * a1.2)))))
def f126M : Mdl := ⟨[(.ro, sA), (.ro, sV)], [sV], fun x => f126G K x.1 x.2.1⟩
def f185E : Env := eE K [] [0, 1, 3, 4]
def f185G (K : Nat) (a0 : Int) (a1 : Int × Int) : Option Int :=
  some (w ((w ((w (a1.1 * a1.1)) + (w ((w (a0 * a1.1)) * a1.2)))) + (w (a1.2 * a1.2))))
def f185M : Mdl := ⟨[(.ro, sI), (.ro, sV)], [sI], fun x => f185G K x.1 x.2.1⟩
def f151E : Env := eE K [(126, f126M K), (185, f185M K)] [0, 2, 3, 4, 5, 6, 7, 8, 10, 11, 54]
def f151_b8 (a0 : Int) (L8 : Int → (List tA) → Option (List tA)) (q9 : Int) (q10 : List tA) : Option (List tA) :=
  (bif (decide (q9 < (81 : Int))) then (f126G K ((w ((w (q9.tdiv (27 : Int))) - (1 : Int))), (w (((w (q9.tdiv (9 : Int))).tmod (3 : Int)) - (1 : Int))), (w (((w (q9.tdiv (3 : Int))).tmod (3 : Int)) - (1 : Int))), (w ((q9.tmod (3 : Int)) - (1 : Int)))) ((1 : Int), (0 : Int))).bind fun y11 => (f126G K ((w ((w (q9.tdiv (27 : Int))) - (1 : Int))), (w (((w (q9.tdiv (9 : Int))).tmod (3 : Int)) - (1 : Int))), (w (((w (q9.tdiv (3 : Int))).tmod (3 : Int)) - (1 : Int))), (w ((q9.tmod (3 : Int)) - (1 : Int)))) ((0 : Int), (1 : Int))).bind fun y12 => (f126G K ((w ((w (q9.tdiv (27 : Int))) - (1 : Int))), (w (((w (q9.tdiv (9 : Int))).tmod (3 : Int)) - (1 : Int))), (w (((w (q9.tdiv (3 : Int))).tmod (3 : Int)) - (1 : Int))), (w ((q9.tmod (3 : Int)) - (1 : Int)))) ((1 : Int), (1 : Int))).bind fun y13 => (f185G K a0 y11).bind fun y14 => ((bif (y14 == (1 : Int)) then f185G K a0 y12 else some (0 : Int))).bind fun y15 => ((bif (bif (y14 == (1 : Int)) then (y15 == (1 : Int)) else false) then f185G K a0 y13 else some (0 : Int))).bind fun y16 => (bif (bif (bif (y14 == (1 : Int)) then (y15 == (1 : Int)) else false) then (y16 == (w ((2 : Int) + a0))) else false) then (bif (Nat.ble (q10.length + [((w ((w (q9.tdiv (27 : Int))) - (1 : Int))), (w (((w (q9.tdiv (9 : Int))).tmod (3 : Int)) - (1 : Int))), (w (((w (q9.tdiv (3 : Int))).tmod (3 : Int)) - (1 : Int))), (w ((q9.tmod (3 : Int)) - (1 : Int))))].length) (lim 32)) then L8 (w (q9 + (1 : Int))) (q10 ++ [((w ((w (q9.tdiv (27 : Int))) - (1 : Int))), (w (((w (q9.tdiv (9 : Int))).tmod (3 : Int)) - (1 : Int))), (w (((w (q9.tdiv (3 : Int))).tmod (3 : Int)) - (1 : Int))), (w ((q9.tmod (3 : Int)) - (1 : Int))))]) else none) else L8 (w (q9 + (1 : Int))) q10) else some q10)
def f151_l8 (a0 : Int) (n : Nat) (q9 : Int) (q10 : List tA) : Option (List tA) :=
  iter (X := Int × List tA) (fun L x => f151_b8 K a0 (fun v0 v1 => L (v0, v1)) x.1 x.2) n (q9, q10)
def f151_g (K : Nat) (a0 : Int) (I8 : Int → (List tA) → Option (List tA)) : Option (List tA) :=
  I8 (0 : Int) []
def f151G (a0 : Int) : Option (List tA) :=
  f151_g K a0 (fun d0 d1 => f151_l8 K a0 K d0 d1)
def f151M : Mdl := ⟨[(.ro, sI)], [(.list 59 sA)], fun x => f151G K x.1⟩
def f151_k8 (a0 : Int) (lr : LR (List tA)) : Ex → Fr → Option (List tA) :=
  contC (f151E K) 0 lr f151C [1, 1, 0, 1, 0] (fM (f151E K) Tryz.f151 (f151M K) (a0, ()))
def f151_j8 (a0 : Int) (lr : LR (List tA)) (bq9 : Int) (bq10 : List tA) : Option (List tA) :=
  lr (selC f151C [1, 1, 0, 1, 0, 0]) (f151_fr8 a0 bq9 bq10) (f151_k8 K a0 lr)
def f83E : Env := eE K [] [0, 1, 4]
def f83G (K : Nat) (a0 a1 : Int) : Option Int :=
  (bif (a1 != 0) then (bif (a1 != 0) then some ((w ((a0.tmod a1) + a1)).tmod a1) else none) else none)
def f83M : Mdl := ⟨[(.ro, sI), (.ro, sI)], [sI], fun x => f83G K x.1 x.2.1⟩
def f43E : Env := eE K [(83, f83M K)] [0, 1, 2, 3, 4, 5]
def f43G (a0 : Int × Int × Int) (a1 : Int × Int) : Option tV :=
  (f83G K a1.2 a0.2.2).bind fun y1 => (bif (a0.2.2 != 0) then (f83G K (w (a1.1 - (w ((w ((w (a1.2 - y1)).tdiv a0.2.2)) * a0.2.1)))) a0.1).bind fun y2 => some (y2, y1) else none)
def f43M : Mdl := ⟨[(.ro, sL), (.ro, sV)], [sV], fun x => f43G K x.1 x.2.1⟩
def f153E : Env := eE K [(43, f43M K)] [0, 1, 2, 3, 4]
def f153G (a0 : Int × Int × Int) (a1 : Int × Int) : Option Bool :=
  (f43G K a0 a1).bind fun y1 => some ((y1.1 == (0 : Int)) && (y1.2 == (0 : Int)))
def f153M : Mdl := ⟨[(.ro, sL), (.ro, sV)], [.bool], fun x => f153G K x.1 x.2.1⟩
def f152E : Env := eE K [(126, f126M K), (153, f153M K)] [0, 1, 2, 3, 4, 5]
def f152G (a0 : Int × Int × Int × Int) (a1 : Int × Int × Int) (a2 a3 : Int × Int) : Option Bool :=
  (f126G K a0 a2).bind fun y1 => (f153G K a1 y1).bind fun y2 => ((bif (!(!y2)) then f126G K a0 a3 else some ((0 : Int), (0 : Int)))).bind fun y3 => ((bif (!(!y2)) then f153G K a1 y3 else some false)).bind fun y4 => some (bif (!y2) then true else (!y4))
def f152M : Mdl := ⟨[(.ro, sA), (.cap, sL), (.cap, sV), (.cap, sV)], [.bool], fun x => f152G K x.1 x.2.1 x.2.2.1 x.2.2.2.1⟩
def f184E : Env := eE K [] [0, 1, 4, 5, 7, 8, 9, 16]
def f184_b3 (K : Nat) (a0 : List tA) (a1 : (tA → Option Bool)) (L3 : Int → Option Int) (q4 : Int) : Option Int :=
  (bif (decide (q4 < (a0.length : Int))) then (bif (decide (0 ≤ q4) && decide (q4 < (a0.length : Int))) then (a1 ((a0.getD ((0 : Int) + q4).toNat zA).1, ((a0.getD ((0 : Int) + q4).toNat zA).2).1, (((a0.getD ((0 : Int) + q4).toNat zA).2).2))).bind fun y5 => (bif y5 then some q4 else L3 (w (q4 + (1 : Int)))) else none) else some (-1 : Int))
def f184_l3 (a0 : List tA) (a1 : (tA → Option Bool)) (n : Nat) (q4 : Int) : Option Int :=
  iter (X := Int) (fun L x => f184_b3 K a0 a1 (fun v0 => L v0) x) n q4
def f184_g (K : Nat) (a0 : List tA) (a1 : (tA → Option Bool)) (I3 : Int → Option Int) : Option Int :=
  I3 (0 : Int)
def f184G (a0 : List tA) (a1 : (tA → Option Bool)) : Option Int :=
  f184_g K a0 a1 (fun d0 => f184_l3 K a0 a1 K d0)
def f184M : Mdl := ⟨[(.ro, (.list 59 sA)), (.ro, (.fn1 sA .bool))], [sI], fun x => f184G K x.1 x.2.1⟩
def f184_k3 (a0 : List tA) (a1 : (tA → Option Bool)) (lr : LR Int) : Ex → Fr → Option Int :=
  contC (f184E K) 1 lr f184C [1, 0, 1, 0] (fM (f184E K) Tryz.f184 (f184M K) (a0, a1, ()))
def f184_j3 (a0 : List tA) (a1 : (tA → Option Bool)) (lr : LR Int) (bq4 : Int) : Option Int :=
  lr (selC f184C [1, 0, 1, 0, 0]) (f184_fr3 a0 a1 bq4) (f184_k3 K a0 a1 lr)
def f150E : Env := eE K [(184, f184M K)] [0, 1, 4, 5, 6, 7, 12, 19, 29]
def f150_b4 (K : Nat) (a1 : (tA → Option Bool)) (y1 : Int) (L4 : Int → Int → (List tA) → Option (List tA)) (q5 q6 : Int) (q7 : List tA) : Option (List tA) :=
  (bif (decide (q6 < (q7.length : Int))) then (bif (decide (0 ≤ q6) && decide (q6 < (q7.length : Int))) then (a1 ((q7.getD ((0 : Int) + q6).toNat zA).1, ((q7.getD ((0 : Int) + q6).toNat zA).2).1, (((q7.getD ((0 : Int) + q6).toNat zA).2).2))).bind fun y8 => (bif (!y8) then (bif (decide (0 ≤ q5) && decide (q5 < (q7.length : Int))) then L4 (w (q5 + (1 : Int))) (w (q6 + (1 : Int))) (q7.set ((0 : Int) + q5).toNat ((q7.getD ((0 : Int) + q6).toNat zA).1, ((q7.getD ((0 : Int) + q6).toNat zA).2).1, (((q7.getD ((0 : Int) + q6).toNat zA).2).2))) else none) else L4 q5 (w (q6 + (1 : Int))) q7) else none) else (bif (decide (0 ≤ q5) && decide (q5 ≤ (q7.length : Int)) && decide ((q7.length : Int) ≤ (q7.length : Int))) then (bif (decide (0 ≤ (0 : Int)) && decide ((0 : Int) ≤ q5) && decide (q5 ≤ ((clr q7 ((0 : Int) + q5).toNat (((0 : Int) + q5) + (((0 : Int) + (q7.length : Int)) - ((0 : Int) + q5))).toNat zA).length : Int))) then some ((clr q7 ((0 : Int) + q5).toNat (((0 : Int) + q5) + (((0 : Int) + (q7.length : Int)) - ((0 : Int) + q5))).toNat zA).take ((0 : Int) + q5).toNat) else none) else none))
def f150_l4 (a1 : (tA → Option Bool)) (y1 : Int) (n : Nat) (q5 q6 : Int) (q7 : List tA) : Option (List tA) :=
  iter (X := Int × Int × List tA) (fun L x => f150_b4 K a1 y1 (fun v0 v1 v2 => L (v0, v1, v2)) x.1 x.2.1 x.2.2) n (q5, q6, q7)
def f150_g (a0 : List tA) (a1 : (tA → Option Bool)) (I4 : Int → Int → Int → (List tA) → Option (List tA)) : Option (List tA) :=
  (f184G K a0 a1).bind fun y1 => (bif (y1 == (-1 : Int)) then some a0 else I4 y1 y1 (w (y1 + (1 : Int))) a0)
def f150G (a0 : List tA) (a1 : (tA → Option Bool)) : Option (List tA) :=
  f150_g K a0 a1 (fun c0 d0 d1 d2 => f150_l4 K a1 c0 K d0 d1 d2)
def f150M : Mdl := ⟨[(.mv, (.list 59 sA)), (.ro, (.fn1 sA .bool))], [(.list 59 sA)], fun x => f150G K x.1 x.2.1⟩
def f150_k4 (a0 : List tA) (a1 : (tA → Option Bool)) (lr : LR (List tA)) : Ex → Fr → Option (List tA) :=
  contC (f150E K) 1 lr f150C [1, 1, 1, 0, 1, 0] (fM (f150E K) Tryz.f150 (f150M K) (a0, a1, ()))
def f150_j4 (a0 : List tA) (a1 : (tA → Option Bool)) (lr : LR (List tA)) (y1 bq5 bq6 : Int) (bq7 : List tA) : Option (List tA) :=
  lr (selC f150C [1, 1, 1, 0, 1, 0, 0]) (f150_fr4 a1 y1 bq5 bq6 bq7) (f150_k4 K a0 a1 lr)
def f115E : Env := ⟨[(149, f149M K), (150, f150M K), (151, f151M K), (152, f152M K)], tys, eqs, mts, K, [0, 1, 3, 4, 5, 6], [], [], [], [], [(152, f152M K)], [], false⟩
def f115G (a0 : Int) (a1 : Int × Int × Int) : Option (List tA) :=
  (f149G K a1).bind fun y1 => (f151G K a0).bind fun y2 => (f150G K y2 (fun z3 => f152G K z3 a1 y1.1 y1.2)).bind fun y4 => some y4
def f115M : Mdl := ⟨[(.ro, sI), (.ro, sL)], [(.list 59 sA)], fun x => f115G K x.1 x.2.1⟩
def f148E : Env := eE K [] [0, 1, 3, 4, 5, 7, 8, 9, 16]
def f148_b2 (K : Nat) (a0 : List tA) (a1 : Int × Int × Int × Int) (L2 : Int → Option Int) (q3 : Int) : Option Int :=
  (bif (decide (q3 < (a0.length : Int))) then (bif (decide (0 ≤ q3) && decide (q3 < (a0.length : Int))) then (bif ((a1.1 == (a0.getD ((0 : Int) + q3).toNat zA).1) && ((a1.2.1 == ((a0.getD ((0 : Int) + q3).toNat zA).2).1) && ((a1.2.2.1 == (((a0.getD ((0 : Int) + q3).toNat zA).2).2).1) && (a1.2.2.2 == (((a0.getD ((0 : Int) + q3).toNat zA).2).2).2)))) then some q3 else L2 (w (q3 + (1 : Int)))) else none) else some (-1 : Int))
def f148_l2 (a0 : List tA) (a1 : Int × Int × Int × Int) (n : Nat) (q3 : Int) : Option Int :=
  iter (X := Int) (fun L x => f148_b2 K a0 a1 (fun v0 => L v0) x) n q3
def f148_g (K : Nat) (a0 : List tA) (a1 : Int × Int × Int × Int) (I2 : Int → Option Int) : Option Int :=
  I2 (0 : Int)
def f148G (a0 : List tA) (a1 : Int × Int × Int × Int) : Option Int :=
  f148_g K a0 a1 (fun d0 => f148_l2 K a0 a1 K d0)
def f148M : Mdl := ⟨[(.ro, (.list 59 sA)), (.ro, sA)], [sI], fun x => f148G K x.1 x.2.1⟩
def f148_k2 (a0 : List tA) (a1 : Int × Int × Int × Int) (lr : LR Int) : Ex → Fr → Option Int :=
  contC (f148E K) 1 lr f148C [1, 0, 1, 0] (fM (f148E K) Tryz.f148 (f148M K) (a0, a1, ()))
def f148_j2 (a0 : List tA) (a1 : Int × Int × Int × Int) (lr : LR Int) (bq3 : Int) : Option Int :=
  lr (selC f148C [1, 0, 1, 0, 0]) (f148_fr2 a0 a1 bq3) (f148_k2 K a0 a1 lr)
def f114E : Env := eE K [(148, f148M K)] [0, 1, 3, 4]
def f114G (a0 : List tA) (a1 : Int × Int × Int × Int) : Option Bool :=
  (f148G K a0 a1).bind fun y1 => some (decide (y1 ≥ (0 : Int)))
def f114M : Mdl := ⟨[(.ro, (.list 59 sA)), (.ro, sA)], [.bool], fun x => f114G K x.1 x.2.1⟩
def f71E : Env := eE K [(113, f113M K), (114, f114M K), (115, f115M K)] [0, 1, 2, 4, 5, 6]
def f71G (a0 : Int) (a1 : Int × Int × Int) (a2 : tA × Int × Int) : Option Bool :=
  (f113G K a2.2).bind fun y1 => ((bif y1 then f115G K a0 a1 else some [])).bind fun y2 => ((bif y1 then f114G K (bif y1 then y2 else []) a2.1 else some false)).bind fun y3 => some (bif y1 then y3 else false)
def f71M : Mdl := ⟨[(.ro, sI), (.ro, sL), (.ro, sM)], [.bool], fun x => f71G K x.1 x.2.1 x.2.2.1⟩
def f72E : Env := eE K [(43, f43M K)] [0, 1, 2, 3, 4]
def f72G (a0 : Int × Int × Int) (a1 : tA × Int × Int) : Option tM :=
  (f43G K a0 a1.2).bind fun y1 => some (a1.1, y1)
def f72M : Mdl := ⟨[(.ro, sL), (.ro, sM)], [sM], fun x => f72G K x.1 x.2.1⟩
def f36E : Env := eE K [(70, f70M K), (71, f71M K), (72, f72M K)] [0, 1, 2, 6, 7, 8, 14, 17, 20, 27]
def f36G (a0 : Int × Int × tL × (List tM) × List (tV × Int)) (a1 : ByteArray) (a2 : Int) : Option ((Int × Int × tL × (List tM) × List (tV × Int)) × Int) :=
  (f70G K a1).bind fun y1 => (bif (!y1.2) then some (a0, (6 : Int)) else (bif (decide (a2 < (2 : Int))) then some (a0, (5 : Int)) else (bif ((a0.2.2.2.1.length : Int) == (8 : Int)) then some (a0, (3 : Int)) else (f71G K a0.2.1 a0.2.2.1 y1.1).bind fun y2 => (bif (!y2) then some (a0, (2 : Int)) else (f72G K a0.2.2.1 y1.1).bind fun y3 => (bif (Nat.ble (a0.2.2.2.1.length + [y3].length) (lim 48)) then some ((a0.1, a0.2.1, a0.2.2.1, (a0.2.2.2.1 ++ [y3]), a0.2.2.2.2), (0 : Int)) else none)))))
def f36M : QMdl := ⟨(.cons sI (.cons sI (.cons sL (.cons (.list 63 sM) (.list 73 (.cons sV sI)))))), [(.ro, .str), (.ro, sI)], [sI], fun x => f36G K x.1 x.2.1 x.2.2.1⟩
def f15E : Env := ⟨[(14, f14M K), (33, f33M K), (34, f34M K), (35, f35M K)], tys, eqs, mts, K, [0, 1, 4, 5, 6, 7, 8, 9, 23, 42, 48, 49, 63, 71, 81, 89], [], [], [(32, f32M K), (36, f36M K)], [], [], [], false⟩
def f15G (a0 : Int × Int × tL × (List tM) × List (tV × Int)) (a1 : ByteArray) : Option ((Int × Int × tL × (List tM) × List (tV × Int)) × Int) :=
  (f14G K a1 (bs [32])).bind fun y1 => (bif (decide (0 ≤ (0 : Int)) && decide ((0 : Int) < (y1.length : Int))) then (bif (bif ((y1.getD ((0 : Int) + (0 : Int)).toNat ByteArray.empty) == (bs [109, 97, 114, 107])) then ((y1.length : Int) == (3 : Int)) else false) then (bif (decide (0 ≤ (1 : Int)) && decide ((1 : Int) < (y1.length : Int))) then (bif (decide (0 ≤ (2 : Int)) && decide ((2 : Int) < (y1.length : Int))) then (f32G K ((w (a0.1 + (1 : Int))), a0.2) (y1.getD ((0 : Int) + (1 : Int)).toNat ByteArray.empty) (y1.getD ((0 : Int) + (2 : Int)).toNat ByteArray.empty) a0.1).bind fun y2 => some y2 else none) else none) else (bif ((y1.length : Int) != (2 : Int)) then some (((w (a0.1 + (1 : Int))), a0.2), (6 : Int)) else (bif (decide (0 ≤ (0 : Int)) && decide ((0 : Int) < (y1.length : Int))) then (bif ((y1.getD ((0 : Int) + (0 : Int)).toNat ByteArray.empty) == (bs [102, 114, 97, 109, 101])) then (bif (decide (0 ≤ (1 : Int)) && decide ((1 : Int) < (y1.length : Int))) then (f33G K (bs [83, 72]) (y1.getD ((0 : Int) + (1 : Int)).toNat ByteArray.empty)).bind fun y3 => (bif (decide (0 ≤ (1 : Int)) && decide ((1 : Int) < (y1.length : Int))) then (bif (bif (((y1.getD ((0 : Int) + (1 : Int)).toNat ByteArray.empty).size : Int) != (1 : Int)) then true else (decide (y3 < (0 : Int)))) then some (((w (a0.1 + (1 : Int))), a0.2), (6 : Int)) else (f34G K (a0.1 == (0 : Int))).bind fun y4 => some (((w (a0.1 + (1 : Int))), y3, a0.2.2), y4)) else none) else none) else (bif ((y1.getD ((0 : Int) + (0 : Int)).toNat ByteArray.empty) == (bs [108, 97, 116, 116, 105, 99, 101])) then (bif (decide (0 ≤ (1 : Int)) && decide ((1 : Int) < (y1.length : Int))) then (f35G K (y1.getD ((0 : Int) + (1 : Int)).toNat ByteArray.empty)).bind fun y5 => (bif (!y5.2) then some (((w (a0.1 + (1 : Int))), a0.2), (6 : Int)) else (f34G K (a0.1 == (1 : Int))).bind fun y6 => some (((w (a0.1 + (1 : Int))), a0.2.1, y5.1, a0.2.2.2), y6)) else none) else (bif ((y1.getD ((0 : Int) + (0 : Int)).toNat ByteArray.empty) == (bs [109, 111, 116, 105, 111, 110])) then (bif (decide (0 ≤ (1 : Int)) && decide ((1 : Int) < (y1.length : Int))) then (f36G K ((w (a0.1 + (1 : Int))), a0.2) (y1.getD ((0 : Int) + (1 : Int)).toNat ByteArray.empty) a0.1).bind fun y7 => some y7 else none) else some (((w (a0.1 + (1 : Int))), a0.2), (6 : Int))))) else none))) else none)
def f15M : QMdl := ⟨(.cons sI (.cons sI (.cons sL (.cons (.list 63 sM) (.list 73 (.cons sV sI)))))), [(.ro, .str)], [sI], fun x => f15G K x.1 x.2.1⟩
def f125E : Env := eE K [] [0, 1, 2, 3, 4]
def f125G (K : Nat) (a0 a1 : Int × Int × Int × Int) : Option tA :=
  some ((w ((w (a0.1 * a1.1)) + (w (a0.2.1 * a1.2.2.1)))), (w ((w (a0.1 * a1.2.1)) + (w (a0.2.1 * a1.2.2.2)))), (w ((w (a0.2.2.1 * a1.1)) + (w (a0.2.2.2 * a1.2.2.1)))), (w ((w (a0.2.2.1 * a1.2.1)) + (w (a0.2.2.2 * a1.2.2.2)))))
def f125M : Mdl := ⟨[(.ro, sA), (.ro, sA)], [sA], fun x => f125G K x.1 x.2.1⟩
def f127E : Env := eE K [] [0, 1, 2, 3, 4]
def f127G (K : Nat) (a0 a1 : Int × Int) : Option tV :=
  some ((w (a0.1 + a1.1)), (w (a0.2 + a1.2)))
def f127M : Mdl := ⟨[(.ro, sV), (.ro, sV)], [sV], fun x => f127G K x.1 x.2.1⟩
def f85E : Env := eE K [(125, f125M K), (126, f126M K), (127, f127M K)] [0, 1, 2, 3, 4]
def f85G (a0 a1 : tA × Int × Int) : Option tM :=
  (f125G K a0.1 a1.1).bind fun y1 => (f126G K a0.1 a1.2).bind fun y2 => (f127G K y2 a0.2).bind fun y3 => some (y1, y3)
def f85M : Mdl := ⟨[(.ro, sM), (.ro, sM)], [sM], fun x => f85G K x.1 x.2.1⟩
def f124E : Env := eE K [] [0, 1, 4, 5, 7, 8, 9, 19, 28]
def f124_b2 (K : Nat) (a0 a1 : List Int) (L2 : Int → Option Int) (q3 : Int) : Option Int :=
  (bif (decide (q3 < (a0.length : Int))) then (bif (decide (0 ≤ q3) && decide (q3 < (a0.length : Int))) then (bif (decide (0 ≤ q3) && decide (q3 < (a1.length : Int))) then (bif ((a0.getD ((0 : Int) + q3).toNat (0 : Int)) != (a1.getD ((0 : Int) + q3).toNat (0 : Int))) then (bif (decide (0 ≤ q3) && decide (q3 < (a0.length : Int))) then (bif (decide (0 ≤ q3) && decide (q3 < (a1.length : Int))) then (bif (decide ((a0.getD ((0 : Int) + q3).toNat (0 : Int)) < (a1.getD ((0 : Int) + q3).toNat (0 : Int)))) then some (-1 : Int) else some (1 : Int)) else none) else none) else L2 (w (q3 + (1 : Int)))) else none) else none) else some (0 : Int))
def f124_l2 (a0 a1 : List Int) (n : Nat) (q3 : Int) : Option Int :=
  iter (X := Int) (fun L x => f124_b2 K a0 a1 (fun v0 => L v0) x) n q3
def f124_g (K : Nat) (a0 a1 : List Int) (I2 : Int → Option Int) : Option Int :=
  I2 (0 : Int)
def f124G (a0 a1 : List Int) : Option Int :=
  f124_g K a0 a1 (fun d0 => f124_l2 K a0 a1 K d0)
def f124M : Mdl := ⟨[(.ro, (.list 2 sI)), (.ro, (.list 2 sI))], [sI], fun x => f124G K x.1 x.2.1⟩
def f124_k2 (a0 a1 : List Int) (lr : LR Int) : Ex → Fr → Option Int :=
  contC (f124E K) 2 lr f124C [1, 0, 1, 0] (fM (f124E K) Tryz.f124 (f124M K) (a0, a1, ()))
def f124_j2 (a0 a1 : List Int) (lr : LR Int) (bq3 : Int) : Option Int :=
  lr (selC f124C [1, 0, 1, 0, 0]) (f124_fr2 a0 a1 bq3) (f124_k2 K a0 a1 lr)
def f129E : Env := eE K [(124, f124M K)] [0, 1, 2, 3, 4]
def f129G (a0 a1 : Int × Int × Int × Int) : Option Int :=
  (f124G K [a0.1, a0.2.1, a0.2.2.1, a0.2.2.2] [a1.1, a1.2.1, a1.2.2.1, a1.2.2.2]).bind fun y1 => some y1
def f129M : Mdl := ⟨[(.ro, sA), (.ro, sA)], [sI], fun x => f129G K x.1 x.2.1⟩
def f81E : Env := eE K [(124, f124M K)] [0, 1, 2, 3, 4]
def f81G (a0 a1 : Int × Int) : Option Int :=
  (f124G K [a0.1, a0.2] [a1.1, a1.2]).bind fun y1 => some y1
def f81M : Mdl := ⟨[(.ro, sV), (.ro, sV)], [sI], fun x => f81G K x.1 x.2.1⟩
def f87E : Env := eE K [(81, f81M K), (129, f129M K)] [0, 1, 2, 3, 4, 5, 12]
def f87G (a0 a1 : tA × Int × Int) : Option Int :=
  (f129G K a0.1 a1.1).bind fun y1 => (bif (y1 != (0 : Int)) then some y1 else (f81G K a0.2 a1.2).bind fun y2 => some y2)
def f87M : Mdl := ⟨[(.ro, sM), (.ro, sM)], [sI], fun x => f87G K x.1 x.2.1⟩
omit K
def f86G (K : Nat) (a0 : List tM) (a1 : tM → tM → Option Int) : Option (List tM) := sortF sM a0 a1
def f86M (K : Nat) : Mdl := ⟨[(.io, (.list 63 sM)), (.ro, (.fn2 sM sM sI))], [], fun x => f86G K x.1 x.2.1⟩
include K
def f45E : Env := ⟨[(72, f72M K), (84, f84M K), (85, f85M K), (86, f86M K), (87, f87M K)], tys, eqs, mts, K, [0, 1, 2, 4, 5, 6, 7, 9, 10, 22, 25, 26, 27, 28, 42], [], [], [], [], [(87, f87M K)], [], false⟩
def f45_b16 (a0 : Int × Int × Int) (a1 : List tM) (q13 : Int) (q15 : List tM) (L12 : Int → (List (tM × Bool)) → (List tM) → Option (List tM)) (L16 : Int → (List (tM × Bool)) → (List tM) → Option (List tM)) (q17 : Int) (q18 : List (tM × Bool)) (q19 : List tM) : Option (List tM) :=
  (bif (decide (q17 < (a1.length : Int))) then (bif (decide (0 ≤ q17) && decide (q17 < (a1.length : Int))) then (bif (decide (0 ≤ q13) && decide (q13 < (q19.length : Int))) then (f85G K ((((a1.getD ((0 : Int) + q17).toNat zM).1).1, (((a1.getD ((0 : Int) + q17).toNat zM).1).2).1, ((((a1.getD ((0 : Int) + q17).toNat zM).1).2).2)), ((a1.getD ((0 : Int) + q17).toNat zM).2)) ((((q19.getD ((0 : Int) + q13).toNat zM).1).1, (((q19.getD ((0 : Int) + q13).toNat zM).1).2).1, ((((q19.getD ((0 : Int) + q13).toNat zM).1).2).2)), ((q19.getD ((0 : Int) + q13).toNat zM).2))).bind fun y20 => (f72G K a0 y20).bind fun y21 => (bif (!((mfind (eqSh sM) q18 y21).getD false)) then (bif (Nat.ble (q19.length + [y21].length) (lim 48)) then L16 (w (q17 + (1 : Int))) (mput (eqSh sM) q18 y21 true) (q19 ++ [y21]) else none) else L16 (w (q17 + (1 : Int))) q18 q19) else none) else none) else L12 (w (q13 + (1 : Int))) q18 q19)
def f45_l16 (a0 : Int × Int × Int) (a1 : List tM) (q13 : Int) (q15 : List tM) (L12 : Int → (List (tM × Bool)) → (List tM) → Option (List tM)) (n : Nat) (q17 : Int) (q18 : List (tM × Bool)) (q19 : List tM) : Option (List tM) :=
  iter (X := Int × List (tM × Bool) × List tM) (fun L x => f45_b16 K a0 a1 q13 q15 L12 (fun v0 v1 v2 => L (v0, v1, v2)) x.1 x.2.1 x.2.2) n (q17, q18, q19)
def f45_b12 (a0 : Int × Int × Int) (a1 : List tM) (I16 : Int → (List tM) → Int → (List (tM × Bool)) → (List tM) → Option (List tM)) (L12 : Int → (List (tM × Bool)) → (List tM) → Option (List tM)) (q13 : Int) (q14 : List (tM × Bool)) (q15 : List tM) : Option (List tM) :=
  (bif (decide (q13 < (q15.length : Int))) then I16 q13 q15 (0 : Int) q14 q15 else (f86G K q15 (fun z22 z23 => f87G K z22 z23)).bind fun y24 => some y24)
def f45_l12 (a0 : Int × Int × Int) (a1 : List tM) (n : Nat) (q13 : Int) (q14 : List (tM × Bool)) (q15 : List tM) : Option (List tM) :=
  iter (X := Int × List (tM × Bool) × List tM) (fun L x => (fun L12 => f45_b12 K a0 a1 (fun c0 c1 d0 d1 d2 => f45_l16 K a0 a1 c0 c1 L12 K d0 d1 d2) L12 x.1 x.2.1 x.2.2) (fun v0 v1 v2 => L (v0, v1, v2))) n (q13, q14, q15)
def f45_g (a0 : Int × Int × Int) (a1 : List tM) (I12 : Int → (List (tM × Bool)) → (List tM) → Option (List tM)) : Option (List tM) :=
  (f84G K).bind fun y1 => (bif (decide (0 ≤ (0 : Int)) && decide ((0 : Int) < ([(y1, (0 : Int), (0 : Int))].length : Int))) then I12 (0 : Int) (mput (eqSh sM) [] (((([(y1, (0 : Int), (0 : Int))].getD ((0 : Int) + (0 : Int)).toNat zM).1).1, ((([(y1, (0 : Int), (0 : Int))].getD ((0 : Int) + (0 : Int)).toNat zM).1).2).1, (((([(y1, (0 : Int), (0 : Int))].getD ((0 : Int) + (0 : Int)).toNat zM).1).2).2)), (([(y1, (0 : Int), (0 : Int))].getD ((0 : Int) + (0 : Int)).toNat zM).2)) true) [(y1, (0 : Int), (0 : Int))] else none)
def f45G (a0 : Int × Int × Int) (a1 : List tM) : Option (List tM) :=
  f45_g K a0 a1 (fun d0 d1 d2 => f45_l12 K a0 a1 K d0 d1 d2)
def f45M : Mdl := ⟨[(.ro, sL), (.ro, (.list 63 sM))], [(.list 63 sM)], fun x => f45G K x.1 x.2.1⟩
def f45_k12 (a0 : Int × Int × Int) (a1 : List tM) (lr : LR (List tM)) : Ex → Fr → Option (List tM) :=
  contC (f45E K) 1 lr f45C [1, 1, 1, 0, 1, 0] (fM (f45E K) Tryz.f45 (f45M K) (a0, a1, ()))
def f45_j12 (a0 : Int × Int × Int) (a1 : List tM) (lr : LR (List tM)) (bq13 : Int) (bq14 : List (tM × Bool)) (bq15 : List tM) : Option (List tM) :=
  lr (selC f45C [1, 1, 1, 0, 1, 0, 0]) (f45_fr12 a0 a1 bq13 bq14 bq15) (f45_k12 K a0 a1 lr)
def f45_k16 (a0 : Int × Int × Int) (a1 : List tM) (F12 : Fr → Option (List tM)) (bq13 : Int) (bq14 : List (tM × Bool)) (bq15 : List tM) (lr : LR (List tM)) : Ex → Fr → Option (List tM) :=
  contC (f45E K) 1 lr (selC f45C [1, 1, 1, 0, 1, 0, 0]) [1, 0, 0, 1, 0] (loopK 1 (f45_fr12 a0 a1 bq13 bq14 bq15) F12 (f45_k12 K a0 a1 lr))
def f45_j16 (a0 : Int × Int × Int) (a1 : List tM) (F12 : Fr → Option (List tM)) (bq13 : Int) (bq14 : List (tM × Bool)) (bq15 : List tM) (lr : LR (List tM)) (q13 : Int) (q15 : List tM) (bq17 : Int) (bq18 : List (tM × Bool)) (bq19 : List tM) : Option (List tM) :=
  lr (selC f45C [1, 1, 1, 0, 1, 0, 0, 1, 0, 0, 1, 0, 0]) (f45_fr16 a0 a1 q13 q15 bq17 bq18 bq19) (f45_k16 K a0 a1 F12 bq13 bq14 bq15 lr)
def f17E : Env := eE K [(45, f45M K)] [0, 2]
def f17G (a0 : Int × Int × tL × (List tM) × List (tV × Int)) : Option (List tM) :=
  (f45G K a0.2.2.1 a0.2.2.2.1).bind fun y1 => some y1
def f17M : Mdl := ⟨[(.cap, (.cons sI (.cons sI (.cons sL (.cons (.list 63 sM) (.list 73 (.cons sV sI)))))))], [(.list 63 sM)], fun x => f17G K x.1⟩
def f154E : Env := eE K [(75, f75M K)] [0, 2]
def f154G (a0 : Int) : Option Bool :=
  (f75G K a0 (0 : Int) (1 : Int)).bind fun y1 => some y1
def f154M : Mdl := ⟨[(.ro, sI)], [.bool], fun x => f154G K x.1⟩
def f116E : Env := eE K [(69, f69M K), (154, f154M K)] [0, 1, 3, 4, 12]
def f116G (a0 : Int) (a1 : Int × Int × Int) : Option Int :=
  (f154G K a0).bind fun y1 => ((bif (!(!y1)) then f69G K a1 else some false)).bind fun y2 => (bif (bif (!y1) then true else (!y2)) then some (1 : Int) else some (0 : Int))
def f116M : Mdl := ⟨[(.ro, sI), (.ro, sL)], [sI], fun x => f116G K x.1 x.2.1⟩
def f117E : Env := eE K [(43, f43M K), (72, f72M K), (84, f84M K), (85, f85M K), (87, f87M K), (114, f114M K), (115, f115M K)] [0, 1, 2, 4, 6, 7, 8, 9, 10, 12, 14, 19, 20, 21, 22, 53, 61, 62, 63, 64, 65, 68, 69, 70, 71, 81]
def f117_b23 (a0 : Int) (a1 : Int × Int × Int) (a2 : List tM) (q7 : Int) (q8 : List (tM × Bool)) (q22 : Int) (y1 : List tA) (y12 : Int × Int × Int × Int) (L21 L23 : Int → Option Bool) (q24 : Int) : Option Bool :=
  (bif (decide (q24 < (a2.length : Int))) then (bif (decide (0 ≤ q24) && decide (q24 < (a2.length : Int))) then (f85G K ((((a2.getD ((0 : Int) + q22).toNat zM).1).1, (((a2.getD ((0 : Int) + q22).toNat zM).1).2).1, ((((a2.getD ((0 : Int) + q22).toNat zM).1).2).2)), ((a2.getD ((0 : Int) + q22).toNat zM).2)) ((((a2.getD ((0 : Int) + q24).toNat zM).1).1, (((a2.getD ((0 : Int) + q24).toNat zM).1).2).1, ((((a2.getD ((0 : Int) + q24).toNat zM).1).2).2)), ((a2.getD ((0 : Int) + q24).toNat zM).2))).bind fun y25 => (f72G K a1 y25).bind fun y26 => (bif (!((mfind (eqSh sM) q8 y26).getD false)) then some false else L23 (w (q24 + (1 : Int)))) else none) else L21 (w (q22 + (1 : Int))))
def f117_l23 (a0 : Int) (a1 : Int × Int × Int) (a2 : List tM) (q7 : Int) (q8 : List (tM × Bool)) (q22 : Int) (y1 : List tA) (y12 : Int × Int × Int × Int) (L21 : Int → Option Bool) (n : Nat) (q24 : Int) : Option Bool :=
  iter (X := Int) (fun L x => f117_b23 K a0 a1 a2 q7 q8 q22 y1 y12 L21 (fun v0 => L v0) x) n q24
def f117_b21 (K : Nat) (a0 : Int) (a1 : Int × Int × Int) (a2 : List tM) (q7 : Int) (q8 : List (tM × Bool)) (y1 : List tA) (y12 : Int × Int × Int × Int) (I23 : Int → Int → Option Bool) (L21 : Int → Option Bool) (q22 : Int) : Option Bool :=
  (bif (decide (q22 < (a2.length : Int))) then (bif (decide (0 ≤ q22) && decide (q22 < (a2.length : Int))) then I23 q22 (0 : Int) else none) else some true)
def f117_l21 (a0 : Int) (a1 : Int × Int × Int) (a2 : List tM) (q7 : Int) (q8 : List (tM × Bool)) (y1 : List tA) (y12 : Int × Int × Int × Int) (n : Nat) (q22 : Int) : Option Bool :=
  iter (X := Int) (fun L x => (fun L21 => f117_b21 K a0 a1 a2 q7 q8 y1 y12 (fun c0 d0 => f117_l23 K a0 a1 a2 q7 q8 c0 y1 y12 L21 K d0) L21 x) (fun v0 => L v0)) n q22
def f117_b6 (a0 : Int) (a1 : Int × Int × Int) (a2 : List tM) (y1 : List tA) (I21 : Int → (List (tM × Bool)) → (List tA) → tA → Int → Option Bool) (L6 : Int → (List (tM × Bool)) → Option Bool) (q7 : Int) (q8 : List (tM × Bool)) : Option Bool :=
  (bif (decide (q7 < (a2.length : Int))) then (bif (decide (0 ≤ q7) && decide (q7 < (a2.length : Int))) then (f114G K y1 (((a2.getD ((0 : Int) + q7).toNat zM).1).1, (((a2.getD ((0 : Int) + q7).toNat zM).1).2).1, ((((a2.getD ((0 : Int) + q7).toNat zM).1).2).2))).bind fun y9 => ((bif (!(!y9)) then f43G K a1 ((a2.getD ((0 : Int) + q7).toNat zM).2) else some ((0 : Int), (0 : Int)))).bind fun y10 => (bif ((decide (0 ≤ (w (q7 - (1 : Int)))) && decide ((w (q7 - (1 : Int))) < (a2.length : Int))) || (!((!(bif (!y9) then true else (!((y10.1 == ((a2.getD ((0 : Int) + q7).toNat zM).2).1) && (y10.2 == ((a2.getD ((0 : Int) + q7).toNat zM).2).2))))) && (decide (q7 > (0 : Int)))))) then ((bif ((!(bif (!y9) then true else (!((y10.1 == ((a2.getD ((0 : Int) + q7).toNat zM).2).1) && (y10.2 == ((a2.getD ((0 : Int) + q7).toNat zM).2).2))))) && (decide (q7 > (0 : Int)))) then f87G K ((((a2.getD ((0 : Int) + (w (q7 - (1 : Int)))).toNat zM).1).1, (((a2.getD ((0 : Int) + (w (q7 - (1 : Int)))).toNat zM).1).2).1, ((((a2.getD ((0 : Int) + (w (q7 - (1 : Int)))).toNat zM).1).2).2)), ((a2.getD ((0 : Int) + (w (q7 - (1 : Int)))).toNat zM).2)) ((((a2.getD ((0 : Int) + q7).toNat zM).1).1, (((a2.getD ((0 : Int) + q7).toNat zM).1).2).1, ((((a2.getD ((0 : Int) + q7).toNat zM).1).2).2)), ((a2.getD ((0 : Int) + q7).toNat zM).2)) else some (0 : Int))).bind fun y11 => (bif (bif (bif (!y9) then true else (!((y10.1 == ((a2.getD ((0 : Int) + q7).toNat zM).2).1) && (y10.2 == ((a2.getD ((0 : Int) + q7).toNat zM).2).2)))) then true else (bif (decide (q7 > (0 : Int))) then (decide (y11 ≥ (0 : Int))) else false)) then some false else L6 (w (q7 + (1 : Int))) (mput (eqSh sM) q8 ((((a2.getD ((0 : Int) + q7).toNat zM).1).1, (((a2.getD ((0 : Int) + q7).toNat zM).1).2).1, ((((a2.getD ((0 : Int) + q7).toNat zM).1).2).2)), ((a2.getD ((0 : Int) + q7).toNat zM).2)) true)) else none) else none) else (f84G K).bind fun y12 => (bif (!((mfind (eqSh sM) q8 (y12, (0 : Int), (0 : Int))).getD false)) then some false else I21 q7 q8 y1 y12 (0 : Int)))
def f117_l6 (a0 : Int) (a1 : Int × Int × Int) (a2 : List tM) (y1 : List tA) (n : Nat) (q7 : Int) (q8 : List (tM × Bool)) : Option Bool :=
  iter (X := Int × List (tM × Bool)) (fun L x => f117_b6 K a0 a1 a2 y1 (fun c0 c1 c2 c3 d0 => f117_l21 K a0 a1 a2 c0 c1 c2 c3 K d0) (fun v0 v1 => L (v0, v1)) x.1 x.2) n (q7, q8)
def f117_g (a0 : Int) (a1 : Int × Int × Int) (a2 : List tM) (I6 : (List tA) → Int → (List (tM × Bool)) → Option Bool) : Option Bool :=
  (f115G K a0 a1).bind fun y1 => I6 y1 (0 : Int) []
def f117G (a0 : Int) (a1 : Int × Int × Int) (a2 : List tM) : Option Bool :=
  f117_g K a0 a1 a2 (fun c0 d0 d1 => f117_l6 K a0 a1 a2 c0 K d0 d1)
def f117M : Mdl := ⟨[(.ro, sI), (.ro, sL), (.ro, (.list 63 sM))], [.bool], fun x => f117G K x.1 x.2.1 x.2.2.1⟩
def f117_k6 (a0 : Int) (a1 : Int × Int × Int) (a2 : List tM) (lr : LR Bool) : Ex → Fr → Option Bool :=
  contC (f117E K) 1 lr f117C [1, 1, 0, 1, 0] (fM (f117E K) Tryz.f117 (f117M K) (a0, a1, a2, ()))
def f117_j6 (a0 : Int) (a1 : Int × Int × Int) (a2 : List tM) (lr : LR Bool) (y1 : List tA) (bq7 : Int) (bq8 : List (tM × Bool)) : Option Bool :=
  lr (selC f117C [1, 1, 0, 1, 0, 0]) (f117_fr6 a0 a1 a2 y1 bq7 bq8) (f117_k6 K a0 a1 a2 lr)
def f117_k21 (a0 : Int) (a1 : Int × Int × Int) (a2 : List tM) (lr : LR Bool) : Ex → Fr → Option Bool :=
  contC (f117E K) 1 lr f117C [1, 1, 1, 1, 0, 1, 0] (fM (f117E K) Tryz.f117 (f117M K) (a0, a1, a2, ()))
def f117_j21 (a0 : Int) (a1 : Int × Int × Int) (a2 : List tM) (lr : LR Bool) (q7 : Int) (q8 : List (tM × Bool)) (y1 : List tA) (y12 : Int × Int × Int × Int) (bq22 : Int) : Option Bool :=
  lr (selC f117C [1, 1, 1, 1, 0, 1, 0, 0]) (f117_fr21 a0 a1 a2 q7 q8 y1 y12 bq22) (f117_k21 K a0 a1 a2 lr)
def f117_k23 (a0 : Int) (a1 : Int × Int × Int) (a2 : List tM) (q7 : Int) (q8 : List (tM × Bool)) (y1 : List tA) (y12 : Int × Int × Int × Int) (F21 : Fr → Option Bool) (bq22 : Int) (lr : LR Bool) : Ex → Fr → Option Bool :=
  contC (f117E K) 1 lr (selC f117C [1, 1, 1, 1, 0, 1, 0, 0]) [1, 1, 0, 0, 1, 1, 0] (loopK 1 (f117_fr21 a0 a1 a2 q7 q8 y1 y12 bq22) F21 (f117_k21 K a0 a1 a2 lr))
def f117_j23 (a0 : Int) (a1 : Int × Int × Int) (a2 : List tM) (q7 : Int) (q8 : List (tM × Bool)) (y1 : List tA) (y12 : Int × Int × Int × Int) (F21 : Fr → Option Bool) (bq22 : Int) (lr : LR Bool) (q22 bq24 : Int) : Option Bool :=
  lr (selC f117C [1, 1, 1, 1, 0, 1, 0, 0, 1, 1, 0, 0, 1, 1, 0, 0]) (f117_fr23 a0 a1 a2 q7 q8 q22 y1 y12 bq24) (f117_k23 K a0 a1 a2 q7 q8 y1 y12 F21 bq22 lr)
def f73E : Env := eE K [(116, f116M K), (117, f117M K)] [0, 1, 2, 4, 6, 7, 9, 14, 16, 17, 18, 19, 26]
def f73_b4 (a0 : Int) (a1 : Int × Int × Int) (a2 : List (List tM)) (y1 : Int) (L4 : Int → Option Int) (q5 : Int) : Option Int :=
  (bif (decide (q5 < (a2.length : Int))) then (bif (decide (0 ≤ q5) && decide (q5 < (a2.length : Int))) then (f117G K a0 a1 (a2.getD ((0 : Int) + q5).toNat [])).bind fun y6 => (bif (!y6) then some (2 : Int) else L4 (w (q5 + (1 : Int)))) else none) else some (0 : Int))
def f73_l4 (a0 : Int) (a1 : Int × Int × Int) (a2 : List (List tM)) (y1 : Int) (n : Nat) (q5 : Int) : Option Int :=
  iter (X := Int) (fun L x => f73_b4 K a0 a1 a2 y1 (fun v0 => L v0) x) n q5
def f73_g (a0 : Int) (a1 : Int × Int × Int) (a2 : List (List tM)) (I4 : Int → Int → Option Int) : Option Int :=
  (f116G K a0 a1).bind fun y1 => (bif (y1 != (0 : Int)) then some y1 else I4 y1 (0 : Int))
def f73G (a0 : Int) (a1 : Int × Int × Int) (a2 : List (List tM)) : Option Int :=
  f73_g K a0 a1 a2 (fun c0 d0 => f73_l4 K a0 a1 a2 c0 K d0)
def f73M : Mdl := ⟨[(.ro, sI), (.ro, sL), (.ro, (.list 27 (.list 63 sM)))], [sI], fun x => f73G K x.1 x.2.1 x.2.2.1⟩
def f73_k4 (a0 : Int) (a1 : Int × Int × Int) (a2 : List (List tM)) (lr : LR Int) : Ex → Fr → Option Int :=
  contC (f73E K) 1 lr f73C [1, 1, 0, 1, 0] (fM (f73E K) Tryz.f73 (f73M K) (a0, a1, a2, ()))
def f73_j4 (a0 : Int) (a1 : Int × Int × Int) (a2 : List (List tM)) (lr : LR Int) (y1 bq5 : Int) : Option Int :=
  lr (selC f73C [1, 1, 0, 1, 0, 0]) (f73_fr4 a0 a1 a2 y1 bq5) (f73_k4 K a0 a1 a2 lr)
def f38E : Env := eE K [(75, f75M K)] [0, 2]
def f38G (a0 : Int) : Option Bool :=
  (f75G K a0 (0 : Int) (9 : Int)).bind fun y1 => some y1
def f38M : Mdl := ⟨[(.ro, sI)], [.bool], fun x => f38G K x.1⟩
def f119E : Env := eE K [(38, f38M K), (113, f113M K)] [0, 1, 2]
def f119G (a0 : tV × Int) : Option Bool :=
  (f113G K a0.1).bind fun y1 => ((bif (!(!y1)) then f38G K a0.2 else some false)).bind fun y2 => some (bif (!y1) then true else (!y2))
def f119M : Mdl := ⟨[(.ro, (.cons sV sI))], [.bool], fun x => f119G K x.1⟩
def f155E : Env := eE K [] [0, 1, 4, 5, 7, 8, 9, 16]
def f155_b3 (K : Nat) (a0 : List (tV × Int)) (a1 : ((tV × Int) → Option Bool)) (L3 : Int → Option Int) (q4 : Int) : Option Int :=
  (bif (decide (q4 < (a0.length : Int))) then (bif (decide (0 ≤ q4) && decide (q4 < (a0.length : Int))) then (a1 (((a0.getD ((0 : Int) + q4).toNat (((0 : Int), (0 : Int)), (0 : Int))).1), (a0.getD ((0 : Int) + q4).toNat (((0 : Int), (0 : Int)), (0 : Int))).2)).bind fun y5 => (bif y5 then some q4 else L3 (w (q4 + (1 : Int)))) else none) else some (-1 : Int))
def f155_l3 (a0 : List (tV × Int)) (a1 : ((tV × Int) → Option Bool)) (n : Nat) (q4 : Int) : Option Int :=
  iter (X := Int) (fun L x => f155_b3 K a0 a1 (fun v0 => L v0) x) n q4
def f155_g (K : Nat) (a0 : List (tV × Int)) (a1 : ((tV × Int) → Option Bool)) (I3 : Int → Option Int) : Option Int :=
  I3 (0 : Int)
def f155G (a0 : List (tV × Int)) (a1 : ((tV × Int) → Option Bool)) : Option Int :=
  f155_g K a0 a1 (fun d0 => f155_l3 K a0 a1 K d0)
def f155M : Mdl := ⟨[(.ro, (.list 73 (.cons sV sI))), (.ro, (.fn1 (.cons sV sI) .bool))], [sI], fun x => f155G K x.1 x.2.1⟩
def f155_k3 (a0 : List (tV × Int)) (a1 : ((tV × Int) → Option Bool)) (lr : LR Int) : Ex → Fr → Option Int :=
  contC (f155E K) 1 lr f155C [1, 0, 1, 0] (fM (f155E K) Tryz.f155 (f155M K) (a0, a1, ()))
def f155_j3 (a0 : List (tV × Int)) (a1 : ((tV × Int) → Option Bool)) (lr : LR Int) (bq4 : Int) : Option Int :=
  lr (selC f155C [1, 0, 1, 0, 0]) (f155_fr3 a0 a1 bq4) (f155_k3 K a0 a1 lr)
def f118E : Env := eE K [(155, f155M K)] [0, 1, 4]
def f118G (a0 : List (tV × Int)) (a1 : ((tV × Int) → Option Bool)) : Option Bool :=
  (f155G K a0 a1).bind fun y1 => some (decide (y1 ≥ (0 : Int)))
def f118M : Mdl := ⟨[(.ro, (.list 73 (.cons sV sI))), (.ro, (.fn1 (.cons sV sI) .bool))], [.bool], fun x => f118G K x.1 x.2.1⟩
def f74E : Env := ⟨[(118, f118M K), (119, f119M K)], tys, eqs, mts, K, [0, 2], [], [], [], [], [(119, f119M K)], [], false⟩
def f74G (a0 : List (tV × Int)) : Option Bool :=
  ((bif (decide ((a0.length : Int) ≤ (40 : Int))) then f118G K a0 (fun z1 => f119G K z1) else some false)).bind fun y2 => some (bif (decide ((a0.length : Int) ≤ (40 : Int))) then (!y2) else false)
def f74M : Mdl := ⟨[(.ro, (.list 73 (.cons sV sI)))], [.bool], fun x => f74G K x.1⟩
def f37E : Env := eE K [(73, f73M K), (74, f74M K)] [0, 1, 2, 3, 5, 8, 9, 16, 20]
def f37G (a0 : Int) (a1 : Int × Int × Int) (a2 : List tM) (a3 : List (tV × Int)) : Option Int :=
  (f73G K a0 a1 [a2]).bind fun y1 => (bif (y1 != (0 : Int)) then some y1 else (f74G K a3).bind fun y2 => (bif (!y2) then some (2 : Int) else some (0 : Int)))
def f37M : Mdl := ⟨[(.ro, sI), (.ro, sL), (.ro, (.list 63 sM)), (.ro, (.list 73 (.cons sV sI)))], [sI], fun x => f37G K x.1 x.2.1 x.2.2.1 x.2.2.2.1⟩
omit K
def f156G (K : Nat) (a0 a1 : Int) : Option tV := mulF a0 a1
def f156M (K : Nat) : Mdl := ⟨[(.ro, (.int .u64)), (.ro, (.int .u64))], [(.int .u64), (.int .u64)], fun x => f156G K x.1 x.2.1⟩
include K
def f120E : Env := eE K [(156, f156M K)] [0, 1, 4, 5, 6, 7, 8, 10, 26, 37]
def f120_b3 (K : Nat) (a0 : List Int) (a1 : Int) (y1 : Int × Int) (L3 : Int → (List Int) → Option (List Int)) (q4 : Int) (q5 : List Int) : Option (List Int) :=
  (bif (decide (q4 < (q5.length : Int))) then (bif (decide (0 ≤ q4) && decide (q4 ≤ (q5.length : Int)) && decide ((q5.length : Int) ≤ (q5.length : Int))) then (bif (decide (0 ≤ (0 : Int)) && decide ((0 : Int) ≤ q4) && decide (q4 ≤ (q5.length : Int))) then L3 (w (q4 + (bif decide ((((0 : Int) + (q5.length : Int)) - ((0 : Int) + q4)) ≤ (((0 : Int) + q4) - (0 : Int))) then (((0 : Int) + (q5.length : Int)) - ((0 : Int) + q4)) else (((0 : Int) + q4) - (0 : Int))))) (q5.take ((0 : Int) + q4).toNat ++ ((q5.take ((0 : Int) + (((0 : Int) + q4) - (0 : Int))).toNat).drop 0).take (bif decide ((((0 : Int) + (q5.length : Int)) - ((0 : Int) + q4)) ≤ (((0 : Int) + q4) - (0 : Int))) then (((0 : Int) + (q5.length : Int)) - ((0 : Int) + q4)) else (((0 : Int) + q4) - (0 : Int))).toNat ++ q5.drop (((0 : Int) + q4).toNat + (bif decide ((((0 : Int) + (q5.length : Int)) - ((0 : Int) + q4)) ≤ (((0 : Int) + q4) - (0 : Int))) then (((0 : Int) + (q5.length : Int)) - ((0 : Int) + q4)) else (((0 : Int) + q4) - (0 : Int))).toNat)) else none) else none) else some q5)
def f120_l3 (a0 : List Int) (a1 : Int) (y1 : Int × Int) (n : Nat) (q4 : Int) (q5 : List Int) : Option (List Int) :=
  iter (X := Int × List Int) (fun L x => f120_b3 K a0 a1 y1 (fun v0 v1 => L (v0, v1)) x.1 x.2) n (q4, q5)
def f120_g (a0 : List Int) (a1 : Int) (I3 : tV → Int → (List Int) → Option (List Int)) : Option (List Int) :=
  (bif (decide (a1 < (0 : Int))) then none else (f156G K (IntKind.u64.wrap (a0.length : Int)) (IntKind.u64.wrap a1)).bind fun y1 => (bif (bif (decide (y1.1 > (0 : Int))) then true else (decide (y1.2 > (9223372036854775807 : Int)))) then none else (bif (decide (0 ≤ (w y1.2)) && Nat.ble (w y1.2).toNat (lim 8) && ((w y1.2) == (w y1.2))) then I3 y1 (bif decide (((List.replicate (w y1.2).toNat (0 : Int)).length : Int) ≤ (a0.length : Int)) then ((List.replicate (w y1.2).toNat (0 : Int)).length : Int) else (a0.length : Int)) ((List.replicate (w y1.2).toNat (0 : Int)).take 0 ++ ((a0.take ((0 : Int) + (a0.length : Int)).toNat).drop 0).take (bif decide (((List.replicate (w y1.2).toNat (0 : Int)).length : Int) ≤ (a0.length : Int)) then ((List.replicate (w y1.2).toNat (0 : Int)).length : Int) else (a0.length : Int)).toNat ++ (List.replicate (w y1.2).toNat (0 : Int)).drop (0 + (bif decide (((List.replicate (w y1.2).toNat (0 : Int)).length : Int) ≤ (a0.length : Int)) then ((List.replicate (w y1.2).toNat (0 : Int)).length : Int) else (a0.length : Int)).toNat)) else none)))
def f120G (a0 : List Int) (a1 : Int) : Option (List Int) :=
  f120_g K a0 a1 (fun c0 d0 d1 => f120_l3 K a0 a1 c0 K d0 d1)
def f120M : Mdl := ⟨[(.ro, (.list 2 sI)), (.ro, sI)], [(.list 2 sI)], fun x => f120G K x.1 x.2.1⟩
def f120_k3 (a0 : List Int) (a1 : Int) (lr : LR (List Int)) : Ex → Fr → Option (List Int) :=
  contC (f120E K) 1 lr f120C [1, 1, 1, 1, 1, 1, 0, 0] (fM (f120E K) Tryz.f120 (f120M K) (a0, a1, ()))
def f120_j3 (a0 : List Int) (a1 : Int) (lr : LR (List Int)) (y1 : Int × Int) (bq4 : Int) (bq5 : List Int) : Option (List Int) :=
  lr (selC f120C [1, 1, 1, 1, 1, 1, 0, 0, 0]) (f120_fr3 a0 a1 y1 bq4 bq5) (f120_k3 K a0 a1 lr)
def f41E : Env := eE K [] [0, 1, 2, 3, 4, 5, 8, 9, 10, 13, 14, 15]
def f41_b9 (K : Nat) (a0 : Int × Int × Int) (q7 : Int) (L6 L9 : Int → (List tV) → Option (List tV)) (q10 : Int) (q11 : List tV) : Option (List tV) :=
  (bif (decide (q10 < a0.2.2)) then (bif (Nat.ble (q11.length + [(q7, q10)].length) (lim 16)) then L9 (w (q10 + (1 : Int))) (q11 ++ [(q7, q10)]) else none) else L6 (w (q7 + (1 : Int))) q11)
def f41_l9 (a0 : Int × Int × Int) (q7 : Int) (L6 : Int → (List tV) → Option (List tV)) (n : Nat) (q10 : Int) (q11 : List tV) : Option (List tV) :=
  iter (X := Int × List tV) (fun L x => f41_b9 K a0 q7 L6 (fun v0 v1 => L (v0, v1)) x.1 x.2) n (q10, q11)
def f41_b6 (K : Nat) (a0 : Int × Int × Int) (I9 : Int → Int → (List tV) → Option (List tV)) (L6 : Int → (List tV) → Option (List tV)) (q7 : Int) (q8 : List tV) : Option (List tV) :=
  (bif (decide (q7 < a0.1)) then I9 q7 (0 : Int) q8 else some q8)
def f41_l6 (a0 : Int × Int × Int) (n : Nat) (q7 : Int) (q8 : List tV) : Option (List tV) :=
  iter (X := Int × List tV) (fun L x => (fun L6 => f41_b6 K a0 (fun c0 d0 d1 => f41_l9 K a0 c0 L6 K d0 d1) L6 x.1 x.2) (fun v0 v1 => L (v0, v1))) n (q7, q8)
def f41_g (K : Nat) (a0 : Int × Int × Int) (I6 : Int → (List tV) → Option (List tV)) : Option (List tV) :=
  I6 (0 : Int) []
def f41G (a0 : Int × Int × Int) : Option (List tV) :=
  f41_g K a0 (fun d0 d1 => f41_l6 K a0 K d0 d1)
def f41M : Mdl := ⟨[(.ro, sL)], [(.list 61 sV)], fun x => f41G K x.1⟩
def f41_k6 (a0 : Int × Int × Int) (lr : LR (List tV)) : Ex → Fr → Option (List tV) :=
  contC (f41E K) 0 lr f41C [1, 1, 0, 1, 0] (fM (f41E K) Tryz.f41 (f41M K) (a0, ()))
def f41_j6 (a0 : Int × Int × Int) (lr : LR (List tV)) (bq7 : Int) (bq8 : List tV) : Option (List tV) :=
  lr (selC f41C [1, 1, 0, 1, 0, 0]) (f41_fr6 a0 bq7 bq8) (f41_k6 K a0 lr)
def f41_k9 (a0 : Int × Int × Int) (F6 : Fr → Option (List tV)) (bq7 : Int) (bq8 : List tV) (lr : LR (List tV)) : Ex → Fr → Option (List tV) :=
  contC (f41E K) 0 lr (selC f41C [1, 1, 0, 1, 0, 0]) [1, 1, 0, 0, 1, 1, 0] (loopK 0 (f41_fr6 a0 bq7 bq8) F6 (f41_k6 K a0 lr))
def f41_j9 (a0 : Int × Int × Int) (F6 : Fr → Option (List tV)) (bq7 : Int) (bq8 : List tV) (lr : LR (List tV)) (q7 bq10 : Int) (bq11 : List tV) : Option (List tV) :=
  lr (selC f41C [1, 1, 0, 1, 0, 0, 1, 1, 0, 0, 1, 1, 0, 0]) (f41_fr9 a0 q7 bq10 bq11) (f41_k9 K a0 F6 bq7 bq8 lr)
def f44E : Env := eE K [] [0, 1, 2, 3, 4]
def f44G (K : Nat) (a0 : Int × Int × Int) (a1 : Int × Int) : Option Int :=
  some (w ((w (a1.1 * a0.2.2)) + a1.2))
def f44M : Mdl := ⟨[(.ro, sL), (.ro, sV)], [sI], fun x => f44G K x.1 x.2.1⟩
def f121E : Env := eE K [(126, f126M K), (127, f127M K)] [0, 1, 2, 3, 4]
def f121G (a0 : tA × Int × Int) (a1 : Int × Int) : Option tV :=
  (f126G K a0.1 a1).bind fun y1 => (f127G K y1 a0.2).bind fun y2 => some y2
def f121M : Mdl := ⟨[(.ro, sM), (.ro, sV)], [sV], fun x => f121G K x.1 x.2.1⟩
def f79E : Env := eE K [(43, f43M K), (121, f121M K)] [0, 1, 2, 3, 4, 5, 6]
def f79G (a0 : Int × Int × Int) (a1 : tA × Int × Int) (a2 : Int × Int) : Option tV :=
  (f121G K a1 a2).bind fun y1 => (f43G K a0 y1).bind fun y2 => some y2
def f79M : Mdl := ⟨[(.ro, sL), (.ro, sM), (.ro, sV)], [sV], fun x => f79G K x.1 x.2.1 x.2.2.1⟩
omit K
def f80G (K : Nat) (a0 : List tV) (a1 : tV → tV → Option Int) : Option (List tV) := sortF sV a0 a1
def f80M (K : Nat) : Mdl := ⟨[(.io, (.list 61 sV)), (.ro, (.fn2 sV sV sI))], [], fun x => f80G K x.1 x.2.1⟩
include K
def f82E : Env := eE K [] [0, 2, 3, 4, 5, 8, 13, 25, 32, 44]
def f82_b9 (K : Nat) (a0 : List tV) (q8 : Int) (L9 : Int → Int → (List tV) → Option (List tV)) (q10 q11 : Int) (q12 : List tV) : Option (List tV) :=
  (bif (decide (q11 < (((0 : Int) + (a0.length : Int)) - ((0 : Int) + q8)))) then (bif (decide (0 ≤ q11) && decide (q11 < (((0 : Int) + (a0.length : Int)) - ((0 : Int) + q8)))) then (bif (decide (0 ≤ (w (q11 - (1 : Int)))) && decide ((w (q11 - (1 : Int))) < (((0 : Int) + (a0.length : Int)) - ((0 : Int) + q8)))) then (bif (!(((q12.getD (((0 : Int) + q8) + q11).toNat ((0 : Int), (0 : Int))).1 == (q12.getD (((0 : Int) + q8) + (w (q11 - (1 : Int)))).toNat ((0 : Int), (0 : Int))).1) && ((q12.getD (((0 : Int) + q8) + q11).toNat ((0 : Int), (0 : Int))).2 == (q12.getD (((0 : Int) + q8) + (w (q11 - (1 : Int)))).toNat ((0 : Int), (0 : Int))).2))) then (bif (decide (0 ≤ q11) && decide (q11 < (((0 : Int) + (a0.length : Int)) - ((0 : Int) + q8)))) then (bif (decide (0 ≤ q10) && decide (q10 < (q12.length : Int))) then L9 (w (q10 + (1 : Int))) (w (q11 + (1 : Int))) (q12.set ((0 : Int) + q10).toNat (q12.getD (((0 : Int) + q8) + q11).toNat ((0 : Int), (0 : Int)))) else none) else none) else L9 q10 (w (q11 + (1 : Int))) q12) else none) else none) else (bif (decide (0 ≤ q10) && decide (q10 ≤ (q12.length : Int)) && decide ((q12.length : Int) ≤ (q12.length : Int))) then (bif (decide (0 ≤ (0 : Int)) && decide ((0 : Int) ≤ q10) && decide (q10 ≤ ((clr q12 ((0 : Int) + q10).toNat (((0 : Int) + q10) + (((0 : Int) + (q12.length : Int)) - ((0 : Int) + q10))).toNat ((0 : Int), (0 : Int))).length : Int))) then some ((clr q12 ((0 : Int) + q10).toNat (((0 : Int) + q10) + (((0 : Int) + (q12.length : Int)) - ((0 : Int) + q10))).toNat ((0 : Int), (0 : Int))).take ((0 : Int) + q10).toNat) else none) else none))
def f82_l9 (a0 : List tV) (q8 : Int) (n : Nat) (q10 q11 : Int) (q12 : List tV) : Option (List tV) :=
  iter (X := Int × Int × List tV) (fun L x => f82_b9 K a0 q8 (fun v0 v1 v2 => L (v0, v1, v2)) x.1 x.2.1 x.2.2) n (q10, q11, q12)
def f82_b7 (K : Nat) (a0 : List tV) (I9 : Int → Int → Int → (List tV) → Option (List tV)) (L7 : Int → Option (List tV)) (q8 : Int) : Option (List tV) :=
  (bif (decide (q8 < (a0.length : Int))) then (bif (decide (0 ≤ q8) && decide (q8 < (a0.length : Int))) then (bif (decide (0 ≤ (w (q8 - (1 : Int)))) && decide ((w (q8 - (1 : Int))) < (a0.length : Int))) then (bif (((a0.getD ((0 : Int) + q8).toNat ((0 : Int), (0 : Int))).1 == (a0.getD ((0 : Int) + (w (q8 - (1 : Int)))).toNat ((0 : Int), (0 : Int))).1) && ((a0.getD ((0 : Int) + q8).toNat ((0 : Int), (0 : Int))).2 == (a0.getD ((0 : Int) + (w (q8 - (1 : Int)))).toNat ((0 : Int), (0 : Int))).2)) then (bif (decide (0 ≤ q8) && decide (q8 ≤ (a0.length : Int)) && decide ((a0.length : Int) ≤ (a0.length : Int))) then I9 q8 q8 (1 : Int) a0 else none) else L7 (w (q8 + (1 : Int)))) else none) else none) else some a0)
def f82_l7 (a0 : List tV) (n : Nat) (q8 : Int) : Option (List tV) :=
  iter (X := Int) (fun L x => f82_b7 K a0 (fun c0 d0 d1 d2 => f82_l9 K a0 c0 K d0 d1 d2) (fun v0 => L v0) x) n q8
def f82_g (K : Nat) (a0 : List tV) (I7 : Int → Option (List tV)) : Option (List tV) :=
  (bif (decide ((a0.length : Int) < (2 : Int))) then some a0 else I7 (1 : Int))
def f82G (a0 : List tV) : Option (List tV) :=
  f82_g K a0 (fun d0 => f82_l7 K a0 K d0)
def f82M : Mdl := ⟨[(.mv, (.list 61 sV))], [(.list 61 sV)], fun x => f82G K x.1⟩
def f82_k7 (a0 : List tV) (lr : LR (List tV)) : Ex → Fr → Option (List tV) :=
  contC (f82E K) 1 lr f82C [1, 1, 0, 1, 0] (fM (f82E K) Tryz.f82 (f82M K) (a0, ()))
def f82_j7 (a0 : List tV) (lr : LR (List tV)) (bq8 : Int) : Option (List tV) :=
  lr (selC f82C [1, 1, 0, 1, 0, 0]) (f82_fr7 a0 bq8) (f82_k7 K a0 lr)
def f82_k9 (a0 : List tV) (F7 : Fr → Option (List tV)) (bq8 : Int) (lr : LR (List tV)) : Ex → Fr → Option (List tV) :=
  contC (f82E K) 1 lr (selC f82C [1, 1, 0, 1, 0, 0]) [1, 0, 0, 1, 0, 1, 0, 1, 0] (loopK 1 (f82_fr7 a0 bq8) F7 (f82_k7 K a0 lr))
def f82_j9 (a0 : List tV) (F7 : Fr → Option (List tV)) (bq8 : Int) (lr : LR (List tV)) (q8 bq10 bq11 : Int) (bq12 : List tV) : Option (List tV) :=
  lr (selC f82C [1, 1, 0, 1, 0, 0, 1, 0, 0, 1, 0, 1, 0, 1, 0, 0]) (f82_fr9 a0 q8 bq10 bq11 bq12) (f82_k9 K a0 F7 bq8 lr)
def f42E : Env := ⟨[(79, f79M K), (80, f80M K), (81, f81M K), (82, f82M K)], tys, eqs, mts, K, [0, 1, 2, 3, 5, 6, 7, 9, 11, 12, 13, 14], [], [], [], [], [(81, f81M K)], [], false⟩
def f42_b3 (a0 : Int × Int × Int) (a1 : List tM) (a2 : Int × Int) (L3 : Int → (List tV) → Option (List tV)) (q4 : Int) (q5 : List tV) : Option (List tV) :=
  (bif (decide (q4 < (a1.length : Int))) then (bif (decide (0 ≤ q4) && decide (q4 < (a1.length : Int))) then (f79G K a0 ((((a1.getD ((0 : Int) + q4).toNat zM).1).1, (((a1.getD ((0 : Int) + q4).toNat zM).1).2).1, ((((a1.getD ((0 : Int) + q4).toNat zM).1).2).2)), ((a1.getD ((0 : Int) + q4).toNat zM).2)) a2).bind fun y6 => (bif (Nat.ble (q5.length + [y6].length) (lim 16)) then L3 (w (q4 + (1 : Int))) (q5 ++ [y6]) else none) else none) else (f80G K q5 (fun z7 z8 => f81G K z7 z8)).bind fun y9 => (f82G K y9).bind fun y10 => some y10)
def f42_l3 (a0 : Int × Int × Int) (a1 : List tM) (a2 : Int × Int) (n : Nat) (q4 : Int) (q5 : List tV) : Option (List tV) :=
  iter (X := Int × List tV) (fun L x => f42_b3 K a0 a1 a2 (fun v0 v1 => L (v0, v1)) x.1 x.2) n (q4, q5)
def f42_g (K : Nat) (a0 : Int × Int × Int) (a1 : List tM) (a2 : Int × Int) (I3 : Int → (List tV) → Option (List tV)) : Option (List tV) :=
  I3 (0 : Int) []
def f42G (a0 : Int × Int × Int) (a1 : List tM) (a2 : Int × Int) : Option (List tV) :=
  f42_g K a0 a1 a2 (fun d0 d1 => f42_l3 K a0 a1 a2 K d0 d1)
def f42M : Mdl := ⟨[(.ro, sL), (.ro, (.list 63 sM)), (.ro, sV)], [(.list 61 sV)], fun x => f42G K x.1 x.2.1 x.2.2.1⟩
def f42_k3 (a0 : Int × Int × Int) (a1 : List tM) (a2 : Int × Int) (lr : LR (List tV)) : Ex → Fr → Option (List tV) :=
  contC (f42E K) 1 lr f42C [1, 1, 0, 1, 0] (fM (f42E K) Tryz.f42 (f42M K) (a0, a1, a2, ()))
def f42_j3 (a0 : Int × Int × Int) (a1 : List tM) (a2 : Int × Int) (lr : LR (List tV)) (bq4 : Int) (bq5 : List tV) : Option (List tV) :=
  lr (selC f42C [1, 1, 0, 1, 0, 0]) (f42_fr3 a0 a1 a2 bq4 bq5) (f42_k3 K a0 a1 a2 lr)
def f76E : Env := eE K [(41, f41M K), (42, f42M K), (44, f44M K), (78, f78M K), (120, f120M K)] [0, 1, 2, 4, 5, 6, 7, 9, 10, 12, 19, 20, 21, 22, 31, 36, 37, 38, 39]
def f76_b22 (a0 : Int × Int × Int) (a1 : List tM) (q17 : Int) (q18 : List (List tV)) (q19 : List Int) (y3 : List tV) (y20 : Int) (y21 : List tV) (L16 : Int → (List (List tV)) → (List Int) → Option ((List (List tV)) × List Int)) (L22 : Int → (List Int) → Option ((List (List tV)) × List Int)) (q23 : Int) (q24 : List Int) : Option ((List (List tV)) × List Int) :=
  (bif (decide (q23 < (y21.length : Int))) then (bif (decide (0 ≤ q23) && decide (q23 < (y21.length : Int))) then (f44G K a0 (y21.getD ((0 : Int) + q23).toNat ((0 : Int), (0 : Int)))).bind fun y25 => (bif (decide (0 ≤ y25) && decide (y25 < (q24.length : Int))) then L22 (w (q23 + (1 : Int))) (q24.set ((0 : Int) + y25).toNat (q18.length : Int)) else none) else none) else (bif (Nat.ble (q18.length + [y21].length) (lim 24)) then L16 (w (q17 + (1 : Int))) (q18 ++ [y21]) q24 else none))
def f76_l22 (a0 : Int × Int × Int) (a1 : List tM) (q17 : Int) (q18 : List (List tV)) (q19 : List Int) (y3 : List tV) (y20 : Int) (y21 : List tV) (L16 : Int → (List (List tV)) → (List Int) → Option ((List (List tV)) × List Int)) (n : Nat) (q23 : Int) (q24 : List Int) : Option ((List (List tV)) × List Int) :=
  iter (X := Int × List Int) (fun L x => f76_b22 K a0 a1 q17 q18 q19 y3 y20 y21 L16 (fun v0 v1 => L (v0, v1)) x.1 x.2) n (q23, q24)
def f76_b16 (a0 : Int × Int × Int) (a1 : List tM) (y3 : List tV) (I22 : Int → (List (List tV)) → (List Int) → Int → (List tV) → Int → (List Int) → Option ((List (List tV)) × List Int)) (L16 : Int → (List (List tV)) → (List Int) → Option ((List (List tV)) × List Int)) (q17 : Int) (q18 : List (List tV)) (q19 : List Int) : Option ((List (List tV)) × List Int) :=
  (bif (decide (q17 < (y3.length : Int))) then (bif (decide (0 ≤ q17) && decide (q17 < (y3.length : Int))) then (f44G K a0 (y3.getD ((0 : Int) + q17).toNat ((0 : Int), (0 : Int)))).bind fun y20 => (bif (decide (0 ≤ y20) && decide (y20 < (q19.length : Int))) then (bif (decide ((q19.getD ((0 : Int) + y20).toNat (0 : Int)) ≥ (0 : Int))) then L16 (w (q17 + (1 : Int))) q18 q19 else (f42G K a0 a1 (y3.getD ((0 : Int) + q17).toNat ((0 : Int), (0 : Int)))).bind fun y21 => I22 q17 q18 q19 y20 y21 (0 : Int) q19) else none) else none) else some (q18, q19))
def f76_l16 (a0 : Int × Int × Int) (a1 : List tM) (y3 : List tV) (n : Nat) (q17 : Int) (q18 : List (List tV)) (q19 : List Int) : Option ((List (List tV)) × List Int) :=
  iter (X := Int × List (List tV) × List Int) (fun L x => (fun L16 => f76_b16 K a0 a1 y3 (fun c0 c1 c2 c3 c4 d0 d1 => f76_l22 K a0 a1 c0 c1 c2 y3 c3 c4 L16 K d0 d1) L16 x.1 x.2.1 x.2.2) (fun v0 v1 v2 => L (v0, v1, v2))) n (q17, q18, q19)
def f76_g (a0 : Int × Int × Int) (a1 : List tM) (I16 : (List tV) → Int → (List (List tV)) → (List Int) → Option ((List (List tV)) × List Int)) : Option ((List (List tV)) × List Int) :=
  (f78G K a0).bind fun y1 => (f120G K [(-1 : Int)] y1).bind fun y2 => (f41G K a0).bind fun y3 => I16 y3 (0 : Int) [] y2
def f76G (a0 : Int × Int × Int) (a1 : List tM) : Option ((List (List tV)) × List Int) :=
  f76_g K a0 a1 (fun c0 d0 d1 d2 => f76_l16 K a0 a1 c0 K d0 d1 d2)
def f76M : Mdl := ⟨[(.ro, sL), (.ro, (.list 63 sM))], [(.list 77 (.list 61 sV)), (.list 2 sI)], fun x => f76G K x.1 x.2.1⟩
def f76_k16 (a0 : Int × Int × Int) (a1 : List tM) (lr : LR ((List (List tV)) × List Int)) : Ex → Fr → Option ((List (List tV)) × List Int) :=
  contC (f76E K) 1 lr f76C [1, 1, 0, 1, 0] (fM (f76E K) Tryz.f76 (f76M K) (a0, a1, ()))
def f76_j16 (a0 : Int × Int × Int) (a1 : List tM) (lr : LR ((List (List tV)) × List Int)) (y3 : List tV) (bq17 : Int) (bq18 : List (List tV)) (bq19 : List Int) : Option ((List (List tV)) × List Int) :=
  lr (selC f76C [1, 1, 0, 1, 0, 0]) (f76_fr16 a0 a1 y3 bq17 bq18 bq19) (f76_k16 K a0 a1 lr)
def f76_k22 (a0 : Int × Int × Int) (a1 : List tM) (y3 : List tV) (F16 : Fr → Option ((List (List tV)) × List Int)) (bq17 : Int) (bq18 : List (List tV)) (bq19 : List Int) (lr : LR ((List (List tV)) × List Int)) : Ex → Fr → Option ((List (List tV)) × List Int) :=
  contC (f76E K) 1 lr (selC f76C [1, 1, 0, 1, 0, 0]) [1, 1, 0, 0, 1, 1, 1, 0, 1, 0] (loopK 1 (f76_fr16 a0 a1 y3 bq17 bq18 bq19) F16 (f76_k16 K a0 a1 lr))
def f76_j22 (a0 : Int × Int × Int) (a1 : List tM) (y3 : List tV) (F16 : Fr → Option ((List (List tV)) × List Int)) (bq17 : Int) (bq18 : List (List tV)) (bq19 : List Int) (lr : LR ((List (List tV)) × List Int)) (q17 : Int) (q18 : List (List tV)) (q19 : List Int) (y20 : Int) (y21 : List tV) (bq23 : Int) (bq24 : List Int) : Option ((List (List tV)) × List Int) :=
  lr (selC f76C [1, 1, 0, 1, 0, 0, 1, 1, 0, 0, 1, 1, 1, 0, 1, 0, 0]) (f76_fr22 a0 a1 q17 q18 q19 y3 y20 y21 bq23 bq24) (f76_k22 K a0 a1 y3 F16 bq17 bq18 bq19 lr)
def f77E : Env := eE K [(43, f43M K), (44, f44M K)] [0, 1, 2, 3, 4]
def f77G (a0 : tV × Int) (a1 : List Int) (a2 : Int × Int × Int) : Option Int :=
  (f43G K a2 a0.1).bind fun y1 => (f44G K a2 y1).bind fun y2 => (bif (decide (0 ≤ y2) && decide (y2 < (a1.length : Int))) then some (a1.getD ((0 : Int) + y2).toNat (0 : Int)) else none)
def f77M : Mdl := ⟨[(.ro, (.cons sV sI)), (.cap, (.list 2 sI)), (.cap, sL)], [sI], fun x => f77G K x.1 x.2.1 x.2.2.1⟩
def f39E : Env := eE K [(76, f76M K), (77, f77M K)] [0, 1, 2, 3, 6, 7, 8, 10, 11, 12, 13, 14, 15, 23, 24, 25, 26, 32, 33, 34, 35, 52]
def f39_b12 (a0 : Int × Int × Int) (a1 : List tM) (a2 : List (tV × Int)) (q11 : Int) (y1 : (List (List tV)) × List Int) (L10 L12 : Int → Option (Int × Int × Bool)) (q13 : Int) : Option (Int × Int × Bool) :=
  (bif (decide (q13 < (((0 : Int) + q11) - (0 : Int)))) then (bif (decide (0 ≤ q13) && decide (q13 < (((0 : Int) + q11) - (0 : Int)))) then ((bif ((a2.getD ((0 : Int) + q13).toNat (((0 : Int), (0 : Int)), (0 : Int))).2 != (a2.getD ((0 : Int) + q11).toNat (((0 : Int), (0 : Int)), (0 : Int))).2) then f77G K (((a2.getD ((0 : Int) + q13).toNat (((0 : Int), (0 : Int)), (0 : Int))).1), (a2.getD ((0 : Int) + q13).toNat (((0 : Int), (0 : Int)), (0 : Int))).2) y1.2 a0 else some (0 : Int))).bind fun y14 => ((bif ((a2.getD ((0 : Int) + q13).toNat (((0 : Int), (0 : Int)), (0 : Int))).2 != (a2.getD ((0 : Int) + q11).toNat (((0 : Int), (0 : Int)), (0 : Int))).2) then f77G K (((a2.getD ((0 : Int) + q11).toNat (((0 : Int), (0 : Int)), (0 : Int))).1), (a2.getD ((0 : Int) + q11).toNat (((0 : Int), (0 : Int)), (0 : Int))).2) y1.2 a0 else some (0 : Int))).bind fun y15 => (bif (bif ((a2.getD ((0 : Int) + q13).toNat (((0 : Int), (0 : Int)), (0 : Int))).2 != (a2.getD ((0 : Int) + q11).toNat (((0 : Int), (0 : Int)), (0 : Int))).2) then (y14 == y15) else false) then some (q13, q11, true) else L12 (w (q13 + (1 : Int)))) else none) else L10 (w (q11 + (1 : Int))))
def f39_l12 (a0 : Int × Int × Int) (a1 : List tM) (a2 : List (tV × Int)) (q11 : Int) (y1 : (List (List tV)) × List Int) (L10 : Int → Option (Int × Int × Bool)) (n : Nat) (q13 : Int) : Option (Int × Int × Bool) :=
  iter (X := Int) (fun L x => f39_b12 K a0 a1 a2 q11 y1 L10 (fun v0 => L v0) x) n q13
def f39_b10 (K : Nat) (a0 : Int × Int × Int) (a1 : List tM) (a2 : List (tV × Int)) (y1 : (List (List tV)) × List Int) (I12 : Int → Int → Option (Int × Int × Bool)) (L10 : Int → Option (Int × Int × Bool)) (q11 : Int) : Option (Int × Int × Bool) :=
  (bif (decide (q11 < (a2.length : Int))) then (bif (decide (0 ≤ q11) && decide (q11 < (a2.length : Int))) then (bif (decide (0 ≤ (0 : Int)) && decide ((0 : Int) ≤ q11) && decide (q11 ≤ (a2.length : Int))) then I12 q11 (0 : Int) else none) else none) else some ((0 : Int), (0 : Int), false))
def f39_l10 (a0 : Int × Int × Int) (a1 : List tM) (a2 : List (tV × Int)) (y1 : (List (List tV)) × List Int) (n : Nat) (q11 : Int) : Option (Int × Int × Bool) :=
  iter (X := Int) (fun L x => (fun L10 => f39_b10 K a0 a1 a2 y1 (fun c0 d0 => f39_l12 K a0 a1 a2 c0 y1 L10 K d0) L10 x) (fun v0 => L v0)) n q11
def f39_g (a0 : Int × Int × Int) (a1 : List tM) (a2 : List (tV × Int)) (I10 : ((List (List tV)) × List Int) → Int → Option (Int × Int × Bool)) : Option (Int × Int × Bool) :=
  (f76G K a0 a1).bind fun y1 => I10 y1 (0 : Int)
def f39G (a0 : Int × Int × Int) (a1 : List tM) (a2 : List (tV × Int)) : Option (Int × Int × Bool) :=
  f39_g K a0 a1 a2 (fun c0 d0 => f39_l10 K a0 a1 a2 c0 K d0)
def f39M : Mdl := ⟨[(.ro, sL), (.ro, (.list 63 sM)), (.ro, (.list 73 (.cons sV sI)))], [sI, sI, .bool], fun x => f39G K x.1 x.2.1 x.2.2.1⟩
def f39_k10 (a0 : Int × Int × Int) (a1 : List tM) (a2 : List (tV × Int)) (lr : LR (Int × Int × Bool)) : Ex → Fr → Option (Int × Int × Bool) :=
  contC (f39E K) 2 lr f39C [1, 1, 1, 0, 1, 0] (fM (f39E K) Tryz.f39 (f39M K) (a0, a1, a2, ()))
def f39_j10 (a0 : Int × Int × Int) (a1 : List tM) (a2 : List (tV × Int)) (lr : LR (Int × Int × Bool)) (y1 : (List (List tV)) × List Int) (bq11 : Int) : Option (Int × Int × Bool) :=
  lr (selC f39C [1, 1, 1, 0, 1, 0, 0]) (f39_fr10 a0 a1 a2 y1 bq11) (f39_k10 K a0 a1 a2 lr)
def f39_k12 (a0 : Int × Int × Int) (a1 : List tM) (a2 : List (tV × Int)) (y1 : (List (List tV)) × List Int) (F10 : Fr → Option (Int × Int × Bool)) (bq11 : Int) (lr : LR (Int × Int × Bool)) : Ex → Fr → Option (Int × Int × Bool) :=
  contC (f39E K) 2 lr (selC f39C [1, 1, 1, 0, 1, 0, 0]) [1, 1, 0, 0, 1, 1, 0] (loopK 2 (f39_fr10 a0 a1 a2 y1 bq11) F10 (f39_k10 K a0 a1 a2 lr))
def f39_j12 (a0 : Int × Int × Int) (a1 : List tM) (a2 : List (tV × Int)) (y1 : (List (List tV)) × List Int) (F10 : Fr → Option (Int × Int × Bool)) (bq11 : Int) (lr : LR (Int × Int × Bool)) (q11 bq13 : Int) : Option (Int × Int × Bool) :=
  lr (selC f39C [1, 1, 1, 0, 1, 0, 0, 1, 1, 0, 0, 1, 1, 0, 0]) (f39_fr12 a0 a1 a2 q11 y1 bq13) (f39_k12 K a0 a1 a2 y1 F10 bq11 lr)
def f40E : Env := eE K [(44, f44M K), (78, f78M K)] [0, 1, 2, 3, 5, 8, 9, 11, 18, 19, 20, 21]
def f40_b4 (a0 : Int) (a1 : Int × Int × Int) (a2 : List tV) (a3 : Int) (L4 : Int → (List Int) → Option (Int × tL × List Int)) (q5 : Int) (q6 : List Int) : Option (Int × tL × List Int) :=
  (bif (decide (q5 < (a2.length : Int))) then (bif (decide (0 ≤ q5) && decide (q5 < (a2.length : Int))) then (f44G K a1 (a2.getD ((0 : Int) + q5).toNat ((0 : Int), (0 : Int)))).bind fun y7 => (bif (decide (0 ≤ y7) && decide (y7 < (q6.length : Int))) then L4 (w (q5 + (1 : Int))) (q6.set ((0 : Int) + y7).toNat a3) else none) else none) else some (a0, a1, q6))
def f40_l4 (a0 : Int) (a1 : Int × Int × Int) (a2 : List tV) (a3 : Int) (n : Nat) (q5 : Int) (q6 : List Int) : Option (Int × tL × List Int) :=
  iter (X := Int × List Int) (fun L x => f40_b4 K a0 a1 a2 a3 (fun v0 v1 => L (v0, v1)) x.1 x.2) n (q5, q6)
def f40_g (a0 : Int) (a1 : Int × Int × Int) (a2 : List tV) (a3 : Int) (I4 : Int → (List Int) → Option (Int × tL × List Int)) : Option (Int × tL × List Int) :=
  (f78G K a1).bind fun y1 => (bif (decide (0 ≤ y1) && Nat.ble y1.toNat (lim 8) && (y1 == y1)) then I4 (0 : Int) (List.replicate y1.toNat (0 : Int)) else none)
def f40G (a0 : Int) (a1 : Int × Int × Int) (a2 : List tV) (a3 : Int) : Option (Int × tL × List Int) :=
  f40_g K a0 a1 a2 a3 (fun d0 d1 => f40_l4 K a0 a1 a2 a3 K d0 d1)
def f40M : Mdl := ⟨[(.ro, sI), (.ro, sL), (.ro, (.list 61 sV)), (.ro, sI)], [(.cons sI (.cons sL (.list 2 sI)))], fun x => f40G K x.1 x.2.1 x.2.2.1 x.2.2.2.1⟩
def f40_k4 (a0 : Int) (a1 : Int × Int × Int) (a2 : List tV) (a3 : Int) (lr : LR (Int × tL × List Int)) : Ex → Fr → Option (Int × tL × List Int) :=
  contC (f40E K) 1 lr f40C [1, 1, 0, 1, 0] (fM (f40E K) Tryz.f40 (f40M K) (a0, a1, a2, a3, ()))
def f40_j4 (a0 : Int) (a1 : Int × Int × Int) (a2 : List tV) (a3 : Int) (lr : LR (Int × tL × List Int)) (bq5 : Int) (bq6 : List Int) : Option (Int × tL × List Int) :=
  lr (selC f40C [1, 1, 0, 1, 0, 0]) (f40_fr4 a0 a1 a2 a3 bq5 bq6) (f40_k4 K a0 a1 a2 a3 lr)
def f16E : Env := eE K [(37, f37M K), (38, f38M K), (39, f39M K), (40, f40M K), (41, f41M K), (42, f42M K), (43, f43M K), (44, f44M K)] [0, 1, 2, 3, 4, 6, 10, 11, 12, 15, 16, 18, 20, 27, 32, 42, 50, 51, 52, 53, 62, 63, 64, 65]
def f16_b20 (a0 : Int) (a1 : Int × Int × Int) (a2 : List tM) (a3 : List (tV × Int)) (a4 q16 y1 : Int) (y2 : Bool) (y3 : Int × Int × Bool) (y5 : Int × tL × List Int) (y19 : List tV) (L15 : Int → (List Int) → Option ((Int × tL × List Int) × Int)) (L20 : Int → (List Int) → Option ((Int × tL × List Int) × Int)) (q21 : Int) (q22 : List Int) : Option ((Int × tL × List Int) × Int) :=
  (bif (decide (q21 < (y19.length : Int))) then (bif (decide (0 ≤ q21) && decide (q21 < (y19.length : Int))) then (f44G K a1 (y19.getD ((0 : Int) + q21).toNat ((0 : Int), (0 : Int)))).bind fun y23 => (bif (decide (0 ≤ y23) && decide (y23 < (q22.length : Int))) then L20 (w (q21 + (1 : Int))) (q22.set ((0 : Int) + y23).toNat ((a3.getD ((0 : Int) + q16).toNat (((0 : Int), (0 : Int)), (0 : Int))).2)) else none) else none) else L15 (w (q16 + (1 : Int))) q22)
def f16_l20 (a0 : Int) (a1 : Int × Int × Int) (a2 : List tM) (a3 : List (tV × Int)) (a4 q16 y1 : Int) (y2 : Bool) (y3 : Int × Int × Bool) (y5 : Int × tL × List Int) (y19 : List tV) (L15 : Int → (List Int) → Option ((Int × tL × List Int) × Int)) (n : Nat) (q21 : Int) (q22 : List Int) : Option ((Int × tL × List Int) × Int) :=
  iter (X := Int × List Int) (fun L x => f16_b20 K a0 a1 a2 a3 a4 q16 y1 y2 y3 y5 y19 L15 (fun v0 v1 => L (v0, v1)) x.1 x.2) n (q21, q22)
def f16_b15 (a0 : Int) (a1 : Int × Int × Int) (a2 : List tM) (a3 : List (tV × Int)) (a4 y1 : Int) (y2 : Bool) (y3 : Int × Int × Bool) (y5 : Int × tL × List Int) (I20 : Int → (List tV) → Int → (List Int) → Option ((Int × tL × List Int) × Int)) (L15 : Int → (List Int) → Option ((Int × tL × List Int) × Int)) (q16 : Int) (q17 : List Int) : Option ((Int × tL × List Int) × Int) :=
  (bif (decide (q16 < (a3.length : Int))) then (bif (decide (0 ≤ q16) && decide (q16 < (a3.length : Int))) then (f43G K a1 ((a3.getD ((0 : Int) + q16).toNat (((0 : Int), (0 : Int)), (0 : Int))).1)).bind fun y18 => (f42G K a1 a2 y18).bind fun y19 => I20 q16 y19 (0 : Int) q17 else none) else some ((y5.1, y5.2.1, q17), (0 : Int)))
def f16_l15 (a0 : Int) (a1 : Int × Int × Int) (a2 : List tM) (a3 : List (tV × Int)) (a4 y1 : Int) (y2 : Bool) (y3 : Int × Int × Bool) (y5 : Int × tL × List Int) (n : Nat) (q16 : Int) (q17 : List Int) : Option ((Int × tL × List Int) × Int) :=
  iter (X := Int × List Int) (fun L x => (fun L15 => f16_b15 K a0 a1 a2 a3 a4 y1 y2 y3 y5 (fun c0 c1 d0 d1 => f16_l20 K a0 a1 a2 a3 a4 c0 y1 y2 y3 y5 c1 L15 K d0 d1) L15 x.1 x.2) (fun v0 v1 => L (v0, v1))) n (q16, q17)
def f16_g (a0 : Int) (a1 : Int × Int × Int) (a2 : List tM) (a3 : List (tV × Int)) (a4 : Int) (I15 : Int → Bool → (Int × Int × Bool) → (Int × tL × List Int) → Int → (List Int) → Option ((Int × tL × List Int) × Int)) : Option ((Int × tL × List Int) × Int) :=
  (f37G K a0 a1 a2 a3).bind fun y1 => (bif (y1 != (0 : Int)) then some (((0 : Int), ((0 : Int), (0 : Int), (0 : Int)), []), y1) else (f38G K a4).bind fun y2 => (bif (!y2) then some (((0 : Int), ((0 : Int), (0 : Int), (0 : Int)), []), (2 : Int)) else (f39G K a1 a2 a3).bind fun y3 => (bif y3.2.2 then some (((0 : Int), ((0 : Int), (0 : Int), (0 : Int)), []), (5 : Int)) else (f41G K a1).bind fun y4 => (f40G K a0 a1 y4 a4).bind fun y5 => I15 y1 y2 y3 y5 (0 : Int) y5.2.2)))
def f16G (a0 : Int) (a1 : Int × Int × Int) (a2 : List tM) (a3 : List (tV × Int)) (a4 : Int) : Option ((Int × tL × List Int) × Int) :=
  f16_g K a0 a1 a2 a3 a4 (fun c0 c1 c2 c3 d0 d1 => f16_l15 K a0 a1 a2 a3 a4 c0 c1 c2 c3 K d0 d1)
def f16M : Mdl := ⟨[(.ro, sI), (.ro, sL), (.ro, (.list 63 sM)), (.ro, (.list 73 (.cons sV sI))), (.ro, sI)], [(.cons sI (.cons sL (.list 2 sI))), sI], fun x => f16G K x.1 x.2.1 x.2.2.1 x.2.2.2.1 x.2.2.2.2.1⟩
def f16_k15 (a0 : Int) (a1 : Int × Int × Int) (a2 : List tM) (a3 : List (tV × Int)) (a4 : Int) (lr : LR ((Int × tL × List Int) × Int)) : Ex → Fr → Option ((Int × tL × List Int) × Int) :=
  contC (f16E K) 2 lr f16C [1, 1, 1, 1, 1, 0, 1, 0] (fM (f16E K) Tryz.f16 (f16M K) (a0, a1, a2, a3, a4, ()))
def f16_j15 (a0 : Int) (a1 : Int × Int × Int) (a2 : List tM) (a3 : List (tV × Int)) (a4 : Int) (lr : LR ((Int × tL × List Int) × Int)) (y1 : Int) (y2 : Bool) (y3 : Int × Int × Bool) (y5 : Int × tL × List Int) (bq16 : Int) (bq17 : List Int) : Option ((Int × tL × List Int) × Int) :=
  lr (selC f16C [1, 1, 1, 1, 1, 0, 1, 0, 0]) (f16_fr15 a0 a1 a2 a3 a4 y1 y2 y3 y5 bq16 bq17) (f16_k15 K a0 a1 a2 a3 a4 lr)
def f16_k20 (a0 : Int) (a1 : Int × Int × Int) (a2 : List tM) (a3 : List (tV × Int)) (a4 y1 : Int) (y2 : Bool) (y3 : Int × Int × Bool) (y5 : Int × tL × List Int) (F15 : Fr → Option ((Int × tL × List Int) × Int)) (bq16 : Int) (bq17 : List Int) (lr : LR ((Int × tL × List Int) × Int)) : Ex → Fr → Option ((Int × tL × List Int) × Int) :=
  contC (f16E K) 2 lr (selC f16C [1, 1, 1, 1, 1, 0, 1, 0, 0]) [1, 1, 0, 0, 1, 1, 0] (loopK 2 (f16_fr15 a0 a1 a2 a3 a4 y1 y2 y3 y5 bq16 bq17) F15 (f16_k15 K a0 a1 a2 a3 a4 lr))
def f16_j20 (a0 : Int) (a1 : Int × Int × Int) (a2 : List tM) (a3 : List (tV × Int)) (a4 y1 : Int) (y2 : Bool) (y3 : Int × Int × Bool) (y5 : Int × tL × List Int) (F15 : Fr → Option ((Int × tL × List Int) × Int)) (bq16 : Int) (bq17 : List Int) (lr : LR ((Int × tL × List Int) × Int)) (q16 : Int) (y19 : List tV) (bq21 : Int) (bq22 : List Int) : Option ((Int × tL × List Int) × Int) :=
  lr (selC f16C [1, 1, 1, 1, 1, 0, 1, 0, 0, 1, 1, 0, 0, 1, 1, 0, 0]) (f16_fr20 a0 a1 a2 a3 a4 q16 y1 y2 y3 y5 y19 bq21 bq22) (f16_k20 K a0 a1 a2 a3 a4 y1 y2 y3 y5 F15 bq16 bq17 lr)
def f7E : Env := ⟨[(13, f13M K), (14, f14M K), (16, f16M K), (17, f17M K)], tys, eqs, mts, K, [0, 2, 3, 4, 5, 6, 7, 8, 10, 11, 12, 13, 16, 28, 33, 35, 36, 37, 38, 45, 57, 78], [], [], [(15, f15M K)], [], [], [], false⟩
def f7_b5 (a0 : ByteArray) (y1 : ByteArray × Bool) (y2 : List ByteArray) (L5 : Int → Int → Int → Int → Int → Int → (List tM) → (List (tV × Int)) → Option (Option (Int × Int × tL × (List tM) × List (tV × Int)) × (Int × tL × List Int) × Int × Int)) (q6 q7 q8 q9 q10 q11 : Int) (q12 : List tM) (q13 : List (tV × Int)) : Option (Option (Int × Int × tL × (List tM) × List (tV × Int)) × (Int × tL × List Int) × Int × Int) :=
  (bif (decide (q6 < (y2.length : Int))) then (bif (decide (0 ≤ q6) && decide (q6 < (y2.length : Int))) then (f15G K (q7, q8, (q9, q10, q11), q12, q13) (y2.getD ((0 : Int) + q6).toNat ByteArray.empty)).bind fun y14 => (bif (y14.2 != (0 : Int)) then some (none, (((0 : Int), ((0 : Int), (0 : Int), (0 : Int)), []), y14.1.1, y14.2)) else L5 (w (q6 + (1 : Int))) y14.1.1 y14.1.2.1 y14.1.2.2.1.1 y14.1.2.2.1.2.1 y14.1.2.2.1.2.2 y14.1.2.2.2.1 y14.1.2.2.2.2) else none) else (bif (decide (q7 < (2 : Int))) then some (none, (((0 : Int), ((0 : Int), (0 : Int), (0 : Int)), []), (0 : Int), (4 : Int))) else (f17G K (q7, q8, (q9, q10, q11), q12, q13)).bind fun y15 => (f16G K q8 (q9, q10, q11) y15 q13 (0 : Int)).bind fun y16 => (bif (y16.2 != (0 : Int)) then some (none, (((0 : Int), ((0 : Int), (0 : Int), (0 : Int)), []), (0 : Int), (1 : Int))) else some ((some (q7, q8, (q9, q10, q11), q12, q13)), (y16.1, (0 : Int), (0 : Int))))))
def f7_l5 (a0 : ByteArray) (y1 : ByteArray × Bool) (y2 : List ByteArray) (n : Nat) (q6 q7 q8 q9 q10 q11 : Int) (q12 : List tM) (q13 : List (tV × Int)) : Option (Option (Int × Int × tL × (List tM) × List (tV × Int)) × (Int × tL × List Int) × Int × Int) :=
  iter (X := Int × Int × Int × Int × Int × Int × List tM × List (tV × Int)) (fun L x => f7_b5 K a0 y1 y2 (fun v0 v1 v2 v3 v4 v5 v6 v7 => L (v0, v1, v2, v3, v4, v5, v6, v7)) x.1 x.2.1 x.2.2.1 x.2.2.2.1 x.2.2.2.2.1 x.2.2.2.2.2.1 x.2.2.2.2.2.2.1 x.2.2.2.2.2.2.2) n (q6, q7, q8, q9, q10, q11, q12, q13)
def f7_g (a0 : ByteArray) (I5 : (ByteArray × Bool) → (List ByteArray) → Int → Int → Int → Int → Int → Int → (List tM) → (List (tV × Int)) → Option (Option (Int × Int × tL × (List tM) × List (tV × Int)) × (Int × tL × List Int) × Int × Int)) : Option (Option (Int × Int × tL × (List tM) × List (tV × Int)) × (Int × tL × List Int) × Int × Int) :=
  (bif (decide ((a0.size : Int) > (3000 : Int))) then some (none, (((0 : Int), ((0 : Int), (0 : Int), (0 : Int)), []), (0 : Int), (3 : Int))) else (f13G K a0 (bs [10])).bind fun y1 => (bif (bif (a0 != ByteArray.empty) then (!y1.2) else false) then some (none, (((0 : Int), ((0 : Int), (0 : Int), (0 : Int)), []), (0 : Int), (6 : Int))) else (bif (a0 != ByteArray.empty) then (f14G K y1.1 (bs [10])).bind fun y2 => I5 y1 y2 (0 : Int) (0 : Int) (0 : Int) (0 : Int) (0 : Int) (0 : Int) [] [] else (bif (decide ((0 : Int) < (2 : Int))) then some (none, (((0 : Int), ((0 : Int), (0 : Int), (0 : Int)), []), (0 : Int), (4 : Int))) else (f17G K ((0 : Int), (0 : Int), ((0 : Int), (0 : Int), (0 : Int)), [], [])).bind fun y17 => (f16G K (0 : Int) ((0 : Int), (0 : Int), (0 : Int)) y17 [] (0 : Int)).bind fun y18 => (bif (y18.2 != (0 : Int)) then some (none, (((0 : Int), ((0 : Int), (0 : Int), (0 : Int)), []), (0 : Int), (1 : Int))) else some ((some ((0 : Int), (0 : Int), ((0 : Int), (0 : Int), (0 : Int)), [], [])), (y18.1, (0 : Int), (0 : Int))))))))
def f7G (a0 : ByteArray) : Option (Option (Int × Int × tL × (List tM) × List (tV × Int)) × (Int × tL × List Int) × Int × Int) :=
  f7_g K a0 (fun c0 c1 d0 d1 d2 d3 d4 d5 d6 d7 => f7_l5 K a0 c0 c1 K d0 d1 d2 d3 d4 d5 d6 d7)
def f7M : CMdl := ⟨(.cons sI (.cons sI (.cons sL (.cons (.list 63 sM) (.list 73 (.cons sV sI)))))), [(.ro, .str)], [(.cons sI (.cons sL (.list 2 sI))), sI, sI], fun x => f7G K x.1⟩
def f7_k5 (a0 : ByteArray) (lr : LR (Option (Int × Int × tL × (List tM) × List (tV × Int)) × (Int × tL × List Int) × Int × Int)) : Ex → Fr → Option (Option (Int × Int × tL × (List tM) × List (tV × Int)) × (Int × tL × List Int) × Int × Int) :=
  contC (f7E K) 0 lr f7C [1, 1, 1, 1, 1, 0, 1, 0, 1, 0] (finC (f7E K) Tryz.f7 (.cons sI (.cons sI (.cons sL (.cons (.list 63 sM) (.list 73 (.cons sV sI)))))) [(.cons sI (.cons sL (.list 2 sI))), sI, sI])
def f7_j5 (a0 : ByteArray) (lr : LR (Option (Int × Int × tL × (List tM) × List (tV × Int)) × (Int × tL × List Int) × Int × Int)) (y1 : ByteArray × Bool) (y2 : List ByteArray) (bq6 bq7 bq8 bq9 bq10 bq11 : Int) (bq12 : List tM) (bq13 : List (tV × Int)) : Option (Option (Int × Int × tL × (List tM) × List (tV × Int)) × (Int × tL × List Int) × Int × Int) :=
  lr (selC f7C [1, 1, 1, 1, 1, 0, 1, 0, 1, 0, 0]) (f7_fr5 a0 y1 y2 bq6 bq7 bq8 bq9 bq10 bq11 bq12 bq13) (f7_k5 K a0 lr)
def f5E : Env := ⟨[], tys, eqs, mts, K, [0, 2, 3, 4, 7, 16], [], [], [], [(7, f7M K)], [], [], false⟩
def f5G (a0 : ByteArray) : Option tV :=
  (f7G K a0).bind fun y1 => optK y1.1 ((bif (y1.2.2.2 != (0 : Int)) then some ((0 : Int), y1.2.2.2) else none)) (fun z2 => (bif (y1.2.2.2 != (0 : Int)) then some ((0 : Int), y1.2.2.2) else some (z2.1, (0 : Int))))
def f5M : Mdl := ⟨[(.ro, .str)], [sI, sI], fun x => f5G K x.1⟩
def f3E : Env := eE K [(4, f4M K), (5, f5M K)] [0, 2, 3, 4, 5, 6, 9, 27]
def f3G (a0 : ByteArray) : Option Bool :=
  (bif (decide ((a0.size : Int) > (1048576 : Int))) then some true else (f4G K a0).bind fun y1 => (f5G K a0).bind fun y2 => (bif (bif (y2.1 != y1.1) then true else (y2.2 != y1.2)) then some false else some true))
def f3M : Mdl := ⟨[(.ro, .str)], [.bool], fun x => f3G K x.1⟩
end
end Go.Proofs.YtakemdehgdpplaaGreatDoor.X
