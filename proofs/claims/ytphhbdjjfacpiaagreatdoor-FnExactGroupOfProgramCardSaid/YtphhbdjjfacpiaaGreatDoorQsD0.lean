/- Functions of the program as plain Lean functions, and that the program does what they say. Printed by gen.py. -/
import Derived.Test.YtphhbdjjfacpiaaGreatDoorQzXLoop
import Derived.Test.YtphhbdjjfacpiaaGreatDoorQzXLib
import Derived.Test.YtphhbdjjfacpiaaGreatDoorQzXStr
import Derived.Test.YtphhbdjjfacpiaaGreatDoorProg
namespace Go.Proofs.YtphhbdjjfacpiaaGreatDoor.X
open Go
set_option maxRecDepth 100000
attribute [local instance] cwD
set_option linter.unusedVariables false
abbrev tM : Type := ((Int × Int × Int × Int) × Int × Int)
abbrev tA : Type := (Int × Int × Int × Int)
abbrev tL : Type := (Int × Int × Int)
abbrev tV : Type := (Int × Int)
abbrev sM : Sh := (.cons (.cons (.int .i64) (.cons (.int .i64) (.cons (.int .i64) (.int .i64)))) (.cons (.int .i64) (.int .i64)))
abbrev sA : Sh := (.cons (.int .i64) (.cons (.int .i64) (.cons (.int .i64) (.int .i64))))
abbrev sL : Sh := (.cons (.int .i64) (.cons (.int .i64) (.int .i64)))
abbrev sV : Sh := (.cons (.int .i64) (.int .i64))
abbrev sI : Sh := (.int .i64)
abbrev zM : tM := (((0 : Int), ((0 : Int), ((0 : Int), (0 : Int)))), ((0 : Int), (0 : Int)))
abbrev zA : tA := ((0 : Int), ((0 : Int), ((0 : Int), (0 : Int))))
noncomputable section
def tys : List (Nat × Ty) := [(2, .sc sI), (3, .sc sI), (4, .sc .bool), (5, .sc (.int .u8)), (9, .sc .str), (22, .sl 49 sM 48), (29, .st sL [(0, 1), (1, 1), (2, 1)]), (30, .sl 82 (.cons sV sI) 24), (32, .st (.cons sI (.cons sL (.cons sI (.cons (.list 49 sM) (.list 82 (.cons sV sI)))))) [(0, 1), (1, 3), (4, 1), (5, 1), (6, 1)]), (37, .sl 2 sI 8), (39, .st (.cons sI (.cons sL (.list 2 sI))) [(0, 1), (1, 3), (4, 1)]), (45, .st sA [(0, 1), (1, 1), (2, 1), (3, 1)]), (47, .st sV [(0, 1), (1, 1)]), (49, .st sM [(0, 4), (4, 2)]), (50, .sl 9 .str 16), (65, .st (.cons sI (.cons sI (.cons sL (.cons (.list 49 sM) (.list 82 (.cons sV sI)))))) [(0, 1), (1, 1), (2, 3), (5, 1), (6, 1)]), (82, .st (.cons sV sI) [(0, 2), (2, 1)]), (84, .sl 86 (.list 47 sV) 24), (86, .sl 47 sV 16), (142, .sc (.int .u64)), (147, .sl 5 (.int .u8) 1), (159, .sl 45 sA 32), (161, .sl 22 (.list 49 sM) 24)]
def eqs : List (Nat × List Sh) := [(29, [sI, sI, sI]), (45, [sI, sI, sI, sI]), (47, [sI, sI]), (49, [sI, sI, sI, sI, sI, sI])]
def mts : List (Nat × MTy) := [(106, ⟨49, 4, sM, .bool⟩)]
theorem tab_ok : tabB Tryz.prog tys eqs mts = true := by kernel_rfl
theorem mixed_ok : Tryz.prog.follows .mixedOrders = true := by kernel_rfl
def eE (K : Nat) (l : List (Nat × Mdl)) (k : List Nat) : Env := ⟨l, tys, eqs, mts, K, k, [], [], [], [], [], [], false⟩
abbrev rM (E : Env) (f : Func) (m : Mdl) (x : AT m.ps) := runF E f m.ps m.rs x
abbrev fM (E : Env) (f : Func) (m : Mdl) (x : AT m.ps) := finK E f m.ps m.rs x
theorem loop_o {X R : Type} {E : Env} {n0 : Nat} {S : Code} {fr0 : Fr} {k : Ex → Fr → Option R} (frame : X → Fr) {body : (X → Option R) → X → Option R} (h : ∀ (L : Fr → Option R) x, execG E n0 (realL E n0) S (frame x) (loopK n0 fr0 L k) = body (fun x => L (frame x)) x) (n : Nat) (x : X) : loopN (exec E n0 S) n0 fr0 n (frame x) k = iter body n x :=
  loopN_iter (fun L x => (exec_G E n0 S _ _).trans (h L x)) n x
def jI (n : Int) : Lf := .int .i64 n
def jV (v : Int × Int) : List Lf := [jI v.1, jI v.2]
def jL (l : Int × Int × Int) : List Lf := [jI l.1, jI l.2.1, jI l.2.2]
def jA (m : Int × Int × Int × Int) : List Lf := [jI m.1, jI m.2.1, jI m.2.2.1, jI m.2.2.2]
def jM (m : tA × Int × Int) : List Lf := [jI m.1.1, jI m.1.2.1, jI m.1.2.2.1, jI m.1.2.2.2, jI m.2.1, jI m.2.2]
def f14C : Code := codeOf Tryz.f14
def f14_fr2 (a0 : ByteArray) (a1 q3 q4 : Int) (q5 : List ByteArray) : Fr := ⟨36, [(0, .v false [.str a0]), (1, .v false [.int .u8 a1]), (4, .v false [.row 0]), (5, .v false [.row 1]), (6, .v false [jI q3]), (7, .v false [jI q4])], [], [some ⟨9, .str, [], .own⟩, some ⟨9, .str, q5, .own⟩]⟩
def f34C : Code := codeOf Tryz.f34
def f34_fr2 (a0 : ByteArray) (q3 q4 : Int) : Fr := ⟨43, [(0, .v false [.str a0]), (2, .v false [jI (0 : Int)]), (3, .v false [.bool false]), (4, .v false [jI q3]), (5, .v false [jI q4]), (13, .v false [.bool (bif (decide ((a0.size : Int) < (1 : Int))) then true else (decide ((a0.size : Int) > (10 : Int))))])], [], []⟩
def f63C : Code := codeOf Tryz.f63
def f63_fr3 (a0 : List ByteArray) (q4 : Int) (q5 : List Int) : Fr := ⟨30, [(0, .v false [.row 0]), (2, .v false [.row 1]), (3, .v false [.bool false]), (4, .v false [.row 2]), (5, .v false [jI q4])], [], [some ⟨9, .str, a0, .ro⟩, some ⟨2, sI, [], .own⟩, some ⟨2, sI, q5, .own⟩]⟩
def f150C : Code := codeOf Tryz.f150
def f150_fr6 (a0 : Int × Int × Int × Int) (q7 q8 q9 q10 q11 : Int) : Fr := ⟨20, [(0, .v true (jA a0)), (1, .v false [.box 0 0]), (2, .v false [jI (0 : Int)]), (3, .v false [.box 1 0]), (4, .v false [jI q7])], [some ⟨true, (jA a0)⟩, some ⟨true, [jI q8, jI q9, jI q10, jI q11]⟩], []⟩
def f109C : Code := codeOf Tryz.f109
def f109_fr15 (a0 : List tV) (q11 q12 q16 q17 q18 q19 : Int) : Fr := ⟨74, [(0, .v false [.row 0]), (2, .v false [.box 0 0]), (3, .v false [.box 1 0]), (4, .v false [jI q11]), (5, .v false [jI q12]), (6, .v false [.box 2 0]), (13, .v false [.bool (decide (q12 < (a0.length : Int)))])], [some ⟨true, [jI (0 : Int), jI (0 : Int), jI (0 : Int)]⟩, some ⟨true, [jI q16, jI q17]⟩, some ⟨true, [jI q18, jI q19]⟩], [some ⟨47, sV, a0, .ro⟩]⟩
def f109_fr10 (a0 : List tV) (q11 q12 q13 q14 : Int) : Fr := ⟨74, [(0, .v false [.row 0]), (2, .v false [.box 0 0]), (3, .v false [.box 1 0]), (4, .v false [jI q11]), (5, .v false [jI q12])], [some ⟨true, [jI (0 : Int), jI (0 : Int), jI (0 : Int)]⟩, some ⟨true, [jI q13, jI q14]⟩], [some ⟨47, sV, a0, .ro⟩]⟩
def f155C : Code := codeOf Tryz.f155
def f155_fr2 (a0 a1 : List Int) (q3 : Int) : Fr := ⟨41, [(0, .v false [.row 0]), (1, .v false [.row 1]), (4, .v false [.bool false]), (5, .v false [jI q3])], [], [some ⟨2, sI, a0, .ro⟩, some ⟨2, sI, a1, .ro⟩]⟩
def f42C : Code := codeOf Tryz.f42
def f42_fr6 (a0 : List tM) (a1 : tA × Int × Int) (q7 q8 : Int) : Fr := ⟨27, [(0, .v false [.row 0]), (1, .v true (jM a1)), (3, .v false [.box 0 0]), (4, .v false [jI (0 : Int)]), (5, .v false [jI q7]), (6, .v false [jI q8])], [some ⟨true, (jM a1)⟩], [some ⟨49, sM, a0, .ro⟩]⟩
def f10C : Code := codeOf Tryz.f10
def f10_fr21 (a0 : Int × Int × Int) (a1 : List tM) (q18 : Int) (q20 : List tM) (q22 : Int) (q23 q24 : List tM) : Fr := ⟨49, [(0, .v true (jL a0)), (1, .v false [.row 0]), (2, .v false [.box 0 0]), (4, .v false [.row 1]), (5, .v false [.row 2]), (6, .v false [.row 3]), (7, .v false [jI q18]), (8, .v false [jI q22]), (17, .v false [.bool (decide (q18 < (q20.length : Int)))])], [some ⟨true, (jL a0)⟩], [some ⟨49, sM, a1, .ro⟩, some ⟨49, sM, [], .own⟩, some ⟨49, sM, q23, .own⟩, some ⟨49, sM, q24, .own⟩]⟩
def f10_fr17 (a0 : Int × Int × Int) (a1 : List tM) (q18 : Int) (q19 q20 : List tM) : Fr := ⟨49, [(0, .v true (jL a0)), (1, .v false [.row 0]), (2, .v false [.box 0 0]), (4, .v false [.row 1]), (5, .v false [.row 2]), (6, .v false [.row 3]), (7, .v false [jI q18])], [some ⟨true, (jL a0)⟩], [some ⟨49, sM, a1, .ro⟩, some ⟨49, sM, [], .own⟩, some ⟨49, sM, q19, .own⟩, some ⟨49, sM, q20, .own⟩]⟩
def f72C : Code := codeOf Tryz.f72
def f72_fr9 (a0 : Int × Int × Int) (q7 q10 : Int) (q11 : List tV) : Fr := ⟨26, [(0, .v true (jL a0)), (1, .v false [.box 0 0]), (2, .v false [.row 0]), (3, .v false [.row 1]), (4, .v false [jI q7]), (5, .v false [jI q10]), (10, .v false [.bool (decide (q7 < a0.1))])], [some ⟨true, (jL a0)⟩], [some ⟨47, sV, [], .own⟩, some ⟨47, sV, q11, .own⟩]⟩
def f72_fr6 (a0 : Int × Int × Int) (q7 : Int) (q8 : List tV) : Fr := ⟨26, [(0, .v true (jL a0)), (1, .v false [.box 0 0]), (2, .v false [.row 0]), (3, .v false [.row 1]), (4, .v false [jI q7])], [some ⟨true, (jL a0)⟩], [some ⟨47, sV, [], .own⟩, some ⟨47, sV, q8, .own⟩]⟩
def f110C : Code := codeOf Tryz.f110
def f110_fr3 (a0 : List tV) (a1 : Int × Int) (q4 : Int) : Fr := ⟨45, [(0, .v false [.row 0]), (1, .v true (jV a1)), (3, .v false [.box 0 0]), (4, .v false [.row 1]), (5, .v false [jI q4])], [some ⟨true, (jV a1)⟩], [some ⟨47, sV, a0, .own⟩, some ⟨47, sV, [], .own⟩]⟩
def f73C : Code := codeOf Tryz.f73
def f73_fr4 (a0 : Int × Int × Int) (a1 : List tM) (a2 : Int × Int) (q5 : Int) (q6 : List tV) : Fr := ⟨26, [(0, .v true (jL a0)), (1, .v false [.row 0]), (2, .v true (jV a2)), (3, .v false [.box 0 0]), (5, .v false [.box 1 0]), (6, .v false [.row 1]), (7, .v false [.row 2]), (8, .v false [jI q5])], [some ⟨true, (jL a0)⟩, some ⟨true, (jV a2)⟩], [some ⟨49, sM, a1, .ro⟩, some ⟨47, sV, [], .own⟩, some ⟨47, sV, q6, .own⟩]⟩
def f36C : Code := codeOf Tryz.f36
def f36_fr4 (a0 : Int × Int × Int) (a1 : List tM) (y1 : List tV) (q5 : Int) (q6 : List (List tV)) : Fr := ⟨38, [(0, .v true (jL a0)), (1, .v false [.row 0]), (2, .v false [.box 0 0]), (4, .v false [.row 1]), (5, .v false [.row 2]), (6, .v false [.row 3]), (7, .v false [jI q5])], [some ⟨true, (jL a0)⟩], [some ⟨49, sM, a1, .ro⟩, some ⟨86, (.list 47 sV), [], .own⟩, some ⟨47, sV, y1, .own⟩, some ⟨86, (.list 47 sV), q6, .own⟩]⟩
def f17C : Code := codeOf Tryz.f17
def f17_fr12 (a0 : Int × Int × Int) (a1 : List tM) (q10 : Int) (y1 : List (List tV)) (q13 : Int) (q14 : List Int) : Fr := ⟨46, [(0, .v true (jL a0)), (1, .v false [.row 0]), (2, .v false [.box 0 0]), (4, .v false [.row 1]), (5, .v false [.row 2]), (6, .v false [.row 3]), (7, .v false [jI q10]), (8, .v false [jI q13]), (21, .v false [.bool (decide (q10 < (y1.length : Int)))])], [some ⟨true, (jL a0)⟩], [some ⟨49, sM, a1, .ro⟩, some ⟨2, sI, [], .own⟩, some ⟨2, sI, q14, .own⟩, some ⟨86, (.list 47 sV), y1, .own⟩]⟩
def f17_fr9 (a0 : Int × Int × Int) (a1 : List tM) (y1 : List (List tV)) (q10 : Int) (q11 : List Int) : Fr := ⟨46, [(0, .v true (jL a0)), (1, .v false [.row 0]), (2, .v false [.box 0 0]), (4, .v false [.row 1]), (5, .v false [.row 2]), (6, .v false [.row 3]), (7, .v false [jI q10])], [some ⟨true, (jL a0)⟩], [some ⟨49, sM, a1, .ro⟩, some ⟨2, sI, [], .own⟩, some ⟨2, sI, q11, .own⟩, some ⟨86, (.list 47 sV), y1, .own⟩]⟩
def f16C : Code := codeOf Tryz.f16
def f16_fr11 (a0 : Int × Int × Int) (a1 : List Int) (a2 : List (tV × Int)) (q10 q12 : Int) : Fr := ⟨62, [(0, .v true (jL a0)), (1, .v false [.row 0]), (2, .v false [.row 1]), (3, .v false [.box 0 0]), (6, .v false [jI (0 : Int)]), (7, .v false [jI (0 : Int)]), (8, .v false [.bool false]), (9, .v false [jI q10]), (10, .v false [jI q12]), (16, .v false [.bool (decide (q10 < (a2.length : Int)))])], [some ⟨true, (jL a0)⟩], [some ⟨2, sI, a1, .ro⟩, some ⟨82, (.cons sV sI), a2, .ro⟩]⟩
def f16_fr9 (a0 : Int × Int × Int) (a1 : List Int) (a2 : List (tV × Int)) (q10 : Int) : Fr := ⟨62, [(0, .v true (jL a0)), (1, .v false [.row 0]), (2, .v false [.row 1]), (3, .v false [.box 0 0]), (6, .v false [jI (0 : Int)]), (7, .v false [jI (0 : Int)]), (8, .v false [.bool false]), (9, .v false [jI q10])], [some ⟨true, (jL a0)⟩], [some ⟨2, sI, a1, .ro⟩, some ⟨82, (.cons sV sI), a2, .ro⟩]⟩
def f9C : Code := codeOf Tryz.f9
def f9_fr4 (a0 : ByteArray) (y1 : List ByteArray) (q5 q6 q7 q8 q9 q10 : Int) (q11 : List tM) (q12 : List (tV × Int)) : Fr := ⟨75, [(0, .v false [.str a0]), (2, .v false [.box 0 0]), (3, .v false [jI (0 : Int)]), (4, .v false [jI (0 : Int)]), (5, .v false [.box 1 0]), (6, .v false [.row 0]), (7, .v false [jI q5]), (16, .v false [.bool (decide ((a0.size : Int) > (3000 : Int)))]), (26, .v false [.bool ((y1.getD ((0 : Int) + (w ((y1.length : Int) - (1 : Int)))).toNat ByteArray.empty) != ByteArray.empty)])], [some ⟨true, [jI (0 : Int), jI (0 : Int), jI (0 : Int), jI (0 : Int), jI (0 : Int), .row 1, .row 2]⟩, some ⟨true, [jI q6, jI q7, jI q8, jI q9, jI q10, .row 3, .row 4]⟩], [some ⟨9, .str, y1, .own⟩, some ⟨49, sM, [], .own⟩, some ⟨82, (.cons sV sI), [], .own⟩, some ⟨49, sM, q11, .own⟩, some ⟨82, (.cons sV sI), q12, .own⟩]⟩
def f81C : Code := codeOf Tryz.f81
def f81_fr4 (a0 a1 : ByteArray) (a2 : Int) (y1 : List ByteArray) (q5 : Int) (q6 : List Int) : Fr := ⟨41, [(0, .v false [.str a0]), (1, .v false [.str a1]), (2, .v false [jI a2]), (6, .v false [.row 0]), (7, .v false [.bool false]), (8, .v false [.row 1]), (9, .v false [.row 2]), (20, .v false [.bool ((y1.length : Int) != a2)]), (22, .v false [.row 1]), (23, .v false [jI (y1.length : Int)]), (24, .v false [jI q5])], [], [some ⟨2, sI, [], .own⟩, some ⟨9, .str, y1, .own⟩, some ⟨2, sI, q6, .own⟩]⟩
def f118C : Code := codeOf Tryz.f118
def f118_fr2 (a0 : ByteArray) (q3 : Int) (q4 : List Int) : Fr := ⟨32, [(0, .v false [.str a0]), (2, .v false [.row 0]), (3, .v false [.bool false]), (4, .v false [.row 1]), (8, .v false [jI (a0.size : Int)]), (9, .v false [jI q3])], [], [some ⟨2, sI, [], .own⟩, some ⟨2, sI, q4, .own⟩]⟩
def f169C : Code := codeOf Tryz.f169
def f169_fr8 (a0 q9 : Int) (q10 : List tA) : Fr := ⟨61, [(0, .v false [jI a0]), (2, .v false [.row 0]), (3, .v false [.row 1]), (10, .v false [jI q9])], [], [some ⟨45, sA, [], .own⟩, some ⟨45, sA, q10, .own⟩]⟩
def f195C : Code := codeOf Tryz.f195
def f195_fr3 (a0 : List tA) (a1 : (tA → Option Bool)) (q4 : Int) : Fr := ⟨19, [(0, .v false [.row 0]), (1, .v false [.fv1 sA .bool a1]), (4, .v false [jI (0 : Int)]), (7, .v false [jI (a0.length : Int)]), (8, .v false [jI q4])], [], [some ⟨45, sA, a0, .ro⟩]⟩
def f168C : Code := codeOf Tryz.f168
def f168_fr4 (a1 : (tA → Option Bool)) (y1 q5 q6 : Int) (q7 : List tA) : Fr := ⟨42, [(0, .v false [.row 0]), (1, .v false [.fv1 sA .bool a1]), (4, .v false [.row 1]), (5, .v false [jI q5]), (6, .v false [jI q6]), (12, .v false [.bool (y1 == (-1 : Int))])], [], [some ⟨45, sA, q7, .own⟩, some ⟨45, sA, [], .own⟩]⟩
def f166C : Code := codeOf Tryz.f166
def f166_fr2 (a0 : List tA) (a1 : Int × Int × Int × Int) (q3 : Int) : Fr := ⟨19, [(0, .v false [.row 0]), (1, .v true (jA a1)), (3, .v false [.box 0 0]), (4, .v false [jI (0 : Int)]), (7, .v false [jI (a0.length : Int)]), (8, .v false [jI q3])], [some ⟨true, (jA a1)⟩], [some ⟨45, sA, a0, .ro⟩]⟩
def f137C : Code := codeOf Tryz.f137
def f137_fr2 (a0 a1 : List Int) (q3 : Int) : Fr := ⟨30, [(0, .v false [.row 0]), (1, .v false [.row 1]), (4, .v false [jI (0 : Int)]), (7, .v false [jI (a0.length : Int)]), (8, .v false [jI q3])], [], [some ⟨2, sI, a0, .ro⟩, some ⟨2, sI, a1, .ro⟩]⟩
def f27C : Code := codeOf Tryz.f27
def f27_fr16 (a0 : Int × Int × Int) (a1 : List tM) (q13 : Int) (q15 : List tM) (q17 : Int) (q18 : List (tM × Bool)) (q19 : List tM) : Fr := ⟨53, [(0, .v true (jL a0)), (1, .v false [.row 0]), (2, .v false [.box 0 0]), (4, .v false [.row 1]), (5, .v false [.row 2]), (6, .v false [.mp 1]), (7, .v false [jI q13]), (22, .v false [.bool (decide (q13 < (q15.length : Int)))]), (25, .v false [.row 0]), (26, .v false [jI (a1.length : Int)]), (27, .v false [jI q17])], [some ⟨true, (jL a0)⟩, some ⟨true, [.mc sM .bool q18]⟩], [some ⟨49, sM, a1, .ro⟩, some ⟨49, sM, [], .own⟩, some ⟨49, sM, q19, .own⟩]⟩
def f27_fr12 (a0 : Int × Int × Int) (a1 : List tM) (q13 : Int) (q14 : List (tM × Bool)) (q15 : List tM) : Fr := ⟨53, [(0, .v true (jL a0)), (1, .v false [.row 0]), (2, .v false [.box 0 0]), (4, .v false [.row 1]), (5, .v false [.row 2]), (6, .v false [.mp 1]), (7, .v false [jI q13])], [some ⟨true, (jL a0)⟩, some ⟨true, [.mc sM .bool q14]⟩], [some ⟨49, sM, a1, .ro⟩, some ⟨49, sM, [], .own⟩, some ⟨49, sM, q15, .own⟩]⟩
def f131C : Code := codeOf Tryz.f131
def f131_fr23 (a0 : Int) (a1 : Int × Int × Int) (a2 : List tM) (q7 : Int) (q8 : List (tM × Bool)) (q22 : Int) (y1 : List tA) (y12 : Int × Int × Int × Int) (q24 : Int) : Fr := ⟨84, [(0, .v false [jI a0]), (1, .v true (jL a1)), (2, .v false [.row 0]), (4, .v false [.box 0 0]), (6, .v false [.bool false]), (7, .v false [.row 1]), (8, .v false [.mp 1]), (12, .v false [.box 2 0]), (19, .v false [.row 0]), (20, .v false [jI (a2.length : Int)]), (21, .v false [jI q7]), (22, .v false [.bool (decide (q7 < (a2.length : Int)))]), (61, .v false [.bool (!((mfind (eqSh sM) q8 (y12, (0 : Int), (0 : Int))).getD false))]), (62, .v false [.row 0]), (63, .v false [jI (a2.length : Int)]), (64, .v false [jI q22]), (65, .v false [.bool (decide (q22 < (a2.length : Int)))]), (68, .v false [.row 0]), (69, .v false [jI (a2.length : Int)]), (70, .v false [jI q24])], [some ⟨true, (jL a1)⟩, some ⟨true, [.mc sM .bool q8]⟩, some ⟨true, [jI (((a2.getD ((0 : Int) + q22).toNat zM).1).1), jI ((((a2.getD ((0 : Int) + q22).toNat zM).1).2).1), jI (((((a2.getD ((0 : Int) + q22).toNat zM).1).2).2).1), jI (((((a2.getD ((0 : Int) + q22).toNat zM).1).2).2).2), jI (((a2.getD ((0 : Int) + q22).toNat zM).2).1), jI (((a2.getD ((0 : Int) + q22).toNat zM).2).2)]⟩], [some ⟨49, sM, a2, .ro⟩, some ⟨45, sA, y1, .own⟩]⟩
def f131_fr21 (a0 : Int) (a1 : Int × Int × Int) (a2 : List tM) (q7 : Int) (q8 : List (tM × Bool)) (y1 : List tA) (y12 : Int × Int × Int × Int) (q22 : Int) : Fr := ⟨84, [(0, .v false [jI a0]), (1, .v true (jL a1)), (2, .v false [.row 0]), (4, .v false [.box 0 0]), (6, .v false [.bool false]), (7, .v false [.row 1]), (8, .v false [.mp 1]), (19, .v false [.row 0]), (20, .v false [jI (a2.length : Int)]), (21, .v false [jI q7]), (22, .v false [.bool (decide (q7 < (a2.length : Int)))]), (61, .v false [.bool (!((mfind (eqSh sM) q8 (y12, (0 : Int), (0 : Int))).getD false))]), (62, .v false [.row 0]), (63, .v false [jI (a2.length : Int)]), (64, .v false [jI q22])], [some ⟨true, (jL a1)⟩, some ⟨true, [.mc sM .bool q8]⟩], [some ⟨49, sM, a2, .ro⟩, some ⟨45, sA, y1, .own⟩]⟩
def f131_fr6 (a0 : Int) (a1 : Int × Int × Int) (a2 : List tM) (y1 : List tA) (q7 : Int) (q8 : List (tM × Bool)) : Fr := ⟨84, [(0, .v false [jI a0]), (1, .v true (jL a1)), (2, .v false [.row 0]), (4, .v false [.box 0 0]), (6, .v false [.bool false]), (7, .v false [.row 1]), (8, .v false [.mp 1]), (19, .v false [.row 0]), (20, .v false [jI (a2.length : Int)]), (21, .v false [jI q7])], [some ⟨true, (jL a1)⟩, some ⟨true, [.mc sM .bool q8]⟩], [some ⟨49, sM, a2, .ro⟩, some ⟨45, sA, y1, .own⟩]⟩
def f85C : Code := codeOf Tryz.f85
def f85_fr4 (a0 : Int) (a1 : Int × Int × Int) (a2 : List (List tM)) (y1 q5 : Int) : Fr := ⟨28, [(0, .v false [jI a0]), (1, .v true (jL a1)), (2, .v false [.row 0]), (4, .v false [.box 0 0]), (6, .v false [jI (0 : Int)]), (7, .v false [jI y1]), (14, .v false [.bool (y1 != (0 : Int))]), (16, .v false [.row 0]), (17, .v false [jI (a2.length : Int)]), (18, .v false [jI q5])], [some ⟨true, (jL a1)⟩], [some ⟨22, (.list 49 sM), a2, .ro⟩]⟩
def f173C : Code := codeOf Tryz.f173
def f173_fr3 (a0 : List (tV × Int)) (a1 : ((tV × Int) → Option Bool)) (q4 : Int) : Fr := ⟨19, [(0, .v false [.row 0]), (1, .v false [.fv1 (.cons sV sI) .bool a1]), (4, .v false [jI (0 : Int)]), (7, .v false [jI (a0.length : Int)]), (8, .v false [jI q4])], [], [some ⟨82, (.cons sV sI), a0, .ro⟩]⟩
def f134C : Code := codeOf Tryz.f134
def f134_fr3 (a0 : List Int) (a1 : Int) (y1 : Int × Int) (q4 : Int) (q5 : List Int) : Fr := ⟨48, [(0, .v false [.row 0]), (1, .v false [jI a1]), (4, .v false [.row 1]), (5, .v false [.int .u64 y1.1]), (6, .v false [.int .u64 y1.2]), (7, .v false [.row 2]), (8, .v false [jI q4]), (10, .v false [.bool (decide (a1 < (0 : Int)))]), (26, .v false [.bool (bif (decide (y1.1 > (0 : Int))) then true else (decide (y1.2 > (9223372036854775807 : Int))))])], [], [some ⟨2, sI, a0, .ro⟩, some ⟨2, sI, [], .own⟩, some ⟨2, sI, q5, .own⟩]⟩
def f54C : Code := codeOf Tryz.f54
def f54_fr9 (a0 : Int × Int × Int) (q7 q10 : Int) (q11 : List tV) : Fr := ⟨26, [(0, .v true (jL a0)), (1, .v false [.box 0 0]), (2, .v false [.row 0]), (3, .v false [.row 1]), (4, .v false [jI q7]), (8, .v false [jI a0.1]), (9, .v false [jI q7]), (10, .v false [.bool (decide (q7 < a0.1))]), (13, .v false [jI a0.2.2]), (14, .v false [jI q10])], [some ⟨true, (jL a0)⟩], [some ⟨47, sV, [], .own⟩, some ⟨47, sV, q11, .own⟩]⟩
def f54_fr6 (a0 : Int × Int × Int) (q7 : Int) (q8 : List tV) : Fr := ⟨26, [(0, .v true (jL a0)), (1, .v false [.box 0 0]), (2, .v false [.row 0]), (3, .v false [.row 1]), (8, .v false [jI a0.1]), (9, .v false [jI q7])], [some ⟨true, (jL a0)⟩], [some ⟨47, sV, [], .own⟩, some ⟨47, sV, q8, .own⟩]⟩
def f94C : Code := codeOf Tryz.f94
def f94_fr9 (a0 : List tV) (q8 q10 q11 : Int) (q12 : List tV) : Fr := ⟨61, [(0, .v false [.row 0]), (2, .v false [.row 1]), (3, .v false [jI q10]), (4, .v false [.view 0 ((0 : Int) + q8) ((0 : Int) + (a0.length : Int))]), (5, .v false [jI q11]), (8, .v false [.bool (decide ((a0.length : Int) < (2 : Int)))]), (13, .v false [.bool (decide (q8 < (a0.length : Int)))]), (25, .v false [.bool (((a0.getD ((0 : Int) + q8).toNat ((0 : Int), (0 : Int))).1 == (a0.getD ((0 : Int) + (w (q8 - (1 : Int)))).toNat ((0 : Int), (0 : Int))).1) && ((a0.getD ((0 : Int) + q8).toNat ((0 : Int), (0 : Int))).2 == (a0.getD ((0 : Int) + (w (q8 - (1 : Int)))).toNat ((0 : Int), (0 : Int))).2))])], [], [some ⟨47, sV, q12, .own⟩, some ⟨47, sV, [], .own⟩]⟩
def f94_fr7 (a0 : List tV) (q8 : Int) : Fr := ⟨61, [(0, .v false [.row 0]), (2, .v false [.row 1]), (3, .v false [jI q8]), (8, .v false [.bool (decide ((a0.length : Int) < (2 : Int)))])], [], [some ⟨47, sV, a0, .own⟩, some ⟨47, sV, [], .own⟩]⟩
def f55C : Code := codeOf Tryz.f55
def f55_fr3 (a0 : Int × Int × Int) (a1 : List tM) (a2 : Int × Int) (q4 : Int) (q5 : List tV) : Fr := ⟨29, [(0, .v true (jL a0)), (1, .v false [.row 0]), (2, .v true (jV a2)), (3, .v false [.box 0 0]), (5, .v false [.box 1 0]), (6, .v false [.row 1]), (7, .v false [.row 2]), (11, .v false [.row 0]), (12, .v false [jI (a1.length : Int)]), (13, .v false [jI q4])], [some ⟨true, (jL a0)⟩, some ⟨true, (jV a2)⟩], [some ⟨49, sM, a1, .ro⟩, some ⟨47, sV, [], .own⟩, some ⟨47, sV, q5, .own⟩]⟩
def f88C : Code := codeOf Tryz.f88
def f88_fr22 (a0 : Int × Int × Int) (a1 : List tM) (q17 : Int) (q18 : List (List tV)) (q19 : List Int) (y3 : List tV) (y20 : Int) (y21 : List tV) (q23 : Int) (q24 : List Int) : Fr := ⟨57, [(0, .v true (jL a0)), (1, .v false [.row 0]), (2, .v false [.box 0 0]), (4, .v false [.row 1]), (5, .v false [.row 2]), (6, .v false [.row 3]), (7, .v false [.row 4]), (9, .v false [.box 1 0]), (10, .v false [.row 5]), (19, .v false [.row 6]), (20, .v false [jI (y3.length : Int)]), (21, .v false [jI q17]), (22, .v false [.bool (decide (q17 < (y3.length : Int)))]), (31, .v false [.bool (decide ((q19.getD ((0 : Int) + y20).toNat (0 : Int)) ≥ (0 : Int)))]), (36, .v false [.row 5]), (37, .v false [jI (y21.length : Int)]), (38, .v false [jI q23])], [some ⟨true, (jL a0)⟩, some ⟨true, [jI ((y3.getD ((0 : Int) + q17).toNat ((0 : Int), (0 : Int))).1), jI ((y3.getD ((0 : Int) + q17).toNat ((0 : Int), (0 : Int))).2)]⟩], [some ⟨49, sM, a1, .ro⟩, some ⟨86, (.list 47 sV), [], .own⟩, some ⟨2, sI, [], .own⟩, some ⟨86, (.list 47 sV), q18, .own⟩, some ⟨2, sI, q24, .own⟩, some ⟨47, sV, y21, .own⟩, some ⟨47, sV, y3, .own⟩]⟩
def f88_fr16 (a0 : Int × Int × Int) (a1 : List tM) (y3 : List tV) (q17 : Int) (q18 : List (List tV)) (q19 : List Int) : Fr := ⟨57, [(0, .v true (jL a0)), (1, .v false [.row 0]), (2, .v false [.box 0 0]), (4, .v false [.row 1]), (5, .v false [.row 2]), (6, .v false [.row 3]), (7, .v false [.row 4]), (19, .v false [.row 5]), (20, .v false [jI (y3.length : Int)]), (21, .v false [jI q17])], [some ⟨true, (jL a0)⟩], [some ⟨49, sM, a1, .ro⟩, some ⟨86, (.list 47 sV), [], .own⟩, some ⟨2, sI, [], .own⟩, some ⟨86, (.list 47 sV), q18, .own⟩, some ⟨2, sI, q19, .own⟩, some ⟨47, sV, y3, .own⟩]⟩
def f52C : Code := codeOf Tryz.f52
def f52_fr12 (a0 : Int × Int × Int) (a1 : List tM) (a2 : List (tV × Int)) (q11 : Int) (y1 : (List (List tV)) × List Int) (q13 : Int) : Fr := ⟨57, [(0, .v true (jL a0)), (1, .v false [.row 0]), (2, .v false [.row 1]), (3, .v false [.box 0 0]), (6, .v false [jI (0 : Int)]), (7, .v false [jI (0 : Int)]), (8, .v false [.bool false]), (10, .v false [.box 1 0]), (11, .v false [.fn 89 [1, 0]]), (12, .v false [jI q11]), (13, .v false [.box 2 0]), (23, .v false [.row 1]), (24, .v false [jI (a2.length : Int)]), (25, .v false [jI q11]), (26, .v false [.bool (decide (q11 < (a2.length : Int)))]), (32, .v false [.view 1 (0 : Int) ((0 : Int) + q11)]), (33, .v false [jI (((0 : Int) + q11) - (0 : Int))]), (34, .v false [jI q13])], [some ⟨true, (jL a0)⟩, some ⟨true, [.row 2]⟩, some ⟨true, [jI (((a2.getD ((0 : Int) + q11).toNat (((0 : Int), (0 : Int)), (0 : Int))).1).1), jI (((a2.getD ((0 : Int) + q11).toNat (((0 : Int), (0 : Int)), (0 : Int))).1).2), jI ((a2.getD ((0 : Int) + q11).toNat (((0 : Int), (0 : Int)), (0 : Int))).2)]⟩], [some ⟨49, sM, a1, .ro⟩, some ⟨82, (.cons sV sI), a2, .ro⟩, some ⟨2, sI, y1.2, .own⟩]⟩
def f52_fr10 (a0 : Int × Int × Int) (a1 : List tM) (a2 : List (tV × Int)) (y1 : (List (List tV)) × List Int) (q11 : Int) : Fr := ⟨57, [(0, .v true (jL a0)), (1, .v false [.row 0]), (2, .v false [.row 1]), (3, .v false [.box 0 0]), (6, .v false [jI (0 : Int)]), (7, .v false [jI (0 : Int)]), (8, .v false [.bool false]), (10, .v false [.box 1 0]), (11, .v false [.fn 89 [1, 0]]), (23, .v false [.row 1]), (24, .v false [jI (a2.length : Int)]), (25, .v false [jI q11])], [some ⟨true, (jL a0)⟩, some ⟨true, [.row 2]⟩], [some ⟨49, sM, a1, .ro⟩, some ⟨82, (.cons sV sI), a2, .ro⟩, some ⟨2, sI, y1.2, .own⟩]⟩
def f53C : Code := codeOf Tryz.f53
def f53_fr4 (a0 : Int) (a1 : Int × Int × Int) (a2 : List tV) (a3 q5 : Int) (q6 : List Int) : Fr := ⟨33, [(0, .v false [jI a0]), (1, .v true (jL a1)), (2, .v false [.row 0]), (3, .v false [jI a3]), (5, .v false [.box 0 0]), (8, .v false [.box 1 0]), (9, .v false [.box 2 0]), (18, .v false [.row 0]), (19, .v false [jI (a2.length : Int)]), (20, .v false [jI q5])], [some ⟨true, (jL a1)⟩, some ⟨true, [jI (0 : Int), jI (0 : Int), jI (0 : Int), jI (0 : Int), .row 1]⟩, some ⟨true, [jI a0, jI a1.1, jI a1.2.1, jI a1.2.2, .row 2]⟩], [some ⟨47, sV, a2, .ro⟩, some ⟨2, sI, [], .own⟩, some ⟨2, sI, q6, .own⟩]⟩
def f26C : Code := codeOf Tryz.f26
def f26_fr20 (a0 : Int) (a1 : Int × Int × Int) (a2 : List tM) (a3 : List (tV × Int)) (a4 q16 y1 : Int) (y2 : Bool) (y3 : Int × Int × Bool) (y5 : Int × tL × List Int) (y19 : List tV) (q21 : Int) (q22 : List Int) : Fr := ⟨79, [(0, .v false [jI a0]), (1, .v true (jL a1)), (2, .v false [.row 0]), (3, .v false [.row 1]), (4, .v false [jI a4]), (6, .v false [.box 0 0]), (10, .v false [.box 1 0]), (11, .v false [jI (0 : Int)]), (12, .v false [jI y1]), (15, .v false [.bool y3.2.2]), (16, .v false [.box 2 0]), (18, .v false [.box 3 0]), (27, .v false [.bool (y1 != (0 : Int))]), (32, .v false [.bool (!y2)]), (42, .v false [.bool y3.2.2]), (50, .v false [.row 1]), (51, .v false [jI (a3.length : Int)]), (52, .v false [jI q16]), (53, .v false [.bool (decide (q16 < (a3.length : Int)))]), (62, .v false [.row 2]), (63, .v false [jI (y19.length : Int)]), (64, .v false [jI q21])], [some ⟨true, (jL a1)⟩, some ⟨true, [jI (0 : Int), jI (0 : Int), jI (0 : Int), jI (0 : Int), .row 3]⟩, some ⟨true, [jI y5.1, jI y5.2.1.1, jI y5.2.1.2.1, jI y5.2.1.2.2, .row 4]⟩, some ⟨true, [jI (((a3.getD ((0 : Int) + q16).toNat (((0 : Int), (0 : Int)), (0 : Int))).1).1), jI (((a3.getD ((0 : Int) + q16).toNat (((0 : Int), (0 : Int)), (0 : Int))).1).2), jI ((a3.getD ((0 : Int) + q16).toNat (((0 : Int), (0 : Int)), (0 : Int))).2)]⟩], [some ⟨49, sM, a2, .ro⟩, some ⟨82, (.cons sV sI), a3, .ro⟩, some ⟨47, sV, y19, .own⟩, some ⟨2, sI, [], .own⟩, some ⟨2, sI, q22, .own⟩]⟩
def f26_fr15 (a0 : Int) (a1 : Int × Int × Int) (a2 : List tM) (a3 : List (tV × Int)) (a4 y1 : Int) (y2 : Bool) (y3 : Int × Int × Bool) (y5 : Int × tL × List Int) (q16 : Int) (q17 : List Int) : Fr := ⟨79, [(0, .v false [jI a0]), (1, .v true (jL a1)), (2, .v false [.row 0]), (3, .v false [.row 1]), (4, .v false [jI a4]), (6, .v false [.box 0 0]), (10, .v false [.box 1 0]), (11, .v false [jI (0 : Int)]), (12, .v false [jI y1]), (15, .v false [.bool y3.2.2]), (16, .v false [.box 2 0]), (27, .v false [.bool (y1 != (0 : Int))]), (32, .v false [.bool (!y2)]), (42, .v false [.bool y3.2.2]), (50, .v false [.row 1]), (51, .v false [jI (a3.length : Int)]), (52, .v false [jI q16])], [some ⟨true, (jL a1)⟩, some ⟨true, [jI (0 : Int), jI (0 : Int), jI (0 : Int), jI (0 : Int), .row 2]⟩, some ⟨true, [jI y5.1, jI y5.2.1.1, jI y5.2.1.2.1, jI y5.2.1.2.2, .row 3]⟩], [some ⟨49, sM, a2, .ro⟩, some ⟨82, (.cons sV sI), a3, .ro⟩, some ⟨2, sI, [], .own⟩, some ⟨2, sI, q17, .own⟩]⟩
def f11C : Code := codeOf Tryz.f11
def f11_fr5 (a0 : ByteArray) (y1 : ByteArray × Bool) (y2 : List ByteArray) (q6 q7 q8 q9 q10 q11 : Int) (q12 : List tM) (q13 : List (tV × Int)) : Fr := ⟨82, [(0, .v false [.str a0]), (2, .v false [.und]), (3, .v false [.box 0 0]), (4, .v false [jI (0 : Int)]), (5, .v false [jI (0 : Int)]), (6, .v false [.str y1.1]), (7, .v false [.bool y1.2]), (8, .v false [.box 1 0]), (16, .v false [.bool (decide ((a0.size : Int) > (3000 : Int)))]), (28, .v false [.bool (bif (a0 != ByteArray.empty) then (!y1.2) else false)]), (33, .v false [.bool (a0 != ByteArray.empty)]), (35, .v false [.row 0]), (36, .v false [jI (y2.length : Int)]), (37, .v false [jI q6])], [some ⟨true, [jI (0 : Int), jI (0 : Int), jI (0 : Int), jI (0 : Int), .row 1]⟩, some ⟨true, [jI q7, jI q8, jI q9, jI q10, jI q11, .row 2, .row 3]⟩], [some ⟨9, .str, y2, .own⟩, some ⟨2, sI, [], .own⟩, some ⟨49, sM, q12, .own⟩, some ⟨82, (.cons sV sI), q13, .own⟩]⟩
def f6C : Code := codeOf Tryz.f6
def f6_fr3 (a0 a1 : List tM) (q4 : Int) : Fr := ⟨27, [(0, .v false [.row 0]), (1, .v false [.row 1]), (4, .v false [.bool false]), (5, .v false [jI q4]), (10, .v false [.bool ((a0.length : Int) != (a1.length : Int))])], [], [some ⟨49, sM, a0, .ro⟩, some ⟨49, sM, a1, .ro⟩]⟩
def f7C : Code := codeOf Tryz.f7
def f7_fr2 (q3 q4 : Int) (q5 : List tM) : Fr := ⟨61, [(0, .v false [.row 0]), (1, .v false [jI q3]), (4, .v false [jI (0 : Int)]), (5, .v false [jI q4])], [], [some ⟨49, sM, q5, .io⟩]⟩
def f8C : Code := codeOf Tryz.f8
def f8_fr2 (a0 : List tM) (q3 q4 : Int) : Fr := ⟨73, [(0, .v false [.row 0]), (1, .v false [jI q3]), (4, .v false [jI (0 : Int)]), (5, .v false [jI q4])], [], [some ⟨49, sM, a0, .ro⟩]⟩
variable (K : Nat)
include K
def f14E : Env := eE K [] [0, 1, 4, 5, 6, 7, 12, 25]
def f14_b2 (K : Nat) (a0 : ByteArray) (a1 : Int) (L2 : Int → Int → (List ByteArray) → Option (List ByteArray)) (q3 q4 : Int) (q5 : List ByteArray) : Option (List ByteArray) :=
  (bif (decide (q4 ≤ (a0.size : Int))) then (bif ((decide (0 ≤ q4) && decide (q4 < (a0.size : Int))) || (!(!(q4 == (a0.size : Int))))) then (bif (bif (q4 == (a0.size : Int)) then true else (((a0.data.getD q4.toNat 0).toNat : Int) == a1)) then (bif (decide (0 ≤ q3) && decide (q3 ≤ q4) && decide (q4 ≤ (a0.size : Int))) then (bif (Nat.ble (q5.length + [(a0.extract q3.toNat q4.toNat)].length) (lim 16)) then L2 (w (q4 + (1 : Int))) (w (q4 + (1 : Int))) (q5 ++ [(a0.extract q3.toNat q4.toNat)]) else none) else none) else L2 q3 (w (q4 + (1 : Int))) q5) else none) else some q5)
def f14_l2 (a0 : ByteArray) (a1 : Int) (n : Nat) (q3 q4 : Int) (q5 : List ByteArray) : Option (List ByteArray) :=
  iter (X := Int × Int × List ByteArray) (fun L x => f14_b2 K a0 a1 (fun v0 v1 v2 => L (v0, v1, v2)) x.1 x.2.1 x.2.2) n (q3, q4, q5)
def f14_g (K : Nat) (a0 : ByteArray) (a1 : Int) (I2 : Int → Int → (List ByteArray) → Option (List ByteArray)) : Option (List ByteArray) :=
  I2 (0 : Int) (0 : Int) []
def f14G (a0 : ByteArray) (a1 : Int) : Option (List ByteArray) :=
  f14_g K a0 a1 (fun d0 d1 d2 => f14_l2 K a0 a1 K d0 d1 d2)
def f14M : Mdl := ⟨[(.ro, .str), (.ro, (.int .u8))], [(.list 9 .str)], fun x => f14G K x.1 x.2.1⟩
def f14_k2 (a0 : ByteArray) (a1 : Int) (lr : LR (List ByteArray)) : Ex → Fr → Option (List ByteArray) :=
  contC (f14E K) 0 lr f14C [1, 1, 1, 0, 1, 0] (fM (f14E K) Tryz.f14 (f14M K) (a0, a1, ()))
def f14_j2 (a0 : ByteArray) (a1 : Int) (lr : LR (List ByteArray)) (bq3 bq4 : Int) (bq5 : List ByteArray) : Option (List ByteArray) :=
  lr (selC f14C [1, 1, 1, 0, 1, 0, 0]) (f14_fr2 a0 a1 bq3 bq4 bq5) (f14_k2 K a0 a1 lr)
omit K
def f71E (K : Nat) (rec : Int → Option ByteArray) : Env := ⟨[(71, ⟨[(.ro, sI)], [.str], fun x => rec x.1⟩)], tys, eqs, mts, K, [0, 2, 4], [], [], [], [], [], [], false⟩
def f71_s (K : Nat) (rec : Int → Option ByteArray) (a0 : Int) : Option ByteArray :=
  (bif (decide (a0 < (10 : Int))) then some (strOfNums [(IntKind.u8.wrap (w ((48 : Int) + a0)))]) else (rec (w (a0.tdiv (10 : Int)))).bind fun y1 => (bif (Nat.ble (y1.size + (strOfNums [(IntKind.u8.wrap (w ((48 : Int) + (a0.tmod (10 : Int)))))]).size) 9223372036854775807) then some (y1 ++ (strOfNums [(IntKind.u8.wrap (w ((48 : Int) + (a0.tmod (10 : Int)))))])) else none))
def f71R (K : Nat) : Nat → Int → Option ByteArray
  | 0 => fun _ => none
  | n + 1 => fun a0 => f71_s K (f71R K n) a0
def f71G (K : Nat) (a0 : Int) : Option ByteArray := f71R K K a0
def f71M (K : Nat) : Mdl := ⟨[(.ro, sI)], [.str], fun x => f71G K x.1⟩
include K
def f34E : Env := eE K [(71, f71M K)] [0, 2, 3, 4, 5, 13, 17, 29]
def f34_b2 (a0 : ByteArray) (L2 : Int → Int → Option (Int × Bool)) (q3 q4 : Int) : Option (Int × Bool) :=
  (bif (decide (q4 < (a0.size : Int))) then (bif (decide (0 ≤ q4) && decide (q4 < (a0.size : Int))) then (bif ((decide (0 ≤ q4) && decide (q4 < (a0.size : Int))) || (!(!(decide (((a0.data.getD q4.toNat 0).toNat : Int) < (48 : Int)))))) then (bif (bif (decide (((a0.data.getD q4.toNat 0).toNat : Int) < (48 : Int))) then true else (decide (((a0.data.getD q4.toNat 0).toNat : Int) > (57 : Int)))) then some ((0 : Int), false) else (bif (decide (0 ≤ q4) && decide (q4 < (a0.size : Int))) then L2 (w ((w ((10 : Int) * q3)) + (w (IntKind.u8.wrap (((a0.data.getD q4.toNat 0).toNat : Int) - (48 : Int)))))) (w (q4 + (1 : Int))) else none)) else none) else none) else (f71G K q3).bind fun y5 => some (q3, (y5 == a0)))
def f34_l2 (a0 : ByteArray) (n : Nat) (q3 q4 : Int) : Option (Int × Bool) :=
  iter (X := Int × Int) (fun L x => f34_b2 K a0 (fun v0 v1 => L (v0, v1)) x.1 x.2) n (q3, q4)
def f34_g (K : Nat) (a0 : ByteArray) (I2 : Int → Int → Option (Int × Bool)) : Option (Int × Bool) :=
  (bif (bif (decide ((a0.size : Int) < (1 : Int))) then true else (decide ((a0.size : Int) > (10 : Int)))) then some ((0 : Int), false) else I2 (0 : Int) (0 : Int))
def f34G (a0 : ByteArray) : Option (Int × Bool) :=
  f34_g K a0 (fun d0 d1 => f34_l2 K a0 K d0 d1)
def f34M : Mdl := ⟨[(.ro, .str)], [sI, .bool], fun x => f34G K x.1⟩
def f34_k2 (a0 : ByteArray) (lr : LR (Int × Bool)) : Ex → Fr → Option (Int × Bool) :=
  contC (f34E K) 0 lr f34C [1, 1, 1, 0, 1, 0] (fM (f34E K) Tryz.f34 (f34M K) (a0, ()))
def f34_j2 (a0 : ByteArray) (lr : LR (Int × Bool)) (bq3 bq4 : Int) : Option (Int × Bool) :=
  lr (selC f34C [1, 1, 1, 0, 1, 0, 0]) (f34_fr2 a0 bq3 bq4) (f34_k2 K a0 lr)
def f102E : Env := eE K [(34, f34M K)] [0, 2, 3, 4, 5, 13]
def f102G (a0 : ByteArray) : Option (Int × Bool) :=
  (bif ((decide (0 ≤ (0 : Int)) && decide ((0 : Int) < (a0.size : Int))) || (!(decide ((a0.size : Int) > (0 : Int))))) then (bif (bif (decide ((a0.size : Int) > (0 : Int))) then (((a0.data.getD 0 0).toNat : Int) == (45 : Int)) else false) then (bif (decide (0 ≤ (1 : Int)) && decide ((1 : Int) ≤ (a0.size : Int)) && decide ((a0.size : Int) ≤ (a0.size : Int))) then (f34G K (a0.extract 1 (a0.size : Int).toNat)).bind fun y1 => some ((w (0 - y1.1)), (bif y1.2 then (decide (y1.1 > (0 : Int))) else false)) else none) else (f34G K a0).bind fun y2 => some y2) else none)
def f102M : Mdl := ⟨[(.ro, .str)], [sI, .bool], fun x => f102G K x.1⟩
def f63E : Env := eE K [(102, f102M K)] [0, 2, 3, 4, 5, 6, 7, 12, 24]
def f63_b3 (a0 : List ByteArray) (L3 : Int → (List Int) → Option ((List Int) × Bool)) (q4 : Int) (q5 : List Int) : Option ((List Int) × Bool) :=
  (bif (decide (q4 < (a0.length : Int))) then (bif (decide (0 ≤ q4) && decide (q4 < (a0.length : Int))) then (f102G K (a0.getD ((0 : Int) + q4).toNat ByteArray.empty)).bind fun y6 => (bif (!y6.2) then some ([], false) else (bif (Nat.ble (q5.length + [y6.1].length) (lim 8)) then L3 (w (q4 + (1 : Int))) (q5 ++ [y6.1]) else none)) else none) else some (q5, true))
def f63_l3 (a0 : List ByteArray) (n : Nat) (q4 : Int) (q5 : List Int) : Option ((List Int) × Bool) :=
  iter (X := Int × List Int) (fun L x => f63_b3 K a0 (fun v0 v1 => L (v0, v1)) x.1 x.2) n (q4, q5)
def f63_g (K : Nat) (a0 : List ByteArray) (I3 : Int → (List Int) → Option ((List Int) × Bool)) : Option ((List Int) × Bool) :=
  I3 (0 : Int) []
def f63G (a0 : List ByteArray) : Option ((List Int) × Bool) :=
  f63_g K a0 (fun d0 d1 => f63_l3 K a0 K d0 d1)
def f63M : Mdl := ⟨[(.ro, (.list 9 .str))], [(.list 2 sI), .bool], fun x => f63G K x.1⟩
def f63_k3 (a0 : List ByteArray) (lr : LR ((List Int) × Bool)) : Ex → Fr → Option ((List Int) × Bool) :=
  contC (f63E K) 1 lr f63C [1, 1, 0, 1, 0] (fM (f63E K) Tryz.f63 (f63M K) (a0, ()))
def f63_j3 (a0 : List ByteArray) (lr : LR ((List Int) × Bool)) (bq4 : Int) (bq5 : List Int) : Option ((List Int) × Bool) :=
  lr (selC f63C [1, 1, 0, 1, 0, 0]) (f63_fr3 a0 bq4 bq5) (f63_k3 K a0 lr)
def f103E : Env := eE K [] [0, 1, 2, 6]
def f103G (K : Nat) (a0 a1 a2 : Int) : Option Bool :=
  some (bif (decide (a0 ≥ a1)) then (decide (a0 ≤ a2)) else false)
def f103M : Mdl := ⟨[(.ro, sI), (.ro, sI), (.ro, sI)], [.bool], fun x => f103G K x.1 x.2.1 x.2.2.1⟩
def f64E : Env := eE K [(103, f103M K)] [0, 1, 2]
def f64G (a0 : Int × Int × Int) : Option Bool :=
  (f103G K a0.1 (1 : Int) (64 : Int)).bind fun y1 => ((bif y1 then f103G K a0.2.2 (1 : Int) (64 : Int) else some false)).bind fun y2 => ((bif (bif y1 then y2 else false) then f103G K a0.2.1 (0 : Int) (w (a0.1 - (1 : Int))) else some false)).bind fun y3 => some (bif (bif (bif y1 then y2 else false) then y3 else false) then (decide ((w (a0.1 * a0.2.2)) ≤ (64 : Int))) else false)
def f64M : Mdl := ⟨[(.ro, sL)], [.bool], fun x => f64G K x.1⟩
def f30E : Env := eE K [(14, f14M K), (63, f63M K), (64, f64M K)] [0, 2, 3, 4, 5, 32]
def f30G (a0 : ByteArray) : Option (tL × Bool) :=
  (f14G K a0 (44 : Int)).bind fun y1 => (f63G K y1).bind fun y2 => (bif ((decide (0 ≤ (0 : Int)) && decide ((0 : Int) < (y2.1.length : Int))) || (!(!(bif (!y2.2) then true else ((y2.1.length : Int) != (3 : Int)))))) then (bif ((decide (0 ≤ (1 : Int)) && decide ((1 : Int) < (y2.1.length : Int))) || (!(!(bif (!y2.2) then true else ((y2.1.length : Int) != (3 : Int)))))) then (bif ((decide (0 ≤ (2 : Int)) && decide ((2 : Int) < (y2.1.length : Int))) || (!(!(bif (!y2.2) then true else ((y2.1.length : Int) != (3 : Int)))))) then ((bif (!(bif (!y2.2) then true else ((y2.1.length : Int) != (3 : Int)))) then f64G K ((y2.1.getD ((0 : Int) + (0 : Int)).toNat (0 : Int)), (y2.1.getD ((0 : Int) + (1 : Int)).toNat (0 : Int)), (y2.1.getD ((0 : Int) + (2 : Int)).toNat (0 : Int))) else some false)).bind fun y3 => (bif (bif (bif (!y2.2) then true else ((y2.1.length : Int) != (3 : Int))) then true else (!y3)) then some (((0 : Int), (0 : Int), (0 : Int)), false) else (bif (decide (0 ≤ (0 : Int)) && decide ((0 : Int) < (y2.1.length : Int))) then (bif (decide (0 ≤ (1 : Int)) && decide ((1 : Int) < (y2.1.length : Int))) then (bif (decide (0 ≤ (2 : Int)) && decide ((2 : Int) < (y2.1.length : Int))) then some (((y2.1.getD ((0 : Int) + (0 : Int)).toNat (0 : Int)), (y2.1.getD ((0 : Int) + (1 : Int)).toNat (0 : Int)), (y2.1.getD ((0 : Int) + (2 : Int)).toNat (0 : Int))), true) else none) else none) else none)) else none) else none) else none)
def f30M : Mdl := ⟨[(.ro, .str)], [sL, .bool], fun x => f30G K x.1⟩
def f70E : Env := eE K [(103, f103M K)] [0, 1, 2]
def f70G (a0 : Int × Int) : Option Bool :=
  (f103G K a0.1 (-1000 : Int) (1000 : Int)).bind fun y1 => ((bif y1 then f103G K a0.2 (-1000 : Int) (1000 : Int) else some false)).bind fun y2 => some (bif y1 then y2 else false)
def f70M : Mdl := ⟨[(.ro, sV)], [.bool], fun x => f70G K x.1⟩
def f148E : Env := eE K [(70, f70M K)] [0, 1, 2]
def f148G (a0 : Int × Int × Int × Int) : Option Bool :=
  (f70G K (a0.1, a0.2.1)).bind fun y1 => ((bif y1 then f70G K a0.2.2 else some false)).bind fun y2 => some (bif y1 then y2 else false)
def f148M : Mdl := ⟨[(.ro, sA)], [.bool], fun x => f148G K x.1⟩
def f149E : Env := eE K [] [0, 1, 2]
def f149G (K : Nat) (a0 : Int × Int × Int × Int) : Option Int :=
  some (w ((w (a0.1 * a0.2.2.2)) - (w (a0.2.1 * a0.2.2.1))))
def f149M : Mdl := ⟨[(.ro, sA)], [sI], fun x => f149G K x.1⟩
def f104E : Env := eE K [(148, f148M K), (149, f149M K)] [0, 1, 2]
def f104G (a0 : Int × Int × Int × Int) : Option Bool :=
  (f148G K a0).bind fun y1 => ((bif y1 then f149G K a0 else some (0 : Int))).bind fun y2 => ((bif (y1 && (!(y2 == (1 : Int)))) then f149G K a0 else some (0 : Int))).bind fun y3 => some (bif y1 then (bif (y2 == (1 : Int)) then true else (y3 == (-1 : Int))) else false)
def f104M : Mdl := ⟨[(.ro, sA)], [.bool], fun x => f104G K x.1⟩
def f65E : Env := eE K [(14, f14M K), (63, f63M K), (104, f104M K)] [0, 2, 3, 4, 5, 6, 19, 36]
def f65G (a0 : ByteArray) : Option (tA × Bool) :=
  (f14G K a0 (44 : Int)).bind fun y1 => (f63G K y1).bind fun y2 => (bif (bif (!y2.2) then true else ((y2.1.length : Int) != (4 : Int))) then some (((0 : Int), (0 : Int), (0 : Int), (0 : Int)), false) else (bif (decide (0 ≤ (0 : Int)) && decide ((0 : Int) < (y2.1.length : Int))) then (bif (decide (0 ≤ (1 : Int)) && decide ((1 : Int) < (y2.1.length : Int))) then (bif (decide (0 ≤ (2 : Int)) && decide ((2 : Int) < (y2.1.length : Int))) then (bif (decide (0 ≤ (3 : Int)) && decide ((3 : Int) < (y2.1.length : Int))) then (f104G K ((y2.1.getD ((0 : Int) + (0 : Int)).toNat (0 : Int)), (y2.1.getD ((0 : Int) + (1 : Int)).toNat (0 : Int)), (y2.1.getD ((0 : Int) + (2 : Int)).toNat (0 : Int)), (y2.1.getD ((0 : Int) + (3 : Int)).toNat (0 : Int)))).bind fun y3 => (bif (!y3) then some (((0 : Int), (0 : Int), (0 : Int), (0 : Int)), false) else some (((y2.1.getD ((0 : Int) + (0 : Int)).toNat (0 : Int)), (y2.1.getD ((0 : Int) + (1 : Int)).toNat (0 : Int)), (y2.1.getD ((0 : Int) + (2 : Int)).toNat (0 : Int)), (y2.1.getD ((0 : Int) + (3 : Int)).toNat (0 : Int))), true)) else none) else none) else none) else none))
def f65M : Mdl := ⟨[(.ro, .str)], [sA, .bool], fun x => f65G K x.1⟩
def f33E : Env := eE K [(14, f14M K), (63, f63M K), (70, f70M K)] [0, 2, 3, 4, 5, 29]
def f33G (a0 : ByteArray) : Option (tV × Bool) :=
  (f14G K a0 (44 : Int)).bind fun y1 => (f63G K y1).bind fun y2 => (bif ((decide (0 ≤ (0 : Int)) && decide ((0 : Int) < (y2.1.length : Int))) || (!(!(bif (!y2.2) then true else ((y2.1.length : Int) != (2 : Int)))))) then (bif ((decide (0 ≤ (1 : Int)) && decide ((1 : Int) < (y2.1.length : Int))) || (!(!(bif (!y2.2) then true else ((y2.1.length : Int) != (2 : Int)))))) then ((bif (!(bif (!y2.2) then true else ((y2.1.length : Int) != (2 : Int)))) then f70G K ((y2.1.getD ((0 : Int) + (0 : Int)).toNat (0 : Int)), (y2.1.getD ((0 : Int) + (1 : Int)).toNat (0 : Int))) else some false)).bind fun y3 => (bif (bif (bif (!y2.2) then true else ((y2.1.length : Int) != (2 : Int))) then true else (!y3)) then some (((0 : Int), (0 : Int)), false) else (bif (decide (0 ≤ (0 : Int)) && decide ((0 : Int) < (y2.1.length : Int))) then (bif (decide (0 ≤ (1 : Int)) && decide ((1 : Int) < (y2.1.length : Int))) then some (((y2.1.getD ((0 : Int) + (0 : Int)).toNat (0 : Int)), (y2.1.getD ((0 : Int) + (1 : Int)).toNat (0 : Int))), true) else none) else none)) else none) else none)
def f33M : Mdl := ⟨[(.ro, .str)], [sV, .bool], fun x => f33G K x.1⟩
def f37E : Env := eE K [] [0]
def f37G (K : Nat) : Option tA :=
  some ((1 : Int), (0 : Int), (0 : Int), (1 : Int))
def f37M : Mdl := ⟨[], [sA], fun x => f37G K ⟩
def f39E : Env := eE K [] [0, 1, 2, 3, 4]
def f39G (K : Nat) (a0 a1 : Int × Int × Int × Int) : Option tA :=
  some ((w ((w (a0.1 * a1.1)) + (w (a0.2.1 * a1.2.2.1)))), (w ((w (a0.1 * a1.2.1)) + (w (a0.2.1 * a1.2.2.2)))), (w ((w (a0.2.2.1 * a1.1)) + (w (a0.2.2.2 * a1.2.2.1)))), (w ((w (a0.2.2.1 * a1.2.1)) + (w (a0.2.2.2 * a1.2.2.2)))))
def f39M : Mdl := ⟨[(.ro, sA), (.ro, sA)], [sA], fun x => f39G K x.1 x.2.1⟩
def f150E : Env := eE K [(37, f37M K), (39, f39M K), (148, f148M K)] [0, 1, 2, 3, 4, 7, 15, 18]
def f150_b6 (a0 : Int × Int × Int × Int) (L6 : Int → Int → Int → Int → Int → Option Int) (q7 q8 q9 q10 q11 : Int) : Option Int :=
  (bif (decide (q7 ≤ (6 : Int))) then (f39G K a0 (q8, q9, q10, q11)).bind fun y12 => (f148G K y12).bind fun y13 => (bif (!y13) then some (0 : Int) else (f37G K).bind fun y14 => (bif ((y12.1 == y14.1) && ((y12.2.1 == y14.2.1) && ((y12.2.2.1 == y14.2.2.1) && (y12.2.2.2 == y14.2.2.2)))) then some q7 else L6 (w (q7 + (1 : Int))) y12.1 y12.2.1 y12.2.2.1 y12.2.2.2)) else some (0 : Int))
def f150_l6 (a0 : Int × Int × Int × Int) (n : Nat) (q7 q8 q9 q10 q11 : Int) : Option Int :=
  iter (X := Int × Int × Int × Int × Int) (fun L x => f150_b6 K a0 (fun v0 v1 v2 v3 v4 => L (v0, v1, v2, v3, v4)) x.1 x.2.1 x.2.2.1 x.2.2.2.1 x.2.2.2.2) n (q7, q8, q9, q10, q11)
def f150_g (a0 : Int × Int × Int × Int) (I6 : Int → Int → Int → Int → Int → Option Int) : Option Int :=
  (f37G K).bind fun y1 => I6 (1 : Int) y1.1 y1.2.1 y1.2.2.1 y1.2.2.2
def f150G (a0 : Int × Int × Int × Int) : Option Int :=
  f150_g K a0 (fun d0 d1 d2 d3 d4 => f150_l6 K a0 K d0 d1 d2 d3 d4)
def f150M : Mdl := ⟨[(.ro, sA)], [sI], fun x => f150G K x.1⟩
def f150_k6 (a0 : Int × Int × Int × Int) (lr : LR Int) : Ex → Fr → Option Int :=
  contC (f150E K) 0 lr f150C [1, 1, 0, 1, 0] (fM (f150E K) Tryz.f150 (f150M K) (a0, ()))
def f150_j6 (a0 : Int × Int × Int × Int) (lr : LR Int) (bq7 bq8 bq9 bq10 bq11 : Int) : Option Int :=
  lr (selC f150C [1, 1, 0, 1, 0, 0]) (f150_fr6 a0 bq7 bq8 bq9 bq10 bq11) (f150_k6 K a0 lr)
def f105E : Env := eE K [(149, f149M K), (150, f150M K)] [0, 1, 2, 3, 9]
def f105G (a0 : Int × Int × Int × Int) : Option Int :=
  (f149G K a0).bind fun y1 => (bif (y1 == (1 : Int)) then (f150G K a0).bind fun y2 => some y2 else (f150G K a0).bind fun y3 => (bif (y3 == (2 : Int)) then some (-2 : Int) else some (0 : Int)))
def f105M : Mdl := ⟨[(.ro, sA)], [sI], fun x => f105G K x.1⟩
def f66E : Env := eE K [(70, f70M K), (104, f104M K), (105, f105M K)] [0, 1, 2]
def f66G (a0 : tA × Int × Int) : Option Bool :=
  (f104G K a0.1).bind fun y1 => ((bif y1 then f105G K a0.1 else some (0 : Int))).bind fun y2 => ((bif (bif y1 then (y2 != (0 : Int)) else false) then f70G K a0.2 else some false)).bind fun y3 => some (bif (bif y1 then (y2 != (0 : Int)) else false) then y3 else false)
def f66M : Mdl := ⟨[(.ro, sM)], [.bool], fun x => f66G K x.1⟩
def f31E : Env := eE K [(14, f14M K), (33, f33M K), (65, f65M K), (66, f66M K)] [0, 2, 3, 4, 5, 6, 7, 8, 9, 14, 43]
def f31G (a0 : ByteArray) : Option (tM × Bool) :=
  (f14G K a0 (59 : Int)).bind fun y1 => (bif ((y1.length : Int) != (2 : Int)) then some ((((0 : Int), (0 : Int), (0 : Int), (0 : Int)), (0 : Int), (0 : Int)), false) else (bif (decide (0 ≤ (0 : Int)) && decide ((0 : Int) < (y1.length : Int))) then (f65G K (y1.getD ((0 : Int) + (0 : Int)).toNat ByteArray.empty)).bind fun y2 => (bif (decide (0 ≤ (1 : Int)) && decide ((1 : Int) < (y1.length : Int))) then (f33G K (y1.getD ((0 : Int) + (1 : Int)).toNat ByteArray.empty)).bind fun y3 => ((bif (!(bif (!y2.2) then true else (!y3.2))) then f66G K (y2.1, y3.1) else some false)).bind fun y4 => (bif (bif (bif (!y2.2) then true else (!y3.2)) then true else (!y4)) then some ((((0 : Int), (0 : Int), (0 : Int), (0 : Int)), (0 : Int), (0 : Int)), false) else some ((y2.1, y3.1), true)) else none) else none))
def f31M : Mdl := ⟨[(.ro, .str)], [sM, .bool], fun x => f31G K x.1⟩
def f106E : Env := eE K [] [0, 2]
def f106G (K : Nat) (a0 : Int) : Option Bool :=
  some (bif (a0 == (0 : Int)) then true else (a0 == (1 : Int)))
def f106M : Mdl := ⟨[(.ro, sI)], [.bool], fun x => f106G K x.1⟩
def f67E : Env := eE K [(64, f64M K), (106, f106M K)] [0, 1, 3, 4, 12]
def f67G (a0 : Int) (a1 : Int × Int × Int) : Option Int :=
  (f106G K a0).bind fun y1 => ((bif (!(!y1)) then f64G K a1 else some false)).bind fun y2 => (bif (bif (!y1) then true else (!y2)) then some (1 : Int) else some (0 : Int))
def f67M : Mdl := ⟨[(.ro, sI), (.ro, sL)], [sI], fun x => f67G K x.1 x.2.1⟩
def f151E : Env := eE K [] [0, 1, 3, 4, 5, 18]
def f151G (K : Nat) (a0 : Int) (a1 : Int × Int) : Option Int :=
  (bif (a0 == (1 : Int)) then some (w ((w ((w (a1.1 * a1.1)) + (w (a1.2 * a1.2)))) + (w (a1.1 * a1.2)))) else some (w ((w (a1.1 * a1.1)) + (w (a1.2 * a1.2)))))
def f151M : Mdl := ⟨[(.ro, sI), (.ro, sV)], [sI], fun x => f151G K x.1 x.2.1⟩
def f40E : Env := eE K [] [0, 1, 2, 3, 4]
def f40G (K : Nat) (a0 a1 : Int × Int) : Option tV :=
  some ((w (a0.1 + a1.1)), (w (a0.2 + a1.2)))
def f40M : Mdl := ⟨[(.ro, sV), (.ro, sV)], [sV], fun x => f40G K x.1 x.2.1⟩
def f107E : Env := eE K [(40, f40M K), (151, f151M K)] [0, 1, 3, 4, 5, 6]
def f107G (a0 : Int) (a1 : Int × Int × Int × Int) : Option Bool :=
  (f151G K a0 (a1.1, a1.2.2.1)).bind fun y1 => ((bif (y1 == (1 : Int)) then f151G K a0 (a1.2.1, a1.2.2.2) else some (0 : Int))).bind fun y2 => ((bif (bif (y1 == (1 : Int)) then (y2 == (1 : Int)) else false) then f40G K (a1.1, a1.2.2.1) (a1.2.1, a1.2.2.2) else some ((0 : Int), (0 : Int)))).bind fun y3 => ((bif (bif (y1 == (1 : Int)) then (y2 == (1 : Int)) else false) then f151G K a0 y3 else some (0 : Int))).bind fun y4 => some (bif (bif (y1 == (1 : Int)) then (y2 == (1 : Int)) else false) then (y4 == (w ((2 : Int) + a0))) else false)
def f107M : Mdl := ⟨[(.ro, sI), (.ro, sA)], [.bool], fun x => f107G K x.1 x.2.1⟩
def f68E : Env := eE K [(104, f104M K), (106, f106M K), (107, f107M K)] [0, 1, 3, 4]
def f68G (a0 : Int) (a1 : Int × Int × Int × Int) : Option Bool :=
  (f106G K a0).bind fun y1 => ((bif y1 then f104G K a1 else some false)).bind fun y2 => ((bif (bif y1 then y2 else false) then f107G K a0 a1 else some false)).bind fun y3 => some (bif (bif y1 then y2 else false) then y3 else false)
def f68M : Mdl := ⟨[(.ro, sI), (.ro, sA)], [.bool], fun x => f68G K x.1 x.2.1⟩
def f108E : Env := eE K [] [0, 1, 2]
def f108G (K : Nat) (a0 : Int × Int × Int) : Option (List tV) :=
  some [(a0.1, (0 : Int)), a0.2]
def f108M : Mdl := ⟨[(.ro, sL)], [(.list 47 sV)], fun x => f108G K x.1⟩
def f41E : Env := eE K [] [0, 1, 2, 3, 4]
def f41G (K : Nat) (a0 : Int × Int × Int × Int) (a1 : Int × Int) : Option tV :=
  some ((w ((w (a0.1 * a1.1)) + (w (a0.2.1 * a1.2)))), (w ((w (a0.2.2.1 * a1.1)) + (w (a0.2.2.2 * a1.2)))))
def f41M : Mdl := ⟨[(.ro, sA), (.ro, sV)], [sV], fun x => f41G K x.1 x.2.1⟩
omit K
def f152E (K : Nat) (rec : Int → Int → Option Int) : Env := ⟨[(152, ⟨[(.ro, sI), (.ro, sI)], [sI], fun x => rec x.1 x.2.1⟩)], tys, eqs, mts, K, [0, 1, 4, 6], [], [], [], [], [], [], false⟩
def f152_s (K : Nat) (rec : Int → Int → Option Int) (a0 a1 : Int) : Option Int :=
  (bif (a1 == (0 : Int)) then some (if (w (0 - a0)) > a0 then (w (0 - a0)) else a0) else (bif (a1 != 0) then (rec a1 (a0.tmod a1)).bind fun y1 => some y1 else none))
def f152R (K : Nat) : Nat → Int → Int → Option Int
  | 0 => fun _ _ => none
  | n + 1 => fun a0 a1 => f152_s K (f152R K n) a0 a1
def f152G (K : Nat) (a0 a1 : Int) : Option Int := f152R K K a0 a1
def f152M (K : Nat) : Mdl := ⟨[(.ro, sI), (.ro, sI)], [sI], fun x => f152G K x.1 x.2.1⟩
include K
def f74E : Env := eE K [] [0, 1, 4, 9]
def f74G (K : Nat) (a0 a1 : Int) : Option Int :=
  (bif (a1 != 0) then (bif (decide ((a0.tmod a1) < (0 : Int))) then some (w ((a0.tmod a1) + a1)) else some (a0.tmod a1)) else none)
def f74M : Mdl := ⟨[(.ro, sI), (.ro, sI)], [sI], fun x => f74G K x.1 x.2.1⟩
def f153E : Env := eE K [] [0, 1, 2, 4]
def f153G (K : Nat) (a0 : Int × Int) (a1 : Int) : Option tV :=
  some ((w (a1 * a0.1)), (w (a1 * a0.2)))
def f153M : Mdl := ⟨[(.ro, sV), (.ro, sI)], [sV], fun x => f153G K x.1 x.2.1⟩
def f109E : Env := eE K [(74, f74M K), (152, f152M K), (153, f153M K)] [0, 2, 3, 4, 5, 6, 7, 8, 13, 22, 50, 58, 62]
def f109_b15 (a0 : List tV) (q11 q12 : Int) (L10 L15 : Int → Int → Int → Int → Option tL) (q16 q17 q18 q19 : Int) : Option tL :=
  (bif (q19 != (0 : Int)) then (bif (q19 != 0) then L15 q18 q19 (w (q16 - (w ((w (q17.tdiv q19)) * q18)))) (w (q17 - (w ((w (q17.tdiv q19)) * q19)))) else none) else (f152G K q11 q18).bind fun y20 => (bif (decide (y20 > (0 : Int))) then (f74G K q16 y20).bind fun y21 => L10 y20 (w (q12 + (1 : Int))) y21 q17 else L10 y20 (w (q12 + (1 : Int))) q16 q17))
def f109_l15 (a0 : List tV) (q11 q12 : Int) (L10 : Int → Int → Int → Int → Option tL) (n : Nat) (q16 q17 q18 q19 : Int) : Option tL :=
  iter (X := Int × Int × Int × Int) (fun L x => f109_b15 K a0 q11 q12 L10 (fun v0 v1 v2 v3 => L (v0, v1, v2, v3)) x.1 x.2.1 x.2.2.1 x.2.2.2) n (q16, q17, q18, q19)
def f109_b10 (a0 : List tV) (I15 : Int → Int → Int → Int → Int → Int → Option tL) (L10 : Int → Int → Int → Int → Option tL) (q11 q12 q13 q14 : Int) : Option tL :=
  (bif (decide (q12 < (a0.length : Int))) then (bif (decide (0 ≤ q12) && decide (q12 < (a0.length : Int))) then I15 q11 q12 q13 q14 ((a0.getD ((0 : Int) + q12).toNat ((0 : Int), (0 : Int))).1) ((a0.getD ((0 : Int) + q12).toNat ((0 : Int), (0 : Int))).2) else none) else (bif (decide (q14 < (0 : Int))) then (f153G K (q13, q14) (-1 : Int)).bind fun y22 => (bif (decide (q11 > (0 : Int))) then (f74G K y22.1 q11).bind fun y23 => some (q11, y23, y22.2) else some (q11, y22)) else (bif (decide (q11 > (0 : Int))) then (f74G K q13 q11).bind fun y24 => some (q11, y24, q14) else some (q11, q13, q14))))
def f109_l10 (a0 : List tV) (n : Nat) (q11 q12 q13 q14 : Int) : Option tL :=
  iter (X := Int × Int × Int × Int) (fun L x => (fun L10 => f109_b10 K a0 (fun c0 c1 d0 d1 d2 d3 => f109_l15 K a0 c0 c1 L10 K d0 d1 d2 d3) L10 x.1 x.2.1 x.2.2.1 x.2.2.2) (fun v0 v1 v2 v3 => L (v0, v1, v2, v3))) n (q11, q12, q13, q14)
def f109_g (K : Nat) (a0 : List tV) (I10 : Int → Int → Int → Int → Option tL) : Option tL :=
  I10 (0 : Int) (0 : Int) (0 : Int) (0 : Int)
def f109G (a0 : List tV) : Option tL :=
  f109_g K a0 (fun d0 d1 d2 d3 => f109_l10 K a0 K d0 d1 d2 d3)
def f109M : Mdl := ⟨[(.ro, (.list 47 sV))], [sL], fun x => f109G K x.1⟩
def f109_k10 (a0 : List tV) (lr : LR tL) : Ex → Fr → Option tL :=
  contC (f109E K) 1 lr f109C [1, 1, 0, 1, 0] (fM (f109E K) Tryz.f109 (f109M K) (a0, ()))
def f109_j10 (a0 : List tV) (lr : LR tL) (bq11 bq12 bq13 bq14 : Int) : Option tL :=
  lr (selC f109C [1, 1, 0, 1, 0, 0]) (f109_fr10 a0 bq11 bq12 bq13 bq14) (f109_k10 K a0 lr)
def f109_k15 (a0 : List tV) (F10 : Fr → Option tL) (bq11 bq12 bq13 bq14 : Int) (lr : LR tL) : Ex → Fr → Option tL :=
  contC (f109E K) 1 lr (selC f109C [1, 1, 0, 1, 0, 0]) [1, 0, 0, 1, 0, 0] (loopK 1 (f109_fr10 a0 bq11 bq12 bq13 bq14) F10 (f109_k10 K a0 lr))
def f109_j15 (a0 : List tV) (F10 : Fr → Option tL) (bq11 bq12 bq13 bq14 : Int) (lr : LR tL) (q11 q12 bq16 bq17 bq18 bq19 : Int) : Option tL :=
  lr (selC f109C [1, 1, 0, 1, 0, 0, 1, 0, 0, 1, 0, 0, 0]) (f109_fr15 a0 q11 q12 bq16 bq17 bq18 bq19) (f109_k15 K a0 F10 bq11 bq12 bq13 bq14 lr)
def f69E : Env := eE K [(41, f41M K), (108, f108M K), (109, f109M K)] [0, 1, 2, 3, 4, 5]
def f69G (a0 : Int × Int × Int × Int) (a1 : Int × Int × Int) : Option tL :=
  (f108G K a1).bind fun y1 => (bif (decide (0 ≤ (0 : Int)) && decide ((0 : Int) < (y1.length : Int))) then (f41G K a0 (y1.getD ((0 : Int) + (0 : Int)).toNat ((0 : Int), (0 : Int)))).bind fun y2 => (bif (decide (0 ≤ (1 : Int)) && decide ((1 : Int) < (y1.length : Int))) then (f41G K a0 (y1.getD ((0 : Int) + (1 : Int)).toNat ((0 : Int), (0 : Int)))).bind fun y3 => (f109G K [y2, y3]).bind fun y4 => some y4 else none) else none)
def f69M : Mdl := ⟨[(.ro, sA), (.ro, sL)], [sL], fun x => f69G K x.1 x.2.1⟩
def f32E : Env := eE K [(67, f67M K), (68, f68M K), (69, f69M K), (70, f70M K)] [0, 1, 2, 4, 5, 6]
def f32G (a0 : Int) (a1 : Int × Int × Int) (a2 : tA × Int × Int) : Option Bool :=
  (f67G K a0 a1).bind fun y1 => ((bif (y1 == (0 : Int)) then f68G K a0 a2.1 else some false)).bind fun y2 => ((bif (bif (y1 == (0 : Int)) then y2 else false) then f69G K a2.1 a1 else some ((0 : Int), ((0 : Int), (0 : Int))))).bind fun y3 => ((bif (bif (bif (y1 == (0 : Int)) then y2 else false) then ((y3.1 == a1.1) && ((y3.2.1 == a1.2.1) && (y3.2.2 == a1.2.2))) else false) then f70G K a2.2 else some false)).bind fun y4 => some (bif (bif (bif (y1 == (0 : Int)) then y2 else false) then ((y3.1 == a1.1) && ((y3.2.1 == a1.2.1) && (y3.2.2 == a1.2.2))) else false) then y4 else false)
def f32M : Mdl := ⟨[(.ro, sI), (.ro, sL), (.ro, sM)], [.bool], fun x => f32G K x.1 x.2.1 x.2.2.1⟩
def f38E : Env := eE K [(74, f74M K)] [0, 1, 2, 3, 4, 5, 6]
def f38G (a0 : Int × Int × Int) (a1 : Int × Int) : Option tV :=
  (f74G K a1.2 a0.2.2).bind fun y1 => (bif (a0.2.2 != 0) then (f74G K (w (a1.1 - (w ((w ((w (a1.2 - y1)).tdiv a0.2.2)) * a0.2.1)))) a0.1).bind fun y2 => some (y2, y1) else none)
def f38M : Mdl := ⟨[(.ro, sL), (.ro, sV)], [sV], fun x => f38G K x.1 x.2.1⟩
def f19E : Env := eE K [(38, f38M K)] [0, 1, 2, 3, 4]
def f19G (a0 : Int × Int × Int) (a1 : tA × Int × Int) : Option tM :=
  (f38G K a0 a1.2).bind fun y1 => some (a1.1, y1)
def f19M : Mdl := ⟨[(.ro, sL), (.ro, sM)], [sM], fun x => f19G K x.1 x.2.1⟩
def f15E : Env := eE K [(14, f14M K), (19, f19M K), (30, f30M K), (31, f31M K), (32, f32M K), (33, f33M K), (34, f34M K)] [0, 1, 2, 4, 5, 6, 7, 8, 9, 10, 11, 12, 13, 14, 21, 45, 51, 54, 72, 76, 81, 98, 102, 107, 113, 134, 158, 173, 178]
def f15G (a0 : Int × tL × Int × (List tM) × List (tV × Int)) (a1 : ByteArray) : Option ((Int × tL × Int × (List tM) × List (tV × Int)) × Int) :=
  (f14G K a1 (32 : Int)).bind fun y1 => (bif ((decide (0 ≤ (0 : Int)) && decide ((0 : Int) < (y1.length : Int))) || (!((y1.length : Int) == (2 : Int)))) then (bif ((decide (0 ≤ (1 : Int)) && decide ((1 : Int) < (y1.length : Int))) || (!(bif ((y1.length : Int) == (2 : Int)) then ((y1.getD ((0 : Int) + (0 : Int)).toNat ByteArray.empty) == (bs [102, 114, 97, 109, 101])) else false))) then (bif ((decide (0 ≤ (1 : Int)) && decide ((1 : Int) < (y1.length : Int))) || (!((bif ((y1.length : Int) == (2 : Int)) then ((y1.getD ((0 : Int) + (0 : Int)).toNat ByteArray.empty) == (bs [102, 114, 97, 109, 101])) else false) && (!((y1.getD ((0 : Int) + (1 : Int)).toNat ByteArray.empty) == (bs [83])))))) then (bif (bif (bif ((y1.length : Int) == (2 : Int)) then ((y1.getD ((0 : Int) + (0 : Int)).toNat ByteArray.empty) == (bs [102, 114, 97, 109, 101])) else false) then (bif ((y1.getD ((0 : Int) + (1 : Int)).toNat ByteArray.empty) == (bs [83])) then true else ((y1.getD ((0 : Int) + (1 : Int)).toNat ByteArray.empty) == (bs [72]))) else false) then (bif ((w (a0.2.2.1 + (1 : Int))) != (1 : Int)) then some ((a0.1, a0.2.1, (w (a0.2.2.1 + (1 : Int))), a0.2.2.2), (5 : Int)) else (bif (decide (0 ≤ (1 : Int)) && decide ((1 : Int) < (y1.length : Int))) then (bif ((y1.getD ((0 : Int) + (1 : Int)).toNat ByteArray.empty) == (bs [72])) then some (((1 : Int), a0.2.1, (w (a0.2.2.1 + (1 : Int))), a0.2.2.2), (0 : Int)) else some (((0 : Int), a0.2.1, (w (a0.2.2.1 + (1 : Int))), a0.2.2.2), (0 : Int))) else none)) else (bif ((decide (0 ≤ (0 : Int)) && decide ((0 : Int) < (y1.length : Int))) || (!((y1.length : Int) == (2 : Int)))) then (bif (bif ((y1.length : Int) == (2 : Int)) then ((y1.getD ((0 : Int) + (0 : Int)).toNat ByteArray.empty) == (bs [108, 97, 116, 116, 105, 99, 101])) else false) then (bif (decide (0 ≤ (1 : Int)) && decide ((1 : Int) < (y1.length : Int))) then (f30G K (y1.getD ((0 : Int) + (1 : Int)).toNat ByteArray.empty)).bind fun y2 => (bif (!y2.2) then some ((a0.1, a0.2.1, (w (a0.2.2.1 + (1 : Int))), a0.2.2.2), (6 : Int)) else (bif ((w (a0.2.2.1 + (1 : Int))) != (2 : Int)) then some ((a0.1, a0.2.1, (w (a0.2.2.1 + (1 : Int))), a0.2.2.2), (5 : Int)) else some ((a0.1, y2.1, (w (a0.2.2.1 + (1 : Int))), a0.2.2.2), (0 : Int)))) else none) else (bif ((decide (0 ≤ (0 : Int)) && decide ((0 : Int) < (y1.length : Int))) || (!((y1.length : Int) == (2 : Int)))) then (bif (bif ((y1.length : Int) == (2 : Int)) then ((y1.getD ((0 : Int) + (0 : Int)).toNat ByteArray.empty) == (bs [109, 111, 116, 105, 111, 110])) else false) then (bif (decide (0 ≤ (1 : Int)) && decide ((1 : Int) < (y1.length : Int))) then (f31G K (y1.getD ((0 : Int) + (1 : Int)).toNat ByteArray.empty)).bind fun y3 => (bif (!y3.2) then some ((a0.1, a0.2.1, (w (a0.2.2.1 + (1 : Int))), a0.2.2.2), (6 : Int)) else (bif (decide ((w (a0.2.2.1 + (1 : Int))) < (3 : Int))) then some ((a0.1, a0.2.1, (w (a0.2.2.1 + (1 : Int))), a0.2.2.2), (5 : Int)) else (bif ((a0.2.2.2.1.length : Int) == (8 : Int)) then some ((a0.1, a0.2.1, (w (a0.2.2.1 + (1 : Int))), a0.2.2.2), (3 : Int)) else (f32G K a0.1 a0.2.1 y3.1).bind fun y4 => (bif (!y4) then some ((a0.1, a0.2.1, (w (a0.2.2.1 + (1 : Int))), a0.2.2.2), (2 : Int)) else (bif (Nat.ble (0 + a0.2.2.2.1.length) (lim 48)) then (f19G K a0.2.1 y3.1).bind fun y5 => (bif (Nat.ble (([] ++ a0.2.2.2.1).length + [y5].length) (lim 48)) then some ((a0.1, a0.2.1, (w (a0.2.2.1 + (1 : Int))), (([] ++ a0.2.2.2.1) ++ [y5]), a0.2.2.2.2), (0 : Int)) else none) else none))))) else none) else (bif ((decide (0 ≤ (0 : Int)) && decide ((0 : Int) < (y1.length : Int))) || (!((y1.length : Int) == (3 : Int)))) then (bif (bif ((y1.length : Int) == (3 : Int)) then ((y1.getD ((0 : Int) + (0 : Int)).toNat ByteArray.empty) == (bs [109, 97, 114, 107])) else false) then (bif (decide (0 ≤ (1 : Int)) && decide ((1 : Int) < (y1.length : Int))) then (f33G K (y1.getD ((0 : Int) + (1 : Int)).toNat ByteArray.empty)).bind fun y6 => (bif (decide (0 ≤ (2 : Int)) && decide ((2 : Int) < (y1.length : Int))) then (f34G K (y1.getD ((0 : Int) + (2 : Int)).toNat ByteArray.empty)).bind fun y7 => (bif ((decide (0 ≤ (2 : Int)) && decide ((2 : Int) < (y1.length : Int))) || (!(!(bif (!y6.2) then true else (!y7.2))))) then (bif (bif (bif (!y6.2) then true else (!y7.2)) then true else (((y1.getD ((0 : Int) + (2 : Int)).toNat ByteArray.empty).size : Int) != (1 : Int))) then some ((a0.1, a0.2.1, (w (a0.2.2.1 + (1 : Int))), a0.2.2.2), (6 : Int)) else (bif (decide ((w (a0.2.2.1 + (1 : Int))) < (3 : Int))) then some ((a0.1, a0.2.1, (w (a0.2.2.1 + (1 : Int))), a0.2.2.2), (5 : Int)) else (bif ((a0.2.2.2.2.length : Int) == (40 : Int)) then some ((a0.1, a0.2.1, (w (a0.2.2.1 + (1 : Int))), a0.2.2.2), (3 : Int)) else (bif (Nat.ble (0 + a0.2.2.2.2.length) (lim 24)) then (bif (Nat.ble (([] ++ a0.2.2.2.2).length + [(y6.1, y7.1)].length) (lim 24)) then some ((a0.1, a0.2.1, (w (a0.2.2.1 + (1 : Int))), a0.2.2.2.1, (([] ++ a0.2.2.2.2) ++ [(y6.1, y7.1)])), (0 : Int)) else none) else none)))) else none) else none) else none) else some ((a0.1, a0.2.1, (w (a0.2.2.1 + (1 : Int))), a0.2.2.2), (6 : Int))) else none)) else none)) else none)) else none) else none) else none)
def f15M : Mdl := ⟨[(.mv, (.cons sI (.cons sL (.cons sI (.cons (.list 49 sM) (.list 82 (.cons sV sI))))))), (.ro, .str)], [(.cons sI (.cons sL (.cons sI (.cons (.list 49 sM) (.list 82 (.cons sV sI)))))), sI], fun x => f15G K x.1 x.2.1⟩
def f18E : Env := eE K [(37, f37M K)] [0]
def f18G : Option tM :=
  (f37G K).bind fun y1 => some (y1, (0 : Int), (0 : Int))
def f18M : Mdl := ⟨[], [sM], fun x => f18G K ⟩
def f20E : Env := eE K [(39, f39M K), (40, f40M K), (41, f41M K)] [0, 1, 2, 3, 4]
def f20G (a0 a1 : tA × Int × Int) : Option tM :=
  (f39G K a0.1 a1.1).bind fun y1 => (f41G K a0.1 a1.2).bind fun y2 => (f40G K y2 a0.2).bind fun y3 => some (y1, y3)
def f20M : Mdl := ⟨[(.ro, sM), (.ro, sM)], [sM], fun x => f20G K x.1 x.2.1⟩
def f156E : Env := eE K [] [0, 1, 2]
def f156G (K : Nat) (a0 : Int × Int × Int × Int) : Option (List Int) :=
  some [a0.1, a0.2.1, a0.2.2.1, a0.2.2.2]
def f156M : Mdl := ⟨[(.ro, sA)], [(.list 2 sI)], fun x => f156G K x.1⟩
def f155E : Env := eE K [] [0, 1, 4, 5, 15, 26]
def f155_b2 (K : Nat) (a0 a1 : List Int) (L2 : Int → Option Bool) (q3 : Int) : Option Bool :=
  (bif (bif (decide (q3 < (a0.length : Int))) then (decide (q3 < (a1.length : Int))) else false) then (bif (decide (0 ≤ q3) && decide (q3 < (a0.length : Int))) then (bif (decide (0 ≤ q3) && decide (q3 < (a1.length : Int))) then (bif ((a0.getD ((0 : Int) + q3).toNat (0 : Int)) != (a1.getD ((0 : Int) + q3).toNat (0 : Int))) then (bif (decide (0 ≤ q3) && decide (q3 < (a0.length : Int))) then (bif (decide (0 ≤ q3) && decide (q3 < (a1.length : Int))) then some (decide ((a0.getD ((0 : Int) + q3).toNat (0 : Int)) < (a1.getD ((0 : Int) + q3).toNat (0 : Int)))) else none) else none) else L2 (w (q3 + (1 : Int)))) else none) else none) else some (decide ((a0.length : Int) < (a1.length : Int))))
def f155_l2 (a0 a1 : List Int) (n : Nat) (q3 : Int) : Option Bool :=
  iter (X := Int) (fun L x => f155_b2 K a0 a1 (fun v0 => L v0) x) n q3
def f155_g (K : Nat) (a0 a1 : List Int) (I2 : Int → Option Bool) : Option Bool :=
  I2 (0 : Int)
def f155G (a0 a1 : List Int) : Option Bool :=
  f155_g K a0 a1 (fun d0 => f155_l2 K a0 a1 K d0)
def f155M : Mdl := ⟨[(.ro, (.list 2 sI)), (.ro, (.list 2 sI))], [.bool], fun x => f155G K x.1 x.2.1⟩
def f155_k2 (a0 a1 : List Int) (lr : LR Bool) : Ex → Fr → Option Bool :=
  contC (f155E K) 2 lr f155C [1, 0, 1, 0] (fM (f155E K) Tryz.f155 (f155M K) (a0, a1, ()))
def f155_j2 (a0 a1 : List Int) (lr : LR Bool) (bq3 : Int) : Option Bool :=
  lr (selC f155C [1, 0, 1, 0, 0]) (f155_fr2 a0 a1 bq3) (f155_k2 K a0 a1 lr)
def f112E : Env := eE K [(155, f155M K), (156, f156M K)] [0, 1, 2, 3, 4]
def f112G (a0 a1 : Int × Int × Int × Int) : Option Bool :=
  (f156G K a0).bind fun y1 => (f156G K a1).bind fun y2 => (f155G K y1 y2).bind fun y3 => some y3
def f112M : Mdl := ⟨[(.ro, sA), (.ro, sA)], [.bool], fun x => f112G K x.1 x.2.1⟩
def f113E : Env := eE K [] [0, 1, 2, 3, 4]
def f113G (K : Nat) (a0 a1 : Int × Int) : Option Bool :=
  some (bif (decide (a0.1 < a1.1)) then true else (bif (a0.1 == a1.1) then (decide (a0.2 < a1.2)) else false))
def f113M : Mdl := ⟨[(.ro, sV), (.ro, sV)], [.bool], fun x => f113G K x.1 x.2.1⟩
def f75E : Env := eE K [(112, f112M K), (113, f113M K)] [0, 1, 2, 3, 4, 9]
def f75G (a0 a1 : tA × Int × Int) : Option Bool :=
  (bif (!((a0.1.1 == a1.1.1) && ((a0.1.2.1 == a1.1.2.1) && ((a0.1.2.2.1 == a1.1.2.2.1) && (a0.1.2.2.2 == a1.1.2.2.2))))) then (f112G K a0.1 a1.1).bind fun y1 => some y1 else (f113G K a0.2 a1.2).bind fun y2 => some y2)
def f75M : Mdl := ⟨[(.ro, sM), (.ro, sM)], [.bool], fun x => f75G K x.1 x.2.1⟩
def f42E : Env := eE K [(75, f75M K)] [0, 1, 3, 4, 5, 6, 7, 12, 22]
def f42_b6 (a0 : List tM) (a1 : tA × Int × Int) (L6 : Int → Int → Option Int) (q7 q8 : Int) : Option Int :=
  (bif (decide (q7 < q8)) then (bif (decide (0 ≤ (w ((w (q7 + q8)).tdiv (2 : Int)))) && decide ((w ((w (q7 + q8)).tdiv (2 : Int))) < (a0.length : Int))) then (f75G K ((((a0.getD ((0 : Int) + (w ((w (q7 + q8)).tdiv (2 : Int)))).toNat zM).1).1, (((a0.getD ((0 : Int) + (w ((w (q7 + q8)).tdiv (2 : Int)))).toNat zM).1).2).1, ((((a0.getD ((0 : Int) + (w ((w (q7 + q8)).tdiv (2 : Int)))).toNat zM).1).2).2)), ((a0.getD ((0 : Int) + (w ((w (q7 + q8)).tdiv (2 : Int)))).toNat zM).2)) a1).bind fun y9 => (bif y9 then L6 (w ((w ((w (q7 + q8)).tdiv (2 : Int))) + (1 : Int))) q8 else L6 q7 (w ((w (q7 + q8)).tdiv (2 : Int)))) else none) else some q7)
def f42_l6 (a0 : List tM) (a1 : tA × Int × Int) (n : Nat) (q7 q8 : Int) : Option Int :=
  iter (X := Int × Int) (fun L x => f42_b6 K a0 a1 (fun v0 v1 => L (v0, v1)) x.1 x.2) n (q7, q8)
def f42_g (K : Nat) (a0 : List tM) (a1 : tA × Int × Int) (I6 : Int → Int → Option Int) : Option Int :=
  I6 (0 : Int) (a0.length : Int)
def f42G (a0 : List tM) (a1 : tA × Int × Int) : Option Int :=
  f42_g K a0 a1 (fun d0 d1 => f42_l6 K a0 a1 K d0 d1)
def f42M : Mdl := ⟨[(.ro, (.list 49 sM)), (.ro, sM)], [sI], fun x => f42G K x.1 x.2.1⟩
def f42_k6 (a0 : List tM) (a1 : tA × Int × Int) (lr : LR Int) : Ex → Fr → Option Int :=
  contC (f42E K) 1 lr f42C [1, 1, 0, 0] (fM (f42E K) Tryz.f42 (f42M K) (a0, a1, ()))
def f42_j6 (a0 : List tM) (a1 : tA × Int × Int) (lr : LR Int) (bq7 bq8 : Int) : Option Int :=
  lr (selC f42C [1, 1, 0, 0, 0]) (f42_fr6 a0 a1 bq7 bq8) (f42_k6 K a0 a1 lr)
def f21E : Env := eE K [(42, f42M K)] [0, 1, 3, 4, 5]
def f21G (a0 : List tM) (a1 : tA × Int × Int) : Option Bool :=
  (f42G K a0 a1).bind fun y1 => (bif ((decide (0 ≤ y1) && decide (y1 < (a0.length : Int))) || (!(decide (y1 < (a0.length : Int))))) then some (bif (decide (y1 < (a0.length : Int))) then ((((a0.getD ((0 : Int) + y1).toNat zM).1).1 == a1.1.1) && (((((a0.getD ((0 : Int) + y1).toNat zM).1).2).1 == a1.1.2.1) && ((((((a0.getD ((0 : Int) + y1).toNat zM).1).2).2).1 == a1.1.2.2.1) && ((((((a0.getD ((0 : Int) + y1).toNat zM).1).2).2).2 == a1.1.2.2.2) && ((((a0.getD ((0 : Int) + y1).toNat zM).2).1 == a1.2.1) && (((a0.getD ((0 : Int) + y1).toNat zM).2).2 == a1.2.2)))))) else false) else none)
def f21M : Mdl := ⟨[(.ro, (.list 49 sM)), (.ro, sM)], [.bool], fun x => f21G K x.1 x.2.1⟩
def f22E : Env := eE K [(42, f42M K)] [0, 1, 3, 4, 5, 20]
def f22G (a0 : List tM) (a1 : tA × Int × Int) : Option (List tM) :=
  (f42G K a0 a1).bind fun y1 => (bif ((decide (0 ≤ y1) && decide (y1 < (a0.length : Int))) || (!(decide (y1 < (a0.length : Int))))) then (bif (bif (decide (y1 < (a0.length : Int))) then ((((a0.getD ((0 : Int) + y1).toNat zM).1).1 == a1.1.1) && (((((a0.getD ((0 : Int) + y1).toNat zM).1).2).1 == a1.1.2.1) && ((((((a0.getD ((0 : Int) + y1).toNat zM).1).2).2).1 == a1.1.2.2.1) && ((((((a0.getD ((0 : Int) + y1).toNat zM).1).2).2).2 == a1.1.2.2.2) && ((((a0.getD ((0 : Int) + y1).toNat zM).2).1 == a1.2.1) && (((a0.getD ((0 : Int) + y1).toNat zM).2).2 == a1.2.2)))))) else false) then some a0 else (bif (decide (0 ≤ (0 : Int)) && decide ((0 : Int) ≤ y1) && decide (y1 ≤ (a0.length : Int))) then (bif (Nat.ble (0 + ((a0.take ((0 : Int) + y1).toNat).drop 0).length) (lim 48)) then (bif (Nat.ble (([] ++ ((a0.take ((0 : Int) + y1).toNat).drop 0)).length + [a1].length) (lim 48)) then (bif (decide (0 ≤ y1) && decide (y1 ≤ (a0.length : Int)) && decide ((a0.length : Int) ≤ (a0.length : Int))) then (bif (Nat.ble ((([] ++ ((a0.take ((0 : Int) + y1).toNat).drop 0)) ++ [a1]).length + ((a0.take ((0 : Int) + (a0.length : Int)).toNat).drop ((0 : Int) + y1).toNat).length) (lim 48)) then some ((([] ++ ((a0.take ((0 : Int) + y1).toNat).drop 0)) ++ [a1]) ++ ((a0.take ((0 : Int) + (a0.length : Int)).toNat).drop ((0 : Int) + y1).toNat)) else none) else none) else none) else none) else none)) else none)
def f22M : Mdl := ⟨[(.mv, (.list 49 sM)), (.ro, sM)], [(.list 49 sM)], fun x => f22G K x.1 x.2.1⟩
def f10E : Env := eE K [(18, f18M K), (19, f19M K), (20, f20M K), (21, f21M K), (22, f22M K)] [0, 1, 2, 4, 5, 6, 7, 8, 9, 17, 23, 40]
def f10_b21 (a0 : Int × Int × Int) (a1 : List tM) (q18 : Int) (q20 : List tM) (L17 L21 : Int → (List tM) → (List tM) → Option (List tM)) (q22 : Int) (q23 q24 : List tM) : Option (List tM) :=
  (bif (decide (q22 < (a1.length : Int))) then (bif (decide (0 ≤ q22) && decide (q22 < (a1.length : Int))) then (bif (decide (0 ≤ q18) && decide (q18 < (q24.length : Int))) then (f20G K ((((a1.getD ((0 : Int) + q22).toNat zM).1).1, (((a1.getD ((0 : Int) + q22).toNat zM).1).2).1, ((((a1.getD ((0 : Int) + q22).toNat zM).1).2).2)), ((a1.getD ((0 : Int) + q22).toNat zM).2)) ((((q24.getD ((0 : Int) + q18).toNat zM).1).1, (((q24.getD ((0 : Int) + q18).toNat zM).1).2).1, ((((q24.getD ((0 : Int) + q18).toNat zM).1).2).2)), ((q24.getD ((0 : Int) + q18).toNat zM).2))).bind fun y25 => (f19G K a0 y25).bind fun y26 => (f21G K q23 y26).bind fun y27 => (bif (!y27) then (f22G K q23 y26).bind fun y28 => (bif (Nat.ble (q24.length + [y26].length) (lim 48)) then L21 (w (q22 + (1 : Int))) y28 (q24 ++ [y26]) else none) else L21 (w (q22 + (1 : Int))) q23 q24) else none) else none) else L17 (w (q18 + (1 : Int))) q23 q24)
def f10_l21 (a0 : Int × Int × Int) (a1 : List tM) (q18 : Int) (q20 : List tM) (L17 : Int → (List tM) → (List tM) → Option (List tM)) (n : Nat) (q22 : Int) (q23 q24 : List tM) : Option (List tM) :=
  iter (X := Int × List tM × List tM) (fun L x => f10_b21 K a0 a1 q18 q20 L17 (fun v0 v1 v2 => L (v0, v1, v2)) x.1 x.2.1 x.2.2) n (q22, q23, q24)
def f10_b17 (K : Nat) (a0 : Int × Int × Int) (a1 : List tM) (I21 : Int → (List tM) → Int → (List tM) → (List tM) → Option (List tM)) (L17 : Int → (List tM) → (List tM) → Option (List tM)) (q18 : Int) (q19 q20 : List tM) : Option (List tM) :=
  (bif (decide (q18 < (q20.length : Int))) then I21 q18 q20 (0 : Int) q19 q20 else some q19)
def f10_l17 (a0 : Int × Int × Int) (a1 : List tM) (n : Nat) (q18 : Int) (q19 q20 : List tM) : Option (List tM) :=
  iter (X := Int × List tM × List tM) (fun L x => (fun L17 => f10_b17 K a0 a1 (fun c0 c1 d0 d1 d2 => f10_l21 K a0 a1 c0 c1 L17 K d0 d1 d2) L17 x.1 x.2.1 x.2.2) (fun v0 v1 v2 => L (v0, v1, v2))) n (q18, q19, q20)
def f10_g (a0 : Int × Int × Int) (a1 : List tM) (I17 : Int → (List tM) → (List tM) → Option (List tM)) : Option (List tM) :=
  (f18G K).bind fun y1 => (f18G K).bind fun y2 => I17 (0 : Int) [y1] [y2]
def f10G (a0 : Int × Int × Int) (a1 : List tM) : Option (List tM) :=
  f10_g K a0 a1 (fun d0 d1 d2 => f10_l17 K a0 a1 K d0 d1 d2)
def f10M : Mdl := ⟨[(.ro, sL), (.ro, (.list 49 sM))], [(.list 49 sM)], fun x => f10G K x.1 x.2.1⟩
def f10_k17 (a0 : Int × Int × Int) (a1 : List tM) (lr : LR (List tM)) : Ex → Fr → Option (List tM) :=
  contC (f10E K) 1 lr f10C [1, 1, 1, 0, 1, 0] (fM (f10E K) Tryz.f10 (f10M K) (a0, a1, ()))
def f10_j17 (a0 : Int × Int × Int) (a1 : List tM) (lr : LR (List tM)) (bq18 : Int) (bq19 bq20 : List tM) : Option (List tM) :=
  lr (selC f10C [1, 1, 1, 0, 1, 0, 0]) (f10_fr17 a0 a1 bq18 bq19 bq20) (f10_k17 K a0 a1 lr)
def f10_k21 (a0 : Int × Int × Int) (a1 : List tM) (F17 : Fr → Option (List tM)) (bq18 : Int) (bq19 bq20 : List tM) (lr : LR (List tM)) : Ex → Fr → Option (List tM) :=
  contC (f10E K) 1 lr (selC f10C [1, 1, 1, 0, 1, 0, 0]) [1, 0, 0, 1, 0] (loopK 1 (f10_fr17 a0 a1 bq18 bq19 bq20) F17 (f10_k17 K a0 a1 lr))
def f10_j21 (a0 : Int × Int × Int) (a1 : List tM) (F17 : Fr → Option (List tM)) (bq18 : Int) (bq19 bq20 : List tM) (lr : LR (List tM)) (q18 : Int) (q20 : List tM) (bq22 : Int) (bq23 bq24 : List tM) : Option (List tM) :=
  lr (selC f10C [1, 1, 1, 0, 1, 0, 0, 1, 0, 0, 1, 0, 0]) (f10_fr21 a0 a1 q18 q20 bq22 bq23 bq24) (f10_k21 K a0 a1 F17 bq18 bq19 bq20 lr)
def f72E : Env := eE K [] [0, 1, 2, 3, 4, 5, 10, 16]
def f72_b9 (K : Nat) (a0 : Int × Int × Int) (q7 : Int) (L6 L9 : Int → (List tV) → Option (List tV)) (q10 : Int) (q11 : List tV) : Option (List tV) :=
  (bif (decide (q10 < a0.2.2)) then (bif (Nat.ble (q11.length + [(q7, q10)].length) (lim 16)) then L9 (w (q10 + (1 : Int))) (q11 ++ [(q7, q10)]) else none) else L6 (w (q7 + (1 : Int))) q11)
def f72_l9 (a0 : Int × Int × Int) (q7 : Int) (L6 : Int → (List tV) → Option (List tV)) (n : Nat) (q10 : Int) (q11 : List tV) : Option (List tV) :=
  iter (X := Int × List tV) (fun L x => f72_b9 K a0 q7 L6 (fun v0 v1 => L (v0, v1)) x.1 x.2) n (q10, q11)
def f72_b6 (K : Nat) (a0 : Int × Int × Int) (I9 : Int → Int → (List tV) → Option (List tV)) (L6 : Int → (List tV) → Option (List tV)) (q7 : Int) (q8 : List tV) : Option (List tV) :=
  (bif (decide (q7 < a0.1)) then I9 q7 (0 : Int) q8 else some q8)
def f72_l6 (a0 : Int × Int × Int) (n : Nat) (q7 : Int) (q8 : List tV) : Option (List tV) :=
  iter (X := Int × List tV) (fun L x => (fun L6 => f72_b6 K a0 (fun c0 d0 d1 => f72_l9 K a0 c0 L6 K d0 d1) L6 x.1 x.2) (fun v0 v1 => L (v0, v1))) n (q7, q8)
def f72_g (K : Nat) (a0 : Int × Int × Int) (I6 : Int → (List tV) → Option (List tV)) : Option (List tV) :=
  I6 (0 : Int) []
def f72G (a0 : Int × Int × Int) : Option (List tV) :=
  f72_g K a0 (fun d0 d1 => f72_l6 K a0 K d0 d1)
def f72M : Mdl := ⟨[(.ro, sL)], [(.list 47 sV)], fun x => f72G K x.1⟩
def f72_k6 (a0 : Int × Int × Int) (lr : LR (List tV)) : Ex → Fr → Option (List tV) :=
  contC (f72E K) 0 lr f72C [1, 1, 0, 1, 0] (fM (f72E K) Tryz.f72 (f72M K) (a0, ()))
def f72_j6 (a0 : Int × Int × Int) (lr : LR (List tV)) (bq7 : Int) (bq8 : List tV) : Option (List tV) :=
  lr (selC f72C [1, 1, 0, 1, 0, 0]) (f72_fr6 a0 bq7 bq8) (f72_k6 K a0 lr)
def f72_k9 (a0 : Int × Int × Int) (F6 : Fr → Option (List tV)) (bq7 : Int) (bq8 : List tV) (lr : LR (List tV)) : Ex → Fr → Option (List tV) :=
  contC (f72E K) 0 lr (selC f72C [1, 1, 0, 1, 0, 0]) [1, 0, 0, 1, 0] (loopK 0 (f72_fr6 a0 bq7 bq8) F6 (f72_k6 K a0 lr))
def f72_j9 (a0 : Int × Int × Int) (F6 : Fr → Option (List tV)) (bq7 : Int) (bq8 : List tV) (lr : LR (List tV)) (q7 bq10 : Int) (bq11 : List tV) : Option (List tV) :=
  lr (selC f72C [1, 1, 0, 1, 0, 0, 1, 0, 0, 1, 0, 0]) (f72_fr9 a0 q7 bq10 bq11) (f72_k9 K a0 F6 bq7 bq8 lr)
def f154E : Env := eE K [(40, f40M K), (41, f41M K)] [0, 1, 2, 3, 4]
def f154G (a0 : tA × Int × Int) (a1 : Int × Int) : Option tV :=
  (f41G K a0.1 a1).bind fun y1 => (f40G K y1 a0.2).bind fun y2 => some y2
def f154M : Mdl := ⟨[(.ro, sM), (.ro, sV)], [sV], fun x => f154G K x.1 x.2.1⟩
def f111E : Env := eE K [(38, f38M K), (154, f154M K)] [0, 1, 2, 3, 4, 5, 6]
def f111G (a0 : Int × Int × Int) (a1 : tA × Int × Int) (a2 : Int × Int) : Option tV :=
  (f154G K a1 a2).bind fun y1 => (f38G K a0 y1).bind fun y2 => some y2
def f111M : Mdl := ⟨[(.ro, sL), (.ro, sM), (.ro, sV)], [sV], fun x => f111G K x.1 x.2.1 x.2.2.1⟩
def f110E : Env := eE K [(113, f113M K)] [0, 1, 3, 4, 5, 17, 31]
def f110_b3 (a0 : List tV) (a1 : Int × Int) (L3 : Int → Option (List tV)) (q4 : Int) : Option (List tV) :=
  (bif ((decide (0 ≤ q4) && decide (q4 < (a0.length : Int))) || (!(decide (q4 < (a0.length : Int))))) then ((bif (decide (q4 < (a0.length : Int))) then f113G K (a0.getD ((0 : Int) + q4).toNat ((0 : Int), (0 : Int))) a1 else some false)).bind fun y5 => (bif (bif (decide (q4 < (a0.length : Int))) then y5 else false) then L3 (w (q4 + (1 : Int))) else (bif ((decide (0 ≤ q4) && decide (q4 < (a0.length : Int))) || (!(decide (q4 < (a0.length : Int))))) then (bif (bif (decide (q4 < (a0.length : Int))) then (((a0.getD ((0 : Int) + q4).toNat ((0 : Int), (0 : Int))).1 == a1.1) && ((a0.getD ((0 : Int) + q4).toNat ((0 : Int), (0 : Int))).2 == a1.2)) else false) then some a0 else (bif (decide (0 ≤ (0 : Int)) && decide ((0 : Int) ≤ q4) && decide (q4 ≤ (a0.length : Int))) then (bif (Nat.ble (0 + ((a0.take ((0 : Int) + q4).toNat).drop 0).length) (lim 16)) then (bif (Nat.ble (([] ++ ((a0.take ((0 : Int) + q4).toNat).drop 0)).length + [a1].length) (lim 16)) then (bif (decide (0 ≤ q4) && decide (q4 ≤ (a0.length : Int)) && decide ((a0.length : Int) ≤ (a0.length : Int))) then (bif (Nat.ble ((([] ++ ((a0.take ((0 : Int) + q4).toNat).drop 0)) ++ [a1]).length + ((a0.take ((0 : Int) + (a0.length : Int)).toNat).drop ((0 : Int) + q4).toNat).length) (lim 16)) then some ((([] ++ ((a0.take ((0 : Int) + q4).toNat).drop 0)) ++ [a1]) ++ ((a0.take ((0 : Int) + (a0.length : Int)).toNat).drop ((0 : Int) + q4).toNat)) else none) else none) else none) else none) else none)) else none)) else none)
def f110_l3 (a0 : List tV) (a1 : Int × Int) (n : Nat) (q4 : Int) : Option (List tV) :=
  iter (X := Int) (fun L x => f110_b3 K a0 a1 (fun v0 => L v0) x) n q4
def f110_g (K : Nat) (a0 : List tV) (a1 : Int × Int) (I3 : Int → Option (List tV)) : Option (List tV) :=
  I3 (0 : Int)
def f110G (a0 : List tV) (a1 : Int × Int) : Option (List tV) :=
  f110_g K a0 a1 (fun d0 => f110_l3 K a0 a1 K d0)
def f110M : Mdl := ⟨[(.mv, (.list 47 sV)), (.ro, sV)], [(.list 47 sV)], fun x => f110G K x.1 x.2.1⟩
def f110_k3 (a0 : List tV) (a1 : Int × Int) (lr : LR (List tV)) : Ex → Fr → Option (List tV) :=
  contC (f110E K) 1 lr f110C [1, 1, 0, 0] (fM (f110E K) Tryz.f110 (f110M K) (a0, a1, ()))
def f110_j3 (a0 : List tV) (a1 : Int × Int) (lr : LR (List tV)) (bq4 : Int) : Option (List tV) :=
  lr (selC f110C [1, 1, 0, 0, 0]) (f110_fr3 a0 a1 bq4) (f110_k3 K a0 a1 lr)
def f73E : Env := eE K [(110, f110M K), (111, f111M K)] [0, 1, 2, 3, 5, 6, 7, 8, 13]
def f73_b4 (a0 : Int × Int × Int) (a1 : List tM) (a2 : Int × Int) (L4 : Int → (List tV) → Option (List tV)) (q5 : Int) (q6 : List tV) : Option (List tV) :=
  (bif (decide (q5 < (a1.length : Int))) then (bif (decide (0 ≤ q5) && decide (q5 < (a1.length : Int))) then (f111G K a0 ((((a1.getD ((0 : Int) + q5).toNat zM).1).1, (((a1.getD ((0 : Int) + q5).toNat zM).1).2).1, ((((a1.getD ((0 : Int) + q5).toNat zM).1).2).2)), ((a1.getD ((0 : Int) + q5).toNat zM).2)) a2).bind fun y7 => (f110G K q6 y7).bind fun y8 => L4 (w (q5 + (1 : Int))) y8 else none) else some q6)
def f73_l4 (a0 : Int × Int × Int) (a1 : List tM) (a2 : Int × Int) (n : Nat) (q5 : Int) (q6 : List tV) : Option (List tV) :=
  iter (X := Int × List tV) (fun L x => f73_b4 K a0 a1 a2 (fun v0 v1 => L (v0, v1)) x.1 x.2) n (q5, q6)
def f73_g (K : Nat) (a0 : Int × Int × Int) (a1 : List tM) (a2 : Int × Int) (I4 : Int → (List tV) → Option (List tV)) : Option (List tV) :=
  I4 (0 : Int) []
def f73G (a0 : Int × Int × Int) (a1 : List tM) (a2 : Int × Int) : Option (List tV) :=
  f73_g K a0 a1 a2 (fun d0 d1 => f73_l4 K a0 a1 a2 K d0 d1)
def f73M : Mdl := ⟨[(.ro, sL), (.ro, (.list 49 sM)), (.ro, sV)], [(.list 47 sV)], fun x => f73G K x.1 x.2.1 x.2.2.1⟩
def f73_k4 (a0 : Int × Int × Int) (a1 : List tM) (a2 : Int × Int) (lr : LR (List tV)) : Ex → Fr → Option (List tV) :=
  contC (f73E K) 1 lr f73C [1, 1, 0, 1, 0] (fM (f73E K) Tryz.f73 (f73M K) (a0, a1, a2, ()))
def f73_j4 (a0 : Int × Int × Int) (a1 : List tM) (a2 : Int × Int) (lr : LR (List tV)) (bq5 : Int) (bq6 : List tV) : Option (List tV) :=
  lr (selC f73C [1, 1, 0, 1, 0, 0]) (f73_fr4 a0 a1 a2 bq5 bq6) (f73_k4 K a0 a1 a2 lr)
def f36E : Env := eE K [(72, f72M K), (73, f73M K)] [0, 1, 2, 4, 5, 6, 7, 8, 15, 32]
def f36_b4 (a0 : Int × Int × Int) (a1 : List tM) (y1 : List tV) (L4 : Int → (List (List tV)) → Option (List (List tV))) (q5 : Int) (q6 : List (List tV)) : Option (List (List tV)) :=
  (bif (decide (q5 < (y1.length : Int))) then (bif (decide (0 ≤ q5) && decide (q5 < (y1.length : Int))) then (f73G K a0 a1 (y1.getD ((0 : Int) + q5).toNat ((0 : Int), (0 : Int)))).bind fun y7 => (bif (decide (0 ≤ (0 : Int)) && decide ((0 : Int) < (y7.length : Int))) then (bif (decide (0 ≤ q5) && decide (q5 < (y1.length : Int))) then (bif (((y7.getD ((0 : Int) + (0 : Int)).toNat ((0 : Int), (0 : Int))).1 == (y1.getD ((0 : Int) + q5).toNat ((0 : Int), (0 : Int))).1) && ((y7.getD ((0 : Int) + (0 : Int)).toNat ((0 : Int), (0 : Int))).2 == (y1.getD ((0 : Int) + q5).toNat ((0 : Int), (0 : Int))).2)) then (bif (Nat.ble (q6.length + [y7].length) (lim 24)) then L4 (w (q5 + (1 : Int))) (q6 ++ [y7]) else none) else L4 (w (q5 + (1 : Int))) q6) else none) else none) else none) else some q6)
def f36_l4 (a0 : Int × Int × Int) (a1 : List tM) (y1 : List tV) (n : Nat) (q5 : Int) (q6 : List (List tV)) : Option (List (List tV)) :=
  iter (X := Int × List (List tV)) (fun L x => f36_b4 K a0 a1 y1 (fun v0 v1 => L (v0, v1)) x.1 x.2) n (q5, q6)
def f36_g (a0 : Int × Int × Int) (a1 : List tM) (I4 : (List tV) → Int → (List (List tV)) → Option (List (List tV))) : Option (List (List tV)) :=
  (f72G K a0).bind fun y1 => I4 y1 (0 : Int) []
def f36G (a0 : Int × Int × Int) (a1 : List tM) : Option (List (List tV)) :=
  f36_g K a0 a1 (fun c0 d0 d1 => f36_l4 K a0 a1 c0 K d0 d1)
def f36M : Mdl := ⟨[(.ro, sL), (.ro, (.list 49 sM))], [(.list 86 (.list 47 sV))], fun x => f36G K x.1 x.2.1⟩
def f36_k4 (a0 : Int × Int × Int) (a1 : List tM) (lr : LR (List (List tV))) : Ex → Fr → Option (List (List tV)) :=
  contC (f36E K) 1 lr f36C [1, 1, 1, 0, 1, 0] (fM (f36E K) Tryz.f36 (f36M K) (a0, a1, ()))
def f36_j4 (a0 : Int × Int × Int) (a1 : List tM) (lr : LR (List (List tV))) (y1 : List tV) (bq5 : Int) (bq6 : List (List tV)) : Option (List (List tV)) :=
  lr (selC f36C [1, 1, 1, 0, 1, 0, 0]) (f36_fr4 a0 a1 y1 bq5 bq6) (f36_k4 K a0 a1 lr)
def f35E : Env := eE K [(38, f38M K)] [0, 1, 2, 3, 4]
def f35G (a0 : Int × Int × Int) (a1 : Int × Int) : Option Int :=
  (f38G K a0 a1).bind fun y1 => some (w ((w (y1.1 * a0.2.2)) + y1.2))
def f35M : Mdl := ⟨[(.ro, sL), (.ro, sV)], [sI], fun x => f35G K x.1 x.2.1⟩
def f17E : Env := eE K [(35, f35M K), (36, f36M K)] [0, 1, 2, 4, 5, 6, 7, 8, 21, 30]
def f17_b12 (a0 : Int × Int × Int) (a1 : List tM) (q10 : Int) (y1 : List (List tV)) (L9 L12 : Int → (List Int) → Option (List Int)) (q13 : Int) (q14 : List Int) : Option (List Int) :=
  (bif (decide (0 ≤ q10) && decide (q10 < (y1.length : Int))) then (bif (decide (q13 < ((y1.getD ((0 : Int) + q10).toNat []).length : Int))) then (bif (decide (0 ≤ q10) && decide (q10 < (y1.length : Int))) then (bif (decide (0 ≤ q13) && decide (q13 < ((y1.getD ((0 : Int) + q10).toNat []).length : Int))) then (f35G K a0 ((y1.getD ((0 : Int) + q10).toNat []).getD ((0 : Int) + q13).toNat ((0 : Int), (0 : Int)))).bind fun y15 => (bif (decide (0 ≤ y15) && decide (y15 < (q14.length : Int))) then L12 (w (q13 + (1 : Int))) (q14.set ((0 : Int) + y15).toNat q10) else none) else none) else none) else L9 (w (q10 + (1 : Int))) q14) else none)
def f17_l12 (a0 : Int × Int × Int) (a1 : List tM) (q10 : Int) (y1 : List (List tV)) (L9 : Int → (List Int) → Option (List Int)) (n : Nat) (q13 : Int) (q14 : List Int) : Option (List Int) :=
  iter (X := Int × List Int) (fun L x => f17_b12 K a0 a1 q10 y1 L9 (fun v0 v1 => L (v0, v1)) x.1 x.2) n (q13, q14)
def f17_b9 (K : Nat) (a0 : Int × Int × Int) (a1 : List tM) (y1 : List (List tV)) (I12 : Int → Int → (List Int) → Option (List Int)) (L9 : Int → (List Int) → Option (List Int)) (q10 : Int) (q11 : List Int) : Option (List Int) :=
  (bif (decide (q10 < (y1.length : Int))) then I12 q10 (0 : Int) q11 else some q11)
def f17_l9 (a0 : Int × Int × Int) (a1 : List tM) (y1 : List (List tV)) (n : Nat) (q10 : Int) (q11 : List Int) : Option (List Int) :=
  iter (X := Int × List Int) (fun L x => (fun L9 => f17_b9 K a0 a1 y1 (fun c0 d0 d1 => f17_l12 K a0 a1 c0 y1 L9 K d0 d1) L9 x.1 x.2) (fun v0 v1 => L (v0, v1))) n (q10, q11)
def f17_g (a0 : Int × Int × Int) (a1 : List tM) (I9 : (List (List tV)) → Int → (List Int) → Option (List Int)) : Option (List Int) :=
  (bif (decide (0 ≤ (w (a0.1 * a0.2.2))) && Nat.ble (w (a0.1 * a0.2.2)).toNat (lim 8) && ((w (a0.1 * a0.2.2)) == (w (a0.1 * a0.2.2)))) then (f36G K a0 a1).bind fun y1 => I9 y1 (0 : Int) (List.replicate (w (a0.1 * a0.2.2)).toNat (0 : Int)) else none)
def f17G (a0 : Int × Int × Int) (a1 : List tM) : Option (List Int) :=
  f17_g K a0 a1 (fun c0 d0 d1 => f17_l9 K a0 a1 c0 K d0 d1)
def f17M : Mdl := ⟨[(.ro, sL), (.ro, (.list 49 sM))], [(.list 2 sI)], fun x => f17G K x.1 x.2.1⟩
def f17_k9 (a0 : Int × Int × Int) (a1 : List tM) (lr : LR (List Int)) : Ex → Fr → Option (List Int) :=
  contC (f17E K) 1 lr f17C [1, 1, 1, 0, 1, 0] (fM (f17E K) Tryz.f17 (f17M K) (a0, a1, ()))
def f17_j9 (a0 : Int × Int × Int) (a1 : List tM) (lr : LR (List Int)) (y1 : List (List tV)) (bq10 : Int) (bq11 : List Int) : Option (List Int) :=
  lr (selC f17C [1, 1, 1, 0, 1, 0, 0]) (f17_fr9 a0 a1 y1 bq10 bq11) (f17_k9 K a0 a1 lr)
def f17_k12 (a0 : Int × Int × Int) (a1 : List tM) (y1 : List (List tV)) (F9 : Fr → Option (List Int)) (bq10 : Int) (bq11 : List Int) (lr : LR (List Int)) : Ex → Fr → Option (List Int) :=
  contC (f17E K) 1 lr (selC f17C [1, 1, 1, 0, 1, 0, 0]) [1, 0, 0, 1, 0] (loopK 1 (f17_fr9 a0 a1 y1 bq10 bq11) F9 (f17_k9 K a0 a1 lr))
def f17_j12 (a0 : Int × Int × Int) (a1 : List tM) (y1 : List (List tV)) (F9 : Fr → Option (List Int)) (bq10 : Int) (bq11 : List Int) (lr : LR (List Int)) (q10 bq13 : Int) (bq14 : List Int) : Option (List Int) :=
  lr (selC f17C [1, 1, 1, 0, 1, 0, 0, 1, 0, 0, 1, 0, 0]) (f17_fr12 a0 a1 q10 y1 bq13 bq14) (f17_k12 K a0 a1 y1 F9 bq10 bq11 lr)
def f16E : Env := eE K [(35, f35M K)] [0, 1, 2, 3, 6, 7, 8, 9, 10, 11, 12, 16, 21, 59]
def f16_b11 (a0 : Int × Int × Int) (a1 : List Int) (a2 : List (tV × Int)) (q10 : Int) (L9 L11 : Int → Option (Int × Int × Bool)) (q12 : Int) : Option (Int × Int × Bool) :=
  (bif (decide (q12 < q10)) then (bif (decide (0 ≤ q12) && decide (q12 < (a2.length : Int))) then (f35G K a0 ((a2.getD ((0 : Int) + q12).toNat (((0 : Int), (0 : Int)), (0 : Int))).1)).bind fun y13 => (bif (decide (0 ≤ y13) && decide (y13 < (a1.length : Int))) then (bif (decide (0 ≤ q10) && decide (q10 < (a2.length : Int))) then (f35G K a0 ((a2.getD ((0 : Int) + q10).toNat (((0 : Int), (0 : Int)), (0 : Int))).1)).bind fun y14 => (bif (decide (0 ≤ y14) && decide (y14 < (a1.length : Int))) then (bif ((decide (0 ≤ q12) && decide (q12 < (a2.length : Int))) || (!((a1.getD ((0 : Int) + y13).toNat (0 : Int)) == (a1.getD ((0 : Int) + y14).toNat (0 : Int))))) then (bif ((decide (0 ≤ q10) && decide (q10 < (a2.length : Int))) || (!((a1.getD ((0 : Int) + y13).toNat (0 : Int)) == (a1.getD ((0 : Int) + y14).toNat (0 : Int))))) then (bif (bif ((a1.getD ((0 : Int) + y13).toNat (0 : Int)) == (a1.getD ((0 : Int) + y14).toNat (0 : Int))) then ((a2.getD ((0 : Int) + q12).toNat (((0 : Int), (0 : Int)), (0 : Int))).2 != (a2.getD ((0 : Int) + q10).toNat (((0 : Int), (0 : Int)), (0 : Int))).2) else false) then some (q12, q10, true) else L11 (w (q12 + (1 : Int)))) else none) else none) else none) else none) else none) else none) else L9 (w (q10 + (1 : Int))))
def f16_l11 (a0 : Int × Int × Int) (a1 : List Int) (a2 : List (tV × Int)) (q10 : Int) (L9 : Int → Option (Int × Int × Bool)) (n : Nat) (q12 : Int) : Option (Int × Int × Bool) :=
  iter (X := Int) (fun L x => f16_b11 K a0 a1 a2 q10 L9 (fun v0 => L v0) x) n q12
def f16_b9 (K : Nat) (a0 : Int × Int × Int) (a1 : List Int) (a2 : List (tV × Int)) (I11 : Int → Int → Option (Int × Int × Bool)) (L9 : Int → Option (Int × Int × Bool)) (q10 : Int) : Option (Int × Int × Bool) :=
  (bif (decide (q10 < (a2.length : Int))) then I11 q10 (0 : Int) else some ((0 : Int), (0 : Int), false))
def f16_l9 (a0 : Int × Int × Int) (a1 : List Int) (a2 : List (tV × Int)) (n : Nat) (q10 : Int) : Option (Int × Int × Bool) :=
  iter (X := Int) (fun L x => (fun L9 => f16_b9 K a0 a1 a2 (fun c0 d0 => f16_l11 K a0 a1 a2 c0 L9 K d0) L9 x) (fun v0 => L v0)) n q10
def f16_g (K : Nat) (a0 : Int × Int × Int) (a1 : List Int) (a2 : List (tV × Int)) (I9 : Int → Option (Int × Int × Bool)) : Option (Int × Int × Bool) :=
  I9 (0 : Int)
def f16G (a0 : Int × Int × Int) (a1 : List Int) (a2 : List (tV × Int)) : Option (Int × Int × Bool) :=
  f16_g K a0 a1 a2 (fun d0 => f16_l9 K a0 a1 a2 K d0)
def f16M : Mdl := ⟨[(.ro, sL), (.ro, (.list 2 sI)), (.ro, (.list 82 (.cons sV sI)))], [sI, sI, .bool], fun x => f16G K x.1 x.2.1 x.2.2.1⟩
def f16_k9 (a0 : Int × Int × Int) (a1 : List Int) (a2 : List (tV × Int)) (lr : LR (Int × Int × Bool)) : Ex → Fr → Option (Int × Int × Bool) :=
  contC (f16E K) 2 lr f16C [1, 0, 1, 0] (fM (f16E K) Tryz.f16 (f16M K) (a0, a1, a2, ()))
def f16_j9 (a0 : Int × Int × Int) (a1 : List Int) (a2 : List (tV × Int)) (lr : LR (Int × Int × Bool)) (bq10 : Int) : Option (Int × Int × Bool) :=
  lr (selC f16C [1, 0, 1, 0, 0]) (f16_fr9 a0 a1 a2 bq10) (f16_k9 K a0 a1 a2 lr)
def f16_k11 (a0 : Int × Int × Int) (a1 : List Int) (a2 : List (tV × Int)) (F9 : Fr → Option (Int × Int × Bool)) (bq10 : Int) (lr : LR (Int × Int × Bool)) : Ex → Fr → Option (Int × Int × Bool) :=
  contC (f16E K) 2 lr (selC f16C [1, 0, 1, 0, 0]) [1, 0, 0, 1, 0] (loopK 2 (f16_fr9 a0 a1 a2 bq10) F9 (f16_k9 K a0 a1 a2 lr))
def f16_j11 (a0 : Int × Int × Int) (a1 : List Int) (a2 : List (tV × Int)) (F9 : Fr → Option (Int × Int × Bool)) (bq10 : Int) (lr : LR (Int × Int × Bool)) (q10 bq12 : Int) : Option (Int × Int × Bool) :=
  lr (selC f16C [1, 0, 1, 0, 0, 1, 0, 0, 1, 0, 0]) (f16_fr11 a0 a1 a2 q10 bq12) (f16_k11 K a0 a1 a2 F9 bq10 lr)
def f9E : Env := eE K [(10, f10M K), (14, f14M K), (15, f15M K), (16, f16M K), (17, f17M K)] [0, 2, 3, 4, 5, 6, 7, 8, 9, 12, 16, 26, 32, 45, 53, 72]
def f9_b4 (a0 : ByteArray) (y1 : List ByteArray) (L4 : Int → Int → Int → Int → Int → Int → (List tM) → (List (tV × Int)) → Option (Option (Int × tL × Int × (List tM) × List (tV × Int)) × Int × Int)) (q5 q6 q7 q8 q9 q10 : Int) (q11 : List tM) (q12 : List (tV × Int)) : Option (Option (Int × tL × Int × (List tM) × List (tV × Int)) × Int × Int) :=
  (bif (decide ((w (q5 + (1 : Int))) < (y1.length : Int))) then (bif (decide (0 ≤ q5) && decide (q5 < (y1.length : Int))) then (f15G K (q6, (q7, q8, q9), q10, q11, q12) (y1.getD ((0 : Int) + q5).toNat ByteArray.empty)).bind fun y13 => (bif (y13.2 != (0 : Int)) then some (none, ((w (q5 + (1 : Int))), y13.2)) else L4 (w (q5 + (1 : Int))) y13.1.1 y13.1.2.1.1 y13.1.2.1.2.1 y13.1.2.1.2.2 y13.1.2.2.1 y13.1.2.2.2.1 y13.1.2.2.2.2) else none) else (bif (decide (q10 < (2 : Int))) then some ((some (q6, (q7, q8, q9), q10, q11, q12)), ((0 : Int), (4 : Int))) else (f10G K (q7, q8, q9) q11).bind fun y14 => (f17G K (q7, q8, q9) y14).bind fun y15 => (f16G K (q7, q8, q9) y15 q12).bind fun y16 => (bif y16.2.2 then some ((some (q6, (q7, q8, q9), q10, q11, q12)), ((0 : Int), (1 : Int))) else some ((some (q6, (q7, q8, q9), q10, q11, q12)), ((0 : Int), (0 : Int))))))
def f9_l4 (a0 : ByteArray) (y1 : List ByteArray) (n : Nat) (q5 q6 q7 q8 q9 q10 : Int) (q11 : List tM) (q12 : List (tV × Int)) : Option (Option (Int × tL × Int × (List tM) × List (tV × Int)) × Int × Int) :=
  iter (X := Int × Int × Int × Int × Int × Int × List tM × List (tV × Int)) (fun L x => f9_b4 K a0 y1 (fun v0 v1 v2 v3 v4 v5 v6 v7 => L (v0, v1, v2, v3, v4, v5, v6, v7)) x.1 x.2.1 x.2.2.1 x.2.2.2.1 x.2.2.2.2.1 x.2.2.2.2.2.1 x.2.2.2.2.2.2.1 x.2.2.2.2.2.2.2) n (q5, q6, q7, q8, q9, q10, q11, q12)
def f9_g (a0 : ByteArray) (I4 : (List ByteArray) → Int → Int → Int → Int → Int → Int → (List tM) → (List (tV × Int)) → Option (Option (Int × tL × Int × (List tM) × List (tV × Int)) × Int × Int)) : Option (Option (Int × tL × Int × (List tM) × List (tV × Int)) × Int × Int) :=
  (bif (decide ((a0.size : Int) > (3000 : Int))) then some ((some ((0 : Int), ((0 : Int), (0 : Int), (0 : Int)), (0 : Int), [], [])), ((0 : Int), (3 : Int))) else (f14G K a0 (10 : Int)).bind fun y1 => (bif (decide (0 ≤ (w ((y1.length : Int) - (1 : Int)))) && decide ((w ((y1.length : Int) - (1 : Int))) < (y1.length : Int))) then (bif ((y1.getD ((0 : Int) + (w ((y1.length : Int) - (1 : Int)))).toNat ByteArray.empty) != ByteArray.empty) then some ((some ((0 : Int), ((0 : Int), (0 : Int), (0 : Int)), (0 : Int), [], [])), ((0 : Int), (6 : Int))) else I4 y1 (0 : Int) (0 : Int) (0 : Int) (0 : Int) (0 : Int) (0 : Int) [] []) else none))
def f9G (a0 : ByteArray) : Option (Option (Int × tL × Int × (List tM) × List (tV × Int)) × Int × Int) :=
  f9_g K a0 (fun c0 d0 d1 d2 d3 d4 d5 d6 d7 => f9_l4 K a0 c0 K d0 d1 d2 d3 d4 d5 d6 d7)
def f9M : CMdl := ⟨(.cons sI (.cons sL (.cons sI (.cons (.list 49 sM) (.list 82 (.cons sV sI)))))), [(.ro, .str)], [sI, sI], fun x => f9G K x.1⟩
def f9_k4 (a0 : ByteArray) (lr : LR (Option (Int × tL × Int × (List tM) × List (tV × Int)) × Int × Int)) : Ex → Fr → Option (Option (Int × tL × Int × (List tM) × List (tV × Int)) × Int × Int) :=
  contC (f9E K) 0 lr f9C [1, 1, 1, 1, 1, 0, 1, 0] (finO (f9E K) Tryz.f9 (.cons sI (.cons sL (.cons sI (.cons (.list 49 sM) (.list 82 (.cons sV sI)))))) [sI, sI])
def f9_j4 (a0 : ByteArray) (lr : LR (Option (Int × tL × Int × (List tM) × List (tV × Int)) × Int × Int)) (y1 : List ByteArray) (bq5 bq6 bq7 bq8 bq9 bq10 : Int) (bq11 : List tM) (bq12 : List (tV × Int)) : Option (Option (Int × tL × Int × (List tM) × List (tV × Int)) × Int × Int) :=
  lr (selC f9C [1, 1, 1, 1, 1, 0, 1, 0, 0]) (f9_fr4 a0 y1 bq5 bq6 bq7 bq8 bq9 bq10 bq11 bq12) (f9_k4 K a0 lr)
def f4E : Env := ⟨[(10, f10M K)], tys, eqs, mts, K, [0, 2, 3, 4, 6, 14], [], [], [], [], [], [(9, f9M K)], false⟩
def f4G (a0 : ByteArray) : Option ((List tM) × Int) :=
  (f9G K a0).bind fun y1 => optK y1.1 ((bif (y1.2.2 != (0 : Int)) then some ([], y1.2.2) else none)) (fun z2 => (bif (y1.2.2 != (0 : Int)) then some ([], y1.2.2) else (f10G K z2.2.1 z2.2.2.2.1).bind fun y3 => some (y3, (0 : Int))))
def f4M : Mdl := ⟨[(.ro, .str)], [(.list 49 sM), sI], fun x => f4G K x.1⟩
def f76E : Env := eE K [] [0, 1, 4]
def f76G (K : Nat) (a0 a1 : ByteArray) : Option Bool :=
  (bif ((decide (0 ≤ (w ((a0.size : Int) - (a1.size : Int)))) && decide ((w ((a0.size : Int) - (a1.size : Int))) ≤ (a0.size : Int)) && decide ((a0.size : Int) ≤ (a0.size : Int))) || (!(decide ((a0.size : Int) ≥ (a1.size : Int))))) then some (bif (decide ((a0.size : Int) ≥ (a1.size : Int))) then ((a0.extract (w ((a0.size : Int) - (a1.size : Int))).toNat (a0.size : Int).toNat) == a1) else false) else none)
def f76M : Mdl := ⟨[(.ro, .str), (.ro, .str)], [.bool], fun x => f76G K x.1 x.2.1⟩
def f43E : Env := eE K [(76, f76M K)] [0, 1, 4, 5, 9]
def f43G (a0 a1 : ByteArray) : Option (ByteArray × Bool) :=
  (f76G K a0 a1).bind fun y1 => (bif (!y1) then some (a0, false) else (bif (decide (0 ≤ (0 : Int)) && decide ((0 : Int) ≤ (w ((a0.size : Int) - (a1.size : Int)))) && decide ((w ((a0.size : Int) - (a1.size : Int))) ≤ (a0.size : Int))) then some ((a0.extract 0 (w ((a0.size : Int) - (a1.size : Int))).toNat), true) else none))
def f43M : Mdl := ⟨[(.ro, .str), (.ro, .str)], [.str, .bool], fun x => f43G K x.1 x.2.1⟩
def f23E : Env := eE K [(43, f43M K)] [0, 1, 4, 5]
def f23G (a0 a1 : ByteArray) : Option (ByteArray × Bool) :=
  (f43G K a0 a1).bind fun y1 => some y1
def f23M : Mdl := ⟨[(.ro, .str), (.ro, .str)], [.str, .bool], fun x => f23G K x.1 x.2.1⟩
omit K
def f24G (K : Nat) (a0 a1 : ByteArray) : Option (List ByteArray) := splitF a0 a1
def f24M (K : Nat) : Mdl := ⟨[(.ro, .str), (.ro, .str)], [(.list 9 .str)], fun x => f24G K x.1 x.2.1⟩
include K
omit K
def f190G (K : Nat) (a0 a1 : Int) : Option ByteArray := fmtF a0 a1
def f190M (K : Nat) : Mdl := ⟨[(.ro, sI), (.ro, sI)], [.str], fun x => f190G K x.1 x.2.1⟩
include K
def f161E : Env := eE K [(190, f190M K)] [0, 2]
def f161G (a0 : Int) : Option ByteArray :=
  (f190G K a0 (10 : Int)).bind fun y1 => some y1
def f161M : Mdl := ⟨[(.ro, sI)], [.str], fun x => f161G K x.1⟩
omit K
def f123G (K : Nat) (a0 : ByteArray) : Option (Int × Bool) := numF a0
def f123M (K : Nat) : Mdl := ⟨[(.ro, .str)], [.int .i64, .bool], fun x => f123G K x.1⟩
include K
def f81E : Env := eE K [(24, f24M K), (123, f123M K)] [0, 1, 2, 6, 7, 8, 9, 11, 12, 13, 20, 22, 23, 24, 25, 34]
def f81_b4 (a0 a1 : ByteArray) (a2 : Int) (y1 : List ByteArray) (L4 : Int → (List Int) → Option ((List Int) × Bool)) (q5 : Int) (q6 : List Int) : Option ((List Int) × Bool) :=
  (bif (decide (q5 < (y1.length : Int))) then (bif (decide (0 ≤ q5) && decide (q5 < (y1.length : Int))) then (f123G K (y1.getD ((0 : Int) + q5).toNat ByteArray.empty)).bind fun y7 => (bif (!y7.2) then some ([], false) else (bif (Nat.ble (q6.length + [y7.1].length) (lim 8)) then L4 (w (q5 + (1 : Int))) (q6 ++ [y7.1]) else none)) else none) else some (q6, true))
def f81_l4 (a0 a1 : ByteArray) (a2 : Int) (y1 : List ByteArray) (n : Nat) (q5 : Int) (q6 : List Int) : Option ((List Int) × Bool) :=
  iter (X := Int × List Int) (fun L x => f81_b4 K a0 a1 a2 y1 (fun v0 v1 => L (v0, v1)) x.1 x.2) n (q5, q6)
def f81_g (a0 a1 : ByteArray) (a2 : Int) (I4 : (List ByteArray) → Int → (List Int) → Option ((List Int) × Bool)) : Option ((List Int) × Bool) :=
  (f24G K a0 a1).bind fun y1 => (bif ((y1.length : Int) != a2) then some ([], false) else I4 y1 (0 : Int) [])
def f81G (a0 a1 : ByteArray) (a2 : Int) : Option ((List Int) × Bool) :=
  f81_g K a0 a1 a2 (fun c0 d0 d1 => f81_l4 K a0 a1 a2 c0 K d0 d1)
def f81M : Mdl := ⟨[(.ro, .str), (.ro, .str), (.ro, sI)], [(.list 2 sI), .bool], fun x => f81G K x.1 x.2.1 x.2.2.1⟩
def f81_k4 (a0 a1 : ByteArray) (a2 : Int) (lr : LR ((List Int) × Bool)) : Ex → Fr → Option ((List Int) × Bool) :=
  contC (f81E K) 0 lr f81C [1, 1, 1, 1, 0, 1, 0] (fM (f81E K) Tryz.f81 (f81M K) (a0, a1, a2, ()))
def f81_j4 (a0 a1 : ByteArray) (a2 : Int) (lr : LR ((List Int) × Bool)) (y1 : List ByteArray) (bq5 : Int) (bq6 : List Int) : Option ((List Int) × Bool) :=
  lr (selC f81C [1, 1, 1, 1, 0, 1, 0, 0]) (f81_fr4 a0 a1 a2 y1 bq5 bq6) (f81_k4 K a0 a1 a2 lr)
def f87E : Env := eE K [] [0, 1, 2, 6]
def f87G (K : Nat) (a0 a1 a2 : Int) : Option Bool :=
  some (bif (decide (a0 ≥ a1)) then (decide (a0 ≤ a2)) else false)
def f87M : Mdl := ⟨[(.ro, sI), (.ro, sI), (.ro, sI)], [.bool], fun x => f87G K x.1 x.2.1 x.2.2.1⟩
def f165E : Env := eE K [(87, f87M K)] [0, 2]
def f165G (a0 : Int) : Option Bool :=
  (f87G K a0 (-1000 : Int) (1000 : Int)).bind fun y1 => some y1
def f165M : Mdl := ⟨[(.ro, sI)], [.bool], fun x => f165G K x.1⟩
def f127E : Env := eE K [(165, f165M K)] [0, 1, 2]
def f127G (a0 : Int × Int) : Option Bool :=
  (f165G K a0.1).bind fun y1 => ((bif y1 then f165G K a0.2 else some false)).bind fun y2 => some (bif y1 then y2 else false)
def f127M : Mdl := ⟨[(.ro, sV)], [.bool], fun x => f127G K x.1⟩
def f117E : Env := eE K [(81, f81M K), (127, f127M K)] [0, 2, 3, 4, 5, 23]
def f117G (a0 : ByteArray) : Option (tV × Bool) :=
  (f81G K a0 (bs [44]) (2 : Int)).bind fun y1 => (bif ((decide (0 ≤ (0 : Int)) && decide ((0 : Int) < (y1.1.length : Int))) || (!(!(!y1.2)))) then (bif ((decide (0 ≤ (1 : Int)) && decide ((1 : Int) < (y1.1.length : Int))) || (!(!(!y1.2)))) then ((bif (!(!y1.2)) then f127G K ((y1.1.getD ((0 : Int) + (0 : Int)).toNat (0 : Int)), (y1.1.getD ((0 : Int) + (1 : Int)).toNat (0 : Int))) else some false)).bind fun y2 => (bif (bif (!y1.2) then true else (!y2)) then some (((0 : Int), (0 : Int)), false) else (bif (decide (0 ≤ (0 : Int)) && decide ((0 : Int) < (y1.1.length : Int))) then (bif (decide (0 ≤ (1 : Int)) && decide ((1 : Int) < (y1.1.length : Int))) then some (((y1.1.getD ((0 : Int) + (0 : Int)).toNat (0 : Int)), (y1.1.getD ((0 : Int) + (1 : Int)).toNat (0 : Int))), true) else none) else none)) else none) else none)
def f117M : Mdl := ⟨[(.ro, .str)], [sV, .bool], fun x => f117G K x.1⟩
def f118E : Env := eE K [] [0, 2, 3, 4, 5, 8, 9, 10, 21]
def f118_b2 (K : Nat) (a0 : ByteArray) (L2 : Int → (List Int) → Option ((List Int) × Bool)) (q3 : Int) (q4 : List Int) : Option ((List Int) × Bool) :=
  (bif (decide (q3 < (a0.size : Int))) then (bif (decide (0 ≤ q3) && decide (q3 < (a0.size : Int))) then (bif ((decide (0 ≤ q3) && decide (q3 < (a0.size : Int))) || (!(!(decide (((a0.data.getD q3.toNat 0).toNat : Int) < (48 : Int)))))) then (bif (bif (decide (((a0.data.getD q3.toNat 0).toNat : Int) < (48 : Int))) then true else (decide (((a0.data.getD q3.toNat 0).toNat : Int) > (57 : Int)))) then some ([], false) else (bif (decide (0 ≤ q3) && decide (q3 < (a0.size : Int))) then (bif (Nat.ble (q4.length + [(w (IntKind.u8.wrap (((a0.data.getD q3.toNat 0).toNat : Int) - (48 : Int))))].length) (lim 8)) then L2 (w (q3 + (1 : Int))) (q4 ++ [(w (IntKind.u8.wrap (((a0.data.getD q3.toNat 0).toNat : Int) - (48 : Int))))]) else none) else none)) else none) else none) else some (q4, true))
def f118_l2 (a0 : ByteArray) (n : Nat) (q3 : Int) (q4 : List Int) : Option ((List Int) × Bool) :=
  iter (X := Int × List Int) (fun L x => f118_b2 K a0 (fun v0 v1 => L (v0, v1)) x.1 x.2) n (q3, q4)
def f118_g (K : Nat) (a0 : ByteArray) (I2 : Int → (List Int) → Option ((List Int) × Bool)) : Option ((List Int) × Bool) :=
  I2 (0 : Int) []
def f118G (a0 : ByteArray) : Option ((List Int) × Bool) :=
  f118_g K a0 (fun d0 d1 => f118_l2 K a0 K d0 d1)
def f118M : Mdl := ⟨[(.ro, .str)], [(.list 2 sI), .bool], fun x => f118G K x.1⟩
def f118_k2 (a0 : ByteArray) (lr : LR ((List Int) × Bool)) : Ex → Fr → Option ((List Int) × Bool) :=
  contC (f118E K) 0 lr f118C [1, 1, 0, 1, 0] (fM (f118E K) Tryz.f118 (f118M K) (a0, ()))
def f118_j2 (a0 : ByteArray) (lr : LR ((List Int) × Bool)) (bq3 : Int) (bq4 : List Int) : Option ((List Int) × Bool) :=
  lr (selC f118C [1, 1, 0, 1, 0, 0]) (f118_fr2 a0 bq3 bq4) (f118_k2 K a0 lr)
def f79E : Env := eE K [(117, f117M K), (118, f118M K)] [0, 1, 4, 5, 6, 7, 8, 9, 30]
def f79G (a0 a1 : ByteArray) : Option ((tV × Int) × Bool) :=
  (f117G K a0).bind fun y1 => (f118G K a1).bind fun y2 => (bif (bif (bif (!y1.2) then true else (!y2.2)) then true else ((y2.1.length : Int) != (1 : Int))) then some ((((0 : Int), (0 : Int)), (0 : Int)), false) else (bif (decide (0 ≤ (0 : Int)) && decide ((0 : Int) < (y2.1.length : Int))) then some ((y1.1, (y2.1.getD ((0 : Int) + (0 : Int)).toNat (0 : Int))), true) else none))
def f79M : Mdl := ⟨[(.ro, .str), (.ro, .str)], [(.cons sV sI), .bool], fun x => f79G K x.1 x.2.1⟩
def f45E : Env := eE K [(79, f79M K)] [0, 1, 2, 3, 8, 9, 10, 17, 20, 23]
def f45G (a0 : Int × Int × tL × (List tM) × List (tV × Int)) (a1 a2 : ByteArray) (a3 : Int) : Option ((Int × Int × tL × (List tM) × List (tV × Int)) × Int) :=
  (f79G K a1 a2).bind fun y1 => (bif (!y1.2) then some (a0, (6 : Int)) else (bif (decide (a3 < (2 : Int))) then some (a0, (5 : Int)) else (bif ((a0.2.2.2.2.length : Int) == (40 : Int)) then some (a0, (3 : Int)) else (bif (Nat.ble (a0.2.2.2.2.length + [y1.1].length) (lim 24)) then some ((a0.1, a0.2.1, a0.2.2.1, a0.2.2.2.1, (a0.2.2.2.2 ++ [y1.1])), (0 : Int)) else none))))
def f45M : QMdl := ⟨(.cons sI (.cons sI (.cons sL (.cons (.list 49 sM) (.list 82 (.cons sV sI)))))), [(.ro, .str), (.ro, .str), (.ro, sI)], [sI], fun x => f45G K x.1 x.2.1 x.2.2.1 x.2.2.2.1⟩
omit K
def f46G (K : Nat) (a0 a1 : ByteArray) : Option (Int) := idxF a0 a1
def f46M (K : Nat) : Mdl := ⟨[(.ro, .str), (.ro, .str)], [sI], fun x => f46G K x.1 x.2.1⟩
include K
def f47E : Env := eE K [] [0, 2, 3]
def f47G (K : Nat) (a0 : Bool) : Option Int :=
  (bif a0 then some (0 : Int) else some (5 : Int))
def f47M : Mdl := ⟨[(.ro, .bool)], [sI], fun x => f47G K x.1⟩
def f90E : Env := eE K [] [0, 1, 2]
def f90G (K : Nat) (a0 : Int × Int × Int) : Option Int :=
  some (w (a0.1 * a0.2.2))
def f90M : Mdl := ⟨[(.ro, sL)], [sI], fun x => f90G K x.1⟩
def f82E : Env := eE K [(87, f87M K), (90, f90M K)] [0, 1, 2]
def f82G (a0 : Int × Int × Int) : Option Bool :=
  (f87G K a0.1 (1 : Int) (64 : Int)).bind fun y1 => ((bif y1 then f87G K a0.2.2 (1 : Int) (64 : Int) else some false)).bind fun y2 => ((bif (bif y1 then y2 else false) then f87G K a0.2.1 (0 : Int) (w (a0.1 - (1 : Int))) else some false)).bind fun y3 => ((bif (bif (bif y1 then y2 else false) then y3 else false) then f90G K a0 else some (0 : Int))).bind fun y4 => some (bif (bif (bif y1 then y2 else false) then y3 else false) then (decide (y4 ≤ (64 : Int))) else false)
def f82M : Mdl := ⟨[(.ro, sL)], [.bool], fun x => f82G K x.1⟩
def f48E : Env := eE K [(81, f81M K), (82, f82M K)] [0, 2, 3, 4, 5, 26]
def f48G (a0 : ByteArray) : Option (tL × Bool) :=
  (f81G K a0 (bs [44]) (3 : Int)).bind fun y1 => (bif ((decide (0 ≤ (0 : Int)) && decide ((0 : Int) < (y1.1.length : Int))) || (!(!(!y1.2)))) then (bif ((decide (0 ≤ (1 : Int)) && decide ((1 : Int) < (y1.1.length : Int))) || (!(!(!y1.2)))) then (bif ((decide (0 ≤ (2 : Int)) && decide ((2 : Int) < (y1.1.length : Int))) || (!(!(!y1.2)))) then ((bif (!(!y1.2)) then f82G K ((y1.1.getD ((0 : Int) + (0 : Int)).toNat (0 : Int)), (y1.1.getD ((0 : Int) + (1 : Int)).toNat (0 : Int)), (y1.1.getD ((0 : Int) + (2 : Int)).toNat (0 : Int))) else some false)).bind fun y2 => (bif (bif (!y1.2) then true else (!y2)) then some (((0 : Int), (0 : Int), (0 : Int)), false) else (bif (decide (0 ≤ (0 : Int)) && decide ((0 : Int) < (y1.1.length : Int))) then (bif (decide (0 ≤ (1 : Int)) && decide ((1 : Int) < (y1.1.length : Int))) then (bif (decide (0 ≤ (2 : Int)) && decide ((2 : Int) < (y1.1.length : Int))) then some (((y1.1.getD ((0 : Int) + (0 : Int)).toNat (0 : Int)), (y1.1.getD ((0 : Int) + (1 : Int)).toNat (0 : Int)), (y1.1.getD ((0 : Int) + (2 : Int)).toNat (0 : Int))), true) else none) else none) else none)) else none) else none) else none)
def f48M : Mdl := ⟨[(.ro, .str)], [sL, .bool], fun x => f48G K x.1⟩
omit K
def f124G (K : Nat) (a0 a1 : ByteArray) : Option (ByteArray × ByteArray × Bool) := cutF a0 a1
def f124M (K : Nat) : Mdl := ⟨[(.ro, .str), (.ro, .str)], [.str, .str, .bool], fun x => f124G K x.1 x.2.1⟩
include K
def f191E : Env := eE K [(165, f165M K)] [0, 1, 2]
def f191G (a0 : Int × Int × Int × Int) : Option Bool :=
  (f165G K a0.1).bind fun y1 => ((bif y1 then f165G K a0.2.1 else some false)).bind fun y2 => ((bif (bif y1 then y2 else false) then f165G K a0.2.2.1 else some false)).bind fun y3 => ((bif (bif (bif y1 then y2 else false) then y3 else false) then f165G K a0.2.2.2 else some false)).bind fun y4 => some (bif (bif (bif y1 then y2 else false) then y3 else false) then y4 else false)
def f191M : Mdl := ⟨[(.ro, sA)], [.bool], fun x => f191G K x.1⟩
def f192E : Env := eE K [] [0, 1, 2]
def f192G (K : Nat) (a0 : Int × Int × Int × Int) : Option Int :=
  some (w ((w (a0.1 * a0.2.2.2)) - (w (a0.2.1 * a0.2.2.1))))
def f192M : Mdl := ⟨[(.ro, sA)], [sI], fun x => f192G K x.1⟩
def f163E : Env := eE K [(191, f191M K), (192, f192M K)] [0, 1, 2]
def f163G (a0 : Int × Int × Int × Int) : Option Bool :=
  (f191G K a0).bind fun y1 => ((bif y1 then f192G K a0 else some (0 : Int))).bind fun y2 => ((bif (y1 && (!(y2 == (1 : Int)))) then f192G K a0 else some (0 : Int))).bind fun y3 => some (bif y1 then (bif (y2 == (1 : Int)) then true else (y3 == (-1 : Int))) else false)
def f163M : Mdl := ⟨[(.ro, sA)], [.bool], fun x => f163G K x.1⟩
def f125E : Env := eE K [(81, f81M K), (163, f163M K)] [0, 2, 3, 4, 5, 29]
def f125G (a0 : ByteArray) : Option (tA × Bool) :=
  (f81G K a0 (bs [44]) (4 : Int)).bind fun y1 => (bif ((decide (0 ≤ (0 : Int)) && decide ((0 : Int) < (y1.1.length : Int))) || (!(!(!y1.2)))) then (bif ((decide (0 ≤ (1 : Int)) && decide ((1 : Int) < (y1.1.length : Int))) || (!(!(!y1.2)))) then (bif ((decide (0 ≤ (2 : Int)) && decide ((2 : Int) < (y1.1.length : Int))) || (!(!(!y1.2)))) then (bif ((decide (0 ≤ (3 : Int)) && decide ((3 : Int) < (y1.1.length : Int))) || (!(!(!y1.2)))) then ((bif (!(!y1.2)) then f163G K ((y1.1.getD ((0 : Int) + (0 : Int)).toNat (0 : Int)), (y1.1.getD ((0 : Int) + (1 : Int)).toNat (0 : Int)), (y1.1.getD ((0 : Int) + (2 : Int)).toNat (0 : Int)), (y1.1.getD ((0 : Int) + (3 : Int)).toNat (0 : Int))) else some false)).bind fun y2 => (bif (bif (!y1.2) then true else (!y2)) then some (((0 : Int), (0 : Int), (0 : Int), (0 : Int)), false) else (bif (decide (0 ≤ (0 : Int)) && decide ((0 : Int) < (y1.1.length : Int))) then (bif (decide (0 ≤ (1 : Int)) && decide ((1 : Int) < (y1.1.length : Int))) then (bif (decide (0 ≤ (2 : Int)) && decide ((2 : Int) < (y1.1.length : Int))) then (bif (decide (0 ≤ (3 : Int)) && decide ((3 : Int) < (y1.1.length : Int))) then some (((y1.1.getD ((0 : Int) + (0 : Int)).toNat (0 : Int)), (y1.1.getD ((0 : Int) + (1 : Int)).toNat (0 : Int)), (y1.1.getD ((0 : Int) + (2 : Int)).toNat (0 : Int)), (y1.1.getD ((0 : Int) + (3 : Int)).toNat (0 : Int))), true) else none) else none) else none) else none)) else none) else none) else none) else none)
def f125M : Mdl := ⟨[(.ro, .str)], [sA, .bool], fun x => f125G K x.1⟩
def f58E : Env := eE K [] [0]
def f58G (K : Nat) : Option tA :=
  some ((1 : Int), (0 : Int), (0 : Int), (1 : Int))
def f58M : Mdl := ⟨[], [sA], fun x => f58G K ⟩
def f209E : Env := eE K [(58, f58M K), (192, f192M K)] [0, 1, 2, 3, 9, 13, 24, 32, 40]
def f209G (a0 : Int × Int × Int × Int) : Option Int :=
  (f58G K).bind fun y1 => (bif ((a0.1 == y1.1) && ((a0.2.1 == y1.2.1) && ((a0.2.2.1 == y1.2.2.1) && (a0.2.2.2 == y1.2.2.2)))) then some (1 : Int) else (f192G K a0).bind fun y2 => (bif (bif (y2 == (-1 : Int)) then ((w (a0.1 + a0.2.2.2)) == (0 : Int)) else false) then (bif (bif (y2 == (-1 : Int)) then ((w (a0.1 + a0.2.2.2)) == (0 : Int)) else false) then some (2 : Int) else (f192G K a0).bind fun y3 => (bif (bif (y3 == (1 : Int)) then ((w (a0.1 + a0.2.2.2)) == (-1 : Int)) else false) then some (3 : Int) else (f192G K a0).bind fun y4 => (bif (bif (y4 == (1 : Int)) then ((w (a0.1 + a0.2.2.2)) == (0 : Int)) else false) then some (4 : Int) else (f192G K a0).bind fun y5 => (bif (bif (y5 == (1 : Int)) then ((w (a0.1 + a0.2.2.2)) == (1 : Int)) else false) then some (6 : Int) else some (0 : Int))))) else (bif ((a0.1 == (-1 : Int)) && ((a0.2.1 == (0 : Int)) && ((a0.2.2.1 == (0 : Int)) && (a0.2.2.2 == (-1 : Int))))) then some (2 : Int) else (f192G K a0).bind fun y6 => (bif (bif (y6 == (1 : Int)) then ((w (a0.1 + a0.2.2.2)) == (-1 : Int)) else false) then some (3 : Int) else (f192G K a0).bind fun y7 => (bif (bif (y7 == (1 : Int)) then ((w (a0.1 + a0.2.2.2)) == (0 : Int)) else false) then some (4 : Int) else (f192G K a0).bind fun y8 => (bif (bif (y8 == (1 : Int)) then ((w (a0.1 + a0.2.2.2)) == (1 : Int)) else false) then some (6 : Int) else some (0 : Int)))))))
def f209M : Mdl := ⟨[(.ro, sA)], [sI], fun x => f209G K x.1⟩
def f193E : Env := eE K [(192, f192M K), (209, f209M K)] [0, 1, 2]
def f193G (a0 : Int × Int × Int × Int) : Option Bool :=
  (f192G K a0).bind fun y1 => ((bif (y1 == (1 : Int)) then f209G K a0 else some (0 : Int))).bind fun y2 => some (bif (y1 == (1 : Int)) then (decide (y2 > (0 : Int))) else false)
def f193M : Mdl := ⟨[(.ro, sA)], [.bool], fun x => f193G K x.1⟩
def f194E : Env := eE K [(192, f192M K), (209, f209M K)] [0, 1, 2]
def f194G (a0 : Int × Int × Int × Int) : Option Bool :=
  (f192G K a0).bind fun y1 => ((bif (y1 == (-1 : Int)) then f209G K a0 else some (0 : Int))).bind fun y2 => some (bif (y1 == (-1 : Int)) then (y2 == (2 : Int)) else false)
def f194M : Mdl := ⟨[(.ro, sA)], [.bool], fun x => f194G K x.1⟩
def f164E : Env := eE K [(193, f193M K), (194, f194M K)] [0, 1, 2]
def f164G (a0 : Int × Int × Int × Int) : Option Bool :=
  (f193G K a0).bind fun y1 => ((bif (!y1) then f194G K a0 else some false)).bind fun y2 => some (bif y1 then true else y2)
def f164M : Mdl := ⟨[(.ro, sA)], [.bool], fun x => f164G K x.1⟩
def f126E : Env := eE K [(127, f127M K), (163, f163M K), (164, f164M K)] [0, 1, 2]
def f126G (a0 : tA × Int × Int) : Option Bool :=
  (f163G K a0.1).bind fun y1 => ((bif y1 then f164G K a0.1 else some false)).bind fun y2 => ((bif (bif y1 then y2 else false) then f127G K a0.2 else some false)).bind fun y3 => some (bif (bif y1 then y2 else false) then y3 else false)
def f126M : Mdl := ⟨[(.ro, sM)], [.bool], fun x => f126G K x.1⟩
def f83E : Env := eE K [(117, f117M K), (124, f124M K), (125, f125M K), (126, f126M K)] [0, 2, 3, 4, 5, 7, 8, 9, 10, 39]
def f83G (a0 : ByteArray) : Option (tM × Bool) :=
  (f124G K a0 (bs [59])).bind fun y1 => (f125G K y1.1).bind fun y2 => (f117G K y1.2.1).bind fun y3 => ((bif (!(bif (!y2.2) then true else (!y3.2))) then f126G K (y2.1, y3.1) else some false)).bind fun y4 => (bif (bif (bif (!y2.2) then true else (!y3.2)) then true else (!y4)) then some ((((0 : Int), (0 : Int), (0 : Int), (0 : Int)), (0 : Int), (0 : Int)), false) else some ((y2.1, y3.1), true))
def f83M : Mdl := ⟨[(.ro, .str)], [sM, .bool], fun x => f83G K x.1⟩
def f167E : Env := eE K [] [0, 1, 2, 3]
def f167G (K : Nat) (a0 : Int × Int × Int) : Option (tV × Int × Int) :=
  some ((a0.1, (0 : Int)), a0.2)
def f167M : Mdl := ⟨[(.ro, sL)], [sV, sV], fun x => f167G K x.1⟩
def f97E : Env := eE K [] [0, 1, 2, 3, 4]
def f97G (K : Nat) (a0 : Int × Int × Int × Int) (a1 : Int × Int) : Option tV :=
  some ((w ((w (a0.1 * a1.1)) + (w (a0.2.1 * a1.2)))), (w ((w (a0.2.2.1 * a1.1)) + (w (a0.2.2.2 * a1.2)))))
def f97M : Mdl := ⟨[(.ro, sA), (.ro, sV)], [sV], fun x => f97G K x.1 x.2.1⟩
def f196E : Env := eE K [] [0, 1, 3, 4]
def f196G (K : Nat) (a0 : Int) (a1 : Int × Int) : Option Int :=
  some (w ((w ((w (a1.1 * a1.1)) + (w ((w (a0 * a1.1)) * a1.2)))) + (w (a1.2 * a1.2))))
def f196M : Mdl := ⟨[(.ro, sI), (.ro, sV)], [sI], fun x => f196G K x.1 x.2.1⟩
def f169E : Env := eE K [(97, f97M K), (196, f196M K)] [0, 2, 3, 4, 5, 6, 7, 8, 10, 11, 54]
def f169_b8 (a0 : Int) (L8 : Int → (List tA) → Option (List tA)) (q9 : Int) (q10 : List tA) : Option (List tA) :=
  (bif (decide (q9 < (81 : Int))) then (f97G K ((w ((w (q9.tdiv (27 : Int))) - (1 : Int))), (w (((w (q9.tdiv (9 : Int))).tmod (3 : Int)) - (1 : Int))), (w (((w (q9.tdiv (3 : Int))).tmod (3 : Int)) - (1 : Int))), (w ((q9.tmod (3 : Int)) - (1 : Int)))) ((1 : Int), (0 : Int))).bind fun y11 => (f97G K ((w ((w (q9.tdiv (27 : Int))) - (1 : Int))), (w (((w (q9.tdiv (9 : Int))).tmod (3 : Int)) - (1 : Int))), (w (((w (q9.tdiv (3 : Int))).tmod (3 : Int)) - (1 : Int))), (w ((q9.tmod (3 : Int)) - (1 : Int)))) ((0 : Int), (1 : Int))).bind fun y12 => (f97G K ((w ((w (q9.tdiv (27 : Int))) - (1 : Int))), (w (((w (q9.tdiv (9 : Int))).tmod (3 : Int)) - (1 : Int))), (w (((w (q9.tdiv (3 : Int))).tmod (3 : Int)) - (1 : Int))), (w ((q9.tmod (3 : Int)) - (1 : Int)))) ((1 : Int), (1 : Int))).bind fun y13 => (f196G K a0 y11).bind fun y14 => ((bif (y14 == (1 : Int)) then f196G K a0 y12 else some (0 : Int))).bind fun y15 => ((bif (bif (y14 == (1 : Int)) then (y15 == (1 : Int)) else false) then f196G K a0 y13 else some (0 : Int))).bind fun y16 => (bif (bif (bif (y14 == (1 : Int)) then (y15 == (1 : Int)) else false) then (y16 == (w ((2 : Int) + a0))) else false) then (bif (Nat.ble (q10.length + [((w ((w (q9.tdiv (27 : Int))) - (1 : Int))), (w (((w (q9.tdiv (9 : Int))).tmod (3 : Int)) - (1 : Int))), (w (((w (q9.tdiv (3 : Int))).tmod (3 : Int)) - (1 : Int))), (w ((q9.tmod (3 : Int)) - (1 : Int))))].length) (lim 32)) then L8 (w (q9 + (1 : Int))) (q10 ++ [((w ((w (q9.tdiv (27 : Int))) - (1 : Int))), (w (((w (q9.tdiv (9 : Int))).tmod (3 : Int)) - (1 : Int))), (w (((w (q9.tdiv (3 : Int))).tmod (3 : Int)) - (1 : Int))), (w ((q9.tmod (3 : Int)) - (1 : Int))))]) else none) else L8 (w (q9 + (1 : Int))) q10) else some q10)
def f169_l8 (a0 : Int) (n : Nat) (q9 : Int) (q10 : List tA) : Option (List tA) :=
  iter (X := Int × List tA) (fun L x => f169_b8 K a0 (fun v0 v1 => L (v0, v1)) x.1 x.2) n (q9, q10)
def f169_g (K : Nat) (a0 : Int) (I8 : Int → (List tA) → Option (List tA)) : Option (List tA) :=
  I8 (0 : Int) []
def f169G (a0 : Int) : Option (List tA) :=
  f169_g K a0 (fun d0 d1 => f169_l8 K a0 K d0 d1)
def f169M : Mdl := ⟨[(.ro, sI)], [(.list 45 sA)], fun x => f169G K x.1⟩
def f169_k8 (a0 : Int) (lr : LR (List tA)) : Ex → Fr → Option (List tA) :=
  contC (f169E K) 0 lr f169C [1, 1, 0, 1, 0] (fM (f169E K) Tryz.f169 (f169M K) (a0, ()))
def f169_j8 (a0 : Int) (lr : LR (List tA)) (bq9 : Int) (bq10 : List tA) : Option (List tA) :=
  lr (selC f169C [1, 1, 0, 1, 0, 0]) (f169_fr8 a0 bq9 bq10) (f169_k8 K a0 lr)
def f95E : Env := eE K [] [0, 1, 4]
def f95G (K : Nat) (a0 a1 : Int) : Option Int :=
  (bif (a1 != 0) then (bif (a1 != 0) then some ((w ((a0.tmod a1) + a1)).tmod a1) else none) else none)
def f95M : Mdl := ⟨[(.ro, sI), (.ro, sI)], [sI], fun x => f95G K x.1 x.2.1⟩
def f56E : Env := eE K [(95, f95M K)] [0, 1, 2, 3, 4, 5]
def f56G (a0 : Int × Int × Int) (a1 : Int × Int) : Option tV :=
  (f95G K a1.2 a0.2.2).bind fun y1 => (bif (a0.2.2 != 0) then (f95G K (w (a1.1 - (w ((w ((w (a1.2 - y1)).tdiv a0.2.2)) * a0.2.1)))) a0.1).bind fun y2 => some (y2, y1) else none)
def f56M : Mdl := ⟨[(.ro, sL), (.ro, sV)], [sV], fun x => f56G K x.1 x.2.1⟩
def f171E : Env := eE K [(56, f56M K)] [0, 1, 2, 3, 4]
def f171G (a0 : Int × Int × Int) (a1 : Int × Int) : Option Bool :=
  (f56G K a0 a1).bind fun y1 => some ((y1.1 == (0 : Int)) && (y1.2 == (0 : Int)))
def f171M : Mdl := ⟨[(.ro, sL), (.ro, sV)], [.bool], fun x => f171G K x.1 x.2.1⟩
def f170E : Env := eE K [(97, f97M K), (171, f171M K)] [0, 1, 2, 3, 4, 5]
def f170G (a0 : Int × Int × Int × Int) (a1 : Int × Int × Int) (a2 a3 : Int × Int) : Option Bool :=
  (f97G K a0 a2).bind fun y1 => (f171G K a1 y1).bind fun y2 => ((bif (!(!y2)) then f97G K a0 a3 else some ((0 : Int), (0 : Int)))).bind fun y3 => ((bif (!(!y2)) then f171G K a1 y3 else some false)).bind fun y4 => some (bif (!y2) then true else (!y4))
def f170M : Mdl := ⟨[(.ro, sA), (.cap, sL), (.cap, sV), (.cap, sV)], [.bool], fun x => f170G K x.1 x.2.1 x.2.2.1 x.2.2.2.1⟩
def f195E : Env := eE K [] [0, 1, 4, 5, 7, 8, 9, 16]
def f195_b3 (K : Nat) (a0 : List tA) (a1 : (tA → Option Bool)) (L3 : Int → Option Int) (q4 : Int) : Option Int :=
  (bif (decide (q4 < (a0.length : Int))) then (bif (decide (0 ≤ q4) && decide (q4 < (a0.length : Int))) then (a1 ((a0.getD ((0 : Int) + q4).toNat zA).1, ((a0.getD ((0 : Int) + q4).toNat zA).2).1, (((a0.getD ((0 : Int) + q4).toNat zA).2).2))).bind fun y5 => (bif y5 then some q4 else L3 (w (q4 + (1 : Int)))) else none) else some (-1 : Int))
def f195_l3 (a0 : List tA) (a1 : (tA → Option Bool)) (n : Nat) (q4 : Int) : Option Int :=
  iter (X := Int) (fun L x => f195_b3 K a0 a1 (fun v0 => L v0) x) n q4
def f195_g (K : Nat) (a0 : List tA) (a1 : (tA → Option Bool)) (I3 : Int → Option Int) : Option Int :=
  I3 (0 : Int)
def f195G (a0 : List tA) (a1 : (tA → Option Bool)) : Option Int :=
  f195_g K a0 a1 (fun d0 => f195_l3 K a0 a1 K d0)
def f195M : Mdl := ⟨[(.ro, (.list 45 sA)), (.ro, (.fn1 sA .bool))], [sI], fun x => f195G K x.1 x.2.1⟩
def f195_k3 (a0 : List tA) (a1 : (tA → Option Bool)) (lr : LR Int) : Ex → Fr → Option Int :=
  contC (f195E K) 1 lr f195C [1, 0, 1, 0] (fM (f195E K) Tryz.f195 (f195M K) (a0, a1, ()))
def f195_j3 (a0 : List tA) (a1 : (tA → Option Bool)) (lr : LR Int) (bq4 : Int) : Option Int :=
  lr (selC f195C [1, 0, 1, 0, 0]) (f195_fr3 a0 a1 bq4) (f195_k3 K a0 a1 lr)
def f168E : Env := eE K [(195, f195M K)] [0, 1, 4, 5, 6, 7, 12, 19, 29]
def f168_b4 (K : Nat) (a1 : (tA → Option Bool)) (y1 : Int) (L4 : Int → Int → (List tA) → Option (List tA)) (q5 q6 : Int) (q7 : List tA) : Option (List tA) :=
  (bif (decide (q6 < (q7.length : Int))) then (bif (decide (0 ≤ q6) && decide (q6 < (q7.length : Int))) then (a1 ((q7.getD ((0 : Int) + q6).toNat zA).1, ((q7.getD ((0 : Int) + q6).toNat zA).2).1, (((q7.getD ((0 : Int) + q6).toNat zA).2).2))).bind fun y8 => (bif (!y8) then (bif (decide (0 ≤ q5) && decide (q5 < (q7.length : Int))) then L4 (w (q5 + (1 : Int))) (w (q6 + (1 : Int))) (q7.set ((0 : Int) + q5).toNat ((q7.getD ((0 : Int) + q6).toNat zA).1, ((q7.getD ((0 : Int) + q6).toNat zA).2).1, (((q7.getD ((0 : Int) + q6).toNat zA).2).2))) else none) else L4 q5 (w (q6 + (1 : Int))) q7) else none) else (bif (decide (0 ≤ q5) && decide (q5 ≤ (q7.length : Int)) && decide ((q7.length : Int) ≤ (q7.length : Int))) then (bif (decide (0 ≤ (0 : Int)) && decide ((0 : Int) ≤ q5) && decide (q5 ≤ ((clr q7 ((0 : Int) + q5).toNat (((0 : Int) + q5) + (((0 : Int) + (q7.length : Int)) - ((0 : Int) + q5))).toNat zA).length : Int))) then some ((clr q7 ((0 : Int) + q5).toNat (((0 : Int) + q5) + (((0 : Int) + (q7.length : Int)) - ((0 : Int) + q5))).toNat zA).take ((0 : Int) + q5).toNat) else none) else none))
def f168_l4 (a1 : (tA → Option Bool)) (y1 : Int) (n : Nat) (q5 q6 : Int) (q7 : List tA) : Option (List tA) :=
  iter (X := Int × Int × List tA) (fun L x => f168_b4 K a1 y1 (fun v0 v1 v2 => L (v0, v1, v2)) x.1 x.2.1 x.2.2) n (q5, q6, q7)
def f168_g (a0 : List tA) (a1 : (tA → Option Bool)) (I4 : Int → Int → Int → (List tA) → Option (List tA)) : Option (List tA) :=
  (f195G K a0 a1).bind fun y1 => (bif (y1 == (-1 : Int)) then some a0 else I4 y1 y1 (w (y1 + (1 : Int))) a0)
def f168G (a0 : List tA) (a1 : (tA → Option Bool)) : Option (List tA) :=
  f168_g K a0 a1 (fun c0 d0 d1 d2 => f168_l4 K a1 c0 K d0 d1 d2)
def f168M : Mdl := ⟨[(.mv, (.list 45 sA)), (.ro, (.fn1 sA .bool))], [(.list 45 sA)], fun x => f168G K x.1 x.2.1⟩
def f168_k4 (a0 : List tA) (a1 : (tA → Option Bool)) (lr : LR (List tA)) : Ex → Fr → Option (List tA) :=
  contC (f168E K) 1 lr f168C [1, 1, 1, 0, 1, 0] (fM (f168E K) Tryz.f168 (f168M K) (a0, a1, ()))
def f168_j4 (a0 : List tA) (a1 : (tA → Option Bool)) (lr : LR (List tA)) (y1 bq5 bq6 : Int) (bq7 : List tA) : Option (List tA) :=
  lr (selC f168C [1, 1, 1, 0, 1, 0, 0]) (f168_fr4 a1 y1 bq5 bq6 bq7) (f168_k4 K a0 a1 lr)
def f129E : Env := ⟨[(167, f167M K), (168, f168M K), (169, f169M K), (170, f170M K)], tys, eqs, mts, K, [0, 1, 3, 4, 5, 6], [], [], [], [], [(170, f170M K)], [], false⟩
def f129G (a0 : Int) (a1 : Int × Int × Int) : Option (List tA) :=
  (f167G K a1).bind fun y1 => (f169G K a0).bind fun y2 => (f168G K y2 (fun z3 => f170G K z3 a1 y1.1 y1.2)).bind fun y4 => some y4
def f129M : Mdl := ⟨[(.ro, sI), (.ro, sL)], [(.list 45 sA)], fun x => f129G K x.1 x.2.1⟩
def f166E : Env := eE K [] [0, 1, 3, 4, 5, 7, 8, 9, 16]
def f166_b2 (K : Nat) (a0 : List tA) (a1 : Int × Int × Int × Int) (L2 : Int → Option Int) (q3 : Int) : Option Int :=
  (bif (decide (q3 < (a0.length : Int))) then (bif (decide (0 ≤ q3) && decide (q3 < (a0.length : Int))) then (bif ((a1.1 == (a0.getD ((0 : Int) + q3).toNat zA).1) && ((a1.2.1 == ((a0.getD ((0 : Int) + q3).toNat zA).2).1) && ((a1.2.2.1 == (((a0.getD ((0 : Int) + q3).toNat zA).2).2).1) && (a1.2.2.2 == (((a0.getD ((0 : Int) + q3).toNat zA).2).2).2)))) then some q3 else L2 (w (q3 + (1 : Int)))) else none) else some (-1 : Int))
def f166_l2 (a0 : List tA) (a1 : Int × Int × Int × Int) (n : Nat) (q3 : Int) : Option Int :=
  iter (X := Int) (fun L x => f166_b2 K a0 a1 (fun v0 => L v0) x) n q3
def f166_g (K : Nat) (a0 : List tA) (a1 : Int × Int × Int × Int) (I2 : Int → Option Int) : Option Int :=
  I2 (0 : Int)
def f166G (a0 : List tA) (a1 : Int × Int × Int × Int) : Option Int :=
  f166_g K a0 a1 (fun d0 => f166_l2 K a0 a1 K d0)
def f166M : Mdl := ⟨[(.ro, (.list 45 sA)), (.ro, sA)], [sI], fun x => f166G K x.1 x.2.1⟩
def f166_k2 (a0 : List tA) (a1 : Int × Int × Int × Int) (lr : LR Int) : Ex → Fr → Option Int :=
  contC (f166E K) 1 lr f166C [1, 0, 1, 0] (fM (f166E K) Tryz.f166 (f166M K) (a0, a1, ()))
def f166_j2 (a0 : List tA) (a1 : Int × Int × Int × Int) (lr : LR Int) (bq3 : Int) : Option Int :=
  lr (selC f166C [1, 0, 1, 0, 0]) (f166_fr2 a0 a1 bq3) (f166_k2 K a0 a1 lr)
def f128E : Env := eE K [(166, f166M K)] [0, 1, 3, 4]
def f128G (a0 : List tA) (a1 : Int × Int × Int × Int) : Option Bool :=
  (f166G K a0 a1).bind fun y1 => some (decide (y1 ≥ (0 : Int)))
def f128M : Mdl := ⟨[(.ro, (.list 45 sA)), (.ro, sA)], [.bool], fun x => f128G K x.1 x.2.1⟩
def f84E : Env := eE K [(127, f127M K), (128, f128M K), (129, f129M K)] [0, 1, 2, 4, 5, 6]
def f84G (a0 : Int) (a1 : Int × Int × Int) (a2 : tA × Int × Int) : Option Bool :=
  (f127G K a2.2).bind fun y1 => ((bif y1 then f129G K a0 a1 else some [])).bind fun y2 => ((bif y1 then f128G K (bif y1 then y2 else []) a2.1 else some false)).bind fun y3 => some (bif y1 then y3 else false)
def f84M : Mdl := ⟨[(.ro, sI), (.ro, sL), (.ro, sM)], [.bool], fun x => f84G K x.1 x.2.1 x.2.2.1⟩
def f59E : Env := eE K [(56, f56M K)] [0, 1, 2, 3, 4]
def f59G (a0 : Int × Int × Int) (a1 : tA × Int × Int) : Option tM :=
  (f56G K a0 a1.2).bind fun y1 => some (a1.1, y1)
def f59M : Mdl := ⟨[(.ro, sL), (.ro, sM)], [sM], fun x => f59G K x.1 x.2.1⟩
def f49E : Env := eE K [(59, f59M K), (83, f83M K), (84, f84M K)] [0, 1, 2, 6, 7, 8, 14, 17, 20, 27]
def f49G (a0 : Int × Int × tL × (List tM) × List (tV × Int)) (a1 : ByteArray) (a2 : Int) : Option ((Int × Int × tL × (List tM) × List (tV × Int)) × Int) :=
  (f83G K a1).bind fun y1 => (bif (!y1.2) then some (a0, (6 : Int)) else (bif (decide (a2 < (2 : Int))) then some (a0, (5 : Int)) else (bif ((a0.2.2.2.1.length : Int) == (8 : Int)) then some (a0, (3 : Int)) else (f84G K a0.2.1 a0.2.2.1 y1.1).bind fun y2 => (bif (!y2) then some (a0, (2 : Int)) else (f59G K a0.2.2.1 y1.1).bind fun y3 => (bif (Nat.ble (a0.2.2.2.1.length + [y3].length) (lim 48)) then some ((a0.1, a0.2.1, a0.2.2.1, (a0.2.2.2.1 ++ [y3]), a0.2.2.2.2), (0 : Int)) else none)))))
def f49M : QMdl := ⟨(.cons sI (.cons sI (.cons sL (.cons (.list 49 sM) (.list 82 (.cons sV sI)))))), [(.ro, .str), (.ro, sI)], [sI], fun x => f49G K x.1 x.2.1 x.2.2.1⟩
def f25E : Env := ⟨[(24, f24M K), (46, f46M K), (47, f47M K), (48, f48M K)], tys, eqs, mts, K, [0, 1, 4, 5, 6, 7, 8, 9, 23, 42, 48, 49, 63, 71, 81, 89], [], [], [(45, f45M K), (49, f49M K)], [], [], [], false⟩
def f25G (a0 : Int × Int × tL × (List tM) × List (tV × Int)) (a1 : ByteArray) : Option ((Int × Int × tL × (List tM) × List (tV × Int)) × Int) :=
  (f24G K a1 (bs [32])).bind fun y1 => (bif (decide (0 ≤ (0 : Int)) && decide ((0 : Int) < (y1.length : Int))) then (bif (bif ((y1.getD ((0 : Int) + (0 : Int)).toNat ByteArray.empty) == (bs [109, 97, 114, 107])) then ((y1.length : Int) == (3 : Int)) else false) then (bif (decide (0 ≤ (1 : Int)) && decide ((1 : Int) < (y1.length : Int))) then (bif (decide (0 ≤ (2 : Int)) && decide ((2 : Int) < (y1.length : Int))) then (f45G K ((w (a0.1 + (1 : Int))), a0.2) (y1.getD ((0 : Int) + (1 : Int)).toNat ByteArray.empty) (y1.getD ((0 : Int) + (2 : Int)).toNat ByteArray.empty) a0.1).bind fun y2 => some y2 else none) else none) else (bif ((y1.length : Int) != (2 : Int)) then some (((w (a0.1 + (1 : Int))), a0.2), (6 : Int)) else (bif (decide (0 ≤ (0 : Int)) && decide ((0 : Int) < (y1.length : Int))) then (bif ((y1.getD ((0 : Int) + (0 : Int)).toNat ByteArray.empty) == (bs [102, 114, 97, 109, 101])) then (bif (decide (0 ≤ (1 : Int)) && decide ((1 : Int) < (y1.length : Int))) then (f46G K (bs [83, 72]) (y1.getD ((0 : Int) + (1 : Int)).toNat ByteArray.empty)).bind fun y3 => (bif (decide (0 ≤ (1 : Int)) && decide ((1 : Int) < (y1.length : Int))) then (bif (bif (((y1.getD ((0 : Int) + (1 : Int)).toNat ByteArray.empty).size : Int) != (1 : Int)) then true else (decide (y3 < (0 : Int)))) then some (((w (a0.1 + (1 : Int))), a0.2), (6 : Int)) else (f47G K (a0.1 == (0 : Int))).bind fun y4 => some (((w (a0.1 + (1 : Int))), y3, a0.2.2), y4)) else none) else none) else (bif ((y1.getD ((0 : Int) + (0 : Int)).toNat ByteArray.empty) == (bs [108, 97, 116, 116, 105, 99, 101])) then (bif (decide (0 ≤ (1 : Int)) && decide ((1 : Int) < (y1.length : Int))) then (f48G K (y1.getD ((0 : Int) + (1 : Int)).toNat ByteArray.empty)).bind fun y5 => (bif (!y5.2) then some (((w (a0.1 + (1 : Int))), a0.2), (6 : Int)) else (f47G K (a0.1 == (1 : Int))).bind fun y6 => some (((w (a0.1 + (1 : Int))), a0.2.1, y5.1, a0.2.2.2), y6)) else none) else (bif ((y1.getD ((0 : Int) + (0 : Int)).toNat ByteArray.empty) == (bs [109, 111, 116, 105, 111, 110])) then (bif (decide (0 ≤ (1 : Int)) && decide ((1 : Int) < (y1.length : Int))) then (f49G K ((w (a0.1 + (1 : Int))), a0.2) (y1.getD ((0 : Int) + (1 : Int)).toNat ByteArray.empty) a0.1).bind fun y7 => some y7 else none) else some (((w (a0.1 + (1 : Int))), a0.2), (6 : Int))))) else none))) else none)
def f25M : QMdl := ⟨(.cons sI (.cons sI (.cons sL (.cons (.list 49 sM) (.list 82 (.cons sV sI)))))), [(.ro, .str)], [sI], fun x => f25G K x.1 x.2.1⟩
def f96E : Env := eE K [] [0, 1, 2, 3, 4]
def f96G (K : Nat) (a0 a1 : Int × Int × Int × Int) : Option tA :=
  some ((w ((w (a0.1 * a1.1)) + (w (a0.2.1 * a1.2.2.1)))), (w ((w (a0.1 * a1.2.1)) + (w (a0.2.1 * a1.2.2.2)))), (w ((w (a0.2.2.1 * a1.1)) + (w (a0.2.2.2 * a1.2.2.1)))), (w ((w (a0.2.2.1 * a1.2.1)) + (w (a0.2.2.2 * a1.2.2.2)))))
def f96M : Mdl := ⟨[(.ro, sA), (.ro, sA)], [sA], fun x => f96G K x.1 x.2.1⟩
def f98E : Env := eE K [] [0, 1, 2, 3, 4]
def f98G (K : Nat) (a0 a1 : Int × Int) : Option tV :=
  some ((w (a0.1 + a1.1)), (w (a0.2 + a1.2)))
def f98M : Mdl := ⟨[(.ro, sV), (.ro, sV)], [sV], fun x => f98G K x.1 x.2.1⟩
def f60E : Env := eE K [(96, f96M K), (97, f97M K), (98, f98M K)] [0, 1, 2, 3, 4]
def f60G (a0 a1 : tA × Int × Int) : Option tM :=
  (f96G K a0.1 a1.1).bind fun y1 => (f97G K a0.1 a1.2).bind fun y2 => (f98G K y2 a0.2).bind fun y3 => some (y1, y3)
def f60M : Mdl := ⟨[(.ro, sM), (.ro, sM)], [sM], fun x => f60G K x.1 x.2.1⟩
def f137E : Env := eE K [] [0, 1, 4, 5, 7, 8, 9, 19, 28]
def f137_b2 (K : Nat) (a0 a1 : List Int) (L2 : Int → Option Int) (q3 : Int) : Option Int :=
  (bif (decide (q3 < (a0.length : Int))) then (bif (decide (0 ≤ q3) && decide (q3 < (a0.length : Int))) then (bif (decide (0 ≤ q3) && decide (q3 < (a1.length : Int))) then (bif ((a0.getD ((0 : Int) + q3).toNat (0 : Int)) != (a1.getD ((0 : Int) + q3).toNat (0 : Int))) then (bif (decide (0 ≤ q3) && decide (q3 < (a0.length : Int))) then (bif (decide (0 ≤ q3) && decide (q3 < (a1.length : Int))) then (bif (decide ((a0.getD ((0 : Int) + q3).toNat (0 : Int)) < (a1.getD ((0 : Int) + q3).toNat (0 : Int)))) then some (-1 : Int) else some (1 : Int)) else none) else none) else L2 (w (q3 + (1 : Int)))) else none) else none) else some (0 : Int))
def f137_l2 (a0 a1 : List Int) (n : Nat) (q3 : Int) : Option Int :=
  iter (X := Int) (fun L x => f137_b2 K a0 a1 (fun v0 => L v0) x) n q3
def f137_g (K : Nat) (a0 a1 : List Int) (I2 : Int → Option Int) : Option Int :=
  I2 (0 : Int)
def f137G (a0 a1 : List Int) : Option Int :=
  f137_g K a0 a1 (fun d0 => f137_l2 K a0 a1 K d0)
def f137M : Mdl := ⟨[(.ro, (.list 2 sI)), (.ro, (.list 2 sI))], [sI], fun x => f137G K x.1 x.2.1⟩
def f137_k2 (a0 a1 : List Int) (lr : LR Int) : Ex → Fr → Option Int :=
  contC (f137E K) 2 lr f137C [1, 0, 1, 0] (fM (f137E K) Tryz.f137 (f137M K) (a0, a1, ()))
def f137_j2 (a0 a1 : List Int) (lr : LR Int) (bq3 : Int) : Option Int :=
  lr (selC f137C [1, 0, 1, 0, 0]) (f137_fr2 a0 a1 bq3) (f137_k2 K a0 a1 lr)
def f101E : Env := eE K [(137, f137M K)] [0, 1, 2, 3, 4]
def f101G (a0 a1 : Int × Int × Int × Int) : Option Int :=
  (f137G K [a0.1, a0.2.1, a0.2.2.1, a0.2.2.2] [a1.1, a1.2.1, a1.2.2.1, a1.2.2.2]).bind fun y1 => some y1
def f101M : Mdl := ⟨[(.ro, sA), (.ro, sA)], [sI], fun x => f101G K x.1 x.2.1⟩
def f93E : Env := eE K [(137, f137M K)] [0, 1, 2, 3, 4]
def f93G (a0 a1 : Int × Int) : Option Int :=
  (f137G K [a0.1, a0.2] [a1.1, a1.2]).bind fun y1 => some y1
def f93M : Mdl := ⟨[(.ro, sV), (.ro, sV)], [sI], fun x => f93G K x.1 x.2.1⟩
def f62E : Env := eE K [(93, f93M K), (101, f101M K)] [0, 1, 2, 3, 4, 5, 12]
def f62G (a0 a1 : tA × Int × Int) : Option Int :=
  (f101G K a0.1 a1.1).bind fun y1 => (bif (y1 != (0 : Int)) then some y1 else (f93G K a0.2 a1.2).bind fun y2 => some y2)
def f62M : Mdl := ⟨[(.ro, sM), (.ro, sM)], [sI], fun x => f62G K x.1 x.2.1⟩
omit K
def f61G (K : Nat) (a0 : List tM) (a1 : tM → tM → Option Int) : Option (List tM) := sortF sM a0 a1
def f61M (K : Nat) : Mdl := ⟨[(.io, (.list 49 sM)), (.ro, (.fn2 sM sM sI))], [], fun x => f61G K x.1 x.2.1⟩
include K
def f27E : Env := ⟨[(58, f58M K), (59, f59M K), (60, f60M K), (61, f61M K), (62, f62M K)], tys, eqs, mts, K, [0, 1, 2, 4, 5, 6, 7, 9, 10, 22, 25, 26, 27, 28, 42], [], [], [], [], [(62, f62M K)], [], false⟩
def f27_b16 (a0 : Int × Int × Int) (a1 : List tM) (q13 : Int) (q15 : List tM) (L12 : Int → (List (tM × Bool)) → (List tM) → Option (List tM)) (L16 : Int → (List (tM × Bool)) → (List tM) → Option (List tM)) (q17 : Int) (q18 : List (tM × Bool)) (q19 : List tM) : Option (List tM) :=
  (bif (decide (q17 < (a1.length : Int))) then (bif (decide (0 ≤ q17) && decide (q17 < (a1.length : Int))) then (bif (decide (0 ≤ q13) && decide (q13 < (q19.length : Int))) then (f60G K ((((a1.getD ((0 : Int) + q17).toNat zM).1).1, (((a1.getD ((0 : Int) + q17).toNat zM).1).2).1, ((((a1.getD ((0 : Int) + q17).toNat zM).1).2).2)), ((a1.getD ((0 : Int) + q17).toNat zM).2)) ((((q19.getD ((0 : Int) + q13).toNat zM).1).1, (((q19.getD ((0 : Int) + q13).toNat zM).1).2).1, ((((q19.getD ((0 : Int) + q13).toNat zM).1).2).2)), ((q19.getD ((0 : Int) + q13).toNat zM).2))).bind fun y20 => (f59G K a0 y20).bind fun y21 => (bif (!((mfind (eqSh sM) q18 y21).getD false)) then (bif (Nat.ble (q19.length + [y21].length) (lim 48)) then L16 (w (q17 + (1 : Int))) (mput (eqSh sM) q18 y21 true) (q19 ++ [y21]) else none) else L16 (w (q17 + (1 : Int))) q18 q19) else none) else none) else L12 (w (q13 + (1 : Int))) q18 q19)
def f27_l16 (a0 : Int × Int × Int) (a1 : List tM) (q13 : Int) (q15 : List tM) (L12 : Int → (List (tM × Bool)) → (List tM) → Option (List tM)) (n : Nat) (q17 : Int) (q18 : List (tM × Bool)) (q19 : List tM) : Option (List tM) :=
  iter (X := Int × List (tM × Bool) × List tM) (fun L x => f27_b16 K a0 a1 q13 q15 L12 (fun v0 v1 v2 => L (v0, v1, v2)) x.1 x.2.1 x.2.2) n (q17, q18, q19)
def f27_b12 (a0 : Int × Int × Int) (a1 : List tM) (I16 : Int → (List tM) → Int → (List (tM × Bool)) → (List tM) → Option (List tM)) (L12 : Int → (List (tM × Bool)) → (List tM) → Option (List tM)) (q13 : Int) (q14 : List (tM × Bool)) (q15 : List tM) : Option (List tM) :=
  (bif (decide (q13 < (q15.length : Int))) then I16 q13 q15 (0 : Int) q14 q15 else (f61G K q15 (fun z22 z23 => f62G K z22 z23)).bind fun y24 => some y24)
def f27_l12 (a0 : Int × Int × Int) (a1 : List tM) (n : Nat) (q13 : Int) (q14 : List (tM × Bool)) (q15 : List tM) : Option (List tM) :=
  iter (X := Int × List (tM × Bool) × List tM) (fun L x => (fun L12 => f27_b12 K a0 a1 (fun c0 c1 d0 d1 d2 => f27_l16 K a0 a1 c0 c1 L12 K d0 d1 d2) L12 x.1 x.2.1 x.2.2) (fun v0 v1 v2 => L (v0, v1, v2))) n (q13, q14, q15)
def f27_g (a0 : Int × Int × Int) (a1 : List tM) (I12 : Int → (List (tM × Bool)) → (List tM) → Option (List tM)) : Option (List tM) :=
  (f58G K).bind fun y1 => (bif (decide (0 ≤ (0 : Int)) && decide ((0 : Int) < ([(y1, (0 : Int), (0 : Int))].length : Int))) then I12 (0 : Int) (mput (eqSh sM) [] (((([(y1, (0 : Int), (0 : Int))].getD ((0 : Int) + (0 : Int)).toNat zM).1).1, ((([(y1, (0 : Int), (0 : Int))].getD ((0 : Int) + (0 : Int)).toNat zM).1).2).1, (((([(y1, (0 : Int), (0 : Int))].getD ((0 : Int) + (0 : Int)).toNat zM).1).2).2)), (([(y1, (0 : Int), (0 : Int))].getD ((0 : Int) + (0 : Int)).toNat zM).2)) true) [(y1, (0 : Int), (0 : Int))] else none)
def f27G (a0 : Int × Int × Int) (a1 : List tM) : Option (List tM) :=
  f27_g K a0 a1 (fun d0 d1 d2 => f27_l12 K a0 a1 K d0 d1 d2)
def f27M : Mdl := ⟨[(.ro, sL), (.ro, (.list 49 sM))], [(.list 49 sM)], fun x => f27G K x.1 x.2.1⟩
def f27_k12 (a0 : Int × Int × Int) (a1 : List tM) (lr : LR (List tM)) : Ex → Fr → Option (List tM) :=
  contC (f27E K) 1 lr f27C [1, 1, 1, 0, 1, 0] (fM (f27E K) Tryz.f27 (f27M K) (a0, a1, ()))
def f27_j12 (a0 : Int × Int × Int) (a1 : List tM) (lr : LR (List tM)) (bq13 : Int) (bq14 : List (tM × Bool)) (bq15 : List tM) : Option (List tM) :=
  lr (selC f27C [1, 1, 1, 0, 1, 0, 0]) (f27_fr12 a0 a1 bq13 bq14 bq15) (f27_k12 K a0 a1 lr)
def f27_k16 (a0 : Int × Int × Int) (a1 : List tM) (F12 : Fr → Option (List tM)) (bq13 : Int) (bq14 : List (tM × Bool)) (bq15 : List tM) (lr : LR (List tM)) : Ex → Fr → Option (List tM) :=
  contC (f27E K) 1 lr (selC f27C [1, 1, 1, 0, 1, 0, 0]) [1, 0, 0, 1, 0] (loopK 1 (f27_fr12 a0 a1 bq13 bq14 bq15) F12 (f27_k12 K a0 a1 lr))
def f27_j16 (a0 : Int × Int × Int) (a1 : List tM) (F12 : Fr → Option (List tM)) (bq13 : Int) (bq14 : List (tM × Bool)) (bq15 : List tM) (lr : LR (List tM)) (q13 : Int) (q15 : List tM) (bq17 : Int) (bq18 : List (tM × Bool)) (bq19 : List tM) : Option (List tM) :=
  lr (selC f27C [1, 1, 1, 0, 1, 0, 0, 1, 0, 0, 1, 0, 0]) (f27_fr16 a0 a1 q13 q15 bq17 bq18 bq19) (f27_k16 K a0 a1 F12 bq13 bq14 bq15 lr)
def f12E : Env := eE K [(27, f27M K)] [0, 2]
def f12G (a0 : Int × Int × tL × (List tM) × List (tV × Int)) : Option (List tM) :=
  (f27G K a0.2.2.1 a0.2.2.2.1).bind fun y1 => some y1
def f12M : Mdl := ⟨[(.cap, (.cons sI (.cons sI (.cons sL (.cons (.list 49 sM) (.list 82 (.cons sV sI)))))))], [(.list 49 sM)], fun x => f12G K x.1⟩
def f172E : Env := eE K [(87, f87M K)] [0, 2]
def f172G (a0 : Int) : Option Bool :=
  (f87G K a0 (0 : Int) (1 : Int)).bind fun y1 => some y1
def f172M : Mdl := ⟨[(.ro, sI)], [.bool], fun x => f172G K x.1⟩
def f130E : Env := eE K [(82, f82M K), (172, f172M K)] [0, 1, 3, 4, 12]
def f130G (a0 : Int) (a1 : Int × Int × Int) : Option Int :=
  (f172G K a0).bind fun y1 => ((bif (!(!y1)) then f82G K a1 else some false)).bind fun y2 => (bif (bif (!y1) then true else (!y2)) then some (1 : Int) else some (0 : Int))
def f130M : Mdl := ⟨[(.ro, sI), (.ro, sL)], [sI], fun x => f130G K x.1 x.2.1⟩
def f131E : Env := eE K [(56, f56M K), (58, f58M K), (59, f59M K), (60, f60M K), (62, f62M K), (128, f128M K), (129, f129M K)] [0, 1, 2, 4, 6, 7, 8, 9, 10, 12, 14, 19, 20, 21, 22, 53, 61, 62, 63, 64, 65, 68, 69, 70, 71, 81]
def f131_b23 (a0 : Int) (a1 : Int × Int × Int) (a2 : List tM) (q7 : Int) (q8 : List (tM × Bool)) (q22 : Int) (y1 : List tA) (y12 : Int × Int × Int × Int) (L21 L23 : Int → Option Bool) (q24 : Int) : Option Bool :=
  (bif (decide (q24 < (a2.length : Int))) then (bif (decide (0 ≤ q24) && decide (q24 < (a2.length : Int))) then (f60G K ((((a2.getD ((0 : Int) + q22).toNat zM).1).1, (((a2.getD ((0 : Int) + q22).toNat zM).1).2).1, ((((a2.getD ((0 : Int) + q22).toNat zM).1).2).2)), ((a2.getD ((0 : Int) + q22).toNat zM).2)) ((((a2.getD ((0 : Int) + q24).toNat zM).1).1, (((a2.getD ((0 : Int) + q24).toNat zM).1).2).1, ((((a2.getD ((0 : Int) + q24).toNat zM).1).2).2)), ((a2.getD ((0 : Int) + q24).toNat zM).2))).bind fun y25 => (f59G K a1 y25).bind fun y26 => (bif (!((mfind (eqSh sM) q8 y26).getD false)) then some false else L23 (w (q24 + (1 : Int)))) else none) else L21 (w (q22 + (1 : Int))))
def f131_l23 (a0 : Int) (a1 : Int × Int × Int) (a2 : List tM) (q7 : Int) (q8 : List (tM × Bool)) (q22 : Int) (y1 : List tA) (y12 : Int × Int × Int × Int) (L21 : Int → Option Bool) (n : Nat) (q24 : Int) : Option Bool :=
  iter (X := Int) (fun L x => f131_b23 K a0 a1 a2 q7 q8 q22 y1 y12 L21 (fun v0 => L v0) x) n q24
def f131_b21 (K : Nat) (a0 : Int) (a1 : Int × Int × Int) (a2 : List tM) (q7 : Int) (q8 : List (tM × Bool)) (y1 : List tA) (y12 : Int × Int × Int × Int) (I23 : Int → Int → Option Bool) (L21 : Int → Option Bool) (q22 : Int) : Option Bool :=
  (bif (decide (q22 < (a2.length : Int))) then (bif (decide (0 ≤ q22) && decide (q22 < (a2.length : Int))) then I23 q22 (0 : Int) else none) else some true)
def f131_l21 (a0 : Int) (a1 : Int × Int × Int) (a2 : List tM) (q7 : Int) (q8 : List (tM × Bool)) (y1 : List tA) (y12 : Int × Int × Int × Int) (n : Nat) (q22 : Int) : Option Bool :=
  iter (X := Int) (fun L x => (fun L21 => f131_b21 K a0 a1 a2 q7 q8 y1 y12 (fun c0 d0 => f131_l23 K a0 a1 a2 q7 q8 c0 y1 y12 L21 K d0) L21 x) (fun v0 => L v0)) n q22
def f131_b6 (a0 : Int) (a1 : Int × Int × Int) (a2 : List tM) (y1 : List tA) (I21 : Int → (List (tM × Bool)) → (List tA) → tA → Int → Option Bool) (L6 : Int → (List (tM × Bool)) → Option Bool) (q7 : Int) (q8 : List (tM × Bool)) : Option Bool :=
  (bif (decide (q7 < (a2.length : Int))) then (bif (decide (0 ≤ q7) && decide (q7 < (a2.length : Int))) then (f128G K y1 (((a2.getD ((0 : Int) + q7).toNat zM).1).1, (((a2.getD ((0 : Int) + q7).toNat zM).1).2).1, ((((a2.getD ((0 : Int) + q7).toNat zM).1).2).2))).bind fun y9 => ((bif (!(!y9)) then f56G K a1 ((a2.getD ((0 : Int) + q7).toNat zM).2) else some ((0 : Int), (0 : Int)))).bind fun y10 => (bif ((decide (0 ≤ (w (q7 - (1 : Int)))) && decide ((w (q7 - (1 : Int))) < (a2.length : Int))) || (!((!(bif (!y9) then true else (!((y10.1 == ((a2.getD ((0 : Int) + q7).toNat zM).2).1) && (y10.2 == ((a2.getD ((0 : Int) + q7).toNat zM).2).2))))) && (decide (q7 > (0 : Int)))))) then ((bif ((!(bif (!y9) then true else (!((y10.1 == ((a2.getD ((0 : Int) + q7).toNat zM).2).1) && (y10.2 == ((a2.getD ((0 : Int) + q7).toNat zM).2).2))))) && (decide (q7 > (0 : Int)))) then f62G K ((((a2.getD ((0 : Int) + (w (q7 - (1 : Int)))).toNat zM).1).1, (((a2.getD ((0 : Int) + (w (q7 - (1 : Int)))).toNat zM).1).2).1, ((((a2.getD ((0 : Int) + (w (q7 - (1 : Int)))).toNat zM).1).2).2)), ((a2.getD ((0 : Int) + (w (q7 - (1 : Int)))).toNat zM).2)) ((((a2.getD ((0 : Int) + q7).toNat zM).1).1, (((a2.getD ((0 : Int) + q7).toNat zM).1).2).1, ((((a2.getD ((0 : Int) + q7).toNat zM).1).2).2)), ((a2.getD ((0 : Int) + q7).toNat zM).2)) else some (0 : Int))).bind fun y11 => (bif (bif (bif (!y9) then true else (!((y10.1 == ((a2.getD ((0 : Int) + q7).toNat zM).2).1) && (y10.2 == ((a2.getD ((0 : Int) + q7).toNat zM).2).2)))) then true else (bif (decide (q7 > (0 : Int))) then (decide (y11 ≥ (0 : Int))) else false)) then some false else L6 (w (q7 + (1 : Int))) (mput (eqSh sM) q8 ((((a2.getD ((0 : Int) + q7).toNat zM).1).1, (((a2.getD ((0 : Int) + q7).toNat zM).1).2).1, ((((a2.getD ((0 : Int) + q7).toNat zM).1).2).2)), ((a2.getD ((0 : Int) + q7).toNat zM).2)) true)) else none) else none) else (f58G K).bind fun y12 => (bif (!((mfind (eqSh sM) q8 (y12, (0 : Int), (0 : Int))).getD false)) then some false else I21 q7 q8 y1 y12 (0 : Int)))
def f131_l6 (a0 : Int) (a1 : Int × Int × Int) (a2 : List tM) (y1 : List tA) (n : Nat) (q7 : Int) (q8 : List (tM × Bool)) : Option Bool :=
  iter (X := Int × List (tM × Bool)) (fun L x => f131_b6 K a0 a1 a2 y1 (fun c0 c1 c2 c3 d0 => f131_l21 K a0 a1 a2 c0 c1 c2 c3 K d0) (fun v0 v1 => L (v0, v1)) x.1 x.2) n (q7, q8)
def f131_g (a0 : Int) (a1 : Int × Int × Int) (a2 : List tM) (I6 : (List tA) → Int → (List (tM × Bool)) → Option Bool) : Option Bool :=
  (f129G K a0 a1).bind fun y1 => I6 y1 (0 : Int) []
def f131G (a0 : Int) (a1 : Int × Int × Int) (a2 : List tM) : Option Bool :=
  f131_g K a0 a1 a2 (fun c0 d0 d1 => f131_l6 K a0 a1 a2 c0 K d0 d1)
def f131M : Mdl := ⟨[(.ro, sI), (.ro, sL), (.ro, (.list 49 sM))], [.bool], fun x => f131G K x.1 x.2.1 x.2.2.1⟩
def f131_k6 (a0 : Int) (a1 : Int × Int × Int) (a2 : List tM) (lr : LR Bool) : Ex → Fr → Option Bool :=
  contC (f131E K) 1 lr f131C [1, 1, 0, 1, 0] (fM (f131E K) Tryz.f131 (f131M K) (a0, a1, a2, ()))
def f131_j6 (a0 : Int) (a1 : Int × Int × Int) (a2 : List tM) (lr : LR Bool) (y1 : List tA) (bq7 : Int) (bq8 : List (tM × Bool)) : Option Bool :=
  lr (selC f131C [1, 1, 0, 1, 0, 0]) (f131_fr6 a0 a1 a2 y1 bq7 bq8) (f131_k6 K a0 a1 a2 lr)
def f131_k21 (a0 : Int) (a1 : Int × Int × Int) (a2 : List tM) (lr : LR Bool) : Ex → Fr → Option Bool :=
  contC (f131E K) 1 lr f131C [1, 1, 1, 1, 0, 1, 0] (fM (f131E K) Tryz.f131 (f131M K) (a0, a1, a2, ()))
def f131_j21 (a0 : Int) (a1 : Int × Int × Int) (a2 : List tM) (lr : LR Bool) (q7 : Int) (q8 : List (tM × Bool)) (y1 : List tA) (y12 : Int × Int × Int × Int) (bq22 : Int) : Option Bool :=
  lr (selC f131C [1, 1, 1, 1, 0, 1, 0, 0]) (f131_fr21 a0 a1 a2 q7 q8 y1 y12 bq22) (f131_k21 K a0 a1 a2 lr)
def f131_k23 (a0 : Int) (a1 : Int × Int × Int) (a2 : List tM) (q7 : Int) (q8 : List (tM × Bool)) (y1 : List tA) (y12 : Int × Int × Int × Int) (F21 : Fr → Option Bool) (bq22 : Int) (lr : LR Bool) : Ex → Fr → Option Bool :=
  contC (f131E K) 1 lr (selC f131C [1, 1, 1, 1, 0, 1, 0, 0]) [1, 1, 0, 0, 1, 1, 0] (loopK 1 (f131_fr21 a0 a1 a2 q7 q8 y1 y12 bq22) F21 (f131_k21 K a0 a1 a2 lr))
def f131_j23 (a0 : Int) (a1 : Int × Int × Int) (a2 : List tM) (q7 : Int) (q8 : List (tM × Bool)) (y1 : List tA) (y12 : Int × Int × Int × Int) (F21 : Fr → Option Bool) (bq22 : Int) (lr : LR Bool) (q22 bq24 : Int) : Option Bool :=
  lr (selC f131C [1, 1, 1, 1, 0, 1, 0, 0, 1, 1, 0, 0, 1, 1, 0, 0]) (f131_fr23 a0 a1 a2 q7 q8 q22 y1 y12 bq24) (f131_k23 K a0 a1 a2 q7 q8 y1 y12 F21 bq22 lr)
def f85E : Env := eE K [(130, f130M K), (131, f131M K)] [0, 1, 2, 4, 6, 7, 9, 14, 16, 17, 18, 19, 26]
def f85_b4 (a0 : Int) (a1 : Int × Int × Int) (a2 : List (List tM)) (y1 : Int) (L4 : Int → Option Int) (q5 : Int) : Option Int :=
  (bif (decide (q5 < (a2.length : Int))) then (bif (decide (0 ≤ q5) && decide (q5 < (a2.length : Int))) then (f131G K a0 a1 (a2.getD ((0 : Int) + q5).toNat [])).bind fun y6 => (bif (!y6) then some (2 : Int) else L4 (w (q5 + (1 : Int)))) else none) else some (0 : Int))
def f85_l4 (a0 : Int) (a1 : Int × Int × Int) (a2 : List (List tM)) (y1 : Int) (n : Nat) (q5 : Int) : Option Int :=
  iter (X := Int) (fun L x => f85_b4 K a0 a1 a2 y1 (fun v0 => L v0) x) n q5
def f85_g (a0 : Int) (a1 : Int × Int × Int) (a2 : List (List tM)) (I4 : Int → Int → Option Int) : Option Int :=
  (f130G K a0 a1).bind fun y1 => (bif (y1 != (0 : Int)) then some y1 else I4 y1 (0 : Int))
def f85G (a0 : Int) (a1 : Int × Int × Int) (a2 : List (List tM)) : Option Int :=
  f85_g K a0 a1 a2 (fun c0 d0 => f85_l4 K a0 a1 a2 c0 K d0)
def f85M : Mdl := ⟨[(.ro, sI), (.ro, sL), (.ro, (.list 22 (.list 49 sM)))], [sI], fun x => f85G K x.1 x.2.1 x.2.2.1⟩
def f85_k4 (a0 : Int) (a1 : Int × Int × Int) (a2 : List (List tM)) (lr : LR Int) : Ex → Fr → Option Int :=
  contC (f85E K) 1 lr f85C [1, 1, 0, 1, 0] (fM (f85E K) Tryz.f85 (f85M K) (a0, a1, a2, ()))
def f85_j4 (a0 : Int) (a1 : Int × Int × Int) (a2 : List (List tM)) (lr : LR Int) (y1 bq5 : Int) : Option Int :=
  lr (selC f85C [1, 1, 0, 1, 0, 0]) (f85_fr4 a0 a1 a2 y1 bq5) (f85_k4 K a0 a1 a2 lr)
def f51E : Env := eE K [(87, f87M K)] [0, 2]
def f51G (a0 : Int) : Option Bool :=
  (f87G K a0 (0 : Int) (9 : Int)).bind fun y1 => some y1
def f51M : Mdl := ⟨[(.ro, sI)], [.bool], fun x => f51G K x.1⟩
def f133E : Env := eE K [(51, f51M K), (127, f127M K)] [0, 1, 2]
def f133G (a0 : tV × Int) : Option Bool :=
  (f127G K a0.1).bind fun y1 => ((bif (!(!y1)) then f51G K a0.2 else some false)).bind fun y2 => some (bif (!y1) then true else (!y2))
def f133M : Mdl := ⟨[(.ro, (.cons sV sI))], [.bool], fun x => f133G K x.1⟩
def f173E : Env := eE K [] [0, 1, 4, 5, 7, 8, 9, 16]
def f173_b3 (K : Nat) (a0 : List (tV × Int)) (a1 : ((tV × Int) → Option Bool)) (L3 : Int → Option Int) (q4 : Int) : Option Int :=
  (bif (decide (q4 < (a0.length : Int))) then (bif (decide (0 ≤ q4) && decide (q4 < (a0.length : Int))) then (a1 (((a0.getD ((0 : Int) + q4).toNat (((0 : Int), (0 : Int)), (0 : Int))).1), (a0.getD ((0 : Int) + q4).toNat (((0 : Int), (0 : Int)), (0 : Int))).2)).bind fun y5 => (bif y5 then some q4 else L3 (w (q4 + (1 : Int)))) else none) else some (-1 : Int))
def f173_l3 (a0 : List (tV × Int)) (a1 : ((tV × Int) → Option Bool)) (n : Nat) (q4 : Int) : Option Int :=
  iter (X := Int) (fun L x => f173_b3 K a0 a1 (fun v0 => L v0) x) n q4
def f173_g (K : Nat) (a0 : List (tV × Int)) (a1 : ((tV × Int) → Option Bool)) (I3 : Int → Option Int) : Option Int :=
  I3 (0 : Int)
def f173G (a0 : List (tV × Int)) (a1 : ((tV × Int) → Option Bool)) : Option Int :=
  f173_g K a0 a1 (fun d0 => f173_l3 K a0 a1 K d0)
def f173M : Mdl := ⟨[(.ro, (.list 82 (.cons sV sI))), (.ro, (.fn1 (.cons sV sI) .bool))], [sI], fun x => f173G K x.1 x.2.1⟩
def f173_k3 (a0 : List (tV × Int)) (a1 : ((tV × Int) → Option Bool)) (lr : LR Int) : Ex → Fr → Option Int :=
  contC (f173E K) 1 lr f173C [1, 0, 1, 0] (fM (f173E K) Tryz.f173 (f173M K) (a0, a1, ()))
def f173_j3 (a0 : List (tV × Int)) (a1 : ((tV × Int) → Option Bool)) (lr : LR Int) (bq4 : Int) : Option Int :=
  lr (selC f173C [1, 0, 1, 0, 0]) (f173_fr3 a0 a1 bq4) (f173_k3 K a0 a1 lr)
def f132E : Env := eE K [(173, f173M K)] [0, 1, 4]
def f132G (a0 : List (tV × Int)) (a1 : ((tV × Int) → Option Bool)) : Option Bool :=
  (f173G K a0 a1).bind fun y1 => some (decide (y1 ≥ (0 : Int)))
def f132M : Mdl := ⟨[(.ro, (.list 82 (.cons sV sI))), (.ro, (.fn1 (.cons sV sI) .bool))], [.bool], fun x => f132G K x.1 x.2.1⟩
def f86E : Env := ⟨[(132, f132M K), (133, f133M K)], tys, eqs, mts, K, [0, 2], [], [], [], [], [(133, f133M K)], [], false⟩
def f86G (a0 : List (tV × Int)) : Option Bool :=
  ((bif (decide ((a0.length : Int) ≤ (40 : Int))) then f132G K a0 (fun z1 => f133G K z1) else some false)).bind fun y2 => some (bif (decide ((a0.length : Int) ≤ (40 : Int))) then (!y2) else false)
def f86M : Mdl := ⟨[(.ro, (.list 82 (.cons sV sI)))], [.bool], fun x => f86G K x.1⟩
def f50E : Env := eE K [(85, f85M K), (86, f86M K)] [0, 1, 2, 3, 5, 8, 9, 16, 20]
def f50G (a0 : Int) (a1 : Int × Int × Int) (a2 : List tM) (a3 : List (tV × Int)) : Option Int :=
  (f85G K a0 a1 [a2]).bind fun y1 => (bif (y1 != (0 : Int)) then some y1 else (f86G K a3).bind fun y2 => (bif (!y2) then some (2 : Int) else some (0 : Int)))
def f50M : Mdl := ⟨[(.ro, sI), (.ro, sL), (.ro, (.list 49 sM)), (.ro, (.list 82 (.cons sV sI)))], [sI], fun x => f50G K x.1 x.2.1 x.2.2.1 x.2.2.2.1⟩
omit K
def f174G (K : Nat) (a0 a1 : Int) : Option tV := mulF a0 a1
def f174M (K : Nat) : Mdl := ⟨[(.ro, (.int .u64)), (.ro, (.int .u64))], [(.int .u64), (.int .u64)], fun x => f174G K x.1 x.2.1⟩
include K
def f134E : Env := eE K [(174, f174M K)] [0, 1, 4, 5, 6, 7, 8, 10, 26, 37]
def f134_b3 (K : Nat) (a0 : List Int) (a1 : Int) (y1 : Int × Int) (L3 : Int → (List Int) → Option (List Int)) (q4 : Int) (q5 : List Int) : Option (List Int) :=
  (bif (decide (q4 < (q5.length : Int))) then (bif (decide (0 ≤ q4) && decide (q4 ≤ (q5.length : Int)) && decide ((q5.length : Int) ≤ (q5.length : Int))) then (bif (decide (0 ≤ (0 : Int)) && decide ((0 : Int) ≤ q4) && decide (q4 ≤ (q5.length : Int))) then L3 (w (q4 + (bif decide ((((0 : Int) + (q5.length : Int)) - ((0 : Int) + q4)) ≤ (((0 : Int) + q4) - (0 : Int))) then (((0 : Int) + (q5.length : Int)) - ((0 : Int) + q4)) else (((0 : Int) + q4) - (0 : Int))))) (q5.take ((0 : Int) + q4).toNat ++ ((q5.take ((0 : Int) + (((0 : Int) + q4) - (0 : Int))).toNat).drop 0).take (bif decide ((((0 : Int) + (q5.length : Int)) - ((0 : Int) + q4)) ≤ (((0 : Int) + q4) - (0 : Int))) then (((0 : Int) + (q5.length : Int)) - ((0 : Int) + q4)) else (((0 : Int) + q4) - (0 : Int))).toNat ++ q5.drop (((0 : Int) + q4).toNat + (bif decide ((((0 : Int) + (q5.length : Int)) - ((0 : Int) + q4)) ≤ (((0 : Int) + q4) - (0 : Int))) then (((0 : Int) + (q5.length : Int)) - ((0 : Int) + q4)) else (((0 : Int) + q4) - (0 : Int))).toNat)) else none) else none) else some q5)
def f134_l3 (a0 : List Int) (a1 : Int) (y1 : Int × Int) (n : Nat) (q4 : Int) (q5 : List Int) : Option (List Int) :=
  iter (X := Int × List Int) (fun L x => f134_b3 K a0 a1 y1 (fun v0 v1 => L (v0, v1)) x.1 x.2) n (q4, q5)
def f134_g (a0 : List Int) (a1 : Int) (I3 : tV → Int → (List Int) → Option (List Int)) : Option (List Int) :=
  (bif (decide (a1 < (0 : Int))) then none else (f174G K (IntKind.u64.wrap (a0.length : Int)) (IntKind.u64.wrap a1)).bind fun y1 => (bif (bif (decide (y1.1 > (0 : Int))) then true else (decide (y1.2 > (9223372036854775807 : Int)))) then none else (bif (decide (0 ≤ (w y1.2)) && Nat.ble (w y1.2).toNat (lim 8) && ((w y1.2) == (w y1.2))) then I3 y1 (bif decide (((List.replicate (w y1.2).toNat (0 : Int)).length : Int) ≤ (a0.length : Int)) then ((List.replicate (w y1.2).toNat (0 : Int)).length : Int) else (a0.length : Int)) ((List.replicate (w y1.2).toNat (0 : Int)).take 0 ++ ((a0.take ((0 : Int) + (a0.length : Int)).toNat).drop 0).take (bif decide (((List.replicate (w y1.2).toNat (0 : Int)).length : Int) ≤ (a0.length : Int)) then ((List.replicate (w y1.2).toNat (0 : Int)).length : Int) else (a0.length : Int)).toNat ++ (List.replicate (w y1.2).toNat (0 : Int)).drop (0 + (bif decide (((List.replicate (w y1.2).toNat (0 : Int)).length : Int) ≤ (a0.length : Int)) then ((List.replicate (w y1.2).toNat (0 : Int)).length : Int) else (a0.length : Int)).toNat)) else none)))
def f134G (a0 : List Int) (a1 : Int) : Option (List Int) :=
  f134_g K a0 a1 (fun c0 d0 d1 => f134_l3 K a0 a1 c0 K d0 d1)
def f134M : Mdl := ⟨[(.ro, (.list 2 sI)), (.ro, sI)], [(.list 2 sI)], fun x => f134G K x.1 x.2.1⟩
def f134_k3 (a0 : List Int) (a1 : Int) (lr : LR (List Int)) : Ex → Fr → Option (List Int) :=
  contC (f134E K) 1 lr f134C [1, 1, 1, 1, 1, 1, 0, 0] (fM (f134E K) Tryz.f134 (f134M K) (a0, a1, ()))
def f134_j3 (a0 : List Int) (a1 : Int) (lr : LR (List Int)) (y1 : Int × Int) (bq4 : Int) (bq5 : List Int) : Option (List Int) :=
  lr (selC f134C [1, 1, 1, 1, 1, 1, 0, 0, 0]) (f134_fr3 a0 a1 y1 bq4 bq5) (f134_k3 K a0 a1 lr)
def f54E : Env := eE K [] [0, 1, 2, 3, 4, 5, 8, 9, 10, 13, 14, 15]
def f54_b9 (K : Nat) (a0 : Int × Int × Int) (q7 : Int) (L6 L9 : Int → (List tV) → Option (List tV)) (q10 : Int) (q11 : List tV) : Option (List tV) :=
  (bif (decide (q10 < a0.2.2)) then (bif (Nat.ble (q11.length + [(q7, q10)].length) (lim 16)) then L9 (w (q10 + (1 : Int))) (q11 ++ [(q7, q10)]) else none) else L6 (w (q7 + (1 : Int))) q11)
def f54_l9 (a0 : Int × Int × Int) (q7 : Int) (L6 : Int → (List tV) → Option (List tV)) (n : Nat) (q10 : Int) (q11 : List tV) : Option (List tV) :=
  iter (X := Int × List tV) (fun L x => f54_b9 K a0 q7 L6 (fun v0 v1 => L (v0, v1)) x.1 x.2) n (q10, q11)
def f54_b6 (K : Nat) (a0 : Int × Int × Int) (I9 : Int → Int → (List tV) → Option (List tV)) (L6 : Int → (List tV) → Option (List tV)) (q7 : Int) (q8 : List tV) : Option (List tV) :=
  (bif (decide (q7 < a0.1)) then I9 q7 (0 : Int) q8 else some q8)
def f54_l6 (a0 : Int × Int × Int) (n : Nat) (q7 : Int) (q8 : List tV) : Option (List tV) :=
  iter (X := Int × List tV) (fun L x => (fun L6 => f54_b6 K a0 (fun c0 d0 d1 => f54_l9 K a0 c0 L6 K d0 d1) L6 x.1 x.2) (fun v0 v1 => L (v0, v1))) n (q7, q8)
def f54_g (K : Nat) (a0 : Int × Int × Int) (I6 : Int → (List tV) → Option (List tV)) : Option (List tV) :=
  I6 (0 : Int) []
def f54G (a0 : Int × Int × Int) : Option (List tV) :=
  f54_g K a0 (fun d0 d1 => f54_l6 K a0 K d0 d1)
def f54M : Mdl := ⟨[(.ro, sL)], [(.list 47 sV)], fun x => f54G K x.1⟩
def f54_k6 (a0 : Int × Int × Int) (lr : LR (List tV)) : Ex → Fr → Option (List tV) :=
  contC (f54E K) 0 lr f54C [1, 1, 0, 1, 0] (fM (f54E K) Tryz.f54 (f54M K) (a0, ()))
def f54_j6 (a0 : Int × Int × Int) (lr : LR (List tV)) (bq7 : Int) (bq8 : List tV) : Option (List tV) :=
  lr (selC f54C [1, 1, 0, 1, 0, 0]) (f54_fr6 a0 bq7 bq8) (f54_k6 K a0 lr)
def f54_k9 (a0 : Int × Int × Int) (F6 : Fr → Option (List tV)) (bq7 : Int) (bq8 : List tV) (lr : LR (List tV)) : Ex → Fr → Option (List tV) :=
  contC (f54E K) 0 lr (selC f54C [1, 1, 0, 1, 0, 0]) [1, 1, 0, 0, 1, 1, 0] (loopK 0 (f54_fr6 a0 bq7 bq8) F6 (f54_k6 K a0 lr))
def f54_j9 (a0 : Int × Int × Int) (F6 : Fr → Option (List tV)) (bq7 : Int) (bq8 : List tV) (lr : LR (List tV)) (q7 bq10 : Int) (bq11 : List tV) : Option (List tV) :=
  lr (selC f54C [1, 1, 0, 1, 0, 0, 1, 1, 0, 0, 1, 1, 0, 0]) (f54_fr9 a0 q7 bq10 bq11) (f54_k9 K a0 F6 bq7 bq8 lr)
def f57E : Env := eE K [] [0, 1, 2, 3, 4]
def f57G (K : Nat) (a0 : Int × Int × Int) (a1 : Int × Int) : Option Int :=
  some (w ((w (a1.1 * a0.2.2)) + a1.2))
def f57M : Mdl := ⟨[(.ro, sL), (.ro, sV)], [sI], fun x => f57G K x.1 x.2.1⟩
def f135E : Env := eE K [(97, f97M K), (98, f98M K)] [0, 1, 2, 3, 4]
def f135G (a0 : tA × Int × Int) (a1 : Int × Int) : Option tV :=
  (f97G K a0.1 a1).bind fun y1 => (f98G K y1 a0.2).bind fun y2 => some y2
def f135M : Mdl := ⟨[(.ro, sM), (.ro, sV)], [sV], fun x => f135G K x.1 x.2.1⟩
def f91E : Env := eE K [(56, f56M K), (135, f135M K)] [0, 1, 2, 3, 4, 5, 6]
def f91G (a0 : Int × Int × Int) (a1 : tA × Int × Int) (a2 : Int × Int) : Option tV :=
  (f135G K a1 a2).bind fun y1 => (f56G K a0 y1).bind fun y2 => some y2
def f91M : Mdl := ⟨[(.ro, sL), (.ro, sM), (.ro, sV)], [sV], fun x => f91G K x.1 x.2.1 x.2.2.1⟩
omit K
def f92G (K : Nat) (a0 : List tV) (a1 : tV → tV → Option Int) : Option (List tV) := sortF sV a0 a1
def f92M (K : Nat) : Mdl := ⟨[(.io, (.list 47 sV)), (.ro, (.fn2 sV sV sI))], [], fun x => f92G K x.1 x.2.1⟩
include K
def f94E : Env := eE K [] [0, 2, 3, 4, 5, 8, 13, 25, 32, 44]
def f94_b9 (K : Nat) (a0 : List tV) (q8 : Int) (L9 : Int → Int → (List tV) → Option (List tV)) (q10 q11 : Int) (q12 : List tV) : Option (List tV) :=
  (bif (decide (q11 < (((0 : Int) + (a0.length : Int)) - ((0 : Int) + q8)))) then (bif (decide (0 ≤ q11) && decide (q11 < (((0 : Int) + (a0.length : Int)) - ((0 : Int) + q8)))) then (bif (decide (0 ≤ (w (q11 - (1 : Int)))) && decide ((w (q11 - (1 : Int))) < (((0 : Int) + (a0.length : Int)) - ((0 : Int) + q8)))) then (bif (!(((q12.getD (((0 : Int) + q8) + q11).toNat ((0 : Int), (0 : Int))).1 == (q12.getD (((0 : Int) + q8) + (w (q11 - (1 : Int)))).toNat ((0 : Int), (0 : Int))).1) && ((q12.getD (((0 : Int) + q8) + q11).toNat ((0 : Int), (0 : Int))).2 == (q12.getD (((0 : Int) + q8) + (w (q11 - (1 : Int)))).toNat ((0 : Int), (0 : Int))).2))) then (bif (decide (0 ≤ q11) && decide (q11 < (((0 : Int) + (a0.length : Int)) - ((0 : Int) + q8)))) then (bif (decide (0 ≤ q10) && decide (q10 < (q12.length : Int))) then L9 (w (q10 + (1 : Int))) (w (q11 + (1 : Int))) (q12.set ((0 : Int) + q10).toNat (q12.getD (((0 : Int) + q8) + q11).toNat ((0 : Int), (0 : Int)))) else none) else none) else L9 q10 (w (q11 + (1 : Int))) q12) else none) else none) else (bif (decide (0 ≤ q10) && decide (q10 ≤ (q12.length : Int)) && decide ((q12.length : Int) ≤ (q12.length : Int))) then (bif (decide (0 ≤ (0 : Int)) && decide ((0 : Int) ≤ q10) && decide (q10 ≤ ((clr q12 ((0 : Int) + q10).toNat (((0 : Int) + q10) + (((0 : Int) + (q12.length : Int)) - ((0 : Int) + q10))).toNat ((0 : Int), (0 : Int))).length : Int))) then some ((clr q12 ((0 : Int) + q10).toNat (((0 : Int) + q10) + (((0 : Int) + (q12.length : Int)) - ((0 : Int) + q10))).toNat ((0 : Int), (0 : Int))).take ((0 : Int) + q10).toNat) else none) else none))
def f94_l9 (a0 : List tV) (q8 : Int) (n : Nat) (q10 q11 : Int) (q12 : List tV) : Option (List tV) :=
  iter (X := Int × Int × List tV) (fun L x => f94_b9 K a0 q8 (fun v0 v1 v2 => L (v0, v1, v2)) x.1 x.2.1 x.2.2) n (q10, q11, q12)
def f94_b7 (K : Nat) (a0 : List tV) (I9 : Int → Int → Int → (List tV) → Option (List tV)) (L7 : Int → Option (List tV)) (q8 : Int) : Option (List tV) :=
  (bif (decide (q8 < (a0.length : Int))) then (bif (decide (0 ≤ q8) && decide (q8 < (a0.length : Int))) then (bif (decide (0 ≤ (w (q8 - (1 : Int)))) && decide ((w (q8 - (1 : Int))) < (a0.length : Int))) then (bif (((a0.getD ((0 : Int) + q8).toNat ((0 : Int), (0 : Int))).1 == (a0.getD ((0 : Int) + (w (q8 - (1 : Int)))).toNat ((0 : Int), (0 : Int))).1) && ((a0.getD ((0 : Int) + q8).toNat ((0 : Int), (0 : Int))).2 == (a0.getD ((0 : Int) + (w (q8 - (1 : Int)))).toNat ((0 : Int), (0 : Int))).2)) then (bif (decide (0 ≤ q8) && decide (q8 ≤ (a0.length : Int)) && decide ((a0.length : Int) ≤ (a0.length : Int))) then I9 q8 q8 (1 : Int) a0 else none) else L7 (w (q8 + (1 : Int)))) else none) else none) else some a0)
def f94_l7 (a0 : List tV) (n : Nat) (q8 : Int) : Option (List tV) :=
  iter (X := Int) (fun L x => f94_b7 K a0 (fun c0 d0 d1 d2 => f94_l9 K a0 c0 K d0 d1 d2) (fun v0 => L v0) x) n q8
def f94_g (K : Nat) (a0 : List tV) (I7 : Int → Option (List tV)) : Option (List tV) :=
  (bif (decide ((a0.length : Int) < (2 : Int))) then some a0 else I7 (1 : Int))
def f94G (a0 : List tV) : Option (List tV) :=
  f94_g K a0 (fun d0 => f94_l7 K a0 K d0)
def f94M : Mdl := ⟨[(.mv, (.list 47 sV))], [(.list 47 sV)], fun x => f94G K x.1⟩
def f94_k7 (a0 : List tV) (lr : LR (List tV)) : Ex → Fr → Option (List tV) :=
  contC (f94E K) 1 lr f94C [1, 1, 0, 1, 0] (fM (f94E K) Tryz.f94 (f94M K) (a0, ()))
def f94_j7 (a0 : List tV) (lr : LR (List tV)) (bq8 : Int) : Option (List tV) :=
  lr (selC f94C [1, 1, 0, 1, 0, 0]) (f94_fr7 a0 bq8) (f94_k7 K a0 lr)
def f94_k9 (a0 : List tV) (F7 : Fr → Option (List tV)) (bq8 : Int) (lr : LR (List tV)) : Ex → Fr → Option (List tV) :=
  contC (f94E K) 1 lr (selC f94C [1, 1, 0, 1, 0, 0]) [1, 0, 0, 1, 0, 1, 0, 1, 0] (loopK 1 (f94_fr7 a0 bq8) F7 (f94_k7 K a0 lr))
def f94_j9 (a0 : List tV) (F7 : Fr → Option (List tV)) (bq8 : Int) (lr : LR (List tV)) (q8 bq10 bq11 : Int) (bq12 : List tV) : Option (List tV) :=
  lr (selC f94C [1, 1, 0, 1, 0, 0, 1, 0, 0, 1, 0, 1, 0, 1, 0, 0]) (f94_fr9 a0 q8 bq10 bq11 bq12) (f94_k9 K a0 F7 bq8 lr)
def f55E : Env := ⟨[(91, f91M K), (92, f92M K), (93, f93M K), (94, f94M K)], tys, eqs, mts, K, [0, 1, 2, 3, 5, 6, 7, 9, 11, 12, 13, 14], [], [], [], [], [(93, f93M K)], [], false⟩
def f55_b3 (a0 : Int × Int × Int) (a1 : List tM) (a2 : Int × Int) (L3 : Int → (List tV) → Option (List tV)) (q4 : Int) (q5 : List tV) : Option (List tV) :=
  (bif (decide (q4 < (a1.length : Int))) then (bif (decide (0 ≤ q4) && decide (q4 < (a1.length : Int))) then (f91G K a0 ((((a1.getD ((0 : Int) + q4).toNat zM).1).1, (((a1.getD ((0 : Int) + q4).toNat zM).1).2).1, ((((a1.getD ((0 : Int) + q4).toNat zM).1).2).2)), ((a1.getD ((0 : Int) + q4).toNat zM).2)) a2).bind fun y6 => (bif (Nat.ble (q5.length + [y6].length) (lim 16)) then L3 (w (q4 + (1 : Int))) (q5 ++ [y6]) else none) else none) else (f92G K q5 (fun z7 z8 => f93G K z7 z8)).bind fun y9 => (f94G K y9).bind fun y10 => some y10)
def f55_l3 (a0 : Int × Int × Int) (a1 : List tM) (a2 : Int × Int) (n : Nat) (q4 : Int) (q5 : List tV) : Option (List tV) :=
  iter (X := Int × List tV) (fun L x => f55_b3 K a0 a1 a2 (fun v0 v1 => L (v0, v1)) x.1 x.2) n (q4, q5)
def f55_g (K : Nat) (a0 : Int × Int × Int) (a1 : List tM) (a2 : Int × Int) (I3 : Int → (List tV) → Option (List tV)) : Option (List tV) :=
  I3 (0 : Int) []
def f55G (a0 : Int × Int × Int) (a1 : List tM) (a2 : Int × Int) : Option (List tV) :=
  f55_g K a0 a1 a2 (fun d0 d1 => f55_l3 K a0 a1 a2 K d0 d1)
def f55M : Mdl := ⟨[(.ro, sL), (.ro, (.list 49 sM)), (.ro, sV)], [(.list 47 sV)], fun x => f55G K x.1 x.2.1 x.2.2.1⟩
def f55_k3 (a0 : Int × Int × Int) (a1 : List tM) (a2 : Int × Int) (lr : LR (List tV)) : Ex → Fr → Option (List tV) :=
  contC (f55E K) 1 lr f55C [1, 1, 0, 1, 0] (fM (f55E K) Tryz.f55 (f55M K) (a0, a1, a2, ()))
def f55_j3 (a0 : Int × Int × Int) (a1 : List tM) (a2 : Int × Int) (lr : LR (List tV)) (bq4 : Int) (bq5 : List tV) : Option (List tV) :=
  lr (selC f55C [1, 1, 0, 1, 0, 0]) (f55_fr3 a0 a1 a2 bq4 bq5) (f55_k3 K a0 a1 a2 lr)
def f88E : Env := eE K [(54, f54M K), (55, f55M K), (57, f57M K), (90, f90M K), (134, f134M K)] [0, 1, 2, 4, 5, 6, 7, 9, 10, 12, 19, 20, 21, 22, 31, 36, 37, 38, 39]
def f88_b22 (a0 : Int × Int × Int) (a1 : List tM) (q17 : Int) (q18 : List (List tV)) (q19 : List Int) (y3 : List tV) (y20 : Int) (y21 : List tV) (L16 : Int → (List (List tV)) → (List Int) → Option ((List (List tV)) × List Int)) (L22 : Int → (List Int) → Option ((List (List tV)) × List Int)) (q23 : Int) (q24 : List Int) : Option ((List (List tV)) × List Int) :=
  (bif (decide (q23 < (y21.length : Int))) then (bif (decide (0 ≤ q23) && decide (q23 < (y21.length : Int))) then (f57G K a0 (y21.getD ((0 : Int) + q23).toNat ((0 : Int), (0 : Int)))).bind fun y25 => (bif (decide (0 ≤ y25) && decide (y25 < (q24.length : Int))) then L22 (w (q23 + (1 : Int))) (q24.set ((0 : Int) + y25).toNat (q18.length : Int)) else none) else none) else (bif (Nat.ble (q18.length + [y21].length) (lim 24)) then L16 (w (q17 + (1 : Int))) (q18 ++ [y21]) q24 else none))
def f88_l22 (a0 : Int × Int × Int) (a1 : List tM) (q17 : Int) (q18 : List (List tV)) (q19 : List Int) (y3 : List tV) (y20 : Int) (y21 : List tV) (L16 : Int → (List (List tV)) → (List Int) → Option ((List (List tV)) × List Int)) (n : Nat) (q23 : Int) (q24 : List Int) : Option ((List (List tV)) × List Int) :=
  iter (X := Int × List Int) (fun L x => f88_b22 K a0 a1 q17 q18 q19 y3 y20 y21 L16 (fun v0 v1 => L (v0, v1)) x.1 x.2) n (q23, q24)
def f88_b16 (a0 : Int × Int × Int) (a1 : List tM) (y3 : List tV) (I22 : Int → (List (List tV)) → (List Int) → Int → (List tV) → Int → (List Int) → Option ((List (List tV)) × List Int)) (L16 : Int → (List (List tV)) → (List Int) → Option ((List (List tV)) × List Int)) (q17 : Int) (q18 : List (List tV)) (q19 : List Int) : Option ((List (List tV)) × List Int) :=
  (bif (decide (q17 < (y3.length : Int))) then (bif (decide (0 ≤ q17) && decide (q17 < (y3.length : Int))) then (f57G K a0 (y3.getD ((0 : Int) + q17).toNat ((0 : Int), (0 : Int)))).bind fun y20 => (bif (decide (0 ≤ y20) && decide (y20 < (q19.length : Int))) then (bif (decide ((q19.getD ((0 : Int) + y20).toNat (0 : Int)) ≥ (0 : Int))) then L16 (w (q17 + (1 : Int))) q18 q19 else (f55G K a0 a1 (y3.getD ((0 : Int) + q17).toNat ((0 : Int), (0 : Int)))).bind fun y21 => I22 q17 q18 q19 y20 y21 (0 : Int) q19) else none) else none) else some (q18, q19))
def f88_l16 (a0 : Int × Int × Int) (a1 : List tM) (y3 : List tV) (n : Nat) (q17 : Int) (q18 : List (List tV)) (q19 : List Int) : Option ((List (List tV)) × List Int) :=
  iter (X := Int × List (List tV) × List Int) (fun L x => (fun L16 => f88_b16 K a0 a1 y3 (fun c0 c1 c2 c3 c4 d0 d1 => f88_l22 K a0 a1 c0 c1 c2 y3 c3 c4 L16 K d0 d1) L16 x.1 x.2.1 x.2.2) (fun v0 v1 v2 => L (v0, v1, v2))) n (q17, q18, q19)
def f88_g (a0 : Int × Int × Int) (a1 : List tM) (I16 : (List tV) → Int → (List (List tV)) → (List Int) → Option ((List (List tV)) × List Int)) : Option ((List (List tV)) × List Int) :=
  (f90G K a0).bind fun y1 => (f134G K [(-1 : Int)] y1).bind fun y2 => (f54G K a0).bind fun y3 => I16 y3 (0 : Int) [] y2
def f88G (a0 : Int × Int × Int) (a1 : List tM) : Option ((List (List tV)) × List Int) :=
  f88_g K a0 a1 (fun c0 d0 d1 d2 => f88_l16 K a0 a1 c0 K d0 d1 d2)
def f88M : Mdl := ⟨[(.ro, sL), (.ro, (.list 49 sM))], [(.list 86 (.list 47 sV)), (.list 2 sI)], fun x => f88G K x.1 x.2.1⟩
def f88_k16 (a0 : Int × Int × Int) (a1 : List tM) (lr : LR ((List (List tV)) × List Int)) : Ex → Fr → Option ((List (List tV)) × List Int) :=
  contC (f88E K) 1 lr f88C [1, 1, 0, 1, 0] (fM (f88E K) Tryz.f88 (f88M K) (a0, a1, ()))
def f88_j16 (a0 : Int × Int × Int) (a1 : List tM) (lr : LR ((List (List tV)) × List Int)) (y3 : List tV) (bq17 : Int) (bq18 : List (List tV)) (bq19 : List Int) : Option ((List (List tV)) × List Int) :=
  lr (selC f88C [1, 1, 0, 1, 0, 0]) (f88_fr16 a0 a1 y3 bq17 bq18 bq19) (f88_k16 K a0 a1 lr)
def f88_k22 (a0 : Int × Int × Int) (a1 : List tM) (y3 : List tV) (F16 : Fr → Option ((List (List tV)) × List Int)) (bq17 : Int) (bq18 : List (List tV)) (bq19 : List Int) (lr : LR ((List (List tV)) × List Int)) : Ex → Fr → Option ((List (List tV)) × List Int) :=
  contC (f88E K) 1 lr (selC f88C [1, 1, 0, 1, 0, 0]) [1, 1, 0, 0, 1, 1, 1, 0, 1, 0] (loopK 1 (f88_fr16 a0 a1 y3 bq17 bq18 bq19) F16 (f88_k16 K a0 a1 lr))
def f88_j22 (a0 : Int × Int × Int) (a1 : List tM) (y3 : List tV) (F16 : Fr → Option ((List (List tV)) × List Int)) (bq17 : Int) (bq18 : List (List tV)) (bq19 : List Int) (lr : LR ((List (List tV)) × List Int)) (q17 : Int) (q18 : List (List tV)) (q19 : List Int) (y20 : Int) (y21 : List tV) (bq23 : Int) (bq24 : List Int) : Option ((List (List tV)) × List Int) :=
  lr (selC f88C [1, 1, 0, 1, 0, 0, 1, 1, 0, 0, 1, 1, 1, 0, 1, 0, 0]) (f88_fr22 a0 a1 q17 q18 q19 y3 y20 y21 bq23 bq24) (f88_k22 K a0 a1 y3 F16 bq17 bq18 bq19 lr)
def f89E : Env := eE K [(56, f56M K), (57, f57M K)] [0, 1, 2, 3, 4]
def f89G (a0 : tV × Int) (a1 : List Int) (a2 : Int × Int × Int) : Option Int :=
  (f56G K a2 a0.1).bind fun y1 => (f57G K a2 y1).bind fun y2 => (bif (decide (0 ≤ y2) && decide (y2 < (a1.length : Int))) then some (a1.getD ((0 : Int) + y2).toNat (0 : Int)) else none)
def f89M : Mdl := ⟨[(.ro, (.cons sV sI)), (.cap, (.list 2 sI)), (.cap, sL)], [sI], fun x => f89G K x.1 x.2.1 x.2.2.1⟩
def f52E : Env := eE K [(88, f88M K), (89, f89M K)] [0, 1, 2, 3, 6, 7, 8, 10, 11, 12, 13, 14, 15, 23, 24, 25, 26, 32, 33, 34, 35, 52]
def f52_b12 (a0 : Int × Int × Int) (a1 : List tM) (a2 : List (tV × Int)) (q11 : Int) (y1 : (List (List tV)) × List Int) (L10 L12 : Int → Option (Int × Int × Bool)) (q13 : Int) : Option (Int × Int × Bool) :=
  (bif (decide (q13 < (((0 : Int) + q11) - (0 : Int)))) then (bif (decide (0 ≤ q13) && decide (q13 < (((0 : Int) + q11) - (0 : Int)))) then ((bif ((a2.getD ((0 : Int) + q13).toNat (((0 : Int), (0 : Int)), (0 : Int))).2 != (a2.getD ((0 : Int) + q11).toNat (((0 : Int), (0 : Int)), (0 : Int))).2) then f89G K (((a2.getD ((0 : Int) + q13).toNat (((0 : Int), (0 : Int)), (0 : Int))).1), (a2.getD ((0 : Int) + q13).toNat (((0 : Int), (0 : Int)), (0 : Int))).2) y1.2 a0 else some (0 : Int))).bind fun y14 => ((bif ((a2.getD ((0 : Int) + q13).toNat (((0 : Int), (0 : Int)), (0 : Int))).2 != (a2.getD ((0 : Int) + q11).toNat (((0 : Int), (0 : Int)), (0 : Int))).2) then f89G K (((a2.getD ((0 : Int) + q11).toNat (((0 : Int), (0 : Int)), (0 : Int))).1), (a2.getD ((0 : Int) + q11).toNat (((0 : Int), (0 : Int)), (0 : Int))).2) y1.2 a0 else some (0 : Int))).bind fun y15 => (bif (bif ((a2.getD ((0 : Int) + q13).toNat (((0 : Int), (0 : Int)), (0 : Int))).2 != (a2.getD ((0 : Int) + q11).toNat (((0 : Int), (0 : Int)), (0 : Int))).2) then (y14 == y15) else false) then some (q13, q11, true) else L12 (w (q13 + (1 : Int)))) else none) else L10 (w (q11 + (1 : Int))))
def f52_l12 (a0 : Int × Int × Int) (a1 : List tM) (a2 : List (tV × Int)) (q11 : Int) (y1 : (List (List tV)) × List Int) (L10 : Int → Option (Int × Int × Bool)) (n : Nat) (q13 : Int) : Option (Int × Int × Bool) :=
  iter (X := Int) (fun L x => f52_b12 K a0 a1 a2 q11 y1 L10 (fun v0 => L v0) x) n q13
def f52_b10 (K : Nat) (a0 : Int × Int × Int) (a1 : List tM) (a2 : List (tV × Int)) (y1 : (List (List tV)) × List Int) (I12 : Int → Int → Option (Int × Int × Bool)) (L10 : Int → Option (Int × Int × Bool)) (q11 : Int) : Option (Int × Int × Bool) :=
  (bif (decide (q11 < (a2.length : Int))) then (bif (decide (0 ≤ q11) && decide (q11 < (a2.length : Int))) then (bif (decide (0 ≤ (0 : Int)) && decide ((0 : Int) ≤ q11) && decide (q11 ≤ (a2.length : Int))) then I12 q11 (0 : Int) else none) else none) else some ((0 : Int), (0 : Int), false))
def f52_l10 (a0 : Int × Int × Int) (a1 : List tM) (a2 : List (tV × Int)) (y1 : (List (List tV)) × List Int) (n : Nat) (q11 : Int) : Option (Int × Int × Bool) :=
  iter (X := Int) (fun L x => (fun L10 => f52_b10 K a0 a1 a2 y1 (fun c0 d0 => f52_l12 K a0 a1 a2 c0 y1 L10 K d0) L10 x) (fun v0 => L v0)) n q11
def f52_g (a0 : Int × Int × Int) (a1 : List tM) (a2 : List (tV × Int)) (I10 : ((List (List tV)) × List Int) → Int → Option (Int × Int × Bool)) : Option (Int × Int × Bool) :=
  (f88G K a0 a1).bind fun y1 => I10 y1 (0 : Int)
def f52G (a0 : Int × Int × Int) (a1 : List tM) (a2 : List (tV × Int)) : Option (Int × Int × Bool) :=
  f52_g K a0 a1 a2 (fun c0 d0 => f52_l10 K a0 a1 a2 c0 K d0)
def f52M : Mdl := ⟨[(.ro, sL), (.ro, (.list 49 sM)), (.ro, (.list 82 (.cons sV sI)))], [sI, sI, .bool], fun x => f52G K x.1 x.2.1 x.2.2.1⟩
def f52_k10 (a0 : Int × Int × Int) (a1 : List tM) (a2 : List (tV × Int)) (lr : LR (Int × Int × Bool)) : Ex → Fr → Option (Int × Int × Bool) :=
  contC (f52E K) 2 lr f52C [1, 1, 1, 0, 1, 0] (fM (f52E K) Tryz.f52 (f52M K) (a0, a1, a2, ()))
def f52_j10 (a0 : Int × Int × Int) (a1 : List tM) (a2 : List (tV × Int)) (lr : LR (Int × Int × Bool)) (y1 : (List (List tV)) × List Int) (bq11 : Int) : Option (Int × Int × Bool) :=
  lr (selC f52C [1, 1, 1, 0, 1, 0, 0]) (f52_fr10 a0 a1 a2 y1 bq11) (f52_k10 K a0 a1 a2 lr)
def f52_k12 (a0 : Int × Int × Int) (a1 : List tM) (a2 : List (tV × Int)) (y1 : (List (List tV)) × List Int) (F10 : Fr → Option (Int × Int × Bool)) (bq11 : Int) (lr : LR (Int × Int × Bool)) : Ex → Fr → Option (Int × Int × Bool) :=
  contC (f52E K) 2 lr (selC f52C [1, 1, 1, 0, 1, 0, 0]) [1, 1, 0, 0, 1, 1, 0] (loopK 2 (f52_fr10 a0 a1 a2 y1 bq11) F10 (f52_k10 K a0 a1 a2 lr))
def f52_j12 (a0 : Int × Int × Int) (a1 : List tM) (a2 : List (tV × Int)) (y1 : (List (List tV)) × List Int) (F10 : Fr → Option (Int × Int × Bool)) (bq11 : Int) (lr : LR (Int × Int × Bool)) (q11 bq13 : Int) : Option (Int × Int × Bool) :=
  lr (selC f52C [1, 1, 1, 0, 1, 0, 0, 1, 1, 0, 0, 1, 1, 0, 0]) (f52_fr12 a0 a1 a2 q11 y1 bq13) (f52_k12 K a0 a1 a2 y1 F10 bq11 lr)
def f53E : Env := eE K [(57, f57M K), (90, f90M K)] [0, 1, 2, 3, 5, 8, 9, 11, 18, 19, 20, 21]
def f53_b4 (a0 : Int) (a1 : Int × Int × Int) (a2 : List tV) (a3 : Int) (L4 : Int → (List Int) → Option (Int × tL × List Int)) (q5 : Int) (q6 : List Int) : Option (Int × tL × List Int) :=
  (bif (decide (q5 < (a2.length : Int))) then (bif (decide (0 ≤ q5) && decide (q5 < (a2.length : Int))) then (f57G K a1 (a2.getD ((0 : Int) + q5).toNat ((0 : Int), (0 : Int)))).bind fun y7 => (bif (decide (0 ≤ y7) && decide (y7 < (q6.length : Int))) then L4 (w (q5 + (1 : Int))) (q6.set ((0 : Int) + y7).toNat a3) else none) else none) else some (a0, a1, q6))
def f53_l4 (a0 : Int) (a1 : Int × Int × Int) (a2 : List tV) (a3 : Int) (n : Nat) (q5 : Int) (q6 : List Int) : Option (Int × tL × List Int) :=
  iter (X := Int × List Int) (fun L x => f53_b4 K a0 a1 a2 a3 (fun v0 v1 => L (v0, v1)) x.1 x.2) n (q5, q6)
def f53_g (a0 : Int) (a1 : Int × Int × Int) (a2 : List tV) (a3 : Int) (I4 : Int → (List Int) → Option (Int × tL × List Int)) : Option (Int × tL × List Int) :=
  (f90G K a1).bind fun y1 => (bif (decide (0 ≤ y1) && Nat.ble y1.toNat (lim 8) && (y1 == y1)) then I4 (0 : Int) (List.replicate y1.toNat (0 : Int)) else none)
def f53G (a0 : Int) (a1 : Int × Int × Int) (a2 : List tV) (a3 : Int) : Option (Int × tL × List Int) :=
  f53_g K a0 a1 a2 a3 (fun d0 d1 => f53_l4 K a0 a1 a2 a3 K d0 d1)
def f53M : Mdl := ⟨[(.ro, sI), (.ro, sL), (.ro, (.list 47 sV)), (.ro, sI)], [(.cons sI (.cons sL (.list 2 sI)))], fun x => f53G K x.1 x.2.1 x.2.2.1 x.2.2.2.1⟩
def f53_k4 (a0 : Int) (a1 : Int × Int × Int) (a2 : List tV) (a3 : Int) (lr : LR (Int × tL × List Int)) : Ex → Fr → Option (Int × tL × List Int) :=
  contC (f53E K) 1 lr f53C [1, 1, 0, 1, 0] (fM (f53E K) Tryz.f53 (f53M K) (a0, a1, a2, a3, ()))
def f53_j4 (a0 : Int) (a1 : Int × Int × Int) (a2 : List tV) (a3 : Int) (lr : LR (Int × tL × List Int)) (bq5 : Int) (bq6 : List Int) : Option (Int × tL × List Int) :=
  lr (selC f53C [1, 1, 0, 1, 0, 0]) (f53_fr4 a0 a1 a2 a3 bq5 bq6) (f53_k4 K a0 a1 a2 a3 lr)
def f26E : Env := eE K [(50, f50M K), (51, f51M K), (52, f52M K), (53, f53M K), (54, f54M K), (55, f55M K), (56, f56M K), (57, f57M K)] [0, 1, 2, 3, 4, 6, 10, 11, 12, 15, 16, 18, 20, 27, 32, 42, 50, 51, 52, 53, 62, 63, 64, 65]
def f26_b20 (a0 : Int) (a1 : Int × Int × Int) (a2 : List tM) (a3 : List (tV × Int)) (a4 q16 y1 : Int) (y2 : Bool) (y3 : Int × Int × Bool) (y5 : Int × tL × List Int) (y19 : List tV) (L15 : Int → (List Int) → Option ((Int × tL × List Int) × Int)) (L20 : Int → (List Int) → Option ((Int × tL × List Int) × Int)) (q21 : Int) (q22 : List Int) : Option ((Int × tL × List Int) × Int) :=
  (bif (decide (q21 < (y19.length : Int))) then (bif (decide (0 ≤ q21) && decide (q21 < (y19.length : Int))) then (f57G K a1 (y19.getD ((0 : Int) + q21).toNat ((0 : Int), (0 : Int)))).bind fun y23 => (bif (decide (0 ≤ y23) && decide (y23 < (q22.length : Int))) then L20 (w (q21 + (1 : Int))) (q22.set ((0 : Int) + y23).toNat ((a3.getD ((0 : Int) + q16).toNat (((0 : Int), (0 : Int)), (0 : Int))).2)) else none) else none) else L15 (w (q16 + (1 : Int))) q22)
def f26_l20 (a0 : Int) (a1 : Int × Int × Int) (a2 : List tM) (a3 : List (tV × Int)) (a4 q16 y1 : Int) (y2 : Bool) (y3 : Int × Int × Bool) (y5 : Int × tL × List Int) (y19 : List tV) (L15 : Int → (List Int) → Option ((Int × tL × List Int) × Int)) (n : Nat) (q21 : Int) (q22 : List Int) : Option ((Int × tL × List Int) × Int) :=
  iter (X := Int × List Int) (fun L x => f26_b20 K a0 a1 a2 a3 a4 q16 y1 y2 y3 y5 y19 L15 (fun v0 v1 => L (v0, v1)) x.1 x.2) n (q21, q22)
def f26_b15 (a0 : Int) (a1 : Int × Int × Int) (a2 : List tM) (a3 : List (tV × Int)) (a4 y1 : Int) (y2 : Bool) (y3 : Int × Int × Bool) (y5 : Int × tL × List Int) (I20 : Int → (List tV) → Int → (List Int) → Option ((Int × tL × List Int) × Int)) (L15 : Int → (List Int) → Option ((Int × tL × List Int) × Int)) (q16 : Int) (q17 : List Int) : Option ((Int × tL × List Int) × Int) :=
  (bif (decide (q16 < (a3.length : Int))) then (bif (decide (0 ≤ q16) && decide (q16 < (a3.length : Int))) then (f56G K a1 ((a3.getD ((0 : Int) + q16).toNat (((0 : Int), (0 : Int)), (0 : Int))).1)).bind fun y18 => (f55G K a1 a2 y18).bind fun y19 => I20 q16 y19 (0 : Int) q17 else none) else some ((y5.1, y5.2.1, q17), (0 : Int)))
def f26_l15 (a0 : Int) (a1 : Int × Int × Int) (a2 : List tM) (a3 : List (tV × Int)) (a4 y1 : Int) (y2 : Bool) (y3 : Int × Int × Bool) (y5 : Int × tL × List Int) (n : Nat) (q16 : Int) (q17 : List Int) : Option ((Int × tL × List Int) × Int) :=
  iter (X := Int × List Int) (fun L x => (fun L15 => f26_b15 K a0 a1 a2 a3 a4 y1 y2 y3 y5 (fun c0 c1 d0 d1 => f26_l20 K a0 a1 a2 a3 a4 c0 y1 y2 y3 y5 c1 L15 K d0 d1) L15 x.1 x.2) (fun v0 v1 => L (v0, v1))) n (q16, q17)
def f26_g (a0 : Int) (a1 : Int × Int × Int) (a2 : List tM) (a3 : List (tV × Int)) (a4 : Int) (I15 : Int → Bool → (Int × Int × Bool) → (Int × tL × List Int) → Int → (List Int) → Option ((Int × tL × List Int) × Int)) : Option ((Int × tL × List Int) × Int) :=
  (f50G K a0 a1 a2 a3).bind fun y1 => (bif (y1 != (0 : Int)) then some (((0 : Int), ((0 : Int), (0 : Int), (0 : Int)), []), y1) else (f51G K a4).bind fun y2 => (bif (!y2) then some (((0 : Int), ((0 : Int), (0 : Int), (0 : Int)), []), (2 : Int)) else (f52G K a1 a2 a3).bind fun y3 => (bif y3.2.2 then some (((0 : Int), ((0 : Int), (0 : Int), (0 : Int)), []), (5 : Int)) else (f54G K a1).bind fun y4 => (f53G K a0 a1 y4 a4).bind fun y5 => I15 y1 y2 y3 y5 (0 : Int) y5.2.2)))
def f26G (a0 : Int) (a1 : Int × Int × Int) (a2 : List tM) (a3 : List (tV × Int)) (a4 : Int) : Option ((Int × tL × List Int) × Int) :=
  f26_g K a0 a1 a2 a3 a4 (fun c0 c1 c2 c3 d0 d1 => f26_l15 K a0 a1 a2 a3 a4 c0 c1 c2 c3 K d0 d1)
def f26M : Mdl := ⟨[(.ro, sI), (.ro, sL), (.ro, (.list 49 sM)), (.ro, (.list 82 (.cons sV sI))), (.ro, sI)], [(.cons sI (.cons sL (.list 2 sI))), sI], fun x => f26G K x.1 x.2.1 x.2.2.1 x.2.2.2.1 x.2.2.2.2.1⟩
def f26_k15 (a0 : Int) (a1 : Int × Int × Int) (a2 : List tM) (a3 : List (tV × Int)) (a4 : Int) (lr : LR ((Int × tL × List Int) × Int)) : Ex → Fr → Option ((Int × tL × List Int) × Int) :=
  contC (f26E K) 2 lr f26C [1, 1, 1, 1, 1, 0, 1, 0] (fM (f26E K) Tryz.f26 (f26M K) (a0, a1, a2, a3, a4, ()))
def f26_j15 (a0 : Int) (a1 : Int × Int × Int) (a2 : List tM) (a3 : List (tV × Int)) (a4 : Int) (lr : LR ((Int × tL × List Int) × Int)) (y1 : Int) (y2 : Bool) (y3 : Int × Int × Bool) (y5 : Int × tL × List Int) (bq16 : Int) (bq17 : List Int) : Option ((Int × tL × List Int) × Int) :=
  lr (selC f26C [1, 1, 1, 1, 1, 0, 1, 0, 0]) (f26_fr15 a0 a1 a2 a3 a4 y1 y2 y3 y5 bq16 bq17) (f26_k15 K a0 a1 a2 a3 a4 lr)
def f26_k20 (a0 : Int) (a1 : Int × Int × Int) (a2 : List tM) (a3 : List (tV × Int)) (a4 y1 : Int) (y2 : Bool) (y3 : Int × Int × Bool) (y5 : Int × tL × List Int) (F15 : Fr → Option ((Int × tL × List Int) × Int)) (bq16 : Int) (bq17 : List Int) (lr : LR ((Int × tL × List Int) × Int)) : Ex → Fr → Option ((Int × tL × List Int) × Int) :=
  contC (f26E K) 2 lr (selC f26C [1, 1, 1, 1, 1, 0, 1, 0, 0]) [1, 1, 0, 0, 1, 1, 0] (loopK 2 (f26_fr15 a0 a1 a2 a3 a4 y1 y2 y3 y5 bq16 bq17) F15 (f26_k15 K a0 a1 a2 a3 a4 lr))
def f26_j20 (a0 : Int) (a1 : Int × Int × Int) (a2 : List tM) (a3 : List (tV × Int)) (a4 y1 : Int) (y2 : Bool) (y3 : Int × Int × Bool) (y5 : Int × tL × List Int) (F15 : Fr → Option ((Int × tL × List Int) × Int)) (bq16 : Int) (bq17 : List Int) (lr : LR ((Int × tL × List Int) × Int)) (q16 : Int) (y19 : List tV) (bq21 : Int) (bq22 : List Int) : Option ((Int × tL × List Int) × Int) :=
  lr (selC f26C [1, 1, 1, 1, 1, 0, 1, 0, 0, 1, 1, 0, 0, 1, 1, 0, 0]) (f26_fr20 a0 a1 a2 a3 a4 q16 y1 y2 y3 y5 y19 bq21 bq22) (f26_k20 K a0 a1 a2 a3 a4 y1 y2 y3 y5 F15 bq16 bq17 lr)
def f11E : Env := ⟨[(12, f12M K), (23, f23M K), (24, f24M K), (26, f26M K)], tys, eqs, mts, K, [0, 2, 3, 4, 5, 6, 7, 8, 10, 11, 12, 13, 16, 28, 33, 35, 36, 37, 38, 45, 57, 78], [], [], [(25, f25M K)], [], [], [], false⟩
def f11_b5 (a0 : ByteArray) (y1 : ByteArray × Bool) (y2 : List ByteArray) (L5 : Int → Int → Int → Int → Int → Int → (List tM) → (List (tV × Int)) → Option (Option (Int × Int × tL × (List tM) × List (tV × Int)) × (Int × tL × List Int) × Int × Int)) (q6 q7 q8 q9 q10 q11 : Int) (q12 : List tM) (q13 : List (tV × Int)) : Option (Option (Int × Int × tL × (List tM) × List (tV × Int)) × (Int × tL × List Int) × Int × Int) :=
  (bif (decide (q6 < (y2.length : Int))) then (bif (decide (0 ≤ q6) && decide (q6 < (y2.length : Int))) then (f25G K (q7, q8, (q9, q10, q11), q12, q13) (y2.getD ((0 : Int) + q6).toNat ByteArray.empty)).bind fun y14 => (bif (y14.2 != (0 : Int)) then some (none, (((0 : Int), ((0 : Int), (0 : Int), (0 : Int)), []), y14.1.1, y14.2)) else L5 (w (q6 + (1 : Int))) y14.1.1 y14.1.2.1 y14.1.2.2.1.1 y14.1.2.2.1.2.1 y14.1.2.2.1.2.2 y14.1.2.2.2.1 y14.1.2.2.2.2) else none) else (bif (decide (q7 < (2 : Int))) then some (none, (((0 : Int), ((0 : Int), (0 : Int), (0 : Int)), []), (0 : Int), (4 : Int))) else (f12G K (q7, q8, (q9, q10, q11), q12, q13)).bind fun y15 => (f26G K q8 (q9, q10, q11) y15 q13 (0 : Int)).bind fun y16 => (bif (y16.2 != (0 : Int)) then some (none, (((0 : Int), ((0 : Int), (0 : Int), (0 : Int)), []), (0 : Int), (1 : Int))) else some ((some (q7, q8, (q9, q10, q11), q12, q13)), (y16.1, (0 : Int), (0 : Int))))))
def f11_l5 (a0 : ByteArray) (y1 : ByteArray × Bool) (y2 : List ByteArray) (n : Nat) (q6 q7 q8 q9 q10 q11 : Int) (q12 : List tM) (q13 : List (tV × Int)) : Option (Option (Int × Int × tL × (List tM) × List (tV × Int)) × (Int × tL × List Int) × Int × Int) :=
  iter (X := Int × Int × Int × Int × Int × Int × List tM × List (tV × Int)) (fun L x => f11_b5 K a0 y1 y2 (fun v0 v1 v2 v3 v4 v5 v6 v7 => L (v0, v1, v2, v3, v4, v5, v6, v7)) x.1 x.2.1 x.2.2.1 x.2.2.2.1 x.2.2.2.2.1 x.2.2.2.2.2.1 x.2.2.2.2.2.2.1 x.2.2.2.2.2.2.2) n (q6, q7, q8, q9, q10, q11, q12, q13)
def f11_g (a0 : ByteArray) (I5 : (ByteArray × Bool) → (List ByteArray) → Int → Int → Int → Int → Int → Int → (List tM) → (List (tV × Int)) → Option (Option (Int × Int × tL × (List tM) × List (tV × Int)) × (Int × tL × List Int) × Int × Int)) : Option (Option (Int × Int × tL × (List tM) × List (tV × Int)) × (Int × tL × List Int) × Int × Int) :=
  (bif (decide ((a0.size : Int) > (3000 : Int))) then some (none, (((0 : Int), ((0 : Int), (0 : Int), (0 : Int)), []), (0 : Int), (3 : Int))) else (f23G K a0 (bs [10])).bind fun y1 => (bif (bif (a0 != ByteArray.empty) then (!y1.2) else false) then some (none, (((0 : Int), ((0 : Int), (0 : Int), (0 : Int)), []), (0 : Int), (6 : Int))) else (bif (a0 != ByteArray.empty) then (f24G K y1.1 (bs [10])).bind fun y2 => I5 y1 y2 (0 : Int) (0 : Int) (0 : Int) (0 : Int) (0 : Int) (0 : Int) [] [] else (bif (decide ((0 : Int) < (2 : Int))) then some (none, (((0 : Int), ((0 : Int), (0 : Int), (0 : Int)), []), (0 : Int), (4 : Int))) else (f12G K ((0 : Int), (0 : Int), ((0 : Int), (0 : Int), (0 : Int)), [], [])).bind fun y17 => (f26G K (0 : Int) ((0 : Int), (0 : Int), (0 : Int)) y17 [] (0 : Int)).bind fun y18 => (bif (y18.2 != (0 : Int)) then some (none, (((0 : Int), ((0 : Int), (0 : Int), (0 : Int)), []), (0 : Int), (1 : Int))) else some ((some ((0 : Int), (0 : Int), ((0 : Int), (0 : Int), (0 : Int)), [], [])), (y18.1, (0 : Int), (0 : Int))))))))
def f11G (a0 : ByteArray) : Option (Option (Int × Int × tL × (List tM) × List (tV × Int)) × (Int × tL × List Int) × Int × Int) :=
  f11_g K a0 (fun c0 c1 d0 d1 d2 d3 d4 d5 d6 d7 => f11_l5 K a0 c0 c1 K d0 d1 d2 d3 d4 d5 d6 d7)
def f11M : CMdl := ⟨(.cons sI (.cons sI (.cons sL (.cons (.list 49 sM) (.list 82 (.cons sV sI)))))), [(.ro, .str)], [(.cons sI (.cons sL (.list 2 sI))), sI, sI], fun x => f11G K x.1⟩
def f11_k5 (a0 : ByteArray) (lr : LR (Option (Int × Int × tL × (List tM) × List (tV × Int)) × (Int × tL × List Int) × Int × Int)) : Ex → Fr → Option (Option (Int × Int × tL × (List tM) × List (tV × Int)) × (Int × tL × List Int) × Int × Int) :=
  contC (f11E K) 0 lr f11C [1, 1, 1, 1, 1, 0, 1, 0, 1, 0] (finC (f11E K) Tryz.f11 (.cons sI (.cons sI (.cons sL (.cons (.list 49 sM) (.list 82 (.cons sV sI)))))) [(.cons sI (.cons sL (.list 2 sI))), sI, sI])
def f11_j5 (a0 : ByteArray) (lr : LR (Option (Int × Int × tL × (List tM) × List (tV × Int)) × (Int × tL × List Int) × Int × Int)) (y1 : ByteArray × Bool) (y2 : List ByteArray) (bq6 bq7 bq8 bq9 bq10 bq11 : Int) (bq12 : List tM) (bq13 : List (tV × Int)) : Option (Option (Int × Int × tL × (List tM) × List (tV × Int)) × (Int × tL × List Int) × Int × Int) :=
  lr (selC f11C [1, 1, 1, 1, 1, 0, 1, 0, 1, 0, 0]) (f11_fr5 a0 y1 y2 bq6 bq7 bq8 bq9 bq10 bq11 bq12 bq13) (f11_k5 K a0 lr)
def f5E : Env := ⟨[(12, f12M K)], tys, eqs, mts, K, [0, 2, 3, 4, 7, 16], [], [], [], [(11, f11M K)], [], [], false⟩
def f5G (a0 : ByteArray) : Option ((List tM) × Int) :=
  (f11G K a0).bind fun y1 => optK y1.1 ((bif (y1.2.2.2 != (0 : Int)) then some ([], y1.2.2.2) else none)) (fun z2 => (bif (y1.2.2.2 != (0 : Int)) then some ([], y1.2.2.2) else (f12G K z2).bind fun y3 => some (y3, (0 : Int))))
def f5M : Mdl := ⟨[(.ro, .str)], [(.list 49 sM), sI], fun x => f5G K x.1⟩
def f28E : Env := eE K [] [0, 1, 2, 3, 4, 9, 14, 19, 24]
def f28G (K : Nat) (a0 a1 : Int × Int × Int × Int) : Option Bool :=
  (bif (a0.1 != a1.1) then some false else (bif (a0.2.1 != a1.2.1) then some false else (bif (a0.2.2.1 != a1.2.2.1) then some false else (bif (a0.2.2.2 != a1.2.2.2) then some false else some true))))
def f28M : Mdl := ⟨[(.ro, sA), (.ro, sA)], [.bool], fun x => f28G K x.1 x.2.1⟩
def f29E : Env := eE K [] [0, 1, 2, 3, 4, 9, 14]
def f29G (K : Nat) (a0 a1 : Int × Int) : Option Bool :=
  (bif (a0.1 != a1.1) then some false else (bif (a0.2 != a1.2) then some false else some true))
def f29M : Mdl := ⟨[(.ro, sV), (.ro, sV)], [.bool], fun x => f29G K x.1 x.2.1⟩
end
end Go.Proofs.YtphhbdjjfacpiaaGreatDoor.X
