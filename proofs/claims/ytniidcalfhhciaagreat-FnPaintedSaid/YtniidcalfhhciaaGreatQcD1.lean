/- Functions of the program as plain Lean functions, and that the program does what they say. Printed by gen.py. -/
import Derived.Test.YtniidcalfhhciaaGreatQcD0
namespace Go.Proofs.YtniidcalfhhciaaGreat.X
open Go
set_option maxRecDepth 100000
set_option linter.unusedVariables false
/-! spec.DrawOrbitColours -/
noncomputable def f79E (K : Nat) : Env := ⟨[], tys, eqs, mts, K, [0, 2, 3], [(202, f202M K)], [(124, f124M K)]⟩
noncomputable def f79G (K : Nat) (a0 : List Int) : Option ((Int × tL × List Int) × List tM) :=
  (f124G K a0).bind fun y1 => (f202G K (a0, y1)).bind fun y2 => some y2.2
noncomputable def f79M (K : Nat) : Mdl := ⟨[(.ro, (.list 5 (.int .u8)))], [(.cons sI (.cons sL (.list 2 sI))), (.list 57 sM)], fun x => f79G K x.1⟩
/-! impl.IsPattern -/
noncomputable def f125E (K : Nat) : Env := ⟨[(133, f133M K), (184, f184M K), (199, f199M K), (256, f256M K)], tys, eqs, mts, K, [0, 1, 2], [], []⟩
noncomputable def f125G (K : Nat) (a0 : Int × tL × List Int) : Option Bool :=
  (f256G K a0.1).bind fun y1 => (bif ((!y1) || true) then (bif ((!y1) || true) then ((bif y1 then f184G K a0.2.1 else some false)).bind fun y2 => (bif ((!(bif y1 then y2 else false)) || true) then (bif ((!(bif y1 then y2 else false)) || true) then (bif ((!(bif y1 then y2 else false)) || true) then (bif ((!(bif y1 then y2 else false)) || true) then (bif ((!(bif y1 then y2 else false)) || true) then ((bif (bif y1 then y2 else false) then f133G K a0.2.1 else some (0 : Int))).bind fun y3 => (bif ((!(bif y1 then y2 else false)) || true) then (bif ((!(bif (bif y1 then y2 else false) then ((a0.2.2.length : Int) == y3) else false)) || true) then (bif ((!(bif (bif y1 then y2 else false) then ((a0.2.2.length : Int) == y3) else false)) || true) then ((bif (bif (bif y1 then y2 else false) then ((a0.2.2.length : Int) == y3) else false) then f199G K a0.2.2 (0 : Int) (9 : Int) else some false)).bind fun y4 => some (bif (bif (bif y1 then y2 else false) then ((a0.2.2.length : Int) == y3) else false) then y4 else false) else none) else none) else none) else none) else none) else none) else none) else none) else none) else none)
noncomputable def f125M (K : Nat) : Mdl := ⟨[(.ro, (.cons sI (.cons sL (.list 2 sI))))], [.bool], fun x => f125G K x.1⟩
/-! impl.keptCode -/
noncomputable def f196E (K : Nat) : Env := ⟨[(125, f125M K), (198, f198M K)], tys, eqs, mts, K, [0, 1, 2, 4, 7], [], []⟩
noncomputable def f196G (K : Nat) (a0 : Int × tL × List Int) (a1 : List tM) : Option Int :=
  (f125G K a0).bind fun y1 => (bif (!y1) then some (1 : Int) else (f198G K a0.1 a0.2.1 [a1]).bind fun y2 => some y2)
noncomputable def f196M (K : Nat) : Mdl := ⟨[(.ro, (.cons sI (.cons sL (.list 2 sI)))), (.ro, (.list 57 sM))], [sI], fun x => f196G K x.1 x.2.1⟩
/-! (impl.Pattern).at -/
noncomputable def f177E (K : Nat) : Env := ⟨[(163, f163M K), (176, f176M K)], tys, eqs, mts, K, [0, 1, 2, 3, 4], [], []⟩
noncomputable def f177G (K : Nat) (a0 : Int × tL × List Int) (a1 : Int × Int) : Option Int :=
  (f176G K a0.2.1 a1).bind fun y1 => (f163G K a0.2.1 y1).bind fun y2 => (bif (decide (0 ≤ y2) && decide (y2 < (a0.2.2.length : Int))) then some (a0.2.2.getD ((0 : Int) + y2).toNat (0 : Int)) else none)
noncomputable def f177M (K : Nat) : Mdl := ⟨[(.ro, (.cons sI (.cons sL (.list 2 sI)))), (.ro, sV)], [sI], fun x => f177G K x.1 x.2.1⟩
/-! (impl.Pattern).keeps -/
noncomputable def f267C : Code := codeOf Tryz.f267
noncomputable def f267E (K : Nat) : Env := ⟨[(174, f174M K), (177, f177M K), (185, f185M K)], tys, eqs, mts, K, [0, 1, 2, 3, 4, 5, 6, 9, 10, 11, 12, 26], [], []⟩
noncomputable def f267_b5 (K : Nat) (a0 : Int × tL × List Int) (a1 : tA × Int × Int) (y1 : List tV) (L5 : Int → Option Bool) (q6 : Int) : Option Bool :=
  (bif (decide (q6 < (y1.length : Int))) then (bif (decide (0 ≤ q6) && decide (q6 < (y1.length : Int))) then (f174G K a1 (y1.getD ((0 : Int) + q6).toNat ((0 : Int), (0 : Int)))).bind fun y7 => (f177G K a0 y7).bind fun y8 => (bif (decide (0 ≤ q6) && decide (q6 < (a0.2.2.length : Int))) then (bif (y8 != (a0.2.2.getD ((0 : Int) + q6).toNat (0 : Int))) then some false else L5 (w (q6 + (1 : Int)))) else none) else none) else some true)
noncomputable def f267_l5 (K : Nat) (a0 : Int × tL × List Int) (a1 : tA × Int × Int) (y1 : List tV) (n : Nat) (q6 : Int) : Option Bool :=
  iter (X := Int) (fun L x => (fun L5 => f267_b5 K a0 a1 y1 L5 x) (fun v0 => L v0)) n q6
noncomputable def f267_fr5 (a0 : Int × tL × List Int) (a1 : tA × Int × Int) (y1 : List tV) (q6 : Int) : Fr := ⟨28, [(0, .v true [.int .i64 a0.1, .int .i64 a0.2.1.1, .int .i64 a0.2.1.2.1, .int .i64 a0.2.1.2.2, .row 0]), (1, .v true [.int .i64 a1.1.1, .int .i64 a1.1.2.1, .int .i64 a1.1.2.2.1, .int .i64 a1.1.2.2.2, .int .i64 a1.2.1, .int .i64 a1.2.2]), (2, .v false [.box 0 0]), (3, .v false [.box 1 0]), (4, .v false [.bool false]), (9, .v false [.row 1]), (10, .v false [.int .i64 (y1.length : Int)]), (11, .v false [.int .i64 q6])], [some ⟨true, [.int .i64 a0.1, .int .i64 a0.2.1.1, .int .i64 a0.2.1.2.1, .int .i64 a0.2.1.2.2, .row 0]⟩, some ⟨true, [.int .i64 a1.1.1, .int .i64 a1.1.2.1, .int .i64 a1.1.2.2.1, .int .i64 a1.1.2.2.2, .int .i64 a1.2.1, .int .i64 a1.2.2]⟩], [some ⟨2, sI, a0.2.2, .ro⟩, some ⟨55, sV, y1, .own⟩]⟩
noncomputable def f267_k5 (K : Nat) (a0 : Int × tL × List Int) (a1 : tA × Int × Int) (lr : LR Bool) : Ex → Fr → Option Bool :=
  contC (f267E K) 1 lr f267C [1, 0, 1, 0] (finK (f267E K) Tryz.f267 [(.ro, (.cons sI (.cons sL (.list 2 sI)))), (.ro, sM)] [.bool] (a0, a1, ()))
noncomputable def f267_g (K : Nat) (a0 : Int × tL × List Int) (a1 : tA × Int × Int) (I5 : (List tV) → Int → Option Bool) : Option Bool :=
  (f185G K a0.2.1).bind fun y1 => I5 y1 (0 : Int)
noncomputable def f267G (K : Nat) (a0 : Int × tL × List Int) (a1 : tA × Int × Int) : Option Bool :=
  f267_g K a0 a1 (fun c0 d0 => f267_l5 K a0 a1 c0 K d0)
noncomputable def f267M (K : Nat) : Mdl := ⟨[(.ro, (.cons sI (.cons sL (.list 2 sI)))), (.ro, sM)], [.bool], fun x => f267G K x.1 x.2.1⟩
/-! impl.isKept -/
noncomputable def f197C : Code := codeOf Tryz.f197
noncomputable def f197E (K : Nat) : Env := ⟨[(267, f267M K)], tys, eqs, mts, K, [0, 1, 2, 4, 6, 7, 8, 9, 10, 16], [], []⟩
noncomputable def f197_b3 (K : Nat) (a0 : Int × tL × List Int) (a1 : List tM) (L3 : Int → Option Bool) (q4 : Int) : Option Bool :=
  (bif (decide (q4 < (a1.length : Int))) then (bif (decide (0 ≤ q4) && decide (q4 < (a1.length : Int))) then (f267G K a0 ((((a1.getD ((0 : Int) + q4).toNat zM).1).1, (((a1.getD ((0 : Int) + q4).toNat zM).1).2).1, ((((a1.getD ((0 : Int) + q4).toNat zM).1).2).2)), ((a1.getD ((0 : Int) + q4).toNat zM).2))).bind fun y5 => (bif (!y5) then some false else L3 (w (q4 + (1 : Int)))) else none) else some true)
noncomputable def f197_l3 (K : Nat) (a0 : Int × tL × List Int) (a1 : List tM) (n : Nat) (q4 : Int) : Option Bool :=
  iter (X := Int) (fun L x => (fun L3 => f197_b3 K a0 a1 L3 x) (fun v0 => L v0)) n q4
noncomputable def f197_fr3 (a0 : Int × tL × List Int) (a1 : List tM) (q4 : Int) : Fr := ⟨18, [(0, .v true [.int .i64 a0.1, .int .i64 a0.2.1.1, .int .i64 a0.2.1.2.1, .int .i64 a0.2.1.2.2, .row 0]), (1, .v false [.row 1]), (2, .v false [.box 0 0]), (4, .v false [.bool false]), (7, .v false [.row 1]), (8, .v false [.int .i64 (a1.length : Int)]), (9, .v false [.int .i64 q4])], [some ⟨true, [.int .i64 a0.1, .int .i64 a0.2.1.1, .int .i64 a0.2.1.2.1, .int .i64 a0.2.1.2.2, .row 0]⟩], [some ⟨2, sI, a0.2.2, .ro⟩, some ⟨57, sM, a1, .ro⟩]⟩
noncomputable def f197_k3 (K : Nat) (a0 : Int × tL × List Int) (a1 : List tM) (lr : LR Bool) : Ex → Fr → Option Bool :=
  contC (f197E K) 2 lr f197C [1, 0, 1, 0] (finK (f197E K) Tryz.f197 [(.ro, (.cons sI (.cons sL (.list 2 sI)))), (.ro, (.list 57 sM))] [.bool] (a0, a1, ()))
noncomputable def f197_g (K : Nat) (a0 : Int × tL × List Int) (a1 : List tM) (I3 : Int → Option Bool) : Option Bool :=
  I3 (0 : Int)
noncomputable def f197G (K : Nat) (a0 : Int × tL × List Int) (a1 : List tM) : Option Bool :=
  f197_g K a0 a1 (fun d0 => f197_l3 K a0 a1 K d0)
noncomputable def f197M (K : Nat) : Mdl := ⟨[(.ro, (.cons sI (.cons sL (.list 2 sI)))), (.ro, (.list 57 sM))], [.bool], fun x => f197G K x.1 x.2.1⟩
/-! impl.OrbitColours -/
noncomputable def f80C : Code := codeOf Tryz.f80
noncomputable def f80E (K : Nat) : Env := ⟨[(177, f177M K), (180, f180M K), (196, f196M K), (197, f197M K)], tys, eqs, mts, K, [0, 1, 2, 4, 5, 6, 7, 8, 11, 16, 21, 30, 31, 32, 33], [], []⟩
noncomputable def f80_b6 (K : Nat) (a0 : Int × tL × List Int) (a1 : List tM) (y1 : Int) (y2 : Bool) (y3 : (List (List tV)) × List Int) (L6 : Int → (List Int) → Option ((List Int) × Int)) (q7 : Int) (q8 : List Int) : Option ((List Int) × Int) :=
  (bif (decide (q7 < (y3.1.length : Int))) then (bif (decide (0 ≤ q7) && decide (q7 < (y3.1.length : Int))) then (bif (decide (0 ≤ (0 : Int)) && decide ((0 : Int) < ((y3.1.getD ((0 : Int) + q7).toNat []).length : Int))) then (f177G K a0 ((y3.1.getD ((0 : Int) + q7).toNat []).getD ((0 : Int) + (0 : Int)).toNat ((0 : Int), (0 : Int)))).bind fun y9 => (bif (Nat.ble (q8.length + [y9].length) (lim 8)) then L6 (w (q7 + (1 : Int))) (q8 ++ [y9]) else none) else none) else none) else some (q8, (0 : Int)))
noncomputable def f80_l6 (K : Nat) (a0 : Int × tL × List Int) (a1 : List tM) (y1 : Int) (y2 : Bool) (y3 : (List (List tV)) × List Int) (n : Nat) (q7 : Int) (q8 : List Int) : Option ((List Int) × Int) :=
  iter (X := Int × List Int) (fun L x => (fun L6 => f80_b6 K a0 a1 y1 y2 y3 L6 x.1 x.2) (fun v0 v1 => L (v0, v1))) n (q7, q8)
noncomputable def f80_fr6 (a0 : Int × tL × List Int) (a1 : List tM) (y1 : Int) (y2 : Bool) (y3 : (List (List tV)) × List Int) (q7 : Int) (q8 : List Int) : Fr := ⟨46, [(0, .v true [.int .i64 a0.1, .int .i64 a0.2.1.1, .int .i64 a0.2.1.2.1, .int .i64 a0.2.1.2.2, .row 0]), (1, .v false [.row 1]), (2, .v false [.box 0 0]), (4, .v false [.row 2]), (5, .v false [.int .i64 (0 : Int)]), (6, .v false [.int .i64 y1]), (7, .v false [.row 3]), (8, .v false [.row 4]), (16, .v false [.bool (y1 != (0 : Int))]), (21, .v false [.bool (!y2)]), (30, .v false [.row 4]), (31, .v false [.int .i64 (y3.1.length : Int)]), (32, .v false [.int .i64 q7])], [some ⟨true, [.int .i64 a0.1, .int .i64 a0.2.1.1, .int .i64 a0.2.1.2.1, .int .i64 a0.2.1.2.2, .row 0]⟩], [some ⟨2, sI, a0.2.2, .ro⟩, some ⟨57, sM, a1, .ro⟩, some ⟨2, sI, [], .own⟩, some ⟨2, sI, q8, .own⟩, some ⟨58, (.list 55 sV), y3.1, .own⟩]⟩
noncomputable def f80_k6 (K : Nat) (a0 : Int × tL × List Int) (a1 : List tM) (lr : LR ((List Int) × Int)) : Ex → Fr → Option ((List Int) × Int) :=
  contC (f80E K) 2 lr f80C [1, 1, 1, 1, 1, 0, 1, 0] (finK (f80E K) Tryz.f80 [(.ro, (.cons sI (.cons sL (.list 2 sI)))), (.ro, (.list 57 sM))] [(.list 2 sI), sI] (a0, a1, ()))
noncomputable def f80_g (K : Nat) (a0 : Int × tL × List Int) (a1 : List tM) (I6 : Int → Bool → ((List (List tV)) × List Int) → Int → (List Int) → Option ((List Int) × Int)) : Option ((List Int) × Int) :=
  (f196G K a0 a1).bind fun y1 => (bif (y1 != (0 : Int)) then some ([], y1) else (f197G K a0 a1).bind fun y2 => (bif (!y2) then some ([], (5 : Int)) else (f180G K a0.2.1 a1).bind fun y3 => I6 y1 y2 y3 (0 : Int) []))
noncomputable def f80G (K : Nat) (a0 : Int × tL × List Int) (a1 : List tM) : Option ((List Int) × Int) :=
  f80_g K a0 a1 (fun c0 c1 c2 d0 d1 => f80_l6 K a0 a1 c0 c1 c2 K d0 d1)
noncomputable def f80M (K : Nat) : Mdl := ⟨[(.ro, (.cons sI (.cons sL (.list 2 sI)))), (.ro, (.list 57 sM))], [(.list 2 sI), sI], fun x => f80G K x.1 x.2.1⟩
/-! spec.IsPattern -/
noncomputable def f128E (K : Nat) : Env := ⟨[(200, f200M K), (215, f215M K)], tys, eqs, mts, K, [0, 1, 2], [], []⟩
noncomputable def f128G (K : Nat) (a0 : Int × tL × List Int) : Option Bool :=
  (f215G K a0.1 a0.2.1).bind fun y1 => (bif ((!(y1 == (0 : Int))) || true) then (bif ((!(y1 == (0 : Int))) || true) then (bif ((!(y1 == (0 : Int))) || true) then (bif ((!(y1 == (0 : Int))) || true) then (bif ((!(y1 == (0 : Int))) || true) then (bif ((!(y1 == (0 : Int))) || true) then (bif ((!(y1 == (0 : Int))) || true) then (bif ((!(y1 == (0 : Int))) || true) then (bif ((!(y1 == (0 : Int))) || true) then (bif ((!(y1 == (0 : Int))) || true) then (bif ((!(y1 == (0 : Int))) || true) then (bif ((!(bif (y1 == (0 : Int)) then ((a0.2.2.length : Int) == (w (a0.2.1.1 * a0.2.1.2.2))) else false)) || true) then (bif ((!(bif (y1 == (0 : Int)) then ((a0.2.2.length : Int) == (w (a0.2.1.1 * a0.2.1.2.2))) else false)) || true) then ((bif (bif (y1 == (0 : Int)) then ((a0.2.2.length : Int) == (w (a0.2.1.1 * a0.2.1.2.2))) else false) then f200G K a0.2.2 (64 : Int) (0 : Int) (9 : Int) else some false)).bind fun y2 => some (bif (bif (y1 == (0 : Int)) then ((a0.2.2.length : Int) == (w (a0.2.1.1 * a0.2.1.2.2))) else false) then y2 else false) else none) else none) else none) else none) else none) else none) else none) else none) else none) else none) else none) else none) else none)
noncomputable def f128M (K : Nat) : Mdl := ⟨[(.ro, (.cons sI (.cons sL (.list 2 sI))))], [.bool], fun x => f128G K x.1⟩
/-! spec.l13Code -/
noncomputable def f203E (K : Nat) : Env := ⟨[(128, f128M K), (148, f148M K)], tys, eqs, mts, K, [0, 1, 2, 4, 5, 9], [], []⟩
noncomputable def f203G (K : Nat) (a0 : Int × tL × List Int) (a1 : List tM) : Option Int :=
  (f128G K a0).bind fun y1 => (bif (!y1) then some (1 : Int) else (f148G K a0.1 a0.2.1 a1).bind fun y2 => (bif (!y2) then some (2 : Int) else some (0 : Int)))
noncomputable def f203M (K : Nat) : Mdl := ⟨[(.ro, (.cons sI (.cons sL (.list 2 sI)))), (.ro, (.list 57 sM))], [sI], fun x => f203G K x.1 x.2.1⟩
/-! spec.l09At -/
noncomputable def f205E (K : Nat) : Env := ⟨[(150, f150M K)], tys, eqs, mts, K, [0, 1, 2, 3, 4], [], []⟩
noncomputable def f205G (K : Nat) (a0 : Int × tL × List Int) (a1 : Int × Int) : Option Int :=
  (f150G K a0.2.1 a1).bind fun y1 => (bif (decide (0 ≤ y1) && decide (y1 < (a0.2.2.length : Int))) then some (a0.2.2.getD ((0 : Int) + y1).toNat (0 : Int)) else none)
noncomputable def f205M (K : Nat) : Mdl := ⟨[(.ro, (.cons sI (.cons sL (.list 2 sI)))), (.ro, sV)], [sI], fun x => f205G K x.1 x.2.1⟩
/-! spec.l09Keeps -/
noncomputable def f265C : Code := codeOf Tryz.f265
noncomputable def f265E (K : Nat) : Env := ⟨[(149, f149M K), (151, f151M K), (205, f205M K)], tys, eqs, mts, K, [0, 1, 2, 3, 4, 5, 6, 13, 30], [], []⟩
noncomputable def f265_b6 (K : Nat) (a0 : Int × tL × List Int) (a1 : tA × Int × Int) (y1 : List tV) (L6 : Int → Option Bool) (q7 : Int) : Option Bool :=
  (bif (decide (q7 < (y1.length : Int))) then (bif (decide (0 ≤ q7) && decide (q7 < (y1.length : Int))) then (f151G K a1 (y1.getD ((0 : Int) + q7).toNat ((0 : Int), (0 : Int)))).bind fun y8 => (f205G K a0 y8).bind fun y9 => (bif (decide (0 ≤ q7) && decide (q7 < (y1.length : Int))) then (f205G K a0 (y1.getD ((0 : Int) + q7).toNat ((0 : Int), (0 : Int)))).bind fun y10 => (bif (y9 != y10) then some false else L6 (w (q7 + (1 : Int)))) else none) else none) else some true)
noncomputable def f265_l6 (K : Nat) (a0 : Int × tL × List Int) (a1 : tA × Int × Int) (y1 : List tV) (n : Nat) (q7 : Int) : Option Bool :=
  iter (X := Int) (fun L x => (fun L6 => f265_b6 K a0 a1 y1 L6 x) (fun v0 => L v0)) n q7
noncomputable def f265_fr6 (a0 : Int × tL × List Int) (a1 : tA × Int × Int) (y1 : List tV) (q7 : Int) : Fr := ⟨31, [(0, .v true [.int .i64 a0.1, .int .i64 a0.2.1.1, .int .i64 a0.2.1.2.1, .int .i64 a0.2.1.2.2, .row 0]), (1, .v true [.int .i64 a1.1.1, .int .i64 a1.1.2.1, .int .i64 a1.1.2.2.1, .int .i64 a1.1.2.2.2, .int .i64 a1.2.1, .int .i64 a1.2.2]), (2, .v false [.box 0 0]), (3, .v false [.box 1 0]), (4, .v false [.bool false]), (5, .v false [.row 1]), (6, .v false [.int .i64 q7])], [some ⟨true, [.int .i64 a0.1, .int .i64 a0.2.1.1, .int .i64 a0.2.1.2.1, .int .i64 a0.2.1.2.2, .row 0]⟩, some ⟨true, [.int .i64 a1.1.1, .int .i64 a1.1.2.1, .int .i64 a1.1.2.2.1, .int .i64 a1.1.2.2.2, .int .i64 a1.2.1, .int .i64 a1.2.2]⟩], [some ⟨2, sI, a0.2.2, .ro⟩, some ⟨55, sV, y1, .own⟩]⟩
noncomputable def f265_k6 (K : Nat) (a0 : Int × tL × List Int) (a1 : tA × Int × Int) (lr : LR Bool) : Ex → Fr → Option Bool :=
  contC (f265E K) 1 lr f265C [1, 1, 0, 1, 0] (finK (f265E K) Tryz.f265 [(.ro, (.cons sI (.cons sL (.list 2 sI)))), (.ro, sM)] [.bool] (a0, a1, ()))
noncomputable def f265_g (K : Nat) (a0 : Int × tL × List Int) (a1 : tA × Int × Int) (I6 : (List tV) → Int → Option Bool) : Option Bool :=
  (f149G K a0.2.1).bind fun y1 => I6 y1 (0 : Int)
noncomputable def f265G (K : Nat) (a0 : Int × tL × List Int) (a1 : tA × Int × Int) : Option Bool :=
  f265_g K a0 a1 (fun c0 d0 => f265_l6 K a0 a1 c0 K d0)
noncomputable def f265M (K : Nat) : Mdl := ⟨[(.ro, (.cons sI (.cons sL (.list 2 sI)))), (.ro, sM)], [.bool], fun x => f265G K x.1 x.2.1⟩
/-! spec.l13Kept -/
noncomputable def f204C : Code := codeOf Tryz.f204
noncomputable def f204E (K : Nat) : Env := ⟨[(265, f265M K)], tys, eqs, mts, K, [0, 1, 2, 4, 5, 9, 18], [], []⟩
noncomputable def f204_b3 (K : Nat) (a0 : Int × tL × List Int) (a1 : List tM) (L3 : Int → Option Bool) (q4 : Int) : Option Bool :=
  (bif (decide (q4 < (a1.length : Int))) then (bif (decide (0 ≤ q4) && decide (q4 < (a1.length : Int))) then (f265G K a0 ((((a1.getD ((0 : Int) + q4).toNat zM).1).1, (((a1.getD ((0 : Int) + q4).toNat zM).1).2).1, ((((a1.getD ((0 : Int) + q4).toNat zM).1).2).2)), ((a1.getD ((0 : Int) + q4).toNat zM).2))).bind fun y5 => (bif (!y5) then some false else L3 (w (q4 + (1 : Int)))) else none) else some true)
noncomputable def f204_l3 (K : Nat) (a0 : Int × tL × List Int) (a1 : List tM) (n : Nat) (q4 : Int) : Option Bool :=
  iter (X := Int) (fun L x => (fun L3 => f204_b3 K a0 a1 L3 x) (fun v0 => L v0)) n q4
noncomputable def f204_fr3 (a0 : Int × tL × List Int) (a1 : List tM) (q4 : Int) : Fr := ⟨19, [(0, .v true [.int .i64 a0.1, .int .i64 a0.2.1.1, .int .i64 a0.2.1.2.1, .int .i64 a0.2.1.2.2, .row 0]), (1, .v false [.row 1]), (2, .v false [.box 0 0]), (4, .v false [.bool false]), (5, .v false [.int .i64 q4])], [some ⟨true, [.int .i64 a0.1, .int .i64 a0.2.1.1, .int .i64 a0.2.1.2.1, .int .i64 a0.2.1.2.2, .row 0]⟩], [some ⟨2, sI, a0.2.2, .ro⟩, some ⟨57, sM, a1, .ro⟩]⟩
noncomputable def f204_k3 (K : Nat) (a0 : Int × tL × List Int) (a1 : List tM) (lr : LR Bool) : Ex → Fr → Option Bool :=
  contC (f204E K) 2 lr f204C [1, 0, 1, 0] (finK (f204E K) Tryz.f204 [(.ro, (.cons sI (.cons sL (.list 2 sI)))), (.ro, (.list 57 sM))] [.bool] (a0, a1, ()))
noncomputable def f204_g (K : Nat) (a0 : Int × tL × List Int) (a1 : List tM) (I3 : Int → Option Bool) : Option Bool :=
  I3 (0 : Int)
noncomputable def f204G (K : Nat) (a0 : Int × tL × List Int) (a1 : List tM) : Option Bool :=
  f204_g K a0 a1 (fun d0 => f204_l3 K a0 a1 K d0)
noncomputable def f204M (K : Nat) : Mdl := ⟨[(.ro, (.cons sI (.cons sL (.list 2 sI)))), (.ro, (.list 57 sM))], [.bool], fun x => f204G K x.1 x.2.1⟩
/-! spec.OrbitColours -/
noncomputable def f81C : Code := codeOf Tryz.f81
noncomputable def f81E (K : Nat) : Env := ⟨[(182, f182M K), (203, f203M K), (204, f204M K), (205, f205M K)], tys, eqs, mts, K, [0, 1, 2, 4, 5, 6, 7, 8, 9, 20, 22, 32], [], []⟩
noncomputable def f81_b6 (K : Nat) (a0 : Int × tL × List Int) (a1 : List tM) (y1 : Int) (y2 : Bool) (y3 : List (List tV)) (L6 : Int → (List Int) → Option ((List Int) × Int)) (q7 : Int) (q8 : List Int) : Option ((List Int) × Int) :=
  (bif (decide (q7 < (y3.length : Int))) then (bif (decide (0 ≤ q7) && decide (q7 < (y3.length : Int))) then (bif (decide (0 ≤ (0 : Int)) && decide ((0 : Int) < ((y3.getD ((0 : Int) + q7).toNat []).length : Int))) then (f205G K a0 ((y3.getD ((0 : Int) + q7).toNat []).getD ((0 : Int) + (0 : Int)).toNat ((0 : Int), (0 : Int)))).bind fun y9 => (bif (Nat.ble (q8.length + [y9].length) (lim 8)) then L6 (w (q7 + (1 : Int))) (q8 ++ [y9]) else none) else none) else none) else some (q8, (0 : Int)))
noncomputable def f81_l6 (K : Nat) (a0 : Int × tL × List Int) (a1 : List tM) (y1 : Int) (y2 : Bool) (y3 : List (List tV)) (n : Nat) (q7 : Int) (q8 : List Int) : Option ((List Int) × Int) :=
  iter (X := Int × List Int) (fun L x => (fun L6 => f81_b6 K a0 a1 y1 y2 y3 L6 x.1 x.2) (fun v0 v1 => L (v0, v1))) n (q7, q8)
noncomputable def f81_fr6 (a0 : Int × tL × List Int) (a1 : List tM) (y1 : Int) (y2 : Bool) (y3 : List (List tV)) (q7 : Int) (q8 : List Int) : Fr := ⟨47, [(0, .v true [.int .i64 a0.1, .int .i64 a0.2.1.1, .int .i64 a0.2.1.2.1, .int .i64 a0.2.1.2.2, .row 0]), (1, .v false [.row 1]), (2, .v false [.box 0 0]), (4, .v false [.row 2]), (5, .v false [.int .i64 (0 : Int)]), (6, .v false [.int .i64 (5 : Int)]), (7, .v false [.row 3]), (8, .v false [.row 4]), (9, .v false [.int .i64 q7]), (20, .v false [.bool (bif (y1 == (0 : Int)) then (!y2) else false)]), (22, .v false [.bool ((5 : Int) != (0 : Int))])], [some ⟨true, [.int .i64 a0.1, .int .i64 a0.2.1.1, .int .i64 a0.2.1.2.1, .int .i64 a0.2.1.2.2, .row 0]⟩], [some ⟨2, sI, a0.2.2, .ro⟩, some ⟨57, sM, a1, .ro⟩, some ⟨2, sI, [], .own⟩, some ⟨58, (.list 55 sV), y3, .own⟩, some ⟨2, sI, q8, .own⟩]⟩
noncomputable def f81_b11 (K : Nat) (a0 : Int × tL × List Int) (a1 : List tM) (y1 : Int) (y2 : Bool) (y10 : List (List tV)) (L11 : Int → (List Int) → Option ((List Int) × Int)) (q12 : Int) (q13 : List Int) : Option ((List Int) × Int) :=
  (bif (decide (q12 < (y10.length : Int))) then (bif (decide (0 ≤ q12) && decide (q12 < (y10.length : Int))) then (bif (decide (0 ≤ (0 : Int)) && decide ((0 : Int) < ((y10.getD ((0 : Int) + q12).toNat []).length : Int))) then (f205G K a0 ((y10.getD ((0 : Int) + q12).toNat []).getD ((0 : Int) + (0 : Int)).toNat ((0 : Int), (0 : Int)))).bind fun y14 => (bif (Nat.ble (q13.length + [y14].length) (lim 8)) then L11 (w (q12 + (1 : Int))) (q13 ++ [y14]) else none) else none) else none) else some (q13, (0 : Int)))
noncomputable def f81_l11 (K : Nat) (a0 : Int × tL × List Int) (a1 : List tM) (y1 : Int) (y2 : Bool) (y10 : List (List tV)) (n : Nat) (q12 : Int) (q13 : List Int) : Option ((List Int) × Int) :=
  iter (X := Int × List Int) (fun L x => (fun L11 => f81_b11 K a0 a1 y1 y2 y10 L11 x.1 x.2) (fun v0 v1 => L (v0, v1))) n (q12, q13)
noncomputable def f81_fr11 (a0 : Int × tL × List Int) (a1 : List tM) (y1 : Int) (y2 : Bool) (y10 : List (List tV)) (q12 : Int) (q13 : List Int) : Fr := ⟨47, [(0, .v true [.int .i64 a0.1, .int .i64 a0.2.1.1, .int .i64 a0.2.1.2.1, .int .i64 a0.2.1.2.2, .row 0]), (1, .v false [.row 1]), (2, .v false [.box 0 0]), (4, .v false [.row 2]), (5, .v false [.int .i64 (0 : Int)]), (6, .v false [.int .i64 y1]), (7, .v false [.row 3]), (8, .v false [.row 4]), (9, .v false [.int .i64 q12]), (20, .v false [.bool (bif (y1 == (0 : Int)) then (!y2) else false)]), (22, .v false [.bool (y1 != (0 : Int))])], [some ⟨true, [.int .i64 a0.1, .int .i64 a0.2.1.1, .int .i64 a0.2.1.2.1, .int .i64 a0.2.1.2.2, .row 0]⟩], [some ⟨2, sI, a0.2.2, .ro⟩, some ⟨57, sM, a1, .ro⟩, some ⟨2, sI, [], .own⟩, some ⟨58, (.list 55 sV), y10, .own⟩, some ⟨2, sI, q13, .own⟩]⟩
noncomputable def f81_k6 (K : Nat) (a0 : Int × tL × List Int) (a1 : List tM) (lr : LR ((List Int) × Int)) : Ex → Fr → Option ((List Int) × Int) :=
  contC (f81E K) 2 lr f81C [1, 1, 1, 1, 1, 1, 0, 1, 0] (finK (f81E K) Tryz.f81 [(.ro, (.cons sI (.cons sL (.list 2 sI)))), (.ro, (.list 57 sM))] [(.list 2 sI), sI] (a0, a1, ()))
noncomputable def f81_k11 (K : Nat) (a0 : Int × tL × List Int) (a1 : List tM) (lr : LR ((List Int) × Int)) : Ex → Fr → Option ((List Int) × Int) :=
  contC (f81E K) 2 lr f81C [1, 1, 1, 1, 1, 1, 0, 1, 0] (finK (f81E K) Tryz.f81 [(.ro, (.cons sI (.cons sL (.list 2 sI)))), (.ro, (.list 57 sM))] [(.list 2 sI), sI] (a0, a1, ()))
noncomputable def f81_g (K : Nat) (a0 : Int × tL × List Int) (a1 : List tM) (I6 : Int → Bool → (List (List tV)) → Int → (List Int) → Option ((List Int) × Int)) (I11 : Int → Bool → (List (List tV)) → Int → (List Int) → Option ((List Int) × Int)) : Option ((List Int) × Int) :=
  (f203G K a0 a1).bind fun y1 => (bif ((!(y1 == (0 : Int))) || true) then (bif ((!(y1 == (0 : Int))) || true) then ((bif (y1 == (0 : Int)) then f204G K a0 a1 else some false)).bind fun y2 => (bif ((!(y1 == (0 : Int))) || true) then (bif (bif (y1 == (0 : Int)) then (!y2) else false) then (bif ((5 : Int) != (0 : Int)) then some ([], (5 : Int)) else (f182G K a0.2.1 a1).bind fun y3 => I6 y1 y2 y3 (0 : Int) []) else (bif (y1 != (0 : Int)) then some ([], y1) else (f182G K a0.2.1 a1).bind fun y10 => I11 y1 y2 y10 (0 : Int) [])) else none) else none) else none)
noncomputable def f81G (K : Nat) (a0 : Int × tL × List Int) (a1 : List tM) : Option ((List Int) × Int) :=
  f81_g K a0 a1 (fun c0 c1 c2 d0 d1 => f81_l6 K a0 a1 c0 c1 c2 K d0 d1) (fun c0 c1 c2 d0 d1 => f81_l11 K a0 a1 c0 c1 c2 K d0 d1)
noncomputable def f81M (K : Nat) : Mdl := ⟨[(.ro, (.cons sI (.cons sL (.list 2 sI)))), (.ro, (.list 57 sM))], [(.list 2 sI), sI], fun x => f81G K x.1 x.2.1⟩
/-! impl.IsKept -/
noncomputable def f74E (K : Nat) : Env := ⟨[(196, f196M K), (197, f197M K)], tys, eqs, mts, K, [0, 1, 2, 4, 5, 6, 11], [], []⟩
noncomputable def f74G (K : Nat) (a0 : Int × tL × List Int) (a1 : List tM) : Option (Bool × Int) :=
  (f196G K a0 a1).bind fun y1 => (bif (y1 != (0 : Int)) then some (false, y1) else (f197G K a0 a1).bind fun y2 => some (y2, (0 : Int)))
noncomputable def f74M (K : Nat) : Mdl := ⟨[(.ro, (.cons sI (.cons sL (.list 2 sI)))), (.ro, (.list 57 sM))], [.bool, sI], fun x => f74G K x.1 x.2.1⟩
/-! spec.IsKept -/
noncomputable def f82E (K : Nat) : Env := ⟨[(203, f203M K), (204, f204M K)], tys, eqs, mts, K, [0, 1, 2, 4, 5, 6, 11], [], []⟩
noncomputable def f82G (K : Nat) (a0 : Int × tL × List Int) (a1 : List tM) : Option (Bool × Int) :=
  (f203G K a0 a1).bind fun y1 => (bif (y1 != (0 : Int)) then some (false, y1) else (f204G K a0 a1).bind fun y2 => some (y2, (0 : Int)))
noncomputable def f82M (K : Nat) : Mdl := ⟨[(.ro, (.cons sI (.cons sL (.list 2 sI)))), (.ro, (.list 57 sM))], [.bool, sI], fun x => f82G K x.1 x.2.1⟩
/-! laws.likeInts -/
noncomputable def f56C : Code := codeOf Tryz.f56
noncomputable def f56E (K : Nat) : Env := ⟨[], tys, eqs, mts, K, [0, 1, 4, 5, 10, 14, 25], [], []⟩
noncomputable def f56_b2 (K : Nat) (a0 : List Int) (a1 : List Int) (L2 : Int → Option Bool) (q3 : Int) : Option Bool :=
  (bif (decide (q3 < (a0.length : Int))) then (bif (decide (0 ≤ q3) && decide (q3 < (a0.length : Int))) then (bif (decide (0 ≤ q3) && decide (q3 < (a1.length : Int))) then (bif ((a0.getD ((0 : Int) + q3).toNat (0 : Int)) != (a1.getD ((0 : Int) + q3).toNat (0 : Int))) then some false else L2 (w (q3 + (1 : Int)))) else none) else none) else some true)
noncomputable def f56_l2 (K : Nat) (a0 : List Int) (a1 : List Int) (n : Nat) (q3 : Int) : Option Bool :=
  iter (X := Int) (fun L x => (fun L2 => f56_b2 K a0 a1 L2 x) (fun v0 => L v0)) n q3
noncomputable def f56_fr2 (a0 : List Int) (a1 : List Int) (q3 : Int) : Fr := ⟨26, [(0, .v false [.row 0]), (1, .v false [.row 1]), (4, .v false [.bool false]), (5, .v false [.int .i64 q3]), (10, .v false [.bool ((a0.length : Int) != (a1.length : Int))])], [], [some ⟨2, sI, a0, .ro⟩, some ⟨2, sI, a1, .ro⟩]⟩
noncomputable def f56_k2 (K : Nat) (a0 : List Int) (a1 : List Int) (lr : LR Bool) : Ex → Fr → Option Bool :=
  contC (f56E K) 2 lr f56C [1, 1, 0, 1, 0] (finK (f56E K) Tryz.f56 [(.ro, (.list 2 sI)), (.ro, (.list 2 sI))] [.bool] (a0, a1, ()))
noncomputable def f56_g (K : Nat) (a0 : List Int) (a1 : List Int) (I2 : Int → Option Bool) : Option Bool :=
  (bif ((a0.length : Int) != (a1.length : Int)) then some false else I2 (0 : Int))
noncomputable def f56G (K : Nat) (a0 : List Int) (a1 : List Int) : Option Bool :=
  f56_g K a0 a1 (fun d0 => f56_l2 K a0 a1 K d0)
noncomputable def f56M (K : Nat) : Mdl := ⟨[(.ro, (.list 2 sI)), (.ro, (.list 2 sI))], [.bool], fun x => f56G K x.1 x.2.1⟩
/-! laws.likePatterns9 -/
noncomputable def f29E (K : Nat) : Env := ⟨[(56, f56M K)], tys, eqs, mts, K, [0, 1, 2, 3, 4], [], []⟩
noncomputable def f29G (K : Nat) (a0 : Int × tL × List Int) (a1 : Int × tL × List Int) : Option Bool :=
  (bif ((!(a0.1 == a1.1)) || true) then (bif ((!(a0.1 == a1.1)) || true) then (bif ((!(a0.1 == a1.1)) || true) then (bif ((!(a0.1 == a1.1)) || true) then (bif ((!(a0.1 == a1.1)) || true) then (bif ((!(bif (a0.1 == a1.1) then ((a0.2.1.1 == a1.2.1.1) && ((a0.2.1.2.1 == a1.2.1.2.1) && (a0.2.1.2.2 == a1.2.1.2.2))) else false)) || true) then (bif ((!(bif (a0.1 == a1.1) then ((a0.2.1.1 == a1.2.1.1) && ((a0.2.1.2.1 == a1.2.1.2.1) && (a0.2.1.2.2 == a1.2.1.2.2))) else false)) || true) then (bif ((!(bif (a0.1 == a1.1) then ((a0.2.1.1 == a1.2.1.1) && ((a0.2.1.2.1 == a1.2.1.2.1) && (a0.2.1.2.2 == a1.2.1.2.2))) else false)) || true) then (bif ((!(bif (a0.1 == a1.1) then ((a0.2.1.1 == a1.2.1.1) && ((a0.2.1.2.1 == a1.2.1.2.1) && (a0.2.1.2.2 == a1.2.1.2.2))) else false)) || true) then ((bif (bif (a0.1 == a1.1) then ((a0.2.1.1 == a1.2.1.1) && ((a0.2.1.2.1 == a1.2.1.2.1) && (a0.2.1.2.2 == a1.2.1.2.2))) else false) then f56G K a0.2.2 a1.2.2 else some false)).bind fun y1 => some (bif (bif (a0.1 == a1.1) then ((a0.2.1.1 == a1.2.1.1) && ((a0.2.1.2.1 == a1.2.1.2.1) && (a0.2.1.2.2 == a1.2.1.2.2))) else false) then y1 else false) else none) else none) else none) else none) else none) else none) else none) else none) else none)
noncomputable def f29M (K : Nat) : Mdl := ⟨[(.ro, (.cons sI (.cons sL (.list 2 sI)))), (.ro, (.cons sI (.cons sL (.list 2 sI))))], [.bool], fun x => f29G K x.1 x.2.1⟩
/-! laws.FnPainted -/
noncomputable def f9E (K : Nat) : Env := ⟨[(14, f14M K), (29, f29M K), (56, f56M K), (74, f74M K), (76, f76M K), (77, f77M K), (78, f78M K), (79, f79M K), (80, f80M K), (81, f81M K), (82, f82M K)], tys, eqs, mts, K, [0, 2, 3, 4, 5, 6, 7, 8, 9, 10, 11, 12, 13, 14, 15, 16, 17, 18, 19, 20, 21, 22, 23, 24, 25, 26, 28, 110, 118, 120, 138, 140], [], []⟩
noncomputable def f9G (K : Nat) (a0 : List Int) : Option Bool :=
  (f14G K a0).bind fun y1 => (bif y1 then some true else (f76G K a0).bind fun y2 => (f77G K y2.1 y2.2.1 y2.2.2.1 y2.2.2.2).bind fun y3 => (f78G K y2.1 y2.2.1 y2.2.2.1 y2.2.2.2).bind fun y4 => (f79G K a0).bind fun y5 => (f80G K y5.1 y5.2).bind fun y6 => (f81G K y5.1 y5.2).bind fun y7 => (f74G K y5.1 y5.2).bind fun y8 => (f82G K y5.1 y5.2).bind fun y9 => (bif ((!(!(y3.2 != y4.2))) || true) then (bif ((!(!(y3.2 != y4.2))) || true) then ((bif (!(y3.2 != y4.2)) then f29G K y3.1 y4.1 else some false)).bind fun y10 => (bif ((!(!(y3.2 != y4.2))) || true) then (bif ((!(!(bif (y3.2 != y4.2) then true else (!y10)))) || true) then (bif ((!(!(bif (y3.2 != y4.2) then true else (!y10)))) || true) then (bif ((!(!(bif (y3.2 != y4.2) then true else (!y10)))) || true) then (bif ((!(!(bif (bif (y3.2 != y4.2) then true else (!y10)) then true else (y6.2 != y7.2)))) || true) then (bif ((!(!(bif (bif (y3.2 != y4.2) then true else (!y10)) then true else (y6.2 != y7.2)))) || true) then ((bif (!(bif (bif (y3.2 != y4.2) then true else (!y10)) then true else (y6.2 != y7.2))) then f56G K y6.1 y7.1 else some false)).bind fun y11 => (bif ((!(!(bif (bif (y3.2 != y4.2) then true else (!y10)) then true else (y6.2 != y7.2)))) || true) then (bif ((!(!(bif (bif (bif (y3.2 != y4.2) then true else (!y10)) then true else (y6.2 != y7.2)) then true else (!y11)))) || true) then (bif ((!(!(bif (bif (bif (y3.2 != y4.2) then true else (!y10)) then true else (y6.2 != y7.2)) then true else (!y11)))) || true) then (bif ((!(!(bif (bif (bif (y3.2 != y4.2) then true else (!y10)) then true else (y6.2 != y7.2)) then true else (!y11)))) || true) then (bif ((!(!(bif (bif (bif (bif (y3.2 != y4.2) then true else (!y10)) then true else (y6.2 != y7.2)) then true else (!y11)) then true else (y8.2 != y9.2)))) || true) then (bif ((!(!(bif (bif (bif (bif (y3.2 != y4.2) then true else (!y10)) then true else (y6.2 != y7.2)) then true else (!y11)) then true else (y8.2 != y9.2)))) || true) then (bif ((!(!(bif (bif (bif (bif (y3.2 != y4.2) then true else (!y10)) then true else (y6.2 != y7.2)) then true else (!y11)) then true else (y8.2 != y9.2)))) || true) then (bif (bif (bif (bif (bif (bif (y3.2 != y4.2) then true else (!y10)) then true else (y6.2 != y7.2)) then true else (!y11)) then true else (y8.2 != y9.2)) then true else (y8.1 != y9.1)) then some false else (bif ((!(y8.2 == (0 : Int))) || true) then (bif ((!(y8.2 == (0 : Int))) || true) then (bif ((!(y8.2 == (0 : Int))) || true) then (bif ((!(y8.2 == (0 : Int))) || true) then (bif (bif (y8.2 == (0 : Int)) then ((y6.2 == (0 : Int)) != y8.1) else false) then some false else (bif (y6.2 == (0 : Int)) then (f77G K y5.1.1 y5.1.2.1 y5.2 y6.1).bind fun y12 => (bif ((!(!(y12.2 != (0 : Int)))) || true) then (bif ((!(!(y12.2 != (0 : Int)))) || true) then ((bif (!(y12.2 != (0 : Int))) then f29G K y12.1 y5.1 else some false)).bind fun y13 => (bif ((!(!(y12.2 != (0 : Int)))) || true) then (bif (bif (y12.2 != (0 : Int)) then true else (!y13)) then some false else (bif (y3.2 != (0 : Int)) then some true else (f74G K y3.1 y2.2.2.1).bind fun y14 => (f80G K y3.1 y2.2.2.1).bind fun y15 => (bif ((!(y14.2 == (0 : Int))) || true) then (bif ((!(bif (y14.2 == (0 : Int)) then y14.1 else false)) || true) then (bif ((!(bif (y14.2 == (0 : Int)) then y14.1 else false)) || true) then (bif ((!(bif (bif (y14.2 == (0 : Int)) then y14.1 else false) then (y15.2 == (0 : Int)) else false)) || true) then (bif ((!(bif (bif (y14.2 == (0 : Int)) then y14.1 else false) then (y15.2 == (0 : Int)) else false)) || true) then ((bif (bif (bif (y14.2 == (0 : Int)) then y14.1 else false) then (y15.2 == (0 : Int)) else false) then f56G K y15.1 y2.2.2.2 else some false)).bind fun y16 => some (bif (bif (bif (y14.2 == (0 : Int)) then y14.1 else false) then (y15.2 == (0 : Int)) else false) then y16 else false) else none) else none) else none) else none) else none))) else none) else none) else none) else (bif (y3.2 != (0 : Int)) then some true else (f74G K y3.1 y2.2.2.1).bind fun y17 => (f80G K y3.1 y2.2.2.1).bind fun y18 => (bif ((!(y17.2 == (0 : Int))) || true) then (bif ((!(bif (y17.2 == (0 : Int)) then y17.1 else false)) || true) then (bif ((!(bif (y17.2 == (0 : Int)) then y17.1 else false)) || true) then (bif ((!(bif (bif (y17.2 == (0 : Int)) then y17.1 else false) then (y18.2 == (0 : Int)) else false)) || true) then (bif ((!(bif (bif (y17.2 == (0 : Int)) then y17.1 else false) then (y18.2 == (0 : Int)) else false)) || true) then ((bif (bif (bif (y17.2 == (0 : Int)) then y17.1 else false) then (y18.2 == (0 : Int)) else false) then f56G K y18.1 y2.2.2.2 else some false)).bind fun y19 => some (bif (bif (bif (y17.2 == (0 : Int)) then y17.1 else false) then (y18.2 == (0 : Int)) else false) then y19 else false) else none) else none) else none) else none) else none)))) else none) else none) else none) else none)) else none) else none) else none) else none) else none) else none) else none) else none) else none) else none) else none) else none) else none) else none) else none))
noncomputable def f9M (K : Nat) : Mdl := ⟨[(.ro, (.list 5 (.int .u8)))], [.bool], fun x => f9G K x.1⟩
end Go.Proofs.YtniidcalfhhciaaGreat.X
