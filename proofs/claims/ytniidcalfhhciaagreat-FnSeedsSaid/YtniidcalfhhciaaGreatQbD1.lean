/- Functions of the program as plain Lean functions, and that the program does what they say. Printed by gen.py. -/
import Derived.Test.YtniidcalfhhciaaGreatQbD0
namespace Go.Proofs.YtniidcalfhhciaaGreat.X
open Go
set_option maxRecDepth 100000
set_option linter.unusedVariables false
/-! impl.IsPattern -/
noncomputable def f125E (K : Nat) : Env := ⟨[(133, f133M K), (184, f184M K), (199, f199M K), (256, f256M K)], tys, eqs, mts, K, [0, 1, 2], [], []⟩
noncomputable def f125G (K : Nat) (a0 : Int × tL × List Int) : Option Bool :=
  (f256G K a0.1).bind fun y1 => (bif ((!y1) || true) then (bif ((!y1) || true) then ((bif y1 then f184G K a0.2.1 else some false)).bind fun y2 => (bif ((!(bif y1 then y2 else false)) || true) then (bif ((!(bif y1 then y2 else false)) || true) then (bif ((!(bif y1 then y2 else false)) || true) then (bif ((!(bif y1 then y2 else false)) || true) then (bif ((!(bif y1 then y2 else false)) || true) then ((bif (bif y1 then y2 else false) then f133G K a0.2.1 else some (0 : Int))).bind fun y3 => (bif ((!(bif y1 then y2 else false)) || true) then (bif ((!(bif (bif y1 then y2 else false) then ((a0.2.2.length : Int) == y3) else false)) || true) then (bif ((!(bif (bif y1 then y2 else false) then ((a0.2.2.length : Int) == y3) else false)) || true) then ((bif (bif (bif y1 then y2 else false) then ((a0.2.2.length : Int) == y3) else false) then f199G K a0.2.2 (0 : Int) (9 : Int) else some false)).bind fun y4 => some (bif (bif (bif y1 then y2 else false) then ((a0.2.2.length : Int) == y3) else false) then y4 else false) else none) else none) else none) else none) else none) else none) else none) else none) else none) else none)
noncomputable def f125M (K : Nat) : Mdl := ⟨[(.ro, (.cons sI (.cons sL (.list 2 sI))))], [.bool], fun x => f125G K x.1⟩
/-! impl.keptCode -/
noncomputable def f196E (K : Nat) : Env := ⟨[(125, f125M K), (198, f198M K)], tys, eqs, mts, K, [0, 1, 2, 4, 7], [], []⟩
noncomputable def f196G (K : Nat) (a0 : Int × tL × List Int) (a1 : List tM) : Option Int :=
  (f125G K a0).bind fun y1 => (bif (!y1) then some (1 : Int) else (f198G K a0.1 a0.2.1 [a1]).bind fun y2 => some y2)
noncomputable def f196M (K : Nat) : Mdl := ⟨[(.ro, (.cons sI (.cons sL (.list 2 sI)))), (.ro, (.list 57 sM))], [sI], fun x => f196G K x.1 x.2.1⟩
/-! (impl.Pattern).at -/
noncomputable def f177E (K : Nat) : Env := ⟨[(163, f163M K), (176, f176M K)], tys, eqs, mts, K, [0, 1, 2, 3, 4], [], []⟩
noncomputable def f177G (K : Nat) (a0 : Int × tL × List Int) (a1 : Int × Int) : Option Int :=
  (f176G K a0.2.1 a1).bind fun y1 => (f163G K a0.2.1 y1).bind fun y2 => (bif (decide (0 ≤ y2) && decide (y2 < (a0.2.2.length : Int))) then some (a0.2.2.getD ((0 : Int) + y2).toNat (0 : Int)) else none)
noncomputable def f177M (K : Nat) : Mdl := ⟨[(.ro, (.cons sI (.cons sL (.list 2 sI)))), (.ro, sV)], [sI], fun x => f177G K x.1 x.2.1⟩
/-! (impl.Pattern).keeps -/
noncomputable def f267C : Code := codeOf Tryz.f267
noncomputable def f267E (K : Nat) : Env := ⟨[(174, f174M K), (177, f177M K), (185, f185M K)], tys, eqs, mts, K, [0, 1, 2, 3, 4, 5, 6, 9, 10, 11, 12, 26], [], []⟩
noncomputable def f267_b5 (K : Nat) (a0 : Int × tL × List Int) (a1 : tA × Int × Int) (y1 : List tV) (L5 : Int → Option Bool) (q6 : Int) : Option Bool :=
  (bif (decide (q6 < (y1.length : Int))) then (bif (decide (0 ≤ q6) && decide (q6 < (y1.length : Int))) then (f174G K a1 (y1.getD ((0 : Int) + q6).toNat ((0 : Int), (0 : Int)))).bind fun y7 => (f177G K a0 y7).bind fun y8 => (bif (decide (0 ≤ q6) && decide (q6 < (a0.2.2.length : Int))) then (bif (y8 != (a0.2.2.getD ((0 : Int) + q6).toNat (0 : Int))) then some false else L5 (w (q6 + (1 : Int)))) else none) else none) else some true)
noncomputable def f267_l5 (K : Nat) (a0 : Int × tL × List Int) (a1 : tA × Int × Int) (y1 : List tV) (n : Nat) (q6 : Int) : Option Bool :=
  iter (X := Int) (fun L x => (fun L5 => f267_b5 K a0 a1 y1 L5 x) (fun v0 => L v0)) n q6
noncomputable def f267_fr5 (a0 : Int × tL × List Int) (a1 : tA × Int × Int) (y1 : List tV) (q6 : Int) : Fr := ⟨28, [(0, .v true [.int .i64 a0.1, .int .i64 a0.2.1.1, .int .i64 a0.2.1.2.1, .int .i64 a0.2.1.2.2, .row 0]), (1, .v true [.int .i64 a1.1.1, .int .i64 a1.1.2.1, .int .i64 a1.1.2.2.1, .int .i64 a1.1.2.2.2, .int .i64 a1.2.1, .int .i64 a1.2.2]), (2, .v false [.box 0 0]), (3, .v false [.box 1 0]), (4, .v false [.bool false]), (9, .v false [.row 1]), (10, .v false [.int .i64 (y1.length : Int)]), (11, .v false [.int .i64 q6])], [some ⟨true, [.int .i64 a0.1, .int .i64 a0.2.1.1, .int .i64 a0.2.1.2.1, .int .i64 a0.2.1.2.2, .row 0]⟩, some ⟨true, [.int .i64 a1.1.1, .int .i64 a1.1.2.1, .int .i64 a1.1.2.2.1, .int .i64 a1.1.2.2.2, .int .i64 a1.2.1, .int .i64 a1.2.2]⟩], [some ⟨2, sI, a0.2.2, .ro⟩, some ⟨55, sV, y1, .own⟩]⟩
noncomputable def f267_k5 (K : Nat) (a0 : Int × tL × List Int) (a1 : tA × Int × Int) (lr : LR Bool) : Ex → Fr → Option Bool :=
  contC (f267E K) 1 lr f267C [1, 0, 1, 0] (finK (f267E K) Tryz.f267 [(.ro, (.cons sI (.cons sL (.list 2 sI)))), (.ro, sM)] [.bool] (a0, a1, ()))
noncomputable def f267_g (K : Nat) (a0 : Int × tL × List Int) (a1 : tA × Int × Int) (I5 : (List tV) → Int → Option Bool) : Option Bool :=
  (f185G K a0.2.1).bind fun y1 => I5 y1 (0 : Int)
noncomputable def f267G (K : Nat) (a0 : Int × tL × List Int) (a1 : tA × Int × Int) : Option Bool :=
  f267_g K a0 a1 (fun c0 d0 => f267_l5 K a0 a1 c0 K d0)
noncomputable def f267M (K : Nat) : Mdl := ⟨[(.ro, (.cons sI (.cons sL (.list 2 sI)))), (.ro, sM)], [.bool], fun x => f267G K x.1 x.2.1⟩
/-! impl.isKept -/
noncomputable def f197C : Code := codeOf Tryz.f197
noncomputable def f197E (K : Nat) : Env := ⟨[(267, f267M K)], tys, eqs, mts, K, [0, 1, 2, 4, 6, 7, 8, 9, 10, 16], [], []⟩
noncomputable def f197_b3 (K : Nat) (a0 : Int × tL × List Int) (a1 : List tM) (L3 : Int → Option Bool) (q4 : Int) : Option Bool :=
  (bif (decide (q4 < (a1.length : Int))) then (bif (decide (0 ≤ q4) && decide (q4 < (a1.length : Int))) then (f267G K a0 ((((a1.getD ((0 : Int) + q4).toNat zM).1).1, (((a1.getD ((0 : Int) + q4).toNat zM).1).2).1, ((((a1.getD ((0 : Int) + q4).toNat zM).1).2).2)), ((a1.getD ((0 : Int) + q4).toNat zM).2))).bind fun y5 => (bif (!y5) then some false else L3 (w (q4 + (1 : Int)))) else none) else some true)
noncomputable def f197_l3 (K : Nat) (a0 : Int × tL × List Int) (a1 : List tM) (n : Nat) (q4 : Int) : Option Bool :=
  iter (X := Int) (fun L x => (fun L3 => f197_b3 K a0 a1 L3 x) (fun v0 => L v0)) n q4
noncomputable def f197_fr3 (a0 : Int × tL × List Int) (a1 : List tM) (q4 : Int) : Fr := ⟨18, [(0, .v true [.int .i64 a0.1, .int .i64 a0.2.1.1, .int .i64 a0.2.1.2.1, .int .i64 a0.2.1.2.2, .row 0]), (1, .v false [.row 1]), (2, .v false [.box 0 0]), (4, .v false [.bool false]), (7, .v false [.row 1]), (8, .v false [.int .i64 (a1.length : Int)]), (9, .v false [.int .i64 q4])], [some ⟨true, [.int .i64 a0.1, .int .i64 a0.2.1.1, .int .i64 a0.2.1.2.1, .int .i64 a0.2.1.2.2, .row 0]⟩], [some ⟨2, sI, a0.2.2, .ro⟩, some ⟨57, sM, a1, .ro⟩]⟩
noncomputable def f197_k3 (K : Nat) (a0 : Int × tL × List Int) (a1 : List tM) (lr : LR Bool) : Ex → Fr → Option Bool :=
  contC (f197E K) 2 lr f197C [1, 0, 1, 0] (finK (f197E K) Tryz.f197 [(.ro, (.cons sI (.cons sL (.list 2 sI)))), (.ro, (.list 57 sM))] [.bool] (a0, a1, ()))
noncomputable def f197_g (K : Nat) (a0 : Int × tL × List Int) (a1 : List tM) (I3 : Int → Option Bool) : Option Bool :=
  I3 (0 : Int)
noncomputable def f197G (K : Nat) (a0 : Int × tL × List Int) (a1 : List tM) : Option Bool :=
  f197_g K a0 a1 (fun d0 => f197_l3 K a0 a1 K d0)
noncomputable def f197M (K : Nat) : Mdl := ⟨[(.ro, (.cons sI (.cons sL (.list 2 sI)))), (.ro, (.list 57 sM))], [.bool], fun x => f197G K x.1 x.2.1⟩
/-! impl.IsKept -/
noncomputable def f74E (K : Nat) : Env := ⟨[(196, f196M K), (197, f197M K)], tys, eqs, mts, K, [0, 1, 2, 4, 5, 6, 11], [], []⟩
noncomputable def f74G (K : Nat) (a0 : Int × tL × List Int) (a1 : List tM) : Option (Bool × Int) :=
  (f196G K a0 a1).bind fun y1 => (bif (y1 != (0 : Int)) then some (false, y1) else (f197G K a0 a1).bind fun y2 => some (y2, (0 : Int)))
noncomputable def f74M (K : Nat) : Mdl := ⟨[(.ro, (.cons sI (.cons sL (.list 2 sI)))), (.ro, (.list 57 sM))], [.bool, sI], fun x => f74G K x.1 x.2.1⟩
/-! laws.sum -/
noncomputable def f75C : Code := codeOf Tryz.f75
noncomputable def f75E (K : Nat) : Env := ⟨[], tys, eqs, mts, K, [0, 2, 3, 4, 8], [], []⟩
noncomputable def f75_b2 (K : Nat) (a0 : List Int) (L2 : Int → Int → Option Int) (q3 : Int) (q4 : Int) : Option Int :=
  (bif (decide (q4 < (a0.length : Int))) then (bif (decide (0 ≤ q4) && decide (q4 < (a0.length : Int))) then L2 (w (q3 + (a0.getD ((0 : Int) + q4).toNat (0 : Int)))) (w (q4 + (1 : Int))) else none) else some q3)
noncomputable def f75_l2 (K : Nat) (a0 : List Int) (n : Nat) (q3 : Int) (q4 : Int) : Option Int :=
  iter (X := Int × Int) (fun L x => (fun L2 => f75_b2 K a0 L2 x.1 x.2) (fun v0 v1 => L (v0, v1))) n (q3, q4)
noncomputable def f75_fr2 (a0 : List Int) (q3 : Int) (q4 : Int) : Fr := ⟨18, [(0, .v false [.row 0]), (2, .v false [.int .i64 (0 : Int)]), (3, .v false [.int .i64 q3]), (4, .v false [.int .i64 q4])], [], [some ⟨2, sI, a0, .ro⟩]⟩
noncomputable def f75_k2 (K : Nat) (a0 : List Int) (lr : LR Int) : Ex → Fr → Option Int :=
  contC (f75E K) 1 lr f75C [1, 1, 0, 1, 0] (finK (f75E K) Tryz.f75 [(.ro, (.list 2 sI))] [sI] (a0, ()))
noncomputable def f75_g (K : Nat) (a0 : List Int) (I2 : Int → Int → Option Int) : Option Int :=
  I2 (0 : Int) (0 : Int)
noncomputable def f75G (K : Nat) (a0 : List Int) : Option Int :=
  f75_g K a0 (fun d0 d1 => f75_l2 K a0 K d0 d1)
noncomputable def f75M (K : Nat) : Mdl := ⟨[(.ro, (.list 2 sI))], [sI], fun x => f75G K x.1⟩
/-! laws.FnSeeds -/
noncomputable def f8C : Code := codeOf Tryz.f8
noncomputable def f8E (K : Nat) : Env := ⟨[(14, f14M K), (29, f29M K), (54, f54M K), (67, f67M K), (68, f68M K), (69, f69M K), (70, f70M K), (71, f71M K), (72, f72M K), (73, f73M K), (74, f74M K), (75, f75M K)], tys, eqs, mts, K, [0, 2, 3, 4, 5, 6, 7, 8, 9, 10, 11, 12, 13, 14, 15, 16, 17, 18, 19, 20, 21, 22, 23, 24, 25, 26, 28, 93, 95, 105, 117, 119], [], []⟩
noncomputable def f8_b11 (K : Nat) (a0 : List Int) (y1 : Bool) (y2 : Int × tL × (List tM) × Int × Int) (y3 : (Int × tL × List Int) × Int) (y4 : (Int × tL × List Int) × Int) (y5 : Int × tL × (List tM) × Int) (y6 : Int × Int) (y7 : Int × Int) (y8 : Bool) (y9 : Int × Int) (L11 : Int → Int → Option Bool) (q12 : Int) (q13 : Int) : Option Bool :=
  (bif (decide (q13 < y9.1)) then L11 (w (q12 * y5.2.2.2)) (w (q13 + (1 : Int))) else (bif ((!(!(y9.2 != (0 : Int)))) || true) then (bif ((!(!(y9.2 != (0 : Int)))) || true) then (bif ((!(!(y9.2 != (0 : Int)))) || true) then (bif (bif (y9.2 != (0 : Int)) then true else (q12 != y6.1)) then some false else (bif (y3.2 != (0 : Int)) then some true else (f73G K y2.1 y2.2.1 y2.2.2.1 y2.2.2.2).bind fun y14 => (f74G K y3.1 y2.2.2.1).bind fun y15 => (bif ((!(y14.2 == (0 : Int))) || true) then (bif ((!(y14.2 == (0 : Int))) || true) then ((bif (y14.2 == (0 : Int)) then f75G K y3.1.2.2 else some (0 : Int))).bind fun y16 => (bif ((!(y14.2 == (0 : Int))) || true) then (bif ((!(y14.2 == (0 : Int))) || true) then (bif ((!(y14.2 == (0 : Int))) || true) then (bif ((!(bif (y14.2 == (0 : Int)) then (y16 == (y14.1.length : Int)) else false)) || true) then (bif ((!(bif (y14.2 == (0 : Int)) then (y16 == (y14.1.length : Int)) else false)) || true) then (bif ((!(bif (bif (y14.2 == (0 : Int)) then (y16 == (y14.1.length : Int)) else false) then (y15.2 == (0 : Int)) else false)) || true) then some (bif (bif (bif (y14.2 == (0 : Int)) then (y16 == (y14.1.length : Int)) else false) then (y15.2 == (0 : Int)) else false) then y15.1 else false) else none) else none) else none) else none) else none) else none) else none) else none))) else none) else none) else none))
noncomputable def f8_l11 (K : Nat) (a0 : List Int) (y1 : Bool) (y2 : Int × tL × (List tM) × Int × Int) (y3 : (Int × tL × List Int) × Int) (y4 : (Int × tL × List Int) × Int) (y5 : Int × tL × (List tM) × Int) (y6 : Int × Int) (y7 : Int × Int) (y8 : Bool) (y9 : Int × Int) (n : Nat) (q12 : Int) (q13 : Int) : Option Bool :=
  iter (X := Int × Int) (fun L x => (fun L11 => f8_b11 K a0 y1 y2 y3 y4 y5 y6 y7 y8 y9 L11 x.1 x.2) (fun v0 v1 => L (v0, v1))) n (q12, q13)
noncomputable def f8_fr11 (a0 : List Int) (y1 : Bool) (y2 : Int × tL × (List tM) × Int × Int) (y3 : (Int × tL × List Int) × Int) (y4 : (Int × tL × List Int) × Int) (y5 : Int × tL × (List tM) × Int) (y6 : Int × Int) (y7 : Int × Int) (y8 : Bool) (y9 : Int × Int) (q12 : Int) (q13 : Int) : Fr := ⟨151, [(0, .v false [.row 0]), (2, .v false [.bool false]), (3, .v false [.int .i64 y2.1]), (4, .v false [.box 0 0]), (5, .v false [.row 1]), (6, .v false [.box 1 0]), (7, .v false [.box 2 0]), (8, .v false [.int .i64 y3.2]), (9, .v false [.box 3 0]), (10, .v false [.int .i64 y4.2]), (11, .v false [.int .i64 y5.1]), (12, .v false [.box 4 0]), (13, .v false [.row 2]), (14, .v false [.int .i64 y5.2.2.2]), (15, .v false [.int .i64 y6.1]), (16, .v false [.int .i64 y6.2]), (17, .v false [.int .i64 y7.1]), (18, .v false [.int .i64 y7.2]), (19, .v false [.int .i64 y9.1]), (20, .v false [.int .i64 y9.2]), (21, .v false [.int .i64 q12]), (22, .v false [.int .i64 q13]), (28, .v false [.bool y1]), (93, .v false [.bool (bif (bif (bif (y3.2 != y4.2) then true else (!y8)) then true else (y6.2 != y7.2)) then true else (y6.1 != y7.1))]), (95, .v false [.bool (y6.2 == (0 : Int))])], [some ⟨true, [.int .i64 y2.2.1.1, .int .i64 y2.2.1.2.1, .int .i64 y2.2.1.2.2]⟩, some ⟨true, [.int .i64 y2.2.2.2.1, .int .i64 y2.2.2.2.2]⟩, some ⟨true, [.int .i64 y3.1.1, .int .i64 y3.1.2.1.1, .int .i64 y3.1.2.1.2.1, .int .i64 y3.1.2.1.2.2, .row 3]⟩, some ⟨true, [.int .i64 y4.1.1, .int .i64 y4.1.2.1.1, .int .i64 y4.1.2.1.2.1, .int .i64 y4.1.2.1.2.2, .row 4]⟩, some ⟨true, [.int .i64 y5.2.1.1, .int .i64 y5.2.1.2.1, .int .i64 y5.2.1.2.2]⟩], [some ⟨5, (.int .u8), a0, .ro⟩, some ⟨57, sM, y2.2.2.1, .own⟩, some ⟨57, sM, y5.2.2.1, .own⟩, some ⟨2, sI, y3.1.2.2, .own⟩, some ⟨2, sI, y4.1.2.2, .own⟩]⟩
noncomputable def f8_k11 (K : Nat) (a0 : List Int) (lr : LR Bool) : Ex → Fr → Option Bool :=
  contC (f8E K) 1 lr f8C [1, 1, 1, 1, 1, 1, 1, 1, 1, 0, 1, 0, 1, 1, 0, 1, 0] (finK (f8E K) Tryz.f8 [(.ro, (.list 5 (.int .u8)))] [.bool] (a0, ()))
noncomputable def f8_g (K : Nat) (a0 : List Int) (I11 : Bool → (Int × tL × (List tM) × Int × Int) → ((Int × tL × List Int) × Int) → ((Int × tL × List Int) × Int) → (Int × tL × (List tM) × Int) → tV → tV → Bool → tV → Int → Int → Option Bool) : Option Bool :=
  (f14G K a0).bind fun y1 => (bif y1 then some true else (f67G K a0).bind fun y2 => (f68G K y2.1 y2.2.1 y2.2.2.1 y2.2.2.2).bind fun y3 => (f69G K y2.1 y2.2.1 y2.2.2.1 y2.2.2.2).bind fun y4 => (f70G K a0).bind fun y5 => (f71G K y5.1 y5.2.1 y5.2.2.1 y5.2.2.2).bind fun y6 => (f72G K y5.1 y5.2.1 y5.2.2.1 y5.2.2.2).bind fun y7 => (bif ((!(!(y3.2 != y4.2))) || true) then (bif ((!(!(y3.2 != y4.2))) || true) then ((bif (!(y3.2 != y4.2)) then f29G K y3.1 y4.1 else some false)).bind fun y8 => (bif ((!(!(y3.2 != y4.2))) || true) then (bif ((!(!(bif (y3.2 != y4.2) then true else (!y8)))) || true) then (bif ((!(!(bif (y3.2 != y4.2) then true else (!y8)))) || true) then (bif ((!(!(bif (y3.2 != y4.2) then true else (!y8)))) || true) then (bif ((!(!(bif (bif (y3.2 != y4.2) then true else (!y8)) then true else (y6.2 != y7.2)))) || true) then (bif ((!(!(bif (bif (y3.2 != y4.2) then true else (!y8)) then true else (y6.2 != y7.2)))) || true) then (bif ((!(!(bif (bif (y3.2 != y4.2) then true else (!y8)) then true else (y6.2 != y7.2)))) || true) then (bif (bif (bif (bif (y3.2 != y4.2) then true else (!y8)) then true else (y6.2 != y7.2)) then true else (y6.1 != y7.1)) then some false else (bif (y6.2 == (0 : Int)) then (f54G K y5.1 y5.2.1 y5.2.2.1).bind fun y9 => I11 y1 y2 y3 y4 y5 y6 y7 y8 y9 (1 : Int) (0 : Int) else (bif (y3.2 != (0 : Int)) then some true else (f73G K y2.1 y2.2.1 y2.2.2.1 y2.2.2.2).bind fun y17 => (f74G K y3.1 y2.2.2.1).bind fun y18 => (bif ((!(y17.2 == (0 : Int))) || true) then (bif ((!(y17.2 == (0 : Int))) || true) then ((bif (y17.2 == (0 : Int)) then f75G K y3.1.2.2 else some (0 : Int))).bind fun y19 => (bif ((!(y17.2 == (0 : Int))) || true) then (bif ((!(y17.2 == (0 : Int))) || true) then (bif ((!(y17.2 == (0 : Int))) || true) then (bif ((!(bif (y17.2 == (0 : Int)) then (y19 == (y17.1.length : Int)) else false)) || true) then (bif ((!(bif (y17.2 == (0 : Int)) then (y19 == (y17.1.length : Int)) else false)) || true) then (bif ((!(bif (bif (y17.2 == (0 : Int)) then (y19 == (y17.1.length : Int)) else false) then (y18.2 == (0 : Int)) else false)) || true) then some (bif (bif (bif (y17.2 == (0 : Int)) then (y19 == (y17.1.length : Int)) else false) then (y18.2 == (0 : Int)) else false) then y18.1 else false) else none) else none) else none) else none) else none) else none) else none) else none)))) else none) else none) else none) else none) else none) else none) else none) else none) else none))
noncomputable def f8G (K : Nat) (a0 : List Int) : Option Bool :=
  f8_g K a0 (fun c0 c1 c2 c3 c4 c5 c6 c7 c8 d0 d1 => f8_l11 K a0 c0 c1 c2 c3 c4 c5 c6 c7 c8 K d0 d1)
noncomputable def f8M (K : Nat) : Mdl := ⟨[(.ro, (.list 5 (.int .u8)))], [.bool], fun x => f8G K x.1⟩
end Go.Proofs.YtniidcalfhhciaaGreat.X
