/-
  No cell of these rows narrows 'for every input' (looked for: loops, veiled, ifaces, maps, wideKeys, modest, calm, conditions, laid).
  DERIVED. THE GIVEN ROWS OF THIS SEAT. 12 by the template 'for every input the law returns true; each argument reads behind the call as it read before'; 0 by the template 'total and deterministic' (their statements: YtfccacobkcglcaaGreatTotals.lean).
  GIVEN WITH THE SEED: the statements are not yours to turn. If you find one false, say at which input.
  Laid BY PROGRAM, IN A SANDBOX (cutbox-rows.mjs): the forced cells as the released guide's own fill.sh prints them over the translation 42981ea90dcc51d9… (all of the seat's roots in one cut). By AI agents, Wed Nov 11 2026. No macro, syntax, notation, axiom, sorry.
-/
import Derived.Test.YtfccacobkcglcaaGreatChecked
import GoSem.Claim
import GoSem.ClaimJoined
import GoSem.ClaimMapViews
import Derived.JoinedTies
import Derived.KernelRfl
namespace Go.Proofs.YtfccacobkcglcaaGreat
/- THE CELL 'sum', in the pinned program and in every row, IS THE sha256 OF THE DUMP (.gsa) THAT YtfccacobkcglcaaGreatProg.lean LOADS. Nothing in Lean hashes anything: it is a label: what it is worth is what the hold of that sum in a sandbox is worth. -/
noncomputable def Tryz.pinned : Pinned := { name := "ytfccacobkcglcaagreat", sum := "42981ea90dcc51d92ab2b71c4d4b418fa4ce8758f43d1c07e518606709453581", checked := Tryz.checked }
namespace Rows
def none {H : Type} : Left H := { results := [], args := [] }

/-- 'laws.FnExactSameStrokes': WHATEVER THE INPUT: true; the input reads as it did. -/
def fnExactSameStrokesSpec : ChangeSpec := { name := "fnExactSameStrokes", fn := fun _ => fun
  | [d1, d2, d3, d4] => { results := [.lit (.bool true)], args := [d1, d2, d3, d4] }
  | _ => none }
def fnExactSameStrokesRow : OpenClaim := { program := "ytfccacobkcglcaagreat", sum := "42981ea90dcc51d92ab2b71c4d4b418fa4ce8758f43d1c07e518606709453581", func := "loop.example/g00943/laws.FnExactSameStrokes", spec := "fnExactSameStrokes", unfollowed := true, recurses := true, plainKeys := false, apart := false }
def FnExactSameStrokesSaid : Prop := fnExactSameStrokesRow.holds Tryz.pinned (OpenSpec.ofChange fnExactSameStrokesSpec)

/-- ITS FALSE NEIGHBOUR: 'it returns false'. Refute it at one input. -/
def fnExactSameStrokesWrong : ChangeSpec := { name := "fnExactSameStrokes", fn := fun _ => fun
  | [d1, d2, d3, d4] => { results := [.lit (.bool false)], args := [d1, d2, d3, d4] }
  | _ => none }
def FnExactSameStrokesWrongFalsely : Prop := fnExactSameStrokesRow.holds Tryz.pinned (OpenSpec.ofChange fnExactSameStrokesWrong)

/-- 'laws.FnExactPaintStrokes': WHATEVER THE INPUT: true; the input reads as it did. -/
def fnExactPaintStrokesSpec : ChangeSpec := { name := "fnExactPaintStrokes", fn := fun _ => fun
  | [d1, d2, d3] => { results := [.lit (.bool true)], args := [d1, d2, d3] }
  | _ => none }
def fnExactPaintStrokesRow : OpenClaim := { program := "ytfccacobkcglcaagreat", sum := "42981ea90dcc51d92ab2b71c4d4b418fa4ce8758f43d1c07e518606709453581", func := "loop.example/g00943/laws.FnExactPaintStrokes", spec := "fnExactPaintStrokes", unfollowed := true, recurses := true, plainKeys := false, apart := false }
def FnExactPaintStrokesSaid : Prop := fnExactPaintStrokesRow.holds Tryz.pinned (OpenSpec.ofChange fnExactPaintStrokesSpec)

/-- ITS FALSE NEIGHBOUR: 'it returns false'. Refute it at one input. -/
def fnExactPaintStrokesWrong : ChangeSpec := { name := "fnExactPaintStrokes", fn := fun _ => fun
  | [d1, d2, d3] => { results := [.lit (.bool false)], args := [d1, d2, d3] }
  | _ => none }
def FnExactPaintStrokesWrongFalsely : Prop := fnExactPaintStrokesRow.holds Tryz.pinned (OpenSpec.ofChange fnExactPaintStrokesWrong)

/-- 'laws.FnExactNeededStrokes': WHATEVER THE INPUT: true; the input reads as it did. -/
def fnExactNeededStrokesSpec : ChangeSpec := { name := "fnExactNeededStrokes", fn := fun _ => fun
  | [d1, d2, d3] => { results := [.lit (.bool true)], args := [d1, d2, d3] }
  | _ => none }
def fnExactNeededStrokesRow : OpenClaim := { program := "ytfccacobkcglcaagreat", sum := "42981ea90dcc51d92ab2b71c4d4b418fa4ce8758f43d1c07e518606709453581", func := "loop.example/g00943/laws.FnExactNeededStrokes", spec := "fnExactNeededStrokes", unfollowed := true, recurses := true, plainKeys := false, apart := false }
def FnExactNeededStrokesSaid : Prop := fnExactNeededStrokesRow.holds Tryz.pinned (OpenSpec.ofChange fnExactNeededStrokesSpec)

/-- ITS FALSE NEIGHBOUR: 'it returns false'. Refute it at one input. -/
def fnExactNeededStrokesWrong : ChangeSpec := { name := "fnExactNeededStrokes", fn := fun _ => fun
  | [d1, d2, d3] => { results := [.lit (.bool false)], args := [d1, d2, d3] }
  | _ => none }
def FnExactNeededStrokesWrongFalsely : Prop := fnExactNeededStrokesRow.holds Tryz.pinned (OpenSpec.ofChange fnExactNeededStrokesWrong)

/-- 'laws.FnExactStrokesFor': WHATEVER THE INPUT: true; the input reads as it did. -/
def fnExactStrokesForSpec : ChangeSpec := { name := "fnExactStrokesFor", fn := fun _ => fun
  | [d1, d2, d3] => { results := [.lit (.bool true)], args := [d1, d2, d3] }
  | _ => none }
def fnExactStrokesForRow : OpenClaim := { program := "ytfccacobkcglcaagreat", sum := "42981ea90dcc51d92ab2b71c4d4b418fa4ce8758f43d1c07e518606709453581", func := "loop.example/g00943/laws.FnExactStrokesFor", spec := "fnExactStrokesFor", unfollowed := true, recurses := true, plainKeys := false, apart := false }
def FnExactStrokesForSaid : Prop := fnExactStrokesForRow.holds Tryz.pinned (OpenSpec.ofChange fnExactStrokesForSpec)

/-- ITS FALSE NEIGHBOUR: 'it returns false'. Refute it at one input. -/
def fnExactStrokesForWrong : ChangeSpec := { name := "fnExactStrokesFor", fn := fun _ => fun
  | [d1, d2, d3] => { results := [.lit (.bool false)], args := [d1, d2, d3] }
  | _ => none }
def FnExactStrokesForWrongFalsely : Prop := fnExactStrokesForRow.holds Tryz.pinned (OpenSpec.ofChange fnExactStrokesForWrong)

/-- 'laws.FnExactFittingNames': WHATEVER THE INPUT: true; the input reads as it did. -/
def fnExactFittingNamesSpec : ChangeSpec := { name := "fnExactFittingNames", fn := fun _ => fun
  | [d1, d2] => { results := [.lit (.bool true)], args := [d1, d2] }
  | _ => none }
def fnExactFittingNamesRow : OpenClaim := { program := "ytfccacobkcglcaagreat", sum := "42981ea90dcc51d92ab2b71c4d4b418fa4ce8758f43d1c07e518606709453581", func := "loop.example/g00943/laws.FnExactFittingNames", spec := "fnExactFittingNames", unfollowed := true, recurses := true, plainKeys := false, apart := false }
def FnExactFittingNamesSaid : Prop := fnExactFittingNamesRow.holds Tryz.pinned (OpenSpec.ofChange fnExactFittingNamesSpec)

/-- ITS FALSE NEIGHBOUR: 'it returns false'. Refute it at one input. -/
def fnExactFittingNamesWrong : ChangeSpec := { name := "fnExactFittingNames", fn := fun _ => fun
  | [d1, d2] => { results := [.lit (.bool false)], args := [d1, d2] }
  | _ => none }
def FnExactFittingNamesWrongFalsely : Prop := fnExactFittingNamesRow.holds Tryz.pinned (OpenSpec.ofChange fnExactFittingNamesWrong)

/-- 'laws.FnExactOpenOrbits': WHATEVER THE INPUT: true; the input reads as it did. -/
def fnExactOpenOrbitsSpec : ChangeSpec := { name := "fnExactOpenOrbits", fn := fun _ => fun
  | [d1, d2, d3, d4] => { results := [.lit (.bool true)], args := [d1, d2, d3, d4] }
  | _ => none }
def fnExactOpenOrbitsRow : OpenClaim := { program := "ytfccacobkcglcaagreat", sum := "42981ea90dcc51d92ab2b71c4d4b418fa4ce8758f43d1c07e518606709453581", func := "loop.example/g00943/laws.FnExactOpenOrbits", spec := "fnExactOpenOrbits", unfollowed := true, recurses := true, plainKeys := false, apart := false }
def FnExactOpenOrbitsSaid : Prop := fnExactOpenOrbitsRow.holds Tryz.pinned (OpenSpec.ofChange fnExactOpenOrbitsSpec)

/-- ITS FALSE NEIGHBOUR: 'it returns false'. Refute it at one input. -/
def fnExactOpenOrbitsWrong : ChangeSpec := { name := "fnExactOpenOrbits", fn := fun _ => fun
  | [d1, d2, d3, d4] => { results := [.lit (.bool false)], args := [d1, d2, d3, d4] }
  | _ => none }
def FnExactOpenOrbitsWrongFalsely : Prop := fnExactOpenOrbitsRow.holds Tryz.pinned (OpenSpec.ofChange fnExactOpenOrbitsWrong)

/-- 'laws.FnExactTwoColourings': WHATEVER THE INPUT: true; the input reads as it did. -/
def fnExactTwoColouringsSpec : ChangeSpec := { name := "fnExactTwoColourings", fn := fun _ => fun
  | [d1, d2, d3, d4] => { results := [.lit (.bool true)], args := [d1, d2, d3, d4] }
  | _ => none }
def fnExactTwoColouringsRow : OpenClaim := { program := "ytfccacobkcglcaagreat", sum := "42981ea90dcc51d92ab2b71c4d4b418fa4ce8758f43d1c07e518606709453581", func := "loop.example/g00943/laws.FnExactTwoColourings", spec := "fnExactTwoColourings", unfollowed := true, recurses := true, plainKeys := false, apart := false }
def FnExactTwoColouringsSaid : Prop := fnExactTwoColouringsRow.holds Tryz.pinned (OpenSpec.ofChange fnExactTwoColouringsSpec)

/-- ITS FALSE NEIGHBOUR: 'it returns false'. Refute it at one input. -/
def fnExactTwoColouringsWrong : ChangeSpec := { name := "fnExactTwoColourings", fn := fun _ => fun
  | [d1, d2, d3, d4] => { results := [.lit (.bool false)], args := [d1, d2, d3, d4] }
  | _ => none }
def FnExactTwoColouringsWrongFalsely : Prop := fnExactTwoColouringsRow.holds Tryz.pinned (OpenSpec.ofChange fnExactTwoColouringsWrong)

/-- 'laws.FnGroupTilings': WHATEVER THE INPUT: true; the input reads as it did. -/
def fnGroupTilingsSpec : ChangeSpec := { name := "fnGroupTilings", fn := fun _ => fun
  | [d] => { results := [.lit (.bool true)], args := [d] }
  | _ => none }
def fnGroupTilingsRow : OpenClaim := { program := "ytfccacobkcglcaagreat", sum := "42981ea90dcc51d92ab2b71c4d4b418fa4ce8758f43d1c07e518606709453581", func := "loop.example/g00943/laws.FnGroupTilings", spec := "fnGroupTilings", unfollowed := true, recurses := true, plainKeys := false, apart := false }
def FnGroupTilingsSaid : Prop := fnGroupTilingsRow.holds Tryz.pinned (OpenSpec.ofChange fnGroupTilingsSpec)

/-- ITS FALSE NEIGHBOUR: 'it returns false'. Refute it at one input. -/
def fnGroupTilingsWrong : ChangeSpec := { name := "fnGroupTilings", fn := fun _ => fun
  | [d] => { results := [.lit (.bool false)], args := [d] }
  | _ => none }
def FnGroupTilingsWrongFalsely : Prop := fnGroupTilingsRow.holds Tryz.pinned (OpenSpec.ofChange fnGroupTilingsWrong)

/-- 'laws.FnStrokes': WHATEVER THE INPUT: true; the input reads as it did. -/
def fnStrokesSpec : ChangeSpec := { name := "fnStrokes", fn := fun _ => fun
  | [d] => { results := [.lit (.bool true)], args := [d] }
  | _ => none }
def fnStrokesRow : OpenClaim := { program := "ytfccacobkcglcaagreat", sum := "42981ea90dcc51d92ab2b71c4d4b418fa4ce8758f43d1c07e518606709453581", func := "loop.example/g00943/laws.FnStrokes", spec := "fnStrokes", unfollowed := true, recurses := true, plainKeys := false, apart := false }
def FnStrokesSaid : Prop := fnStrokesRow.holds Tryz.pinned (OpenSpec.ofChange fnStrokesSpec)

/-- ITS FALSE NEIGHBOUR: 'it returns false'. Refute it at one input. -/
def fnStrokesWrong : ChangeSpec := { name := "fnStrokes", fn := fun _ => fun
  | [d] => { results := [.lit (.bool false)], args := [d] }
  | _ => none }
def FnStrokesWrongFalsely : Prop := fnStrokesRow.holds Tryz.pinned (OpenSpec.ofChange fnStrokesWrong)

/-- 'laws.FnFitting': WHATEVER THE INPUT: true; the input reads as it did. -/
def fnFittingSpec : ChangeSpec := { name := "fnFitting", fn := fun _ => fun
  | [d] => { results := [.lit (.bool true)], args := [d] }
  | _ => none }
def fnFittingRow : OpenClaim := { program := "ytfccacobkcglcaagreat", sum := "42981ea90dcc51d92ab2b71c4d4b418fa4ce8758f43d1c07e518606709453581", func := "loop.example/g00943/laws.FnFitting", spec := "fnFitting", unfollowed := true, recurses := true, plainKeys := false, apart := false }
def FnFittingSaid : Prop := fnFittingRow.holds Tryz.pinned (OpenSpec.ofChange fnFittingSpec)

/-- ITS FALSE NEIGHBOUR: 'it returns false'. Refute it at one input. -/
def fnFittingWrong : ChangeSpec := { name := "fnFitting", fn := fun _ => fun
  | [d] => { results := [.lit (.bool false)], args := [d] }
  | _ => none }
def FnFittingWrongFalsely : Prop := fnFittingRow.holds Tryz.pinned (OpenSpec.ofChange fnFittingWrong)

/-- 'laws.FnCompleted': WHATEVER THE INPUT: true; the input reads as it did. -/
def fnCompletedSpec : ChangeSpec := { name := "fnCompleted", fn := fun _ => fun
  | [d] => { results := [.lit (.bool true)], args := [d] }
  | _ => none }
def fnCompletedRow : OpenClaim := { program := "ytfccacobkcglcaagreat", sum := "42981ea90dcc51d92ab2b71c4d4b418fa4ce8758f43d1c07e518606709453581", func := "loop.example/g00943/laws.FnCompleted", spec := "fnCompleted", unfollowed := true, recurses := true, plainKeys := false, apart := false }
def FnCompletedSaid : Prop := fnCompletedRow.holds Tryz.pinned (OpenSpec.ofChange fnCompletedSpec)

/-- ITS FALSE NEIGHBOUR: 'it returns false'. Refute it at one input. -/
def fnCompletedWrong : ChangeSpec := { name := "fnCompleted", fn := fun _ => fun
  | [d] => { results := [.lit (.bool false)], args := [d] }
  | _ => none }
def FnCompletedWrongFalsely : Prop := fnCompletedRow.holds Tryz.pinned (OpenSpec.ofChange fnCompletedWrong)

/-- 'laws.FnCounts': WHATEVER THE INPUT: true; the input reads as it did. -/
def fnCountsSpec : ChangeSpec := { name := "fnCounts", fn := fun _ => fun
  | [d] => { results := [.lit (.bool true)], args := [d] }
  | _ => none }
def fnCountsRow : OpenClaim := { program := "ytfccacobkcglcaagreat", sum := "42981ea90dcc51d92ab2b71c4d4b418fa4ce8758f43d1c07e518606709453581", func := "loop.example/g00943/laws.FnCounts", spec := "fnCounts", unfollowed := true, recurses := true, plainKeys := false, apart := false }
def FnCountsSaid : Prop := fnCountsRow.holds Tryz.pinned (OpenSpec.ofChange fnCountsSpec)

/-- ITS FALSE NEIGHBOUR: 'it returns false'. Refute it at one input. -/
def fnCountsWrong : ChangeSpec := { name := "fnCounts", fn := fun _ => fun
  | [d] => { results := [.lit (.bool false)], args := [d] }
  | _ => none }
def FnCountsWrongFalsely : Prop := fnCountsRow.holds Tryz.pinned (OpenSpec.ofChange fnCountsWrong)

/- THE SECOND FORM. 'bulk': how many values and letters a reading holds, each counted each time it is reached (what is shared counts as often as it is met; a slice's spare places count too). A statement '..UptoSaid' is the law's where the arguments, and the package variables that the reading takes, are together of bulk at most 1048576: NARROWER than '..Said'. Prove '..Said' where nothing that the law and all that it calls make is longer than what came in: it says more and counts as full. Else prove '..UptoSaid'. A law counts once. -/
mutual
def uptoBulk {H : Type} : DataW H → Nat
  | .lit (.string bytes) => bytes.length + 1
  | .lit _ => 1
  | .nil => 1
  | .ptr d => uptoBulk d + 1
  | .slice elems spare => uptoBulkAll elems + uptoBulkAll spare + 1
  | .agg parts => uptoBulkAll parts + 1
  | .iface _ d => uptoBulk d + 1
  | .map entries => uptoBulkEntries entries + 1
  | .held _ => 1
def uptoBulkAll {H : Type} : List (DataW H) → Nat
  | [] => 0
  | d :: r => uptoBulk d + uptoBulkAll r
def uptoBulkEntries {H : Type} : List (Lit × DataW H) → Nat
  | [] => 0
  | x :: r => uptoBulkEntry x + uptoBulkEntries r
def uptoBulkEntry {H : Type} : Lit × DataW H → Nat
  | (.string bytes, d) => bytes.length + uptoBulk d + 1
  | (_, d) => uptoBulk d + 1
 end
def uptoSmall : (H : Type) → List (DataW H) → Bool := fun _ ds => decide (uptoBulkAll ds ≤ 1048576)
def OpenSpec.upto (s : _root_.Go.ChangeSpec) : _root_.Go.OpenSpec := { _root_.Go.OpenSpec.ofChange s with cond := some uptoSmall }

/-- 'laws.FnExactSameStrokes', WHERE WHAT IT READS IS OF BULK AT MOST 1048576: true; the input reads as it did. -/
def fnExactSameStrokesUptoRow : OpenClaim := { program := "ytfccacobkcglcaagreat", sum := "42981ea90dcc51d92ab2b71c4d4b418fa4ce8758f43d1c07e518606709453581", func := "loop.example/g00943/laws.FnExactSameStrokes", spec := "fnExactSameStrokes", unfollowed := true, recurses := true, plainKeys := false, apart := false, narrowed := true }
def FnExactSameStrokesUptoSaid : Prop := fnExactSameStrokesUptoRow.holds Tryz.pinned (OpenSpec.upto fnExactSameStrokesSpec)

/-- 'laws.FnExactPaintStrokes', WHERE WHAT IT READS IS OF BULK AT MOST 1048576: true; the input reads as it did. -/
def fnExactPaintStrokesUptoRow : OpenClaim := { program := "ytfccacobkcglcaagreat", sum := "42981ea90dcc51d92ab2b71c4d4b418fa4ce8758f43d1c07e518606709453581", func := "loop.example/g00943/laws.FnExactPaintStrokes", spec := "fnExactPaintStrokes", unfollowed := true, recurses := true, plainKeys := false, apart := false, narrowed := true }
def FnExactPaintStrokesUptoSaid : Prop := fnExactPaintStrokesUptoRow.holds Tryz.pinned (OpenSpec.upto fnExactPaintStrokesSpec)

/-- 'laws.FnExactNeededStrokes', WHERE WHAT IT READS IS OF BULK AT MOST 1048576: true; the input reads as it did. -/
def fnExactNeededStrokesUptoRow : OpenClaim := { program := "ytfccacobkcglcaagreat", sum := "42981ea90dcc51d92ab2b71c4d4b418fa4ce8758f43d1c07e518606709453581", func := "loop.example/g00943/laws.FnExactNeededStrokes", spec := "fnExactNeededStrokes", unfollowed := true, recurses := true, plainKeys := false, apart := false, narrowed := true }
def FnExactNeededStrokesUptoSaid : Prop := fnExactNeededStrokesUptoRow.holds Tryz.pinned (OpenSpec.upto fnExactNeededStrokesSpec)

/-- 'laws.FnExactStrokesFor', WHERE WHAT IT READS IS OF BULK AT MOST 1048576: true; the input reads as it did. -/
def fnExactStrokesForUptoRow : OpenClaim := { program := "ytfccacobkcglcaagreat", sum := "42981ea90dcc51d92ab2b71c4d4b418fa4ce8758f43d1c07e518606709453581", func := "loop.example/g00943/laws.FnExactStrokesFor", spec := "fnExactStrokesFor", unfollowed := true, recurses := true, plainKeys := false, apart := false, narrowed := true }
def FnExactStrokesForUptoSaid : Prop := fnExactStrokesForUptoRow.holds Tryz.pinned (OpenSpec.upto fnExactStrokesForSpec)

/-- 'laws.FnExactFittingNames', WHERE WHAT IT READS IS OF BULK AT MOST 1048576: true; the input reads as it did. -/
def fnExactFittingNamesUptoRow : OpenClaim := { program := "ytfccacobkcglcaagreat", sum := "42981ea90dcc51d92ab2b71c4d4b418fa4ce8758f43d1c07e518606709453581", func := "loop.example/g00943/laws.FnExactFittingNames", spec := "fnExactFittingNames", unfollowed := true, recurses := true, plainKeys := false, apart := false, narrowed := true }
def FnExactFittingNamesUptoSaid : Prop := fnExactFittingNamesUptoRow.holds Tryz.pinned (OpenSpec.upto fnExactFittingNamesSpec)

/-- 'laws.FnExactOpenOrbits', WHERE WHAT IT READS IS OF BULK AT MOST 1048576: true; the input reads as it did. -/
def fnExactOpenOrbitsUptoRow : OpenClaim := { program := "ytfccacobkcglcaagreat", sum := "42981ea90dcc51d92ab2b71c4d4b418fa4ce8758f43d1c07e518606709453581", func := "loop.example/g00943/laws.FnExactOpenOrbits", spec := "fnExactOpenOrbits", unfollowed := true, recurses := true, plainKeys := false, apart := false, narrowed := true }
def FnExactOpenOrbitsUptoSaid : Prop := fnExactOpenOrbitsUptoRow.holds Tryz.pinned (OpenSpec.upto fnExactOpenOrbitsSpec)

/-- 'laws.FnExactTwoColourings', WHERE WHAT IT READS IS OF BULK AT MOST 1048576: true; the input reads as it did. -/
def fnExactTwoColouringsUptoRow : OpenClaim := { program := "ytfccacobkcglcaagreat", sum := "42981ea90dcc51d92ab2b71c4d4b418fa4ce8758f43d1c07e518606709453581", func := "loop.example/g00943/laws.FnExactTwoColourings", spec := "fnExactTwoColourings", unfollowed := true, recurses := true, plainKeys := false, apart := false, narrowed := true }
def FnExactTwoColouringsUptoSaid : Prop := fnExactTwoColouringsUptoRow.holds Tryz.pinned (OpenSpec.upto fnExactTwoColouringsSpec)

/-- 'laws.FnGroupTilings', WHERE WHAT IT READS IS OF BULK AT MOST 1048576: true; the input reads as it did. -/
def fnGroupTilingsUptoRow : OpenClaim := { program := "ytfccacobkcglcaagreat", sum := "42981ea90dcc51d92ab2b71c4d4b418fa4ce8758f43d1c07e518606709453581", func := "loop.example/g00943/laws.FnGroupTilings", spec := "fnGroupTilings", unfollowed := true, recurses := true, plainKeys := false, apart := false, narrowed := true }
def FnGroupTilingsUptoSaid : Prop := fnGroupTilingsUptoRow.holds Tryz.pinned (OpenSpec.upto fnGroupTilingsSpec)

/-- 'laws.FnStrokes', WHERE WHAT IT READS IS OF BULK AT MOST 1048576: true; the input reads as it did. -/
def fnStrokesUptoRow : OpenClaim := { program := "ytfccacobkcglcaagreat", sum := "42981ea90dcc51d92ab2b71c4d4b418fa4ce8758f43d1c07e518606709453581", func := "loop.example/g00943/laws.FnStrokes", spec := "fnStrokes", unfollowed := true, recurses := true, plainKeys := false, apart := false, narrowed := true }
def FnStrokesUptoSaid : Prop := fnStrokesUptoRow.holds Tryz.pinned (OpenSpec.upto fnStrokesSpec)

/-- 'laws.FnFitting', WHERE WHAT IT READS IS OF BULK AT MOST 1048576: true; the input reads as it did. -/
def fnFittingUptoRow : OpenClaim := { program := "ytfccacobkcglcaagreat", sum := "42981ea90dcc51d92ab2b71c4d4b418fa4ce8758f43d1c07e518606709453581", func := "loop.example/g00943/laws.FnFitting", spec := "fnFitting", unfollowed := true, recurses := true, plainKeys := false, apart := false, narrowed := true }
def FnFittingUptoSaid : Prop := fnFittingUptoRow.holds Tryz.pinned (OpenSpec.upto fnFittingSpec)

/-- 'laws.FnCompleted', WHERE WHAT IT READS IS OF BULK AT MOST 1048576: true; the input reads as it did. -/
def fnCompletedUptoRow : OpenClaim := { program := "ytfccacobkcglcaagreat", sum := "42981ea90dcc51d92ab2b71c4d4b418fa4ce8758f43d1c07e518606709453581", func := "loop.example/g00943/laws.FnCompleted", spec := "fnCompleted", unfollowed := true, recurses := true, plainKeys := false, apart := false, narrowed := true }
def FnCompletedUptoSaid : Prop := fnCompletedUptoRow.holds Tryz.pinned (OpenSpec.upto fnCompletedSpec)

/-- 'laws.FnCounts', WHERE WHAT IT READS IS OF BULK AT MOST 1048576: true; the input reads as it did. -/
def fnCountsUptoRow : OpenClaim := { program := "ytfccacobkcglcaagreat", sum := "42981ea90dcc51d92ab2b71c4d4b418fa4ce8758f43d1c07e518606709453581", func := "loop.example/g00943/laws.FnCounts", spec := "fnCounts", unfollowed := true, recurses := true, plainKeys := false, apart := false, narrowed := true }
def FnCountsUptoSaid : Prop := fnCountsUptoRow.holds Tryz.pinned (OpenSpec.upto fnCountsSpec)

end Rows
end Go.Proofs.YtfccacobkcglcaaGreat
