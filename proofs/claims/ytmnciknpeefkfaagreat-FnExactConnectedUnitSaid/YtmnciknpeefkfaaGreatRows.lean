/-
  No cell of these rows narrows 'for every input' (looked for: loops, veiled, ifaces, maps, wideKeys, modest, calm, conditions, laid).
  DERIVED. THE GIVEN ROWS OF THIS SEAT. 10 by the template 'for every input the law returns true; each argument reads behind the call as it read before'; 0 by the template 'total and deterministic' (their statements: YtmnciknpeefkfaaGreatTotals.lean).
  GIVEN WITH THE SEED: the statements are not yours to turn. If you find one false, say at which input.
  Laid BY PROGRAM, IN A SANDBOX (cutbox-rows.mjs): the forced cells as the released guide's own fill.sh prints them over the translation f6928cbe53066b83… (all of the seat's roots in one cut). By AI agents, Wed Nov 11 2026. No macro, syntax, notation, axiom, sorry.
-/
import Derived.Test.YtmnciknpeefkfaaGreatChecked
import GoSem.Claim
import GoSem.ClaimJoined
import GoSem.ClaimMapViews
import Derived.JoinedTies
import Derived.KernelRfl
namespace Go.Proofs.YtmnciknpeefkfaaGreat
/- THE CELL 'sum', in the pinned program and in every row, IS THE sha256 OF THE DUMP (.gsa) THAT YtmnciknpeefkfaaGreatProg.lean LOADS. Nothing in Lean hashes anything: it is a label: what it is worth is what the hold of that sum in a sandbox is worth. -/
noncomputable def Tryz.pinned : Pinned := { name := "ytmnciknpeefkfaagreat", sum := "f6928cbe53066b83c1ac61d0d5d3295340eaf55be44f5b0fbb044feb157a6c28", checked := Tryz.checked }
namespace Rows
def none {H : Type} : Left H := { results := [], args := [] }

/-- 'laws.FnExactCountKept': WHATEVER THE INPUT: true; the input reads as it did. -/
def fnExactCountKeptSpec : ChangeSpec := { name := "fnExactCountKept", fn := fun _ => fun
  | [d1, d2, d3, d4] => { results := [.lit (.bool true)], args := [d1, d2, d3, d4] }
  | _ => none }
def fnExactCountKeptRow : OpenClaim := { program := "ytmnciknpeefkfaagreat", sum := "f6928cbe53066b83c1ac61d0d5d3295340eaf55be44f5b0fbb044feb157a6c28", func := "loop.example/g00943/laws.FnExactCountKept", spec := "fnExactCountKept", unfollowed := true, recurses := true, plainKeys := false, apart := false }
def FnExactCountKeptSaid : Prop := fnExactCountKeptRow.holds Tryz.pinned (OpenSpec.ofChange fnExactCountKeptSpec)

/-- ITS FALSE NEIGHBOUR: 'it returns false'. Refute it at one input. -/
def fnExactCountKeptWrong : ChangeSpec := { name := "fnExactCountKept", fn := fun _ => fun
  | [d1, d2, d3, d4] => { results := [.lit (.bool false)], args := [d1, d2, d3, d4] }
  | _ => none }
def FnExactCountKeptWrongFalsely : Prop := fnExactCountKeptRow.holds Tryz.pinned (OpenSpec.ofChange fnExactCountKeptWrong)

/-- 'laws.FnExactSitesOf': WHATEVER THE INPUT: true; the input reads as it did. -/
def fnExactSitesOfSpec : ChangeSpec := { name := "fnExactSitesOf", fn := fun _ => fun
  | [d] => { results := [.lit (.bool true)], args := [d] }
  | _ => none }
def fnExactSitesOfRow : OpenClaim := { program := "ytmnciknpeefkfaagreat", sum := "f6928cbe53066b83c1ac61d0d5d3295340eaf55be44f5b0fbb044feb157a6c28", func := "loop.example/g00943/laws.FnExactSitesOf", spec := "fnExactSitesOf", unfollowed := true, recurses := true, plainKeys := false, apart := false }
def FnExactSitesOfSaid : Prop := fnExactSitesOfRow.holds Tryz.pinned (OpenSpec.ofChange fnExactSitesOfSpec)

/-- ITS FALSE NEIGHBOUR: 'it returns false'. Refute it at one input. -/
def fnExactSitesOfWrong : ChangeSpec := { name := "fnExactSitesOf", fn := fun _ => fun
  | [d] => { results := [.lit (.bool false)], args := [d] }
  | _ => none }
def FnExactSitesOfWrongFalsely : Prop := fnExactSitesOfRow.holds Tryz.pinned (OpenSpec.ofChange fnExactSitesOfWrong)

/-- 'laws.FnExactTwoColourPattern': WHATEVER THE INPUT: true; the input reads as it did. -/
def fnExactTwoColourPatternSpec : ChangeSpec := { name := "fnExactTwoColourPattern", fn := fun _ => fun
  | [d1, d2, d3, d4, d5] => { results := [.lit (.bool true)], args := [d1, d2, d3, d4, d5] }
  | _ => none }
def fnExactTwoColourPatternRow : OpenClaim := { program := "ytmnciknpeefkfaagreat", sum := "f6928cbe53066b83c1ac61d0d5d3295340eaf55be44f5b0fbb044feb157a6c28", func := "loop.example/g00943/laws.FnExactTwoColourPattern", spec := "fnExactTwoColourPattern", unfollowed := true, recurses := true, plainKeys := false, apart := false }
def FnExactTwoColourPatternSaid : Prop := fnExactTwoColourPatternRow.holds Tryz.pinned (OpenSpec.ofChange fnExactTwoColourPatternSpec)

/-- ITS FALSE NEIGHBOUR: 'it returns false'. Refute it at one input. -/
def fnExactTwoColourPatternWrong : ChangeSpec := { name := "fnExactTwoColourPattern", fn := fun _ => fun
  | [d1, d2, d3, d4, d5] => { results := [.lit (.bool false)], args := [d1, d2, d3, d4, d5] }
  | _ => none }
def FnExactTwoColourPatternWrongFalsely : Prop := fnExactTwoColourPatternRow.holds Tryz.pinned (OpenSpec.ofChange fnExactTwoColourPatternWrong)

/-- 'laws.FnExactConflictOf': WHATEVER THE INPUT: true; the input reads as it did. -/
def fnExactConflictOfSpec : ChangeSpec := { name := "fnExactConflictOf", fn := fun _ => fun
  | [d1, d2, d3, d4] => { results := [.lit (.bool true)], args := [d1, d2, d3, d4] }
  | _ => none }
def fnExactConflictOfRow : OpenClaim := { program := "ytmnciknpeefkfaagreat", sum := "f6928cbe53066b83c1ac61d0d5d3295340eaf55be44f5b0fbb044feb157a6c28", func := "loop.example/g00943/laws.FnExactConflictOf", spec := "fnExactConflictOf", unfollowed := true, recurses := true, plainKeys := false, apart := false }
def FnExactConflictOfSaid : Prop := fnExactConflictOfRow.holds Tryz.pinned (OpenSpec.ofChange fnExactConflictOfSpec)

/-- ITS FALSE NEIGHBOUR: 'it returns false'. Refute it at one input. -/
def fnExactConflictOfWrong : ChangeSpec := { name := "fnExactConflictOf", fn := fun _ => fun
  | [d1, d2, d3, d4] => { results := [.lit (.bool false)], args := [d1, d2, d3, d4] }
  | _ => none }
def FnExactConflictOfWrongFalsely : Prop := fnExactConflictOfRow.holds Tryz.pinned (OpenSpec.ofChange fnExactConflictOfWrong)

/-- 'laws.FnExactPaintOrbits': WHATEVER THE INPUT: true; the input reads as it did. -/
def fnExactPaintOrbitsSpec : ChangeSpec := { name := "fnExactPaintOrbits", fn := fun _ => fun
  | [d1, d2, d3, d4] => { results := [.lit (.bool true)], args := [d1, d2, d3, d4] }
  | _ => none }
def fnExactPaintOrbitsRow : OpenClaim := { program := "ytmnciknpeefkfaagreat", sum := "f6928cbe53066b83c1ac61d0d5d3295340eaf55be44f5b0fbb044feb157a6c28", func := "loop.example/g00943/laws.FnExactPaintOrbits", spec := "fnExactPaintOrbits", unfollowed := true, recurses := true, plainKeys := false, apart := false }
def FnExactPaintOrbitsSaid : Prop := fnExactPaintOrbitsRow.holds Tryz.pinned (OpenSpec.ofChange fnExactPaintOrbitsSpec)

/-- ITS FALSE NEIGHBOUR: 'it returns false'. Refute it at one input. -/
def fnExactPaintOrbitsWrong : ChangeSpec := { name := "fnExactPaintOrbits", fn := fun _ => fun
  | [d1, d2, d3, d4] => { results := [.lit (.bool false)], args := [d1, d2, d3, d4] }
  | _ => none }
def FnExactPaintOrbitsWrongFalsely : Prop := fnExactPaintOrbitsRow.holds Tryz.pinned (OpenSpec.ofChange fnExactPaintOrbitsWrong)

/-- 'laws.FnExactTwoColourings': WHATEVER THE INPUT: true; the input reads as it did. -/
def fnExactTwoColouringsSpec : ChangeSpec := { name := "fnExactTwoColourings", fn := fun _ => fun
  | [d1, d2, d3, d4] => { results := [.lit (.bool true)], args := [d1, d2, d3, d4] }
  | _ => none }
def fnExactTwoColouringsRow : OpenClaim := { program := "ytmnciknpeefkfaagreat", sum := "f6928cbe53066b83c1ac61d0d5d3295340eaf55be44f5b0fbb044feb157a6c28", func := "loop.example/g00943/laws.FnExactTwoColourings", spec := "fnExactTwoColourings", unfollowed := true, recurses := true, plainKeys := false, apart := false }
def FnExactTwoColouringsSaid : Prop := fnExactTwoColouringsRow.holds Tryz.pinned (OpenSpec.ofChange fnExactTwoColouringsSpec)

/-- ITS FALSE NEIGHBOUR: 'it returns false'. Refute it at one input. -/
def fnExactTwoColouringsWrong : ChangeSpec := { name := "fnExactTwoColourings", fn := fun _ => fun
  | [d1, d2, d3, d4] => { results := [.lit (.bool false)], args := [d1, d2, d3, d4] }
  | _ => none }
def FnExactTwoColouringsWrongFalsely : Prop := fnExactTwoColouringsRow.holds Tryz.pinned (OpenSpec.ofChange fnExactTwoColouringsWrong)

/-- 'laws.FnExactConnectedUnit': WHATEVER THE INPUT: true; the input reads as it did. -/
def fnExactConnectedUnitSpec : ChangeSpec := { name := "fnExactConnectedUnit", fn := fun _ => fun
  | [d1, d2, d3] => { results := [.lit (.bool true)], args := [d1, d2, d3] }
  | _ => none }
def fnExactConnectedUnitRow : OpenClaim := { program := "ytmnciknpeefkfaagreat", sum := "f6928cbe53066b83c1ac61d0d5d3295340eaf55be44f5b0fbb044feb157a6c28", func := "loop.example/g00943/laws.FnExactConnectedUnit", spec := "fnExactConnectedUnit", unfollowed := true, recurses := true, plainKeys := false, apart := false }
def FnExactConnectedUnitSaid : Prop := fnExactConnectedUnitRow.holds Tryz.pinned (OpenSpec.ofChange fnExactConnectedUnitSpec)

/-- ITS FALSE NEIGHBOUR: 'it returns false'. Refute it at one input. -/
def fnExactConnectedUnitWrong : ChangeSpec := { name := "fnExactConnectedUnit", fn := fun _ => fun
  | [d1, d2, d3] => { results := [.lit (.bool false)], args := [d1, d2, d3] }
  | _ => none }
def FnExactConnectedUnitWrongFalsely : Prop := fnExactConnectedUnitRow.holds Tryz.pinned (OpenSpec.ofChange fnExactConnectedUnitWrong)

/-- 'laws.FnExactOpenOrbits': WHATEVER THE INPUT: true; the input reads as it did. -/
def fnExactOpenOrbitsSpec : ChangeSpec := { name := "fnExactOpenOrbits", fn := fun _ => fun
  | [d1, d2, d3, d4] => { results := [.lit (.bool true)], args := [d1, d2, d3, d4] }
  | _ => none }
def fnExactOpenOrbitsRow : OpenClaim := { program := "ytmnciknpeefkfaagreat", sum := "f6928cbe53066b83c1ac61d0d5d3295340eaf55be44f5b0fbb044feb157a6c28", func := "loop.example/g00943/laws.FnExactOpenOrbits", spec := "fnExactOpenOrbits", unfollowed := true, recurses := true, plainKeys := false, apart := false }
def FnExactOpenOrbitsSaid : Prop := fnExactOpenOrbitsRow.holds Tryz.pinned (OpenSpec.ofChange fnExactOpenOrbitsSpec)

/-- ITS FALSE NEIGHBOUR: 'it returns false'. Refute it at one input. -/
def fnExactOpenOrbitsWrong : ChangeSpec := { name := "fnExactOpenOrbits", fn := fun _ => fun
  | [d1, d2, d3, d4] => { results := [.lit (.bool false)], args := [d1, d2, d3, d4] }
  | _ => none }
def FnExactOpenOrbitsWrongFalsely : Prop := fnExactOpenOrbitsRow.holds Tryz.pinned (OpenSpec.ofChange fnExactOpenOrbitsWrong)

/-- 'laws.FnExactOrbitColours': WHATEVER THE INPUT: true; the input reads as it did. -/
def fnExactOrbitColoursSpec : ChangeSpec := { name := "fnExactOrbitColours", fn := fun _ => fun
  | [d1, d2] => { results := [.lit (.bool true)], args := [d1, d2] }
  | _ => none }
def fnExactOrbitColoursRow : OpenClaim := { program := "ytmnciknpeefkfaagreat", sum := "f6928cbe53066b83c1ac61d0d5d3295340eaf55be44f5b0fbb044feb157a6c28", func := "loop.example/g00943/laws.FnExactOrbitColours", spec := "fnExactOrbitColours", unfollowed := true, recurses := true, plainKeys := false, apart := false }
def FnExactOrbitColoursSaid : Prop := fnExactOrbitColoursRow.holds Tryz.pinned (OpenSpec.ofChange fnExactOrbitColoursSpec)

/-- ITS FALSE NEIGHBOUR: 'it returns false'. Refute it at one input. -/
def fnExactOrbitColoursWrong : ChangeSpec := { name := "fnExactOrbitColours", fn := fun _ => fun
  | [d1, d2] => { results := [.lit (.bool false)], args := [d1, d2] }
  | _ => none }
def FnExactOrbitColoursWrongFalsely : Prop := fnExactOrbitColoursRow.holds Tryz.pinned (OpenSpec.ofChange fnExactOrbitColoursWrong)

/-- 'laws.FnExactCompleteMarks': WHATEVER THE INPUT: true; the input reads as it did. -/
def fnExactCompleteMarksSpec : ChangeSpec := { name := "fnExactCompleteMarks", fn := fun _ => fun
  | [d1, d2, d3, d4, d5] => { results := [.lit (.bool true)], args := [d1, d2, d3, d4, d5] }
  | _ => none }
def fnExactCompleteMarksRow : OpenClaim := { program := "ytmnciknpeefkfaagreat", sum := "f6928cbe53066b83c1ac61d0d5d3295340eaf55be44f5b0fbb044feb157a6c28", func := "loop.example/g00943/laws.FnExactCompleteMarks", spec := "fnExactCompleteMarks", unfollowed := true, recurses := true, plainKeys := false, apart := false }
def FnExactCompleteMarksSaid : Prop := fnExactCompleteMarksRow.holds Tryz.pinned (OpenSpec.ofChange fnExactCompleteMarksSpec)

/-- ITS FALSE NEIGHBOUR: 'it returns false'. Refute it at one input. -/
def fnExactCompleteMarksWrong : ChangeSpec := { name := "fnExactCompleteMarks", fn := fun _ => fun
  | [d1, d2, d3, d4, d5] => { results := [.lit (.bool false)], args := [d1, d2, d3, d4, d5] }
  | _ => none }
def FnExactCompleteMarksWrongFalsely : Prop := fnExactCompleteMarksRow.holds Tryz.pinned (OpenSpec.ofChange fnExactCompleteMarksWrong)

/- THE SECOND FORM. 'bulk': how many values and letters a reading holds, each counted each time it is reached (what is shared counts as often as it is met; a slice's spare places count too). A statement '..UptoSaid' is the law's where the arguments, and the package variables that the reading takes, are together of bulk at most 1048576: NARROWER than '..Said'. Prove '..Said' where nothing that the law and all that it calls make is longer than what came in: it says more and counts as full. Else prove '..UptoSaid'. A law counts once. -/
mutual
def uptoBulk {H : Type} : DataW H → Nat
  | .lit (.string bytes) => bytes.length + 1
  | .lit _ => 1
  | .nil => 1
  | .ptr d => uptoBulk d + 1
  | .slice elems spare => uptoBulkAll elems + uptoBulkAll spare + 1
  | .agg parts => uptoBulkAll parts + 1
  | .iface _ d => uptoBulk d + 1
  | .map entries => uptoBulkEntries entries + 1
  | .held _ => 1
def uptoBulkAll {H : Type} : List (DataW H) → Nat
  | [] => 0
  | d :: r => uptoBulk d + uptoBulkAll r
def uptoBulkEntries {H : Type} : List (Lit × DataW H) → Nat
  | [] => 0
  | x :: r => uptoBulkEntry x + uptoBulkEntries r
def uptoBulkEntry {H : Type} : Lit × DataW H → Nat
  | (.string bytes, d) => bytes.length + uptoBulk d + 1
  | (_, d) => uptoBulk d + 1
 end
def uptoSmall : (H : Type) → List (DataW H) → Bool := fun _ ds => decide (uptoBulkAll ds ≤ 1048576)
def OpenSpec.upto (s : _root_.Go.ChangeSpec) : _root_.Go.OpenSpec := { _root_.Go.OpenSpec.ofChange s with cond := some uptoSmall }

/-- 'laws.FnExactCountKept', WHERE WHAT IT READS IS OF BULK AT MOST 1048576: true; the input reads as it did. -/
def fnExactCountKeptUptoRow : OpenClaim := { program := "ytmnciknpeefkfaagreat", sum := "f6928cbe53066b83c1ac61d0d5d3295340eaf55be44f5b0fbb044feb157a6c28", func := "loop.example/g00943/laws.FnExactCountKept", spec := "fnExactCountKept", unfollowed := true, recurses := true, plainKeys := false, apart := false, narrowed := true }
def FnExactCountKeptUptoSaid : Prop := fnExactCountKeptUptoRow.holds Tryz.pinned (OpenSpec.upto fnExactCountKeptSpec)

/-- 'laws.FnExactSitesOf', WHERE WHAT IT READS IS OF BULK AT MOST 1048576: true; the input reads as it did. -/
def fnExactSitesOfUptoRow : OpenClaim := { program := "ytmnciknpeefkfaagreat", sum := "f6928cbe53066b83c1ac61d0d5d3295340eaf55be44f5b0fbb044feb157a6c28", func := "loop.example/g00943/laws.FnExactSitesOf", spec := "fnExactSitesOf", unfollowed := true, recurses := true, plainKeys := false, apart := false, narrowed := true }
def FnExactSitesOfUptoSaid : Prop := fnExactSitesOfUptoRow.holds Tryz.pinned (OpenSpec.upto fnExactSitesOfSpec)

/-- 'laws.FnExactTwoColourPattern', WHERE WHAT IT READS IS OF BULK AT MOST 1048576: true; the input reads as it did. -/
def fnExactTwoColourPatternUptoRow : OpenClaim := { program := "ytmnciknpeefkfaagreat", sum := "f6928cbe53066b83c1ac61d0d5d3295340eaf55be44f5b0fbb044feb157a6c28", func := "loop.example/g00943/laws.FnExactTwoColourPattern", spec := "fnExactTwoColourPattern", unfollowed := true, recurses := true, plainKeys := false, apart := false, narrowed := true }
def FnExactTwoColourPatternUptoSaid : Prop := fnExactTwoColourPatternUptoRow.holds Tryz.pinned (OpenSpec.upto fnExactTwoColourPatternSpec)

/-- 'laws.FnExactConflictOf', WHERE WHAT IT READS IS OF BULK AT MOST 1048576: true; the input reads as it did. -/
def fnExactConflictOfUptoRow : OpenClaim := { program := "ytmnciknpeefkfaagreat", sum := "f6928cbe53066b83c1ac61d0d5d3295340eaf55be44f5b0fbb044feb157a6c28", func := "loop.example/g00943/laws.FnExactConflictOf", spec := "fnExactConflictOf", unfollowed := true, recurses := true, plainKeys := false, apart := false, narrowed := true }
def FnExactConflictOfUptoSaid : Prop := fnExactConflictOfUptoRow.holds Tryz.pinned (OpenSpec.upto fnExactConflictOfSpec)

/-- 'laws.FnExactPaintOrbits', WHERE WHAT IT READS IS OF BULK AT MOST 1048576: true; the input reads as it did. -/
def fnExactPaintOrbitsUptoRow : OpenClaim := { program := "ytmnciknpeefkfaagreat", sum := "f6928cbe53066b83c1ac61d0d5d3295340eaf55be44f5b0fbb044feb157a6c28", func := "loop.example/g00943/laws.FnExactPaintOrbits", spec := "fnExactPaintOrbits", unfollowed := true, recurses := true, plainKeys := false, apart := false, narrowed := true }
def FnExactPaintOrbitsUptoSaid : Prop := fnExactPaintOrbitsUptoRow.holds Tryz.pinned (OpenSpec.upto fnExactPaintOrbitsSpec)

/-- 'laws.FnExactTwoColourings', WHERE WHAT IT READS IS OF BULK AT MOST 1048576: true; the input reads as it did. -/
def fnExactTwoColouringsUptoRow : OpenClaim := { program := "ytmnciknpeefkfaagreat", sum := "f6928cbe53066b83c1ac61d0d5d3295340eaf55be44f5b0fbb044feb157a6c28", func := "loop.example/g00943/laws.FnExactTwoColourings", spec := "fnExactTwoColourings", unfollowed := true, recurses := true, plainKeys := false, apart := false, narrowed := true }
def FnExactTwoColouringsUptoSaid : Prop := fnExactTwoColouringsUptoRow.holds Tryz.pinned (OpenSpec.upto fnExactTwoColouringsSpec)

/-- 'laws.FnExactConnectedUnit', WHERE WHAT IT READS IS OF BULK AT MOST 1048576: true; the input reads as it did. -/
def fnExactConnectedUnitUptoRow : OpenClaim := { program := "ytmnciknpeefkfaagreat", sum := "f6928cbe53066b83c1ac61d0d5d3295340eaf55be44f5b0fbb044feb157a6c28", func := "loop.example/g00943/laws.FnExactConnectedUnit", spec := "fnExactConnectedUnit", unfollowed := true, recurses := true, plainKeys := false, apart := false, narrowed := true }
def FnExactConnectedUnitUptoSaid : Prop := fnExactConnectedUnitUptoRow.holds Tryz.pinned (OpenSpec.upto fnExactConnectedUnitSpec)

/-- 'laws.FnExactOpenOrbits', WHERE WHAT IT READS IS OF BULK AT MOST 1048576: true; the input reads as it did. -/
def fnExactOpenOrbitsUptoRow : OpenClaim := { program := "ytmnciknpeefkfaagreat", sum := "f6928cbe53066b83c1ac61d0d5d3295340eaf55be44f5b0fbb044feb157a6c28", func := "loop.example/g00943/laws.FnExactOpenOrbits", spec := "fnExactOpenOrbits", unfollowed := true, recurses := true, plainKeys := false, apart := false, narrowed := true }
def FnExactOpenOrbitsUptoSaid : Prop := fnExactOpenOrbitsUptoRow.holds Tryz.pinned (OpenSpec.upto fnExactOpenOrbitsSpec)

/-- 'laws.FnExactOrbitColours', WHERE WHAT IT READS IS OF BULK AT MOST 1048576: true; the input reads as it did. -/
def fnExactOrbitColoursUptoRow : OpenClaim := { program := "ytmnciknpeefkfaagreat", sum := "f6928cbe53066b83c1ac61d0d5d3295340eaf55be44f5b0fbb044feb157a6c28", func := "loop.example/g00943/laws.FnExactOrbitColours", spec := "fnExactOrbitColours", unfollowed := true, recurses := true, plainKeys := false, apart := false, narrowed := true }
def FnExactOrbitColoursUptoSaid : Prop := fnExactOrbitColoursUptoRow.holds Tryz.pinned (OpenSpec.upto fnExactOrbitColoursSpec)

/-- 'laws.FnExactCompleteMarks', WHERE WHAT IT READS IS OF BULK AT MOST 1048576: true; the input reads as it did. -/
def fnExactCompleteMarksUptoRow : OpenClaim := { program := "ytmnciknpeefkfaagreat", sum := "f6928cbe53066b83c1ac61d0d5d3295340eaf55be44f5b0fbb044feb157a6c28", func := "loop.example/g00943/laws.FnExactCompleteMarks", spec := "fnExactCompleteMarks", unfollowed := true, recurses := true, plainKeys := false, apart := false, narrowed := true }
def FnExactCompleteMarksUptoSaid : Prop := fnExactCompleteMarksUptoRow.holds Tryz.pinned (OpenSpec.upto fnExactCompleteMarksSpec)

end Rows
end Go.Proofs.YtmnciknpeefkfaaGreat
