/-
  No cell of these rows narrows 'for every input' (looked for: loops, veiled, ifaces, maps, wideKeys, modest, calm, conditions, laid).
  DERIVED. THE GIVEN ROWS OF THIS SEAT. 10 by the template 'for every input the law returns true; each argument reads behind the call as it read before'; 0 by the template 'total and deterministic' (their statements: YthlldmfkdcmcfaaGreatTotals.lean).
  GIVEN WITH THE SEED: the statements are not yours to turn. If you find one false, say at which input.
  Laid BY PROGRAM, IN A SANDBOX (cutbox-rows.mjs): the forced cells as the released guide's own fill.sh prints them over the translation 2ce67cac3ef82f6a… (all of the seat's roots in one cut). By AI agents, Wed Nov 11 2026. No macro, syntax, notation, axiom, sorry.
-/
import Derived.Test.YthlldmfkdcmcfaaGreatChecked
import GoSem.Claim
import GoSem.ClaimJoined
import GoSem.ClaimMapViews
import Derived.JoinedTies
import Derived.KernelRfl
namespace Go.Proofs.YthlldmfkdcmcfaaGreat
/- THE CELL 'sum', in the pinned program and in every row, IS THE sha256 OF THE DUMP (.gsa) THAT YthlldmfkdcmcfaaGreatProg.lean LOADS. Nothing in Lean hashes anything: it is a label: what it is worth is what the hold of that sum in a sandbox is worth. -/
noncomputable def Tryz.pinned : Pinned := { name := "ythlldmfkdcmcfaagreat", sum := "2ce67cac3ef82f6a0276a8b2cb198d23a7179a14b8b92b711bc6faebaade9f80", checked := Tryz.checked }
namespace Rows
def none {H : Type} : Left H := { results := [], args := [] }

/-- 'laws.FnExactMotionToCell': WHATEVER THE INPUT: true; the input reads as it did. -/
def fnExactMotionToCellSpec : ChangeSpec := { name := "fnExactMotionToCell", fn := fun _ => fun
  | [d1, d2, d3, d4, d5] => { results := [.lit (.bool true)], args := [d1, d2, d3, d4, d5] }
  | _ => none }
def fnExactMotionToCellRow : OpenClaim := { program := "ythlldmfkdcmcfaagreat", sum := "2ce67cac3ef82f6a0276a8b2cb198d23a7179a14b8b92b711bc6faebaade9f80", func := "loop.example/g00943/laws.FnExactMotionToCell", spec := "fnExactMotionToCell", unfollowed := true, recurses := true, plainKeys := false, apart := false }
def FnExactMotionToCellSaid : Prop := fnExactMotionToCellRow.holds Tryz.pinned (OpenSpec.ofChange fnExactMotionToCellSpec)

/-- ITS FALSE NEIGHBOUR: 'it returns false'. Refute it at one input. -/
def fnExactMotionToCellWrong : ChangeSpec := { name := "fnExactMotionToCell", fn := fun _ => fun
  | [d1, d2, d3, d4, d5] => { results := [.lit (.bool false)], args := [d1, d2, d3, d4, d5] }
  | _ => none }
def FnExactMotionToCellWrongFalsely : Prop := fnExactMotionToCellRow.holds Tryz.pinned (OpenSpec.ofChange fnExactMotionToCellWrong)

/-- 'laws.FnExactCopiesOf': WHATEVER THE INPUT: true; the input reads as it did. -/
def fnExactCopiesOfSpec : ChangeSpec := { name := "fnExactCopiesOf", fn := fun _ => fun
  | [d1, d2, d3, d4] => { results := [.lit (.bool true)], args := [d1, d2, d3, d4] }
  | _ => none }
def fnExactCopiesOfRow : OpenClaim := { program := "ythlldmfkdcmcfaagreat", sum := "2ce67cac3ef82f6a0276a8b2cb198d23a7179a14b8b92b711bc6faebaade9f80", func := "loop.example/g00943/laws.FnExactCopiesOf", spec := "fnExactCopiesOf", unfollowed := true, recurses := true, plainKeys := false, apart := false }
def FnExactCopiesOfSaid : Prop := fnExactCopiesOfRow.holds Tryz.pinned (OpenSpec.ofChange fnExactCopiesOfSpec)

/-- ITS FALSE NEIGHBOUR: 'it returns false'. Refute it at one input. -/
def fnExactCopiesOfWrong : ChangeSpec := { name := "fnExactCopiesOf", fn := fun _ => fun
  | [d1, d2, d3, d4] => { results := [.lit (.bool false)], args := [d1, d2, d3, d4] }
  | _ => none }
def FnExactCopiesOfWrongFalsely : Prop := fnExactCopiesOfRow.holds Tryz.pinned (OpenSpec.ofChange fnExactCopiesOfWrong)

/-- 'laws.FnExactTilingPattern': WHATEVER THE INPUT: true; the input reads as it did. -/
def fnExactTilingPatternSpec : ChangeSpec := { name := "fnExactTilingPattern", fn := fun _ => fun
  | [d1, d2, d3, d4] => { results := [.lit (.bool true)], args := [d1, d2, d3, d4] }
  | _ => none }
def fnExactTilingPatternRow : OpenClaim := { program := "ythlldmfkdcmcfaagreat", sum := "2ce67cac3ef82f6a0276a8b2cb198d23a7179a14b8b92b711bc6faebaade9f80", func := "loop.example/g00943/laws.FnExactTilingPattern", spec := "fnExactTilingPattern", unfollowed := true, recurses := true, plainKeys := false, apart := false }
def FnExactTilingPatternSaid : Prop := fnExactTilingPatternRow.holds Tryz.pinned (OpenSpec.ofChange fnExactTilingPatternSpec)

/-- ITS FALSE NEIGHBOUR: 'it returns false'. Refute it at one input. -/
def fnExactTilingPatternWrong : ChangeSpec := { name := "fnExactTilingPattern", fn := fun _ => fun
  | [d1, d2, d3, d4] => { results := [.lit (.bool false)], args := [d1, d2, d3, d4] }
  | _ => none }
def FnExactTilingPatternWrongFalsely : Prop := fnExactTilingPatternRow.holds Tryz.pinned (OpenSpec.ofChange fnExactTilingPatternWrong)

/-- 'laws.FnExactOrbitOf': WHATEVER THE INPUT: true; the input reads as it did. -/
def fnExactOrbitOfSpec : ChangeSpec := { name := "fnExactOrbitOf", fn := fun _ => fun
  | [d1, d2, d3, d4] => { results := [.lit (.bool true)], args := [d1, d2, d3, d4] }
  | _ => none }
def fnExactOrbitOfRow : OpenClaim := { program := "ythlldmfkdcmcfaagreat", sum := "2ce67cac3ef82f6a0276a8b2cb198d23a7179a14b8b92b711bc6faebaade9f80", func := "loop.example/g00943/laws.FnExactOrbitOf", spec := "fnExactOrbitOf", unfollowed := true, recurses := true, plainKeys := false, apart := false }
def FnExactOrbitOfSaid : Prop := fnExactOrbitOfRow.holds Tryz.pinned (OpenSpec.ofChange fnExactOrbitOfSpec)

/-- ITS FALSE NEIGHBOUR: 'it returns false'. Refute it at one input. -/
def fnExactOrbitOfWrong : ChangeSpec := { name := "fnExactOrbitOf", fn := fun _ => fun
  | [d1, d2, d3, d4] => { results := [.lit (.bool false)], args := [d1, d2, d3, d4] }
  | _ => none }
def FnExactOrbitOfWrongFalsely : Prop := fnExactOrbitOfRow.holds Tryz.pinned (OpenSpec.ofChange fnExactOrbitOfWrong)

/-- 'laws.FnExactCountOrbits': WHATEVER THE INPUT: true; the input reads as it did. -/
def fnExactCountOrbitsSpec : ChangeSpec := { name := "fnExactCountOrbits", fn := fun _ => fun
  | [d1, d2, d3] => { results := [.lit (.bool true)], args := [d1, d2, d3] }
  | _ => none }
def fnExactCountOrbitsRow : OpenClaim := { program := "ythlldmfkdcmcfaagreat", sum := "2ce67cac3ef82f6a0276a8b2cb198d23a7179a14b8b92b711bc6faebaade9f80", func := "loop.example/g00943/laws.FnExactCountOrbits", spec := "fnExactCountOrbits", unfollowed := true, recurses := true, plainKeys := false, apart := false }
def FnExactCountOrbitsSaid : Prop := fnExactCountOrbitsRow.holds Tryz.pinned (OpenSpec.ofChange fnExactCountOrbitsSpec)

/-- ITS FALSE NEIGHBOUR: 'it returns false'. Refute it at one input. -/
def fnExactCountOrbitsWrong : ChangeSpec := { name := "fnExactCountOrbits", fn := fun _ => fun
  | [d1, d2, d3] => { results := [.lit (.bool false)], args := [d1, d2, d3] }
  | _ => none }
def FnExactCountOrbitsWrongFalsely : Prop := fnExactCountOrbitsRow.holds Tryz.pinned (OpenSpec.ofChange fnExactCountOrbitsWrong)

/-- 'laws.FnExactOrbitNumbers': WHATEVER THE INPUT: true; the input reads as it did. -/
def fnExactOrbitNumbersSpec : ChangeSpec := { name := "fnExactOrbitNumbers", fn := fun _ => fun
  | [d1, d2, d3] => { results := [.lit (.bool true)], args := [d1, d2, d3] }
  | _ => none }
def fnExactOrbitNumbersRow : OpenClaim := { program := "ythlldmfkdcmcfaagreat", sum := "2ce67cac3ef82f6a0276a8b2cb198d23a7179a14b8b92b711bc6faebaade9f80", func := "loop.example/g00943/laws.FnExactOrbitNumbers", spec := "fnExactOrbitNumbers", unfollowed := true, recurses := true, plainKeys := false, apart := false }
def FnExactOrbitNumbersSaid : Prop := fnExactOrbitNumbersRow.holds Tryz.pinned (OpenSpec.ofChange fnExactOrbitNumbersSpec)

/-- ITS FALSE NEIGHBOUR: 'it returns false'. Refute it at one input. -/
def fnExactOrbitNumbersWrong : ChangeSpec := { name := "fnExactOrbitNumbers", fn := fun _ => fun
  | [d1, d2, d3] => { results := [.lit (.bool false)], args := [d1, d2, d3] }
  | _ => none }
def FnExactOrbitNumbersWrongFalsely : Prop := fnExactOrbitNumbersRow.holds Tryz.pinned (OpenSpec.ofChange fnExactOrbitNumbersWrong)

/-- 'laws.FnExactOrbitsOf': WHATEVER THE INPUT: true; the input reads as it did. -/
def fnExactOrbitsOfSpec : ChangeSpec := { name := "fnExactOrbitsOf", fn := fun _ => fun
  | [d1, d2, d3] => { results := [.lit (.bool true)], args := [d1, d2, d3] }
  | _ => none }
def fnExactOrbitsOfRow : OpenClaim := { program := "ythlldmfkdcmcfaagreat", sum := "2ce67cac3ef82f6a0276a8b2cb198d23a7179a14b8b92b711bc6faebaade9f80", func := "loop.example/g00943/laws.FnExactOrbitsOf", spec := "fnExactOrbitsOf", unfollowed := true, recurses := true, plainKeys := false, apart := false }
def FnExactOrbitsOfSaid : Prop := fnExactOrbitsOfRow.holds Tryz.pinned (OpenSpec.ofChange fnExactOrbitsOfSpec)

/-- ITS FALSE NEIGHBOUR: 'it returns false'. Refute it at one input. -/
def fnExactOrbitsOfWrong : ChangeSpec := { name := "fnExactOrbitsOf", fn := fun _ => fun
  | [d1, d2, d3] => { results := [.lit (.bool false)], args := [d1, d2, d3] }
  | _ => none }
def FnExactOrbitsOfWrongFalsely : Prop := fnExactOrbitsOfRow.holds Tryz.pinned (OpenSpec.ofChange fnExactOrbitsOfWrong)

/-- 'laws.FnExactSeedPattern': WHATEVER THE INPUT: true; the input reads as it did. -/
def fnExactSeedPatternSpec : ChangeSpec := { name := "fnExactSeedPattern", fn := fun _ => fun
  | [d1, d2, d3, d4] => { results := [.lit (.bool true)], args := [d1, d2, d3, d4] }
  | _ => none }
def fnExactSeedPatternRow : OpenClaim := { program := "ythlldmfkdcmcfaagreat", sum := "2ce67cac3ef82f6a0276a8b2cb198d23a7179a14b8b92b711bc6faebaade9f80", func := "loop.example/g00943/laws.FnExactSeedPattern", spec := "fnExactSeedPattern", unfollowed := true, recurses := true, plainKeys := false, apart := false }
def FnExactSeedPatternSaid : Prop := fnExactSeedPatternRow.holds Tryz.pinned (OpenSpec.ofChange fnExactSeedPatternSpec)

/-- ITS FALSE NEIGHBOUR: 'it returns false'. Refute it at one input. -/
def fnExactSeedPatternWrong : ChangeSpec := { name := "fnExactSeedPattern", fn := fun _ => fun
  | [d1, d2, d3, d4] => { results := [.lit (.bool false)], args := [d1, d2, d3, d4] }
  | _ => none }
def FnExactSeedPatternWrongFalsely : Prop := fnExactSeedPatternRow.holds Tryz.pinned (OpenSpec.ofChange fnExactSeedPatternWrong)

/-- 'laws.FnExactLeastUnit': WHATEVER THE INPUT: true; the input reads as it did. -/
def fnExactLeastUnitSpec : ChangeSpec := { name := "fnExactLeastUnit", fn := fun _ => fun
  | [d1, d2, d3] => { results := [.lit (.bool true)], args := [d1, d2, d3] }
  | _ => none }
def fnExactLeastUnitRow : OpenClaim := { program := "ythlldmfkdcmcfaagreat", sum := "2ce67cac3ef82f6a0276a8b2cb198d23a7179a14b8b92b711bc6faebaade9f80", func := "loop.example/g00943/laws.FnExactLeastUnit", spec := "fnExactLeastUnit", unfollowed := true, recurses := true, plainKeys := false, apart := false }
def FnExactLeastUnitSaid : Prop := fnExactLeastUnitRow.holds Tryz.pinned (OpenSpec.ofChange fnExactLeastUnitSpec)

/-- ITS FALSE NEIGHBOUR: 'it returns false'. Refute it at one input. -/
def fnExactLeastUnitWrong : ChangeSpec := { name := "fnExactLeastUnit", fn := fun _ => fun
  | [d1, d2, d3] => { results := [.lit (.bool false)], args := [d1, d2, d3] }
  | _ => none }
def FnExactLeastUnitWrongFalsely : Prop := fnExactLeastUnitRow.holds Tryz.pinned (OpenSpec.ofChange fnExactLeastUnitWrong)

/-- 'laws.FnLines': WHATEVER THE INPUT: true; the input reads as it did. -/
def fnLinesSpec : ChangeSpec := { name := "fnLines", fn := fun _ => fun
  | [d] => { results := [.lit (.bool true)], args := [d] }
  | _ => none }
def fnLinesRow : OpenClaim := { program := "ythlldmfkdcmcfaagreat", sum := "2ce67cac3ef82f6a0276a8b2cb198d23a7179a14b8b92b711bc6faebaade9f80", func := "loop.example/g00943/laws.FnLines", spec := "fnLines", unfollowed := true, recurses := true, plainKeys := false, apart := false }
def FnLinesSaid : Prop := fnLinesRow.holds Tryz.pinned (OpenSpec.ofChange fnLinesSpec)

/-- ITS FALSE NEIGHBOUR: 'it returns false'. Refute it at one input. -/
def fnLinesWrong : ChangeSpec := { name := "fnLines", fn := fun _ => fun
  | [d] => { results := [.lit (.bool false)], args := [d] }
  | _ => none }
def FnLinesWrongFalsely : Prop := fnLinesRow.holds Tryz.pinned (OpenSpec.ofChange fnLinesWrong)

/- THE SECOND FORM. 'bulk': how many values and letters a reading holds, each counted each time it is reached (what is shared counts as often as it is met; a slice's spare places count too). A statement '..UptoSaid' is the law's where the arguments, and the package variables that the reading takes, are together of bulk at most 1048576: NARROWER than '..Said'. Prove '..Said' where nothing that the law and all that it calls make is longer than what came in: it says more and counts as full. Else prove '..UptoSaid'. A law counts once. -/
mutual
def uptoBulk {H : Type} : DataW H → Nat
  | .lit (.string bytes) => bytes.length + 1
  | .lit _ => 1
  | .nil => 1
  | .ptr d => uptoBulk d + 1
  | .slice elems spare => uptoBulkAll elems + uptoBulkAll spare + 1
  | .agg parts => uptoBulkAll parts + 1
  | .iface _ d => uptoBulk d + 1
  | .map entries => uptoBulkEntries entries + 1
  | .held _ => 1
def uptoBulkAll {H : Type} : List (DataW H) → Nat
  | [] => 0
  | d :: r => uptoBulk d + uptoBulkAll r
def uptoBulkEntries {H : Type} : List (Lit × DataW H) → Nat
  | [] => 0
  | x :: r => uptoBulkEntry x + uptoBulkEntries r
def uptoBulkEntry {H : Type} : Lit × DataW H → Nat
  | (.string bytes, d) => bytes.length + uptoBulk d + 1
  | (_, d) => uptoBulk d + 1
 end
def uptoSmall : (H : Type) → List (DataW H) → Bool := fun _ ds => decide (uptoBulkAll ds ≤ 1048576)
def OpenSpec.upto (s : _root_.Go.ChangeSpec) : _root_.Go.OpenSpec := { _root_.Go.OpenSpec.ofChange s with cond := some uptoSmall }

/-- 'laws.FnExactMotionToCell', WHERE WHAT IT READS IS OF BULK AT MOST 1048576: true; the input reads as it did. -/
def fnExactMotionToCellUptoRow : OpenClaim := { program := "ythlldmfkdcmcfaagreat", sum := "2ce67cac3ef82f6a0276a8b2cb198d23a7179a14b8b92b711bc6faebaade9f80", func := "loop.example/g00943/laws.FnExactMotionToCell", spec := "fnExactMotionToCell", unfollowed := true, recurses := true, plainKeys := false, apart := false, narrowed := true }
def FnExactMotionToCellUptoSaid : Prop := fnExactMotionToCellUptoRow.holds Tryz.pinned (OpenSpec.upto fnExactMotionToCellSpec)

/-- 'laws.FnExactCopiesOf', WHERE WHAT IT READS IS OF BULK AT MOST 1048576: true; the input reads as it did. -/
def fnExactCopiesOfUptoRow : OpenClaim := { program := "ythlldmfkdcmcfaagreat", sum := "2ce67cac3ef82f6a0276a8b2cb198d23a7179a14b8b92b711bc6faebaade9f80", func := "loop.example/g00943/laws.FnExactCopiesOf", spec := "fnExactCopiesOf", unfollowed := true, recurses := true, plainKeys := false, apart := false, narrowed := true }
def FnExactCopiesOfUptoSaid : Prop := fnExactCopiesOfUptoRow.holds Tryz.pinned (OpenSpec.upto fnExactCopiesOfSpec)

/-- 'laws.FnExactTilingPattern', WHERE WHAT IT READS IS OF BULK AT MOST 1048576: true; the input reads as it did. -/
def fnExactTilingPatternUptoRow : OpenClaim := { program := "ythlldmfkdcmcfaagreat", sum := "2ce67cac3ef82f6a0276a8b2cb198d23a7179a14b8b92b711bc6faebaade9f80", func := "loop.example/g00943/laws.FnExactTilingPattern", spec := "fnExactTilingPattern", unfollowed := true, recurses := true, plainKeys := false, apart := false, narrowed := true }
def FnExactTilingPatternUptoSaid : Prop := fnExactTilingPatternUptoRow.holds Tryz.pinned (OpenSpec.upto fnExactTilingPatternSpec)

/-- 'laws.FnExactOrbitOf', WHERE WHAT IT READS IS OF BULK AT MOST 1048576: true; the input reads as it did. -/
def fnExactOrbitOfUptoRow : OpenClaim := { program := "ythlldmfkdcmcfaagreat", sum := "2ce67cac3ef82f6a0276a8b2cb198d23a7179a14b8b92b711bc6faebaade9f80", func := "loop.example/g00943/laws.FnExactOrbitOf", spec := "fnExactOrbitOf", unfollowed := true, recurses := true, plainKeys := false, apart := false, narrowed := true }
def FnExactOrbitOfUptoSaid : Prop := fnExactOrbitOfUptoRow.holds Tryz.pinned (OpenSpec.upto fnExactOrbitOfSpec)

/-- 'laws.FnExactCountOrbits', WHERE WHAT IT READS IS OF BULK AT MOST 1048576: true; the input reads as it did. -/
def fnExactCountOrbitsUptoRow : OpenClaim := { program := "ythlldmfkdcmcfaagreat", sum := "2ce67cac3ef82f6a0276a8b2cb198d23a7179a14b8b92b711bc6faebaade9f80", func := "loop.example/g00943/laws.FnExactCountOrbits", spec := "fnExactCountOrbits", unfollowed := true, recurses := true, plainKeys := false, apart := false, narrowed := true }
def FnExactCountOrbitsUptoSaid : Prop := fnExactCountOrbitsUptoRow.holds Tryz.pinned (OpenSpec.upto fnExactCountOrbitsSpec)

/-- 'laws.FnExactOrbitNumbers', WHERE WHAT IT READS IS OF BULK AT MOST 1048576: true; the input reads as it did. -/
def fnExactOrbitNumbersUptoRow : OpenClaim := { program := "ythlldmfkdcmcfaagreat", sum := "2ce67cac3ef82f6a0276a8b2cb198d23a7179a14b8b92b711bc6faebaade9f80", func := "loop.example/g00943/laws.FnExactOrbitNumbers", spec := "fnExactOrbitNumbers", unfollowed := true, recurses := true, plainKeys := false, apart := false, narrowed := true }
def FnExactOrbitNumbersUptoSaid : Prop := fnExactOrbitNumbersUptoRow.holds Tryz.pinned (OpenSpec.upto fnExactOrbitNumbersSpec)

/-- 'laws.FnExactOrbitsOf', WHERE WHAT IT READS IS OF BULK AT MOST 1048576: true; the input reads as it did. -/
def fnExactOrbitsOfUptoRow : OpenClaim := { program := "ythlldmfkdcmcfaagreat", sum := "2ce67cac3ef82f6a0276a8b2cb198d23a7179a14b8b92b711bc6faebaade9f80", func := "loop.example/g00943/laws.FnExactOrbitsOf", spec := "fnExactOrbitsOf", unfollowed := true, recurses := true, plainKeys := false, apart := false, narrowed := true }
def FnExactOrbitsOfUptoSaid : Prop := fnExactOrbitsOfUptoRow.holds Tryz.pinned (OpenSpec.upto fnExactOrbitsOfSpec)

/-- 'laws.FnExactSeedPattern', WHERE WHAT IT READS IS OF BULK AT MOST 1048576: true; the input reads as it did. -/
def fnExactSeedPatternUptoRow : OpenClaim := { program := "ythlldmfkdcmcfaagreat", sum := "2ce67cac3ef82f6a0276a8b2cb198d23a7179a14b8b92b711bc6faebaade9f80", func := "loop.example/g00943/laws.FnExactSeedPattern", spec := "fnExactSeedPattern", unfollowed := true, recurses := true, plainKeys := false, apart := false, narrowed := true }
def FnExactSeedPatternUptoSaid : Prop := fnExactSeedPatternUptoRow.holds Tryz.pinned (OpenSpec.upto fnExactSeedPatternSpec)

/-- 'laws.FnExactLeastUnit', WHERE WHAT IT READS IS OF BULK AT MOST 1048576: true; the input reads as it did. -/
def fnExactLeastUnitUptoRow : OpenClaim := { program := "ythlldmfkdcmcfaagreat", sum := "2ce67cac3ef82f6a0276a8b2cb198d23a7179a14b8b92b711bc6faebaade9f80", func := "loop.example/g00943/laws.FnExactLeastUnit", spec := "fnExactLeastUnit", unfollowed := true, recurses := true, plainKeys := false, apart := false, narrowed := true }
def FnExactLeastUnitUptoSaid : Prop := fnExactLeastUnitUptoRow.holds Tryz.pinned (OpenSpec.upto fnExactLeastUnitSpec)

/-- 'laws.FnLines', WHERE WHAT IT READS IS OF BULK AT MOST 1048576: true; the input reads as it did. -/
def fnLinesUptoRow : OpenClaim := { program := "ythlldmfkdcmcfaagreat", sum := "2ce67cac3ef82f6a0276a8b2cb198d23a7179a14b8b92b711bc6faebaade9f80", func := "loop.example/g00943/laws.FnLines", spec := "fnLines", unfollowed := true, recurses := true, plainKeys := false, apart := false, narrowed := true }
def FnLinesUptoSaid : Prop := fnLinesUptoRow.holds Tryz.pinned (OpenSpec.upto fnLinesSpec)

end Rows
end Go.Proofs.YthlldmfkdcmcfaaGreat
