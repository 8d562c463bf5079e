/-
  No cell of these rows narrows 'for every input' (looked for: loops, veiled, ifaces, maps, wideKeys, modest, calm, conditions, laid).
  DERIVED. THE GIVEN ROWS OF THIS SEAT. 5 by the template 'for every input the law returns true; each argument reads behind the call as it read before'; 0 by the template 'total and deterministic' (their statements: YtbgdojniimdihaaGreatTotals.lean).
  GIVEN WITH THE SEED: the statements are not yours to turn. If you find one false, say at which input.
  Laid BY PROGRAM, IN A SANDBOX (cutbox-rows.mjs): the forced cells as the released guide's own fill.sh prints them over the translation a5ea69c6a11ba5c6… (all of the seat's roots in one cut). By AI agents, Wed Nov 11 2026. No macro, syntax, notation, axiom, sorry.
-/
import Derived.Test.YtbgdojniimdihaaGreatChecked
import GoSem.Claim
import GoSem.ClaimJoined
import GoSem.ClaimMapViews
import Derived.JoinedTies
import Derived.KernelRfl
namespace Go.Proofs.YtbgdojniimdihaaGreat
/- THE CELL 'sum', in the pinned program and in every row, IS THE sha256 OF THE DUMP (.gsa) THAT YtbgdojniimdihaaGreatProg.lean LOADS. Nothing in Lean hashes anything: it is a label: what it is worth is what the hold of that sum in a sandbox is worth. -/
noncomputable def Tryz.pinned : Pinned := { name := "ytbgdojniimdihaagreat", sum := "a5ea69c6a11ba5c64629f7b93520d0604243eaff3c6ff3e088a46c34be16a450", checked := Tryz.checked }
namespace Rows
def none {H : Type} : Left H := { results := [], args := [] }

/-- 'laws.FnExactMotionToCell': WHATEVER THE INPUT: true; the input reads as it did. -/
def fnExactMotionToCellSpec : ChangeSpec := { name := "fnExactMotionToCell", fn := fun _ => fun
  | [d1, d2, d3, d4, d5] => { results := [.lit (.bool true)], args := [d1, d2, d3, d4, d5] }
  | _ => none }
def fnExactMotionToCellRow : OpenClaim := { program := "ytbgdojniimdihaagreat", sum := "a5ea69c6a11ba5c64629f7b93520d0604243eaff3c6ff3e088a46c34be16a450", func := "loop.example/g00943/laws.FnExactMotionToCell", spec := "fnExactMotionToCell", unfollowed := true, recurses := true, plainKeys := false, apart := false }
def FnExactMotionToCellSaid : Prop := fnExactMotionToCellRow.holds Tryz.pinned (OpenSpec.ofChange fnExactMotionToCellSpec)

/-- ITS FALSE NEIGHBOUR: 'it returns false'. Refute it at one input. -/
def fnExactMotionToCellWrong : ChangeSpec := { name := "fnExactMotionToCell", fn := fun _ => fun
  | [d1, d2, d3, d4, d5] => { results := [.lit (.bool false)], args := [d1, d2, d3, d4, d5] }
  | _ => none }
def FnExactMotionToCellWrongFalsely : Prop := fnExactMotionToCellRow.holds Tryz.pinned (OpenSpec.ofChange fnExactMotionToCellWrong)

/-- 'laws.FnExactCopiesOf': WHATEVER THE INPUT: true; the input reads as it did. -/
def fnExactCopiesOfSpec : ChangeSpec := { name := "fnExactCopiesOf", fn := fun _ => fun
  | [d1, d2, d3, d4] => { results := [.lit (.bool true)], args := [d1, d2, d3, d4] }
  | _ => none }
def fnExactCopiesOfRow : OpenClaim := { program := "ytbgdojniimdihaagreat", sum := "a5ea69c6a11ba5c64629f7b93520d0604243eaff3c6ff3e088a46c34be16a450", func := "loop.example/g00943/laws.FnExactCopiesOf", spec := "fnExactCopiesOf", unfollowed := true, recurses := true, plainKeys := false, apart := false }
def FnExactCopiesOfSaid : Prop := fnExactCopiesOfRow.holds Tryz.pinned (OpenSpec.ofChange fnExactCopiesOfSpec)

/-- ITS FALSE NEIGHBOUR: 'it returns false'. Refute it at one input. -/
def fnExactCopiesOfWrong : ChangeSpec := { name := "fnExactCopiesOf", fn := fun _ => fun
  | [d1, d2, d3, d4] => { results := [.lit (.bool false)], args := [d1, d2, d3, d4] }
  | _ => none }
def FnExactCopiesOfWrongFalsely : Prop := fnExactCopiesOfRow.holds Tryz.pinned (OpenSpec.ofChange fnExactCopiesOfWrong)

/-- 'laws.FnExactCountGlideLines': WHATEVER THE INPUT: true; the input reads as it did. -/
def fnExactCountGlideLinesSpec : ChangeSpec := { name := "fnExactCountGlideLines", fn := fun _ => fun
  | [d] => { results := [.lit (.bool true)], args := [d] }
  | _ => none }
def fnExactCountGlideLinesRow : OpenClaim := { program := "ytbgdojniimdihaagreat", sum := "a5ea69c6a11ba5c64629f7b93520d0604243eaff3c6ff3e088a46c34be16a450", func := "loop.example/g00943/laws.FnExactCountGlideLines", spec := "fnExactCountGlideLines", unfollowed := true, recurses := true, plainKeys := false, apart := false }
def FnExactCountGlideLinesSaid : Prop := fnExactCountGlideLinesRow.holds Tryz.pinned (OpenSpec.ofChange fnExactCountGlideLinesSpec)

/-- ITS FALSE NEIGHBOUR: 'it returns false'. Refute it at one input. -/
def fnExactCountGlideLinesWrong : ChangeSpec := { name := "fnExactCountGlideLines", fn := fun _ => fun
  | [d] => { results := [.lit (.bool false)], args := [d] }
  | _ => none }
def FnExactCountGlideLinesWrongFalsely : Prop := fnExactCountGlideLinesRow.holds Tryz.pinned (OpenSpec.ofChange fnExactCountGlideLinesWrong)

/-- 'laws.FnExactCountMirrorLines': WHATEVER THE INPUT: true; the input reads as it did. -/
def fnExactCountMirrorLinesSpec : ChangeSpec := { name := "fnExactCountMirrorLines", fn := fun _ => fun
  | [d] => { results := [.lit (.bool true)], args := [d] }
  | _ => none }
def fnExactCountMirrorLinesRow : OpenClaim := { program := "ytbgdojniimdihaagreat", sum := "a5ea69c6a11ba5c64629f7b93520d0604243eaff3c6ff3e088a46c34be16a450", func := "loop.example/g00943/laws.FnExactCountMirrorLines", spec := "fnExactCountMirrorLines", unfollowed := true, recurses := true, plainKeys := false, apart := false }
def FnExactCountMirrorLinesSaid : Prop := fnExactCountMirrorLinesRow.holds Tryz.pinned (OpenSpec.ofChange fnExactCountMirrorLinesSpec)

/-- ITS FALSE NEIGHBOUR: 'it returns false'. Refute it at one input. -/
def fnExactCountMirrorLinesWrong : ChangeSpec := { name := "fnExactCountMirrorLines", fn := fun _ => fun
  | [d] => { results := [.lit (.bool false)], args := [d] }
  | _ => none }
def FnExactCountMirrorLinesWrongFalsely : Prop := fnExactCountMirrorLinesRow.holds Tryz.pinned (OpenSpec.ofChange fnExactCountMirrorLinesWrong)

/-- 'laws.FnExactTilingPattern': WHATEVER THE INPUT: true; the input reads as it did. -/
def fnExactTilingPatternSpec : ChangeSpec := { name := "fnExactTilingPattern", fn := fun _ => fun
  | [d1, d2, d3, d4] => { results := [.lit (.bool true)], args := [d1, d2, d3, d4] }
  | _ => none }
def fnExactTilingPatternRow : OpenClaim := { program := "ytbgdojniimdihaagreat", sum := "a5ea69c6a11ba5c64629f7b93520d0604243eaff3c6ff3e088a46c34be16a450", func := "loop.example/g00943/laws.FnExactTilingPattern", spec := "fnExactTilingPattern", unfollowed := true, recurses := true, plainKeys := false, apart := false }
def FnExactTilingPatternSaid : Prop := fnExactTilingPatternRow.holds Tryz.pinned (OpenSpec.ofChange fnExactTilingPatternSpec)

/-- ITS FALSE NEIGHBOUR: 'it returns false'. Refute it at one input. -/
def fnExactTilingPatternWrong : ChangeSpec := { name := "fnExactTilingPattern", fn := fun _ => fun
  | [d1, d2, d3, d4] => { results := [.lit (.bool false)], args := [d1, d2, d3, d4] }
  | _ => none }
def FnExactTilingPatternWrongFalsely : Prop := fnExactTilingPatternRow.holds Tryz.pinned (OpenSpec.ofChange fnExactTilingPatternWrong)

/- THE SECOND FORM. 'bulk': how many values and letters a reading holds, each counted each time it is reached (what is shared counts as often as it is met; a slice's spare places count too). A statement '..UptoSaid' is the law's where the arguments, and the package variables that the reading takes, are together of bulk at most 1048576: NARROWER than '..Said'. Prove '..Said' where nothing that the law and all that it calls make is longer than what came in: it says more and counts as full. Else prove '..UptoSaid'. A law counts once. -/
mutual
def uptoBulk {H : Type} : DataW H → Nat
  | .lit (.string bytes) => bytes.length + 1
  | .lit _ => 1
  | .nil => 1
  | .ptr d => uptoBulk d + 1
  | .slice elems spare => uptoBulkAll elems + uptoBulkAll spare + 1
  | .agg parts => uptoBulkAll parts + 1
  | .iface _ d => uptoBulk d + 1
  | .map entries => uptoBulkEntries entries + 1
  | .held _ => 1
def uptoBulkAll {H : Type} : List (DataW H) → Nat
  | [] => 0
  | d :: r => uptoBulk d + uptoBulkAll r
def uptoBulkEntries {H : Type} : List (Lit × DataW H) → Nat
  | [] => 0
  | x :: r => uptoBulkEntry x + uptoBulkEntries r
def uptoBulkEntry {H : Type} : Lit × DataW H → Nat
  | (.string bytes, d) => bytes.length + uptoBulk d + 1
  | (_, d) => uptoBulk d + 1
 end
def uptoSmall : (H : Type) → List (DataW H) → Bool := fun _ ds => decide (uptoBulkAll ds ≤ 1048576)
def OpenSpec.upto (s : _root_.Go.ChangeSpec) : _root_.Go.OpenSpec := { _root_.Go.OpenSpec.ofChange s with cond := some uptoSmall }

/-- 'laws.FnExactMotionToCell', WHERE WHAT IT READS IS OF BULK AT MOST 1048576: true; the input reads as it did. -/
def fnExactMotionToCellUptoRow : OpenClaim := { program := "ytbgdojniimdihaagreat", sum := "a5ea69c6a11ba5c64629f7b93520d0604243eaff3c6ff3e088a46c34be16a450", func := "loop.example/g00943/laws.FnExactMotionToCell", spec := "fnExactMotionToCell", unfollowed := true, recurses := true, plainKeys := false, apart := false, narrowed := true }
def FnExactMotionToCellUptoSaid : Prop := fnExactMotionToCellUptoRow.holds Tryz.pinned (OpenSpec.upto fnExactMotionToCellSpec)

/-- 'laws.FnExactCopiesOf', WHERE WHAT IT READS IS OF BULK AT MOST 1048576: true; the input reads as it did. -/
def fnExactCopiesOfUptoRow : OpenClaim := { program := "ytbgdojniimdihaagreat", sum := "a5ea69c6a11ba5c64629f7b93520d0604243eaff3c6ff3e088a46c34be16a450", func := "loop.example/g00943/laws.FnExactCopiesOf", spec := "fnExactCopiesOf", unfollowed := true, recurses := true, plainKeys := false, apart := false, narrowed := true }
def FnExactCopiesOfUptoSaid : Prop := fnExactCopiesOfUptoRow.holds Tryz.pinned (OpenSpec.upto fnExactCopiesOfSpec)

/-- 'laws.FnExactCountGlideLines', WHERE WHAT IT READS IS OF BULK AT MOST 1048576: true; the input reads as it did. -/
def fnExactCountGlideLinesUptoRow : OpenClaim := { program := "ytbgdojniimdihaagreat", sum := "a5ea69c6a11ba5c64629f7b93520d0604243eaff3c6ff3e088a46c34be16a450", func := "loop.example/g00943/laws.FnExactCountGlideLines", spec := "fnExactCountGlideLines", unfollowed := true, recurses := true, plainKeys := false, apart := false, narrowed := true }
def FnExactCountGlideLinesUptoSaid : Prop := fnExactCountGlideLinesUptoRow.holds Tryz.pinned (OpenSpec.upto fnExactCountGlideLinesSpec)

/-- 'laws.FnExactCountMirrorLines', WHERE WHAT IT READS IS OF BULK AT MOST 1048576: true; the input reads as it did. -/
def fnExactCountMirrorLinesUptoRow : OpenClaim := { program := "ytbgdojniimdihaagreat", sum := "a5ea69c6a11ba5c64629f7b93520d0604243eaff3c6ff3e088a46c34be16a450", func := "loop.example/g00943/laws.FnExactCountMirrorLines", spec := "fnExactCountMirrorLines", unfollowed := true, recurses := true, plainKeys := false, apart := false, narrowed := true }
def FnExactCountMirrorLinesUptoSaid : Prop := fnExactCountMirrorLinesUptoRow.holds Tryz.pinned (OpenSpec.upto fnExactCountMirrorLinesSpec)

/-- 'laws.FnExactTilingPattern', WHERE WHAT IT READS IS OF BULK AT MOST 1048576: true; the input reads as it did. -/
def fnExactTilingPatternUptoRow : OpenClaim := { program := "ytbgdojniimdihaagreat", sum := "a5ea69c6a11ba5c64629f7b93520d0604243eaff3c6ff3e088a46c34be16a450", func := "loop.example/g00943/laws.FnExactTilingPattern", spec := "fnExactTilingPattern", unfollowed := true, recurses := true, plainKeys := false, apart := false, narrowed := true }
def FnExactTilingPatternUptoSaid : Prop := fnExactTilingPatternUptoRow.holds Tryz.pinned (OpenSpec.upto fnExactTilingPatternSpec)

end Rows
end Go.Proofs.YtbgdojniimdihaaGreat
