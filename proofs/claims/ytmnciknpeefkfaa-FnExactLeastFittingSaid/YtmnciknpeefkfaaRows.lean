/-
  No cell of these rows narrows 'for every input' (looked for: loops, veiled, ifaces, maps, wideKeys, modest, calm, conditions, laid).
  DERIVED. THE GIVEN ROWS OF THIS SEAT. 2 by the template 'for every input the law returns true; each argument reads behind the call as it read before'; 0 by the template 'total and deterministic' (their statements: YtmnciknpeefkfaaTotals.lean).
  GIVEN WITH THE SEED: the statements are not yours to turn. If you find one false, say at which input.
  Laid BY PROGRAM, IN A SANDBOX (cutbox-rows.mjs): the forced cells as the released guide's own fill.sh prints them over the translation cf00315b46566cce… (all of the seat's roots in one cut). By AI agents, Wed Nov 11 2026. No macro, syntax, notation, axiom, sorry.
-/
import Derived.Test.YtmnciknpeefkfaaChecked
import GoSem.Claim
import GoSem.ClaimJoined
import GoSem.ClaimMapViews
import Derived.JoinedTies
import Derived.KernelRfl
namespace Go.Proofs.Ytmnciknpeefkfaa
/- THE CELL 'sum', in the pinned program and in every row, IS THE sha256 OF THE DUMP (.gsa) THAT YtmnciknpeefkfaaProg.lean LOADS. Nothing in Lean hashes anything: it is a label: what it is worth is what the hold of that sum in a sandbox is worth. -/
noncomputable def Try.pinned : Pinned := { name := "ytmnciknpeefkfaa", sum := "cf00315b46566cce20332aff08347111ed4f0513dda60d6a762740cef9fc7e23", checked := Try.checked }
namespace Rows
def none {H : Type} : Left H := { results := [], args := [] }

/-- 'laws.FnExactLeastFitting': WHATEVER THE INPUT: true; the input reads as it did. -/
def fnExactLeastFittingSpec : ChangeSpec := { name := "fnExactLeastFitting", fn := fun _ => fun
  | [d] => { results := [.lit (.bool true)], args := [d] }
  | _ => none }
def fnExactLeastFittingRow : OpenClaim := { program := "ytmnciknpeefkfaa", sum := "cf00315b46566cce20332aff08347111ed4f0513dda60d6a762740cef9fc7e23", func := "loop.example/g00943/laws.FnExactLeastFitting", spec := "fnExactLeastFitting", unfollowed := true, recurses := true, apart := false }
def FnExactLeastFittingSaid : Prop := fnExactLeastFittingRow.holds Try.pinned (OpenSpec.ofChange fnExactLeastFittingSpec)

/-- ITS FALSE NEIGHBOUR: 'it returns false'. Refute it at one input. -/
def fnExactLeastFittingWrong : ChangeSpec := { name := "fnExactLeastFitting", fn := fun _ => fun
  | [d] => { results := [.lit (.bool false)], args := [d] }
  | _ => none }
def FnExactLeastFittingWrongFalsely : Prop := fnExactLeastFittingRow.holds Try.pinned (OpenSpec.ofChange fnExactLeastFittingWrong)

/-- 'laws.FnExactFittingLattices': WHATEVER THE INPUT: true; the input reads as it did. -/
def fnExactFittingLatticesSpec : ChangeSpec := { name := "fnExactFittingLattices", fn := fun _ => fun
  | [d1, d2] => { results := [.lit (.bool true)], args := [d1, d2] }
  | _ => none }
def fnExactFittingLatticesRow : OpenClaim := { program := "ytmnciknpeefkfaa", sum := "cf00315b46566cce20332aff08347111ed4f0513dda60d6a762740cef9fc7e23", func := "loop.example/g00943/laws.FnExactFittingLattices", spec := "fnExactFittingLattices", unfollowed := true, recurses := true, apart := false }
def FnExactFittingLatticesSaid : Prop := fnExactFittingLatticesRow.holds Try.pinned (OpenSpec.ofChange fnExactFittingLatticesSpec)

/-- ITS FALSE NEIGHBOUR: 'it returns false'. Refute it at one input. -/
def fnExactFittingLatticesWrong : ChangeSpec := { name := "fnExactFittingLattices", fn := fun _ => fun
  | [d1, d2] => { results := [.lit (.bool false)], args := [d1, d2] }
  | _ => none }
def FnExactFittingLatticesWrongFalsely : Prop := fnExactFittingLatticesRow.holds Try.pinned (OpenSpec.ofChange fnExactFittingLatticesWrong)

/- THE SECOND FORM. 'bulk': how many values and letters a reading holds, each counted each time it is reached (what is shared counts as often as it is met; a slice's spare places count too). A statement '..UptoSaid' is the law's where the arguments, and the package variables that the reading takes, are together of bulk at most 1048576: NARROWER than '..Said'. Prove '..Said' where nothing that the law and all that it calls make is longer than what came in: it says more and counts as full. Else prove '..UptoSaid'. A law counts once. -/
mutual
def uptoBulk {H : Type} : DataW H → Nat
  | .lit (.string bytes) => bytes.length + 1
  | .lit _ => 1
  | .nil => 1
  | .ptr d => uptoBulk d + 1
  | .slice elems spare => uptoBulkAll elems + uptoBulkAll spare + 1
  | .agg parts => uptoBulkAll parts + 1
  | .iface _ d => uptoBulk d + 1
  | .map entries => uptoBulkEntries entries + 1
  | .held _ => 1
def uptoBulkAll {H : Type} : List (DataW H) → Nat
  | [] => 0
  | d :: r => uptoBulk d + uptoBulkAll r
def uptoBulkEntries {H : Type} : List (Lit × DataW H) → Nat
  | [] => 0
  | x :: r => uptoBulkEntry x + uptoBulkEntries r
def uptoBulkEntry {H : Type} : Lit × DataW H → Nat
  | (.string bytes, d) => bytes.length + uptoBulk d + 1
  | (_, d) => uptoBulk d + 1
 end
def uptoSmall : (H : Type) → List (DataW H) → Bool := fun _ ds => decide (uptoBulkAll ds ≤ 1048576)
def OpenSpec.upto (s : _root_.Go.ChangeSpec) : _root_.Go.OpenSpec := { _root_.Go.OpenSpec.ofChange s with cond := some uptoSmall }

/-- 'laws.FnExactLeastFitting', WHERE WHAT IT READS IS OF BULK AT MOST 1048576: true; the input reads as it did. -/
def fnExactLeastFittingUptoRow : OpenClaim := { program := "ytmnciknpeefkfaa", sum := "cf00315b46566cce20332aff08347111ed4f0513dda60d6a762740cef9fc7e23", func := "loop.example/g00943/laws.FnExactLeastFitting", spec := "fnExactLeastFitting", unfollowed := true, recurses := true, apart := false, narrowed := true }
def FnExactLeastFittingUptoSaid : Prop := fnExactLeastFittingUptoRow.holds Try.pinned (OpenSpec.upto fnExactLeastFittingSpec)

/-- 'laws.FnExactFittingLattices', WHERE WHAT IT READS IS OF BULK AT MOST 1048576: true; the input reads as it did. -/
def fnExactFittingLatticesUptoRow : OpenClaim := { program := "ytmnciknpeefkfaa", sum := "cf00315b46566cce20332aff08347111ed4f0513dda60d6a762740cef9fc7e23", func := "loop.example/g00943/laws.FnExactFittingLattices", spec := "fnExactFittingLattices", unfollowed := true, recurses := true, apart := false, narrowed := true }
def FnExactFittingLatticesUptoSaid : Prop := fnExactFittingLatticesUptoRow.holds Try.pinned (OpenSpec.upto fnExactFittingLatticesSpec)

end Rows
end Go.Proofs.Ytmnciknpeefkfaa
