/-
  No cell of these rows narrows 'for every input' (looked for: loops, veiled, ifaces, maps, wideKeys, modest, calm, conditions, laid).
  DERIVED. THE GIVEN ROWS OF THIS SEAT. 4 by the template 'for every input the law returns true; each argument reads behind the call as it read before'; 0 by the template 'total and deterministic' (their statements: YteheolldcpjkcaaGreatTotals.lean).
  GIVEN WITH THE SEED: the statements are not yours to turn. If you find one false, say at which input.
  Laid BY PROGRAM, IN A SANDBOX (cutbox-rows.mjs): the forced cells as the released guide's own fill.sh prints them over the translation 0392c2c15ff5ccb9… (all of the seat's roots in one cut). By AI agents, Wed Nov 11 2026. No macro, syntax, notation, axiom, sorry.
-/
import Derived.Test.YteheolldcpjkcaaGreatChecked
import GoSem.Claim
import GoSem.ClaimJoined
import GoSem.ClaimMapViews
import Derived.JoinedTies
import Derived.KernelRfl
namespace Go.Proofs.YteheolldcpjkcaaGreat
/- THE CELL 'sum', in the pinned program and in every row, IS THE sha256 OF THE DUMP (.gsa) THAT YteheolldcpjkcaaGreatProg.lean LOADS. Nothing in Lean hashes anything: it is a label: what it is worth is what the hold of that sum in a sandbox is worth. -/
noncomputable def Tryz.pinned : Pinned := { name := "yteheolldcpjkcaagreat", sum := "0392c2c15ff5ccb93cb70f0eafe3fa0c82388c7b34d42b332c06794fed058479", checked := Tryz.checked }
namespace Rows
def none {H : Type} : Left H := { results := [], args := [] }

/-- 'laws.FnExactTwoColourings': WHATEVER THE INPUT: true; the input reads as it did. -/
def fnExactTwoColouringsSpec : ChangeSpec := { name := "fnExactTwoColourings", fn := fun _ => fun
  | [d1, d2, d3, d4] => { results := [.lit (.bool true)], args := [d1, d2, d3, d4] }
  | _ => none }
def fnExactTwoColouringsRow : OpenClaim := { program := "yteheolldcpjkcaagreat", sum := "0392c2c15ff5ccb93cb70f0eafe3fa0c82388c7b34d42b332c06794fed058479", func := "loop.example/g00943/laws.FnExactTwoColourings", spec := "fnExactTwoColourings", unfollowed := true, recurses := true, plainKeys := false, apart := false }
def FnExactTwoColouringsSaid : Prop := fnExactTwoColouringsRow.holds Tryz.pinned (OpenSpec.ofChange fnExactTwoColouringsSpec)

/-- ITS FALSE NEIGHBOUR: 'it returns false'. Refute it at one input. -/
def fnExactTwoColouringsWrong : ChangeSpec := { name := "fnExactTwoColourings", fn := fun _ => fun
  | [d1, d2, d3, d4] => { results := [.lit (.bool false)], args := [d1, d2, d3, d4] }
  | _ => none }
def FnExactTwoColouringsWrongFalsely : Prop := fnExactTwoColouringsRow.holds Tryz.pinned (OpenSpec.ofChange fnExactTwoColouringsWrong)

/-- 'laws.FnLists': WHATEVER THE INPUT: true; the input reads as it did. -/
def fnListsSpec : ChangeSpec := { name := "fnLists", fn := fun _ => fun
  | [d] => { results := [.lit (.bool true)], args := [d] }
  | _ => none }
def fnListsRow : OpenClaim := { program := "yteheolldcpjkcaagreat", sum := "0392c2c15ff5ccb93cb70f0eafe3fa0c82388c7b34d42b332c06794fed058479", func := "loop.example/g00943/laws.FnLists", spec := "fnLists", unfollowed := true, recurses := true, plainKeys := false, apart := false }
def FnListsSaid : Prop := fnListsRow.holds Tryz.pinned (OpenSpec.ofChange fnListsSpec)

/-- ITS FALSE NEIGHBOUR: 'it returns false'. Refute it at one input. -/
def fnListsWrong : ChangeSpec := { name := "fnLists", fn := fun _ => fun
  | [d] => { results := [.lit (.bool false)], args := [d] }
  | _ => none }
def FnListsWrongFalsely : Prop := fnListsRow.holds Tryz.pinned (OpenSpec.ofChange fnListsWrong)

/-- 'laws.FnExactOpenOrbits': WHATEVER THE INPUT: true; the input reads as it did. -/
def fnExactOpenOrbitsSpec : ChangeSpec := { name := "fnExactOpenOrbits", fn := fun _ => fun
  | [d1, d2, d3, d4] => { results := [.lit (.bool true)], args := [d1, d2, d3, d4] }
  | _ => none }
def fnExactOpenOrbitsRow : OpenClaim := { program := "yteheolldcpjkcaagreat", sum := "0392c2c15ff5ccb93cb70f0eafe3fa0c82388c7b34d42b332c06794fed058479", func := "loop.example/g00943/laws.FnExactOpenOrbits", spec := "fnExactOpenOrbits", unfollowed := true, recurses := true, plainKeys := false, apart := false }
def FnExactOpenOrbitsSaid : Prop := fnExactOpenOrbitsRow.holds Tryz.pinned (OpenSpec.ofChange fnExactOpenOrbitsSpec)

/-- ITS FALSE NEIGHBOUR: 'it returns false'. Refute it at one input. -/
def fnExactOpenOrbitsWrong : ChangeSpec := { name := "fnExactOpenOrbits", fn := fun _ => fun
  | [d1, d2, d3, d4] => { results := [.lit (.bool false)], args := [d1, d2, d3, d4] }
  | _ => none }
def FnExactOpenOrbitsWrongFalsely : Prop := fnExactOpenOrbitsRow.holds Tryz.pinned (OpenSpec.ofChange fnExactOpenOrbitsWrong)

/-- 'laws.FnCompleted': WHATEVER THE INPUT: true; the input reads as it did. -/
def fnCompletedSpec : ChangeSpec := { name := "fnCompleted", fn := fun _ => fun
  | [d] => { results := [.lit (.bool true)], args := [d] }
  | _ => none }
def fnCompletedRow : OpenClaim := { program := "yteheolldcpjkcaagreat", sum := "0392c2c15ff5ccb93cb70f0eafe3fa0c82388c7b34d42b332c06794fed058479", func := "loop.example/g00943/laws.FnCompleted", spec := "fnCompleted", unfollowed := true, recurses := true, plainKeys := false, apart := false }
def FnCompletedSaid : Prop := fnCompletedRow.holds Tryz.pinned (OpenSpec.ofChange fnCompletedSpec)

/-- ITS FALSE NEIGHBOUR: 'it returns false'. Refute it at one input. -/
def fnCompletedWrong : ChangeSpec := { name := "fnCompleted", fn := fun _ => fun
  | [d] => { results := [.lit (.bool false)], args := [d] }
  | _ => none }
def FnCompletedWrongFalsely : Prop := fnCompletedRow.holds Tryz.pinned (OpenSpec.ofChange fnCompletedWrong)

/- THE SECOND FORM. 'bulk': how many values and letters a reading holds, each counted each time it is reached (what is shared counts as often as it is met; a slice's spare places count too). A statement '..UptoSaid' is the law's where the arguments, and the package variables that the reading takes, are together of bulk at most 1048576: NARROWER than '..Said'. Prove '..Said' where nothing that the law and all that it calls make is longer than what came in: it says more and counts as full. Else prove '..UptoSaid'. A law counts once. -/
mutual
def uptoBulk {H : Type} : DataW H → Nat
  | .lit (.string bytes) => bytes.length + 1
  | .lit _ => 1
  | .nil => 1
  | .ptr d => uptoBulk d + 1
  | .slice elems spare => uptoBulkAll elems + uptoBulkAll spare + 1
  | .agg parts => uptoBulkAll parts + 1
  | .iface _ d => uptoBulk d + 1
  | .map entries => uptoBulkEntries entries + 1
  | .held _ => 1
def uptoBulkAll {H : Type} : List (DataW H) → Nat
  | [] => 0
  | d :: r => uptoBulk d + uptoBulkAll r
def uptoBulkEntries {H : Type} : List (Lit × DataW H) → Nat
  | [] => 0
  | x :: r => uptoBulkEntry x + uptoBulkEntries r
def uptoBulkEntry {H : Type} : Lit × DataW H → Nat
  | (.string bytes, d) => bytes.length + uptoBulk d + 1
  | (_, d) => uptoBulk d + 1
 end
def uptoSmall : (H : Type) → List (DataW H) → Bool := fun _ ds => decide (uptoBulkAll ds ≤ 1048576)
def OpenSpec.upto (s : _root_.Go.ChangeSpec) : _root_.Go.OpenSpec := { _root_.Go.OpenSpec.ofChange s with cond := some uptoSmall }

/-- 'laws.FnExactTwoColourings', WHERE WHAT IT READS IS OF BULK AT MOST 1048576: true; the input reads as it did. -/
def fnExactTwoColouringsUptoRow : OpenClaim := { program := "yteheolldcpjkcaagreat", sum := "0392c2c15ff5ccb93cb70f0eafe3fa0c82388c7b34d42b332c06794fed058479", func := "loop.example/g00943/laws.FnExactTwoColourings", spec := "fnExactTwoColourings", unfollowed := true, recurses := true, plainKeys := false, apart := false, narrowed := true }
def FnExactTwoColouringsUptoSaid : Prop := fnExactTwoColouringsUptoRow.holds Tryz.pinned (OpenSpec.upto fnExactTwoColouringsSpec)

/-- 'laws.FnLists', WHERE WHAT IT READS IS OF BULK AT MOST 1048576: true; the input reads as it did. -/
def fnListsUptoRow : OpenClaim := { program := "yteheolldcpjkcaagreat", sum := "0392c2c15ff5ccb93cb70f0eafe3fa0c82388c7b34d42b332c06794fed058479", func := "loop.example/g00943/laws.FnLists", spec := "fnLists", unfollowed := true, recurses := true, plainKeys := false, apart := false, narrowed := true }
def FnListsUptoSaid : Prop := fnListsUptoRow.holds Tryz.pinned (OpenSpec.upto fnListsSpec)

/-- 'laws.FnExactOpenOrbits', WHERE WHAT IT READS IS OF BULK AT MOST 1048576: true; the input reads as it did. -/
def fnExactOpenOrbitsUptoRow : OpenClaim := { program := "yteheolldcpjkcaagreat", sum := "0392c2c15ff5ccb93cb70f0eafe3fa0c82388c7b34d42b332c06794fed058479", func := "loop.example/g00943/laws.FnExactOpenOrbits", spec := "fnExactOpenOrbits", unfollowed := true, recurses := true, plainKeys := false, apart := false, narrowed := true }
def FnExactOpenOrbitsUptoSaid : Prop := fnExactOpenOrbitsUptoRow.holds Tryz.pinned (OpenSpec.upto fnExactOpenOrbitsSpec)

/-- 'laws.FnCompleted', WHERE WHAT IT READS IS OF BULK AT MOST 1048576: true; the input reads as it did. -/
def fnCompletedUptoRow : OpenClaim := { program := "yteheolldcpjkcaagreat", sum := "0392c2c15ff5ccb93cb70f0eafe3fa0c82388c7b34d42b332c06794fed058479", func := "loop.example/g00943/laws.FnCompleted", spec := "fnCompleted", unfollowed := true, recurses := true, plainKeys := false, apart := false, narrowed := true }
def FnCompletedUptoSaid : Prop := fnCompletedUptoRow.holds Tryz.pinned (OpenSpec.upto fnCompletedSpec)

end Rows
end Go.Proofs.YteheolldcpjkcaaGreat
