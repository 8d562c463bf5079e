/-
  No cell of these rows narrows 'for every input' (looked for: loops, veiled, ifaces, maps, wideKeys, modest, calm, conditions, laid).
  DERIVED. THE GIVEN ROWS OF THIS SEAT. 6 by the template 'for every input the law returns true; each argument reads behind the call as it read before'; 0 by the template 'total and deterministic' (their statements: YtbgdojniimdihaaTotals.lean).
  GIVEN WITH THE SEED: the statements are not yours to turn. If you find one false, say at which input.
  Laid BY PROGRAM, IN A SANDBOX (cutbox-rows.mjs): the forced cells as the released guide's own fill.sh prints them over the translation e9d2f648d6aca09a… (all of the seat's roots in one cut). By AI agents, Wed Nov 11 2026. No macro, syntax, notation, axiom, sorry.
-/
import Derived.Test.YtbgdojniimdihaaChecked
import GoSem.Claim
import GoSem.ClaimJoined
import GoSem.ClaimMapViews
import Derived.JoinedTies
import Derived.KernelRfl
namespace Go.Proofs.Ytbgdojniimdihaa
/- THE CELL 'sum', in the pinned program and in every row, IS THE sha256 OF THE DUMP (.gsa) THAT YtbgdojniimdihaaProg.lean LOADS. Nothing in Lean hashes anything: it is a label: what it is worth is what the hold of that sum in a sandbox is worth. -/
noncomputable def Try.pinned : Pinned := { name := "ytbgdojniimdihaa", sum := "e9d2f648d6aca09a58dd5fcc46775121d7609db251cb921e0092b54f9e98e085", checked := Try.checked }
namespace Rows
def none {H : Type} : Left H := { results := [], args := [] }

/-- 'laws.FnExactNewDesk': WHATEVER THE INPUT: true; the input reads as it did. -/
def fnExactNewDeskSpec : ChangeSpec := { name := "fnExactNewDesk", fn := fun _ => fun
  | [] => { results := [.lit (.bool true)], args := [] }
  | _ => none }
def fnExactNewDeskRow : OpenClaim := { program := "ytbgdojniimdihaa", sum := "e9d2f648d6aca09a58dd5fcc46775121d7609db251cb921e0092b54f9e98e085", func := "loop.example/g00943/laws.FnExactNewDesk", spec := "fnExactNewDesk", plainKeys := false, apart := false }
def FnExactNewDeskSaid : Prop := fnExactNewDeskRow.holds Try.pinned (OpenSpec.ofChange fnExactNewDeskSpec)

/-- ITS FALSE NEIGHBOUR: 'it returns false'. Refute it at one input. -/
def fnExactNewDeskWrong : ChangeSpec := { name := "fnExactNewDesk", fn := fun _ => fun
  | [] => { results := [.lit (.bool false)], args := [] }
  | _ => none }
def FnExactNewDeskWrongFalsely : Prop := fnExactNewDeskRow.holds Try.pinned (OpenSpec.ofChange fnExactNewDeskWrong)

/-- 'laws.FnExactIsHanded': WHATEVER THE INPUT: true; the input reads as it did. -/
def fnExactIsHandedSpec : ChangeSpec := { name := "fnExactIsHanded", fn := fun _ => fun
  | [d] => { results := [.lit (.bool true)], args := [d] }
  | _ => none }
def fnExactIsHandedRow : OpenClaim := { program := "ytbgdojniimdihaa", sum := "e9d2f648d6aca09a58dd5fcc46775121d7609db251cb921e0092b54f9e98e085", func := "loop.example/g00943/laws.FnExactIsHanded", spec := "fnExactIsHanded", unfollowed := true, recurses := true, plainKeys := false, apart := false }
def FnExactIsHandedSaid : Prop := fnExactIsHandedRow.holds Try.pinned (OpenSpec.ofChange fnExactIsHandedSpec)

/-- ITS FALSE NEIGHBOUR: 'it returns false'. Refute it at one input. -/
def fnExactIsHandedWrong : ChangeSpec := { name := "fnExactIsHanded", fn := fun _ => fun
  | [d] => { results := [.lit (.bool false)], args := [d] }
  | _ => none }
def FnExactIsHandedWrongFalsely : Prop := fnExactIsHandedRow.holds Try.pinned (OpenSpec.ofChange fnExactIsHandedWrong)

/-- 'laws.FnExactTilesByGroup': WHATEVER THE INPUT: true; the input reads as it did. -/
def fnExactTilesByGroupSpec : ChangeSpec := { name := "fnExactTilesByGroup", fn := fun _ => fun
  | [d1, d2, d3, d4] => { results := [.lit (.bool true)], args := [d1, d2, d3, d4] }
  | _ => none }
def fnExactTilesByGroupRow : OpenClaim := { program := "ytbgdojniimdihaa", sum := "e9d2f648d6aca09a58dd5fcc46775121d7609db251cb921e0092b54f9e98e085", func := "loop.example/g00943/laws.FnExactTilesByGroup", spec := "fnExactTilesByGroup", unfollowed := true, recurses := true, plainKeys := false, apart := false }
def FnExactTilesByGroupSaid : Prop := fnExactTilesByGroupRow.holds Try.pinned (OpenSpec.ofChange fnExactTilesByGroupSpec)

/-- ITS FALSE NEIGHBOUR: 'it returns false'. Refute it at one input. -/
def fnExactTilesByGroupWrong : ChangeSpec := { name := "fnExactTilesByGroup", fn := fun _ => fun
  | [d1, d2, d3, d4] => { results := [.lit (.bool false)], args := [d1, d2, d3, d4] }
  | _ => none }
def FnExactTilesByGroupWrongFalsely : Prop := fnExactTilesByGroupRow.holds Try.pinned (OpenSpec.ofChange fnExactTilesByGroupWrong)

/-- 'laws.FnExactSiteSymmetries': WHATEVER THE INPUT: true; the input reads as it did. -/
def fnExactSiteSymmetriesSpec : ChangeSpec := { name := "fnExactSiteSymmetries", fn := fun _ => fun
  | [d1, d2] => { results := [.lit (.bool true)], args := [d1, d2] }
  | _ => none }
def fnExactSiteSymmetriesRow : OpenClaim := { program := "ytbgdojniimdihaa", sum := "e9d2f648d6aca09a58dd5fcc46775121d7609db251cb921e0092b54f9e98e085", func := "loop.example/g00943/laws.FnExactSiteSymmetries", spec := "fnExactSiteSymmetries", unfollowed := true, recurses := true, plainKeys := false, apart := false }
def FnExactSiteSymmetriesSaid : Prop := fnExactSiteSymmetriesRow.holds Try.pinned (OpenSpec.ofChange fnExactSiteSymmetriesSpec)

/-- ITS FALSE NEIGHBOUR: 'it returns false'. Refute it at one input. -/
def fnExactSiteSymmetriesWrong : ChangeSpec := { name := "fnExactSiteSymmetries", fn := fun _ => fun
  | [d1, d2] => { results := [.lit (.bool false)], args := [d1, d2] }
  | _ => none }
def FnExactSiteSymmetriesWrongFalsely : Prop := fnExactSiteSymmetriesRow.holds Try.pinned (OpenSpec.ofChange fnExactSiteSymmetriesWrong)

/-- 'laws.FnExactTurningSites': WHATEVER THE INPUT: true; the input reads as it did. -/
def fnExactTurningSitesSpec : ChangeSpec := { name := "fnExactTurningSites", fn := fun _ => fun
  | [d1, d2] => { results := [.lit (.bool true)], args := [d1, d2] }
  | _ => none }
def fnExactTurningSitesRow : OpenClaim := { program := "ytbgdojniimdihaa", sum := "e9d2f648d6aca09a58dd5fcc46775121d7609db251cb921e0092b54f9e98e085", func := "loop.example/g00943/laws.FnExactTurningSites", spec := "fnExactTurningSites", unfollowed := true, recurses := true, plainKeys := false, apart := false }
def FnExactTurningSitesSaid : Prop := fnExactTurningSitesRow.holds Try.pinned (OpenSpec.ofChange fnExactTurningSitesSpec)

/-- ITS FALSE NEIGHBOUR: 'it returns false'. Refute it at one input. -/
def fnExactTurningSitesWrong : ChangeSpec := { name := "fnExactTurningSites", fn := fun _ => fun
  | [d1, d2] => { results := [.lit (.bool false)], args := [d1, d2] }
  | _ => none }
def FnExactTurningSitesWrongFalsely : Prop := fnExactTurningSitesRow.holds Try.pinned (OpenSpec.ofChange fnExactTurningSitesWrong)

/-- 'laws.FnExactLeastFitting': WHATEVER THE INPUT: true; the input reads as it did. -/
def fnExactLeastFittingSpec : ChangeSpec := { name := "fnExactLeastFitting", fn := fun _ => fun
  | [d] => { results := [.lit (.bool true)], args := [d] }
  | _ => none }
def fnExactLeastFittingRow : OpenClaim := { program := "ytbgdojniimdihaa", sum := "e9d2f648d6aca09a58dd5fcc46775121d7609db251cb921e0092b54f9e98e085", func := "loop.example/g00943/laws.FnExactLeastFitting", spec := "fnExactLeastFitting", unfollowed := true, recurses := true, plainKeys := false, apart := false }
def FnExactLeastFittingSaid : Prop := fnExactLeastFittingRow.holds Try.pinned (OpenSpec.ofChange fnExactLeastFittingSpec)

/-- ITS FALSE NEIGHBOUR: 'it returns false'. Refute it at one input. -/
def fnExactLeastFittingWrong : ChangeSpec := { name := "fnExactLeastFitting", fn := fun _ => fun
  | [d] => { results := [.lit (.bool false)], args := [d] }
  | _ => none }
def FnExactLeastFittingWrongFalsely : Prop := fnExactLeastFittingRow.holds Try.pinned (OpenSpec.ofChange fnExactLeastFittingWrong)

/- THE SECOND FORM. 'bulk': how many values and letters a reading holds, each counted each time it is reached (what is shared counts as often as it is met; a slice's spare places count too). A statement '..UptoSaid' is the law's where the arguments, and the package variables that the reading takes, are together of bulk at most 1048576: NARROWER than '..Said'. Prove '..Said' where nothing that the law and all that it calls make is longer than what came in: it says more and counts as full. Else prove '..UptoSaid'. A law counts once. -/
mutual
def uptoBulk {H : Type} : DataW H → Nat
  | .lit (.string bytes) => bytes.length + 1
  | .lit _ => 1
  | .nil => 1
  | .ptr d => uptoBulk d + 1
  | .slice elems spare => uptoBulkAll elems + uptoBulkAll spare + 1
  | .agg parts => uptoBulkAll parts + 1
  | .iface _ d => uptoBulk d + 1
  | .map entries => uptoBulkEntries entries + 1
  | .held _ => 1
def uptoBulkAll {H : Type} : List (DataW H) → Nat
  | [] => 0
  | d :: r => uptoBulk d + uptoBulkAll r
def uptoBulkEntries {H : Type} : List (Lit × DataW H) → Nat
  | [] => 0
  | x :: r => uptoBulkEntry x + uptoBulkEntries r
def uptoBulkEntry {H : Type} : Lit × DataW H → Nat
  | (.string bytes, d) => bytes.length + uptoBulk d + 1
  | (_, d) => uptoBulk d + 1
 end
def uptoSmall : (H : Type) → List (DataW H) → Bool := fun _ ds => decide (uptoBulkAll ds ≤ 1048576)
def OpenSpec.upto (s : _root_.Go.ChangeSpec) : _root_.Go.OpenSpec := { _root_.Go.OpenSpec.ofChange s with cond := some uptoSmall }

/-- 'laws.FnExactNewDesk', WHERE WHAT IT READS IS OF BULK AT MOST 1048576: true; the input reads as it did. -/
def fnExactNewDeskUptoRow : OpenClaim := { program := "ytbgdojniimdihaa", sum := "e9d2f648d6aca09a58dd5fcc46775121d7609db251cb921e0092b54f9e98e085", func := "loop.example/g00943/laws.FnExactNewDesk", spec := "fnExactNewDesk", plainKeys := false, apart := false, narrowed := true }
def FnExactNewDeskUptoSaid : Prop := fnExactNewDeskUptoRow.holds Try.pinned (OpenSpec.upto fnExactNewDeskSpec)

/-- 'laws.FnExactIsHanded', WHERE WHAT IT READS IS OF BULK AT MOST 1048576: true; the input reads as it did. -/
def fnExactIsHandedUptoRow : OpenClaim := { program := "ytbgdojniimdihaa", sum := "e9d2f648d6aca09a58dd5fcc46775121d7609db251cb921e0092b54f9e98e085", func := "loop.example/g00943/laws.FnExactIsHanded", spec := "fnExactIsHanded", unfollowed := true, recurses := true, plainKeys := false, apart := false, narrowed := true }
def FnExactIsHandedUptoSaid : Prop := fnExactIsHandedUptoRow.holds Try.pinned (OpenSpec.upto fnExactIsHandedSpec)

/-- 'laws.FnExactTilesByGroup', WHERE WHAT IT READS IS OF BULK AT MOST 1048576: true; the input reads as it did. -/
def fnExactTilesByGroupUptoRow : OpenClaim := { program := "ytbgdojniimdihaa", sum := "e9d2f648d6aca09a58dd5fcc46775121d7609db251cb921e0092b54f9e98e085", func := "loop.example/g00943/laws.FnExactTilesByGroup", spec := "fnExactTilesByGroup", unfollowed := true, recurses := true, plainKeys := false, apart := false, narrowed := true }
def FnExactTilesByGroupUptoSaid : Prop := fnExactTilesByGroupUptoRow.holds Try.pinned (OpenSpec.upto fnExactTilesByGroupSpec)

/-- 'laws.FnExactSiteSymmetries', WHERE WHAT IT READS IS OF BULK AT MOST 1048576: true; the input reads as it did. -/
def fnExactSiteSymmetriesUptoRow : OpenClaim := { program := "ytbgdojniimdihaa", sum := "e9d2f648d6aca09a58dd5fcc46775121d7609db251cb921e0092b54f9e98e085", func := "loop.example/g00943/laws.FnExactSiteSymmetries", spec := "fnExactSiteSymmetries", unfollowed := true, recurses := true, plainKeys := false, apart := false, narrowed := true }
def FnExactSiteSymmetriesUptoSaid : Prop := fnExactSiteSymmetriesUptoRow.holds Try.pinned (OpenSpec.upto fnExactSiteSymmetriesSpec)

/-- 'laws.FnExactTurningSites', WHERE WHAT IT READS IS OF BULK AT MOST 1048576: true; the input reads as it did. -/
def fnExactTurningSitesUptoRow : OpenClaim := { program := "ytbgdojniimdihaa", sum := "e9d2f648d6aca09a58dd5fcc46775121d7609db251cb921e0092b54f9e98e085", func := "loop.example/g00943/laws.FnExactTurningSites", spec := "fnExactTurningSites", unfollowed := true, recurses := true, plainKeys := false, apart := false, narrowed := true }
def FnExactTurningSitesUptoSaid : Prop := fnExactTurningSitesUptoRow.holds Try.pinned (OpenSpec.upto fnExactTurningSitesSpec)

/-- 'laws.FnExactLeastFitting', WHERE WHAT IT READS IS OF BULK AT MOST 1048576: true; the input reads as it did. -/
def fnExactLeastFittingUptoRow : OpenClaim := { program := "ytbgdojniimdihaa", sum := "e9d2f648d6aca09a58dd5fcc46775121d7609db251cb921e0092b54f9e98e085", func := "loop.example/g00943/laws.FnExactLeastFitting", spec := "fnExactLeastFitting", unfollowed := true, recurses := true, plainKeys := false, apart := false, narrowed := true }
def FnExactLeastFittingUptoSaid : Prop := fnExactLeastFittingUptoRow.holds Try.pinned (OpenSpec.upto fnExactLeastFittingSpec)

end Rows
end Go.Proofs.Ytbgdojniimdihaa
