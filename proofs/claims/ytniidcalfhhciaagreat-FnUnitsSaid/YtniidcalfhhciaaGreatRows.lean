/-
  No cell of these rows narrows 'for every input' (looked for: loops, veiled, ifaces, maps, wideKeys, modest, calm, conditions, laid).
  DERIVED. THE GIVEN ROWS OF THIS SEAT. 11 by the template 'for every input the law returns true; each argument reads behind the call as it read before'; 0 by the template 'total and deterministic' (their statements: YtniidcalfhhciaaGreatTotals.lean).
  GIVEN WITH THE SEED: the statements are not yours to turn. If you find one false, say at which input.
  Laid BY PROGRAM, IN A SANDBOX (cutbox-rows.mjs): the forced cells as the released guide's own fill.sh prints them over the translation 85b3505aee2141aa… (all of the seat's roots in one cut). By AI agents, Wed Nov 11 2026. No macro, syntax, notation, axiom, sorry.
-/
import Derived.Test.YtniidcalfhhciaaGreatChecked
import GoSem.Claim
import GoSem.ClaimJoined
import GoSem.ClaimMapViews
import Derived.JoinedTies
import Derived.KernelRfl
namespace Go.Proofs.YtniidcalfhhciaaGreat
/- THE CELL 'sum', in the pinned program and in every row, IS THE sha256 OF THE DUMP (.gsa) THAT YtniidcalfhhciaaGreatProg.lean LOADS. Nothing in Lean hashes anything: it is a label: what it is worth is what the hold of that sum in a sandbox is worth. -/
noncomputable def Tryz.pinned : Pinned := { name := "ytniidcalfhhciaagreat", sum := "85b3505aee2141aae4a9977d3f7ef4a6b52abcc928ec69ea3c67c5c7ce5d7e69", checked := Tryz.checked }
namespace Rows
def none {H : Type} : Left H := { results := [], args := [] }

/-- 'laws.FnLines': WHATEVER THE INPUT: true; the input reads as it did. -/
def fnLinesSpec : ChangeSpec := { name := "fnLines", fn := fun _ => fun
  | [d] => { results := [.lit (.bool true)], args := [d] }
  | _ => none }
def fnLinesRow : OpenClaim := { program := "ytniidcalfhhciaagreat", sum := "85b3505aee2141aae4a9977d3f7ef4a6b52abcc928ec69ea3c67c5c7ce5d7e69", func := "loop.example/g00943/laws.FnLines", spec := "fnLines", unfollowed := true, recurses := true, plainKeys := false, apart := false }
def FnLinesSaid : Prop := fnLinesRow.holds Tryz.pinned (OpenSpec.ofChange fnLinesSpec)

/-- ITS FALSE NEIGHBOUR: 'it returns false'. Refute it at one input. -/
def fnLinesWrong : ChangeSpec := { name := "fnLines", fn := fun _ => fun
  | [d] => { results := [.lit (.bool false)], args := [d] }
  | _ => none }
def FnLinesWrongFalsely : Prop := fnLinesRow.holds Tryz.pinned (OpenSpec.ofChange fnLinesWrong)

/-- 'laws.FnLists': WHATEVER THE INPUT: true; the input reads as it did. -/
def fnListsSpec : ChangeSpec := { name := "fnLists", fn := fun _ => fun
  | [d] => { results := [.lit (.bool true)], args := [d] }
  | _ => none }
def fnListsRow : OpenClaim := { program := "ytniidcalfhhciaagreat", sum := "85b3505aee2141aae4a9977d3f7ef4a6b52abcc928ec69ea3c67c5c7ce5d7e69", func := "loop.example/g00943/laws.FnLists", spec := "fnLists", unfollowed := true, recurses := true, plainKeys := false, apart := false }
def FnListsSaid : Prop := fnListsRow.holds Tryz.pinned (OpenSpec.ofChange fnListsSpec)

/-- ITS FALSE NEIGHBOUR: 'it returns false'. Refute it at one input. -/
def fnListsWrong : ChangeSpec := { name := "fnLists", fn := fun _ => fun
  | [d] => { results := [.lit (.bool false)], args := [d] }
  | _ => none }
def FnListsWrongFalsely : Prop := fnListsRow.holds Tryz.pinned (OpenSpec.ofChange fnListsWrong)

/-- 'laws.FnGroupTilings': WHATEVER THE INPUT: true; the input reads as it did. -/
def fnGroupTilingsSpec : ChangeSpec := { name := "fnGroupTilings", fn := fun _ => fun
  | [d] => { results := [.lit (.bool true)], args := [d] }
  | _ => none }
def fnGroupTilingsRow : OpenClaim := { program := "ytniidcalfhhciaagreat", sum := "85b3505aee2141aae4a9977d3f7ef4a6b52abcc928ec69ea3c67c5c7ce5d7e69", func := "loop.example/g00943/laws.FnGroupTilings", spec := "fnGroupTilings", unfollowed := true, recurses := true, plainKeys := false, apart := false }
def FnGroupTilingsSaid : Prop := fnGroupTilingsRow.holds Tryz.pinned (OpenSpec.ofChange fnGroupTilingsSpec)

/-- ITS FALSE NEIGHBOUR: 'it returns false'. Refute it at one input. -/
def fnGroupTilingsWrong : ChangeSpec := { name := "fnGroupTilings", fn := fun _ => fun
  | [d] => { results := [.lit (.bool false)], args := [d] }
  | _ => none }
def FnGroupTilingsWrongFalsely : Prop := fnGroupTilingsRow.holds Tryz.pinned (OpenSpec.ofChange fnGroupTilingsWrong)

/-- 'laws.FnOrbits': WHATEVER THE INPUT: true; the input reads as it did. -/
def fnOrbitsSpec : ChangeSpec := { name := "fnOrbits", fn := fun _ => fun
  | [d] => { results := [.lit (.bool true)], args := [d] }
  | _ => none }
def fnOrbitsRow : OpenClaim := { program := "ytniidcalfhhciaagreat", sum := "85b3505aee2141aae4a9977d3f7ef4a6b52abcc928ec69ea3c67c5c7ce5d7e69", func := "loop.example/g00943/laws.FnOrbits", spec := "fnOrbits", unfollowed := true, recurses := true, plainKeys := false, apart := false }
def FnOrbitsSaid : Prop := fnOrbitsRow.holds Tryz.pinned (OpenSpec.ofChange fnOrbitsSpec)

/-- ITS FALSE NEIGHBOUR: 'it returns false'. Refute it at one input. -/
def fnOrbitsWrong : ChangeSpec := { name := "fnOrbits", fn := fun _ => fun
  | [d] => { results := [.lit (.bool false)], args := [d] }
  | _ => none }
def FnOrbitsWrongFalsely : Prop := fnOrbitsRow.holds Tryz.pinned (OpenSpec.ofChange fnOrbitsWrong)

/-- 'laws.FnSites': WHATEVER THE INPUT: true; the input reads as it did. -/
def fnSitesSpec : ChangeSpec := { name := "fnSites", fn := fun _ => fun
  | [d] => { results := [.lit (.bool true)], args := [d] }
  | _ => none }
def fnSitesRow : OpenClaim := { program := "ytniidcalfhhciaagreat", sum := "85b3505aee2141aae4a9977d3f7ef4a6b52abcc928ec69ea3c67c5c7ce5d7e69", func := "loop.example/g00943/laws.FnSites", spec := "fnSites", unfollowed := true, recurses := true, plainKeys := false, apart := false }
def FnSitesSaid : Prop := fnSitesRow.holds Tryz.pinned (OpenSpec.ofChange fnSitesSpec)

/-- ITS FALSE NEIGHBOUR: 'it returns false'. Refute it at one input. -/
def fnSitesWrong : ChangeSpec := { name := "fnSites", fn := fun _ => fun
  | [d] => { results := [.lit (.bool false)], args := [d] }
  | _ => none }
def FnSitesWrongFalsely : Prop := fnSitesRow.holds Tryz.pinned (OpenSpec.ofChange fnSitesWrong)

/-- 'laws.FnSeeds': WHATEVER THE INPUT: true; the input reads as it did. -/
def fnSeedsSpec : ChangeSpec := { name := "fnSeeds", fn := fun _ => fun
  | [d] => { results := [.lit (.bool true)], args := [d] }
  | _ => none }
def fnSeedsRow : OpenClaim := { program := "ytniidcalfhhciaagreat", sum := "85b3505aee2141aae4a9977d3f7ef4a6b52abcc928ec69ea3c67c5c7ce5d7e69", func := "loop.example/g00943/laws.FnSeeds", spec := "fnSeeds", unfollowed := true, recurses := true, plainKeys := false, apart := false }
def FnSeedsSaid : Prop := fnSeedsRow.holds Tryz.pinned (OpenSpec.ofChange fnSeedsSpec)

/-- ITS FALSE NEIGHBOUR: 'it returns false'. Refute it at one input. -/
def fnSeedsWrong : ChangeSpec := { name := "fnSeeds", fn := fun _ => fun
  | [d] => { results := [.lit (.bool false)], args := [d] }
  | _ => none }
def FnSeedsWrongFalsely : Prop := fnSeedsRow.holds Tryz.pinned (OpenSpec.ofChange fnSeedsWrong)

/-- 'laws.FnPainted': WHATEVER THE INPUT: true; the input reads as it did. -/
def fnPaintedSpec : ChangeSpec := { name := "fnPainted", fn := fun _ => fun
  | [d] => { results := [.lit (.bool true)], args := [d] }
  | _ => none }
def fnPaintedRow : OpenClaim := { program := "ytniidcalfhhciaagreat", sum := "85b3505aee2141aae4a9977d3f7ef4a6b52abcc928ec69ea3c67c5c7ce5d7e69", func := "loop.example/g00943/laws.FnPainted", spec := "fnPainted", unfollowed := true, recurses := true, plainKeys := false, apart := false }
def FnPaintedSaid : Prop := fnPaintedRow.holds Tryz.pinned (OpenSpec.ofChange fnPaintedSpec)

/-- ITS FALSE NEIGHBOUR: 'it returns false'. Refute it at one input. -/
def fnPaintedWrong : ChangeSpec := { name := "fnPainted", fn := fun _ => fun
  | [d] => { results := [.lit (.bool false)], args := [d] }
  | _ => none }
def FnPaintedWrongFalsely : Prop := fnPaintedRow.holds Tryz.pinned (OpenSpec.ofChange fnPaintedWrong)

/-- 'laws.FnStabilisers': WHATEVER THE INPUT: true; the input reads as it did. -/
def fnStabilisersSpec : ChangeSpec := { name := "fnStabilisers", fn := fun _ => fun
  | [d] => { results := [.lit (.bool true)], args := [d] }
  | _ => none }
def fnStabilisersRow : OpenClaim := { program := "ytniidcalfhhciaagreat", sum := "85b3505aee2141aae4a9977d3f7ef4a6b52abcc928ec69ea3c67c5c7ce5d7e69", func := "loop.example/g00943/laws.FnStabilisers", spec := "fnStabilisers", unfollowed := true, recurses := true, plainKeys := false, apart := false }
def FnStabilisersSaid : Prop := fnStabilisersRow.holds Tryz.pinned (OpenSpec.ofChange fnStabilisersSpec)

/-- ITS FALSE NEIGHBOUR: 'it returns false'. Refute it at one input. -/
def fnStabilisersWrong : ChangeSpec := { name := "fnStabilisers", fn := fun _ => fun
  | [d] => { results := [.lit (.bool false)], args := [d] }
  | _ => none }
def FnStabilisersWrongFalsely : Prop := fnStabilisersRow.holds Tryz.pinned (OpenSpec.ofChange fnStabilisersWrong)

/-- 'laws.FnCounts': WHATEVER THE INPUT: true; the input reads as it did. -/
def fnCountsSpec : ChangeSpec := { name := "fnCounts", fn := fun _ => fun
  | [d] => { results := [.lit (.bool true)], args := [d] }
  | _ => none }
def fnCountsRow : OpenClaim := { program := "ytniidcalfhhciaagreat", sum := "85b3505aee2141aae4a9977d3f7ef4a6b52abcc928ec69ea3c67c5c7ce5d7e69", func := "loop.example/g00943/laws.FnCounts", spec := "fnCounts", unfollowed := true, recurses := true, plainKeys := false, apart := false }
def FnCountsSaid : Prop := fnCountsRow.holds Tryz.pinned (OpenSpec.ofChange fnCountsSpec)

/-- ITS FALSE NEIGHBOUR: 'it returns false'. Refute it at one input. -/
def fnCountsWrong : ChangeSpec := { name := "fnCounts", fn := fun _ => fun
  | [d] => { results := [.lit (.bool false)], args := [d] }
  | _ => none }
def FnCountsWrongFalsely : Prop := fnCountsRow.holds Tryz.pinned (OpenSpec.ofChange fnCountsWrong)

/-- 'laws.FnUnits': WHATEVER THE INPUT: true; the input reads as it did. -/
def fnUnitsSpec : ChangeSpec := { name := "fnUnits", fn := fun _ => fun
  | [d] => { results := [.lit (.bool true)], args := [d] }
  | _ => none }
def fnUnitsRow : OpenClaim := { program := "ytniidcalfhhciaagreat", sum := "85b3505aee2141aae4a9977d3f7ef4a6b52abcc928ec69ea3c67c5c7ce5d7e69", func := "loop.example/g00943/laws.FnUnits", spec := "fnUnits", unfollowed := true, recurses := true, plainKeys := false, apart := false }
def FnUnitsSaid : Prop := fnUnitsRow.holds Tryz.pinned (OpenSpec.ofChange fnUnitsSpec)

/-- ITS FALSE NEIGHBOUR: 'it returns false'. Refute it at one input. -/
def fnUnitsWrong : ChangeSpec := { name := "fnUnits", fn := fun _ => fun
  | [d] => { results := [.lit (.bool false)], args := [d] }
  | _ => none }
def FnUnitsWrongFalsely : Prop := fnUnitsRow.holds Tryz.pinned (OpenSpec.ofChange fnUnitsWrong)

/-- 'laws.FnCompleted': WHATEVER THE INPUT: true; the input reads as it did. -/
def fnCompletedSpec : ChangeSpec := { name := "fnCompleted", fn := fun _ => fun
  | [d] => { results := [.lit (.bool true)], args := [d] }
  | _ => none }
def fnCompletedRow : OpenClaim := { program := "ytniidcalfhhciaagreat", sum := "85b3505aee2141aae4a9977d3f7ef4a6b52abcc928ec69ea3c67c5c7ce5d7e69", func := "loop.example/g00943/laws.FnCompleted", spec := "fnCompleted", unfollowed := true, recurses := true, plainKeys := false, apart := false }
def FnCompletedSaid : Prop := fnCompletedRow.holds Tryz.pinned (OpenSpec.ofChange fnCompletedSpec)

/-- ITS FALSE NEIGHBOUR: 'it returns false'. Refute it at one input. -/
def fnCompletedWrong : ChangeSpec := { name := "fnCompleted", fn := fun _ => fun
  | [d] => { results := [.lit (.bool false)], args := [d] }
  | _ => none }
def FnCompletedWrongFalsely : Prop := fnCompletedRow.holds Tryz.pinned (OpenSpec.ofChange fnCompletedWrong)

/- THE SECOND FORM. 'bulk': how many values and letters a reading holds, each counted each time it is reached (what is shared counts as often as it is met; a slice's spare places count too). A statement '..UptoSaid' is the law's where the arguments, and the package variables that the reading takes, are together of bulk at most 1048576: NARROWER than '..Said'. Prove '..Said' where nothing that the law and all that it calls make is longer than what came in: it says more and counts as full. Else prove '..UptoSaid'. A law counts once. -/
mutual
def uptoBulk {H : Type} : DataW H → Nat
  | .lit (.string bytes) => bytes.length + 1
  | .lit _ => 1
  | .nil => 1
  | .ptr d => uptoBulk d + 1
  | .slice elems spare => uptoBulkAll elems + uptoBulkAll spare + 1
  | .agg parts => uptoBulkAll parts + 1
  | .iface _ d => uptoBulk d + 1
  | .map entries => uptoBulkEntries entries + 1
  | .held _ => 1
def uptoBulkAll {H : Type} : List (DataW H) → Nat
  | [] => 0
  | d :: r => uptoBulk d + uptoBulkAll r
def uptoBulkEntries {H : Type} : List (Lit × DataW H) → Nat
  | [] => 0
  | x :: r => uptoBulkEntry x + uptoBulkEntries r
def uptoBulkEntry {H : Type} : Lit × DataW H → Nat
  | (.string bytes, d) => bytes.length + uptoBulk d + 1
  | (_, d) => uptoBulk d + 1
 end
def uptoSmall : (H : Type) → List (DataW H) → Bool := fun _ ds => decide (uptoBulkAll ds ≤ 1048576)
def OpenSpec.upto (s : _root_.Go.ChangeSpec) : _root_.Go.OpenSpec := { _root_.Go.OpenSpec.ofChange s with cond := some uptoSmall }

/-- 'laws.FnLines', WHERE WHAT IT READS IS OF BULK AT MOST 1048576: true; the input reads as it did. -/
def fnLinesUptoRow : OpenClaim := { program := "ytniidcalfhhciaagreat", sum := "85b3505aee2141aae4a9977d3f7ef4a6b52abcc928ec69ea3c67c5c7ce5d7e69", func := "loop.example/g00943/laws.FnLines", spec := "fnLines", unfollowed := true, recurses := true, plainKeys := false, apart := false, narrowed := true }
def FnLinesUptoSaid : Prop := fnLinesUptoRow.holds Tryz.pinned (OpenSpec.upto fnLinesSpec)

/-- 'laws.FnLists', WHERE WHAT IT READS IS OF BULK AT MOST 1048576: true; the input reads as it did. -/
def fnListsUptoRow : OpenClaim := { program := "ytniidcalfhhciaagreat", sum := "85b3505aee2141aae4a9977d3f7ef4a6b52abcc928ec69ea3c67c5c7ce5d7e69", func := "loop.example/g00943/laws.FnLists", spec := "fnLists", unfollowed := true, recurses := true, plainKeys := false, apart := false, narrowed := true }
def FnListsUptoSaid : Prop := fnListsUptoRow.holds Tryz.pinned (OpenSpec.upto fnListsSpec)

/-- 'laws.FnGroupTilings', WHERE WHAT IT READS IS OF BULK AT MOST 1048576: true; the input reads as it did. -/
def fnGroupTilingsUptoRow : OpenClaim := { program := "ytniidcalfhhciaagreat", sum := "85b3505aee2141aae4a9977d3f7ef4a6b52abcc928ec69ea3c67c5c7ce5d7e69", func := "loop.example/g00943/laws.FnGroupTilings", spec := "fnGroupTilings", unfollowed := true, recurses := true, plainKeys := false, apart := false, narrowed := true }
def FnGroupTilingsUptoSaid : Prop := fnGroupTilingsUptoRow.holds Tryz.pinned (OpenSpec.upto fnGroupTilingsSpec)

/-- 'laws.FnOrbits', WHERE WHAT IT READS IS OF BULK AT MOST 1048576: true; the input reads as it did. -/
def fnOrbitsUptoRow : OpenClaim := { program := "ytniidcalfhhciaagreat", sum := "85b3505aee2141aae4a9977d3f7ef4a6b52abcc928ec69ea3c67c5c7ce5d7e69", func := "loop.example/g00943/laws.FnOrbits", spec := "fnOrbits", unfollowed := true, recurses := true, plainKeys := false, apart := false, narrowed := true }
def FnOrbitsUptoSaid : Prop := fnOrbitsUptoRow.holds Tryz.pinned (OpenSpec.upto fnOrbitsSpec)

/-- 'laws.FnSites', WHERE WHAT IT READS IS OF BULK AT MOST 1048576: true; the input reads as it did. -/
def fnSitesUptoRow : OpenClaim := { program := "ytniidcalfhhciaagreat", sum := "85b3505aee2141aae4a9977d3f7ef4a6b52abcc928ec69ea3c67c5c7ce5d7e69", func := "loop.example/g00943/laws.FnSites", spec := "fnSites", unfollowed := true, recurses := true, plainKeys := false, apart := false, narrowed := true }
def FnSitesUptoSaid : Prop := fnSitesUptoRow.holds Tryz.pinned (OpenSpec.upto fnSitesSpec)

/-- 'laws.FnSeeds', WHERE WHAT IT READS IS OF BULK AT MOST 1048576: true; the input reads as it did. -/
def fnSeedsUptoRow : OpenClaim := { program := "ytniidcalfhhciaagreat", sum := "85b3505aee2141aae4a9977d3f7ef4a6b52abcc928ec69ea3c67c5c7ce5d7e69", func := "loop.example/g00943/laws.FnSeeds", spec := "fnSeeds", unfollowed := true, recurses := true, plainKeys := false, apart := false, narrowed := true }
def FnSeedsUptoSaid : Prop := fnSeedsUptoRow.holds Tryz.pinned (OpenSpec.upto fnSeedsSpec)

/-- 'laws.FnPainted', WHERE WHAT IT READS IS OF BULK AT MOST 1048576: true; the input reads as it did. -/
def fnPaintedUptoRow : OpenClaim := { program := "ytniidcalfhhciaagreat", sum := "85b3505aee2141aae4a9977d3f7ef4a6b52abcc928ec69ea3c67c5c7ce5d7e69", func := "loop.example/g00943/laws.FnPainted", spec := "fnPainted", unfollowed := true, recurses := true, plainKeys := false, apart := false, narrowed := true }
def FnPaintedUptoSaid : Prop := fnPaintedUptoRow.holds Tryz.pinned (OpenSpec.upto fnPaintedSpec)

/-- 'laws.FnStabilisers', WHERE WHAT IT READS IS OF BULK AT MOST 1048576: true; the input reads as it did. -/
def fnStabilisersUptoRow : OpenClaim := { program := "ytniidcalfhhciaagreat", sum := "85b3505aee2141aae4a9977d3f7ef4a6b52abcc928ec69ea3c67c5c7ce5d7e69", func := "loop.example/g00943/laws.FnStabilisers", spec := "fnStabilisers", unfollowed := true, recurses := true, plainKeys := false, apart := false, narrowed := true }
def FnStabilisersUptoSaid : Prop := fnStabilisersUptoRow.holds Tryz.pinned (OpenSpec.upto fnStabilisersSpec)

/-- 'laws.FnCounts', WHERE WHAT IT READS IS OF BULK AT MOST 1048576: true; the input reads as it did. -/
def fnCountsUptoRow : OpenClaim := { program := "ytniidcalfhhciaagreat", sum := "85b3505aee2141aae4a9977d3f7ef4a6b52abcc928ec69ea3c67c5c7ce5d7e69", func := "loop.example/g00943/laws.FnCounts", spec := "fnCounts", unfollowed := true, recurses := true, plainKeys := false, apart := false, narrowed := true }
def FnCountsUptoSaid : Prop := fnCountsUptoRow.holds Tryz.pinned (OpenSpec.upto fnCountsSpec)

/-- 'laws.FnUnits', WHERE WHAT IT READS IS OF BULK AT MOST 1048576: true; the input reads as it did. -/
def fnUnitsUptoRow : OpenClaim := { program := "ytniidcalfhhciaagreat", sum := "85b3505aee2141aae4a9977d3f7ef4a6b52abcc928ec69ea3c67c5c7ce5d7e69", func := "loop.example/g00943/laws.FnUnits", spec := "fnUnits", unfollowed := true, recurses := true, plainKeys := false, apart := false, narrowed := true }
def FnUnitsUptoSaid : Prop := fnUnitsUptoRow.holds Tryz.pinned (OpenSpec.upto fnUnitsSpec)

/-- 'laws.FnCompleted', WHERE WHAT IT READS IS OF BULK AT MOST 1048576: true; the input reads as it did. -/
def fnCompletedUptoRow : OpenClaim := { program := "ytniidcalfhhciaagreat", sum := "85b3505aee2141aae4a9977d3f7ef4a6b52abcc928ec69ea3c67c5c7ce5d7e69", func := "loop.example/g00943/laws.FnCompleted", spec := "fnCompleted", unfollowed := true, recurses := true, plainKeys := false, apart := false, narrowed := true }
def FnCompletedUptoSaid : Prop := fnCompletedUptoRow.holds Tryz.pinned (OpenSpec.upto fnCompletedSpec)

end Rows
end Go.Proofs.YtniidcalfhhciaaGreat
