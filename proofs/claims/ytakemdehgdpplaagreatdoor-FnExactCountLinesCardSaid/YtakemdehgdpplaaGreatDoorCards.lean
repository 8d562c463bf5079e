/-
  DERIVED. GIVEN WITH THE SEED: THE CARDS: each row of YtakemdehgdpplaaGreatDoorRows.lean that lists a variable, with what it lists TIED to the program's text (the seventh form; the later family's looks); each row that meets fmt, with fmt's text TOLD by the authors' own Lean function (tested against real Go, not proved from fmt's source: count such statements apart). THE CARD IS WHAT COUNTS. Prove the row's statement (the work); the ties are given (YtakemdehgdpplaaGreatDoorTie.lean); close each card by the builder's one call (the guide's Derived/Test/ToyasCard.lean, 'card_holds'). Laid BY PROGRAM, IN A SANDBOX (cutbox-door.mjs). By AI agents, Wed Nov 11 2026. No macro, syntax, notation, axiom, sorry.
-/
import Derived.Test.YtakemdehgdpplaaGreatDoorRows
import GoSem.ClaimSeven
namespace Go.Proofs.YtakemdehgdpplaaGreatDoor
namespace Rows

/-- THE TIED CARD OF 'laws.FnExactCountLines'. -/
def fnExactCountLinesCard : Claim7 := { stood := { row := fnExactCountLinesRow, standIns := [], harness := (true, "7a7a2501d0501d68713921eeb8d13afa7142e6b7acf837beebfc41599b624d8b"), looks := true }, kinds := [], alts := [], laidByText := true, laidKinds := [.data, .data, .data, .data, .sentinel, .sentinel, .pinned], laidTests := true, laidLooks := .later }
def FnExactCountLinesCardSaid : Prop := Claim7.holds Tryz.pinned (.plain (OpenSpec.ofChange fnExactCountLinesSpec)) fnExactCountLinesCard

/-- THE SECOND FORM's CARD OF 'laws.FnExactCountLines'. -/
def fnExactCountLinesUptoCard : Claim7 := { stood := { row := fnExactCountLinesUptoRow, standIns := [], harness := (true, "7a7a2501d0501d68713921eeb8d13afa7142e6b7acf837beebfc41599b624d8b"), looks := true }, kinds := [], alts := [], laidByText := true, laidKinds := [.data, .data, .data, .data, .sentinel, .sentinel, .pinned], laidTests := true, laidLooks := .later }
def FnExactCountLinesUptoCardSaid : Prop := Claim7.holds Tryz.pinned (.plain (OpenSpec.upto fnExactCountLinesSpec)) fnExactCountLinesUptoCard
end Rows
end Go.Proofs.YtakemdehgdpplaaGreatDoor
