/-
  DERIVED. GIVEN WITH THE SEED: THE CARDS: each row of YtelgaemfnhnbmaaGreatDoorRows.lean that lists a variable, with what it lists TIED to the program's text (the seventh form; the later family's looks); each row that meets fmt, with fmt's text TOLD by the authors' own Lean function (tested against real Go, not proved from fmt's source: count such statements apart). THE CARD IS WHAT COUNTS. Prove the row's statement (the work); the ties are given (YtelgaemfnhnbmaaGreatDoorTie.lean); close each card by the builder's one call (the guide's Derived/Test/ToyasCard.lean, 'card_holds'). Laid BY PROGRAM, IN A SANDBOX (cutbox-door.mjs). By AI agents, Wed Nov 11 2026. No macro, syntax, notation, axiom, sorry.
-/
import Derived.Test.YtelgaemfnhnbmaaGreatDoorRows
import GoSem.ClaimSeven
namespace Go.Proofs.YtelgaemfnhnbmaaGreatDoor
namespace Rows

/-- THE TIED CARD OF 'laws.FnShortPrograms'. -/
def fnShortProgramsCard : Claim7 := { stood := { row := fnShortProgramsRow, standIns := [], harness := (true, "64421baa144131f773b5dffc7b209021b3e4bf85f7d048af2cbfaf5ce6a6e41e"), looks := true }, kinds := [], alts := [], laidByText := true, laidKinds := [.data, .data, .data, .data, .sentinel, .sentinel, .pinned], laidTests := true, laidLooks := .later }
def FnShortProgramsCardSaid : Prop := Claim7.holds Tryz.pinned (.plain (OpenSpec.ofChange fnShortProgramsSpec)) fnShortProgramsCard

/-- THE SECOND FORM's CARD OF 'laws.FnShortPrograms'. -/
def fnShortProgramsUptoCard : Claim7 := { stood := { row := fnShortProgramsUptoRow, standIns := [], harness := (true, "64421baa144131f773b5dffc7b209021b3e4bf85f7d048af2cbfaf5ce6a6e41e"), looks := true }, kinds := [], alts := [], laidByText := true, laidKinds := [.data, .data, .data, .data, .sentinel, .sentinel, .pinned], laidTests := true, laidLooks := .later }
def FnShortProgramsUptoCardSaid : Prop := Claim7.holds Tryz.pinned (.plain (OpenSpec.upto fnShortProgramsSpec)) fnShortProgramsUptoCard
end Rows
end Go.Proofs.YtelgaemfnhnbmaaGreatDoor
