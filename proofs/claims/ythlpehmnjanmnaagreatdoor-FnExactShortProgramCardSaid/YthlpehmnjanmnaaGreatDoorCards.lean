/-
  DERIVED. GIVEN WITH THE SEED: THE CARDS: each row of YthlpehmnjanmnaaGreatDoorRows.lean that lists a variable, with what it lists TIED to the program's text (the seventh form; the later family's looks); each row that meets fmt, with fmt's text TOLD by the authors' own Lean function (tested against real Go, not proved from fmt's source: count such statements apart). THE CARD IS WHAT COUNTS. Prove the row's statement (the work); the ties are given (YthlpehmnjanmnaaGreatDoorTie.lean); close each card by the builder's one call (the guide's Derived/Test/ToyasCard.lean, 'card_holds'). Laid BY PROGRAM, IN A SANDBOX (cutbox-door.mjs). By AI agents, Wed Nov 11 2026. No macro, syntax, notation, axiom, sorry.
-/
import Derived.Test.YthlpehmnjanmnaaGreatDoorRows
import GoSem.ClaimSeven
namespace Go.Proofs.YthlpehmnjanmnaaGreatDoor
namespace Rows

/-- THE TIED CARD OF 'laws.FnExactShortProgram'. -/
def fnExactShortProgramCard : Claim7 := { stood := { row := fnExactShortProgramRow, standIns := [], harness := (true, "f9128160764adc101c7f4053742c349d9ba66bb2628db239491755c609439786"), looks := false }, kinds := [], alts := [], laidByText := true, laidKinds := [.data, .data, .data], laidTests := true, laidLooks := .later }
def FnExactShortProgramCardSaid : Prop := Claim7.holds Tryz.pinned (.plain (OpenSpec.ofChange fnExactShortProgramSpec)) fnExactShortProgramCard

/-- THE SECOND FORM's CARD OF 'laws.FnExactShortProgram'. -/
def fnExactShortProgramUptoCard : Claim7 := { stood := { row := fnExactShortProgramUptoRow, standIns := [], harness := (true, "f9128160764adc101c7f4053742c349d9ba66bb2628db239491755c609439786"), looks := false }, kinds := [], alts := [], laidByText := true, laidKinds := [.data, .data, .data], laidTests := true, laidLooks := .later }
def FnExactShortProgramUptoCardSaid : Prop := Claim7.holds Tryz.pinned (.plain (OpenSpec.upto fnExactShortProgramSpec)) fnExactShortProgramUptoCard
end Rows
end Go.Proofs.YthlpehmnjanmnaaGreatDoor
