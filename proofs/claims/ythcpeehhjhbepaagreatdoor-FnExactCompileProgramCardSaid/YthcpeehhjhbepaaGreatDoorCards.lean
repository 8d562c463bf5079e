/-
  DERIVED. GIVEN WITH THE SEED: THE CARDS: each row of YthcpeehhjhbepaaGreatDoorRows.lean that lists a variable, with what it lists TIED to the program's text (the seventh form; the later family's looks); each row that meets fmt, with fmt's text TOLD by the authors' own Lean function (tested against real Go, not proved from fmt's source: count such statements apart). THE CARD IS WHAT COUNTS. Prove the row's statement (the work); the ties are given (YthcpeehhjhbepaaGreatDoorTie.lean); close each card by the builder's one call (the guide's Derived/Test/ToyasCard.lean, 'card_holds'). Laid BY PROGRAM, IN A SANDBOX (cutbox-door.mjs). By AI agents, Wed Nov 11 2026. No macro, syntax, notation, axiom, sorry.
-/
import Derived.Test.YthcpeehhjhbepaaGreatDoorRows
import GoSem.ClaimSeven
namespace Go.Proofs.YthcpeehhjhbepaaGreatDoor
namespace Rows

/-- THE TIED CARD OF 'laws.FnExactCompileProgram'. -/
def fnExactCompileProgramCard : Claim7 := { stood := { row := fnExactCompileProgramRow, standIns := [], harness := (true, "0202161f95573aacc67c7e3ae04bf562ffc56b8c4e5332a445e747190d61c834"), looks := true }, kinds := [], alts := [], laidByText := true, laidKinds := [.data, .data, .data, .data, .sentinel, .sentinel, .pinned], laidTests := true, laidLooks := .later }
def FnExactCompileProgramCardSaid : Prop := Claim7.holds Tryz.pinned (.plain (OpenSpec.ofChange fnExactCompileProgramSpec)) fnExactCompileProgramCard

/-- THE SECOND FORM's CARD OF 'laws.FnExactCompileProgram'. -/
def fnExactCompileProgramUptoCard : Claim7 := { stood := { row := fnExactCompileProgramUptoRow, standIns := [], harness := (true, "0202161f95573aacc67c7e3ae04bf562ffc56b8c4e5332a445e747190d61c834"), looks := true }, kinds := [], alts := [], laidByText := true, laidKinds := [.data, .data, .data, .data, .sentinel, .sentinel, .pinned], laidTests := true, laidLooks := .later }
def FnExactCompileProgramUptoCardSaid : Prop := Claim7.holds Tryz.pinned (.plain (OpenSpec.upto fnExactCompileProgramSpec)) fnExactCompileProgramUptoCard
end Rows
end Go.Proofs.YthcpeehhjhbepaaGreatDoor
