/-
  DERIVED. GIVEN WITH THE SEED: THE CARDS: each row of YtphhbdjjfacpiaaGreatDoorRows.lean that lists a variable, with what it lists TIED to the program's text (the seventh form; the later family's looks); each row that meets fmt, with fmt's text TOLD by the authors' own Lean function (tested against real Go, not proved from fmt's source: count such statements apart). THE CARD IS WHAT COUNTS. Prove the row's statement (the work); the ties are given (YtphhbdjjfacpiaaGreatDoorTie.lean); close each card by the builder's one call (the guide's Derived/Test/ToyasCard.lean, 'card_holds'). Laid BY PROGRAM, IN A SANDBOX (cutbox-door.mjs). By AI agents, Wed Nov 11 2026. No macro, syntax, notation, axiom, sorry.
-/
import Derived.Test.YtphhbdjjfacpiaaGreatDoorRows
import GoSem.ClaimSeven
namespace Go.Proofs.YtphhbdjjfacpiaaGreatDoor
namespace Rows

/-- THE TIED CARD OF 'laws.FnExactGroupOfProgram'. -/
def fnExactGroupOfProgramCard : Claim7 := { stood := { row := fnExactGroupOfProgramRow, standIns := [], harness := (true, "2eef33f8979f6d83c7b79b4068570f006750ada93227e493fb84d5d5666472e3"), looks := true }, kinds := [], alts := [], laidByText := true, laidKinds := [.data, .data, .data, .data, .sentinel, .sentinel, .pinned], laidTests := true, laidLooks := .later }
def FnExactGroupOfProgramCardSaid : Prop := Claim7.holds Tryz.pinned (.plain (OpenSpec.ofChange fnExactGroupOfProgramSpec)) fnExactGroupOfProgramCard

/-- THE SECOND FORM's CARD OF 'laws.FnExactGroupOfProgram'. -/
def fnExactGroupOfProgramUptoCard : Claim7 := { stood := { row := fnExactGroupOfProgramUptoRow, standIns := [], harness := (true, "2eef33f8979f6d83c7b79b4068570f006750ada93227e493fb84d5d5666472e3"), looks := true }, kinds := [], alts := [], laidByText := true, laidKinds := [.data, .data, .data, .data, .sentinel, .sentinel, .pinned], laidTests := true, laidLooks := .later }
def FnExactGroupOfProgramUptoCardSaid : Prop := Claim7.holds Tryz.pinned (.plain (OpenSpec.upto fnExactGroupOfProgramSpec)) fnExactGroupOfProgramUptoCard
end Rows
end Go.Proofs.YtphhbdjjfacpiaaGreatDoor
