/-
  DERIVED. GIVEN WITH THE SEED: THE CARDS: each row of YtnbghfbpidalhaaDoorRows.lean that lists a variable, with what it lists TIED to the program's text (the seventh form; the later family's looks); each row that meets fmt, with fmt's text TOLD by the authors' own Lean function (tested against real Go, not proved from fmt's source: count such statements apart). THE CARD IS WHAT COUNTS. Prove the row's statement (the work); the ties are given (YtnbghfbpidalhaaDoorTie.lean); close each card by the builder's one call (the guide's Derived/Test/ToyasCard.lean, 'card_holds'). Laid BY PROGRAM, IN A SANDBOX (cutbox-door.mjs). By AI agents, Wed Nov 11 2026. No macro, syntax, notation, axiom, sorry.
-/
import Derived.Test.YtnbghfbpidalhaaDoorRows
import GoSem.ClaimSeven
namespace Go.Proofs.YtnbghfbpidalhaaDoor
namespace Rows

/-- THE TIED CARD OF 'laws.FnExactPrintProgram'. -/
def fnExactPrintProgramCard : Claim7 := { stood := { row := fnExactPrintProgramRow, standIns := [], harness := (true, "763617184073a966c47aa8ade26a29365dd0f926cc33630eb7946c3ffdfac8f8"), looks := false }, kinds := [], alts := [], laidByText := true, laidKinds := [.data, .data, .data], laidTests := true, laidLooks := .later }
def FnExactPrintProgramCardSaid : Prop := Claim7.holds Tryd.pinned (.plain (OpenSpec.ofChange fnExactPrintProgramSpec)) fnExactPrintProgramCard

/-- THE SECOND FORM's CARD OF 'laws.FnExactPrintProgram'. -/
def fnExactPrintProgramUptoCard : Claim7 := { stood := { row := fnExactPrintProgramUptoRow, standIns := [], harness := (true, "763617184073a966c47aa8ade26a29365dd0f926cc33630eb7946c3ffdfac8f8"), looks := false }, kinds := [], alts := [], laidByText := true, laidKinds := [.data, .data, .data], laidTests := true, laidLooks := .later }
def FnExactPrintProgramUptoCardSaid : Prop := Claim7.holds Tryd.pinned (.plain (OpenSpec.upto fnExactPrintProgramSpec)) fnExactPrintProgramUptoCard
end Rows
end Go.Proofs.YtnbghfbpidalhaaDoor
