/-
  DERIVED. GIVEN WITH THE SEED: THE CARDS: each row of YtloicbfdofgggaaDoorRows.lean that lists a variable, with what it lists TIED to the program's text (the seventh form; the later family's looks); each row that meets fmt, with fmt's text TOLD by the authors' own Lean function (tested against real Go, not proved from fmt's source: count such statements apart). THE CARD IS WHAT COUNTS. Prove the row's statement (the work); the ties are given (YtloicbfdofgggaaDoorTie.lean); close each card by the builder's one call (the guide's Derived/Test/ToyasCard.lean, 'card_holds'). Laid BY PROGRAM, IN A SANDBOX (cutbox-door.mjs). By AI agents, Wed Nov 11 2026. No macro, syntax, notation, axiom, sorry.
-/
import Derived.Test.YtloicbfdofgggaaDoorRows
import GoSem.ClaimSeven
namespace Go.Proofs.YtloicbfdofgggaaDoor
namespace Rows

/-- THE TIED CARD OF 'laws.FnExactIsDeskCommand'. -/
def fnExactIsDeskCommandCard : Claim7 := { stood := { row := fnExactIsDeskCommandRow, standIns := [], harness := (true, "7535b9c31d48179726390227efe56956bb1dc58e2afe3b3327d1a1e697811319"), looks := true }, kinds := [], alts := [], laidByText := true, laidKinds := [.data, .data, .data, .data, .sentinel, .sentinel, .pinned], laidTests := true, laidLooks := .later }
def FnExactIsDeskCommandCardSaid : Prop := Claim7.holds Tryd.pinned (.plain (OpenSpec.ofChange fnExactIsDeskCommandSpec)) fnExactIsDeskCommandCard

/-- THE SECOND FORM's CARD OF 'laws.FnExactIsDeskCommand'. -/
def fnExactIsDeskCommandUptoCard : Claim7 := { stood := { row := fnExactIsDeskCommandUptoRow, standIns := [], harness := (true, "7535b9c31d48179726390227efe56956bb1dc58e2afe3b3327d1a1e697811319"), looks := true }, kinds := [], alts := [], laidByText := true, laidKinds := [.data, .data, .data, .data, .sentinel, .sentinel, .pinned], laidTests := true, laidLooks := .later }
def FnExactIsDeskCommandUptoCardSaid : Prop := Claim7.holds Tryd.pinned (.plain (OpenSpec.upto fnExactIsDeskCommandSpec)) fnExactIsDeskCommandUptoCard
end Rows
end Go.Proofs.YtloicbfdofgggaaDoor
