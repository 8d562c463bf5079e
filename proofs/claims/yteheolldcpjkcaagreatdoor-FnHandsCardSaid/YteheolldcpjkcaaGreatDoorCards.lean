/-
  DERIVED. GIVEN WITH THE SEED: THE CARDS: each row of YteheolldcpjkcaaGreatDoorRows.lean that lists a variable, with what it lists TIED to the program's text (the seventh form; the later family's looks); each row that meets fmt, with fmt's text TOLD by the authors' own Lean function (tested against real Go, not proved from fmt's source: count such statements apart). THE CARD IS WHAT COUNTS. Prove the row's statement (the work); the ties are given (YteheolldcpjkcaaGreatDoorTie.lean); close each card by the builder's one call (the guide's Derived/Test/ToyasCard.lean, 'card_holds'). Laid BY PROGRAM, IN A SANDBOX (cutbox-door.mjs). By AI agents, Wed Nov 11 2026. No macro, syntax, notation, axiom, sorry.
-/
import Derived.Test.YteheolldcpjkcaaGreatDoorRows
import GoSem.ClaimSeven
namespace Go.Proofs.YteheolldcpjkcaaGreatDoor
namespace Rows

/-- THE TIED CARD OF 'laws.FnHands'. -/
def fnHandsCard : Claim7 := { stood := { row := fnHandsRow, standIns := [], harness := (true, "09c5788a656a93d9859ab6c4371ebe78ec3803e239b81a10afb625151a2e3828"), looks := false }, kinds := [], alts := [], laidByText := true, laidKinds := [.data, .data, .data], laidTests := true, laidLooks := .later }
def FnHandsCardSaid : Prop := Claim7.holds Tryz.pinned (.plain (OpenSpec.ofChange fnHandsSpec)) fnHandsCard

/-- THE TIED CARD OF 'laws.FnTwoColours'. -/
def fnTwoColoursCard : Claim7 := { stood := { row := fnTwoColoursRow, standIns := [], harness := (true, "09c5788a656a93d9859ab6c4371ebe78ec3803e239b81a10afb625151a2e3828"), looks := false }, kinds := [], alts := [], laidByText := true, laidKinds := [.data, .data, .data], laidTests := true, laidLooks := .later }
def FnTwoColoursCardSaid : Prop := Claim7.holds Tryz.pinned (.plain (OpenSpec.ofChange fnTwoColoursSpec)) fnTwoColoursCard

/-- THE SECOND FORM's CARD OF 'laws.FnHands'. -/
def fnHandsUptoCard : Claim7 := { stood := { row := fnHandsUptoRow, standIns := [], harness := (true, "09c5788a656a93d9859ab6c4371ebe78ec3803e239b81a10afb625151a2e3828"), looks := false }, kinds := [], alts := [], laidByText := true, laidKinds := [.data, .data, .data], laidTests := true, laidLooks := .later }
def FnHandsUptoCardSaid : Prop := Claim7.holds Tryz.pinned (.plain (OpenSpec.upto fnHandsSpec)) fnHandsUptoCard

/-- THE SECOND FORM's CARD OF 'laws.FnTwoColours'. -/
def fnTwoColoursUptoCard : Claim7 := { stood := { row := fnTwoColoursUptoRow, standIns := [], harness := (true, "09c5788a656a93d9859ab6c4371ebe78ec3803e239b81a10afb625151a2e3828"), looks := false }, kinds := [], alts := [], laidByText := true, laidKinds := [.data, .data, .data], laidTests := true, laidLooks := .later }
def FnTwoColoursUptoCardSaid : Prop := Claim7.holds Tryz.pinned (.plain (OpenSpec.upto fnTwoColoursSpec)) fnTwoColoursUptoCard
end Rows
end Go.Proofs.YteheolldcpjkcaaGreatDoor
