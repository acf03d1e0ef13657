/-
  DERIVED. GIVEN WITH THE SEED: THE CARDS: each row of YtngamgkmhgmmjaaGreatDoorRows.lean that lists a variable, with what it lists TIED to the program's text (the seventh form; the later family's looks); each row that meets fmt, with fmt's text TOLD by the authors' own Lean function (tested against real Go, not proved from fmt's source: count such statements apart). THE CARD IS WHAT COUNTS. Prove the row's statement (the work); the ties are given (YtngamgkmhgmmjaaGreatDoorTie.lean); close each card by the builder's one call (the guide's Derived/Test/ToyasCard.lean, 'card_holds'). Laid BY PROGRAM, IN A SANDBOX (cutbox-door.mjs). By AI agents, Wed Nov 11 2026. No macro, syntax, notation, axiom, sorry.
-/
import Derived.Test.YtngamgkmhgmmjaaGreatDoorRows
import GoSem.ClaimSeven
namespace Go.Proofs.YtngamgkmhgmmjaaGreatDoor
namespace Rows

/-- THE TIED CARD OF 'fishtop.TopTicketed'. -/
def topTicketedCard : Claim7 := { stood := { row := topTicketedRow, standIns := [], harness := (true, "0705bb09e079d2ada55b31aae6bd8c6a6389f35ee754d7a4bd8ec216532a8760"), looks := true }, kinds := [], alts := [], laidByText := true, laidKinds := [.data, .data, .data, .data, .sentinel, .sentinel, .pinned], laidTests := true, laidLooks := .later }
def TopTicketedCardSaid : Prop := Claim7.holds Tryz.pinned (.plain (OpenSpec.ofChange topTicketedSpec)) topTicketedCard

/-- THE SECOND FORM's CARD OF 'fishtop.TopTicketed'. -/
def topTicketedUptoCard : Claim7 := { stood := { row := topTicketedUptoRow, standIns := [], harness := (true, "0705bb09e079d2ada55b31aae6bd8c6a6389f35ee754d7a4bd8ec216532a8760"), looks := true }, kinds := [], alts := [], laidByText := true, laidKinds := [.data, .data, .data, .data, .sentinel, .sentinel, .pinned], laidTests := true, laidLooks := .later }
def TopTicketedUptoCardSaid : Prop := Claim7.holds Tryz.pinned (.plain (OpenSpec.upto topTicketedSpec)) topTicketedUptoCard
end Rows
end Go.Proofs.YtngamgkmhgmmjaaGreatDoor
