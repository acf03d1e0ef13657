/-
  DERIVED. GIVEN WITH THE SEED: THE CARDS: each row of YthllfhmpjclplaaGreatDoorRows.lean that lists a variable, with what it lists TIED to the program's text (the seventh form; the later family's looks); each row that meets fmt, with fmt's text TOLD by the authors' own Lean function (tested against real Go, not proved from fmt's source: count such statements apart). THE CARD IS WHAT COUNTS. Prove the row's statement (the work); the ties are given (YthllfhmpjclplaaGreatDoorTie.lean); close each card by the builder's one call (the guide's Derived/Test/ToyasCard.lean, 'card_holds'). Laid BY PROGRAM, IN A SANDBOX (cutbox-door.mjs). By AI agents, Wed Nov 11 2026. No macro, syntax, notation, axiom, sorry.
-/
import Derived.Test.YthllfhmpjclplaaGreatDoorRows
import GoSem.ClaimSeven
namespace Go.Proofs.YthllfhmpjclplaaGreatDoor
namespace Rows

/-- THE TIED CARD OF 'fishlaw2.GuideDesks'. -/
def guideDesksCard : Claim7 := { stood := { row := guideDesksRow, standIns := [], harness := (true, "99bbc10641f90e235a990791630f09570c380b20bc69f5f5f222b6070d822c27"), looks := false }, kinds := [], alts := [], laidByText := true, laidKinds := [.data, .data, .data], laidTests := true, laidLooks := .later }
def GuideDesksCardSaid : Prop := Claim7.holds Tryz.pinned (.plain (OpenSpec.ofChange guideDesksSpec)) guideDesksCard

/-- THE SECOND FORM's CARD OF 'fishlaw2.GuideDesks'. -/
def guideDesksUptoCard : Claim7 := { stood := { row := guideDesksUptoRow, standIns := [], harness := (true, "99bbc10641f90e235a990791630f09570c380b20bc69f5f5f222b6070d822c27"), looks := false }, kinds := [], alts := [], laidByText := true, laidKinds := [.data, .data, .data], laidTests := true, laidLooks := .later }
def GuideDesksUptoCardSaid : Prop := Claim7.holds Tryz.pinned (.plain (OpenSpec.upto guideDesksSpec)) guideDesksUptoCard
end Rows
end Go.Proofs.YthllfhmpjclplaaGreatDoor
