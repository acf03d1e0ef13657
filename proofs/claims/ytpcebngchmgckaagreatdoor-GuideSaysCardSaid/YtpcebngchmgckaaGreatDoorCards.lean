/-
  DERIVED. GIVEN WITH THE SEED: THE CARDS: each row of YtpcebngchmgckaaGreatDoorRows.lean that lists a variable, with what it lists TIED to the program's text (the seventh form; the later family's looks); each row that meets fmt, with fmt's text TOLD by the authors' own Lean function (tested against real Go, not proved from fmt's source: count such statements apart). THE CARD IS WHAT COUNTS. Prove the row's statement (the work); the ties are given (YtpcebngchmgckaaGreatDoorTie.lean); close each card by the builder's one call (the guide's Derived/Test/ToyasCard.lean, 'card_holds'). Laid BY PROGRAM, IN A SANDBOX (cutbox-door.mjs). By AI agents, Wed Nov 11 2026. No macro, syntax, notation, axiom, sorry.
-/
import Derived.Test.YtpcebngchmgckaaGreatDoorRows
import GoSem.ClaimSeven
namespace Go.Proofs.YtpcebngchmgckaaGreatDoor
namespace Rows

/-- THE TIED CARD OF 'fishlaw2.GuideSurest'. -/
def guideSurestCard : Claim7 := { stood := { row := guideSurestRow, standIns := [], harness := (true, "10d03d640b57d95359498a21a04b95707371f240c7fd520bc2de0f0b391f1750"), looks := false }, kinds := [], alts := [], laidByText := true, laidKinds := [.data, .data, .data], laidTests := true, laidLooks := .later }
def GuideSurestCardSaid : Prop := Claim7.holds Tryz.pinned (.plain (OpenSpec.ofChange guideSurestSpec)) guideSurestCard

/-- THE TIED CARD OF 'fishlaw2.GuideBoards'. -/
def guideBoardsCard : Claim7 := { stood := { row := guideBoardsRow, standIns := [], harness := (true, "10d03d640b57d95359498a21a04b95707371f240c7fd520bc2de0f0b391f1750"), looks := false }, kinds := [], alts := [], laidByText := true, laidKinds := [.data, .data, .data], laidTests := true, laidLooks := .later }
def GuideBoardsCardSaid : Prop := Claim7.holds Tryz.pinned (.plain (OpenSpec.ofChange guideBoardsSpec)) guideBoardsCard

/-- THE TIED CARD OF 'fishlaw2.GuideSays'. -/
def guideSaysCard : Claim7 := { stood := { row := guideSaysRow, standIns := [], harness := (true, "10d03d640b57d95359498a21a04b95707371f240c7fd520bc2de0f0b391f1750"), looks := false }, kinds := [], alts := [], laidByText := true, laidKinds := [.data, .data, .data], laidTests := true, laidLooks := .later }
def GuideSaysCardSaid : Prop := Claim7.holds Tryz.pinned (.plain (OpenSpec.ofChange guideSaysSpec)) guideSaysCard

/-- THE TIED CARD OF 'fishlaw2.GuideDesks'. -/
def guideDesksCard : Claim7 := { stood := { row := guideDesksRow, standIns := [], harness := (true, "10d03d640b57d95359498a21a04b95707371f240c7fd520bc2de0f0b391f1750"), looks := false }, kinds := [], alts := [], laidByText := true, laidKinds := [.data, .data, .data], laidTests := true, laidLooks := .later }
def GuideDesksCardSaid : Prop := Claim7.holds Tryz.pinned (.plain (OpenSpec.ofChange guideDesksSpec)) guideDesksCard

/-- THE SECOND FORM's CARD OF 'fishlaw2.GuideSurest'. -/
def guideSurestUptoCard : Claim7 := { stood := { row := guideSurestUptoRow, standIns := [], harness := (true, "10d03d640b57d95359498a21a04b95707371f240c7fd520bc2de0f0b391f1750"), looks := false }, kinds := [], alts := [], laidByText := true, laidKinds := [.data, .data, .data], laidTests := true, laidLooks := .later }
def GuideSurestUptoCardSaid : Prop := Claim7.holds Tryz.pinned (.plain (OpenSpec.upto guideSurestSpec)) guideSurestUptoCard

/-- THE SECOND FORM's CARD OF 'fishlaw2.GuideBoards'. -/
def guideBoardsUptoCard : Claim7 := { stood := { row := guideBoardsUptoRow, standIns := [], harness := (true, "10d03d640b57d95359498a21a04b95707371f240c7fd520bc2de0f0b391f1750"), looks := false }, kinds := [], alts := [], laidByText := true, laidKinds := [.data, .data, .data], laidTests := true, laidLooks := .later }
def GuideBoardsUptoCardSaid : Prop := Claim7.holds Tryz.pinned (.plain (OpenSpec.upto guideBoardsSpec)) guideBoardsUptoCard

/-- THE SECOND FORM's CARD OF 'fishlaw2.GuideSays'. -/
def guideSaysUptoCard : Claim7 := { stood := { row := guideSaysUptoRow, standIns := [], harness := (true, "10d03d640b57d95359498a21a04b95707371f240c7fd520bc2de0f0b391f1750"), looks := false }, kinds := [], alts := [], laidByText := true, laidKinds := [.data, .data, .data], laidTests := true, laidLooks := .later }
def GuideSaysUptoCardSaid : Prop := Claim7.holds Tryz.pinned (.plain (OpenSpec.upto guideSaysSpec)) guideSaysUptoCard

/-- THE SECOND FORM's CARD OF 'fishlaw2.GuideDesks'. -/
def guideDesksUptoCard : Claim7 := { stood := { row := guideDesksUptoRow, standIns := [], harness := (true, "10d03d640b57d95359498a21a04b95707371f240c7fd520bc2de0f0b391f1750"), looks := false }, kinds := [], alts := [], laidByText := true, laidKinds := [.data, .data, .data], laidTests := true, laidLooks := .later }
def GuideDesksUptoCardSaid : Prop := Claim7.holds Tryz.pinned (.plain (OpenSpec.upto guideDesksSpec)) guideDesksUptoCard
end Rows
end Go.Proofs.YtpcebngchmgckaaGreatDoor
