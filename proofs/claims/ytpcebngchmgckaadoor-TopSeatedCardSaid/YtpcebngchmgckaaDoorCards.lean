/-
  DERIVED. GIVEN WITH THE SEED: THE CARDS: each row of YtpcebngchmgckaaDoorRows.lean that lists a variable, with what it lists TIED to the program's text (the seventh form; the later family's looks); each row that meets fmt, with fmt's text TOLD by the authors' own Lean function (tested against real Go, not proved from fmt's source: count such statements apart). THE CARD IS WHAT COUNTS. Prove the row's statement (the work); the ties are given (YtpcebngchmgckaaDoorTie.lean); close each card by the builder's one call (the guide's Derived/Test/ToyasCard.lean, 'card_holds'). Laid BY PROGRAM, IN A SANDBOX (cutbox-door.mjs). By AI agents, Wed Nov 11 2026. No macro, syntax, notation, axiom, sorry.
-/
import Derived.Test.YtpcebngchmgckaaDoorRows
import GoSem.ClaimSeven
namespace Go.Proofs.YtpcebngchmgckaaDoor
namespace Rows

/-- THE TIED CARD OF 'fishlaw2.GuideEarliest'. -/
def guideEarliestCard : Claim7 := { stood := { row := guideEarliestRow, standIns := [], harness := (true, "34f372ad5ae35625c18494ceaa561cd2e4db1feba48bf7d4c179f0694dc7861a"), looks := false }, kinds := [], alts := [], laidByText := true, laidKinds := [.data, .data, .data], laidTests := true, laidLooks := .later }
def GuideEarliestCardSaid : Prop := Claim7.holds Tryd.pinned (.plain (OpenSpec.ofChange guideEarliestSpec)) guideEarliestCard

/-- THE TIED CARD OF 'fishlaw2.GuideDays'. -/
def guideDaysCard : Claim7 := { stood := { row := guideDaysRow, standIns := [], harness := (true, "34f372ad5ae35625c18494ceaa561cd2e4db1feba48bf7d4c179f0694dc7861a"), looks := false }, kinds := [], alts := [], laidByText := true, laidKinds := [.data, .data, .data], laidTests := true, laidLooks := .later }
def GuideDaysCardSaid : Prop := Claim7.holds Tryd.pinned (.plain (OpenSpec.ofChange guideDaysSpec)) guideDaysCard

/-- THE TIED CARD OF 'fishlaw2.GuideCrowds'. -/
def guideCrowdsCard : Claim7 := { stood := { row := guideCrowdsRow, standIns := [], harness := (true, "34f372ad5ae35625c18494ceaa561cd2e4db1feba48bf7d4c179f0694dc7861a"), looks := false }, kinds := [], alts := [], laidByText := true, laidKinds := [.data, .data, .data], laidTests := true, laidLooks := .later }
def GuideCrowdsCardSaid : Prop := Claim7.holds Tryd.pinned (.plain (OpenSpec.ofChange guideCrowdsSpec)) guideCrowdsCard

/-- THE TIED CARD OF 'fishlaw2.GuideReaches'. -/
def guideReachesCard : Claim7 := { stood := { row := guideReachesRow, standIns := [], harness := (true, "34f372ad5ae35625c18494ceaa561cd2e4db1feba48bf7d4c179f0694dc7861a"), looks := false }, kinds := [], alts := [], laidByText := true, laidKinds := [.data, .data, .data], laidTests := true, laidLooks := .later }
def GuideReachesCardSaid : Prop := Claim7.holds Tryd.pinned (.plain (OpenSpec.ofChange guideReachesSpec)) guideReachesCard

/-- THE TIED CARD OF 'fishlaw2.GuideProfiles'. -/
def guideProfilesCard : Claim7 := { stood := { row := guideProfilesRow, standIns := [], harness := (true, "34f372ad5ae35625c18494ceaa561cd2e4db1feba48bf7d4c179f0694dc7861a"), looks := false }, kinds := [], alts := [], laidByText := true, laidKinds := [.data, .data, .data], laidTests := true, laidLooks := .later }
def GuideProfilesCardSaid : Prop := Claim7.holds Tryd.pinned (.plain (OpenSpec.ofChange guideProfilesSpec)) guideProfilesCard

/-- THE TIED CARD OF 'fishlaw2.GuideChances'. -/
def guideChancesCard : Claim7 := { stood := { row := guideChancesRow, standIns := [], harness := (true, "34f372ad5ae35625c18494ceaa561cd2e4db1feba48bf7d4c179f0694dc7861a"), looks := false }, kinds := [], alts := [], laidByText := true, laidKinds := [.data, .data, .data], laidTests := true, laidLooks := .later }
def GuideChancesCardSaid : Prop := Claim7.holds Tryd.pinned (.plain (OpenSpec.ofChange guideChancesSpec)) guideChancesCard

/-- THE TIED CARD OF 'fishtop.TopSeated'. -/
def topSeatedCard : Claim7 := { stood := { row := topSeatedRow, standIns := [], harness := (true, "34f372ad5ae35625c18494ceaa561cd2e4db1feba48bf7d4c179f0694dc7861a"), looks := false }, kinds := [], alts := [], laidByText := true, laidKinds := [.data, .data, .data], laidTests := true, laidLooks := .later }
def TopSeatedCardSaid : Prop := Claim7.holds Tryd.pinned (.plain (OpenSpec.ofChange topSeatedSpec)) topSeatedCard

/-- THE SECOND FORM's CARD OF 'fishlaw2.GuideEarliest'. -/
def guideEarliestUptoCard : Claim7 := { stood := { row := guideEarliestUptoRow, standIns := [], harness := (true, "34f372ad5ae35625c18494ceaa561cd2e4db1feba48bf7d4c179f0694dc7861a"), looks := false }, kinds := [], alts := [], laidByText := true, laidKinds := [.data, .data, .data], laidTests := true, laidLooks := .later }
def GuideEarliestUptoCardSaid : Prop := Claim7.holds Tryd.pinned (.plain (OpenSpec.upto guideEarliestSpec)) guideEarliestUptoCard

/-- THE SECOND FORM's CARD OF 'fishlaw2.GuideDays'. -/
def guideDaysUptoCard : Claim7 := { stood := { row := guideDaysUptoRow, standIns := [], harness := (true, "34f372ad5ae35625c18494ceaa561cd2e4db1feba48bf7d4c179f0694dc7861a"), looks := false }, kinds := [], alts := [], laidByText := true, laidKinds := [.data, .data, .data], laidTests := true, laidLooks := .later }
def GuideDaysUptoCardSaid : Prop := Claim7.holds Tryd.pinned (.plain (OpenSpec.upto guideDaysSpec)) guideDaysUptoCard

/-- THE SECOND FORM's CARD OF 'fishlaw2.GuideCrowds'. -/
def guideCrowdsUptoCard : Claim7 := { stood := { row := guideCrowdsUptoRow, standIns := [], harness := (true, "34f372ad5ae35625c18494ceaa561cd2e4db1feba48bf7d4c179f0694dc7861a"), looks := false }, kinds := [], alts := [], laidByText := true, laidKinds := [.data, .data, .data], laidTests := true, laidLooks := .later }
def GuideCrowdsUptoCardSaid : Prop := Claim7.holds Tryd.pinned (.plain (OpenSpec.upto guideCrowdsSpec)) guideCrowdsUptoCard

/-- THE SECOND FORM's CARD OF 'fishlaw2.GuideReaches'. -/
def guideReachesUptoCard : Claim7 := { stood := { row := guideReachesUptoRow, standIns := [], harness := (true, "34f372ad5ae35625c18494ceaa561cd2e4db1feba48bf7d4c179f0694dc7861a"), looks := false }, kinds := [], alts := [], laidByText := true, laidKinds := [.data, .data, .data], laidTests := true, laidLooks := .later }
def GuideReachesUptoCardSaid : Prop := Claim7.holds Tryd.pinned (.plain (OpenSpec.upto guideReachesSpec)) guideReachesUptoCard

/-- THE SECOND FORM's CARD OF 'fishlaw2.GuideProfiles'. -/
def guideProfilesUptoCard : Claim7 := { stood := { row := guideProfilesUptoRow, standIns := [], harness := (true, "34f372ad5ae35625c18494ceaa561cd2e4db1feba48bf7d4c179f0694dc7861a"), looks := false }, kinds := [], alts := [], laidByText := true, laidKinds := [.data, .data, .data], laidTests := true, laidLooks := .later }
def GuideProfilesUptoCardSaid : Prop := Claim7.holds Tryd.pinned (.plain (OpenSpec.upto guideProfilesSpec)) guideProfilesUptoCard

/-- THE SECOND FORM's CARD OF 'fishlaw2.GuideChances'. -/
def guideChancesUptoCard : Claim7 := { stood := { row := guideChancesUptoRow, standIns := [], harness := (true, "34f372ad5ae35625c18494ceaa561cd2e4db1feba48bf7d4c179f0694dc7861a"), looks := false }, kinds := [], alts := [], laidByText := true, laidKinds := [.data, .data, .data], laidTests := true, laidLooks := .later }
def GuideChancesUptoCardSaid : Prop := Claim7.holds Tryd.pinned (.plain (OpenSpec.upto guideChancesSpec)) guideChancesUptoCard

/-- THE SECOND FORM's CARD OF 'fishtop.TopSeated'. -/
def topSeatedUptoCard : Claim7 := { stood := { row := topSeatedUptoRow, standIns := [], harness := (true, "34f372ad5ae35625c18494ceaa561cd2e4db1feba48bf7d4c179f0694dc7861a"), looks := false }, kinds := [], alts := [], laidByText := true, laidKinds := [.data, .data, .data], laidTests := true, laidLooks := .later }
def TopSeatedUptoCardSaid : Prop := Claim7.holds Tryd.pinned (.plain (OpenSpec.upto topSeatedSpec)) topSeatedUptoCard
end Rows
end Go.Proofs.YtpcebngchmgckaaDoor
