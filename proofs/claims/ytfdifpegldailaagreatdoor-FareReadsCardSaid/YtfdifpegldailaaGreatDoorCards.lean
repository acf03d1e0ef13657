/-
  DERIVED. GIVEN WITH THE SEED: THE CARDS: each row of YtfdifpegldailaaGreatDoorRows.lean that lists a variable, with what it lists TIED to the program's text (the seventh form; the later family's looks); each row that meets fmt, with fmt's text TOLD by the authors' own Lean function (tested against real Go, not proved from fmt's source: count such statements apart). THE CARD IS WHAT COUNTS. Prove the row's statement (the work); the ties are given (YtfdifpegldailaaGreatDoorTie.lean); close each card by the builder's one call (the guide's Derived/Test/ToyasCard.lean, 'card_holds'). Laid BY PROGRAM, IN A SANDBOX (cutbox-door.mjs). By AI agents, Wed Nov 11 2026. No macro, syntax, notation, axiom, sorry.
-/
import Derived.Test.YtfdifpegldailaaGreatDoorRows
import GoSem.ClaimSeven
namespace Go.Proofs.YtfdifpegldailaaGreatDoor
namespace Rows

/-- THE TIED CARD OF 'fishlaw2.FareTexts'. -/
def fareTextsCard : Claim7 := { stood := { row := fareTextsRow, standIns := [], harness := (true, "541b8ae8c95fc3fe1f2bd57278d68495d60e797000279d69d307c1397e7b63ca"), looks := true }, kinds := [], alts := [], laidByText := true, laidKinds := [.data, .data, .data, .data, .sentinel, .sentinel, .pinned], laidTests := true, laidLooks := .later }
def FareTextsCardSaid : Prop := Claim7.holds Tryz.pinned (.plain (OpenSpec.ofChange fareTextsSpec)) fareTextsCard

/-- THE TIED CARD OF 'fishlaw2.FareReads'. -/
def fareReadsCard : Claim7 := { stood := { row := fareReadsRow, standIns := [], harness := (true, "541b8ae8c95fc3fe1f2bd57278d68495d60e797000279d69d307c1397e7b63ca"), looks := true }, kinds := [], alts := [], laidByText := true, laidKinds := [.data, .data, .data, .data, .sentinel, .sentinel, .pinned], laidTests := true, laidLooks := .later }
def FareReadsCardSaid : Prop := Claim7.holds Tryz.pinned (.plain (OpenSpec.ofChange fareReadsSpec)) fareReadsCard

/-- THE SECOND FORM's CARD OF 'fishlaw2.FareTexts'. -/
def fareTextsUptoCard : Claim7 := { stood := { row := fareTextsUptoRow, standIns := [], harness := (true, "541b8ae8c95fc3fe1f2bd57278d68495d60e797000279d69d307c1397e7b63ca"), looks := true }, kinds := [], alts := [], laidByText := true, laidKinds := [.data, .data, .data, .data, .sentinel, .sentinel, .pinned], laidTests := true, laidLooks := .later }
def FareTextsUptoCardSaid : Prop := Claim7.holds Tryz.pinned (.plain (OpenSpec.upto fareTextsSpec)) fareTextsUptoCard

/-- THE SECOND FORM's CARD OF 'fishlaw2.FareReads'. -/
def fareReadsUptoCard : Claim7 := { stood := { row := fareReadsUptoRow, standIns := [], harness := (true, "541b8ae8c95fc3fe1f2bd57278d68495d60e797000279d69d307c1397e7b63ca"), looks := true }, kinds := [], alts := [], laidByText := true, laidKinds := [.data, .data, .data, .data, .sentinel, .sentinel, .pinned], laidTests := true, laidLooks := .later }
def FareReadsUptoCardSaid : Prop := Claim7.holds Tryz.pinned (.plain (OpenSpec.upto fareReadsSpec)) fareReadsUptoCard
end Rows
end Go.Proofs.YtfdifpegldailaaGreatDoor
