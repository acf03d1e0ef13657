/-
  DERIVED. GIVEN WITH THE SEED: THE CARDS: each row of YtdajnfcggckdlaaDoorRows.lean that lists a variable, with what it lists TIED to the program's text (the seventh form; the later family's looks); each row that meets fmt, with fmt's text TOLD by the authors' own Lean function (tested against real Go, not proved from fmt's source: count such statements apart). THE CARD IS WHAT COUNTS. Prove the row's statement (the work); the ties are given (YtdajnfcggckdlaaDoorTie.lean); close each card by the builder's one call (the guide's Derived/Test/ToyasCard.lean, 'card_holds'). Laid BY PROGRAM, IN A SANDBOX (cutbox-door.mjs). By AI agents, Wed Nov 11 2026. No macro, syntax, notation, axiom, sorry.
-/
import Derived.Test.YtdajnfcggckdlaaDoorRows
import GoSem.ClaimSeven
namespace Go.Proofs.YtdajnfcggckdlaaDoor
namespace Rows

/-- THE TIED CARD OF 'fishlaw2.GuideDays'. -/
def guideDaysCard : Claim7 := { stood := { row := guideDaysRow, standIns := [], harness := (true, "5dc6818715368f04a7b82fcf1c2148e07d80e786f2ec6cd6be57bb997b24d214"), looks := false }, kinds := [], alts := [], laidByText := true, laidKinds := [.data, .data, .data], laidTests := true, laidLooks := .later }
def GuideDaysCardSaid : Prop := Claim7.holds Tryd.pinned (.plain (OpenSpec.ofChange guideDaysSpec)) guideDaysCard

/-- THE TIED CARD OF 'fishlaw2.GuideCrowds'. -/
def guideCrowdsCard : Claim7 := { stood := { row := guideCrowdsRow, standIns := [], harness := (true, "5dc6818715368f04a7b82fcf1c2148e07d80e786f2ec6cd6be57bb997b24d214"), looks := false }, kinds := [], alts := [], laidByText := true, laidKinds := [.data, .data, .data], laidTests := true, laidLooks := .later }
def GuideCrowdsCardSaid : Prop := Claim7.holds Tryd.pinned (.plain (OpenSpec.ofChange guideCrowdsSpec)) guideCrowdsCard

/-- THE SECOND FORM's CARD OF 'fishlaw2.GuideDays'. -/
def guideDaysUptoCard : Claim7 := { stood := { row := guideDaysUptoRow, standIns := [], harness := (true, "5dc6818715368f04a7b82fcf1c2148e07d80e786f2ec6cd6be57bb997b24d214"), looks := false }, kinds := [], alts := [], laidByText := true, laidKinds := [.data, .data, .data], laidTests := true, laidLooks := .later }
def GuideDaysUptoCardSaid : Prop := Claim7.holds Tryd.pinned (.plain (OpenSpec.upto guideDaysSpec)) guideDaysUptoCard

/-- THE SECOND FORM's CARD OF 'fishlaw2.GuideCrowds'. -/
def guideCrowdsUptoCard : Claim7 := { stood := { row := guideCrowdsUptoRow, standIns := [], harness := (true, "5dc6818715368f04a7b82fcf1c2148e07d80e786f2ec6cd6be57bb997b24d214"), looks := false }, kinds := [], alts := [], laidByText := true, laidKinds := [.data, .data, .data], laidTests := true, laidLooks := .later }
def GuideCrowdsUptoCardSaid : Prop := Claim7.holds Tryd.pinned (.plain (OpenSpec.upto guideCrowdsSpec)) guideCrowdsUptoCard
end Rows
end Go.Proofs.YtdajnfcggckdlaaDoor
