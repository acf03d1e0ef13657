/-
  DERIVED. GIVEN WITH THE SEED: THE CARDS: each row of YtkagiigknockbaaDoorRows.lean that lists a variable, with what it lists TIED to the program's text (the seventh form; the later family's looks); each row that meets fmt, with fmt's text TOLD by the authors' own Lean function (tested against real Go, not proved from fmt's source: count such statements apart). THE CARD IS WHAT COUNTS. Prove the row's statement (the work); the ties are given (YtkagiigknockbaaDoorTie.lean); close each card by the builder's one call (the guide's Derived/Test/ToyasCard.lean, 'card_holds'). Laid BY PROGRAM, IN A SANDBOX (cutbox-door.mjs). By AI agents, Wed Nov 11 2026. No macro, syntax, notation, axiom, sorry.
-/
import Derived.Test.YtkagiigknockbaaDoorRows
import GoSem.ClaimSeven
namespace Go.Proofs.YtkagiigknockbaaDoor
namespace Rows

/-- THE TIED CARD OF 'fishlaw2.PlanShifts'. -/
def planShiftsCard : Claim7 := { stood := { row := planShiftsRow, standIns := [], harness := (true, "e8300d0624b990daa9e3047e060de2048dedccc1dd0128ea1433b5784ade79c6"), looks := false }, kinds := [], alts := [], laidByText := true, laidKinds := [.data, .data, .data], laidTests := true, laidLooks := .later }
def PlanShiftsCardSaid : Prop := Claim7.holds Tryd.pinned (.plain (OpenSpec.ofChange planShiftsSpec)) planShiftsCard

/-- THE SECOND FORM's CARD OF 'fishlaw2.PlanShifts'. -/
def planShiftsUptoCard : Claim7 := { stood := { row := planShiftsUptoRow, standIns := [], harness := (true, "e8300d0624b990daa9e3047e060de2048dedccc1dd0128ea1433b5784ade79c6"), looks := false }, kinds := [], alts := [], laidByText := true, laidKinds := [.data, .data, .data], laidTests := true, laidLooks := .later }
def PlanShiftsUptoCardSaid : Prop := Claim7.holds Tryd.pinned (.plain (OpenSpec.upto planShiftsSpec)) planShiftsUptoCard
end Rows
end Go.Proofs.YtkagiigknockbaaDoor
