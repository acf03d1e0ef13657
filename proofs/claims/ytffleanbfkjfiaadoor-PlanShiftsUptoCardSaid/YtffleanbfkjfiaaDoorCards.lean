/-
  DERIVED. GIVEN WITH THE SEED: THE CARDS: each row of YtffleanbfkjfiaaDoorRows.lean that lists a variable, with what it lists TIED to the program's text (the seventh form; the later family's looks); each row that meets fmt, with fmt's text TOLD by the authors' own Lean function (tested against real Go, not proved from fmt's source: count such statements apart). THE CARD IS WHAT COUNTS. Prove the row's statement (the work); the ties are given (YtffleanbfkjfiaaDoorTie.lean); close each card by the builder's one call (the guide's Derived/Test/ToyasCard.lean, 'card_holds'). Laid BY PROGRAM, IN A SANDBOX (cutbox-door.mjs). By AI agents, Wed Nov 11 2026. No macro, syntax, notation, axiom, sorry.
-/
import Derived.Test.YtffleanbfkjfiaaDoorRows
import GoSem.ClaimSeven
namespace Go.Proofs.YtffleanbfkjfiaaDoor
namespace Rows

/-- THE TIED CARD OF 'fishlaw2.PlanMisses'. -/
def planMissesCard : Claim7 := { stood := { row := planMissesRow, standIns := [], harness := (true, "d3a4c67aeee8ed1ebdebf69e164d022e27430029bf12bdcd2f4bc085eeb4547b"), looks := false }, kinds := [], alts := [], laidByText := true, laidKinds := [.data, .data, .data], laidTests := true, laidLooks := .later }
def PlanMissesCardSaid : Prop := Claim7.holds Tryd.pinned (.plain (OpenSpec.ofChange planMissesSpec)) planMissesCard

/-- THE TIED CARD OF 'fishlaw2.PlanShifts'. -/
def planShiftsCard : Claim7 := { stood := { row := planShiftsRow, standIns := [], harness := (true, "d3a4c67aeee8ed1ebdebf69e164d022e27430029bf12bdcd2f4bc085eeb4547b"), looks := false }, kinds := [], alts := [], laidByText := true, laidKinds := [.data, .data, .data], laidTests := true, laidLooks := .later }
def PlanShiftsCardSaid : Prop := Claim7.holds Tryd.pinned (.plain (OpenSpec.ofChange planShiftsSpec)) planShiftsCard

/-- THE SECOND FORM's CARD OF 'fishlaw2.PlanMisses'. -/
def planMissesUptoCard : Claim7 := { stood := { row := planMissesUptoRow, standIns := [], harness := (true, "d3a4c67aeee8ed1ebdebf69e164d022e27430029bf12bdcd2f4bc085eeb4547b"), looks := false }, kinds := [], alts := [], laidByText := true, laidKinds := [.data, .data, .data], laidTests := true, laidLooks := .later }
def PlanMissesUptoCardSaid : Prop := Claim7.holds Tryd.pinned (.plain (OpenSpec.upto planMissesSpec)) planMissesUptoCard

/-- THE SECOND FORM's CARD OF 'fishlaw2.PlanShifts'. -/
def planShiftsUptoCard : Claim7 := { stood := { row := planShiftsUptoRow, standIns := [], harness := (true, "d3a4c67aeee8ed1ebdebf69e164d022e27430029bf12bdcd2f4bc085eeb4547b"), looks := false }, kinds := [], alts := [], laidByText := true, laidKinds := [.data, .data, .data], laidTests := true, laidLooks := .later }
def PlanShiftsUptoCardSaid : Prop := Claim7.holds Tryd.pinned (.plain (OpenSpec.upto planShiftsSpec)) planShiftsUptoCard
end Rows
end Go.Proofs.YtffleanbfkjfiaaDoor
