/-
  DERIVED. GIVEN WITH THE SEED: THE CARDS: each row of YtpogcicepceljaaDoorRows.lean that lists a variable, with what it lists TIED to the program's text (the seventh form; the later family's looks); each row that meets fmt, with fmt's text TOLD by the authors' own Lean function (tested against real Go, not proved from fmt's source: count such statements apart). THE CARD IS WHAT COUNTS. Prove the row's statement (the work); the ties are given (YtpogcicepceljaaDoorTie.lean); close each card by the builder's one call (the guide's Derived/Test/ToyasCard.lean, 'card_holds'). Laid BY PROGRAM, IN A SANDBOX (cutbox-door.mjs). By AI agents, Wed Nov 11 2026. No macro, syntax, notation, axiom, sorry.
-/
import Derived.Test.YtpogcicepceljaaDoorRows
import GoSem.ClaimSeven
namespace Go.Proofs.YtpogcicepceljaaDoor
namespace Rows

/-- THE TIED CARD OF 'fishlaw2.PlanAssigns'. -/
def planAssignsCard : Claim7 := { stood := { row := planAssignsRow, standIns := [], harness := (true, "490ee29bc72b73080c8e44d5b839d5e9242ec6aee6e6ee21122104a29a8e8dc6"), looks := false }, kinds := [], alts := [], laidByText := true, laidKinds := [.data, .data, .data], laidTests := true, laidLooks := .later }
def PlanAssignsCardSaid : Prop := Claim7.holds Tryd.pinned (.plain (OpenSpec.ofChange planAssignsSpec)) planAssignsCard

/-- THE SECOND FORM's CARD OF 'fishlaw2.PlanAssigns'. -/
def planAssignsUptoCard : Claim7 := { stood := { row := planAssignsUptoRow, standIns := [], harness := (true, "490ee29bc72b73080c8e44d5b839d5e9242ec6aee6e6ee21122104a29a8e8dc6"), looks := false }, kinds := [], alts := [], laidByText := true, laidKinds := [.data, .data, .data], laidTests := true, laidLooks := .later }
def PlanAssignsUptoCardSaid : Prop := Claim7.holds Tryd.pinned (.plain (OpenSpec.upto planAssignsSpec)) planAssignsUptoCard
end Rows
end Go.Proofs.YtpogcicepceljaaDoor
