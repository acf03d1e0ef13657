/-
  DERIVED. GIVEN WITH THE SEED: THE CARDS: each row of YtfhkpdnohcidgaaDoorRows.lean that lists a variable, with what it lists TIED to the program's text (the seventh form; the later family's looks); each row that meets fmt, with fmt's text TOLD by the authors' own Lean function (tested against real Go, not proved from fmt's source: count such statements apart). THE CARD IS WHAT COUNTS. Prove the row's statement (the work); the ties are given (YtfhkpdnohcidgaaDoorTie.lean); close each card by the builder's one call (the guide's Derived/Test/ToyasCard.lean, 'card_holds'). Laid BY PROGRAM, IN A SANDBOX (cutbox-door.mjs). By AI agents, Wed Nov 11 2026. No macro, syntax, notation, axiom, sorry.
-/
import Derived.Test.YtfhkpdnohcidgaaDoorRows
import GoSem.ClaimSeven
namespace Go.Proofs.YtfhkpdnohcidgaaDoor
namespace Rows

/-- THE TIED CARD OF 'fishlaw2.FleetShunts'. -/
def fleetShuntsCard : Claim7 := { stood := { row := fleetShuntsRow, standIns := [], harness := (true, "7f72cb356869a12865deaef9e6856f8131e190f7af4f7133b53d791bdb34a2bd"), looks := false }, kinds := [], alts := [], laidByText := true, laidKinds := [.data, .data, .data], laidTests := true, laidLooks := .later }
def FleetShuntsCardSaid : Prop := Claim7.holds Tryd.pinned (.plain (OpenSpec.ofChange fleetShuntsSpec)) fleetShuntsCard

/-- THE SECOND FORM's CARD OF 'fishlaw2.FleetShunts'. -/
def fleetShuntsUptoCard : Claim7 := { stood := { row := fleetShuntsUptoRow, standIns := [], harness := (true, "7f72cb356869a12865deaef9e6856f8131e190f7af4f7133b53d791bdb34a2bd"), looks := false }, kinds := [], alts := [], laidByText := true, laidKinds := [.data, .data, .data], laidTests := true, laidLooks := .later }
def FleetShuntsUptoCardSaid : Prop := Claim7.holds Tryd.pinned (.plain (OpenSpec.upto fleetShuntsSpec)) fleetShuntsUptoCard
end Rows
end Go.Proofs.YtfhkpdnohcidgaaDoor
