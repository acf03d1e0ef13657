/-
  DERIVED. GIVEN WITH THE SEED: THE CARDS: each row of YtelbaoceiimjjaaDoorRows.lean that lists a variable, with what it lists TIED to the program's text (the seventh form; the later family's looks); each row that meets fmt, with fmt's text TOLD by the authors' own Lean function (tested against real Go, not proved from fmt's source: count such statements apart). THE CARD IS WHAT COUNTS. Prove the row's statement (the work); the ties are given (YtelbaoceiimjjaaDoorTie.lean); close each card by the builder's one call (the guide's Derived/Test/ToyasCard.lean, 'card_holds'). Laid BY PROGRAM, IN A SANDBOX (cutbox-door.mjs). By AI agents, Wed Nov 11 2026. No macro, syntax, notation, axiom, sorry.
-/
import Derived.Test.YtelbaoceiimjjaaDoorRows
import GoSem.ClaimSeven
namespace Go.Proofs.YtelbaoceiimjjaaDoor
namespace Rows

/-- THE TIED CARD OF 'fishlaw2.FareIssues'. -/
def fareIssuesCard : Claim7 := { stood := { row := fareIssuesRow, standIns := [], harness := (true, "cd84688f3d541ecafb86783bf781ce6b2472deff68b443935e14bf83f942d541"), looks := false }, kinds := [], alts := [], laidByText := true, laidKinds := [.data, .data, .data], laidTests := true, laidLooks := .later }
def FareIssuesCardSaid : Prop := Claim7.holds Tryd.pinned (.plain (OpenSpec.ofChange fareIssuesSpec)) fareIssuesCard

/-- THE SECOND FORM's CARD OF 'fishlaw2.FareIssues'. -/
def fareIssuesUptoCard : Claim7 := { stood := { row := fareIssuesUptoRow, standIns := [], harness := (true, "cd84688f3d541ecafb86783bf781ce6b2472deff68b443935e14bf83f942d541"), looks := false }, kinds := [], alts := [], laidByText := true, laidKinds := [.data, .data, .data], laidTests := true, laidLooks := .later }
def FareIssuesUptoCardSaid : Prop := Claim7.holds Tryd.pinned (.plain (OpenSpec.upto fareIssuesSpec)) fareIssuesUptoCard
end Rows
end Go.Proofs.YtelbaoceiimjjaaDoor
