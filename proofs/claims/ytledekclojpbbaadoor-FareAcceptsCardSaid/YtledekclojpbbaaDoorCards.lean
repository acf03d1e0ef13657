/-
  DERIVED. GIVEN WITH THE SEED: THE CARDS: each row of YtledekclojpbbaaDoorRows.lean that lists a variable, with what it lists TIED to the program's text (the seventh form; the later family's looks); each row that meets fmt, with fmt's text TOLD by the authors' own Lean function (tested against real Go, not proved from fmt's source: count such statements apart). THE CARD IS WHAT COUNTS. Prove the row's statement (the work); the ties are given (YtledekclojpbbaaDoorTie.lean); close each card by the builder's one call (the guide's Derived/Test/ToyasCard.lean, 'card_holds'). Laid BY PROGRAM, IN A SANDBOX (cutbox-door.mjs). By AI agents, Wed Nov 11 2026. No macro, syntax, notation, axiom, sorry.
-/
import Derived.Test.YtledekclojpbbaaDoorRows
import GoSem.ClaimSeven
namespace Go.Proofs.YtledekclojpbbaaDoor
namespace Rows

/-- THE TIED CARD OF 'fishlaw2.PlanAssigns'. -/
def planAssignsCard : Claim7 := { stood := { row := planAssignsRow, standIns := [], harness := (true, "9dc928e1a4ae5749112c9c6dc230f217a59c993aaaba4b5187fb26df6750d097"), looks := true }, kinds := [], alts := [], laidByText := true, laidKinds := [.data, .data, .data], laidTests := true, laidLooks := .later }
def PlanAssignsCardSaid : Prop := Claim7.holds Tryd.pinned (.plain (OpenSpec.ofChange planAssignsSpec)) planAssignsCard

/-- THE TIED CARD OF 'fishlaw2.PlanTexts'. -/
def planTextsCard : Claim7 := { stood := { row := planTextsRow, standIns := [], harness := (true, "9dc928e1a4ae5749112c9c6dc230f217a59c993aaaba4b5187fb26df6750d097"), looks := true }, kinds := [], alts := [], laidByText := true, laidKinds := [.data, .data, .data, .data, .sentinel, .sentinel, .pinned], laidTests := true, laidLooks := .later }
def PlanTextsCardSaid : Prop := Claim7.holds Tryd.pinned (.plain (OpenSpec.ofChange planTextsSpec)) planTextsCard

/-- THE TIED CARD OF 'fishlaw2.PlanReads'. -/
def planReadsCard : Claim7 := { stood := { row := planReadsRow, standIns := [], harness := (true, "9dc928e1a4ae5749112c9c6dc230f217a59c993aaaba4b5187fb26df6750d097"), looks := true }, kinds := [], alts := [], laidByText := true, laidKinds := [.data, .data, .data, .data, .sentinel, .sentinel, .pinned], laidTests := true, laidLooks := .later }
def PlanReadsCardSaid : Prop := Claim7.holds Tryd.pinned (.plain (OpenSpec.ofChange planReadsSpec)) planReadsCard

/-- THE TIED CARD OF 'fishlaw2.FareOpens'. -/
def fareOpensCard : Claim7 := { stood := { row := fareOpensRow, standIns := [], harness := (true, "9dc928e1a4ae5749112c9c6dc230f217a59c993aaaba4b5187fb26df6750d097"), looks := true }, kinds := [], alts := [], laidByText := true, laidKinds := [.data, .data, .data, .data, .sentinel, .sentinel, .pinned], laidTests := true, laidLooks := .later }
def FareOpensCardSaid : Prop := Claim7.holds Tryd.pinned (.plain (OpenSpec.ofChange fareOpensSpec)) fareOpensCard

/-- THE TIED CARD OF 'fishlaw2.FareAccepts'. -/
def fareAcceptsCard : Claim7 := { stood := { row := fareAcceptsRow, standIns := [], harness := (true, "9dc928e1a4ae5749112c9c6dc230f217a59c993aaaba4b5187fb26df6750d097"), looks := true }, kinds := [], alts := [], laidByText := true, laidKinds := [.data, .data, .data, .data, .sentinel, .sentinel, .pinned], laidTests := true, laidLooks := .later }
def FareAcceptsCardSaid : Prop := Claim7.holds Tryd.pinned (.plain (OpenSpec.ofChange fareAcceptsSpec)) fareAcceptsCard

/-- THE SECOND FORM's CARD OF 'fishlaw2.PlanAssigns'. -/
def planAssignsUptoCard : Claim7 := { stood := { row := planAssignsUptoRow, standIns := [], harness := (true, "9dc928e1a4ae5749112c9c6dc230f217a59c993aaaba4b5187fb26df6750d097"), looks := true }, kinds := [], alts := [], laidByText := true, laidKinds := [.data, .data, .data], laidTests := true, laidLooks := .later }
def PlanAssignsUptoCardSaid : Prop := Claim7.holds Tryd.pinned (.plain (OpenSpec.upto planAssignsSpec)) planAssignsUptoCard

/-- THE SECOND FORM's CARD OF 'fishlaw2.PlanTexts'. -/
def planTextsUptoCard : Claim7 := { stood := { row := planTextsUptoRow, standIns := [], harness := (true, "9dc928e1a4ae5749112c9c6dc230f217a59c993aaaba4b5187fb26df6750d097"), looks := true }, kinds := [], alts := [], laidByText := true, laidKinds := [.data, .data, .data, .data, .sentinel, .sentinel, .pinned], laidTests := true, laidLooks := .later }
def PlanTextsUptoCardSaid : Prop := Claim7.holds Tryd.pinned (.plain (OpenSpec.upto planTextsSpec)) planTextsUptoCard

/-- THE SECOND FORM's CARD OF 'fishlaw2.PlanReads'. -/
def planReadsUptoCard : Claim7 := { stood := { row := planReadsUptoRow, standIns := [], harness := (true, "9dc928e1a4ae5749112c9c6dc230f217a59c993aaaba4b5187fb26df6750d097"), looks := true }, kinds := [], alts := [], laidByText := true, laidKinds := [.data, .data, .data, .data, .sentinel, .sentinel, .pinned], laidTests := true, laidLooks := .later }
def PlanReadsUptoCardSaid : Prop := Claim7.holds Tryd.pinned (.plain (OpenSpec.upto planReadsSpec)) planReadsUptoCard

/-- THE SECOND FORM's CARD OF 'fishlaw2.FareOpens'. -/
def fareOpensUptoCard : Claim7 := { stood := { row := fareOpensUptoRow, standIns := [], harness := (true, "9dc928e1a4ae5749112c9c6dc230f217a59c993aaaba4b5187fb26df6750d097"), looks := true }, kinds := [], alts := [], laidByText := true, laidKinds := [.data, .data, .data, .data, .sentinel, .sentinel, .pinned], laidTests := true, laidLooks := .later }
def FareOpensUptoCardSaid : Prop := Claim7.holds Tryd.pinned (.plain (OpenSpec.upto fareOpensSpec)) fareOpensUptoCard

/-- THE SECOND FORM's CARD OF 'fishlaw2.FareAccepts'. -/
def fareAcceptsUptoCard : Claim7 := { stood := { row := fareAcceptsUptoRow, standIns := [], harness := (true, "9dc928e1a4ae5749112c9c6dc230f217a59c993aaaba4b5187fb26df6750d097"), looks := true }, kinds := [], alts := [], laidByText := true, laidKinds := [.data, .data, .data, .data, .sentinel, .sentinel, .pinned], laidTests := true, laidLooks := .later }
def FareAcceptsUptoCardSaid : Prop := Claim7.holds Tryd.pinned (.plain (OpenSpec.upto fareAcceptsSpec)) fareAcceptsUptoCard
end Rows
end Go.Proofs.YtledekclojpbbaaDoor
