/-
  No cell of these rows narrows 'for every input' (looked for: loops, veiled, ifaces, maps, wideKeys, modest, calm, conditions, laid).
  DERIVED. THE GIVEN ROWS OF THIS SEAT. 9 by the template 'for every input the law returns true; each argument reads behind the call as it read before'; 0 by the template 'total and deterministic' (their statements: YtpoooohaoekbaaaTotals.lean).
  GIVEN WITH THE SEED: the statements are not yours to turn. If you find one false, say at which input.
  Laid BY PROGRAM, IN A SANDBOX (cutbox-rows.mjs): the forced cells as the released guide's own fill.sh prints them over the translation f166612024604038… (all of the seat's roots in one cut). By AI agents, Wed Nov 11 2026. No macro, syntax, notation, axiom, sorry.
-/
import Derived.Test.YtpoooohaoekbaaaChecked
import GoSem.Claim
import GoSem.ClaimJoined
import GoSem.ClaimMapViews
import Derived.JoinedTies
import Derived.KernelRfl
namespace Go.Proofs.Ytpoooohaoekbaaa
/- THE CELL 'sum', in the pinned program and in every row, IS THE sha256 OF THE DUMP (.gsa) THAT YtpoooohaoekbaaaProg.lean LOADS. Nothing in Lean hashes anything: it is a label: what it is worth is what the hold of that sum in a sandbox is worth. -/
noncomputable def Try.pinned : Pinned := { name := "ytpoooohaoekbaaa", sum := "f16661202460403870f5e0bdf17556e72f4388804a3189989ae1eb9d4ed196dc", checked := Try.checked }
namespace Rows
def none {H : Type} : Left H := { results := [], args := [] }

/-- 'fishlaw2.FleetDepots': WHATEVER THE INPUT: true; the input reads as it did. -/
def fleetDepotsSpec : ChangeSpec := { name := "fleetDepots", fn := fun _ => fun
  | [d1, d2] => { results := [.lit (.bool true)], args := [d1, d2] }
  | _ => none }
def fleetDepotsRow : OpenClaim := { program := "ytpoooohaoekbaaa", sum := "f16661202460403870f5e0bdf17556e72f4388804a3189989ae1eb9d4ed196dc", func := "fishplate/fishlaw2.FleetDepots", spec := "fleetDepots", apart := false }
def FleetDepotsSaid : Prop := fleetDepotsRow.holds Try.pinned (OpenSpec.ofChange fleetDepotsSpec)

/-- ITS FALSE NEIGHBOUR: 'it returns false'. Refute it at one input. -/
def fleetDepotsWrong : ChangeSpec := { name := "fleetDepots", fn := fun _ => fun
  | [d1, d2] => { results := [.lit (.bool false)], args := [d1, d2] }
  | _ => none }
def FleetDepotsWrongFalsely : Prop := fleetDepotsRow.holds Try.pinned (OpenSpec.ofChange fleetDepotsWrong)

/-- 'fishlaw2.FleetJudges': WHATEVER THE INPUT: true; the input reads as it did. -/
def fleetJudgesSpec : ChangeSpec := { name := "fleetJudges", fn := fun _ => fun
  | [d1, d2, d3] => { results := [.lit (.bool true)], args := [d1, d2, d3] }
  | _ => none }
def fleetJudgesRow : OpenClaim := { program := "ytpoooohaoekbaaa", sum := "f16661202460403870f5e0bdf17556e72f4388804a3189989ae1eb9d4ed196dc", func := "fishplate/fishlaw2.FleetJudges", spec := "fleetJudges", unfollowed := true, recurses := true, apart := false }
def FleetJudgesSaid : Prop := fleetJudgesRow.holds Try.pinned (OpenSpec.ofChange fleetJudgesSpec)

/-- ITS FALSE NEIGHBOUR: 'it returns false'. Refute it at one input. -/
def fleetJudgesWrong : ChangeSpec := { name := "fleetJudges", fn := fun _ => fun
  | [d1, d2, d3] => { results := [.lit (.bool false)], args := [d1, d2, d3] }
  | _ => none }
def FleetJudgesWrongFalsely : Prop := fleetJudgesRow.holds Try.pinned (OpenSpec.ofChange fleetJudgesWrong)

/-- 'fishlaw2.FleetMoves': WHATEVER THE INPUT: true; the input reads as it did. -/
def fleetMovesSpec : ChangeSpec := { name := "fleetMoves", fn := fun _ => fun
  | [d1, d2] => { results := [.lit (.bool true)], args := [d1, d2] }
  | _ => none }
def fleetMovesRow : OpenClaim := { program := "ytpoooohaoekbaaa", sum := "f16661202460403870f5e0bdf17556e72f4388804a3189989ae1eb9d4ed196dc", func := "fishplate/fishlaw2.FleetMoves", spec := "fleetMoves", unfollowed := true, recurses := true, apart := false }
def FleetMovesSaid : Prop := fleetMovesRow.holds Try.pinned (OpenSpec.ofChange fleetMovesSpec)

/-- ITS FALSE NEIGHBOUR: 'it returns false'. Refute it at one input. -/
def fleetMovesWrong : ChangeSpec := { name := "fleetMoves", fn := fun _ => fun
  | [d1, d2] => { results := [.lit (.bool false)], args := [d1, d2] }
  | _ => none }
def FleetMovesWrongFalsely : Prop := fleetMovesRow.holds Try.pinned (OpenSpec.ofChange fleetMovesWrong)

/-- 'fishlaw2.FleetShifts': WHATEVER THE INPUT: true; the input reads as it did. -/
def fleetShiftsSpec : ChangeSpec := { name := "fleetShifts", fn := fun _ => fun
  | [d1, d2, d3] => { results := [.lit (.bool true)], args := [d1, d2, d3] }
  | _ => none }
def fleetShiftsRow : OpenClaim := { program := "ytpoooohaoekbaaa", sum := "f16661202460403870f5e0bdf17556e72f4388804a3189989ae1eb9d4ed196dc", func := "fishplate/fishlaw2.FleetShifts", spec := "fleetShifts", unfollowed := true, recurses := true, apart := false }
def FleetShiftsSaid : Prop := fleetShiftsRow.holds Try.pinned (OpenSpec.ofChange fleetShiftsSpec)

/-- ITS FALSE NEIGHBOUR: 'it returns false'. Refute it at one input. -/
def fleetShiftsWrong : ChangeSpec := { name := "fleetShifts", fn := fun _ => fun
  | [d1, d2, d3] => { results := [.lit (.bool false)], args := [d1, d2, d3] }
  | _ => none }
def FleetShiftsWrongFalsely : Prop := fleetShiftsRow.holds Try.pinned (OpenSpec.ofChange fleetShiftsWrong)

/-- 'fishlaw2.FleetTasks': WHATEVER THE INPUT: true; the input reads as it did. -/
def fleetTasksSpec : ChangeSpec := { name := "fleetTasks", fn := fun _ => fun
  | [d1, d2] => { results := [.lit (.bool true)], args := [d1, d2] }
  | _ => none }
def fleetTasksRow : OpenClaim := { program := "ytpoooohaoekbaaa", sum := "f16661202460403870f5e0bdf17556e72f4388804a3189989ae1eb9d4ed196dc", func := "fishplate/fishlaw2.FleetTasks", spec := "fleetTasks", unfollowed := true, recurses := true, apart := false }
def FleetTasksSaid : Prop := fleetTasksRow.holds Try.pinned (OpenSpec.ofChange fleetTasksSpec)

/-- ITS FALSE NEIGHBOUR: 'it returns false'. Refute it at one input. -/
def fleetTasksWrong : ChangeSpec := { name := "fleetTasks", fn := fun _ => fun
  | [d1, d2] => { results := [.lit (.bool false)], args := [d1, d2] }
  | _ => none }
def FleetTasksWrongFalsely : Prop := fleetTasksRow.holds Try.pinned (OpenSpec.ofChange fleetTasksWrong)

/-- 'fishlaw2.FleetRuns': WHATEVER THE INPUT: true; the input reads as it did. -/
def fleetRunsSpec : ChangeSpec := { name := "fleetRuns", fn := fun _ => fun
  | [d1, d2] => { results := [.lit (.bool true)], args := [d1, d2] }
  | _ => none }
def fleetRunsRow : OpenClaim := { program := "ytpoooohaoekbaaa", sum := "f16661202460403870f5e0bdf17556e72f4388804a3189989ae1eb9d4ed196dc", func := "fishplate/fishlaw2.FleetRuns", spec := "fleetRuns", unfollowed := true, recurses := true, apart := false }
def FleetRunsSaid : Prop := fleetRunsRow.holds Try.pinned (OpenSpec.ofChange fleetRunsSpec)

/-- ITS FALSE NEIGHBOUR: 'it returns false'. Refute it at one input. -/
def fleetRunsWrong : ChangeSpec := { name := "fleetRuns", fn := fun _ => fun
  | [d1, d2] => { results := [.lit (.bool false)], args := [d1, d2] }
  | _ => none }
def FleetRunsWrongFalsely : Prop := fleetRunsRow.holds Try.pinned (OpenSpec.ofChange fleetRunsWrong)

/-- 'fishlaw2.FleetMoments': WHATEVER THE INPUT: true; the input reads as it did. -/
def fleetMomentsSpec : ChangeSpec := { name := "fleetMoments", fn := fun _ => fun
  | [d1, d2] => { results := [.lit (.bool true)], args := [d1, d2] }
  | _ => none }
def fleetMomentsRow : OpenClaim := { program := "ytpoooohaoekbaaa", sum := "f16661202460403870f5e0bdf17556e72f4388804a3189989ae1eb9d4ed196dc", func := "fishplate/fishlaw2.FleetMoments", spec := "fleetMoments", unfollowed := true, recurses := true, apart := false }
def FleetMomentsSaid : Prop := fleetMomentsRow.holds Try.pinned (OpenSpec.ofChange fleetMomentsSpec)

/-- ITS FALSE NEIGHBOUR: 'it returns false'. Refute it at one input. -/
def fleetMomentsWrong : ChangeSpec := { name := "fleetMoments", fn := fun _ => fun
  | [d1, d2] => { results := [.lit (.bool false)], args := [d1, d2] }
  | _ => none }
def FleetMomentsWrongFalsely : Prop := fleetMomentsRow.holds Try.pinned (OpenSpec.ofChange fleetMomentsWrong)

/-- 'fishlaw2.FleetLegals': WHATEVER THE INPUT: true; the input reads as it did. -/
def fleetLegalsSpec : ChangeSpec := { name := "fleetLegals", fn := fun _ => fun
  | [d1, d2, d3] => { results := [.lit (.bool true)], args := [d1, d2, d3] }
  | _ => none }
def fleetLegalsRow : OpenClaim := { program := "ytpoooohaoekbaaa", sum := "f16661202460403870f5e0bdf17556e72f4388804a3189989ae1eb9d4ed196dc", func := "fishplate/fishlaw2.FleetLegals", spec := "fleetLegals", unfollowed := true, recurses := true, apart := false }
def FleetLegalsSaid : Prop := fleetLegalsRow.holds Try.pinned (OpenSpec.ofChange fleetLegalsSpec)

/-- ITS FALSE NEIGHBOUR: 'it returns false'. Refute it at one input. -/
def fleetLegalsWrong : ChangeSpec := { name := "fleetLegals", fn := fun _ => fun
  | [d1, d2, d3] => { results := [.lit (.bool false)], args := [d1, d2, d3] }
  | _ => none }
def FleetLegalsWrongFalsely : Prop := fleetLegalsRow.holds Try.pinned (OpenSpec.ofChange fleetLegalsWrong)

/-- 'fishlaw2.FleetTurns': WHATEVER THE INPUT: true; the input reads as it did. -/
def fleetTurnsSpec : ChangeSpec := { name := "fleetTurns", fn := fun _ => fun
  | [d1, d2] => { results := [.lit (.bool true)], args := [d1, d2] }
  | _ => none }
def fleetTurnsRow : OpenClaim := { program := "ytpoooohaoekbaaa", sum := "f16661202460403870f5e0bdf17556e72f4388804a3189989ae1eb9d4ed196dc", func := "fishplate/fishlaw2.FleetTurns", spec := "fleetTurns", unfollowed := true, recurses := true, apart := false }
def FleetTurnsSaid : Prop := fleetTurnsRow.holds Try.pinned (OpenSpec.ofChange fleetTurnsSpec)

/-- ITS FALSE NEIGHBOUR: 'it returns false'. Refute it at one input. -/
def fleetTurnsWrong : ChangeSpec := { name := "fleetTurns", fn := fun _ => fun
  | [d1, d2] => { results := [.lit (.bool false)], args := [d1, d2] }
  | _ => none }
def FleetTurnsWrongFalsely : Prop := fleetTurnsRow.holds Try.pinned (OpenSpec.ofChange fleetTurnsWrong)

/- THE SECOND FORM. 'bulk': how many values and letters a reading holds, each counted each time it is reached (what is shared counts as often as it is met; a slice's spare places count too). A statement '..UptoSaid' is the law's where the arguments, and the package variables that the reading takes, are together of bulk at most 1048576: NARROWER than '..Said'. Prove '..Said' where nothing that the law and all that it calls make is longer than what came in: it says more and counts as full. Else prove '..UptoSaid'. A law counts once. -/
mutual
def uptoBulk {H : Type} : DataW H → Nat
  | .lit (.string bytes) => bytes.length + 1
  | .lit _ => 1
  | .nil => 1
  | .ptr d => uptoBulk d + 1
  | .slice elems spare => uptoBulkAll elems + uptoBulkAll spare + 1
  | .agg parts => uptoBulkAll parts + 1
  | .iface _ d => uptoBulk d + 1
  | .map entries => uptoBulkEntries entries + 1
  | .held _ => 1
def uptoBulkAll {H : Type} : List (DataW H) → Nat
  | [] => 0
  | d :: r => uptoBulk d + uptoBulkAll r
def uptoBulkEntries {H : Type} : List (Lit × DataW H) → Nat
  | [] => 0
  | x :: r => uptoBulkEntry x + uptoBulkEntries r
def uptoBulkEntry {H : Type} : Lit × DataW H → Nat
  | (.string bytes, d) => bytes.length + uptoBulk d + 1
  | (_, d) => uptoBulk d + 1
 end
def uptoSmall : (H : Type) → List (DataW H) → Bool := fun _ ds => decide (uptoBulkAll ds ≤ 1048576)
def OpenSpec.upto (s : _root_.Go.ChangeSpec) : _root_.Go.OpenSpec := { _root_.Go.OpenSpec.ofChange s with cond := some uptoSmall }

/-- 'fishlaw2.FleetDepots', WHERE WHAT IT READS IS OF BULK AT MOST 1048576: true; the input reads as it did. -/
def fleetDepotsUptoRow : OpenClaim := { program := "ytpoooohaoekbaaa", sum := "f16661202460403870f5e0bdf17556e72f4388804a3189989ae1eb9d4ed196dc", func := "fishplate/fishlaw2.FleetDepots", spec := "fleetDepots", apart := false, narrowed := true }
def FleetDepotsUptoSaid : Prop := fleetDepotsUptoRow.holds Try.pinned (OpenSpec.upto fleetDepotsSpec)

/-- 'fishlaw2.FleetJudges', WHERE WHAT IT READS IS OF BULK AT MOST 1048576: true; the input reads as it did. -/
def fleetJudgesUptoRow : OpenClaim := { program := "ytpoooohaoekbaaa", sum := "f16661202460403870f5e0bdf17556e72f4388804a3189989ae1eb9d4ed196dc", func := "fishplate/fishlaw2.FleetJudges", spec := "fleetJudges", unfollowed := true, recurses := true, apart := false, narrowed := true }
def FleetJudgesUptoSaid : Prop := fleetJudgesUptoRow.holds Try.pinned (OpenSpec.upto fleetJudgesSpec)

/-- 'fishlaw2.FleetMoves', WHERE WHAT IT READS IS OF BULK AT MOST 1048576: true; the input reads as it did. -/
def fleetMovesUptoRow : OpenClaim := { program := "ytpoooohaoekbaaa", sum := "f16661202460403870f5e0bdf17556e72f4388804a3189989ae1eb9d4ed196dc", func := "fishplate/fishlaw2.FleetMoves", spec := "fleetMoves", unfollowed := true, recurses := true, apart := false, narrowed := true }
def FleetMovesUptoSaid : Prop := fleetMovesUptoRow.holds Try.pinned (OpenSpec.upto fleetMovesSpec)

/-- 'fishlaw2.FleetShifts', WHERE WHAT IT READS IS OF BULK AT MOST 1048576: true; the input reads as it did. -/
def fleetShiftsUptoRow : OpenClaim := { program := "ytpoooohaoekbaaa", sum := "f16661202460403870f5e0bdf17556e72f4388804a3189989ae1eb9d4ed196dc", func := "fishplate/fishlaw2.FleetShifts", spec := "fleetShifts", unfollowed := true, recurses := true, apart := false, narrowed := true }
def FleetShiftsUptoSaid : Prop := fleetShiftsUptoRow.holds Try.pinned (OpenSpec.upto fleetShiftsSpec)

/-- 'fishlaw2.FleetTasks', WHERE WHAT IT READS IS OF BULK AT MOST 1048576: true; the input reads as it did. -/
def fleetTasksUptoRow : OpenClaim := { program := "ytpoooohaoekbaaa", sum := "f16661202460403870f5e0bdf17556e72f4388804a3189989ae1eb9d4ed196dc", func := "fishplate/fishlaw2.FleetTasks", spec := "fleetTasks", unfollowed := true, recurses := true, apart := false, narrowed := true }
def FleetTasksUptoSaid : Prop := fleetTasksUptoRow.holds Try.pinned (OpenSpec.upto fleetTasksSpec)

/-- 'fishlaw2.FleetRuns', WHERE WHAT IT READS IS OF BULK AT MOST 1048576: true; the input reads as it did. -/
def fleetRunsUptoRow : OpenClaim := { program := "ytpoooohaoekbaaa", sum := "f16661202460403870f5e0bdf17556e72f4388804a3189989ae1eb9d4ed196dc", func := "fishplate/fishlaw2.FleetRuns", spec := "fleetRuns", unfollowed := true, recurses := true, apart := false, narrowed := true }
def FleetRunsUptoSaid : Prop := fleetRunsUptoRow.holds Try.pinned (OpenSpec.upto fleetRunsSpec)

/-- 'fishlaw2.FleetMoments', WHERE WHAT IT READS IS OF BULK AT MOST 1048576: true; the input reads as it did. -/
def fleetMomentsUptoRow : OpenClaim := { program := "ytpoooohaoekbaaa", sum := "f16661202460403870f5e0bdf17556e72f4388804a3189989ae1eb9d4ed196dc", func := "fishplate/fishlaw2.FleetMoments", spec := "fleetMoments", unfollowed := true, recurses := true, apart := false, narrowed := true }
def FleetMomentsUptoSaid : Prop := fleetMomentsUptoRow.holds Try.pinned (OpenSpec.upto fleetMomentsSpec)

/-- 'fishlaw2.FleetLegals', WHERE WHAT IT READS IS OF BULK AT MOST 1048576: true; the input reads as it did. -/
def fleetLegalsUptoRow : OpenClaim := { program := "ytpoooohaoekbaaa", sum := "f16661202460403870f5e0bdf17556e72f4388804a3189989ae1eb9d4ed196dc", func := "fishplate/fishlaw2.FleetLegals", spec := "fleetLegals", unfollowed := true, recurses := true, apart := false, narrowed := true }
def FleetLegalsUptoSaid : Prop := fleetLegalsUptoRow.holds Try.pinned (OpenSpec.upto fleetLegalsSpec)

/-- 'fishlaw2.FleetTurns', WHERE WHAT IT READS IS OF BULK AT MOST 1048576: true; the input reads as it did. -/
def fleetTurnsUptoRow : OpenClaim := { program := "ytpoooohaoekbaaa", sum := "f16661202460403870f5e0bdf17556e72f4388804a3189989ae1eb9d4ed196dc", func := "fishplate/fishlaw2.FleetTurns", spec := "fleetTurns", unfollowed := true, recurses := true, apart := false, narrowed := true }
def FleetTurnsUptoSaid : Prop := fleetTurnsUptoRow.holds Try.pinned (OpenSpec.upto fleetTurnsSpec)

end Rows
end Go.Proofs.Ytpoooohaoekbaaa
