/-
  NARROWER THAN 'FOR EVERY INPUT', by the rows' own cells (each row's printed sentence says how): FareTariffs: loops · FarePrices: loops · FareHolds: loops.
  DERIVED. THE GIVEN ROWS OF THIS SEAT. 8 by the template 'for every input the law returns true; each argument reads behind the call as it read before'; 0 by the template 'total and deterministic' (their statements: YtmgdigencbganaaTotals.lean).
  GIVEN WITH THE SEED: the statements are not yours to turn. If you find one false, say at which input.
  Laid BY PROGRAM, IN A SANDBOX (cutbox-rows.mjs): the forced cells as the released guide's own fill.sh prints them over the translation d945c270a8617984… (all of the seat's roots in one cut). By AI agents, Wed Nov 11 2026. No macro, syntax, notation, axiom, sorry.
-/
import Derived.Test.YtmgdigencbganaaChecked
import GoSem.Claim
import GoSem.ClaimJoined
import GoSem.ClaimMapViews
import Derived.JoinedTies
import Derived.KernelRfl
namespace Go.Proofs.Ytmgdigencbganaa
/- THE CELL 'sum', in the pinned program and in every row, IS THE sha256 OF THE DUMP (.gsa) THAT YtmgdigencbganaaProg.lean LOADS. Nothing in Lean hashes anything: it is a label: what it is worth is what the hold of that sum in a sandbox is worth. -/
noncomputable def Try.pinned : Pinned := { name := "ytmgdigencbganaa", sum := "d945c270a861798429664366c091bdfc56ed10a53b4b1e9ffb21cfe04825b815", checked := Try.checked }
namespace Rows
def none {H : Type} : Left H := { results := [], args := [] }

/-- 'fishlaw2.FareTariffs': WHATEVER THE INPUT: true; the input reads as it did. -/
def fareTariffsSpec : ChangeSpec := { name := "fareTariffs", fn := fun _ => fun
  | [d1, d2] => { results := [.lit (.bool true)], args := [d1, d2] }
  | _ => none }
def fareTariffsRow : OpenClaim := { program := "ytmgdigencbganaa", sum := "d945c270a861798429664366c091bdfc56ed10a53b4b1e9ffb21cfe04825b815", func := "fishplate/fishlaw2.FareTariffs", spec := "fareTariffs", unfollowed := true, recurses := true, loops := true, apart := false }
def FareTariffsSaid : Prop := fareTariffsRow.holds Try.pinned (OpenSpec.ofChange fareTariffsSpec)

/-- ITS FALSE NEIGHBOUR: 'it returns false'. Refute it at one input. -/
def fareTariffsWrong : ChangeSpec := { name := "fareTariffs", fn := fun _ => fun
  | [d1, d2] => { results := [.lit (.bool false)], args := [d1, d2] }
  | _ => none }
def FareTariffsWrongFalsely : Prop := fareTariffsRow.holds Try.pinned (OpenSpec.ofChange fareTariffsWrong)

/-- 'fishlaw2.FarePrices': WHATEVER THE INPUT: true; the input reads as it did. -/
def farePricesSpec : ChangeSpec := { name := "farePrices", fn := fun _ => fun
  | [d1, d2] => { results := [.lit (.bool true)], args := [d1, d2] }
  | _ => none }
def farePricesRow : OpenClaim := { program := "ytmgdigencbganaa", sum := "d945c270a861798429664366c091bdfc56ed10a53b4b1e9ffb21cfe04825b815", func := "fishplate/fishlaw2.FarePrices", spec := "farePrices", unfollowed := true, recurses := true, loops := true, apart := false }
def FarePricesSaid : Prop := farePricesRow.holds Try.pinned (OpenSpec.ofChange farePricesSpec)

/-- ITS FALSE NEIGHBOUR: 'it returns false'. Refute it at one input. -/
def farePricesWrong : ChangeSpec := { name := "farePrices", fn := fun _ => fun
  | [d1, d2] => { results := [.lit (.bool false)], args := [d1, d2] }
  | _ => none }
def FarePricesWrongFalsely : Prop := farePricesRow.holds Try.pinned (OpenSpec.ofChange farePricesWrong)

/-- 'fishlaw2.FareHolds': WHATEVER THE INPUT: true; the input reads as it did. -/
def fareHoldsSpec : ChangeSpec := { name := "fareHolds", fn := fun _ => fun
  | [d1, d2] => { results := [.lit (.bool true)], args := [d1, d2] }
  | _ => none }
def fareHoldsRow : OpenClaim := { program := "ytmgdigencbganaa", sum := "d945c270a861798429664366c091bdfc56ed10a53b4b1e9ffb21cfe04825b815", func := "fishplate/fishlaw2.FareHolds", spec := "fareHolds", unfollowed := true, recurses := true, loops := true, apart := false }
def FareHoldsSaid : Prop := fareHoldsRow.holds Try.pinned (OpenSpec.ofChange fareHoldsSpec)

/-- ITS FALSE NEIGHBOUR: 'it returns false'. Refute it at one input. -/
def fareHoldsWrong : ChangeSpec := { name := "fareHolds", fn := fun _ => fun
  | [d1, d2] => { results := [.lit (.bool false)], args := [d1, d2] }
  | _ => none }
def FareHoldsWrongFalsely : Prop := fareHoldsRow.holds Try.pinned (OpenSpec.ofChange fareHoldsWrong)

/-- 'fishlaw2.FareRefunds': WHATEVER THE INPUT: true; the input reads as it did. -/
def fareRefundsSpec : ChangeSpec := { name := "fareRefunds", fn := fun _ => fun
  | [d1, d2, d3] => { results := [.lit (.bool true)], args := [d1, d2, d3] }
  | _ => none }
def fareRefundsRow : OpenClaim := { program := "ytmgdigencbganaa", sum := "d945c270a861798429664366c091bdfc56ed10a53b4b1e9ffb21cfe04825b815", func := "fishplate/fishlaw2.FareRefunds", spec := "fareRefunds", unfollowed := true, recurses := true, apart := false }
def FareRefundsSaid : Prop := fareRefundsRow.holds Try.pinned (OpenSpec.ofChange fareRefundsSpec)

/-- ITS FALSE NEIGHBOUR: 'it returns false'. Refute it at one input. -/
def fareRefundsWrong : ChangeSpec := { name := "fareRefunds", fn := fun _ => fun
  | [d1, d2, d3] => { results := [.lit (.bool false)], args := [d1, d2, d3] }
  | _ => none }
def FareRefundsWrongFalsely : Prop := fareRefundsRow.holds Try.pinned (OpenSpec.ofChange fareRefundsWrong)

/-- 'fishlaw2.FareCopies': WHATEVER THE INPUT: true; the input reads as it did. -/
def fareCopiesSpec : ChangeSpec := { name := "fareCopies", fn := fun _ => fun
  | [d1, d2] => { results := [.lit (.bool true)], args := [d1, d2] }
  | _ => none }
def fareCopiesRow : OpenClaim := { program := "ytmgdigencbganaa", sum := "d945c270a861798429664366c091bdfc56ed10a53b4b1e9ffb21cfe04825b815", func := "fishplate/fishlaw2.FareCopies", spec := "fareCopies", unfollowed := true, recurses := true, apart := false }
def FareCopiesSaid : Prop := fareCopiesRow.holds Try.pinned (OpenSpec.ofChange fareCopiesSpec)

/-- ITS FALSE NEIGHBOUR: 'it returns false'. Refute it at one input. -/
def fareCopiesWrong : ChangeSpec := { name := "fareCopies", fn := fun _ => fun
  | [d1, d2] => { results := [.lit (.bool false)], args := [d1, d2] }
  | _ => none }
def FareCopiesWrongFalsely : Prop := fareCopiesRow.holds Try.pinned (OpenSpec.ofChange fareCopiesWrong)

/-- 'fishlaw2.FareKeys': WHATEVER THE INPUT: true; the input reads as it did. -/
def fareKeysSpec : ChangeSpec := { name := "fareKeys", fn := fun _ => fun
  | [d1, d2, d3] => { results := [.lit (.bool true)], args := [d1, d2, d3] }
  | _ => none }
def fareKeysRow : OpenClaim := { program := "ytmgdigencbganaa", sum := "d945c270a861798429664366c091bdfc56ed10a53b4b1e9ffb21cfe04825b815", func := "fishplate/fishlaw2.FareKeys", spec := "fareKeys", unfollowed := true, recurses := true, apart := false }
def FareKeysSaid : Prop := fareKeysRow.holds Try.pinned (OpenSpec.ofChange fareKeysSpec)

/-- ITS FALSE NEIGHBOUR: 'it returns false'. Refute it at one input. -/
def fareKeysWrong : ChangeSpec := { name := "fareKeys", fn := fun _ => fun
  | [d1, d2, d3] => { results := [.lit (.bool false)], args := [d1, d2, d3] }
  | _ => none }
def FareKeysWrongFalsely : Prop := fareKeysRow.holds Try.pinned (OpenSpec.ofChange fareKeysWrong)

/-- 'fishlaw2.FareSigns': WHATEVER THE INPUT: true; the input reads as it did. -/
def fareSignsSpec : ChangeSpec := { name := "fareSigns", fn := fun _ => fun
  | [d1, d2, d3] => { results := [.lit (.bool true)], args := [d1, d2, d3] }
  | _ => none }
def fareSignsRow : OpenClaim := { program := "ytmgdigencbganaa", sum := "d945c270a861798429664366c091bdfc56ed10a53b4b1e9ffb21cfe04825b815", func := "fishplate/fishlaw2.FareSigns", spec := "fareSigns", unfollowed := true, recurses := true, apart := false }
def FareSignsSaid : Prop := fareSignsRow.holds Try.pinned (OpenSpec.ofChange fareSignsSpec)

/-- ITS FALSE NEIGHBOUR: 'it returns false'. Refute it at one input. -/
def fareSignsWrong : ChangeSpec := { name := "fareSigns", fn := fun _ => fun
  | [d1, d2, d3] => { results := [.lit (.bool false)], args := [d1, d2, d3] }
  | _ => none }
def FareSignsWrongFalsely : Prop := fareSignsRow.holds Try.pinned (OpenSpec.ofChange fareSignsWrong)

/-- 'fishlaw2.FarePicks': WHATEVER THE INPUT: true; the input reads as it did. -/
def farePicksSpec : ChangeSpec := { name := "farePicks", fn := fun _ => fun
  | [d1, d2, d3] => { results := [.lit (.bool true)], args := [d1, d2, d3] }
  | _ => none }
def farePicksRow : OpenClaim := { program := "ytmgdigencbganaa", sum := "d945c270a861798429664366c091bdfc56ed10a53b4b1e9ffb21cfe04825b815", func := "fishplate/fishlaw2.FarePicks", spec := "farePicks", unfollowed := true, recurses := true, apart := false }
def FarePicksSaid : Prop := farePicksRow.holds Try.pinned (OpenSpec.ofChange farePicksSpec)

/-- ITS FALSE NEIGHBOUR: 'it returns false'. Refute it at one input. -/
def farePicksWrong : ChangeSpec := { name := "farePicks", fn := fun _ => fun
  | [d1, d2, d3] => { results := [.lit (.bool false)], args := [d1, d2, d3] }
  | _ => none }
def FarePicksWrongFalsely : Prop := farePicksRow.holds Try.pinned (OpenSpec.ofChange farePicksWrong)

/- THE SECOND FORM. 'bulk': how many values and letters a reading holds, each counted each time it is reached (what is shared counts as often as it is met; a slice's spare places count too). A statement '..UptoSaid' is the law's where the arguments, and the package variables that the reading takes, are together of bulk at most 1048576: NARROWER than '..Said'. Prove '..Said' where nothing that the law and all that it calls make is longer than what came in: it says more and counts as full. Else prove '..UptoSaid'. A law counts once. -/
mutual
def uptoBulk {H : Type} : DataW H → Nat
  | .lit (.string bytes) => bytes.length + 1
  | .lit _ => 1
  | .nil => 1
  | .ptr d => uptoBulk d + 1
  | .slice elems spare => uptoBulkAll elems + uptoBulkAll spare + 1
  | .agg parts => uptoBulkAll parts + 1
  | .iface _ d => uptoBulk d + 1
  | .map entries => uptoBulkEntries entries + 1
  | .held _ => 1
def uptoBulkAll {H : Type} : List (DataW H) → Nat
  | [] => 0
  | d :: r => uptoBulk d + uptoBulkAll r
def uptoBulkEntries {H : Type} : List (Lit × DataW H) → Nat
  | [] => 0
  | x :: r => uptoBulkEntry x + uptoBulkEntries r
def uptoBulkEntry {H : Type} : Lit × DataW H → Nat
  | (.string bytes, d) => bytes.length + uptoBulk d + 1
  | (_, d) => uptoBulk d + 1
 end
def uptoSmall : (H : Type) → List (DataW H) → Bool := fun _ ds => decide (uptoBulkAll ds ≤ 1048576)
def OpenSpec.upto (s : _root_.Go.ChangeSpec) : _root_.Go.OpenSpec := { _root_.Go.OpenSpec.ofChange s with cond := some uptoSmall }

/-- 'fishlaw2.FareTariffs', WHERE WHAT IT READS IS OF BULK AT MOST 1048576: true; the input reads as it did. -/
def fareTariffsUptoRow : OpenClaim := { program := "ytmgdigencbganaa", sum := "d945c270a861798429664366c091bdfc56ed10a53b4b1e9ffb21cfe04825b815", func := "fishplate/fishlaw2.FareTariffs", spec := "fareTariffs", unfollowed := true, recurses := true, loops := true, apart := false, narrowed := true }
def FareTariffsUptoSaid : Prop := fareTariffsUptoRow.holds Try.pinned (OpenSpec.upto fareTariffsSpec)

/-- 'fishlaw2.FarePrices', WHERE WHAT IT READS IS OF BULK AT MOST 1048576: true; the input reads as it did. -/
def farePricesUptoRow : OpenClaim := { program := "ytmgdigencbganaa", sum := "d945c270a861798429664366c091bdfc56ed10a53b4b1e9ffb21cfe04825b815", func := "fishplate/fishlaw2.FarePrices", spec := "farePrices", unfollowed := true, recurses := true, loops := true, apart := false, narrowed := true }
def FarePricesUptoSaid : Prop := farePricesUptoRow.holds Try.pinned (OpenSpec.upto farePricesSpec)

/-- 'fishlaw2.FareHolds', WHERE WHAT IT READS IS OF BULK AT MOST 1048576: true; the input reads as it did. -/
def fareHoldsUptoRow : OpenClaim := { program := "ytmgdigencbganaa", sum := "d945c270a861798429664366c091bdfc56ed10a53b4b1e9ffb21cfe04825b815", func := "fishplate/fishlaw2.FareHolds", spec := "fareHolds", unfollowed := true, recurses := true, loops := true, apart := false, narrowed := true }
def FareHoldsUptoSaid : Prop := fareHoldsUptoRow.holds Try.pinned (OpenSpec.upto fareHoldsSpec)

/-- 'fishlaw2.FareRefunds', WHERE WHAT IT READS IS OF BULK AT MOST 1048576: true; the input reads as it did. -/
def fareRefundsUptoRow : OpenClaim := { program := "ytmgdigencbganaa", sum := "d945c270a861798429664366c091bdfc56ed10a53b4b1e9ffb21cfe04825b815", func := "fishplate/fishlaw2.FareRefunds", spec := "fareRefunds", unfollowed := true, recurses := true, apart := false, narrowed := true }
def FareRefundsUptoSaid : Prop := fareRefundsUptoRow.holds Try.pinned (OpenSpec.upto fareRefundsSpec)

/-- 'fishlaw2.FareCopies', WHERE WHAT IT READS IS OF BULK AT MOST 1048576: true; the input reads as it did. -/
def fareCopiesUptoRow : OpenClaim := { program := "ytmgdigencbganaa", sum := "d945c270a861798429664366c091bdfc56ed10a53b4b1e9ffb21cfe04825b815", func := "fishplate/fishlaw2.FareCopies", spec := "fareCopies", unfollowed := true, recurses := true, apart := false, narrowed := true }
def FareCopiesUptoSaid : Prop := fareCopiesUptoRow.holds Try.pinned (OpenSpec.upto fareCopiesSpec)

/-- 'fishlaw2.FareKeys', WHERE WHAT IT READS IS OF BULK AT MOST 1048576: true; the input reads as it did. -/
def fareKeysUptoRow : OpenClaim := { program := "ytmgdigencbganaa", sum := "d945c270a861798429664366c091bdfc56ed10a53b4b1e9ffb21cfe04825b815", func := "fishplate/fishlaw2.FareKeys", spec := "fareKeys", unfollowed := true, recurses := true, apart := false, narrowed := true }
def FareKeysUptoSaid : Prop := fareKeysUptoRow.holds Try.pinned (OpenSpec.upto fareKeysSpec)

/-- 'fishlaw2.FareSigns', WHERE WHAT IT READS IS OF BULK AT MOST 1048576: true; the input reads as it did. -/
def fareSignsUptoRow : OpenClaim := { program := "ytmgdigencbganaa", sum := "d945c270a861798429664366c091bdfc56ed10a53b4b1e9ffb21cfe04825b815", func := "fishplate/fishlaw2.FareSigns", spec := "fareSigns", unfollowed := true, recurses := true, apart := false, narrowed := true }
def FareSignsUptoSaid : Prop := fareSignsUptoRow.holds Try.pinned (OpenSpec.upto fareSignsSpec)

/-- 'fishlaw2.FarePicks', WHERE WHAT IT READS IS OF BULK AT MOST 1048576: true; the input reads as it did. -/
def farePicksUptoRow : OpenClaim := { program := "ytmgdigencbganaa", sum := "d945c270a861798429664366c091bdfc56ed10a53b4b1e9ffb21cfe04825b815", func := "fishplate/fishlaw2.FarePicks", spec := "farePicks", unfollowed := true, recurses := true, apart := false, narrowed := true }
def FarePicksUptoSaid : Prop := farePicksUptoRow.holds Try.pinned (OpenSpec.upto farePicksSpec)

end Rows
end Go.Proofs.Ytmgdigencbganaa
