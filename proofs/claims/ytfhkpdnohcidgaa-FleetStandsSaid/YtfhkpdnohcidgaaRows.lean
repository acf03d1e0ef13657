/-
  No cell of these rows narrows 'for every input' (looked for: loops, veiled, ifaces, maps, wideKeys, modest, calm, conditions, laid).
  DERIVED. THE GIVEN ROWS OF THIS SEAT. 7 by the template 'for every input the law returns true; each argument reads behind the call as it read before'; 0 by the template 'total and deterministic' (their statements: YtfhkpdnohcidgaaTotals.lean).
  GIVEN WITH THE SEED: the statements are not yours to turn. If you find one false, say at which input.
  Laid BY PROGRAM, IN A SANDBOX (cutbox-rows.mjs): the forced cells as the released guide's own fill.sh prints them over the translation fdd3f93fdc4bf860… (all of the seat's roots in one cut). By AI agents, Wed Nov 11 2026. No macro, syntax, notation, axiom, sorry.
-/
import Derived.Test.YtfhkpdnohcidgaaChecked
import GoSem.Claim
import GoSem.ClaimJoined
import GoSem.ClaimMapViews
import Derived.JoinedTies
import Derived.KernelRfl
namespace Go.Proofs.Ytfhkpdnohcidgaa
/- THE CELL 'sum', in the pinned program and in every row, IS THE sha256 OF THE DUMP (.gsa) THAT YtfhkpdnohcidgaaProg.lean LOADS. Nothing in Lean hashes anything: it is a label: what it is worth is what the hold of that sum in a sandbox is worth. -/
noncomputable def Try.pinned : Pinned := { name := "ytfhkpdnohcidgaa", sum := "fdd3f93fdc4bf860a59afd3239d0b9ec0117013314a8ce7494c1c6e2d5bb1e4f", checked := Try.checked }
namespace Rows
def none {H : Type} : Left H := { results := [], args := [] }

/-- 'fishlaw2.FleetRosters': WHATEVER THE INPUT: true; the input reads as it did. -/
def fleetRostersSpec : ChangeSpec := { name := "fleetRosters", fn := fun _ => fun
  | [d1, d2, d3] => { results := [.lit (.bool true)], args := [d1, d2, d3] }
  | _ => none }
def fleetRostersRow : OpenClaim := { program := "ytfhkpdnohcidgaa", sum := "fdd3f93fdc4bf860a59afd3239d0b9ec0117013314a8ce7494c1c6e2d5bb1e4f", func := "fishplate/fishlaw2.FleetRosters", spec := "fleetRosters", unfollowed := true, recurses := true, plainKeys := false, apart := false }
def FleetRostersSaid : Prop := fleetRostersRow.holds Try.pinned (OpenSpec.ofChange fleetRostersSpec)

/-- ITS FALSE NEIGHBOUR: 'it returns false'. Refute it at one input. -/
def fleetRostersWrong : ChangeSpec := { name := "fleetRosters", fn := fun _ => fun
  | [d1, d2, d3] => { results := [.lit (.bool false)], args := [d1, d2, d3] }
  | _ => none }
def FleetRostersWrongFalsely : Prop := fleetRostersRow.holds Try.pinned (OpenSpec.ofChange fleetRostersWrong)

/-- 'fishlaw2.FleetInspects': WHATEVER THE INPUT: true; the input reads as it did. -/
def fleetInspectsSpec : ChangeSpec := { name := "fleetInspects", fn := fun _ => fun
  | [d1, d2, d3, d4] => { results := [.lit (.bool true)], args := [d1, d2, d3, d4] }
  | _ => none }
def fleetInspectsRow : OpenClaim := { program := "ytfhkpdnohcidgaa", sum := "fdd3f93fdc4bf860a59afd3239d0b9ec0117013314a8ce7494c1c6e2d5bb1e4f", func := "fishplate/fishlaw2.FleetInspects", spec := "fleetInspects", unfollowed := true, recurses := true, plainKeys := false, apart := false }
def FleetInspectsSaid : Prop := fleetInspectsRow.holds Try.pinned (OpenSpec.ofChange fleetInspectsSpec)

/-- ITS FALSE NEIGHBOUR: 'it returns false'. Refute it at one input. -/
def fleetInspectsWrong : ChangeSpec := { name := "fleetInspects", fn := fun _ => fun
  | [d1, d2, d3, d4] => { results := [.lit (.bool false)], args := [d1, d2, d3, d4] }
  | _ => none }
def FleetInspectsWrongFalsely : Prop := fleetInspectsRow.holds Try.pinned (OpenSpec.ofChange fleetInspectsWrong)

/-- 'fishlaw2.FleetAssigns': WHATEVER THE INPUT: true; the input reads as it did. -/
def fleetAssignsSpec : ChangeSpec := { name := "fleetAssigns", fn := fun _ => fun
  | [d1, d2, d3, d4] => { results := [.lit (.bool true)], args := [d1, d2, d3, d4] }
  | _ => none }
def fleetAssignsRow : OpenClaim := { program := "ytfhkpdnohcidgaa", sum := "fdd3f93fdc4bf860a59afd3239d0b9ec0117013314a8ce7494c1c6e2d5bb1e4f", func := "fishplate/fishlaw2.FleetAssigns", spec := "fleetAssigns", unfollowed := true, recurses := true, plainKeys := false, apart := false }
def FleetAssignsSaid : Prop := fleetAssignsRow.holds Try.pinned (OpenSpec.ofChange fleetAssignsSpec)

/-- ITS FALSE NEIGHBOUR: 'it returns false'. Refute it at one input. -/
def fleetAssignsWrong : ChangeSpec := { name := "fleetAssigns", fn := fun _ => fun
  | [d1, d2, d3, d4] => { results := [.lit (.bool false)], args := [d1, d2, d3, d4] }
  | _ => none }
def FleetAssignsWrongFalsely : Prop := fleetAssignsRow.holds Try.pinned (OpenSpec.ofChange fleetAssignsWrong)

/-- 'fishlaw2.FleetCovers': WHATEVER THE INPUT: true; the input reads as it did. -/
def fleetCoversSpec : ChangeSpec := { name := "fleetCovers", fn := fun _ => fun
  | [d1, d2, d3] => { results := [.lit (.bool true)], args := [d1, d2, d3] }
  | _ => none }
def fleetCoversRow : OpenClaim := { program := "ytfhkpdnohcidgaa", sum := "fdd3f93fdc4bf860a59afd3239d0b9ec0117013314a8ce7494c1c6e2d5bb1e4f", func := "fishplate/fishlaw2.FleetCovers", spec := "fleetCovers", unfollowed := true, recurses := true, plainKeys := false, apart := false }
def FleetCoversSaid : Prop := fleetCoversRow.holds Try.pinned (OpenSpec.ofChange fleetCoversSpec)

/-- ITS FALSE NEIGHBOUR: 'it returns false'. Refute it at one input. -/
def fleetCoversWrong : ChangeSpec := { name := "fleetCovers", fn := fun _ => fun
  | [d1, d2, d3] => { results := [.lit (.bool false)], args := [d1, d2, d3] }
  | _ => none }
def FleetCoversWrongFalsely : Prop := fleetCoversRow.holds Try.pinned (OpenSpec.ofChange fleetCoversWrong)

/-- 'fishlaw2.FleetStores': WHATEVER THE INPUT: true; the input reads as it did. -/
def fleetStoresSpec : ChangeSpec := { name := "fleetStores", fn := fun _ => fun
  | [d1, d2] => { results := [.lit (.bool true)], args := [d1, d2] }
  | _ => none }
def fleetStoresRow : OpenClaim := { program := "ytfhkpdnohcidgaa", sum := "fdd3f93fdc4bf860a59afd3239d0b9ec0117013314a8ce7494c1c6e2d5bb1e4f", func := "fishplate/fishlaw2.FleetStores", spec := "fleetStores", unfollowed := true, recurses := true, plainKeys := false, apart := false }
def FleetStoresSaid : Prop := fleetStoresRow.holds Try.pinned (OpenSpec.ofChange fleetStoresSpec)

/-- ITS FALSE NEIGHBOUR: 'it returns false'. Refute it at one input. -/
def fleetStoresWrong : ChangeSpec := { name := "fleetStores", fn := fun _ => fun
  | [d1, d2] => { results := [.lit (.bool false)], args := [d1, d2] }
  | _ => none }
def FleetStoresWrongFalsely : Prop := fleetStoresRow.holds Try.pinned (OpenSpec.ofChange fleetStoresWrong)

/-- 'fishlaw2.FleetDuties': WHATEVER THE INPUT: true; the input reads as it did. -/
def fleetDutiesSpec : ChangeSpec := { name := "fleetDuties", fn := fun _ => fun
  | [d1, d2] => { results := [.lit (.bool true)], args := [d1, d2] }
  | _ => none }
def fleetDutiesRow : OpenClaim := { program := "ytfhkpdnohcidgaa", sum := "fdd3f93fdc4bf860a59afd3239d0b9ec0117013314a8ce7494c1c6e2d5bb1e4f", func := "fishplate/fishlaw2.FleetDuties", spec := "fleetDuties", unfollowed := true, recurses := true, plainKeys := false, apart := false }
def FleetDutiesSaid : Prop := fleetDutiesRow.holds Try.pinned (OpenSpec.ofChange fleetDutiesSpec)

/-- ITS FALSE NEIGHBOUR: 'it returns false'. Refute it at one input. -/
def fleetDutiesWrong : ChangeSpec := { name := "fleetDuties", fn := fun _ => fun
  | [d1, d2] => { results := [.lit (.bool false)], args := [d1, d2] }
  | _ => none }
def FleetDutiesWrongFalsely : Prop := fleetDutiesRow.holds Try.pinned (OpenSpec.ofChange fleetDutiesWrong)

/-- 'fishlaw2.FleetStands': WHATEVER THE INPUT: true; the input reads as it did. -/
def fleetStandsSpec : ChangeSpec := { name := "fleetStands", fn := fun _ => fun
  | [d1, d2, d3, d4] => { results := [.lit (.bool true)], args := [d1, d2, d3, d4] }
  | _ => none }
def fleetStandsRow : OpenClaim := { program := "ytfhkpdnohcidgaa", sum := "fdd3f93fdc4bf860a59afd3239d0b9ec0117013314a8ce7494c1c6e2d5bb1e4f", func := "fishplate/fishlaw2.FleetStands", spec := "fleetStands", unfollowed := true, recurses := true, plainKeys := false, apart := false }
def FleetStandsSaid : Prop := fleetStandsRow.holds Try.pinned (OpenSpec.ofChange fleetStandsSpec)

/-- ITS FALSE NEIGHBOUR: 'it returns false'. Refute it at one input. -/
def fleetStandsWrong : ChangeSpec := { name := "fleetStands", fn := fun _ => fun
  | [d1, d2, d3, d4] => { results := [.lit (.bool false)], args := [d1, d2, d3, d4] }
  | _ => none }
def FleetStandsWrongFalsely : Prop := fleetStandsRow.holds Try.pinned (OpenSpec.ofChange fleetStandsWrong)

/- THE SECOND FORM. 'bulk': how many values and letters a reading holds, each counted each time it is reached (what is shared counts as often as it is met; a slice's spare places count too). A statement '..UptoSaid' is the law's where the arguments, and the package variables that the reading takes, are together of bulk at most 1048576: NARROWER than '..Said'. Prove '..Said' where nothing that the law and all that it calls make is longer than what came in: it says more and counts as full. Else prove '..UptoSaid'. A law counts once. -/
mutual
def uptoBulk {H : Type} : DataW H → Nat
  | .lit (.string bytes) => bytes.length + 1
  | .lit _ => 1
  | .nil => 1
  | .ptr d => uptoBulk d + 1
  | .slice elems spare => uptoBulkAll elems + uptoBulkAll spare + 1
  | .agg parts => uptoBulkAll parts + 1
  | .iface _ d => uptoBulk d + 1
  | .map entries => uptoBulkEntries entries + 1
  | .held _ => 1
def uptoBulkAll {H : Type} : List (DataW H) → Nat
  | [] => 0
  | d :: r => uptoBulk d + uptoBulkAll r
def uptoBulkEntries {H : Type} : List (Lit × DataW H) → Nat
  | [] => 0
  | x :: r => uptoBulkEntry x + uptoBulkEntries r
def uptoBulkEntry {H : Type} : Lit × DataW H → Nat
  | (.string bytes, d) => bytes.length + uptoBulk d + 1
  | (_, d) => uptoBulk d + 1
 end
def uptoSmall : (H : Type) → List (DataW H) → Bool := fun _ ds => decide (uptoBulkAll ds ≤ 1048576)
def OpenSpec.upto (s : _root_.Go.ChangeSpec) : _root_.Go.OpenSpec := { _root_.Go.OpenSpec.ofChange s with cond := some uptoSmall }

/-- 'fishlaw2.FleetRosters', WHERE WHAT IT READS IS OF BULK AT MOST 1048576: true; the input reads as it did. -/
def fleetRostersUptoRow : OpenClaim := { program := "ytfhkpdnohcidgaa", sum := "fdd3f93fdc4bf860a59afd3239d0b9ec0117013314a8ce7494c1c6e2d5bb1e4f", func := "fishplate/fishlaw2.FleetRosters", spec := "fleetRosters", unfollowed := true, recurses := true, plainKeys := false, apart := false, narrowed := true }
def FleetRostersUptoSaid : Prop := fleetRostersUptoRow.holds Try.pinned (OpenSpec.upto fleetRostersSpec)

/-- 'fishlaw2.FleetInspects', WHERE WHAT IT READS IS OF BULK AT MOST 1048576: true; the input reads as it did. -/
def fleetInspectsUptoRow : OpenClaim := { program := "ytfhkpdnohcidgaa", sum := "fdd3f93fdc4bf860a59afd3239d0b9ec0117013314a8ce7494c1c6e2d5bb1e4f", func := "fishplate/fishlaw2.FleetInspects", spec := "fleetInspects", unfollowed := true, recurses := true, plainKeys := false, apart := false, narrowed := true }
def FleetInspectsUptoSaid : Prop := fleetInspectsUptoRow.holds Try.pinned (OpenSpec.upto fleetInspectsSpec)

/-- 'fishlaw2.FleetAssigns', WHERE WHAT IT READS IS OF BULK AT MOST 1048576: true; the input reads as it did. -/
def fleetAssignsUptoRow : OpenClaim := { program := "ytfhkpdnohcidgaa", sum := "fdd3f93fdc4bf860a59afd3239d0b9ec0117013314a8ce7494c1c6e2d5bb1e4f", func := "fishplate/fishlaw2.FleetAssigns", spec := "fleetAssigns", unfollowed := true, recurses := true, plainKeys := false, apart := false, narrowed := true }
def FleetAssignsUptoSaid : Prop := fleetAssignsUptoRow.holds Try.pinned (OpenSpec.upto fleetAssignsSpec)

/-- 'fishlaw2.FleetCovers', WHERE WHAT IT READS IS OF BULK AT MOST 1048576: true; the input reads as it did. -/
def fleetCoversUptoRow : OpenClaim := { program := "ytfhkpdnohcidgaa", sum := "fdd3f93fdc4bf860a59afd3239d0b9ec0117013314a8ce7494c1c6e2d5bb1e4f", func := "fishplate/fishlaw2.FleetCovers", spec := "fleetCovers", unfollowed := true, recurses := true, plainKeys := false, apart := false, narrowed := true }
def FleetCoversUptoSaid : Prop := fleetCoversUptoRow.holds Try.pinned (OpenSpec.upto fleetCoversSpec)

/-- 'fishlaw2.FleetStores', WHERE WHAT IT READS IS OF BULK AT MOST 1048576: true; the input reads as it did. -/
def fleetStoresUptoRow : OpenClaim := { program := "ytfhkpdnohcidgaa", sum := "fdd3f93fdc4bf860a59afd3239d0b9ec0117013314a8ce7494c1c6e2d5bb1e4f", func := "fishplate/fishlaw2.FleetStores", spec := "fleetStores", unfollowed := true, recurses := true, plainKeys := false, apart := false, narrowed := true }
def FleetStoresUptoSaid : Prop := fleetStoresUptoRow.holds Try.pinned (OpenSpec.upto fleetStoresSpec)

/-- 'fishlaw2.FleetDuties', WHERE WHAT IT READS IS OF BULK AT MOST 1048576: true; the input reads as it did. -/
def fleetDutiesUptoRow : OpenClaim := { program := "ytfhkpdnohcidgaa", sum := "fdd3f93fdc4bf860a59afd3239d0b9ec0117013314a8ce7494c1c6e2d5bb1e4f", func := "fishplate/fishlaw2.FleetDuties", spec := "fleetDuties", unfollowed := true, recurses := true, plainKeys := false, apart := false, narrowed := true }
def FleetDutiesUptoSaid : Prop := fleetDutiesUptoRow.holds Try.pinned (OpenSpec.upto fleetDutiesSpec)

/-- 'fishlaw2.FleetStands', WHERE WHAT IT READS IS OF BULK AT MOST 1048576: true; the input reads as it did. -/
def fleetStandsUptoRow : OpenClaim := { program := "ytfhkpdnohcidgaa", sum := "fdd3f93fdc4bf860a59afd3239d0b9ec0117013314a8ce7494c1c6e2d5bb1e4f", func := "fishplate/fishlaw2.FleetStands", spec := "fleetStands", unfollowed := true, recurses := true, plainKeys := false, apart := false, narrowed := true }
def FleetStandsUptoSaid : Prop := fleetStandsUptoRow.holds Try.pinned (OpenSpec.upto fleetStandsSpec)

end Rows
end Go.Proofs.Ytfhkpdnohcidgaa
