/-
  NARROWER THAN 'FOR EVERY INPUT', by the rows' own cells (each row's printed sentence says how): GuideEarliest: laid · GuideDays: laid · GuideCrowds: laid · GuideReaches: laid · GuideProfiles: laid · GuideChances: laid · TopSeated: laid.
  DERIVED. THE GIVEN ROWS OF THIS SEAT. 7 by the template 'for every input the law returns true; each argument reads behind the call as it read before'; 0 by the template 'total and deterministic' (their statements: YtpcebngchmgckaaDoorTotals.lean).
  GIVEN WITH THE SEED: the statements are not yours to turn. If you find one false, say at which input.
  Laid BY PROGRAM, IN A SANDBOX (cutbox-rows.mjs): the forced cells as the released guide's own fill.sh prints them over the translation 42646d4e4e360a28… (all of the seat's roots in one cut). By AI agents, Wed Nov 11 2026. No macro, syntax, notation, axiom, sorry.
-/
import Derived.Test.YtpcebngchmgckaaDoorChecked
import GoSem.Claim
import GoSem.ClaimJoined
import GoSem.ClaimMapViews
import Derived.JoinedTies
import Derived.KernelRfl
namespace Go.Proofs.YtpcebngchmgckaaDoor
/- THE CELL 'sum', in the pinned program and in every row, IS THE sha256 OF THE DUMP (.gsa) THAT YtpcebngchmgckaaDoorProg.lean LOADS. Nothing in Lean hashes anything: it is a label: what it is worth is what the hold of that sum in a sandbox is worth. -/
noncomputable def Tryd.pinned : Pinned := { name := "ytpcebngchmgckaadoor", sum := "42646d4e4e360a28f1ac0bad3de7ba72b59ae8c964a5c2e67eb6557e8073ea0d", checked := Tryd.checked }
namespace Rows
def none {H : Type} : Left H := { results := [], args := [] }

/- WHAT THE LISTED PACKAGE-LEVEL VARIABLES READ AS WHEN THE CALL BEGINS. Each datum BY PROGRAM (the guide's laid-datum.mjs) off the statement by which the dump's own 'gosem.cut.vars' lays the variable. In a bare row this is a premise. The card (YtpcebngchmgckaaDoorCards.lean) ties it to the program's text. -/
def laid_math_bits_deBruijn32tab {H : Type} : DataW H := .agg [.lit (.int .u8 0), .lit (.int .u8 1), .lit (.int .u8 28), .lit (.int .u8 2), .lit (.int .u8 29), .lit (.int .u8 14), .lit (.int .u8 24), .lit (.int .u8 3), .lit (.int .u8 30), .lit (.int .u8 22), .lit (.int .u8 20), .lit (.int .u8 15), .lit (.int .u8 25), .lit (.int .u8 17), .lit (.int .u8 4), .lit (.int .u8 8), .lit (.int .u8 31), .lit (.int .u8 27), .lit (.int .u8 13), .lit (.int .u8 23), .lit (.int .u8 21), .lit (.int .u8 19), .lit (.int .u8 16), .lit (.int .u8 7), .lit (.int .u8 26), .lit (.int .u8 12), .lit (.int .u8 18), .lit (.int .u8 6), .lit (.int .u8 11), .lit (.int .u8 5), .lit (.int .u8 10), .lit (.int .u8 9)]
def laid_math_bits_deBruijn64tab {H : Type} : DataW H := .agg [.lit (.int .u8 0), .lit (.int .u8 1), .lit (.int .u8 56), .lit (.int .u8 2), .lit (.int .u8 57), .lit (.int .u8 49), .lit (.int .u8 28), .lit (.int .u8 3), .lit (.int .u8 61), .lit (.int .u8 58), .lit (.int .u8 42), .lit (.int .u8 50), .lit (.int .u8 38), .lit (.int .u8 29), .lit (.int .u8 17), .lit (.int .u8 4), .lit (.int .u8 62), .lit (.int .u8 47), .lit (.int .u8 59), .lit (.int .u8 36), .lit (.int .u8 45), .lit (.int .u8 43), .lit (.int .u8 51), .lit (.int .u8 22), .lit (.int .u8 53), .lit (.int .u8 39), .lit (.int .u8 33), .lit (.int .u8 30), .lit (.int .u8 24), .lit (.int .u8 18), .lit (.int .u8 12), .lit (.int .u8 5), .lit (.int .u8 63), .lit (.int .u8 55), .lit (.int .u8 48), .lit (.int .u8 27), .lit (.int .u8 60), .lit (.int .u8 41), .lit (.int .u8 37), .lit (.int .u8 16), .lit (.int .u8 46), .lit (.int .u8 35), .lit (.int .u8 44), .lit (.int .u8 21), .lit (.int .u8 52), .lit (.int .u8 32), .lit (.int .u8 23), .lit (.int .u8 11), .lit (.int .u8 54), .lit (.int .u8 26), .lit (.int .u8 40), .lit (.int .u8 15), .lit (.int .u8 34), .lit (.int .u8 20), .lit (.int .u8 31), .lit (.int .u8 10), .lit (.int .u8 25), .lit (.int .u8 14), .lit (.int .u8 19), .lit (.int .u8 9), .lit (.int .u8 13), .lit (.int .u8 8), .lit (.int .u8 7), .lit (.int .u8 6)]
def laid_internal_strconv_uint64pow10 {H : Type} : DataW H := .agg [.lit (.int .u64 1), .lit (.int .u64 10), .lit (.int .u64 100), .lit (.int .u64 1000), .lit (.int .u64 10000), .lit (.int .u64 100000), .lit (.int .u64 1000000), .lit (.int .u64 10000000), .lit (.int .u64 100000000), .lit (.int .u64 1000000000), .lit (.int .u64 10000000000), .lit (.int .u64 100000000000), .lit (.int .u64 1000000000000), .lit (.int .u64 10000000000000), .lit (.int .u64 100000000000000), .lit (.int .u64 1000000000000000), .lit (.int .u64 10000000000000000), .lit (.int .u64 100000000000000000), .lit (.int .u64 1000000000000000000), .lit (.int .u64 10000000000000000000)]

/-- 'fishlaw2.GuideEarliest': WHATEVER THE INPUT: true; the input reads as it did. -/
def guideEarliestSpec : ChangeSpec := { name := "guideEarliest", fn := fun _ => fun
  | [d1, d2, d3, d4, d5] => { results := [.lit (.bool true)], args := [d1, d2, d3, d4, d5] }
  | _ => none }
def guideEarliestRow : OpenClaim := { program := "ytpcebngchmgckaadoor", sum := "42646d4e4e360a28f1ac0bad3de7ba72b59ae8c964a5c2e67eb6557e8073ea0d", func := "fishplate/fishlaw2.GuideEarliest", spec := "guideEarliest", inPlace := ["internal/abi.NoEscape"], unfollowed := true, recurses := true, named := ["internal/strconv.uint64pow10", "math/bits.deBruijn32tab", "math/bits.deBruijn64tab"], plainKeys := false, apart := false, laid := [("math/bits.deBruijn32tab", laid_math_bits_deBruijn32tab), ("math/bits.deBruijn64tab", laid_math_bits_deBruijn64tab), ("internal/strconv.uint64pow10", laid_internal_strconv_uint64pow10)] }
def GuideEarliestSaid : Prop := guideEarliestRow.holds Tryd.pinned (OpenSpec.ofChange guideEarliestSpec)

/-- ITS FALSE NEIGHBOUR: 'it returns false'. Refute it at one input. -/
def guideEarliestWrong : ChangeSpec := { name := "guideEarliest", fn := fun _ => fun
  | [d1, d2, d3, d4, d5] => { results := [.lit (.bool false)], args := [d1, d2, d3, d4, d5] }
  | _ => none }
def GuideEarliestWrongFalsely : Prop := guideEarliestRow.holds Tryd.pinned (OpenSpec.ofChange guideEarliestWrong)

/-- 'fishlaw2.GuideDays': WHATEVER THE INPUT: true; the input reads as it did. -/
def guideDaysSpec : ChangeSpec := { name := "guideDays", fn := fun _ => fun
  | [d1, d2, d3] => { results := [.lit (.bool true)], args := [d1, d2, d3] }
  | _ => none }
def guideDaysRow : OpenClaim := { program := "ytpcebngchmgckaadoor", sum := "42646d4e4e360a28f1ac0bad3de7ba72b59ae8c964a5c2e67eb6557e8073ea0d", func := "fishplate/fishlaw2.GuideDays", spec := "guideDays", inPlace := ["internal/abi.NoEscape"], unfollowed := true, recurses := true, named := ["internal/strconv.uint64pow10", "math/bits.deBruijn32tab", "math/bits.deBruijn64tab"], plainKeys := false, apart := false, laid := [("math/bits.deBruijn32tab", laid_math_bits_deBruijn32tab), ("math/bits.deBruijn64tab", laid_math_bits_deBruijn64tab), ("internal/strconv.uint64pow10", laid_internal_strconv_uint64pow10)] }
def GuideDaysSaid : Prop := guideDaysRow.holds Tryd.pinned (OpenSpec.ofChange guideDaysSpec)

/-- ITS FALSE NEIGHBOUR: 'it returns false'. Refute it at one input. -/
def guideDaysWrong : ChangeSpec := { name := "guideDays", fn := fun _ => fun
  | [d1, d2, d3] => { results := [.lit (.bool false)], args := [d1, d2, d3] }
  | _ => none }
def GuideDaysWrongFalsely : Prop := guideDaysRow.holds Tryd.pinned (OpenSpec.ofChange guideDaysWrong)

/-- 'fishlaw2.GuideCrowds': WHATEVER THE INPUT: true; the input reads as it did. -/
def guideCrowdsSpec : ChangeSpec := { name := "guideCrowds", fn := fun _ => fun
  | [d1, d2] => { results := [.lit (.bool true)], args := [d1, d2] }
  | _ => none }
def guideCrowdsRow : OpenClaim := { program := "ytpcebngchmgckaadoor", sum := "42646d4e4e360a28f1ac0bad3de7ba72b59ae8c964a5c2e67eb6557e8073ea0d", func := "fishplate/fishlaw2.GuideCrowds", spec := "guideCrowds", inPlace := ["internal/abi.NoEscape"], unfollowed := true, recurses := true, named := ["internal/strconv.uint64pow10", "math/bits.deBruijn32tab", "math/bits.deBruijn64tab"], plainKeys := false, apart := false, laid := [("math/bits.deBruijn32tab", laid_math_bits_deBruijn32tab), ("math/bits.deBruijn64tab", laid_math_bits_deBruijn64tab), ("internal/strconv.uint64pow10", laid_internal_strconv_uint64pow10)] }
def GuideCrowdsSaid : Prop := guideCrowdsRow.holds Tryd.pinned (OpenSpec.ofChange guideCrowdsSpec)

/-- ITS FALSE NEIGHBOUR: 'it returns false'. Refute it at one input. -/
def guideCrowdsWrong : ChangeSpec := { name := "guideCrowds", fn := fun _ => fun
  | [d1, d2] => { results := [.lit (.bool false)], args := [d1, d2] }
  | _ => none }
def GuideCrowdsWrongFalsely : Prop := guideCrowdsRow.holds Tryd.pinned (OpenSpec.ofChange guideCrowdsWrong)

/-- 'fishlaw2.GuideReaches': WHATEVER THE INPUT: true; the input reads as it did. -/
def guideReachesSpec : ChangeSpec := { name := "guideReaches", fn := fun _ => fun
  | [d1, d2, d3, d4] => { results := [.lit (.bool true)], args := [d1, d2, d3, d4] }
  | _ => none }
def guideReachesRow : OpenClaim := { program := "ytpcebngchmgckaadoor", sum := "42646d4e4e360a28f1ac0bad3de7ba72b59ae8c964a5c2e67eb6557e8073ea0d", func := "fishplate/fishlaw2.GuideReaches", spec := "guideReaches", inPlace := ["internal/abi.NoEscape"], unfollowed := true, recurses := true, named := ["internal/strconv.uint64pow10", "math/bits.deBruijn32tab", "math/bits.deBruijn64tab"], plainKeys := false, apart := false, laid := [("math/bits.deBruijn32tab", laid_math_bits_deBruijn32tab), ("math/bits.deBruijn64tab", laid_math_bits_deBruijn64tab), ("internal/strconv.uint64pow10", laid_internal_strconv_uint64pow10)] }
def GuideReachesSaid : Prop := guideReachesRow.holds Tryd.pinned (OpenSpec.ofChange guideReachesSpec)

/-- ITS FALSE NEIGHBOUR: 'it returns false'. Refute it at one input. -/
def guideReachesWrong : ChangeSpec := { name := "guideReaches", fn := fun _ => fun
  | [d1, d2, d3, d4] => { results := [.lit (.bool false)], args := [d1, d2, d3, d4] }
  | _ => none }
def GuideReachesWrongFalsely : Prop := guideReachesRow.holds Tryd.pinned (OpenSpec.ofChange guideReachesWrong)

/-- 'fishlaw2.GuideProfiles': WHATEVER THE INPUT: true; the input reads as it did. -/
def guideProfilesSpec : ChangeSpec := { name := "guideProfiles", fn := fun _ => fun
  | [d1, d2, d3, d4, d5] => { results := [.lit (.bool true)], args := [d1, d2, d3, d4, d5] }
  | _ => none }
def guideProfilesRow : OpenClaim := { program := "ytpcebngchmgckaadoor", sum := "42646d4e4e360a28f1ac0bad3de7ba72b59ae8c964a5c2e67eb6557e8073ea0d", func := "fishplate/fishlaw2.GuideProfiles", spec := "guideProfiles", inPlace := ["internal/abi.NoEscape"], unfollowed := true, recurses := true, named := ["internal/strconv.uint64pow10", "math/bits.deBruijn32tab", "math/bits.deBruijn64tab"], plainKeys := false, apart := false, laid := [("math/bits.deBruijn32tab", laid_math_bits_deBruijn32tab), ("math/bits.deBruijn64tab", laid_math_bits_deBruijn64tab), ("internal/strconv.uint64pow10", laid_internal_strconv_uint64pow10)] }
def GuideProfilesSaid : Prop := guideProfilesRow.holds Tryd.pinned (OpenSpec.ofChange guideProfilesSpec)

/-- ITS FALSE NEIGHBOUR: 'it returns false'. Refute it at one input. -/
def guideProfilesWrong : ChangeSpec := { name := "guideProfiles", fn := fun _ => fun
  | [d1, d2, d3, d4, d5] => { results := [.lit (.bool false)], args := [d1, d2, d3, d4, d5] }
  | _ => none }
def GuideProfilesWrongFalsely : Prop := guideProfilesRow.holds Tryd.pinned (OpenSpec.ofChange guideProfilesWrong)

/-- 'fishlaw2.GuideChances': WHATEVER THE INPUT: true; the input reads as it did. -/
def guideChancesSpec : ChangeSpec := { name := "guideChances", fn := fun _ => fun
  | [d1, d2, d3, d4] => { results := [.lit (.bool true)], args := [d1, d2, d3, d4] }
  | _ => none }
def guideChancesRow : OpenClaim := { program := "ytpcebngchmgckaadoor", sum := "42646d4e4e360a28f1ac0bad3de7ba72b59ae8c964a5c2e67eb6557e8073ea0d", func := "fishplate/fishlaw2.GuideChances", spec := "guideChances", inPlace := ["internal/abi.NoEscape"], unfollowed := true, recurses := true, named := ["internal/strconv.uint64pow10", "math/bits.deBruijn32tab", "math/bits.deBruijn64tab"], plainKeys := false, apart := false, laid := [("math/bits.deBruijn32tab", laid_math_bits_deBruijn32tab), ("math/bits.deBruijn64tab", laid_math_bits_deBruijn64tab), ("internal/strconv.uint64pow10", laid_internal_strconv_uint64pow10)] }
def GuideChancesSaid : Prop := guideChancesRow.holds Tryd.pinned (OpenSpec.ofChange guideChancesSpec)

/-- ITS FALSE NEIGHBOUR: 'it returns false'. Refute it at one input. -/
def guideChancesWrong : ChangeSpec := { name := "guideChances", fn := fun _ => fun
  | [d1, d2, d3, d4] => { results := [.lit (.bool false)], args := [d1, d2, d3, d4] }
  | _ => none }
def GuideChancesWrongFalsely : Prop := guideChancesRow.holds Tryd.pinned (OpenSpec.ofChange guideChancesWrong)

/-- 'fishtop.TopSeated': WHATEVER THE INPUT: true; the input reads as it did. -/
def topSeatedSpec : ChangeSpec := { name := "topSeated", fn := fun _ => fun
  | [d1, d2, d3, d4, d5] => { results := [.lit (.bool true)], args := [d1, d2, d3, d4, d5] }
  | _ => none }
def topSeatedRow : OpenClaim := { program := "ytpcebngchmgckaadoor", sum := "42646d4e4e360a28f1ac0bad3de7ba72b59ae8c964a5c2e67eb6557e8073ea0d", func := "fishplate/fishtop.TopSeated", spec := "topSeated", inPlace := ["internal/abi.NoEscape"], unfollowed := true, recurses := true, named := ["internal/strconv.uint64pow10", "math/bits.deBruijn32tab", "math/bits.deBruijn64tab"], plainKeys := false, apart := false, laid := [("math/bits.deBruijn32tab", laid_math_bits_deBruijn32tab), ("math/bits.deBruijn64tab", laid_math_bits_deBruijn64tab), ("internal/strconv.uint64pow10", laid_internal_strconv_uint64pow10)] }
def TopSeatedSaid : Prop := topSeatedRow.holds Tryd.pinned (OpenSpec.ofChange topSeatedSpec)

/-- ITS FALSE NEIGHBOUR: 'it returns false'. Refute it at one input. -/
def topSeatedWrong : ChangeSpec := { name := "topSeated", fn := fun _ => fun
  | [d1, d2, d3, d4, d5] => { results := [.lit (.bool false)], args := [d1, d2, d3, d4, d5] }
  | _ => none }
def TopSeatedWrongFalsely : Prop := topSeatedRow.holds Tryd.pinned (OpenSpec.ofChange topSeatedWrong)

/- THE SECOND FORM. 'bulk': how many values and letters a reading holds, each counted each time it is reached (what is shared counts as often as it is met; a slice's spare places count too). A statement '..UptoSaid' is the law's where the arguments, and the package variables that the reading takes, are together of bulk at most 1048576: NARROWER than '..Said'. Prove '..Said' where nothing that the law and all that it calls make is longer than what came in: it says more and counts as full. Else prove '..UptoSaid'. A law counts once. -/
mutual
def uptoBulk {H : Type} : DataW H → Nat
  | .lit (.string bytes) => bytes.length + 1
  | .lit _ => 1
  | .nil => 1
  | .ptr d => uptoBulk d + 1
  | .slice elems spare => uptoBulkAll elems + uptoBulkAll spare + 1
  | .agg parts => uptoBulkAll parts + 1
  | .iface _ d => uptoBulk d + 1
  | .map entries => uptoBulkEntries entries + 1
  | .held _ => 1
def uptoBulkAll {H : Type} : List (DataW H) → Nat
  | [] => 0
  | d :: r => uptoBulk d + uptoBulkAll r
def uptoBulkEntries {H : Type} : List (Lit × DataW H) → Nat
  | [] => 0
  | x :: r => uptoBulkEntry x + uptoBulkEntries r
def uptoBulkEntry {H : Type} : Lit × DataW H → Nat
  | (.string bytes, d) => bytes.length + uptoBulk d + 1
  | (_, d) => uptoBulk d + 1
 end
def uptoSmall : (H : Type) → List (DataW H) → Bool := fun _ ds => decide (uptoBulkAll ds ≤ 1048576)
def OpenSpec.upto (s : _root_.Go.ChangeSpec) : _root_.Go.OpenSpec := { _root_.Go.OpenSpec.ofChange s with cond := some uptoSmall }

/-- 'fishlaw2.GuideEarliest', WHERE WHAT IT READS IS OF BULK AT MOST 1048576: true; the input reads as it did. -/
def guideEarliestUptoRow : OpenClaim := { program := "ytpcebngchmgckaadoor", sum := "42646d4e4e360a28f1ac0bad3de7ba72b59ae8c964a5c2e67eb6557e8073ea0d", func := "fishplate/fishlaw2.GuideEarliest", spec := "guideEarliest", inPlace := ["internal/abi.NoEscape"], unfollowed := true, recurses := true, named := ["internal/strconv.uint64pow10", "math/bits.deBruijn32tab", "math/bits.deBruijn64tab"], plainKeys := false, apart := false, laid := [("math/bits.deBruijn32tab", laid_math_bits_deBruijn32tab), ("math/bits.deBruijn64tab", laid_math_bits_deBruijn64tab), ("internal/strconv.uint64pow10", laid_internal_strconv_uint64pow10)], narrowed := true }
def GuideEarliestUptoSaid : Prop := guideEarliestUptoRow.holds Tryd.pinned (OpenSpec.upto guideEarliestSpec)

/-- 'fishlaw2.GuideDays', WHERE WHAT IT READS IS OF BULK AT MOST 1048576: true; the input reads as it did. -/
def guideDaysUptoRow : OpenClaim := { program := "ytpcebngchmgckaadoor", sum := "42646d4e4e360a28f1ac0bad3de7ba72b59ae8c964a5c2e67eb6557e8073ea0d", func := "fishplate/fishlaw2.GuideDays", spec := "guideDays", inPlace := ["internal/abi.NoEscape"], unfollowed := true, recurses := true, named := ["internal/strconv.uint64pow10", "math/bits.deBruijn32tab", "math/bits.deBruijn64tab"], plainKeys := false, apart := false, laid := [("math/bits.deBruijn32tab", laid_math_bits_deBruijn32tab), ("math/bits.deBruijn64tab", laid_math_bits_deBruijn64tab), ("internal/strconv.uint64pow10", laid_internal_strconv_uint64pow10)], narrowed := true }
def GuideDaysUptoSaid : Prop := guideDaysUptoRow.holds Tryd.pinned (OpenSpec.upto guideDaysSpec)

/-- 'fishlaw2.GuideCrowds', WHERE WHAT IT READS IS OF BULK AT MOST 1048576: true; the input reads as it did. -/
def guideCrowdsUptoRow : OpenClaim := { program := "ytpcebngchmgckaadoor", sum := "42646d4e4e360a28f1ac0bad3de7ba72b59ae8c964a5c2e67eb6557e8073ea0d", func := "fishplate/fishlaw2.GuideCrowds", spec := "guideCrowds", inPlace := ["internal/abi.NoEscape"], unfollowed := true, recurses := true, named := ["internal/strconv.uint64pow10", "math/bits.deBruijn32tab", "math/bits.deBruijn64tab"], plainKeys := false, apart := false, laid := [("math/bits.deBruijn32tab", laid_math_bits_deBruijn32tab), ("math/bits.deBruijn64tab", laid_math_bits_deBruijn64tab), ("internal/strconv.uint64pow10", laid_internal_strconv_uint64pow10)], narrowed := true }
def GuideCrowdsUptoSaid : Prop := guideCrowdsUptoRow.holds Tryd.pinned (OpenSpec.upto guideCrowdsSpec)

/-- 'fishlaw2.GuideReaches', WHERE WHAT IT READS IS OF BULK AT MOST 1048576: true; the input reads as it did. -/
def guideReachesUptoRow : OpenClaim := { program := "ytpcebngchmgckaadoor", sum := "42646d4e4e360a28f1ac0bad3de7ba72b59ae8c964a5c2e67eb6557e8073ea0d", func := "fishplate/fishlaw2.GuideReaches", spec := "guideReaches", inPlace := ["internal/abi.NoEscape"], unfollowed := true, recurses := true, named := ["internal/strconv.uint64pow10", "math/bits.deBruijn32tab", "math/bits.deBruijn64tab"], plainKeys := false, apart := false, laid := [("math/bits.deBruijn32tab", laid_math_bits_deBruijn32tab), ("math/bits.deBruijn64tab", laid_math_bits_deBruijn64tab), ("internal/strconv.uint64pow10", laid_internal_strconv_uint64pow10)], narrowed := true }
def GuideReachesUptoSaid : Prop := guideReachesUptoRow.holds Tryd.pinned (OpenSpec.upto guideReachesSpec)

/-- 'fishlaw2.GuideProfiles', WHERE WHAT IT READS IS OF BULK AT MOST 1048576: true; the input reads as it did. -/
def guideProfilesUptoRow : OpenClaim := { program := "ytpcebngchmgckaadoor", sum := "42646d4e4e360a28f1ac0bad3de7ba72b59ae8c964a5c2e67eb6557e8073ea0d", func := "fishplate/fishlaw2.GuideProfiles", spec := "guideProfiles", inPlace := ["internal/abi.NoEscape"], unfollowed := true, recurses := true, named := ["internal/strconv.uint64pow10", "math/bits.deBruijn32tab", "math/bits.deBruijn64tab"], plainKeys := false, apart := false, laid := [("math/bits.deBruijn32tab", laid_math_bits_deBruijn32tab), ("math/bits.deBruijn64tab", laid_math_bits_deBruijn64tab), ("internal/strconv.uint64pow10", laid_internal_strconv_uint64pow10)], narrowed := true }
def GuideProfilesUptoSaid : Prop := guideProfilesUptoRow.holds Tryd.pinned (OpenSpec.upto guideProfilesSpec)

/-- 'fishlaw2.GuideChances', WHERE WHAT IT READS IS OF BULK AT MOST 1048576: true; the input reads as it did. -/
def guideChancesUptoRow : OpenClaim := { program := "ytpcebngchmgckaadoor", sum := "42646d4e4e360a28f1ac0bad3de7ba72b59ae8c964a5c2e67eb6557e8073ea0d", func := "fishplate/fishlaw2.GuideChances", spec := "guideChances", inPlace := ["internal/abi.NoEscape"], unfollowed := true, recurses := true, named := ["internal/strconv.uint64pow10", "math/bits.deBruijn32tab", "math/bits.deBruijn64tab"], plainKeys := false, apart := false, laid := [("math/bits.deBruijn32tab", laid_math_bits_deBruijn32tab), ("math/bits.deBruijn64tab", laid_math_bits_deBruijn64tab), ("internal/strconv.uint64pow10", laid_internal_strconv_uint64pow10)], narrowed := true }
def GuideChancesUptoSaid : Prop := guideChancesUptoRow.holds Tryd.pinned (OpenSpec.upto guideChancesSpec)

/-- 'fishtop.TopSeated', WHERE WHAT IT READS IS OF BULK AT MOST 1048576: true; the input reads as it did. -/
def topSeatedUptoRow : OpenClaim := { program := "ytpcebngchmgckaadoor", sum := "42646d4e4e360a28f1ac0bad3de7ba72b59ae8c964a5c2e67eb6557e8073ea0d", func := "fishplate/fishtop.TopSeated", spec := "topSeated", inPlace := ["internal/abi.NoEscape"], unfollowed := true, recurses := true, named := ["internal/strconv.uint64pow10", "math/bits.deBruijn32tab", "math/bits.deBruijn64tab"], plainKeys := false, apart := false, laid := [("math/bits.deBruijn32tab", laid_math_bits_deBruijn32tab), ("math/bits.deBruijn64tab", laid_math_bits_deBruijn64tab), ("internal/strconv.uint64pow10", laid_internal_strconv_uint64pow10)], narrowed := true }
def TopSeatedUptoSaid : Prop := topSeatedUptoRow.holds Tryd.pinned (OpenSpec.upto topSeatedSpec)

end Rows
end Go.Proofs.YtpcebngchmgckaaDoor
