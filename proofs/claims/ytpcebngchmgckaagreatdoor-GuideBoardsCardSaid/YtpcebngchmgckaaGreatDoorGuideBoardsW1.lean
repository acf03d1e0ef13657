/- The walks of the functions that GuideBoards reaches: each call comes to what its mirror says. The conditions are those of each contract. -/
import Derived.Test.YtpcebngchmgckaaGreatDoorProg
import Derived.Test.YtpcebngchmgckaaGreatDoorFpTight
import Derived.Test.YtpcebngchmgckaaGreatDoorGuideBoardsM
import Derived.Test.YtpcebngchmgckaaGreatDoorFpAllX
import Derived.Test.YtpcebngchmgckaaGreatDoorGuideBoardsS
import Derived.Test.YtpcebngchmgckaaGreatDoorFpMapS
import Derived.Test.YtpcebngchmgckaaGreatDoorFpArrS
import Derived.Test.YtpcebngchmgckaaGreatDoorFpFld
import Derived.Test.YtpcebngchmgckaaGreatDoorFpMapE
import Derived.Test.YtpcebngchmgckaaGreatDoorFpMapG
import Derived.Test.YtpcebngchmgckaaGreatDoorFpMapV
import Derived.Test.YtpcebngchmgckaaGreatDoorFpMaps
import Derived.Test.YtpcebngchmgckaaGreatDoorFpOrd
import Derived.Test.YtpcebngchmgckaaGreatDoorFpRf
import Derived.Test.YtpcebngchmgckaaGreatDoorFpRng
set_option maxRecDepth 10000
namespace Go.Proofs.YtpcebngchmgckaaGreatDoor
open Go Go.Fp
def keyGuidePoint : KeyS GuidePoint where
 ls := fun a => [.i .i64 a.Dep, .i .i64 a.Arr, .i .i64 a.Rides]
 ks := [.i .i64, .i .i64, .i .i64]
 kinds := by intro a; rfl
 same := by intro a b; cases a; cases b; rw [Bool.eq_iff_iff]; simp [eqs, Leaf.same]
 law := by intro a b h; simpa using h
 refl := by simp

def keyGuidePlace : KeyS GuidePlace where
 ls := fun a => [.i .i64 a.train, .i .i64 a.off]
 ks := [.i .i64, .i .i64]
 kinds := by intro a; rfl
 same := by intro a b; cases a; cases b; rw [Bool.eq_iff_iff]; simp [eqs, Leaf.same]
 law := by intro a b h; simpa using h
 refl := by simp

def keyAr3i64 : KeyS Ar3i64 where
 ls := fun a => [.i .i64 a.f0, .i .i64 a.f1, .i .i64 a.f2]
 ks := [.i .i64, .i .i64, .i .i64]
 kinds := by intro a; rfl
 same := by intro a b; cases a; cases b; rw [Bool.eq_iff_iff]; simp [eqs, Leaf.same]
 law := by intro a b h; simpa using h
 refl := by simp
theorem ap123 : apOk Tryz.prog 123 127 7 = true := by kernel_rfl
theorem ap131 : apOk Tryz.prog 131 133 7 = true := by kernel_rfl
theorem ap213 : apOk Tryz.prog 213 216 3 = true := by kernel_rfl
theorem ap23 : apOk Tryz.prog 23 65 1 = true := by kernel_rfl
theorem ap27 : apOk Tryz.prog 27 95 3 = true := by kernel_rfl
theorem ap39 : apOk Tryz.prog 39 44 6 = true := by kernel_rfl
theorem ar264 : arOk Tryz.prog 264 4 = true := by kernel_rfl
theorem arS_270 : arEqB Tryz.prog 270 3 (.i .i64) = true := by kernel_rfl
theorem as122 : arS Tryz.prog 122 2 2 = true := by kernel_rfl
theorem bd100 : bodied Tryz.prog 100 = true := by kernel_rfl
theorem bd101 : bodied Tryz.prog 101 = true := by kernel_rfl
theorem bd102 : bodied Tryz.prog 102 = true := by kernel_rfl
theorem bd105 : bodied Tryz.prog 105 = true := by kernel_rfl
theorem bd106 : bodied Tryz.prog 106 = true := by kernel_rfl
theorem bd107 : bodied Tryz.prog 107 = true := by kernel_rfl
theorem bd108 : bodied Tryz.prog 108 = true := by kernel_rfl
theorem bd11 : bodied Tryz.prog 11 = true := by kernel_rfl
theorem bd128 : bodied Tryz.prog 128 = true := by kernel_rfl
theorem bd129 : bodied Tryz.prog 129 = true := by kernel_rfl
theorem bd130 : bodied Tryz.prog 130 = true := by kernel_rfl
theorem bd131 : bodied Tryz.prog 131 = true := by kernel_rfl
theorem bd132 : bodied Tryz.prog 132 = true := by kernel_rfl
theorem bd133 : bodied Tryz.prog 133 = true := by kernel_rfl
theorem bd14 : bodied Tryz.prog 14 = true := by kernel_rfl
theorem bd142 : bodied Tryz.prog 142 = true := by kernel_rfl
theorem bd143 : bodied Tryz.prog 143 = true := by kernel_rfl
theorem bd144 : bodied Tryz.prog 144 = true := by kernel_rfl
theorem bd145 : bodied Tryz.prog 145 = true := by kernel_rfl
theorem bd146 : bodied Tryz.prog 146 = true := by kernel_rfl
theorem bd147 : bodied Tryz.prog 147 = true := by kernel_rfl
theorem bd15 : bodied Tryz.prog 15 = true := by kernel_rfl
theorem bd16 : bodied Tryz.prog 16 = true := by kernel_rfl
theorem bd166 : bodied Tryz.prog 166 = true := by kernel_rfl
theorem bd167 : bodied Tryz.prog 167 = true := by kernel_rfl
theorem bd168 : bodied Tryz.prog 168 = true := by kernel_rfl
theorem bd170 : bodied Tryz.prog 170 = true := by kernel_rfl
theorem bd173 : bodied Tryz.prog 173 = true := by kernel_rfl
theorem bd183 : bodied Tryz.prog 183 = true := by kernel_rfl
theorem bd188 : bodied Tryz.prog 188 = true := by kernel_rfl
theorem bd38 : bodied Tryz.prog 38 = true := by kernel_rfl
theorem bd41 : bodied Tryz.prog 41 = true := by kernel_rfl
theorem bd42 : bodied Tryz.prog 42 = true := by kernel_rfl
theorem bd43 : bodied Tryz.prog 43 = true := by kernel_rfl
theorem bd44 : bodied Tryz.prog 44 = true := by kernel_rfl
theorem bd47 : bodied Tryz.prog 47 = true := by kernel_rfl
theorem bd48 : bodied Tryz.prog 48 = true := by kernel_rfl
theorem bd49 : bodied Tryz.prog 49 = true := by kernel_rfl
theorem bd50 : bodied Tryz.prog 50 = true := by kernel_rfl
theorem bd51 : bodied Tryz.prog 51 = true := by kernel_rfl
theorem bd52 : bodied Tryz.prog 52 = true := by kernel_rfl
theorem bd53 : bodied Tryz.prog 53 = true := by kernel_rfl
theorem bd54 : bodied Tryz.prog 54 = true := by kernel_rfl
theorem bd59 : bodied Tryz.prog 59 = true := by kernel_rfl
theorem bd60 : bodied Tryz.prog 60 = true := by kernel_rfl
theorem bd61 : bodied Tryz.prog 61 = true := by kernel_rfl
theorem bd62 : bodied Tryz.prog 62 = true := by kernel_rfl
theorem bd63 : bodied Tryz.prog 63 = true := by kernel_rfl
theorem bd64 : bodied Tryz.prog 64 = true := by kernel_rfl
theorem bd65 : bodied Tryz.prog 65 = true := by kernel_rfl
theorem bd66 : bodied Tryz.prog 66 = true := by kernel_rfl
theorem bd67 : bodied Tryz.prog 67 = true := by kernel_rfl
theorem bd70 : bodied Tryz.prog 70 = true := by kernel_rfl
theorem bd72 : bodied Tryz.prog 72 = true := by kernel_rfl
theorem bd73 : bodied Tryz.prog 73 = true := by kernel_rfl
theorem bd79 : bodied Tryz.prog 79 = true := by kernel_rfl
theorem bd8 : bodied Tryz.prog 8 = true := by kernel_rfl
theorem bd81 : bodied Tryz.prog 81 = true := by kernel_rfl
theorem bd95 : bodied Tryz.prog 95 = true := by kernel_rfl
theorem cl213 : clOk Tryz.prog 213 216 3 = true := by kernel_rfl
theorem fd111_2 : fdOk Tryz.prog 111 2 2 109 = true := by kernel_rfl
theorem fd99_3 : fdOk Tryz.prog 99 3 3 3 = true := by kernel_rfl
theorem fl111_0 : fldOk Tryz.prog 111 0 0 = true := by kernel_rfl
theorem fl111_1 : fldOk Tryz.prog 111 1 1 = true := by kernel_rfl
theorem fl111_2 : fldOk Tryz.prog 111 2 2 = true := by kernel_rfl
theorem fl111_3 : fldOk Tryz.prog 111 3 3 = true := by kernel_rfl
theorem fl127_0 : fldOk Tryz.prog 127 0 0 = true := by kernel_rfl
theorem fl127_1 : fldOk Tryz.prog 127 1 6 = true := by kernel_rfl
theorem fl133_0 : fldOk Tryz.prog 133 0 0 = true := by kernel_rfl
theorem fl133_1 : fldOk Tryz.prog 133 1 6 = true := by kernel_rfl
theorem fl216_0 : fldOk Tryz.prog 216 0 0 = true := by kernel_rfl
theorem fl216_1 : fldOk Tryz.prog 216 1 1 = true := by kernel_rfl
theorem fl216_2 : fldOk Tryz.prog 216 2 2 = true := by kernel_rfl
theorem fl25_0 : fldOk Tryz.prog 25 0 0 = true := by kernel_rfl
theorem fl25_1 : fldOk Tryz.prog 25 1 1 = true := by kernel_rfl
theorem fl267_0 : fldOk Tryz.prog 267 0 0 = true := by kernel_rfl
theorem fl267_1 : fldOk Tryz.prog 267 1 1 = true := by kernel_rfl
theorem fl29_0 : fldOk Tryz.prog 29 0 0 = true := by kernel_rfl
theorem fl44_0 : fldOk Tryz.prog 44 0 0 = true := by kernel_rfl
theorem fl44_1 : fldOk Tryz.prog 44 1 1 = true := by kernel_rfl
theorem fl44_2 : fldOk Tryz.prog 44 2 2 = true := by kernel_rfl
theorem fl44_4 : fldOk Tryz.prog 44 4 4 = true := by kernel_rfl
theorem fl91_0 : fldOk Tryz.prog 91 0 0 = true := by kernel_rfl
theorem fl91_1 : fldOk Tryz.prog 91 1 2 = true := by kernel_rfl
theorem fl95_0 : fldOk Tryz.prog 95 0 0 = true := by kernel_rfl
theorem fl95_1 : fldOk Tryz.prog 95 1 1 = true := by kernel_rfl
theorem fl95_2 : fldOk Tryz.prog 95 2 2 = true := by kernel_rfl
theorem fl99_0 : fldOk Tryz.prog 99 0 0 = true := by kernel_rfl
theorem fl99_1 : fldOk Tryz.prog 99 1 1 = true := by kernel_rfl
theorem fl99_2 : fldOk Tryz.prog 99 2 2 = true := by kernel_rfl
theorem fl99_3 : fldOk Tryz.prog 99 3 3 = true := by kernel_rfl
theorem hu193 : (Tryz.prog.underlying 193).isSome = true := by kernel_rfl
theorem hu3 : (Tryz.prog.underlying 3).isSome = true := by kernel_rfl
theorem isl27 : isSl Tryz.prog 27 = true := by kernel_rfl
theorem mixed : Tryz.prog.follows .mixedOrders = true := by kernel_rfl
theorem mp124 : mpOk Tryz.prog keyI.ok 124 3 111 = true := by kernel_rfl
theorem mp125 : mpOk Tryz.prog keyI.ok 125 3 4 = true := by kernel_rfl
theorem mp261 : mpOk Tryz.prog keyI.ok 261 3 27 = true := by kernel_rfl
theorem mp262 : mpOkS Tryz.prog keyGuidePoint.ks 262 216 4 = true := by kernel_rfl
theorem mp263 : mpOkS Tryz.prog keyGuidePlace.ks 263 267 4 = true := by kernel_rfl
theorem se44 : stEqB Tryz.prog 44 [.i .i64, .i .i64, .i .i64, .i .i64, .i .i64, .b] = true := by kernel_rfl
theorem se95 : stEqB Tryz.prog 95 [.i .i64, .i .i64, .i .i64] = true := by kernel_rfl
theorem sl109 : slOk Tryz.prog 109 99 4 = true := by kernel_rfl
theorem sl123 : slOk Tryz.prog 123 127 7 = true := by kernel_rfl
theorem sl131 : slOk Tryz.prog 131 133 7 = true := by kernel_rfl
theorem sl213 : slOk Tryz.prog 213 216 3 = true := by kernel_rfl
theorem sl22 : slOk Tryz.prog 22 111 4 = true := by kernel_rfl
theorem sl23 : slOk Tryz.prog 23 65 1 = true := by kernel_rfl
theorem sl27 : slOk Tryz.prog 27 95 3 = true := by kernel_rfl
theorem sl39 : slOk Tryz.prog 39 44 6 = true := by kernel_rfl
theorem sl65 : slOk Tryz.prog 65 3 1 = true := by kernel_rfl
theorem ty107 : tyOk Tryz.prog 107 false 1 = true := by kernel_rfl
theorem ty109 : tyOk Tryz.prog 109 false 1 = true := by kernel_rfl
theorem ty111 : tyOk Tryz.prog 111 true 4 = true := by kernel_rfl
theorem ty123 : tyOk Tryz.prog 123 false 1 = true := by kernel_rfl
theorem ty124 : tyOk Tryz.prog 124 false 1 = true := by kernel_rfl
theorem ty127 : tyOk Tryz.prog 127 true 7 = true := by kernel_rfl
theorem ty131 : tyOk Tryz.prog 131 false 1 = true := by kernel_rfl
theorem ty133 : tyOk Tryz.prog 133 true 7 = true := by kernel_rfl
theorem ty216 : tyOk Tryz.prog 216 true 3 = true := by kernel_rfl
theorem ty22 : tyOk Tryz.prog 22 false 1 = true := by kernel_rfl
theorem ty23 : tyOk Tryz.prog 23 false 1 = true := by kernel_rfl
theorem ty25 : tyOk Tryz.prog 25 true 2 = true := by kernel_rfl
theorem ty261 : tyOk Tryz.prog 261 false 1 = true := by kernel_rfl
theorem ty263 : tyOk Tryz.prog 263 false 1 = true := by kernel_rfl
theorem ty264 : tyOk Tryz.prog 264 true 4 = true := by kernel_rfl
theorem ty267 : tyOk Tryz.prog 267 true 2 = true := by kernel_rfl
theorem ty269 : tyOk Tryz.prog 269 false 1 = true := by kernel_rfl
theorem ty27 : tyOk Tryz.prog 27 false 1 = true := by kernel_rfl
theorem ty270 : tyOk Tryz.prog 270 true 3 = true := by kernel_rfl
theorem ty29 : tyOk Tryz.prog 29 true 1 = true := by kernel_rfl
theorem ty3 : tyOk Tryz.prog 3 false 1 = true := by kernel_rfl
theorem ty4 : tyOk Tryz.prog 4 false 1 = true := by kernel_rfl
theorem ty44 : tyOk Tryz.prog 44 true 6 = true := by kernel_rfl
theorem ty65 : tyOk Tryz.prog 65 false 1 = true := by kernel_rfl
theorem ty91 : tyOk Tryz.prog 91 true 3 = true := by kernel_rfl
theorem ty95 : tyOk Tryz.prog 95 true 3 = true := by kernel_rfl
theorem ty99 : tyOk Tryz.prog 99 true 4 = true := by kernel_rfl
theorem ui193 : Tryz.prog.underlying 193 = some (.int .u64) := by kernel_rfl
theorem ui3 : Tryz.prog.underlying 3 = some (.int .i64) := by kernel_rfl
theorem um261 : Tryz.prog.underlying 261 = some (.map 3 27) := by kernel_rfl
theorem um263 : Tryz.prog.underlying 263 = some (.map 267 4) := by kernel_rfl
theorem um269 : Tryz.prog.underlying 269 = some (.map 270 4) := by kernel_rfl
theorem ze111 : (Tryz.prog.info? 111).bind (fun i => i.zero) = some (aggv [vi 0, vi 0, .slice none 0 0, .slice none 0 0]) := by kernel_rfl
theorem zm4 : (Tryz.prog.info? 4).bind (fun i => i.zero) = some (Value.bool false) := by kernel_rfl
theorem zr107 : (Tryz.prog.info? 107).bind (fun i => i.zero.map fun z => z.cells.toList) = some [.nilFunc] := by kernel_rfl
theorem zr111 : (Tryz.prog.info? 111).bind (fun i => i.zero.map fun z => z.cells.toList) = some [vi 0, vi 0, .slice none 0 0, .slice none 0 0] := by kernel_rfl
theorem zr123 : (Tryz.prog.info? 123).bind (fun i => i.zero.map fun z => z.cells.toList) = some [.slice none 0 0] := by kernel_rfl
theorem zr124 : (Tryz.prog.info? 124).bind (fun i => i.zero.map fun z => z.cells.toList) = some [.map none] := by kernel_rfl
theorem zr127 : (Tryz.prog.info? 127).bind (fun i => i.zero.map fun z => z.cells.toList) = some [vi 0, vi 0, vi 0, vi 0, vi 0, .bool false, vi 0] := by kernel_rfl
theorem zr131 : (Tryz.prog.info? 131).bind (fun i => i.zero.map fun z => z.cells.toList) = some [.slice none 0 0] := by kernel_rfl
theorem zr133 : (Tryz.prog.info? 133).bind (fun i => i.zero.map fun z => z.cells.toList) = some [vi 0, vi 0, vi 0, vi 0, vi 0, .bool false, vi 0] := by kernel_rfl
theorem zr141 : (Tryz.prog.info? 141).bind (fun i => i.zero.map fun z => z.cells.toList) = some [.pointer none, .slice none 0 0] := by kernel_rfl
theorem zr216 : (Tryz.prog.info? 216).bind (fun i => i.zero.map fun z => z.cells.toList) = some [vi 0, vi 0, vi 0] := by kernel_rfl
theorem zr25 : (Tryz.prog.info? 25).bind (fun i => i.zero.map fun z => z.cells.toList) = some [.slice none 0 0, .slice none 0 0] := by kernel_rfl
theorem zr261 : (Tryz.prog.info? 261).bind (fun i => i.zero.map fun z => z.cells.toList) = some [.map none] := by kernel_rfl
theorem zr264 : (Tryz.prog.info? 264).bind (fun i => i.zero.map fun z => z.cells.toList) = some [.map none, .map none, .map none, .map none] := by kernel_rfl
theorem zr267 : (Tryz.prog.info? 267).bind (fun i => i.zero.map fun z => z.cells.toList) = some [vi 0, vi 0] := by kernel_rfl
theorem zr269 : (Tryz.prog.info? 269).bind (fun i => i.zero.map fun z => z.cells.toList) = some [.map none] := by kernel_rfl
theorem zr27 : (Tryz.prog.info? 27).bind (fun i => i.zero.map fun z => z.cells.toList) = some [.slice none 0 0] := by kernel_rfl
theorem zr270 : (Tryz.prog.info? 270).bind (fun i => i.zero.map fun z => z.cells.toList) = some [vi 0, vi 0, vi 0] := by kernel_rfl
theorem zr29 : (Tryz.prog.info? 29).bind (fun i => i.zero.map fun z => z.cells.toList) = some [.slice none 0 0] := by kernel_rfl
theorem zr4 : (Tryz.prog.info? 4).bind (fun i => i.zero.map fun z => z.cells.toList) = some [.bool false] := by kernel_rfl
theorem zr44 : (Tryz.prog.info? 44).bind (fun i => i.zero.map fun z => z.cells.toList) = some [vi 0, vi 0, vi 0, vi 0, vi 0, .bool false] := by kernel_rfl
theorem zr95 : (Tryz.prog.info? 95).bind (fun i => i.zero.map fun z => z.cells.toList) = some [vi 0, vi 0, vi 0] := by kernel_rfl
theorem zr99 : (Tryz.prog.info? 99).bind (fun i => i.zero.map fun z => z.cells.toList) = some [vi 0, vi 0, vi 0, vi 0] := by kernel_rfl
theorem zs27 : (Tryz.prog.info? 27).bind (fun i => i.zero) = some (.slice none 0 0) := by kernel_rfl
theorem sbmixed : Tryz.prog.follows .mixedOrders = true := by kernel_rfl
theorem sbty60 : tyOk Tryz.prog 138 false 1 = true := by kernel_rfl
theorem sbty61 : tyOk Tryz.prog 139 false 1 = true := by kernel_rfl
theorem sbfl0 : fldOk Tryz.prog 141 0 0 = true := by kernel_rfl
theorem sbfl1 : fldOk Tryz.prog 141 1 1 = true := by kernel_rfl
theorem sbap : apOk Tryz.prog 139 5 1 = true := by kernel_rfl
theorem sbsl : slOk Tryz.prog 139 5 1 = true := by kernel_rfl
theorem sbpt : ptOk Tryz.prog 138 141 = true := by kernel_rfl
theorem sbu60 : Tryz.prog.underlying 138 = some (.pointer 141) := by kernel_rfl
theorem sbu77 : Tryz.prog.underlying 257 = some .unsafePointer := by kernel_rfl
theorem sbu76 : Tryz.prog.underlying 196 = some (.pointer 5) := by kernel_rfl
theorem sbu9 : Tryz.prog.underlying 9 = some .string := by kernel_rfl
theorem sbst : stOk Tryz.prog 9 = true := by kernel_rfl
theorem sbc : Tryz.prog.cellsOf 141 = 2 := by kernel_rfl
theorem sbc5 : Tryz.prog.cellsOf 5 = 1 := by kernel_rfl
theorem sbi0 : (Tryz.prog.info? 141).map (·.size) = some 2 := by kernel_rfl
theorem sbi : ∃ j, Tryz.prog.info? 141 = some j ∧ j.size ≠ 0 := by
 have h := sbi0
 rw [Option.map_eq_some_iff] at h
 obtain ⟨j, h1, h2⟩ := h
 exact ⟨j, h1, by omega⟩
theorem sbsame : sameOk Tryz.prog 163 := ⟨_, rfl, by kernel_rfl, by kernel_rfl, by kernel_rfl, by kernel_rfl⟩
theorem sbbd : bodied Tryz.prog 117 = true := by kernel_rfl
section
variable {w : World} {s : Sg} {R : List HP} {b : Nat} {y : ByteArray}
theorem sbCheck_ok {f a : Option Addr} {c : Nat} (hf : f = none ∨ f = some ⟨b, 0, none⟩) (hS : St w s (pc b [.pointer f, .slice a y.size c].toArray 141 :: R)) :
  Calls Tryz.prog 117 [pp b].toArray w (fun e w => e = .returned (.tuple #[]) ∧ St w s (pc b [pp b, .slice a y.size c].toArray 141 :: R)) := by
 obtain ⟨j, hj1, hj2⟩ := sbi
 refine enter Tryz.func117 rfl rfl rfl fun a hE => ?_
 refine W.seq (W.region (vp hS hE rfl rfl fun a hE => ?_))
 refine vP hS hE (Gives.nilOk hE rfl) rfl fun a hE => ?_
 refine vP hS hE (Gives.fld hE rfl sbfl0) rfl fun a hE => ?_
 refine vP hS hE (Gives.loadB hE 0 rfl rfl rfl sbty60) rfl fun a hE => ?_
 refine vP hS hE (Gives.isNilP hE rfl rfl sbpt) rfl fun a hE => WL.nil ?_
 refine W.cond hE rfl (fun hc => ?_) (fun hc => ?_)
 ·refine W.region ?_
  refine v2 hS hE rfl rfl rfl rfl fun a hE => ?_
  refine vP hS hE (Gives.toUnsafe hE 0 rfl rfl rfl sbu60 sbu77 hj1 hj2) rfl fun a hE => ?_
  refine WL.same hE sbsame (runs_plain rfl) rfl rfl fun a hE => ?_
  refine vP hS hE (Gives.fromUnsafe hE 0 rfl rfl sbu77 sbu60 hj1 sbc rfl) rfl fun a hE => ?_
  refine vP hS hE (Gives.nilOk hE rfl) rfl fun a hE => ?_
  refine vP hS hE (Gives.fld hE rfl sbfl0) rfl fun a hE => ?_
  refine WL.storeI hE hS 0 rfl _ (runs_plain rfl) rfl rfl rfl sbty60 rfl rfl rfl rfl ?_; clear hE hS a; intro a w hE hS
  refine WL.nil ?_
  refine fin0 hE rfl ?_
  exact ⟨rfl, hS⟩
 have hf' : f = some ⟨b, 0, none⟩ := by
  rcases hf with rfl | h
  ·cases hc
  exact h
 subst hf'
 refine W.seq (W.region (vp hS hE rfl rfl fun a hE => ?_))
 refine vP hS hE (Gives.nilOk hE rfl) rfl fun a hE => ?_
 refine vP hS hE (Gives.fld hE rfl sbfl0) rfl fun a hE => ?_
 refine vP hS hE (Gives.loadB hE 0 rfl rfl rfl sbty60) rfl fun a hE => ?_
 refine vp hS hE rfl rfl fun a hE => ?_
 refine vP hS hE (Gives.neqSame hE rfl rfl sbu60 hj1) rfl fun a hE => WL.nil ?_
 refine W.condF hE rfl rfl ?_
 refine W.skip ?_
 refine fin0 hE rfl ?_
 exact ⟨rfl, hS⟩

theorem sbWrite_ok {x r : ByteArray} (hS : St w s (sbC 141 5 b y :: R)) (hr : sbw y x = some r) :
  Calls Tryz.prog 70 [pp b, .string x].toArray w (fun e w => e = .returned (.tuple #[vi x.size, .nilIface]) ∧ St w s (sbC 141 5 b r :: R)) := by
 obtain ⟨h1, h2, rfl⟩ := sbw_some hr
 obtain ⟨f, sa, c, hf, ha, hS⟩ := hS.sbOpen
 refine enter Tryz.func70 rfl rfl rfl fun a hE => ?_
 refine W.seq (W.region (v2 hS hE rfl rfl rfl rfl fun a hE => WL.nil ?_))
 refine W.seq (W.region (vp hS hE rfl rfl fun a hE => ?_))
 refine WL.fnq hE (sbCheck_ok hf hS) (runs_plain rfl) sbbd rfl rfl rfl ?_
 clear hE hS; rintro e w ⟨rfl, hS⟩; refine ⟨_, rfl, ?_⟩; clear a; intro a hE
 refine WL.nil ?_
 refine W.seq (W.region (v2 hS hE rfl rfl rfl rfl fun a hE => ?_))
 refine vP hS hE (Gives.nilOk hE rfl) rfl fun a hE => ?_
 refine vP hS hE (Gives.fld hE rfl sbfl1) rfl fun a hE => ?_
 refine vP hS hE (Gives.loadB hE 0 rfl rfl rfl sbty61) rfl fun a hE => ?_
 refine vp hS hE rfl rfl fun a hE => ?_
 refine WL.appStr hE hS 1 (runs_plain rfl) rfl rfl rfl sbap sbu9 h1 h2 ha.1 rfl ?_; clear hE hS a ha; intro sa2 c2 a w ha hE hS
 refine vP hS hE (Gives.nilOk hE rfl) rfl fun a hE => ?_
 refine vP hS hE (Gives.fld hE rfl sbfl1) rfl fun a hE => ?_
 refine WL.storeI hE hS 0 rfl _ (runs_plain rfl) rfl rfl rfl sbty61 rfl rfl rfl rfl ?_; clear hE hS a; intro a w hE hS
 refine WL.nil ?_
 refine W.seq (W.region (vp hS hE rfl rfl fun a hE => ?_))
 refine vP hS hE (Gives.lenS hE rfl sbst) rfl fun a hE => ?_
 refine v2 hS hE rfl rfl rfl rfl fun a hE => WL.nil ?_
 refine W.ret ?_
 refine finG (fn := Tryz.f70) (rs := [.tmp 4, .tmp 5]) (vs := [_, _]) hE rfl ⟨rfl, rfl, trivial⟩ ?_
 refine ⟨rfl, St.sbClose (f := some ⟨b, 0, none⟩) (a := sa2) (c := c2) (.inr rfl) ha ?_⟩
 rw [ByteArray.size_append, byteCells_app]
 exact hS

theorem sbString_ok (hS : St w s (sbC 141 5 b y :: R)) :
  Calls Tryz.prog 73 [pp b].toArray w (fun e w => e = .returned (.string y) ∧ St w s R) := by
 obtain ⟨f, sa, c, hf, ha, hS⟩ := hS.sbOpen
 refine enter Tryz.func73 rfl rfl rfl fun a hE => ?_
 refine W.seq (W.region (vp hS hE rfl rfl fun a hE => WL.nil ?_))
 refine W.seq ?_
 refine W.regionE (sel (fun w => St w s (pc b [.pointer f, .slice sa y.size c].toArray 141 :: vecC 5 1 sa c y.size (byteCells y) :: R)) (fun w => St w s R)) (fun b i => cond b (!(i == 10)) true) sbmixed ?_
 replace hS := hS.drew
 refine Rg.takeP (i := 0) hE rfl (by kernel_rfl) (runs_plain rfl) (Gives.p hE rfl) rfl (tw_sel (fun _ => hS) (fun _ => hS.tail.tail)) fun a hE => ?_
 refine Rg.takeP (i := 5) hE rfl (by kernel_rfl) (runs_plain rfl) (Gives.p hE rfl) rfl (tw_sel (fun _ => hS) (fun _ => hS.tail.tail)) fun a hE => ?_
 refine Rg.takeP (i := 1) hE rfl (by kernel_rfl) (runs_plain rfl) (Gives.nilOk hE rfl) rfl (tw_sel (fun _ => hS) (fun _ => hS.tail.tail)) fun a hE => ?_
 refine Rg.takeP (i := 6) hE rfl (by kernel_rfl) (runs_plain rfl) (Gives.nilOk hE rfl) rfl (tw_sel (fun _ => hS) (fun _ => hS.tail.tail)) fun a hE => ?_
 refine Rg.takeP (i := 2) hE rfl (by kernel_rfl) (runs_plain rfl) (Gives.fld hE rfl sbfl1) rfl (tw_sel (fun _ => hS) (fun _ => hS.tail.tail)) fun a hE => ?_
 refine Rg.takeP (i := 7) hE rfl (by kernel_rfl) (runs_plain rfl) (Gives.fld hE rfl sbfl1) rfl (tw_sel (fun _ => hS) (fun _ => hS.tail.tail)) fun a hE => ?_
 refine Rg.two (i := 3) (j := 8) true true true true rfl rfl (by kernel_rfl) (by kernel_rfl) (by kernel_rfl) (by kernel_rfl) (by kernel_rfl) ?_ ?_
 ·refine vP hS hE (Gives.loadB hE 0 rfl rfl rfl sbty61) rfl fun a hE => WL.nil ?_
  refine ⟨⟨fun _ => hS, fun _ => hS.tail.tail⟩, ?_⟩
  refine Rg.takeP (i := 4) hE rfl (by kernel_rfl) (runs_plain rfl) (Gives.sliceData hE rfl ha.2) rfl (tw_sel (fun _ => hS) (fun _ => hS.tail.tail)) fun a hE => ?_
  refine Rg.one (i := 8) true true rfl (by kernel_rfl) (by kernel_rfl) (by kernel_rfl) ?_
  refine vP hS hE (Gives.loadB hE 0 rfl rfl rfl sbty61) rfl fun a hE => WL.nil ?_
  refine ⟨⟨fun _ => hS, fun _ => hS.tail.tail⟩, ?_⟩
  refine Rg.takeP (i := 9) hE rfl (by kernel_rfl) (runs_plain rfl) (Gives.len hE rfl sbsl) rfl (tw_sel (fun _ => hS) (fun _ => hS.tail.tail)) fun a hE => ?_
  refine Rg.one (i := 10) false true rfl (by kernel_rfl) (by kernel_rfl) (by kernel_rfl) ?_
  refine WL.sbString hE hS 1 (runs_plain rfl) rfl rfl rfl ha.1 sbu76 sbc5 rfl ?_; clear hE hS a; intro a w hE hS
  refine WL.nil ?_
  refine ⟨⟨fun h => absurd h (by decide), fun _ => hS.tail⟩, ?_⟩
  refine Rg.takeP (i := 11) hE rfl (by kernel_rfl) (runs_plain rfl) (Gives.p hE rfl) rfl (tw_sel (fun h => absurd h (by decide)) (fun _ => hS.tail)) fun a hE => ?_
  refine Rg.done (by kernel_rfl) ?_
  refine W.ret ?_
  refine finG (fn := Tryz.f73) (rs := [.tmp 2]) (vs := [_]) hE rfl ⟨rfl, trivial⟩ ?_
  exact ⟨rfl, hS.tail⟩
 refine vP hS hE (Gives.loadB hE 0 rfl rfl rfl sbty61) rfl fun a hE => WL.nil ?_
 refine ⟨⟨fun _ => hS, fun _ => hS.tail.tail⟩, ?_⟩
 refine Rg.takeP (i := 9) hE rfl (by kernel_rfl) (runs_plain rfl) (Gives.len hE rfl sbsl) rfl (tw_sel (fun _ => hS) (fun _ => hS.tail.tail)) fun a hE => ?_
 refine Rg.one (i := 3) true true rfl (by kernel_rfl) (by kernel_rfl) (by kernel_rfl) ?_
 refine vP hS hE (Gives.loadB hE 0 rfl rfl rfl sbty61) rfl fun a hE => WL.nil ?_
 refine ⟨⟨fun _ => hS, fun _ => hS.tail.tail⟩, ?_⟩
 refine Rg.takeP (i := 4) hE rfl (by kernel_rfl) (runs_plain rfl) (Gives.sliceData hE rfl ha.2) rfl (tw_sel (fun _ => hS) (fun _ => hS.tail.tail)) fun a hE => ?_
 refine Rg.one (i := 10) false true rfl (by kernel_rfl) (by kernel_rfl) (by kernel_rfl) ?_
 refine WL.sbString hE hS 1 (runs_plain rfl) rfl rfl rfl ha.1 sbu76 sbc5 rfl ?_; clear hE hS a; intro a w hE hS
 refine WL.nil ?_
 refine ⟨⟨fun h => absurd h (by decide), fun _ => hS.tail⟩, ?_⟩
 refine Rg.takeP (i := 11) hE rfl (by kernel_rfl) (runs_plain rfl) (Gives.p hE rfl) rfl (tw_sel (fun h => absurd h (by decide)) (fun _ => hS.tail)) fun a hE => ?_
 refine Rg.done (by kernel_rfl) ?_
 refine W.ret ?_
 refine finG (fn := Tryz.f73) (rs := [.tmp 2]) (vs := [_]) hE rfl ⟨rfl, trivial⟩ ?_
 exact ⟨rfl, hS.tail⟩
end
section
open Go.Sort
theorem cmpc_42 (x y : Int) : CmpCompareint x y = Lib.compareInt x y := by
 unfold CmpCompareint CmpisNaNint Lib.compareInt
 simp
theorem cmpx_42 (x y : Int) (W : World) : Calls Tryz.prog 42 #[vi x, vi y] W fun e w' => e = .returned (vi (CmpCompareint x y)) ∧ w' = W := by
 rw [cmpc_42]; exact Tryz.cmp_Compare_int x y W
end
section
open Go.Sort
set_option maxHeartbeats 8000000 in
theorem SlicesCompareLint_x  {w : World} {s : Sg} {R : List HP} {x0 : List Int} {a0 : Option Addr} {c0 : Nat} {x1 : List Int} {a1 : Option Addr} {c1 : Nat} (hS : St w s (R)) {w0 : World} (hw : w = w0) (h0 : Sl 1 (RI .i64) s a0 c0 x0) (h1 : Sl 1 (RI .i64) s a1 c1 x1) {r : Int} (hr : SlicesCompareLint x0 x1 = some r) :
  Calls Tryz.prog 59 [.slice a0 x0.length c0, .slice a1 x1.length c1].toArray w (fun e w => e = .returned (vi r) ∧ w = w0) := by
 refine enter Tryz.func59 rfl rfl rfl fun a hE => ?_
 rw [SlicesCompareLint] at hr
 refine W.seq (W.region (vp hS hE rfl rfl fun a hE => WL.nil ?_))
 refine W.seq ?_
 refine W.seq (W.region (vp hS hE rfl rfl fun a hE => ?_))
 refine vP hS hE (Gives.len hE rfl sl65) rfl fun a hE => ?_
 refine vp hS hE rfl rfl fun a hE => WL.nil ?_
 obtain ⟨q52, hq51, hr⟩ := bindS hr
 refine W.cut (fun a w => (.next ()) = q52 ∧ Rep a 36 [(0, .slice a0 x0.length c0), (1, .slice a1 x1.length c1)] ∧ St w s (R) ∧ w = w0) ?_ ?_
 ·refine W.block ?_
  refine W.loop (fun m a w => ∃ (rest55 : List Int) (k53 : Nat), rest55.length = m ∧ x0.drop k53 = rest55 ∧ SlicesCompareLint.loop1 x1 rest55 k53 = some q52 ∧ Rep a 36 [(0, .slice a0 x0.length c0), (1, .slice a1 x1.length c1), (9, .slice a0 x0.length c0), (10, vi ((x0).length : Int)), (11, vi ((k53 : Nat) : Int))] ∧ St w s (R) ∧ w = w0) (m := x0.length) ⟨x0, 0, rfl, rfl, hq51, hE.pick _ ⟨rfl, rfl, rfl, rfl, rfl, trivial⟩, hS, hw⟩ ?_
  clear hE hS hw a w hq51; rintro m59 a w ⟨rest55, k53, rfl, hd56, hq51, hE, hS, hw⟩
  refine W.gen fun K62 hK62 => ?_
  rcases rest55 with _ | ⟨x54, rest55⟩
  ·have hlt57 := drop_nil hd56
   refine W.seq (W.region (vp hS hE rfl rfl fun a hE => WL.nil ?_))
   refine W.seq ?_
   refine W.condF hE rfl (decide_eq_false (by omega)) ?_
   subst hK62
   refine W.exit rfl ?_
   exact ⟨Option.some.inj hq51, hE.pick _ ⟨rfl, rfl, trivial⟩, hS, hw⟩
  obtain ⟨hlt57, hx58, hd56⟩ := drop_cons hd56
  rw [SlicesCompareLint.loop1] at hq51
  refine W.seq (W.region (vp hS hE rfl rfl fun a hE => WL.nil ?_))
  refine W.seq ?_
  refine W.condT hE rfl (decide_eq_true (by omega)) ?_
  refine W.skip ?_
  refine W.seq ?_
  refine W.block ?_
  refine W.seq (W.region (vp hS hE rfl rfl fun a hE => ?_))
  obtain ⟨cs63, hl64, hR65, hat66⟩ := h0.at hx58
  subst hR65
  refine vP hS hE (Gives.idx hE k53 rfl rfl sl65 rfl hlt57 (h0.aok hlt57)) rfl fun a hE => ?_
  refine vP hS hE (Gives.load1 hE rfl (fun w h => hat66 w _ h) ty3) rfl fun a hE => ?_
  refine v2 hS hE rfl rfl rfl rfl fun a hE => WL.nil ?_
  refine W.seq ?_
  refine W.seq (W.region (v2 hS hE rfl rfl rfl rfl fun a hE => ?_))
  refine vP hS hE (Gives.len hE rfl sl65) rfl fun a hE => ?_
  refine vp hS hE rfl rfl fun a hE => WL.nil ?_
  refine W.cond hE rfl (fun hc67 => ?_) (fun hc67 => ?_)
  ·replace hq51 := iteT hc67 hq51
   refine W.seq (W.region (vp hS hE rfl rfl fun a hE => WL.nil ?_))
   refine W.ret ?_
   subst hK62
   rw [← Option.some.inj hq51] at hr
   dsimp only at hr
   refine finG (fn := Tryz.f59) (rs := [.tmp 4]) (vs := [_]) hE rfl ⟨rfl, trivial⟩ ?_
   obtain rfl := Option.some.inj hr
   exact ⟨rfl, hw⟩
  replace hq51 := iteF hc67 hq51
  refine W.skip ?_
  refine W.seq (W.region (v2 hS hE rfl rfl rfl rfl fun a hE => ?_))
  obtain ⟨x68, hx69, hq51⟩ := bindS hq51
  obtain ⟨hi70, hlt71, hy72⟩ := gx_some hx69
  obtain ⟨cs73, hl74, hR75, hat76⟩ := h1.at hy72
  subst hR75
  refine vP hS hE (Gives.idx hE (((k53 : Nat) : Int)).toNat rfl rfl sl65 hi70 hlt71 (h1.aok hlt71)) rfl fun a hE => ?_
  refine vP hS hE (Gives.load1 hE rfl (fun w h => hat76 w _ h) ty3) rfl fun a hE => ?_
  refine vp hS hE rfl rfl fun a hE => WL.nil ?_
  refine W.seq (W.region (v2 hS hE rfl rfl rfl rfl fun a hE => ?_))
  refine WL.fnq hE (cmpx_42 x54 x68 _) (runs_plain rfl) bd42 rfl rfl rfl ?_
  clear hE; rintro e w1 ⟨rfl, hw1⟩; rw [hw1]; clear hw1 w1; refine ⟨_, rfl, ?_⟩; clear a; intro a hE
  refine vp hS hE rfl rfl fun a hE => WL.nil ?_
  refine W.seq (W.region (v2 hS hE rfl rfl rfl rfl fun a hE => WL.nil ?_))
  refine W.cond hE rfl (fun hc77 => ?_) (fun hc77 => ?_)
  ·replace hq51 := iteT hc77 hq51
   refine W.seq (W.region (v2 hS hE rfl rfl rfl rfl fun a hE => WL.nil ?_))
   refine W.ret ?_
   subst hK62
   rw [← Option.some.inj hq51] at hr
   dsimp only at hr
   refine finG (fn := Tryz.f59) (rs := [.tmp 4]) (vs := [_]) hE rfl ⟨rfl, trivial⟩ ?_
   obtain rfl := Option.some.inj hr
   exact ⟨rfl, hw⟩
  replace hq51 := iteF hc77 hq51
  refine W.skip ?_
  refine W.region ?_
  refine vP hS hE (Gives.inc hE rfl (by have := h0.small; omega)) rfl fun a hE => ?_
  refine vp hS hE rfl rfl fun a hE => WL.nil ?_
  subst hK62
  exact ⟨rest55.length, Nat.lt_succ_self _, rest55, k53 + 1, rfl, hd56, hq51, hE.pick _ ⟨rfl, rfl, rfl, rfl, rfl, trivial⟩, hS, hw⟩
 clear hE hS hw a w; rintro a w ⟨rfl, hE, hS, hw⟩
 dsimp only at hr
 refine W.seq ?_
 refine W.seq (W.region (vp hS hE rfl rfl fun a hE => ?_))
 refine vP hS hE (Gives.len hE rfl sl65) rfl fun a hE => ?_
 refine vp hS hE rfl rfl fun a hE => ?_
 refine vP hS hE (Gives.len hE rfl sl65) rfl fun a hE => ?_
 refine vp hS hE rfl rfl fun a hE => WL.nil ?_
 refine W.cond hE rfl (fun hc78 => ?_) (fun hc78 => ?_)
 ·replace hr := iteT hc78 hr
  refine W.seq (W.region (vp hS hE rfl rfl fun a hE => WL.nil ?_))
  refine W.ret ?_
  refine finG (fn := Tryz.f59) (rs := [.tmp 4]) (vs := [_]) hE rfl ⟨rfl, trivial⟩ ?_
  obtain rfl := Option.some.inj hr
  exact ⟨rfl, hw⟩
 replace hr := iteF hc78 hr
 refine W.skip ?_
 refine W.seq (W.region (vp hS hE rfl rfl fun a hE => WL.nil ?_))
 refine W.ret ?_
 refine finG (fn := Tryz.f59) (rs := [.tmp 4]) (vs := [_]) hE rfl ⟨rfl, trivial⟩ ?_
 obtain rfl := Option.some.inj hr
 exact ⟨rfl, hw⟩
set_option maxHeartbeats 8000000 in
theorem Fishref2BoardOf_2_x  {w : World} {s : Sg} {R : List HP} {x0 : Fishref2Row} {x1 : Fishref2Row} (hS : St w s (R)) {w0 : World} (hX : XW w0 w)  {r : Int} (hr : Fishref2BoardOf_2 x0 x1 = some r) :
  Calls Tryz.prog 68 [.agg (Fishref2Row.cells x0).toArray, .agg (Fishref2Row.cells x1).toArray].toArray w (fun e w => e = .returned (vi r) ∧ St w s (R) ∧ XW w0 w) := by
 refine enter Tryz.func68 rfl rfl rfl fun a hE => ?_
 rw [Fishref2BoardOf_2] at hr
 refine W.seq (W.region ?_)
 refine WL.boxX hE hS hX (runs_plain rfl) rfl rfl rfl ?_; clear hE hS hX a w; intro b51 a w hE hS hX
 refine WL.boxX hE hS hX (runs_plain rfl) rfl rfl rfl ?_; clear hE hS hX a w; intro b52 a w hE hS hX
 refine vp hS hE rfl rfl fun a hE => WL.nil ?_
 refine W.seq (W.region (vP hS hE (Gives.fld hE rfl fl133_0) rfl fun a hE => ?_))
 refine vP hS hE (Gives.fld hE rfl fl44_0) rfl fun a hE => ?_
 refine vP hS hE (Gives.loadB hE 1 rfl rfl rfl ty3) rfl fun a hE => ?_
 refine vP hS hE (Gives.fld hE rfl fl133_0) rfl fun a hE => ?_
 refine vP hS hE (Gives.fld hE rfl fl44_2) rfl fun a hE => ?_
 refine vP hS hE (Gives.loadB hE 1 rfl rfl rfl ty3) rfl fun a hE => ?_
 refine vP hS hE (Gives.fld hE rfl fl133_1) rfl fun a hE => ?_
 refine vP hS hE (Gives.loadB hE 1 rfl rfl rfl ty3) rfl fun a hE => ?_
 refine WL.litX hE hS hX (e := 3) (es := 1) (vs := [(0, vi x0.Line.Time), (1, vi x0.Line.No), (2, vi x0.stop)]) (cs := [vi x0.Line.Time, vi x0.Line.No, vi x0.stop]) (runs_plain rfl) rfl (by kernel_rfl) rfl ?_; clear hE hS hX a w; intro b53 a w hE hS hX
 replace hS := hS.ptVec (es := 1) (m := 3) rfl (by decide)
 have h55 : Ev 1 (RI .i64) s [vi x0.Line.Time, vi x0.Line.No, vi x0.stop] [x0.Line.Time, x0.Line.No, x0.stop] := (Ev.cons (c1 := [vi x0.Line.Time]) rfl rfl (Ev.cons (c1 := [vi x0.Line.No]) rfl rfl (Ev.cons (c1 := [vi x0.stop]) rfl rfl (Ev.nil))))
 have hF := hS.fixD RI.mono 0 rfl h55 (rfl); clear hS; obtain ⟨s56, hle57, hS, h58⟩ := hF
 refine vP hS hE (Gives.fld hE rfl fl133_0) rfl fun a hE => ?_
 refine vP hS hE (Gives.fld hE rfl fl44_0) rfl fun a hE => ?_
 refine vP hS hE (Gives.loadB hE 0 rfl rfl rfl ty3) rfl fun a hE => ?_
 refine vP hS hE (Gives.fld hE rfl fl133_0) rfl fun a hE => ?_
 refine vP hS hE (Gives.fld hE rfl fl44_2) rfl fun a hE => ?_
 refine vP hS hE (Gives.loadB hE 0 rfl rfl rfl ty3) rfl fun a hE => ?_
 refine vP hS hE (Gives.fld hE rfl fl133_1) rfl fun a hE => ?_
 refine vP hS hE (Gives.loadB hE 0 rfl rfl rfl ty3) rfl fun a hE => ?_
 refine WL.litX hE hS hX (e := 3) (es := 1) (vs := [(0, vi x1.Line.Time), (1, vi x1.Line.No), (2, vi x1.stop)]) (cs := [vi x1.Line.Time, vi x1.Line.No, vi x1.stop]) (runs_plain rfl) rfl (by kernel_rfl) rfl ?_; clear hE hS hX a w; intro b59 a w hE hS hX
 replace hS := hS.ptVec (es := 1) (m := 3) rfl (by decide)
 have h61 : Ev 1 (RI .i64) s56 [vi x1.Line.Time, vi x1.Line.No, vi x1.stop] [x1.Line.Time, x1.Line.No, x1.stop] := (Ev.cons (c1 := [vi x1.Line.Time]) rfl rfl (Ev.cons (c1 := [vi x1.Line.No]) rfl rfl (Ev.cons (c1 := [vi x1.stop]) rfl rfl (Ev.nil))))
 have hF := hS.fixD RI.mono 0 rfl h61 (rfl); clear hS; obtain ⟨s62, hle63, hS, h64⟩ := hF
 replace h58 := Sl.mono RI.mono hle63 h58
 obtain ⟨q65, hq66, hr⟩ := bindS hr
 have hc_ := SlicesCompareLint_x hS rfl h58 h64 hq66
 refine WL.fnq hE (hc_) (runs_plain rfl) bd59 rfl rfl rfl ?_
 clear hE hc_; rintro e w1 ⟨rfl, hw1⟩; rw [hw1]; clear hw1 w1; refine ⟨_, rfl, ?_⟩; clear a; intro a hE
 refine vp hS hE rfl rfl fun a hE => WL.nil ?_
 refine W.ret ?_
 refine finG (fn := Tryz.f68) (rs := [.tmp 4]) (vs := [_]) hE rfl ⟨rfl, trivial⟩ ?_
 obtain rfl := Option.some.inj hr
 replace hS := hS.tail
 replace hS := hS.tail
 exact ⟨rfl, (hS.down (Sg.Le.trans hle57 hle63)), hX⟩
theorem cmpl68 (b : List Int) : ∀ (l : List Int) (k : Nat), k + l.length ≤ b.length → ∃ v, SlicesCompareLint.loop1 b l k = some v
 | [], k, _ => ⟨_, rfl⟩
 | x :: l, k, h => by
  simp only [List.length_cons] at h
  rw [SlicesCompareLint.loop1]
  split
  ·exact ⟨_, rfl⟩
  have hg : gx b ((k : Nat) : Int) = some (b[k]'(by omega)) := by
   unfold gx
   rw [if_pos (by omega)]
   simp
  rw [hg, Option.bind_some]
  split
  ·exact ⟨_, rfl⟩
  exact cmpl68 b l (k + 1) (by omega)
theorem cmps68 (a b : List Int) (h : a.length ≤ b.length) : ∃ v, SlicesCompareLint a b = some v := by
 obtain ⟨v, hv⟩ := cmpl68 b a 0 (by omega)
 rw [SlicesCompareLint, hv, Option.bind_some]
 cases v with
 | ret r => exact ⟨_, rfl⟩
 | next u => simp only; split <;> exact ⟨_, rfl⟩
theorem binds68 {α β : Type} {A : Option α} {B : α → Option β} (h : ∃ v, A = some v) (k : ∀ v, ∃ u, B v = some u) : ∃ u, A.bind B = some u := by
 obtain ⟨v, rfl⟩ := h
 exact k v
theorem tot68 (x y : Fishref2Row) : Fishref2BoardOf_2 x y = some (Fishref2BoardOf_2T x y) := by
 have key : ∃ v, Fishref2BoardOf_2 x y = some v := by
  unfold Fishref2BoardOf_2
  exact binds68 (cmps68 _ _ (by simp)) (fun v => ⟨_, rfl⟩)
 obtain ⟨v, h⟩ := key
 unfold Fishref2BoardOf_2T
 rw [h]
 rfl
theorem sfclo68 (x y : Fishref2Row) (W : World) : Calls Tryz.prog 68 #[.agg (Fishref2Row.cells x).toArray, .agg (Fishref2Row.cells y).toArray] W fun e w' => e = .returned (vi (Fishref2BoardOf_2T x y)) ∧ ∃ q os', w' = Sort.grow (W.drewN q) os' :=
 (Fishref2BoardOf_2_x (St.startX W) (XW.refl W) (tot68 x y)).mono fun _ _ h => ⟨h.1, h.2.2.grow h.2.1⟩
theorem sortC67_68 : SortC Tryz.prog 67 68 7 :=
 ⟨fun α _ enc hk h1 cf hO blk off cap d w hclo hH hb hsz => AnyQ.slices_SortFunc Tryz.laysSF67 7 Tryz.isAgg133 Tryz.sizeOf133 enc hk h1 cf hO 68 #[] blk off cap d w (enters_of Tryz.func68 (by kernel_rfl) rfl) (fun m os dk _ x y => hclo x y _) hH hb hsz,
  fun p cap fv w => AnyF.slices_SortFunc_none Tryz.laysSF67 p cap fv w⟩
theorem itSortF67_68_ok {w : World} {s : Sg} {R : List HP} {a : Option Addr} {c n : Nat} {cs : List Value} {l r : List Fishref2Row} (hS : St w s (vecC 133 7 a c n cs :: R)) (h : Ev 7 RFishref2Row s cs l) (hn : l.length = n) (hr : srtF Fishref2BoardOf_2T l = some r) :
  Calls Tryz.prog 67 [.slice a n c, .func (.func 68) #[] #[]].toArray w (fun e w => ∃ (cs0 : List Value), e = .returned (.tuple #[]) ∧ Ev 7 RFishref2Row s cs0 r ∧ r.length = n ∧ St w s (vecC 133 7 a c n cs0 :: R)) :=
 sortF_ok sortC67_68 (cells := Fishref2Row.cells) (fun _ => rfl) (fun x v hv => by simp [Fishref2Row.cells] at hv; rcases hv with rfl | rfl | rfl | rfl | rfl | rfl | rfl <;> rfl) (fun x y W => sfclo68 x y W) (fun _ _ _ h => h) (fun _ _ => rfl) hS h hn hr
end
section
open Go.Sort
set_option maxHeartbeats 8000000 in
theorem CmpOrint_x  {w : World} {s : Sg} {R : List HP} {x0 : List Int} {a0 : Option Addr} {c0 : Nat} (hS : St w s (R)) {w0 : World} (hw : w = w0) (h0 : Sl 1 (RI .i64) s a0 c0 x0) {r : Int} (hr : CmpOrint x0 = r) :
  Calls Tryz.prog 41 [.slice a0 x0.length c0].toArray w (fun e w => e = .returned (vi r) ∧ w = w0) := by
 refine enter Tryz.func41 rfl rfl rfl fun a hE => ?_
 rw [CmpOrint] at hr
 refine W.seq (W.region (vp hS hE rfl rfl fun a hE => WL.nil ?_))
 refine W.seq (W.region (vp hS hE rfl rfl fun a hE => WL.nil ?_))
 refine W.seq ?_
 refine W.seq (W.region (vp hS hE rfl rfl fun a hE => ?_))
 refine vP hS hE (Gives.len hE rfl sl65) rfl fun a hE => ?_
 refine vp hS hE rfl rfl fun a hE => WL.nil ?_
 obtain ⟨q52, hq51, hr⟩ := bndS hr
 refine W.cut (fun a w => (.next ()) = q52 ∧ Rep a 18 [(3, vi 0)] ∧ St w s (R) ∧ w = w0) ?_ ?_
 ·refine W.block ?_
  refine W.loop (fun m a w => ∃ (rest55 : List Int) (k53 : Nat), rest55.length = m ∧ x0.drop k53 = rest55 ∧ CmpOrint.loop1 rest55 = q52 ∧ Rep a 18 [(3, vi 0), (6, .slice a0 x0.length c0), (7, vi ((x0).length : Int)), (8, vi ((k53 : Nat) : Int))] ∧ St w s (R) ∧ w = w0) (m := x0.length) ⟨x0, 0, rfl, rfl, hq51, hE.pick _ ⟨rfl, rfl, rfl, rfl, trivial⟩, hS, hw⟩ ?_
  clear hE hS hw a w hq51; rintro m59 a w ⟨rest55, k53, rfl, hd56, hq51, hE, hS, hw⟩
  refine W.gen fun K62 hK62 => ?_
  rcases rest55 with _ | ⟨x54, rest55⟩
  ·have hlt57 := drop_nil hd56
   refine W.seq (W.region (vp hS hE rfl rfl fun a hE => WL.nil ?_))
   refine W.seq ?_
   refine W.condF hE rfl (decide_eq_false (by omega)) ?_
   subst hK62
   refine W.exit rfl ?_
   exact ⟨hq51, hE.pick _ ⟨rfl, trivial⟩, hS, hw⟩
  obtain ⟨hlt57, hx58, hd56⟩ := drop_cons hd56
  rw [CmpOrint.loop1] at hq51
  refine W.seq (W.region (vp hS hE rfl rfl fun a hE => WL.nil ?_))
  refine W.seq ?_
  refine W.condT hE rfl (decide_eq_true (by omega)) ?_
  refine W.skip ?_
  refine W.seq ?_
  refine W.block ?_
  refine W.seq (W.region ?_)
  obtain ⟨cs63, hl64, hR65, hat66⟩ := h0.at hx58
  subst hR65
  refine vP hS hE (Gives.idx hE k53 rfl rfl sl65 rfl hlt57 (h0.aok hlt57)) rfl fun a hE => ?_
  refine vP hS hE (Gives.load1 hE rfl (fun w h => hat66 w _ h) ty3) rfl fun a hE => ?_
  refine vp hS hE rfl rfl fun a hE => WL.nil ?_
  refine W.seq (W.region (v2 hS hE rfl rfl rfl rfl fun a hE => ?_))
  refine vp hS hE rfl rfl fun a hE => WL.nil ?_
  refine W.cond hE rfl (fun hc67 => ?_) (fun hc67 => ?_)
  ·replace hq51 := iteT hc67 hq51
   refine W.seq (W.region (v2 hS hE rfl rfl rfl rfl fun a hE => WL.nil ?_))
   refine W.ret ?_
   subst hK62
   rw [← hq51] at hr
   dsimp only at hr
   refine finG (fn := Tryz.f41) (rs := [.tmp 2]) (vs := [_]) hE rfl ⟨rfl, trivial⟩ ?_
   subst hr
   exact ⟨rfl, hw⟩
  replace hq51 := iteF hc67 hq51
  refine W.skip ?_
  refine W.region ?_
  refine vP hS hE (Gives.inc hE rfl (by have := h0.small; omega)) rfl fun a hE => ?_
  refine vp hS hE rfl rfl fun a hE => WL.nil ?_
  subst hK62
  exact ⟨rest55.length, Nat.lt_succ_self _, rest55, k53 + 1, rfl, hd56, hq51, hE.pick _ ⟨rfl, rfl, rfl, rfl, trivial⟩, hS, hw⟩
 clear hE hS hw a w; rintro a w ⟨rfl, hE, hS, hw⟩
 dsimp only at hr
 refine W.seq (W.region (v2 hS hE rfl rfl rfl rfl fun a hE => WL.nil ?_))
 refine W.ret ?_
 refine finG (fn := Tryz.f41) (rs := [.tmp 2]) (vs := [_]) hE rfl ⟨rfl, trivial⟩ ?_
 subst hr
 exact ⟨rfl, hw⟩
set_option maxHeartbeats 8000000 in
theorem GuidecomparePoints_x  {w : World} {s : Sg} {R : List HP} {x0 : GuidePoint} {x1 : GuidePoint} (hS : St w s (R)) {w0 : World} (hX : XW w0 w)  {r : Int} (hr : GuidecomparePoints x0 x1 = r) :
  Calls Tryz.prog 169 [.agg (GuidePoint.cells x0).toArray, .agg (GuidePoint.cells x1).toArray].toArray w (fun e w => e = .returned (vi r) ∧ St w s (R) ∧ XW w0 w) := by
 refine enter Tryz.func169 rfl rfl rfl fun a hE => ?_
 rw [GuidecomparePoints] at hr
 refine W.seq (W.region ?_)
 refine WL.boxX hE hS hX (runs_plain rfl) rfl rfl rfl ?_; clear hE hS hX a w; intro b51 a w hE hS hX
 refine WL.boxX hE hS hX (runs_plain rfl) rfl rfl rfl ?_; clear hE hS hX a w; intro b52 a w hE hS hX
 refine vp hS hE rfl rfl fun a hE => WL.nil ?_
 refine W.seq ?_
 refine W.gen fun K53 hK53 => ?_
 refine W.regionE (dup (fun w => St w s (pc b52 (GuidePoint.cells x1).toArray 216 :: pc b51 (GuidePoint.cells x0).toArray 216 :: R))) (fun b i => cond b ([0, 1, 2, 3, 4, 5, 6, 7, 8, 9, 10, 11, 12, 13, 14, 15, 16, 17].contains i) ([0, 1, 2, 3, 4, 5, 6, 7, 8, 9, 10, 11, 12, 13, 14, 15, 16, 17].contains i)) mixed ?_
 replace hS := hS.drew; replace hX := hX.drew
 refine tP (i := 0) hE rfl (by kernel_rfl) (Gives.fld hE rfl fl216_0) rfl hS hS fun a hE => ?_
 refine tT (i := 1) true rfl hE rfl (by kernel_rfl) (Gives.loadB hE 1 rfl rfl rfl ty3) rfl hS hS fun a hE => ?_
 refine tP (i := 2) hE rfl (by kernel_rfl) (Gives.fld hE rfl fl216_0) rfl hS hS fun a hE => ?_
 refine tT (i := 3) true rfl hE rfl (by kernel_rfl) (Gives.loadB hE 0 rfl rfl rfl ty3) rfl hS hS fun a hE => ?_
 refine tP (i := 5) hE rfl (by kernel_rfl) (Gives.fld hE rfl fl216_1) rfl hS hS fun a hE => ?_
 refine tT (i := 6) true rfl hE rfl (by kernel_rfl) (Gives.loadB hE 1 rfl rfl rfl ty3) rfl hS hS fun a hE => ?_
 refine tP (i := 7) hE rfl (by kernel_rfl) (Gives.fld hE rfl fl216_1) rfl hS hS fun a hE => ?_
 refine tT (i := 8) true rfl hE rfl (by kernel_rfl) (Gives.loadB hE 0 rfl rfl rfl ty3) rfl hS hS fun a hE => ?_
 refine tP (i := 10) hE rfl (by kernel_rfl) (Gives.fld hE rfl fl216_2) rfl hS hS fun a hE => ?_
 refine tT (i := 11) true rfl hE rfl (by kernel_rfl) (Gives.loadB hE 1 rfl rfl rfl ty3) rfl hS hS fun a hE => ?_
 refine tP (i := 12) hE rfl (by kernel_rfl) (Gives.fld hE rfl fl216_2) rfl hS hS fun a hE => ?_
 refine tT (i := 13) true rfl hE rfl (by kernel_rfl) (Gives.loadB hE 0 rfl rfl rfl ty3) rfl hS hS fun a hE => ?_
 refine Rg.one (i := 4) true true rfl (by kernel_rfl) (by kernel_rfl) (by kernel_rfl) ?_
 refine WL.fnq hE (cmpx_42 x0.Dep x1.Dep _) (runs_plain rfl) bd42 rfl rfl rfl ?_
 clear hE; rintro e w1 ⟨rfl, hw1⟩; rw [hw1]; clear hw1 w1; refine ⟨_, rfl, ?_⟩; clear a; intro a hE
 refine WL.nil ?_
 refine ⟨⟨fun _ => hS, fun _ => hS⟩, ?_⟩
 refine Rg.one (i := 9) true true rfl (by kernel_rfl) (by kernel_rfl) (by kernel_rfl) ?_
 refine WL.fnq hE (cmpx_42 x0.Arr x1.Arr _) (runs_plain rfl) bd42 rfl rfl rfl ?_
 clear hE; rintro e w1 ⟨rfl, hw1⟩; rw [hw1]; clear hw1 w1; refine ⟨_, rfl, ?_⟩; clear a; intro a hE
 refine WL.nil ?_
 refine ⟨⟨fun _ => hS, fun _ => hS⟩, ?_⟩
 refine Rg.one (i := 14) true true rfl (by kernel_rfl) (by kernel_rfl) (by kernel_rfl) ?_
 refine WL.fnq hE (cmpx_42 x0.Rides x1.Rides _) (runs_plain rfl) bd42 rfl rfl rfl ?_
 clear hE; rintro e w1 ⟨rfl, hw1⟩; rw [hw1]; clear hw1 w1; refine ⟨_, rfl, ?_⟩; clear a; intro a hE
 refine WL.nil ?_
 refine ⟨⟨fun _ => hS, fun _ => hS⟩, ?_⟩
 refine Rg.one (i := 15) true true rfl (by kernel_rfl) (by kernel_rfl) (by kernel_rfl) ?_
 refine WL.litX hE hS hX (e := 3) (es := 1) (vs := [(0, vi (CmpCompareint x0.Dep x1.Dep)), (1, vi (CmpCompareint x0.Arr x1.Arr)), (2, vi (CmpCompareint x0.Rides x1.Rides))]) (cs := [vi (CmpCompareint x0.Dep x1.Dep), vi (CmpCompareint x0.Arr x1.Arr), vi (CmpCompareint x0.Rides x1.Rides)]) (runs_plain rfl) rfl (by kernel_rfl) rfl ?_; clear hE hS hX a w; intro b54 a w hE hS hX
 replace hS := hS.ptVec (es := 1) (m := 3) rfl (by decide)
 have h56 : Ev 1 (RI .i64) s [vi (CmpCompareint x0.Dep x1.Dep), vi (CmpCompareint x0.Arr x1.Arr), vi (CmpCompareint x0.Rides x1.Rides)] [(CmpCompareint x0.Dep x1.Dep), (CmpCompareint x0.Arr x1.Arr), (CmpCompareint x0.Rides x1.Rides)] := (Ev.cons (c1 := [vi (CmpCompareint x0.Dep x1.Dep)]) rfl rfl (Ev.cons (c1 := [vi (CmpCompareint x0.Arr x1.Arr)]) rfl rfl (Ev.cons (c1 := [vi (CmpCompareint x0.Rides x1.Rides)]) rfl rfl (Ev.nil))))
 have hF := hS.fixD RI.mono 0 rfl h56 (rfl); clear hS; obtain ⟨s57, hle58, hS, h59⟩ := hF
 refine WL.nil ?_
 refine ⟨⟨fun _ => (St.down hle58 hS), fun _ => (St.down hle58 hS)⟩, ?_⟩
 refine Rg.one (i := 16) true true rfl (by kernel_rfl) (by kernel_rfl) (by kernel_rfl) ?_
 refine WL.fnq hE (CmpOrint_x hS rfl h59 rfl (r := CmpOrint [(CmpCompareint x0.Dep x1.Dep), (CmpCompareint x0.Arr x1.Arr), (CmpCompareint x0.Rides x1.Rides)])) (runs_plain rfl) bd41 rfl rfl rfl ?_
 clear hE; rintro e w1 ⟨rfl, hw1⟩; rw [hw1]; clear hw1 w1; refine ⟨_, rfl, ?_⟩; clear a; intro a hE
 refine WL.nil ?_
 refine ⟨⟨fun _ => (St.down hle58 hS), fun _ => (St.down hle58 hS)⟩, ?_⟩
 refine tP (i := 17) hE rfl (by kernel_rfl) (Gives.p hE rfl) rfl (St.down hle58 hS) (St.down hle58 hS) fun a hE => ?_
 refine Rg.done (by kernel_rfl) ?_
 subst hK53
 refine W.ret ?_
 refine finG (fn := Tryz.f169) (rs := [.tmp 4]) (vs := [_]) hE rfl ⟨rfl, trivial⟩ ?_
 subst hr
 replace hS := hS.tail
 replace hS := hS.tail
 exact ⟨rfl, (hS.down hle58), hX⟩
theorem sfclo169 (x y : GuidePoint) (W : World) : Calls Tryz.prog 169 #[.agg (GuidePoint.cells x).toArray, .agg (GuidePoint.cells y).toArray] W fun e w' => e = .returned (vi (GuidecomparePoints x y)) ∧ ∃ q os', w' = Sort.grow (W.drewN q) os' :=
 (GuidecomparePoints_x (St.startX W) (XW.refl W) rfl).mono fun _ _ h => ⟨h.1, h.2.2.grow h.2.1⟩
theorem sortC168_169 : SortC Tryz.prog 168 169 3 :=
 ⟨fun α _ enc hk h1 cf hO blk off cap d w hclo hH hb hsz => AnyQ.slices_SortFunc Tryz.laysSF168 3 Tryz.isAgg216 Tryz.sizeOf216 enc hk h1 cf hO 169 #[] blk off cap d w (enters_of Tryz.func169 (by kernel_rfl) rfl) (fun m os dk _ x y => hclo x y _) hH hb hsz,
  fun p cap fv w => AnyF.slices_SortFunc_none Tryz.laysSF168 p cap fv w⟩
theorem itSortF168_169_ok {w : World} {s : Sg} {R : List HP} {a : Option Addr} {c n : Nat} {cs : List Value} {l r : List GuidePoint} (hS : St w s (vecC 216 3 a c n cs :: R)) (h : Ev 3 RGuidePoint s cs l) (hn : l.length = n) (hr : srtF GuidecomparePoints l = some r) :
  Calls Tryz.prog 168 [.slice a n c, .func (.func 169) #[] #[]].toArray w (fun e w => ∃ (cs0 : List Value), e = .returned (.tuple #[]) ∧ Ev 3 RGuidePoint s cs0 r ∧ r.length = n ∧ St w s (vecC 216 3 a c n cs0 :: R)) :=
 sortF_ok sortC168_169 (cells := GuidePoint.cells) (fun _ => rfl) (fun x v hv => by simp [GuidePoint.cells] at hv; rcases hv with rfl | rfl | rfl <;> rfl) (fun x y W => sfclo169 x y W) (fun _ _ _ h => h) (fun _ _ => rfl) hS h hn hr
end
theorem itoa_ok {w : World} {s : Sg} {R : List HP} {x : Int} {r : ByteArray} (hS : St w s R) (hTab : TabS Tryz.prog s) (hr : itoa x = some r) : Calls Tryz.prog 72 [vi x].toArray w (fun e w => e = .returned (.string r) ∧ St w s R) := by
 obtain ⟨⟨h0, h1⟩, rfl⟩ := itoa_some hr
 refine (Tryz.strconv_Itoa x h0 h1 w (hTab w R hS)).mono ?_
 rintro e w' ⟨rfl, k, os, rfl⟩
 exact ⟨rfl, (hS.drewN k).growBy os⟩
set_option maxHeartbeats 8000000 in
theorem Planform_ok  {w : World} {s : Sg} {R : List HP} {x0 : ApiDay} {a0_0 : Option Addr} {c0_0 : Nat} {a0_1 : Option Addr} {c0_1 : Nat} (hS : St w s (R)) (h0_0 : Sl 4 RApiTrain s a0_0 c0_0 x0.Trains) (h0_1 : Sl 1 (RL 1 (RI .i64)) s a0_1 c0_1 x0.Turns) {r : Int} (hr : Planform x0 = r) :
  Calls Tryz.prog 142 [.agg (List.toArray [.slice a0_0 x0.Trains.length c0_0, .slice a0_1 x0.Turns.length c0_1])].toArray w (fun e w => e = .returned (vi r) ∧ St w s (R)) := by
 refine enter Tryz.func142 rfl rfl rfl fun a hE => ?_
 rw [Planform] at hr
 refine W.seq (W.region ?_)
 refine WL.box hE hS (runs_plain rfl) rfl rfl rfl ?_; clear hE hS a w; intro b51 a w hE hS
 refine vp hS hE rfl rfl fun a hE => WL.nil ?_
 refine W.seq ?_
 refine W.seq ?_
 obtain ⟨q53, hq52, hr⟩ := bndS hr
 refine W.cut (fun a w => ∃ (q56 : Bool), q56 = q53 ∧ Rep a 85 [(1, pp b51), (20, .bool q56)] ∧ St w s (pc b51 #[.slice a0_0 x0.Trains.length c0_0, .slice a0_1 x0.Turns.length c0_1] 25 :: R)) ?_ ?_
 ·refine W.gen fun K57 hK57 => ?_
  refine W.region ?_
  refine vP hS hE (Gives.fld hE rfl fl25_0) rfl fun a hE => ?_
  refine vP hS hE (Gives.loadB hE 0 rfl rfl rfl ty22) rfl fun a hE => ?_
  refine vP hS hE (Gives.len hE rfl sl22) rfl fun a hE => ?_
  refine v2 hS hE rfl rfl rfl rfl fun a hE => ?_
  rcases Bool.eq_false_or_eq_true (decide (((x0.Trains).length : Int) > 12)) with hg58 | hg58
  ·replace hq52 := iteT hg58 hq52
   refine nO hE rfl rfl rfl (by rw [hg58]; decide) rfl fun a hE => ?_
   refine nO hE rfl rfl rfl (by rw [hg58]; decide) rfl fun a hE => ?_
   refine nO hE rfl rfl rfl (by rw [hg58]; decide) rfl fun a hE => ?_
   refine nO hE rfl rfl rfl (by rw [hg58]; decide) rfl fun a hE => ?_
   refine vP hS hE (Gives.pickT hE rfl hg58 rfl) rfl fun a hE => WL.nil ?_
   subst hK57
   exact ⟨true, hq52, hE.pick _ ⟨rfl, rfl, trivial⟩, hS⟩
  replace hq52 := iteF hg58 hq52
  refine WL.vS hS hE (runs_if hE rfl rfl rfl hg58) (Gives.fld hE rfl fl25_1) rfl fun a hE => ?_
  refine WL.vS hS hE (runs_if hE rfl rfl rfl hg58) (Gives.loadB hE 0 rfl rfl rfl ty23) rfl fun a hE => ?_
  refine WL.vS hS hE (runs_if hE rfl rfl rfl hg58) (Gives.len hE rfl sl23) rfl fun a hE => ?_
  refine WL.vS hS hE (runs_if hE rfl rfl rfl hg58) (Gives.p hE rfl) rfl fun a hE => ?_
  refine vP hS hE (Gives.pickF hE rfl hg58 rfl) rfl fun a hE => WL.nil ?_
  subst hK57
  exact ⟨decide (((x0.Turns).length : Int) > 8), hq52, hE.pick _ ⟨rfl, rfl, trivial⟩, hS⟩
 clear hE hS a w; rintro a w ⟨q56, rfl, hE, hS⟩
 refine W.cond hE rfl (fun hc59 => ?_) (fun hc59 => ?_)
 ·replace hr := iteT hc59 hr
  refine W.seq (W.region (vp hS hE rfl rfl fun a hE => WL.nil ?_))
  refine W.ret ?_
  refine finG (fn := Tryz.f142) (rs := [.tmp 2]) (vs := [_]) hE rfl ⟨rfl, trivial⟩ ?_
  subst hr
  replace hS := hS.tail
  exact ⟨rfl, hS⟩
 replace hr := iteF hc59 hr
 refine W.skip ?_
 refine W.seq ?_
 refine W.seq (W.region (vP hS hE (Gives.fld hE rfl fl25_0) rfl fun a hE => ?_))
 refine vP hS hE (Gives.loadB hE 0 rfl rfl rfl ty22) rfl fun a hE => ?_
 refine vP hS hE (Gives.len hE rfl sl22) rfl fun a hE => ?_
 refine vp hS hE rfl rfl fun a hE => WL.nil ?_
 obtain ⟨q61, hq60, hr⟩ := bndS hr
 refine W.cut (fun a w => (.next ()) = q61 ∧ Rep a 85 [(1, pp b51)] ∧ St w s (pc b51 #[.slice a0_0 x0.Trains.length c0_0, .slice a0_1 x0.Turns.length c0_1] 25 :: R)) ?_ ?_
 ·refine W.block ?_
  refine W.loop (fun m a w => ∃ (rest64 : List ApiTrain) (k62 : Nat), rest64.length = m ∧ x0.Trains.drop k62 = rest64 ∧ Planform.loop1 rest64 = q61 ∧ Rep a 85 [(1, pp b51), (22, .slice a0_0 x0.Trains.length c0_0), (23, vi ((x0.Trains).length : Int)), (24, vi ((k62 : Nat) : Int))] ∧ St w s (pc b51 #[.slice a0_0 x0.Trains.length c0_0, .slice a0_1 x0.Turns.length c0_1] 25 :: R)) (m := x0.Trains.length) ⟨x0.Trains, 0, rfl, rfl, hq60, hE.pick _ ⟨rfl, rfl, rfl, rfl, trivial⟩, hS⟩ ?_
  clear hE hS a w hq60; rintro m68 a w ⟨rest64, k62, rfl, hd65, hq60, hE, hS⟩
  refine W.gen fun K71 hK71 => ?_
  rcases rest64 with _ | ⟨x63, rest64⟩
  ·have hlt66 := drop_nil hd65
   refine W.seq (W.region (vp hS hE rfl rfl fun a hE => WL.nil ?_))
   refine W.seq ?_
   refine W.condF hE rfl (decide_eq_false (by omega)) ?_
   subst hK71
   refine W.exit rfl ?_
   exact ⟨hq60, hE.pick _ ⟨rfl, trivial⟩, hS⟩
  obtain ⟨hlt66, hx67, hd65⟩ := drop_cons hd65
  rw [Planform.loop1] at hq60
  refine W.seq (W.region (vp hS hE rfl rfl fun a hE => WL.nil ?_))
  refine W.seq ?_
  refine W.condT hE rfl (decide_eq_true (by omega)) ?_
  refine W.skip ?_
  refine W.seq ?_
  refine W.block ?_
  refine W.seq (W.region ?_)
  obtain ⟨cs72, hl73, hR74, hat75⟩ := h0_0.at hx67
  obtain ⟨a76, c77, a79, c80, rfl, h78, h81⟩ := hR74
  refine vP hS hE (Gives.idx hE k62 rfl rfl sl22 rfl hlt66 (h0_0.aok hlt66)) rfl fun a hE => ?_
  refine vP hS hE (Gives.loadA hE rfl (fun w h => hat75 w _ h) ty111) rfl fun a hE => ?_
  refine WL.alloc hE hS (runs_plain rfl) zr111 rfl ?_; clear hE hS a w; intro b82 a w hE hS
  refine WL.storeI hE hS 0 rfl [vi x63.No, vi x63.Stock, .slice a76 x63.Stops.length c77, .slice a79 x63.Legs.length c80] (runs_plain rfl) rfl rfl rfl ty111 rfl rfl rfl rfl ?_; clear hE hS a w; intro a w hE hS
  refine WL.nil ?_
  refine W.seq ?_
  refine W.seq ?_
  obtain ⟨q84, hq83, hq60⟩ := bndS hq60
  refine W.cut (fun a w => ∃ (q87 : Bool), q87 = q84 ∧ Rep a 85 [(1, pp b51), (4, pp b82), (22, .slice a0_0 x0.Trains.length c0_0), (23, vi ((x0.Trains).length : Int)), (24, vi ((k62 : Nat) : Int)), (41, .bool q87)] ∧ St w s (pc b82 #[vi x63.No, vi x63.Stock, .slice a76 x63.Stops.length c77, .slice a79 x63.Legs.length c80] 111 :: pc b51 #[.slice a0_0 x0.Trains.length c0_0, .slice a0_1 x0.Turns.length c0_1] 25 :: R)) ?_ ?_
  ·refine W.gen fun K88 hK88 => ?_
   refine W.region ?_
   refine vP hS hE (Gives.fld hE rfl fl111_2) rfl fun a hE => ?_
   refine vP hS hE (Gives.loadB hE 0 rfl rfl rfl ty109) rfl fun a hE => ?_
   refine vP hS hE (Gives.len hE rfl sl109) rfl fun a hE => ?_
   refine v2 hS hE rfl rfl rfl rfl fun a hE => ?_
   rcases Bool.eq_false_or_eq_true (((x63.Stops).length : Int) == 0) with hg89 | hg89
   ·replace hq83 := iteT hg89 hq83
    refine nO hE rfl rfl rfl (by rw [hg89]; decide) rfl fun a hE => ?_
    refine nO hE rfl rfl rfl (by rw [hg89]; decide) rfl fun a hE => ?_
    refine nO hE rfl rfl rfl (by rw [hg89]; decide) rfl fun a hE => ?_
    refine nO hE rfl rfl rfl (by rw [hg89]; decide) rfl fun a hE => ?_
    refine nO hE rfl rfl rfl (by rw [hg89]; decide) rfl fun a hE => ?_
    refine nO hE rfl rfl rfl (by rw [hg89]; decide) rfl fun a hE => ?_
    refine nO hE rfl rfl rfl (by rw [hg89]; decide) rfl fun a hE => ?_
    refine nO hE rfl rfl rfl (by rw [hg89]; decide) rfl fun a hE => ?_
    refine vP hS hE (Gives.pickT hE rfl hg89 rfl) rfl fun a hE => WL.nil ?_
    subst hK88
    exact ⟨true, hq83, hE.pick _ ⟨rfl, rfl, rfl, rfl, rfl, rfl, trivial⟩, hS⟩
   replace hq83 := iteF hg89 hq83
   refine WL.vS hS hE (runs_if hE rfl rfl rfl hg89) (Gives.fld hE rfl fl111_3) rfl fun a hE => ?_
   refine WL.vS hS hE (runs_if hE rfl rfl rfl hg89) (Gives.loadB hE 0 rfl rfl rfl ty23) rfl fun a hE => ?_
   refine WL.vS hS hE (runs_if hE rfl rfl rfl hg89) (Gives.len hE rfl sl23) rfl fun a hE => ?_
   refine WL.vS hS hE (runs_if hE rfl rfl rfl hg89) (Gives.fld hE rfl fl111_2) rfl fun a hE => ?_
   refine WL.vS hS hE (runs_if hE rfl rfl rfl hg89) (Gives.loadB hE 0 rfl rfl rfl ty109) rfl fun a hE => ?_
   refine WL.vS hS hE (runs_if hE rfl rfl rfl hg89) (Gives.len hE rfl sl109) rfl fun a hE => ?_
   refine WL.vS hS hE (runs_if hE rfl rfl rfl hg89) (Gives.p hE rfl) rfl fun a hE => ?_
   refine WL.vS hS hE (runs_if hE rfl rfl rfl hg89) (Gives.p hE rfl) rfl fun a hE => ?_
   refine vP hS hE (Gives.pickF hE rfl hg89 rfl) rfl fun a hE => WL.nil ?_
   subst hK88
   exact ⟨(((x63.Legs).length : Int) != (w64 (((x63.Stops).length : Int) - 1))), hq83, hE.pick _ ⟨rfl, rfl, rfl, rfl, rfl, rfl, trivial⟩, hS⟩
  clear hE hS a w; rintro a w ⟨q87, rfl, hE, hS⟩
  refine W.cond hE rfl (fun hc90 => ?_) (fun hc90 => ?_)
  ·replace hq60 := iteT hc90 hq60
   refine W.seq (W.region (vp hS hE rfl rfl fun a hE => WL.nil ?_))
   refine W.ret ?_
   subst hK71
   rw [← hq60] at hr
   dsimp only at hr
   refine finG (fn := Tryz.f142) (rs := [.tmp 2]) (vs := [_]) hE rfl ⟨rfl, trivial⟩ ?_
   subst hr
   replace hS := hS.tail
   replace hS := hS.tail
   exact ⟨rfl, hS⟩
  replace hq60 := iteF hc90 hq60
  refine W.skip ?_
  refine W.seq ?_
  refine W.seq (W.region (vP hS hE (Gives.fld hE rfl fl111_3) rfl fun a hE => ?_))
  refine vP hS hE (Gives.loadB hE 0 rfl rfl rfl ty23) rfl fun a hE => ?_
  refine vP hS hE (Gives.len hE rfl sl23) rfl fun a hE => ?_
  refine vp hS hE rfl rfl fun a hE => WL.nil ?_
  obtain ⟨q92, hq91, hq60⟩ := bndS hq60
  refine W.cut (fun a w => (.next ()) = q92 ∧ Rep a 85 [(1, pp b51), (4, pp b82), (22, .slice a0_0 x0.Trains.length c0_0), (23, vi ((x0.Trains).length : Int)), (24, vi ((k62 : Nat) : Int))] ∧ St w s (pc b82 #[vi x63.No, vi x63.Stock, .slice a76 x63.Stops.length c77, .slice a79 x63.Legs.length c80] 111 :: pc b51 #[.slice a0_0 x0.Trains.length c0_0, .slice a0_1 x0.Turns.length c0_1] 25 :: R)) ?_ ?_
  ·refine W.block ?_
   refine W.loop (fun m a w => ∃ (rest95 : List (List Int)) (k93 : Nat), rest95.length = m ∧ x63.Legs.drop k93 = rest95 ∧ Planform.loop2 rest95 = q92 ∧ Rep a 85 [(1, pp b51), (4, pp b82), (22, .slice a0_0 x0.Trains.length c0_0), (23, vi ((x0.Trains).length : Int)), (24, vi ((k62 : Nat) : Int)), (43, .slice a79 x63.Legs.length c80), (44, vi ((x63.Legs).length : Int)), (45, vi ((k93 : Nat) : Int))] ∧ St w s (pc b82 #[vi x63.No, vi x63.Stock, .slice a76 x63.Stops.length c77, .slice a79 x63.Legs.length c80] 111 :: pc b51 #[.slice a0_0 x0.Trains.length c0_0, .slice a0_1 x0.Turns.length c0_1] 25 :: R)) (m := x63.Legs.length) ⟨x63.Legs, 0, rfl, rfl, hq91, hE.pick _ ⟨rfl, rfl, rfl, rfl, rfl, rfl, rfl, rfl, trivial⟩, hS⟩ ?_
   clear hE hS a w hq91; rintro m99 a w ⟨rest95, k93, rfl, hd96, hq91, hE, hS⟩
   refine W.gen fun K102 hK102 => ?_
   rcases rest95 with _ | ⟨x94, rest95⟩
   ·have hlt97 := drop_nil hd96
    refine W.seq (W.region (vp hS hE rfl rfl fun a hE => WL.nil ?_))
    refine W.seq ?_
    refine W.condF hE rfl (decide_eq_false (by omega)) ?_
    subst hK102
    refine W.exit rfl ?_
    exact ⟨hq91, hE.pick _ ⟨rfl, rfl, rfl, rfl, rfl, trivial⟩, hS⟩
   obtain ⟨hlt97, hx98, hd96⟩ := drop_cons hd96
   rw [Planform.loop2] at hq91
   refine W.seq (W.region (vp hS hE rfl rfl fun a hE => WL.nil ?_))
   refine W.seq ?_
   refine W.condT hE rfl (decide_eq_true (by omega)) ?_
   refine W.skip ?_
   refine W.seq ?_
   refine W.block ?_
   refine W.seq (W.region ?_)
   obtain ⟨cs103, hl104, hR105, hat106⟩ := h81.at hx98
   obtain ⟨a107, c108, rfl, h109⟩ := hR105
   refine vP hS hE (Gives.idx hE k93 rfl rfl sl23 rfl hlt97 (h81.aok hlt97)) rfl fun a hE => ?_
   refine vP hS hE (Gives.load1 hE rfl (fun w h => hat106 w _ h) ty65) rfl fun a hE => ?_
   refine vp hS hE rfl rfl fun a hE => WL.nil ?_
   refine W.seq (W.region (vp hS hE rfl rfl fun a hE => ?_))
   refine vP hS hE (Gives.len hE rfl sl65) rfl fun a hE => ?_
   refine vp hS hE rfl rfl fun a hE => WL.nil ?_
   refine W.cond hE rfl (fun hc110 => ?_) (fun hc110 => ?_)
   ·replace hq91 := iteT hc110 hq91
    refine W.seq (W.region (vp hS hE rfl rfl fun a hE => WL.nil ?_))
    refine W.ret ?_
    subst hK102
    subst hK71
    rw [← hq91] at hq60
    dsimp only at hq60
    rw [← hq60] at hr
    dsimp only at hr
    refine finG (fn := Tryz.f142) (rs := [.tmp 2]) (vs := [_]) hE rfl ⟨rfl, trivial⟩ ?_
    subst hr
    replace hS := hS.tail
    replace hS := hS.tail
    exact ⟨rfl, hS⟩
   replace hq91 := iteF hc110 hq91
   refine W.skip ?_
   refine W.region ?_
   refine vP hS hE (Gives.inc hE rfl (by have := h81.small; omega)) rfl fun a hE => ?_
   refine vp hS hE rfl rfl fun a hE => WL.nil ?_
   subst hK102
   exact ⟨rest95.length, Nat.lt_succ_self _, rest95, k93 + 1, rfl, hd96, hq91, hE.pick _ ⟨rfl, rfl, rfl, rfl, rfl, rfl, rfl, rfl, trivial⟩, hS⟩
  clear hE hS a w; rintro a w ⟨rfl, hE, hS⟩
  dsimp only at hq60
  refine W.seq ?_
  refine W.seq (W.region (vP hS hE (Gives.fld hE rfl fl111_2) rfl fun a hE => ?_))
  refine vP hS hE (Gives.loadB hE 0 rfl rfl rfl ty109) rfl fun a hE => ?_
  refine vP hS hE (Gives.len hE rfl sl109) rfl fun a hE => ?_
  refine vp hS hE rfl rfl fun a hE => WL.nil ?_
  refine W.cond hE rfl (fun hc111 => ?_) (fun hc111 => ?_)
  ·replace hq60 := iteT hc111 hq60
   refine W.seq (W.region (vp hS hE rfl rfl fun a hE => WL.nil ?_))
   refine W.ret ?_
   subst hK71
   rw [← hq60] at hr
   dsimp only at hr
   refine finG (fn := Tryz.f142) (rs := [.tmp 2]) (vs := [_]) hE rfl ⟨rfl, trivial⟩ ?_
   subst hr
   replace hS := hS.tail
   replace hS := hS.tail
   exact ⟨rfl, hS⟩
  replace hq60 := iteF hc111 hq60
  refine W.skip ?_
  refine W.seq (W.region (vP hS hE (Gives.fld hE rfl fl111_3) rfl fun a hE => ?_))
  refine vP hS hE (Gives.loadB hE 0 rfl rfl rfl ty23) rfl fun a hE => ?_
  refine vP hS hE (Gives.len hE rfl sl23) rfl fun a hE => ?_
  refine vp hS hE rfl rfl fun a hE => WL.nil ?_
  obtain ⟨q113, hq112, hq60⟩ := bndS hq60
  refine W.cut (fun a w => (.next ()) = q113 ∧ Rep a 85 [(1, pp b51), (22, .slice a0_0 x0.Trains.length c0_0), (23, vi ((x0.Trains).length : Int)), (24, vi ((k62 : Nat) : Int))] ∧ St w s (pc b82 #[vi x63.No, vi x63.Stock, .slice a76 x63.Stops.length c77, .slice a79 x63.Legs.length c80] 111 :: pc b51 #[.slice a0_0 x0.Trains.length c0_0, .slice a0_1 x0.Turns.length c0_1] 25 :: R)) ?_ ?_
  ·refine W.block ?_
   refine W.loop (fun m a w => ∃ (rest116 : List (List Int)) (k114 : Nat), rest116.length = m ∧ x63.Legs.drop k114 = rest116 ∧ Planform.loop3 rest116 = q113 ∧ Rep a 85 [(1, pp b51), (22, .slice a0_0 x0.Trains.length c0_0), (23, vi ((x0.Trains).length : Int)), (24, vi ((k62 : Nat) : Int)), (58, .slice a79 x63.Legs.length c80), (59, vi ((x63.Legs).length : Int)), (60, vi ((k114 : Nat) : Int))] ∧ St w s (pc b82 #[vi x63.No, vi x63.Stock, .slice a76 x63.Stops.length c77, .slice a79 x63.Legs.length c80] 111 :: pc b51 #[.slice a0_0 x0.Trains.length c0_0, .slice a0_1 x0.Turns.length c0_1] 25 :: R)) (m := x63.Legs.length) ⟨x63.Legs, 0, rfl, rfl, hq112, hE.pick _ ⟨rfl, rfl, rfl, rfl, rfl, rfl, rfl, trivial⟩, hS⟩ ?_
   clear hE hS a w hq112; rintro m120 a w ⟨rest116, k114, rfl, hd117, hq112, hE, hS⟩
   refine W.gen fun K123 hK123 => ?_
   rcases rest116 with _ | ⟨x115, rest116⟩
   ·have hlt118 := drop_nil hd117
    refine W.seq (W.region (vp hS hE rfl rfl fun a hE => WL.nil ?_))
    refine W.seq ?_
    refine W.condF hE rfl (decide_eq_false (by omega)) ?_
    subst hK123
    refine W.exit rfl ?_
    exact ⟨hq112, hE.pick _ ⟨rfl, rfl, rfl, rfl, trivial⟩, hS⟩
   obtain ⟨hlt118, hx119, hd117⟩ := drop_cons hd117
   rw [Planform.loop3] at hq112
   refine W.seq (W.region (vp hS hE rfl rfl fun a hE => WL.nil ?_))
   refine W.seq ?_
   refine W.condT hE rfl (decide_eq_true (by omega)) ?_
   refine W.skip ?_
   refine W.seq ?_
   refine W.block ?_
   refine W.seq (W.region ?_)
   obtain ⟨cs124, hl125, hR126, hat127⟩ := h81.at hx119
   obtain ⟨a128, c129, rfl, h130⟩ := hR126
   refine vP hS hE (Gives.idx hE k114 rfl rfl sl23 rfl hlt118 (h81.aok hlt118)) rfl fun a hE => ?_
   refine vP hS hE (Gives.load1 hE rfl (fun w h => hat127 w _ h) ty65) rfl fun a hE => ?_
   refine vp hS hE rfl rfl fun a hE => WL.nil ?_
   refine W.seq (W.region (vp hS hE rfl rfl fun a hE => ?_))
   refine vP hS hE (Gives.len hE rfl sl65) rfl fun a hE => ?_
   refine vp hS hE rfl rfl fun a hE => WL.nil ?_
   refine W.cond hE rfl (fun hc131 => ?_) (fun hc131 => ?_)
   ·replace hq112 := iteT hc131 hq112
    refine W.seq (W.region (vp hS hE rfl rfl fun a hE => WL.nil ?_))
    refine W.ret ?_
    subst hK123
    subst hK71
    rw [← hq112] at hq60
    dsimp only at hq60
    rw [← hq60] at hr
    dsimp only at hr
    refine finG (fn := Tryz.f142) (rs := [.tmp 2]) (vs := [_]) hE rfl ⟨rfl, trivial⟩ ?_
    subst hr
    replace hS := hS.tail
    replace hS := hS.tail
    exact ⟨rfl, hS⟩
   replace hq112 := iteF hc131 hq112
   refine W.skip ?_
   refine W.region ?_
   refine vP hS hE (Gives.inc hE rfl (by have := h81.small; omega)) rfl fun a hE => ?_
   refine vp hS hE rfl rfl fun a hE => WL.nil ?_
   subst hK123
   exact ⟨rest116.length, Nat.lt_succ_self _, rest116, k114 + 1, rfl, hd117, hq112, hE.pick _ ⟨rfl, rfl, rfl, rfl, rfl, rfl, rfl, trivial⟩, hS⟩
  clear hE hS a w; rintro a w ⟨rfl, hE, hS⟩
  dsimp only at hq60
  refine W.region ?_
  refine vP hS hE (Gives.inc hE rfl (by have := h0_0.small; omega)) rfl fun a hE => ?_
  refine vp hS hE rfl rfl fun a hE => WL.nil ?_
  replace hS := hS.tail
  subst hK71
  exact ⟨rest64.length, Nat.lt_succ_self _, rest64, k62 + 1, rfl, hd65, hq60, hE.pick _ ⟨rfl, rfl, rfl, rfl, trivial⟩, hS⟩
 clear hE hS a w; rintro a w ⟨rfl, hE, hS⟩
 dsimp only at hr
 refine W.seq ?_
 refine W.seq (W.region (vP hS hE (Gives.fld hE rfl fl25_1) rfl fun a hE => ?_))
 refine vP hS hE (Gives.loadB hE 0 rfl rfl rfl ty23) rfl fun a hE => ?_
 refine vP hS hE (Gives.len hE rfl sl23) rfl fun a hE => ?_
 refine vp hS hE rfl rfl fun a hE => WL.nil ?_
 obtain ⟨q133, hq132, hr⟩ := bndS hr
 refine W.cut (fun a w => (.next ()) = q133 ∧ Rep a 85 [] ∧ St w s (pc b51 #[.slice a0_0 x0.Trains.length c0_0, .slice a0_1 x0.Turns.length c0_1] 25 :: R)) ?_ ?_
 ·refine W.block ?_
  refine W.loop (fun m a w => ∃ (rest136 : List (List Int)) (k134 : Nat), rest136.length = m ∧ x0.Turns.drop k134 = rest136 ∧ Planform.loop4 rest136 = q133 ∧ Rep a 85 [(70, .slice a0_1 x0.Turns.length c0_1), (71, vi ((x0.Turns).length : Int)), (72, vi ((k134 : Nat) : Int))] ∧ St w s (pc b51 #[.slice a0_0 x0.Trains.length c0_0, .slice a0_1 x0.Turns.length c0_1] 25 :: R)) (m := x0.Turns.length) ⟨x0.Turns, 0, rfl, rfl, hq132, hE.pick _ ⟨rfl, rfl, rfl, trivial⟩, hS⟩ ?_
  clear hE hS a w hq132; rintro m140 a w ⟨rest136, k134, rfl, hd137, hq132, hE, hS⟩
  refine W.gen fun K143 hK143 => ?_
  rcases rest136 with _ | ⟨x135, rest136⟩
  ·have hlt138 := drop_nil hd137
   refine W.seq (W.region (vp hS hE rfl rfl fun a hE => WL.nil ?_))
   refine W.seq ?_
   refine W.condF hE rfl (decide_eq_false (by omega)) ?_
   subst hK143
   refine W.exit rfl ?_
   exact ⟨hq132, hE.pick _ trivial, hS⟩
  obtain ⟨hlt138, hx139, hd137⟩ := drop_cons hd137
  rw [Planform.loop4] at hq132
  refine W.seq (W.region (vp hS hE rfl rfl fun a hE => WL.nil ?_))
  refine W.seq ?_
  refine W.condT hE rfl (decide_eq_true (by omega)) ?_
  refine W.skip ?_
  refine W.seq ?_
  refine W.block ?_
  refine W.seq (W.region ?_)
  obtain ⟨cs144, hl145, hR146, hat147⟩ := h0_1.at hx139
  obtain ⟨a148, c149, rfl, h150⟩ := hR146
  refine vP hS hE (Gives.idx hE k134 rfl rfl sl23 rfl hlt138 (h0_1.aok hlt138)) rfl fun a hE => ?_
  refine vP hS hE (Gives.load1 hE rfl (fun w h => hat147 w _ h) ty65) rfl fun a hE => ?_
  refine vp hS hE rfl rfl fun a hE => WL.nil ?_
  refine W.block ?_
  refine W.seq (W.region (vp hS hE rfl rfl fun a hE => ?_))
  refine vP hS hE (Gives.len hE rfl sl65) rfl fun a hE => ?_
  refine v2 hS hE rfl rfl rfl rfl fun a hE => WL.nil ?_
  refine W.cond hE rfl (fun hc151 => ?_) (fun hc151 => ?_)
  ·replace hq132 := iteT hc151 hq132
   refine W.seq (W.region (vp hS hE rfl rfl fun a hE => WL.nil ?_))
   refine W.ret ?_
   subst hK143
   rw [← hq132] at hr
   dsimp only at hr
   refine finG (fn := Tryz.f142) (rs := [.tmp 2]) (vs := [_]) hE rfl ⟨rfl, trivial⟩ ?_
   subst hr
   replace hS := hS.tail
   exact ⟨rfl, hS⟩
  replace hq132 := iteF hc151 hq132
  refine W.seq (W.region (vp hS hE rfl rfl fun a hE => ?_))
  refine vP hS hE (Gives.len hE rfl sl65) rfl fun a hE => ?_
  refine v2 hS hE rfl rfl rfl rfl fun a hE => WL.nil ?_
  refine W.cond hE rfl (fun hc152 => ?_) (fun hc152 => ?_)
  ·replace hq132 := iteT hc152 hq132
   refine W.seq (W.region (vp hS hE rfl rfl fun a hE => WL.nil ?_))
   refine W.ret ?_
   subst hK143
   rw [← hq132] at hr
   dsimp only at hr
   refine finG (fn := Tryz.f142) (rs := [.tmp 2]) (vs := [_]) hE rfl ⟨rfl, trivial⟩ ?_
   subst hr
   replace hS := hS.tail
   exact ⟨rfl, hS⟩
  replace hq132 := iteF hc152 hq132
  refine W.skip ?_
  refine W.region ?_
  refine vP hS hE (Gives.inc hE rfl (by have := h0_1.small; omega)) rfl fun a hE => ?_
  refine vp hS hE rfl rfl fun a hE => WL.nil ?_
  subst hK143
  exact ⟨rest136.length, Nat.lt_succ_self _, rest136, k134 + 1, rfl, hd137, hq132, hE.pick _ ⟨rfl, rfl, rfl, trivial⟩, hS⟩
 clear hE hS a w; rintro a w ⟨rfl, hE, hS⟩
 dsimp only at hr
 refine W.seq (W.region (vp hS hE rfl rfl fun a hE => WL.nil ?_))
 refine W.ret ?_
 refine finG (fn := Tryz.f142) (rs := [.tmp 2]) (vs := [_]) hE rfl ⟨rfl, trivial⟩ ?_
 subst hr
 replace hS := hS.tail
 exact ⟨rfl, hS⟩
set_option maxHeartbeats 8000000 in
theorem Planwithin_ok  {w : World} {s : Sg} {R : List HP} {x0 : Int} {x1 : Int} {x2 : Int} (hS : St w s (R))  {r : Bool} (hr : Planwithin x0 x1 x2 = r) :
  Calls Tryz.prog 144 [vi x0, vi x1, vi x2].toArray w (fun e w => e = .returned (.bool r) ∧ St w s (R)) := by
 refine enter Tryz.func144 rfl rfl rfl fun a hE => ?_
 rw [Planwithin] at hr
 refine W.seq (W.region (vp hS hE rfl rfl fun a hE => WL.nil ?_))
 refine W.seq ?_
 obtain ⟨q52, hq51, hr⟩ := bndS hr
 refine W.cut (fun a w => ∃ (q55 : Bool), q55 = q52 ∧ Rep a 15 [(6, .bool q55)] ∧ St w s (R)) ?_ ?_
 ·refine W.gen fun K56 hK56 => ?_
  refine W.region ?_
  refine v2 hS hE rfl rfl rfl rfl fun a hE => ?_
  refine v2 hS hE rfl rfl rfl rfl fun a hE => ?_
  rcases Bool.eq_false_or_eq_true (decide (x0 ≥ x1)) with hg57 | hg57
  ·replace hq51 := iteT hg57 hq51
   refine WL.vS hS hE (runs_if hE rfl rfl rfl hg57) (Gives.p hE rfl) rfl fun a hE => ?_
   refine WL.vS hS hE (runs_if hE rfl rfl rfl hg57) (Gives.p hE rfl) rfl fun a hE => ?_
   refine WL.vS hS hE (runs_if hE rfl rfl rfl hg57) (Gives.p hE rfl) rfl fun a hE => ?_
   refine vP hS hE (Gives.pickT hE rfl hg57 rfl) rfl fun a hE => ?_
   refine vp hS hE rfl rfl fun a hE => WL.nil ?_
   subst hK56
   exact ⟨decide (x0 ≤ x2), hq51, hE.pick _ ⟨rfl, trivial⟩, hS⟩
  replace hq51 := iteF hg57 hq51
  refine nO hE rfl rfl rfl (by rw [hg57]; decide) rfl fun a hE => ?_
  refine nO hE rfl rfl rfl (by rw [hg57]; decide) rfl fun a hE => ?_
  refine nO hE rfl rfl rfl (by rw [hg57]; decide) rfl fun a hE => ?_
  refine vP hS hE (Gives.pickF hE rfl hg57 rfl) rfl fun a hE => ?_
  refine vp hS hE rfl rfl fun a hE => WL.nil ?_
  subst hK56
  exact ⟨false, hq51, hE.pick _ ⟨rfl, trivial⟩, hS⟩
 clear hE hS a w; rintro a w ⟨q55, rfl, hE, hS⟩
 refine W.ret ?_
 refine finG (fn := Tryz.f144) (rs := [.tmp 6]) (vs := [_]) hE rfl ⟨rfl, trivial⟩ ?_
 subst hr
 exact ⟨rfl, hS⟩
set_option maxHeartbeats 8000000 in
theorem Plansentence_ok  {w : World} {s : Sg} {R : List HP} {x0 : ByteArray} {x1 : List Int} {a1 : Option Addr} {c1 : Nat} (hS : St w s (R)) (hTab : TabS Tryz.prog s) (h1 : Sl 1 (RI .i64) s a1 c1 x1) {r : ByteArray} (hr : Plansentence x0 x1 = some r) :
  Calls Tryz.prog 145 [.string x0, .slice a1 x1.length c1].toArray w (fun e w => e = .returned (.string r) ∧ St w s (R)) := by
 refine enter Tryz.func145 rfl rfl rfl fun a hE => ?_
 rw [Plansentence] at hr
 refine W.seq (W.region (vp hS hE rfl rfl fun a hE => WL.nil ?_))
 refine W.seq ?_
 refine W.seq (W.region (vp hS hE rfl rfl fun a hE => ?_))
 refine vP hS hE (Gives.len hE rfl sl65) rfl fun a hE => ?_
 refine vp hS hE rfl rfl fun a hE => WL.nil ?_
 obtain ⟨q52, hq51, hr⟩ := bindS hr
 refine W.cut (fun a w => ∃ (q62 : ByteArray), q62 = q52 ∧ Rep a 21 [(0, .string q62)] ∧ St w s (R)) ?_ ?_
 ·refine W.block ?_
  refine W.loop (fun m a w => ∃ (rest55 : List Int) (k53 : Nat), ∃ (q62 : ByteArray), rest55.length = m ∧ x1.drop k53 = rest55 ∧ Plansentence.loop1 rest55 q62 = some q52 ∧ Rep a 21 [(0, .string q62), (7, .slice a1 x1.length c1), (8, vi ((x1).length : Int)), (9, vi ((k53 : Nat) : Int))] ∧ St w s (R)) (m := x1.length) ⟨x1, 0, x0, rfl, rfl, hq51, hE.pick _ ⟨rfl, rfl, rfl, rfl, trivial⟩, hS⟩ ?_
  clear hE hS a w hq51; rintro m59 a w ⟨rest55, k53, q62, rfl, hd56, hq51, hE, hS⟩
  refine W.gen fun K63 hK63 => ?_
  rcases rest55 with _ | ⟨x54, rest55⟩
  ·have hlt57 := drop_nil hd56
   refine W.seq (W.region (vp hS hE rfl rfl fun a hE => WL.nil ?_))
   refine W.seq ?_
   refine W.condF hE rfl (decide_eq_false (by omega)) ?_
   subst hK63
   refine W.exit rfl ?_
   exact ⟨q62, Option.some.inj hq51, hE.pick _ ⟨rfl, trivial⟩, hS⟩
  obtain ⟨hlt57, hx58, hd56⟩ := drop_cons hd56
  rw [Plansentence.loop1] at hq51
  refine W.seq (W.region (vp hS hE rfl rfl fun a hE => WL.nil ?_))
  refine W.seq ?_
  refine W.condT hE rfl (decide_eq_true (by omega)) ?_
  refine W.skip ?_
  refine W.seq ?_
  refine W.block ?_
  refine W.seq (W.region ?_)
  obtain ⟨cs64, hl65, hR66, hat67⟩ := h1.at hx58
  subst hR66
  refine vP hS hE (Gives.idx hE k53 rfl rfl sl65 rfl hlt57 (h1.aok hlt57)) rfl fun a hE => ?_
  refine vP hS hE (Gives.load1 hE rfl (fun w h => hat67 w _ h) ty3) rfl fun a hE => ?_
  refine vp hS hE rfl rfl fun a hE => WL.nil ?_
  refine W.region ?_
  refine v2 hS hE rfl rfl rfl rfl fun a hE => ?_
  obtain ⟨q68, hq69, hq51⟩ := bindS hq51
  refine WL.fnq hE (itoa_ok hS (TabS.mono (Sg.Le.refl _) hTab) hq69) (runs_plain rfl) bd72 rfl rfl rfl ?_
  clear hE hS; rintro e w ⟨rfl, hS⟩; refine ⟨_, rfl, ?_⟩; clear a; intro a hE
  obtain ⟨x70, hx71, hq51⟩ := bindS hq51
  refine vP hS hE (Gives.catS hE rfl rfl hx71) rfl fun a hE => ?_
  obtain ⟨x72, hx73, hq51⟩ := bindS hq51
  refine vP hS hE (Gives.catS hE rfl rfl hx73) rfl fun a hE => ?_
  refine vp hS hE rfl rfl fun a hE => WL.nil ?_
  refine W.region ?_
  refine vP hS hE (Gives.inc hE rfl (by have := h1.small; omega)) rfl fun a hE => ?_
  refine vp hS hE rfl rfl fun a hE => WL.nil ?_
  subst hK63
  exact ⟨rest55.length, Nat.lt_succ_self _, rest55, k53 + 1, x72, rfl, hd56, hq51, hE.pick _ ⟨rfl, rfl, rfl, rfl, trivial⟩, hS⟩
 clear hE hS a w; rintro a w ⟨q62, rfl, hE, hS⟩
 refine W.seq (W.region (vp hS hE rfl rfl fun a hE => ?_))
 obtain ⟨x74, hx75, hr⟩ := bindS hr
 refine vP hS hE (Gives.catS hE rfl rfl hx75) rfl fun a hE => ?_
 refine vp hS hE rfl rfl fun a hE => WL.nil ?_
 refine W.ret ?_
 refine finG (fn := Tryz.f145) (rs := [.tmp 4]) (vs := [_]) hE rfl ⟨rfl, trivial⟩ ?_
 obtain rfl := Option.some.inj hr
 exact ⟨rfl, hS⟩
set_option maxHeartbeats 8000000 in
theorem PlanText_1_v1_ok  {w : World} {s : Sg} {R : List HP} {pb0 : Nat} {pb1 : Nat} {x0 : ByteArray} {x1 : List Int} {a1 : Option Addr} {c1 : Nat} {y0 : Bool} {y1_0 : ByteArray} (hS : St w s (pc pb0 #[.bool y0] 4 :: sbC 141 5 pb1 y1_0 :: R)) (hTab : TabS Tryz.prog s) (h1 : Sl 1 (RI .i64) s a1 c1 x1) {r : Bool × ByteArray} (hr : PlanText_1_v1 x0 x1 y0 y1_0 = some r) :
  Calls Tryz.prog 143 [.string x0, .slice a1 x1.length c1, pp pb0, pp pb1].toArray w (fun e w => e = .returned (.tuple #[]) ∧ St w s (pc pb0 #[.bool r.1] 4 :: sbC 141 5 pb1 r.2 :: R)) := by
 refine enter Tryz.func143 rfl rfl rfl fun a hE => ?_
 rw [PlanText_1_v1] at hr
 refine W.seq ?_
 refine W.seq (W.region (vp hS hE rfl rfl fun a hE => ?_))
 refine vP hS hE (Gives.len hE rfl sl65) rfl fun a hE => ?_
 refine vp hS hE rfl rfl fun a hE => WL.nil ?_
 obtain ⟨q54, hq53, hr⟩ := bndS hr
 refine W.cut (fun a w => ∃ (q64 : Bool), q64 = q54 ∧ Rep a 24 [(0, .string x0), (1, .slice a1 x1.length c1), (3, pp pb1)] ∧ St w s (pc pb0 #[.bool q64] 4 :: sbC 141 5 pb1 y1_0 :: R)) ?_ ?_
 ·refine W.block ?_
  refine W.loop (fun m a w => ∃ (rest57 : List Int) (k55 : Nat), ∃ (q64 : Bool), rest57.length = m ∧ x1.drop k55 = rest57 ∧ PlanText_1_v1.loop1 rest57 q64 = q54 ∧ Rep a 24 [(0, .string x0), (1, .slice a1 x1.length c1), (2, pp pb0), (3, pp pb1), (8, .slice a1 x1.length c1), (9, vi ((x1).length : Int)), (10, vi ((k55 : Nat) : Int))] ∧ St w s (pc pb0 #[.bool q64] 4 :: sbC 141 5 pb1 y1_0 :: R)) (m := x1.length) ⟨x1, 0, y0, rfl, rfl, hq53, hE.pick _ ⟨rfl, rfl, rfl, rfl, rfl, rfl, rfl, trivial⟩, hS⟩ ?_
  clear hE hS a w hq53; rintro m61 a w ⟨rest57, k55, q64, rfl, hd58, hq53, hE, hS⟩
  refine W.gen fun K65 hK65 => ?_
  rcases rest57 with _ | ⟨x56, rest57⟩
  ·have hlt59 := drop_nil hd58
   refine W.seq (W.region (vp hS hE rfl rfl fun a hE => WL.nil ?_))
   refine W.seq ?_
   refine W.condF hE rfl (decide_eq_false (by omega)) ?_
   subst hK65
   refine W.exit rfl ?_
   exact ⟨q64, hq53, hE.pick _ ⟨rfl, rfl, rfl, trivial⟩, hS⟩
  obtain ⟨hlt59, hx60, hd58⟩ := drop_cons hd58
  rw [PlanText_1_v1.loop1] at hq53
  refine W.seq (W.region (vp hS hE rfl rfl fun a hE => WL.nil ?_))
  refine W.seq ?_
  refine W.condT hE rfl (decide_eq_true (by omega)) ?_
  refine W.skip ?_
  refine W.seq ?_
  refine W.block ?_
  refine W.seq (W.region ?_)
  obtain ⟨cs66, hl67, hR68, hat69⟩ := h1.at hx60
  subst hR68
  refine vP hS hE (Gives.idx hE k55 rfl rfl sl65 rfl hlt59 (h1.aok hlt59)) rfl fun a hE => ?_
  refine vP hS hE (Gives.load1 hE rfl (fun w h => hat69 w _ h) ty3) rfl fun a hE => ?_
  refine vp hS hE rfl rfl fun a hE => WL.nil ?_
  obtain ⟨q71, hq70, hq53⟩ := bndS hq53
  refine W.cut (fun a w => ∃ (q74 : Bool), q74 = q71 ∧ Rep a 24 [(0, .string x0), (1, .slice a1 x1.length c1), (2, pp pb0), (3, pp pb1), (8, .slice a1 x1.length c1), (9, vi ((x1).length : Int)), (10, vi ((k55 : Nat) : Int))] ∧ St w s (pc pb0 #[.bool q74] 4 :: sbC 141 5 pb1 y1_0 :: R)) ?_ ?_
  ·refine W.gen fun K75 hK75 => ?_
   refine W.region ?_
   refine vP hS hE (Gives.loadB hE 0 rfl rfl rfl ty4) rfl fun a hE => ?_
   refine vp hS hE rfl rfl fun a hE => ?_
   rcases Bool.eq_false_or_eq_true q64 with hg76 | hg76
   ·replace hq70 := iteT hg76 hq70
    refine WL.vS hS hE (runs_if hE rfl rfl rfl hg76) (Gives.p hE rfl) rfl fun a hE => ?_
    refine WL.fnq hE (Planwithin_ok hS  rfl (r := Planwithin x56 0 999999)) (runs_if hE rfl rfl rfl hg76) bd144 rfl rfl rfl ?_
    clear hE hS; rintro e w ⟨rfl, hS⟩; refine ⟨_, rfl, ?_⟩; clear a; intro a hE
    refine vP hS hE (Gives.pickT hE rfl hg76 rfl) rfl fun a hE => ?_
    refine WL.storeI hE hS 0 rfl [.bool (Planwithin x56 0 999999)] (runs_plain rfl) rfl rfl rfl ty4 rfl rfl rfl rfl ?_; clear hE hS a w; intro a w hE hS
    refine WL.nil ?_
    subst hK75
    exact ⟨(Planwithin x56 0 999999), hq70, hE.pick _ ⟨rfl, rfl, rfl, rfl, rfl, rfl, rfl, trivial⟩, hS⟩
   replace hq70 := iteF hg76 hq70
   refine nO hE rfl rfl rfl (by rw [hg76]; decide) rfl fun a hE => ?_
   refine nO hE rfl rfl rfl (by rw [hg76]; decide) rfl fun a hE => ?_
   refine vP hS hE (Gives.pickF hE rfl hg76 rfl) rfl fun a hE => ?_
   refine WL.storeI hE hS 0 rfl [.bool false] (runs_plain rfl) rfl rfl rfl ty4 rfl rfl rfl rfl ?_; clear hE hS a w; intro a w hE hS
   refine WL.nil ?_
   subst hK75
   exact ⟨false, hq70, hE.pick _ ⟨rfl, rfl, rfl, rfl, rfl, rfl, rfl, trivial⟩, hS⟩
  clear hE hS a w; rintro a w ⟨q74, rfl, hE, hS⟩
  refine W.region ?_
  refine vP hS hE (Gives.inc hE rfl (by have := h1.small; omega)) rfl fun a hE => ?_
  refine vp hS hE rfl rfl fun a hE => WL.nil ?_
  subst hK65
  exact ⟨rest57.length, Nat.lt_succ_self _, rest57, k55 + 1, q74, rfl, hd58, hq53, hE.pick _ ⟨rfl, rfl, rfl, rfl, rfl, rfl, rfl, trivial⟩, hS⟩
 clear hE hS a w; rintro a w ⟨q64, rfl, hE, hS⟩
 refine W.region ?_
 refine v2 hS hE rfl rfl rfl rfl fun a hE => ?_
 obtain ⟨q77, hq78, hr⟩ := bindS hr
 have hc_ := Plansentence_ok hS (TabS.mono (Sg.Le.refl _) hTab) h1 hq78
 refine WL.fnq hE (hc_) (runs_plain rfl) bd145 rfl rfl rfl ?_
 clear hE hS hc_; rintro e w ⟨rfl, hS⟩; refine ⟨_, rfl, ?_⟩; clear a; intro a hE
 replace hS := hS.front 1 rfl
 obtain ⟨q79, hq80, hr⟩ := bindS hr
 refine WL.fnq hE (sbWrite_ok hS hq80) (runs_plain rfl) bd70 rfl rfl rfl ?_
 clear hE hS; rintro e w ⟨rfl, hS⟩; refine ⟨_, rfl, ?_⟩; clear a; intro a hE
 refine WL.nil ?_
 refine finG (fn := Tryz.f143) (rs := []) (vs := []) hE rfl trivial ?_
 obtain rfl := Option.some.inj hr
 replace hS := hS.front 1 rfl
 exact ⟨rfl, hS⟩
set_option maxHeartbeats 8000000 in
theorem PlanText_ok  {w : World} {s : Sg} {R : List HP} {x0 : ApiDay} {a0_0 : Option Addr} {c0_0 : Nat} {a0_1 : Option Addr} {c0_1 : Nat} (hS : St w s (R)) (hTab : TabS Tryz.prog s) (h0_0 : Sl 4 RApiTrain s a0_0 c0_0 x0.Trains) (h0_1 : Sl 1 (RL 1 (RI .i64)) s a0_1 c0_1 x0.Turns) {r : ByteArray × Int} (hr : PlanText x0 = some r) :
  Calls Tryz.prog 105 [.agg (List.toArray [.slice a0_0 x0.Trains.length c0_0, .slice a0_1 x0.Turns.length c0_1])].toArray w (fun e w => e = .returned (.tuple #[.string r.1, vi r.2]) ∧ St w s (R)) := by
 refine enter Tryz.func105 rfl rfl rfl fun a hE => ?_
 rw [PlanText] at hr
 refine W.seq (W.region ?_)
 refine WL.box hE hS (runs_plain rfl) rfl rfl rfl ?_; clear hE hS a w; intro b51 a w hE hS
 refine v2 hS hE rfl rfl rfl rfl fun a hE => WL.nil ?_
 refine W.seq ?_
 refine W.seq (W.region (vP hS hE (Gives.loadBA hE 0 rfl rfl ty25) rfl fun a hE => ?_))
 refine WL.fnq hE (Planform_ok hS h0_0 h0_1 rfl (r := Planform x0)) (runs_plain rfl) bd142 rfl rfl rfl ?_
 clear hE hS; rintro e w ⟨rfl, hS⟩; refine ⟨_, rfl, ?_⟩; clear a; intro a hE
 refine vp hS hE rfl rfl fun a hE => WL.nil ?_
 refine W.seq (W.region (v2 hS hE rfl rfl rfl rfl fun a hE => WL.nil ?_))
 refine W.cond hE rfl (fun hc52 => ?_) (fun hc52 => ?_)
 ·replace hr := iteT hc52 hr
  refine W.seq (W.region (v2 hS hE rfl rfl rfl rfl fun a hE => ?_))
  refine vp hS hE rfl rfl fun a hE => WL.nil ?_
  refine W.ret ?_
  refine finG (fn := Tryz.f105) (rs := [.tmp 2, .tmp 3]) (vs := [_, _]) hE rfl ⟨rfl, rfl, trivial⟩ ?_
  obtain rfl := Option.some.inj hr
  replace hS := hS.tail
  exact ⟨rfl, hS⟩
 replace hr := iteF hc52 hr
 refine W.skip ?_
 refine W.seq (W.region ?_)
 refine WL.alloc hE hS (runs_plain rfl) zr141 rfl ?_; clear hE hS a w; intro b53 a w hE hS
 replace hS := hS.sbNew 5
 refine WL.nil ?_
 refine W.seq (W.region ?_)
 refine WL.alloc hE hS (runs_plain rfl) zr4 rfl ?_; clear hE hS a w; intro b54 a w hE hS
 refine WL.storeI hE hS 0 rfl [.bool true] (runs_plain rfl) rfl rfl rfl ty4 rfl rfl rfl rfl ?_; clear hE hS a w; intro a w hE hS
 refine WL.nil ?_
 refine W.seq (W.region (vP hS hE (Gives.mkfn hE (vs := [pp b54, pp b53]) rfl) rfl fun a hE => ?_))
 refine vp hS hE rfl rfl fun a hE => WL.nil ?_
 refine W.seq ?_
 refine W.seq (W.region (vP hS hE (Gives.fld hE rfl fl25_0) rfl fun a hE => ?_))
 refine vP hS hE (Gives.loadB hE 2 rfl rfl rfl ty22) rfl fun a hE => ?_
 refine vP hS hE (Gives.len hE rfl sl22) rfl fun a hE => ?_
 refine vp hS hE rfl rfl fun a hE => WL.nil ?_
 obtain ⟨q56, hq55, hr⟩ := bindS hr
 refine W.cut (fun a w => ∃ (q66 : ByteArray), ∃ (q67 : Bool), ∃ (s64 : Sg), s.Le s64 ∧ (q66, q67) = q56 ∧ Rep a 81 [(1, pp b51), (5, pp b53), (6, pp b54), (7, .func (.func 143) #[] #[pp b54, pp b53])] ∧ St w s64 (pc b54 #[.bool q67] 4 :: sbC 141 5 b53 q66 :: pc b51 #[.slice a0_0 x0.Trains.length c0_0, .slice a0_1 x0.Turns.length c0_1] 25 :: R)) ?_ ?_
 ·refine W.block ?_
  refine W.loop (fun m a w => ∃ (rest59 : List ApiTrain) (k57 : Nat), ∃ (q66 : ByteArray), ∃ (q67 : Bool), ∃ (s64 : Sg), rest59.length = m ∧ x0.Trains.drop k57 = rest59 ∧ s.Le s64 ∧ PlanText.loop1 rest59 q66 q67 = some q56 ∧ Rep a 81 [(1, pp b51), (5, pp b53), (6, pp b54), (7, .func (.func 143) #[] #[pp b54, pp b53]), (23, .slice a0_0 x0.Trains.length c0_0), (24, vi ((x0.Trains).length : Int)), (25, vi ((k57 : Nat) : Int))] ∧ St w s64 (pc b54 #[.bool q67] 4 :: sbC 141 5 b53 q66 :: pc b51 #[.slice a0_0 x0.Trains.length c0_0, .slice a0_1 x0.Turns.length c0_1] 25 :: R)) (m := x0.Trains.length) ⟨x0.Trains, 0, ByteArray.empty, true, s, rfl, rfl, (Sg.Le.refl _), hq55, hE.pick _ ⟨rfl, rfl, rfl, rfl, rfl, rfl, rfl, trivial⟩, hS⟩ ?_
  clear hE hS a w hq55; rintro m63 a w ⟨rest59, k57, q66, q67, s64, rfl, hd60, hle65, hq55, hE, hS⟩
  refine W.gen fun K68 hK68 => ?_
  replace h0_0 := Sl.mono RApiTrain.mono hle65 h0_0
  replace h0_1 := Sl.mono (RL.mono RI.mono) hle65 h0_1
  rcases rest59 with _ | ⟨x58, rest59⟩
  ·have hlt61 := drop_nil hd60
   refine W.seq (W.region (vp hS hE rfl rfl fun a hE => WL.nil ?_))
   refine W.seq ?_
   refine W.condF hE rfl (decide_eq_false (by omega)) ?_
   subst hK68
   refine W.exit rfl ?_
   exact ⟨q66, q67, s64, hle65, Option.some.inj hq55, hE.pick _ ⟨rfl, rfl, rfl, rfl, trivial⟩, hS⟩
  obtain ⟨hlt61, hx62, hd60⟩ := drop_cons hd60
  rw [PlanText.loop1] at hq55
  refine W.seq (W.region (vp hS hE rfl rfl fun a hE => WL.nil ?_))
  refine W.seq ?_
  refine W.condT hE rfl (decide_eq_true (by omega)) ?_
  refine W.skip ?_
  refine W.seq ?_
  refine W.block ?_
  refine W.seq (W.region ?_)
  obtain ⟨cs69, hl70, hR71, hat72⟩ := h0_0.at hx62
  obtain ⟨a73, c74, a76, c77, rfl, h75, h78⟩ := hR71
  refine vP hS hE (Gives.idx hE k57 rfl rfl sl22 rfl hlt61 (h0_0.aok hlt61)) rfl fun a hE => ?_
  refine vP hS hE (Gives.loadA hE rfl (fun w h => hat72 w _ h) ty111) rfl fun a hE => ?_
  refine WL.alloc hE hS (runs_plain rfl) zr111 rfl ?_; clear hE hS a w; intro b79 a w hE hS
  refine WL.storeI hE hS 0 rfl [vi x58.No, vi x58.Stock, .slice a73 x58.Stops.length c74, .slice a76 x58.Legs.length c77] (runs_plain rfl) rfl rfl rfl ty111 rfl rfl rfl rfl ?_; clear hE hS a w; intro a w hE hS
  refine WL.nil ?_
  refine W.seq (W.region (vp hS hE rfl rfl fun a hE => ?_))
  refine vP hS hE (Gives.fld hE rfl fl111_0) rfl fun a hE => ?_
  refine vP hS hE (Gives.loadB hE 0 rfl rfl rfl ty3) rfl fun a hE => ?_
  refine vP hS hE (Gives.fld hE rfl fl111_1) rfl fun a hE => ?_
  refine vP hS hE (Gives.loadB hE 0 rfl rfl rfl ty3) rfl fun a hE => ?_
  refine WL.lit hE hS (e := 3) (es := 1) (vs := [(0, vi x58.No), (1, vi x58.Stock)]) (cs := [vi x58.No, vi x58.Stock]) (runs_plain rfl) rfl (by kernel_rfl) rfl ?_; clear hE hS a w; intro b80 a w hE hS
  replace hS := hS.ptVec (es := 1) (m := 2) rfl (by decide)
  have h82 : Ev 1 (RI .i64) s64 [vi x58.No, vi x58.Stock] [x58.No, x58.Stock] := (Ev.cons (c1 := [vi x58.No]) rfl rfl (Ev.cons (c1 := [vi x58.Stock]) rfl rfl (Ev.nil)))
  have hF := hS.fixD RI.mono 0 rfl h82 (rfl); clear hS; obtain ⟨s83, hle84, hS, h85⟩ := hF
  replace h0_0 := Sl.mono RApiTrain.mono hle84 h0_0
  replace h75 := Sl.mono RApiStop.mono hle84 h75
  replace h78 := Sl.mono (RL.mono RI.mono) hle84 h78
  replace h0_1 := Sl.mono (RL.mono RI.mono) hle84 h0_1
  obtain ⟨q86, hq87, hq55⟩ := bindS hq55
  replace hS := hS.front 2 rfl
  replace hS := hS.front 2 rfl
  have hc_ := PlanText_1_v1_ok hS (TabS.mono (Sg.Le.trans hle65 hle84) hTab) h85 hq87
  refine WL.fnw hE (hc_) rfl (runs_plain rfl) bd143 rfl rfl rfl ?_
  clear hE hS hc_; rintro e w ⟨rfl, hS⟩; refine ⟨_, rfl, ?_⟩; clear a; intro a hE
  refine WL.nil ?_
  refine W.seq ?_
  refine W.seq (W.region (vP hS hE (Gives.fld hE rfl fl111_2) rfl fun a hE => ?_))
  refine vP hS hE (Gives.loadB hE 2 rfl rfl rfl ty109) rfl fun a hE => ?_
  refine vP hS hE (Gives.len hE rfl sl109) rfl fun a hE => ?_
  refine vp hS hE rfl rfl fun a hE => WL.nil ?_
  obtain ⟨q89, hq88, hq55⟩ := bindS hq55
  refine W.cut (fun a w => ∃ (q99 : ByteArray), ∃ (q100 : Bool), ∃ (s97 : Sg), s83.Le s97 ∧ (q99, q100) = q89 ∧ Rep a 81 [(1, pp b51), (5, pp b53), (6, pp b54), (7, .func (.func 143) #[] #[pp b54, pp b53]), (9, pp b79), (23, .slice a0_0 x0.Trains.length c0_0), (24, vi ((x0.Trains).length : Int)), (25, vi ((k57 : Nat) : Int))] ∧ St w s97 (pc b54 #[.bool q100] 4 :: sbC 141 5 b53 q99 :: pc b79 #[vi x58.No, vi x58.Stock, .slice a73 x58.Stops.length c74, .slice a76 x58.Legs.length c77] 111 :: pc b51 #[.slice a0_0 x0.Trains.length c0_0, .slice a0_1 x0.Turns.length c0_1] 25 :: R)) ?_ ?_
  ·refine W.block ?_
   refine W.loop (fun m a w => ∃ (rest92 : List ApiStop) (k90 : Nat), ∃ (q99 : ByteArray), ∃ (q100 : Bool), ∃ (s97 : Sg), rest92.length = m ∧ x58.Stops.drop k90 = rest92 ∧ s83.Le s97 ∧ PlanText.loop2 rest92 q99 q100 = some q89 ∧ Rep a 81 [(1, pp b51), (5, pp b53), (6, pp b54), (7, .func (.func 143) #[] #[pp b54, pp b53]), (9, pp b79), (23, .slice a0_0 x0.Trains.length c0_0), (24, vi ((x0.Trains).length : Int)), (25, vi ((k57 : Nat) : Int)), (37, .slice a73 x58.Stops.length c74), (38, vi ((x58.Stops).length : Int)), (39, vi ((k90 : Nat) : Int))] ∧ St w s97 (pc b54 #[.bool q100] 4 :: sbC 141 5 b53 q99 :: pc b79 #[vi x58.No, vi x58.Stock, .slice a73 x58.Stops.length c74, .slice a76 x58.Legs.length c77] 111 :: pc b51 #[.slice a0_0 x0.Trains.length c0_0, .slice a0_1 x0.Turns.length c0_1] 25 :: R)) (m := x58.Stops.length) ⟨x58.Stops, 0, q86.2, q86.1, s83, rfl, rfl, (Sg.Le.refl _), hq88, hE.pick _ ⟨rfl, rfl, rfl, rfl, rfl, rfl, rfl, rfl, rfl, rfl, rfl, trivial⟩, hS⟩ ?_
   clear hE hS a w hq88; rintro m96 a w ⟨rest92, k90, q99, q100, s97, rfl, hd93, hle98, hq88, hE, hS⟩
   refine W.gen fun K101 hK101 => ?_
   replace h0_0 := Sl.mono RApiTrain.mono hle98 h0_0
   replace h75 := Sl.mono RApiStop.mono hle98 h75
   replace h78 := Sl.mono (RL.mono RI.mono) hle98 h78
   replace h85 := Sl.mono RI.mono hle98 h85
   replace h0_1 := Sl.mono (RL.mono RI.mono) hle98 h0_1
   rcases rest92 with _ | ⟨x91, rest92⟩
   ·have hlt94 := drop_nil hd93
    refine W.seq (W.region (vp hS hE rfl rfl fun a hE => WL.nil ?_))
    refine W.seq ?_
    refine W.condF hE rfl (decide_eq_false (by omega)) ?_
    subst hK101
    refine W.exit rfl ?_
    exact ⟨q99, q100, s97, hle98, Option.some.inj hq88, hE.pick _ ⟨rfl, rfl, rfl, rfl, rfl, rfl, rfl, rfl, trivial⟩, hS⟩
   obtain ⟨hlt94, hx95, hd93⟩ := drop_cons hd93
   rw [PlanText.loop2] at hq88
   refine W.seq (W.region (vp hS hE rfl rfl fun a hE => WL.nil ?_))
   refine W.seq ?_
   refine W.condT hE rfl (decide_eq_true (by omega)) ?_
   refine W.skip ?_
   refine W.seq ?_
   refine W.block ?_
   refine W.seq (W.region ?_)
   obtain ⟨cs102, hl103, hR104, hat105⟩ := h75.at hx95
   subst hR104
   refine vP hS hE (Gives.idx hE k90 rfl rfl sl109 rfl hlt94 (h75.aok hlt94)) rfl fun a hE => ?_
   refine vP hS hE (Gives.loadA hE rfl (fun w h => hat105 w _ h) ty99) rfl fun a hE => ?_
   refine WL.alloc hE hS (runs_plain rfl) zr99 rfl ?_; clear hE hS a w; intro b106 a w hE hS
   refine WL.storeI hE hS 0 rfl (ApiStop.cells x91) (runs_plain rfl) rfl rfl rfl ty99 rfl rfl rfl rfl ?_; clear hE hS a w; intro a w hE hS
   refine WL.nil ?_
   refine W.region ?_
   refine vp hS hE rfl rfl fun a hE => ?_
   refine vP hS hE (Gives.fld hE rfl fl99_0) rfl fun a hE => ?_
   refine vP hS hE (Gives.loadB hE 0 rfl rfl rfl ty3) rfl fun a hE => ?_
   refine vP hS hE (Gives.fld hE rfl fl99_1) rfl fun a hE => ?_
   refine vP hS hE (Gives.loadB hE 0 rfl rfl rfl ty3) rfl fun a hE => ?_
   refine vP hS hE (Gives.fld hE rfl fl99_2) rfl fun a hE => ?_
   refine vP hS hE (Gives.loadB hE 0 rfl rfl rfl ty3) rfl fun a hE => ?_
   refine vP hS hE (Gives.fld hE rfl fl99_3) rfl fun a hE => ?_
   refine vP hS hE (Gives.loadB hE 0 rfl rfl rfl ty3) rfl fun a hE => ?_
   refine WL.lit hE hS (e := 3) (es := 1) (vs := [(0, vi x91.Station), (1, vi x91.Track), (2, vi x91.Arr), (3, vi x91.Dep)]) (cs := [vi x91.Station, vi x91.Track, vi x91.Arr, vi x91.Dep]) (runs_plain rfl) rfl (by kernel_rfl) rfl ?_; clear hE hS a w; intro b107 a w hE hS
   replace hS := hS.ptVec (es := 1) (m := 4) rfl (by decide)
   have h109 : Ev 1 (RI .i64) s97 [vi x91.Station, vi x91.Track, vi x91.Arr, vi x91.Dep] [x91.Station, x91.Track, x91.Arr, x91.Dep] := (Ev.cons (c1 := [vi x91.Station]) rfl rfl (Ev.cons (c1 := [vi x91.Track]) rfl rfl (Ev.cons (c1 := [vi x91.Arr]) rfl rfl (Ev.cons (c1 := [vi x91.Dep]) rfl rfl (Ev.nil)))))
   have hF := hS.fixD RI.mono 0 rfl h109 (rfl); clear hS; obtain ⟨s110, hle111, hS, h112⟩ := hF
   replace h0_0 := Sl.mono RApiTrain.mono hle111 h0_0
   replace h75 := Sl.mono RApiStop.mono hle111 h75
   replace h78 := Sl.mono (RL.mono RI.mono) hle111 h78
   replace h0_1 := Sl.mono (RL.mono RI.mono) hle111 h0_1
   obtain ⟨q113, hq114, hq88⟩ := bindS hq88
   replace hS := hS.front 2 rfl
   replace hS := hS.front 2 rfl
   have hc_ := PlanText_1_v1_ok hS (TabS.mono (Sg.Le.trans (Sg.Le.trans (Sg.Le.trans hle65 hle84) hle98) hle111) hTab) h112 hq114
   refine WL.fnw hE (hc_) rfl (runs_plain rfl) bd143 rfl rfl rfl ?_
   clear hE hS hc_; rintro e w ⟨rfl, hS⟩; refine ⟨_, rfl, ?_⟩; clear a; intro a hE
   refine WL.nil ?_
   refine W.region ?_
   refine vP hS hE (Gives.inc hE rfl (by have := h75.small; omega)) rfl fun a hE => ?_
   refine vp hS hE rfl rfl fun a hE => WL.nil ?_
   replace hS := hS.dropAt 2
   subst hK101
   exact ⟨rest92.length, Nat.lt_succ_self _, rest92, k90 + 1, q113.2, q113.1, s110, rfl, hd93, (Sg.Le.trans hle98 hle111), hq88, hE.pick _ ⟨rfl, rfl, rfl, rfl, rfl, rfl, rfl, rfl, rfl, rfl, rfl, trivial⟩, hS⟩
  clear hE hS a w; rintro a w ⟨q99, q100, s97, hle98, rfl, hE, hS⟩
  dsimp only at hq55
  replace h0_0 := Sl.mono RApiTrain.mono hle98 h0_0
  replace h75 := Sl.mono RApiStop.mono hle98 h75
  replace h78 := Sl.mono (RL.mono RI.mono) hle98 h78
  replace h85 := Sl.mono RI.mono hle98 h85
  replace h0_1 := Sl.mono (RL.mono RI.mono) hle98 h0_1
  refine W.seq (W.region (vP hS hE (Gives.fld hE rfl fl111_3) rfl fun a hE => ?_))
  refine vP hS hE (Gives.loadB hE 2 rfl rfl rfl ty23) rfl fun a hE => ?_
  refine vP hS hE (Gives.len hE rfl sl23) rfl fun a hE => ?_
  refine vp hS hE rfl rfl fun a hE => WL.nil ?_
  obtain ⟨q116, hq115, hq55⟩ := bindS hq55
  refine W.cut (fun a w => ∃ (q126 : ByteArray), ∃ (q127 : Bool), (q126, q127) = q116 ∧ Rep a 81 [(1, pp b51), (5, pp b53), (6, pp b54), (7, .func (.func 143) #[] #[pp b54, pp b53]), (23, .slice a0_0 x0.Trains.length c0_0), (24, vi ((x0.Trains).length : Int)), (25, vi ((k57 : Nat) : Int))] ∧ St w s97 (pc b54 #[.bool q127] 4 :: sbC 141 5 b53 q126 :: pc b79 #[vi x58.No, vi x58.Stock, .slice a73 x58.Stops.length c74, .slice a76 x58.Legs.length c77] 111 :: pc b51 #[.slice a0_0 x0.Trains.length c0_0, .slice a0_1 x0.Turns.length c0_1] 25 :: R)) ?_ ?_
  ·refine W.block ?_
   refine W.loop (fun m a w => ∃ (rest119 : List (List Int)) (k117 : Nat), ∃ (q126 : ByteArray), ∃ (q127 : Bool), rest119.length = m ∧ x58.Legs.drop k117 = rest119 ∧ PlanText.loop3 rest119 q126 q127 = some q116 ∧ Rep a 81 [(1, pp b51), (5, pp b53), (6, pp b54), (7, .func (.func 143) #[] #[pp b54, pp b53]), (23, .slice a0_0 x0.Trains.length c0_0), (24, vi ((x0.Trains).length : Int)), (25, vi ((k57 : Nat) : Int)), (56, .slice a76 x58.Legs.length c77), (57, vi ((x58.Legs).length : Int)), (58, vi ((k117 : Nat) : Int))] ∧ St w s97 (pc b54 #[.bool q127] 4 :: sbC 141 5 b53 q126 :: pc b79 #[vi x58.No, vi x58.Stock, .slice a73 x58.Stops.length c74, .slice a76 x58.Legs.length c77] 111 :: pc b51 #[.slice a0_0 x0.Trains.length c0_0, .slice a0_1 x0.Turns.length c0_1] 25 :: R)) (m := x58.Legs.length) ⟨x58.Legs, 0, q99, q100, rfl, rfl, hq115, hE.pick _ ⟨rfl, rfl, rfl, rfl, rfl, rfl, rfl, rfl, rfl, rfl, trivial⟩, hS⟩ ?_
   clear hE hS a w hq115; rintro m123 a w ⟨rest119, k117, q126, q127, rfl, hd120, hq115, hE, hS⟩
   refine W.gen fun K128 hK128 => ?_
   rcases rest119 with _ | ⟨x118, rest119⟩
   ·have hlt121 := drop_nil hd120
    refine W.seq (W.region (vp hS hE rfl rfl fun a hE => WL.nil ?_))
    refine W.seq ?_
    refine W.condF hE rfl (decide_eq_false (by omega)) ?_
    subst hK128
    refine W.exit rfl ?_
    exact ⟨q126, q127, Option.some.inj hq115, hE.pick _ ⟨rfl, rfl, rfl, rfl, rfl, rfl, rfl, trivial⟩, hS⟩
   obtain ⟨hlt121, hx122, hd120⟩ := drop_cons hd120
   rw [PlanText.loop3] at hq115
   refine W.seq (W.region (vp hS hE rfl rfl fun a hE => WL.nil ?_))
   refine W.seq ?_
   refine W.condT hE rfl (decide_eq_true (by omega)) ?_
   refine W.skip ?_
   refine W.seq ?_
   refine W.block ?_
   refine W.seq (W.region ?_)
   obtain ⟨cs129, hl130, hR131, hat132⟩ := h78.at hx122
   obtain ⟨a133, c134, rfl, h135⟩ := hR131
   refine vP hS hE (Gives.idx hE k117 rfl rfl sl23 rfl hlt121 (h78.aok hlt121)) rfl fun a hE => ?_
   refine vP hS hE (Gives.load1 hE rfl (fun w h => hat132 w _ h) ty65) rfl fun a hE => ?_
   refine vp hS hE rfl rfl fun a hE => WL.nil ?_
   refine W.region ?_
   refine v2 hS hE rfl rfl rfl rfl fun a hE => ?_
   obtain ⟨q136, hq137, hq115⟩ := bindS hq115
   have hc_ := PlanText_1_v1_ok hS (TabS.mono (Sg.Le.trans (Sg.Le.trans hle65 hle84) hle98) hTab) h135 hq137
   refine WL.fnw hE (hc_) rfl (runs_plain rfl) bd143 rfl rfl rfl ?_
   clear hE hS hc_; rintro e w ⟨rfl, hS⟩; refine ⟨_, rfl, ?_⟩; clear a; intro a hE
   refine WL.nil ?_
   refine W.region ?_
   refine vP hS hE (Gives.inc hE rfl (by have := h78.small; omega)) rfl fun a hE => ?_
   refine vp hS hE rfl rfl fun a hE => WL.nil ?_
   subst hK128
   exact ⟨rest119.length, Nat.lt_succ_self _, rest119, k117 + 1, q136.2, q136.1, rfl, hd120, hq115, hE.pick _ ⟨rfl, rfl, rfl, rfl, rfl, rfl, rfl, rfl, rfl, rfl, trivial⟩, hS⟩
  clear hE hS a w; rintro a w ⟨q126, q127, rfl, hE, hS⟩
  dsimp only at hq55
  refine W.region ?_
  refine vP hS hE (Gives.inc hE rfl (by have := h0_0.small; omega)) rfl fun a hE => ?_
  refine vp hS hE rfl rfl fun a hE => WL.nil ?_
  replace hS := hS.dropAt 2
  subst hK68
  exact ⟨rest59.length, Nat.lt_succ_self _, rest59, k57 + 1, q126, q127, s97, rfl, hd60, (Sg.Le.trans (Sg.Le.trans hle65 hle84) hle98), hq55, hE.pick _ ⟨rfl, rfl, rfl, rfl, rfl, rfl, rfl, trivial⟩, hS⟩
 clear hE hS a w; rintro a w ⟨q66, q67, s64, hle65, rfl, hE, hS⟩
 dsimp only at hr
 replace h0_0 := Sl.mono RApiTrain.mono hle65 h0_0
 replace h0_1 := Sl.mono (RL.mono RI.mono) hle65 h0_1
 refine W.seq ?_
 refine W.seq (W.region (vP hS hE (Gives.fld hE rfl fl25_1) rfl fun a hE => ?_))
 refine vP hS hE (Gives.loadB hE 2 rfl rfl rfl ty23) rfl fun a hE => ?_
 refine vP hS hE (Gives.len hE rfl sl23) rfl fun a hE => ?_
 refine vp hS hE rfl rfl fun a hE => WL.nil ?_
 obtain ⟨q139, hq138, hr⟩ := bindS hr
 refine W.cut (fun a w => ∃ (q149 : ByteArray), ∃ (q150 : Bool), (q149, q150) = q139 ∧ Rep a 81 [(5, pp b53), (6, pp b54)] ∧ St w s64 (pc b54 #[.bool q150] 4 :: sbC 141 5 b53 q149 :: pc b51 #[.slice a0_0 x0.Trains.length c0_0, .slice a0_1 x0.Turns.length c0_1] 25 :: R)) ?_ ?_
 ·refine W.block ?_
  refine W.loop (fun m a w => ∃ (rest142 : List (List Int)) (k140 : Nat), ∃ (q149 : ByteArray), ∃ (q150 : Bool), rest142.length = m ∧ x0.Turns.drop k140 = rest142 ∧ PlanText.loop4 rest142 q149 q150 = some q139 ∧ Rep a 81 [(5, pp b53), (6, pp b54), (7, .func (.func 143) #[] #[pp b54, pp b53]), (68, .slice a0_1 x0.Turns.length c0_1), (69, vi ((x0.Turns).length : Int)), (70, vi ((k140 : Nat) : Int))] ∧ St w s64 (pc b54 #[.bool q150] 4 :: sbC 141 5 b53 q149 :: pc b51 #[.slice a0_0 x0.Trains.length c0_0, .slice a0_1 x0.Turns.length c0_1] 25 :: R)) (m := x0.Turns.length) ⟨x0.Turns, 0, q66, q67, rfl, rfl, hq138, hE.pick _ ⟨rfl, rfl, rfl, rfl, rfl, rfl, trivial⟩, hS⟩ ?_
  clear hE hS a w hq138; rintro m146 a w ⟨rest142, k140, q149, q150, rfl, hd143, hq138, hE, hS⟩
  refine W.gen fun K151 hK151 => ?_
  rcases rest142 with _ | ⟨x141, rest142⟩
  ·have hlt144 := drop_nil hd143
   refine W.seq (W.region (vp hS hE rfl rfl fun a hE => WL.nil ?_))
   refine W.seq ?_
   refine W.condF hE rfl (decide_eq_false (by omega)) ?_
   subst hK151
   refine W.exit rfl ?_
   exact ⟨q149, q150, Option.some.inj hq138, hE.pick _ ⟨rfl, rfl, trivial⟩, hS⟩
  obtain ⟨hlt144, hx145, hd143⟩ := drop_cons hd143
  rw [PlanText.loop4] at hq138
  refine W.seq (W.region (vp hS hE rfl rfl fun a hE => WL.nil ?_))
  refine W.seq ?_
  refine W.condT hE rfl (decide_eq_true (by omega)) ?_
  refine W.skip ?_
  refine W.seq ?_
  refine W.block ?_
  refine W.seq (W.region ?_)
  obtain ⟨cs152, hl153, hR154, hat155⟩ := h0_1.at hx145
  obtain ⟨a156, c157, rfl, h158⟩ := hR154
  refine vP hS hE (Gives.idx hE k140 rfl rfl sl23 rfl hlt144 (h0_1.aok hlt144)) rfl fun a hE => ?_
  refine vP hS hE (Gives.load1 hE rfl (fun w h => hat155 w _ h) ty65) rfl fun a hE => ?_
  refine vp hS hE rfl rfl fun a hE => WL.nil ?_
  refine W.region ?_
  refine v2 hS hE rfl rfl rfl rfl fun a hE => ?_
  obtain ⟨q159, hq160, hq138⟩ := bindS hq138
  have hc_ := PlanText_1_v1_ok hS (TabS.mono hle65 hTab) h158 hq160
  refine WL.fnw hE (hc_) rfl (runs_plain rfl) bd143 rfl rfl rfl ?_
  clear hE hS hc_; rintro e w ⟨rfl, hS⟩; refine ⟨_, rfl, ?_⟩; clear a; intro a hE
  refine WL.nil ?_
  refine W.region ?_
  refine vP hS hE (Gives.inc hE rfl (by have := h0_1.small; omega)) rfl fun a hE => ?_
  refine vp hS hE rfl rfl fun a hE => WL.nil ?_
  subst hK151
  exact ⟨rest142.length, Nat.lt_succ_self _, rest142, k140 + 1, q159.2, q159.1, rfl, hd143, hq138, hE.pick _ ⟨rfl, rfl, rfl, rfl, rfl, rfl, trivial⟩, hS⟩
 clear hE hS a w; rintro a w ⟨q149, q150, rfl, hE, hS⟩
 dsimp only at hr
 refine W.seq ?_
 refine W.seq (W.region (vP hS hE (Gives.loadB hE 0 rfl rfl rfl ty4) rfl fun a hE => ?_))
 refine vp hS hE rfl rfl fun a hE => WL.nil ?_
 refine W.cond hE rfl (fun hc161 => ?_) (fun hc161 => ?_)
 ·replace hr := iteT hc161 hr
  refine W.seq (W.region (v2 hS hE rfl rfl rfl rfl fun a hE => WL.nil ?_))
  refine W.ret ?_
  refine finG (fn := Tryz.f105) (rs := [.tmp 2, .tmp 3]) (vs := [_, _]) hE rfl ⟨rfl, rfl, trivial⟩ ?_
  obtain rfl := Option.some.inj hr
  replace hS := hS.tail
  replace hS := hS.tail
  replace hS := hS.tail
  exact ⟨rfl, (hS.down hle65)⟩
 replace hr := iteF hc161 hr
 refine W.skip ?_
 refine W.seq (W.region ?_)
 replace hS := hS.front 1 rfl
 refine WL.fnq hE (sbString_ok hS) (runs_plain rfl) bd73 rfl rfl rfl ?_
 clear hE hS; rintro e w ⟨rfl, hS⟩; refine ⟨_, rfl, ?_⟩; clear a; intro a hE
 refine v2 hS hE rfl rfl rfl rfl fun a hE => WL.nil ?_
 refine W.ret ?_
 refine finG (fn := Tryz.f105) (rs := [.tmp 2, .tmp 3]) (vs := [_, _]) hE rfl ⟨rfl, rfl, trivial⟩ ?_
 obtain rfl := Option.some.inj hr
 replace hS := hS.tail
 replace hS := hS.tail
 exact ⟨rfl, (hS.down hle65)⟩
set_option maxHeartbeats 8000000 in
theorem Guidewithin_ok  {w : World} {s : Sg} {R : List HP} {x0 : Int} {x1 : Int} {x2 : Int} (hS : St w s (R))  {r : Bool} (hr : Guidewithin x0 x1 x2 = r) :
  Calls Tryz.prog 61 [vi x0, vi x1, vi x2].toArray w (fun e w => e = .returned (.bool r) ∧ St w s (R)) := by
 refine enter Tryz.func61 rfl rfl rfl fun a hE => ?_
 rw [Guidewithin] at hr
 refine W.seq (W.region (vp hS hE rfl rfl fun a hE => WL.nil ?_))
 refine W.seq ?_
 obtain ⟨q52, hq51, hr⟩ := bndS hr
 refine W.cut (fun a w => ∃ (q55 : Bool), q55 = q52 ∧ Rep a 15 [(6, .bool q55)] ∧ St w s (R)) ?_ ?_
 ·refine W.gen fun K56 hK56 => ?_
  refine W.region ?_
  refine v2 hS hE rfl rfl rfl rfl fun a hE => ?_
  refine v2 hS hE rfl rfl rfl rfl fun a hE => ?_
  rcases Bool.eq_false_or_eq_true (decide (x0 ≥ x1)) with hg57 | hg57
  ·replace hq51 := iteT hg57 hq51
   refine WL.vS hS hE (runs_if hE rfl rfl rfl hg57) (Gives.p hE rfl) rfl fun a hE => ?_
   refine WL.vS hS hE (runs_if hE rfl rfl rfl hg57) (Gives.p hE rfl) rfl fun a hE => ?_
   refine WL.vS hS hE (runs_if hE rfl rfl rfl hg57) (Gives.p hE rfl) rfl fun a hE => ?_
   refine vP hS hE (Gives.pickT hE rfl hg57 rfl) rfl fun a hE => ?_
   refine vp hS hE rfl rfl fun a hE => WL.nil ?_
   subst hK56
   exact ⟨decide (x0 ≤ x2), hq51, hE.pick _ ⟨rfl, trivial⟩, hS⟩
  replace hq51 := iteF hg57 hq51
  refine nO hE rfl rfl rfl (by rw [hg57]; decide) rfl fun a hE => ?_
  refine nO hE rfl rfl rfl (by rw [hg57]; decide) rfl fun a hE => ?_
  refine nO hE rfl rfl rfl (by rw [hg57]; decide) rfl fun a hE => ?_
  refine vP hS hE (Gives.pickF hE rfl hg57 rfl) rfl fun a hE => ?_
  refine vp hS hE rfl rfl fun a hE => WL.nil ?_
  subst hK56
  exact ⟨false, hq51, hE.pick _ ⟨rfl, trivial⟩, hS⟩
 clear hE hS a w; rintro a w ⟨q55, rfl, hE, hS⟩
 refine W.ret ?_
 refine finG (fn := Tryz.f61) (rs := [.tmp 6]) (vs := [_]) hE rfl ⟨rfl, trivial⟩ ?_
 subst hr
 exact ⟨rfl, hS⟩
set_option maxHeartbeats 8000000 in
theorem GuideCheck_ok  {w : World} {s : Sg} {R : List HP} {x0 : ApiDay} {a0_0 : Option Addr} {c0_0 : Nat} {a0_1 : Option Addr} {c0_1 : Nat} (hS : St w s (R)) (hTab : TabS Tryz.prog s) (h0_0 : Sl 4 RApiTrain s a0_0 c0_0 x0.Trains) (h0_1 : Sl 1 (RL 1 (RI .i64)) s a0_1 c0_1 x0.Turns) {r : Int} (hr : GuideCheck x0 = some r) :
  Calls Tryz.prog 60 [.agg (List.toArray [.slice a0_0 x0.Trains.length c0_0, .slice a0_1 x0.Turns.length c0_1])].toArray w (fun e w => e = .returned (vi r) ∧ St w s (R)) := by
 refine enter Tryz.func60 rfl rfl rfl fun a hE => ?_
 rw [GuideCheck] at hr
 refine W.seq (W.region ?_)
 refine WL.box hE hS (runs_plain rfl) rfl rfl rfl ?_; clear hE hS a w; intro b51 a w hE hS
 refine vp hS hE rfl rfl fun a hE => WL.nil ?_
 refine W.seq ?_
 refine W.seq (W.region (vP hS hE (Gives.loadBA hE 0 rfl rfl ty25) rfl fun a hE => ?_))
 obtain ⟨q52, hq53, hr⟩ := bindS hr
 have hc_ := PlanText_ok hS (TabS.mono (Sg.Le.refl _) hTab) h0_0 h0_1 hq53
 refine WL.fnq hE (hc_) (runs_plain rfl) bd105 rfl rfl rfl ?_
 clear hE hS hc_; rintro e w ⟨rfl, hS⟩; refine ⟨_, rfl, ?_⟩; clear a; intro a hE
 refine v2 hS hE rfl rfl rfl rfl fun a hE => ?_
 refine v2 hS hE rfl rfl rfl rfl fun a hE => ?_
 refine vp hS hE rfl rfl fun a hE => WL.nil ?_
 refine W.seq (W.region (v2 hS hE rfl rfl rfl rfl fun a hE => WL.nil ?_))
 refine W.cond hE rfl (fun hc54 => ?_) (fun hc54 => ?_)
 ·replace hr := iteT hc54 hr
  refine W.seq (W.region (v2 hS hE rfl rfl rfl rfl fun a hE => WL.nil ?_))
  refine W.ret ?_
  refine finG (fn := Tryz.f60) (rs := [.tmp 2]) (vs := [_]) hE rfl ⟨rfl, trivial⟩ ?_
  obtain rfl := Option.some.inj hr
  replace hS := hS.tail
  exact ⟨rfl, hS⟩
 replace hr := iteF hc54 hr
 refine W.skip ?_
 refine W.seq (W.region ?_)
 refine WL.mkMap (fk := keyI.f) (fv := Value.bool) hE hS (runs_plain rfl) rfl ?_; clear hE hS a w; intro b55 a w hE hS
 refine vp hS hE rfl rfl fun a hE => WL.nil ?_
 refine W.seq ?_
 refine W.seq (W.region (vP hS hE (Gives.fld hE rfl fl25_0) rfl fun a hE => ?_))
 refine vP hS hE (Gives.loadB hE 1 rfl rfl rfl ty22) rfl fun a hE => ?_
 refine vP hS hE (Gives.len hE rfl sl22) rfl fun a hE => ?_
 refine vp hS hE rfl rfl fun a hE => WL.nil ?_
 obtain ⟨q57, hq56, hr⟩ := bindS hr
 refine W.cut (fun a w => ∃ (q67 : List (Int × Bool)), (.next q67) = q57 ∧ Rep a 93 [] ∧ St w s (mapC keyI.f Value.bool b55 q67 :: pc b51 #[.slice a0_0 x0.Trains.length c0_0, .slice a0_1 x0.Turns.length c0_1] 25 :: R)) ?_ ?_
 ·refine W.block ?_
  refine W.loop (fun m a w => ∃ (rest60 : List ApiTrain) (k58 : Nat), ∃ (q67 : List (Int × Bool)), rest60.length = m ∧ x0.Trains.drop k58 = rest60 ∧ GuideCheck.loop1 rest60 q67 = some q57 ∧ Rep a 93 [(5, .map (some b55)), (20, .slice a0_0 x0.Trains.length c0_0), (21, vi ((x0.Trains).length : Int)), (22, vi ((k58 : Nat) : Int))] ∧ St w s (mapC keyI.f Value.bool b55 q67 :: pc b51 #[.slice a0_0 x0.Trains.length c0_0, .slice a0_1 x0.Turns.length c0_1] 25 :: R)) (m := x0.Trains.length) ⟨x0.Trains, 0, [], rfl, rfl, hq56, hE.pick _ ⟨rfl, rfl, rfl, rfl, trivial⟩, hS⟩ ?_
  clear hE hS a w hq56; rintro m64 a w ⟨rest60, k58, q67, rfl, hd61, hq56, hE, hS⟩
  refine W.gen fun K68 hK68 => ?_
  rcases rest60 with _ | ⟨x59, rest60⟩
  ·have hlt62 := drop_nil hd61
   refine W.seq (W.region (vp hS hE rfl rfl fun a hE => WL.nil ?_))
   refine W.seq ?_
   refine W.condF hE rfl (decide_eq_false (by omega)) ?_
   subst hK68
   refine W.exit rfl ?_
   exact ⟨q67, Option.some.inj hq56, hE.pick _ trivial, hS⟩
  obtain ⟨hlt62, hx63, hd61⟩ := drop_cons hd61
  rw [GuideCheck.loop1] at hq56
  refine W.seq (W.region (vp hS hE rfl rfl fun a hE => WL.nil ?_))
  refine W.seq ?_
  refine W.condT hE rfl (decide_eq_true (by omega)) ?_
  refine W.skip ?_
  refine W.seq ?_
  refine W.block ?_
  refine W.seq (W.region ?_)
  obtain ⟨cs69, hl70, hR71, hat72⟩ := h0_0.at hx63
  obtain ⟨a73, c74, a76, c77, rfl, h75, h78⟩ := hR71
  refine vP hS hE (Gives.idx hE k58 rfl rfl sl22 rfl hlt62 (h0_0.aok hlt62)) rfl fun a hE => ?_
  refine vP hS hE (Gives.loadA hE rfl (fun w h => hat72 w _ h) ty111) rfl fun a hE => ?_
  refine WL.alloc hE hS (runs_plain rfl) zr111 rfl ?_; clear hE hS a w; intro b79 a w hE hS
  refine WL.storeI hE hS 0 rfl [vi x59.No, vi x59.Stock, .slice a73 x59.Stops.length c74, .slice a76 x59.Legs.length c77] (runs_plain rfl) rfl rfl rfl ty111 rfl rfl rfl rfl ?_; clear hE hS a w; intro a w hE hS
  refine WL.nil ?_
  refine W.seq ?_
  refine W.block ?_
  refine W.seq (W.region (vP hS hE (Gives.fld hE rfl fl111_0) rfl fun a hE => ?_))
  refine vP hS hE (Gives.loadB hE 0 rfl rfl rfl ty3) rfl fun a hE => ?_
  refine WL.fnq hE (Guidewithin_ok hS  rfl (r := Guidewithin x59.No 1 9999)) (runs_plain rfl) bd61 rfl rfl rfl ?_
  clear hE hS; rintro e w ⟨rfl, hS⟩; refine ⟨_, rfl, ?_⟩; clear a; intro a hE
  refine v2 hS hE rfl rfl rfl rfl fun a hE => WL.nil ?_
  refine W.cond hE rfl (fun hc80 => ?_) (fun hc80 => ?_)
  ·replace hq56 := iteT hc80 hq56
   refine W.seq (W.region (vp hS hE rfl rfl fun a hE => WL.nil ?_))
   refine W.ret ?_
   subst hK68
   rw [← Option.some.inj hq56] at hr
   dsimp only at hr
   refine finG (fn := Tryz.f60) (rs := [.tmp 2]) (vs := [_]) hE rfl ⟨rfl, trivial⟩ ?_
   obtain rfl := Option.some.inj hr
   replace hS := hS.tail
   replace hS := hS.tail
   replace hS := hS.tail
   exact ⟨rfl, hS⟩
  replace hq56 := iteF hc80 hq56
  refine W.seq (W.region (vp hS hE rfl rfl fun a hE => ?_))
  refine vP hS hE (Gives.fld hE rfl fl111_0) rfl fun a hE => ?_
  refine vP hS hE (Gives.loadB hE 0 rfl rfl rfl ty3) rfl fun a hE => ?_
  refine vP hS hE (Gives.mapGet keyI hE 1 (k := x59.No) (z := false) rfl rfl rfl mp125 zm4) rfl fun a hE => ?_
  refine vp hS hE rfl rfl fun a hE => WL.nil ?_
  refine W.cond hE rfl (fun hc81 => ?_) (fun hc81 => ?_)
  ·replace hq56 := iteT hc81 hq56
   refine W.seq (W.region (vp hS hE rfl rfl fun a hE => WL.nil ?_))
   refine W.ret ?_
   subst hK68
   rw [← Option.some.inj hq56] at hr
   dsimp only at hr
   refine finG (fn := Tryz.f60) (rs := [.tmp 2]) (vs := [_]) hE rfl ⟨rfl, trivial⟩ ?_
   obtain rfl := Option.some.inj hr
   replace hS := hS.tail
   replace hS := hS.tail
   replace hS := hS.tail
   exact ⟨rfl, hS⟩
  replace hq56 := iteF hc81 hq56
  refine W.seq (W.region (vP hS hE (Gives.fld hE rfl fl111_2) rfl fun a hE => ?_))
  refine vP hS hE (Gives.loadB hE 0 rfl rfl rfl ty109) rfl fun a hE => ?_
  refine vP hS hE (Gives.len hE rfl sl109) rfl fun a hE => ?_
  refine v2 hS hE rfl rfl rfl rfl fun a hE => WL.nil ?_
  refine W.cond hE rfl (fun hc82 => ?_) (fun hc82 => ?_)
  ·replace hq56 := iteT hc82 hq56
   refine W.seq (W.region (vp hS hE rfl rfl fun a hE => WL.nil ?_))
   refine W.ret ?_
   subst hK68
   rw [← Option.some.inj hq56] at hr
   dsimp only at hr
   refine finG (fn := Tryz.f60) (rs := [.tmp 2]) (vs := [_]) hE rfl ⟨rfl, trivial⟩ ?_
   obtain rfl := Option.some.inj hr
   replace hS := hS.tail
   replace hS := hS.tail
   replace hS := hS.tail
   exact ⟨rfl, hS⟩
  replace hq56 := iteF hc82 hq56
  refine W.skip ?_
  refine W.seq (W.region (vp hS hE rfl rfl fun a hE => ?_))
  refine vP hS hE (Gives.fld hE rfl fl111_0) rfl fun a hE => ?_
  refine vP hS hE (Gives.loadB hE 0 rfl rfl rfl ty3) rfl fun a hE => ?_
  refine WL.mapSet keyI hE hS 1 (k := x59.No) (v := true) (.inl rfl) (runs_plain rfl) rfl rfl rfl rfl mp125 rfl ?_; clear hE hS a w; intro a w hE hS
  refine WL.nil ?_
  refine W.seq (W.region (vP hS hE (Gives.fld hE rfl fl111_2) rfl fun a hE => ?_))
  refine vP hS hE (Gives.loadB hE 0 rfl rfl rfl ty109) rfl fun a hE => ?_
  refine vP hS hE (Gives.len hE rfl sl109) rfl fun a hE => ?_
  refine vp hS hE rfl rfl fun a hE => WL.nil ?_
  obtain ⟨q84, hq83, hq56⟩ := bindS hq56
  refine W.cut (fun a w => (.next ()) = q84 ∧ Rep a 93 [(5, .map (some b55)), (20, .slice a0_0 x0.Trains.length c0_0), (21, vi ((x0.Trains).length : Int)), (22, vi ((k58 : Nat) : Int))] ∧ St w s (pc b79 #[vi x59.No, vi x59.Stock, .slice a73 x59.Stops.length c74, .slice a76 x59.Legs.length c77] 111 :: mapC keyI.f Value.bool b55 (mput q67 x59.No true) :: pc b51 #[.slice a0_0 x0.Trains.length c0_0, .slice a0_1 x0.Turns.length c0_1] 25 :: R)) ?_ ?_
  ·refine W.block ?_
   refine W.loop (fun m a w => ∃ (rest87 : List ApiStop) (k85 : Nat), rest87.length = m ∧ x59.Stops.drop k85 = rest87 ∧ GuideCheck.loop2 x59 rest87 k85 = some q84 ∧ Rep a 93 [(5, .map (some b55)), (7, pp b79), (20, .slice a0_0 x0.Trains.length c0_0), (21, vi ((x0.Trains).length : Int)), (22, vi ((k58 : Nat) : Int)), (45, .slice a73 x59.Stops.length c74), (46, vi ((x59.Stops).length : Int)), (47, vi ((k85 : Nat) : Int))] ∧ St w s (pc b79 #[vi x59.No, vi x59.Stock, .slice a73 x59.Stops.length c74, .slice a76 x59.Legs.length c77] 111 :: mapC keyI.f Value.bool b55 (mput q67 x59.No true) :: pc b51 #[.slice a0_0 x0.Trains.length c0_0, .slice a0_1 x0.Turns.length c0_1] 25 :: R)) (m := x59.Stops.length) ⟨x59.Stops, 0, rfl, rfl, hq83, hE.pick _ ⟨rfl, rfl, rfl, rfl, rfl, rfl, rfl, rfl, trivial⟩, hS⟩ ?_
   clear hE hS a w hq83; rintro m91 a w ⟨rest87, k85, rfl, hd88, hq83, hE, hS⟩
   refine W.gen fun K94 hK94 => ?_
   rcases rest87 with _ | ⟨x86, rest87⟩
   ·have hlt89 := drop_nil hd88
    refine W.seq (W.region (vp hS hE rfl rfl fun a hE => WL.nil ?_))
    refine W.seq ?_
    refine W.condF hE rfl (decide_eq_false (by omega)) ?_
    subst hK94
    refine W.exit rfl ?_
    exact ⟨Option.some.inj hq83, hE.pick _ ⟨rfl, rfl, rfl, rfl, trivial⟩, hS⟩
   obtain ⟨hlt89, hx90, hd88⟩ := drop_cons hd88
   rw [GuideCheck.loop2] at hq83
   refine W.seq (W.region (vp hS hE rfl rfl fun a hE => WL.nil ?_))
   refine W.seq ?_
   refine W.condT hE rfl (decide_eq_true (by omega)) ?_
   refine W.skip ?_
   refine W.seq ?_
   refine W.block ?_
   refine W.seq (W.region (vp hS hE rfl rfl fun a hE => ?_))
   obtain ⟨cs95, hl96, hR97, hat98⟩ := h75.at hx90
   subst hR97
   refine vP hS hE (Gives.idx hE k85 rfl rfl sl109 rfl hlt89 (h75.aok hlt89)) rfl fun a hE => ?_
   refine vP hS hE (Gives.loadA hE rfl (fun w h => hat98 w _ h) ty99) rfl fun a hE => ?_
   refine WL.alloc hE hS (runs_plain rfl) zr99 rfl ?_; clear hE hS a w; intro b99 a w hE hS
   refine vp hS hE rfl rfl fun a hE => ?_
   refine WL.storeI hE hS 0 rfl (ApiStop.cells x86) (runs_plain rfl) rfl rfl rfl ty99 rfl rfl rfl rfl ?_; clear hE hS a w; intro a w hE hS
   refine WL.nil ?_
   refine W.block ?_
   refine W.seq ?_
   obtain ⟨q101, hq100, hq83⟩ := bndS hq83
   refine W.cut (fun a w => ∃ (q104 : Bool), q104 = q101 ∧ Rep a 93 [(5, .map (some b55)), (7, pp b79), (8, vi ((k85 : Nat) : Int)), (9, pp b99), (20, .slice a0_0 x0.Trains.length c0_0), (21, vi ((x0.Trains).length : Int)), (22, vi ((k58 : Nat) : Int)), (45, .slice a73 x59.Stops.length c74), (46, vi ((x59.Stops).length : Int)), (47, vi ((k85 : Nat) : Int)), (52, .bool q104)] ∧ St w s (pc b99 (ApiStop.cells x86).toArray 99 :: pc b79 #[vi x59.No, vi x59.Stock, .slice a73 x59.Stops.length c74, .slice a76 x59.Legs.length c77] 111 :: mapC keyI.f Value.bool b55 (mput q67 x59.No true) :: pc b51 #[.slice a0_0 x0.Trains.length c0_0, .slice a0_1 x0.Turns.length c0_1] 25 :: R)) ?_ ?_
   ·refine W.gen fun K105 hK105 => ?_
    refine W.region ?_
    refine vP hS hE (Gives.fld hE rfl fl99_0) rfl fun a hE => ?_
    refine vP hS hE (Gives.loadB hE 0 rfl rfl rfl ty3) rfl fun a hE => ?_
    refine WL.fnq hE (Guidewithin_ok hS  rfl (r := Guidewithin x86.Station 0 11)) (runs_plain rfl) bd61 rfl rfl rfl ?_
    clear hE hS; rintro e w ⟨rfl, hS⟩; refine ⟨_, rfl, ?_⟩; clear a; intro a hE
    refine v2 hS hE rfl rfl rfl rfl fun a hE => ?_
    rcases Bool.eq_false_or_eq_true (!(Guidewithin x86.Station 0 11)) with hg106 | hg106
    ·replace hq100 := iteT hg106 hq100
     refine nO hE rfl rfl rfl (by rw [hg106]; decide) rfl fun a hE => ?_
     refine nO hE rfl rfl rfl (by rw [hg106]; decide) rfl fun a hE => ?_
     refine nO hE rfl rfl rfl (by rw [hg106]; decide) rfl fun a hE => ?_
     refine nO hE rfl rfl rfl (by rw [hg106]; decide) rfl fun a hE => ?_
     refine vP hS hE (Gives.pickT hE rfl hg106 rfl) rfl fun a hE => ?_
     refine vp hS hE rfl rfl fun a hE => ?_
     refine nO hE rfl rfl rfl (by decide) rfl fun a hE => ?_
     refine nO hE rfl rfl rfl (by decide) rfl fun a hE => ?_
     refine nO hE rfl rfl rfl (by decide) rfl fun a hE => ?_
     refine nO hE rfl rfl rfl (by decide) rfl fun a hE => ?_
     refine vP hS hE (Gives.pickT hE rfl rfl rfl) rfl fun a hE => ?_
     refine vp hS hE rfl rfl fun a hE => WL.nil ?_
     subst hK105
     exact ⟨true, hq100, hE.pick _ ⟨rfl, rfl, rfl, rfl, rfl, rfl, rfl, rfl, rfl, rfl, rfl, trivial⟩, hS⟩
    replace hq100 := iteF hg106 hq100
    refine WL.vS hS hE (runs_if hE rfl rfl rfl hg106) (Gives.fld hE rfl fl99_2) rfl fun a hE => ?_
    refine WL.vS hS hE (runs_if hE rfl rfl rfl hg106) (Gives.loadB hE 0 rfl rfl rfl ty3) rfl fun a hE => ?_
    refine WL.fnq hE (Guidewithin_ok hS  rfl (r := Guidewithin x86.Arr 0 28800)) (runs_if hE rfl rfl rfl hg106) bd61 rfl rfl rfl ?_
    clear hE hS; rintro e w ⟨rfl, hS⟩; refine ⟨_, rfl, ?_⟩; clear a; intro a hE
    refine WL.vS hS hE (runs_if hE rfl rfl rfl hg106) (Gives.p hE rfl) rfl fun a hE => ?_
    refine vP hS hE (Gives.pickF hE rfl hg106 rfl) rfl fun a hE => ?_
    refine vp hS hE rfl rfl fun a hE => ?_
    rcases Bool.eq_false_or_eq_true (!(Guidewithin x86.Arr 0 28800)) with hg107 | hg107
    ·replace hq100 := iteT hg107 hq100
     refine nO hE rfl rfl rfl (by rw [hg107]; decide) rfl fun a hE => ?_
     refine nO hE rfl rfl rfl (by rw [hg107]; decide) rfl fun a hE => ?_
     refine nO hE rfl rfl rfl (by rw [hg107]; decide) rfl fun a hE => ?_
     refine nO hE rfl rfl rfl (by rw [hg107]; decide) rfl fun a hE => ?_
     refine vP hS hE (Gives.pickT hE rfl hg107 rfl) rfl fun a hE => ?_
     refine vp hS hE rfl rfl fun a hE => WL.nil ?_
     subst hK105
     exact ⟨true, hq100, hE.pick _ ⟨rfl, rfl, rfl, rfl, rfl, rfl, rfl, rfl, rfl, rfl, rfl, trivial⟩, hS⟩
    replace hq100 := iteF hg107 hq100
    refine WL.vS hS hE (runs_if hE rfl rfl rfl hg107) (Gives.fld hE rfl fl99_3) rfl fun a hE => ?_
    refine WL.vS hS hE (runs_if hE rfl rfl rfl hg107) (Gives.loadB hE 0 rfl rfl rfl ty3) rfl fun a hE => ?_
    refine WL.fnq hE (Guidewithin_ok hS  rfl (r := Guidewithin x86.Dep 0 28800)) (runs_if hE rfl rfl rfl hg107) bd61 rfl rfl rfl ?_
    clear hE hS; rintro e w ⟨rfl, hS⟩; refine ⟨_, rfl, ?_⟩; clear a; intro a hE
    refine WL.vS hS hE (runs_if hE rfl rfl rfl hg107) (Gives.p hE rfl) rfl fun a hE => ?_
    refine vP hS hE (Gives.pickF hE rfl hg107 rfl) rfl fun a hE => ?_
    refine vp hS hE rfl rfl fun a hE => WL.nil ?_
    subst hK105
    exact ⟨!(Guidewithin x86.Dep 0 28800), hq100, hE.pick _ ⟨rfl, rfl, rfl, rfl, rfl, rfl, rfl, rfl, rfl, rfl, rfl, trivial⟩, hS⟩
   clear hE hS a w; rintro a w ⟨q104, rfl, hE, hS⟩
   refine W.cond hE rfl (fun hc108 => ?_) (fun hc108 => ?_)
   ·replace hq83 := iteT hc108 hq83
    refine W.seq (W.region (vp hS hE rfl rfl fun a hE => WL.nil ?_))
    refine W.ret ?_
    subst hK94
    subst hK68
    rw [← Option.some.inj hq83] at hq56
    dsimp only at hq56
    rw [← Option.some.inj hq56] at hr
    dsimp only at hr
    refine finG (fn := Tryz.f60) (rs := [.tmp 2]) (vs := [_]) hE rfl ⟨rfl, trivial⟩ ?_
    obtain rfl := Option.some.inj hr
    replace hS := hS.tail
    replace hS := hS.tail
    replace hS := hS.tail
    replace hS := hS.tail
    exact ⟨rfl, hS⟩
   replace hq83 := iteF hc108 hq83
   refine W.seq ?_
   obtain ⟨q110, hq109, hq83⟩ := bindS hq83
   refine W.cut (fun a w => ∃ (q113 : Bool), q113 = q110 ∧ Rep a 93 [(5, .map (some b55)), (7, pp b79), (20, .slice a0_0 x0.Trains.length c0_0), (21, vi ((x0.Trains).length : Int)), (22, vi ((k58 : Nat) : Int)), (45, .slice a73 x59.Stops.length c74), (46, vi ((x59.Stops).length : Int)), (47, vi ((k85 : Nat) : Int)), (69, .bool q113)] ∧ St w s (pc b99 (ApiStop.cells x86).toArray 99 :: pc b79 #[vi x59.No, vi x59.Stock, .slice a73 x59.Stops.length c74, .slice a76 x59.Legs.length c77] 111 :: mapC keyI.f Value.bool b55 (mput q67 x59.No true) :: pc b51 #[.slice a0_0 x0.Trains.length c0_0, .slice a0_1 x0.Turns.length c0_1] 25 :: R)) ?_ ?_
   ·refine W.gen fun K114 hK114 => ?_
    refine W.regionQ (C := fun w => St w s (pc b99 (ApiStop.cells x86).toArray 99 :: pc b79 #[vi x59.No, vi x59.Stock, .slice a73 x59.Stops.length c74, .slice a76 x59.Legs.length c77] 111 :: mapC keyI.f Value.bool b55 (mput q67 x59.No true) :: pc b51 #[.slice a0_0 x0.Trains.length c0_0, .slice a0_1 x0.Turns.length c0_1] 25 :: R)) mixed (by kernel_rfl) hS.drew ?_
    refine qP hE (Gives.fld hE rfl fl99_3) rfl fun a hE => ?_
    refine qP hE (Gives.loadB hE 0 rfl rfl rfl ty3) rfl fun a hE => ?_
    refine qP hE (Gives.fld hE rfl fl99_2) rfl fun a hE => ?_
    refine qP hE (Gives.loadB hE 0 rfl rfl rfl ty3) rfl fun a hE => ?_
    refine qP hE (Gives.p hE rfl) rfl fun a hE => ?_
    refine qP hE (Gives.p hE rfl) rfl fun a hE => ?_
    rcases Bool.eq_false_or_eq_true (decide (x86.Dep < x86.Arr)) with hg115 | hg115
    ·replace hq109 := iteT hg115 hq109
     refine QL.no hE (runs_not hE rfl rfl rfl (by rw [hg115]; decide)) rfl fun a hE => ?_
     refine QL.no hE (runs_not hE rfl rfl rfl (by rw [hg115]; decide)) rfl fun a hE => ?_
     refine QL.no hE (runs_not hE rfl rfl rfl (by rw [hg115]; decide)) rfl fun a hE => ?_
     refine QL.no hE (runs_undef hE rfl rfl rfl) rfl fun a hE => ?_
     refine QL.no hE (runs_undef hE rfl rfl rfl) rfl fun a hE => ?_
     refine QL.no hE (runs_undef hE rfl rfl rfl) rfl fun a hE => ?_
     refine QL.no hE (runs_undef hE rfl rfl rfl) rfl fun a hE => ?_
     refine QL.no hE (runs_undef hE rfl rfl rfl) rfl fun a hE => ?_
     refine QL.no hE (runs_undef hE rfl rfl rfl) rfl fun a hE => ?_
     refine QL.no hE (runs_undef hE rfl rfl rfl) rfl fun a hE => ?_
     refine QL.no hE (runs_undef hE rfl rfl rfl) rfl fun a hE => ?_
     refine QL.no hE (runs_undef hE rfl rfl rfl) rfl fun a hE => ?_
     refine QL.no hE (runs_undef hE rfl rfl rfl) rfl fun a hE => ?_
     refine QL.no hE (runs_not hE rfl rfl rfl (by rw [hg115]; decide)) rfl fun a hE => ?_
     refine qP hE (Gives.pickT hE rfl hg115 rfl) rfl fun a hE => ?_
     refine qP hE (Gives.p hE rfl) rfl fun a hE => ?_
     refine QL.nil ?_; clear hS w; intro w hS
     subst hK114
     exact ⟨true, Option.some.inj hq109, hE.pick _ ⟨rfl, rfl, rfl, rfl, rfl, rfl, rfl, rfl, rfl, trivial⟩, hS⟩
    replace hq109 := iteF hg115 hq109
    refine QL.v hE (runs_if hE rfl rfl rfl hg115) (Gives.p hE rfl) rfl fun a hE => ?_
    refine QL.v hE (runs_if hE rfl rfl rfl hg115) (Gives.p hE rfl) rfl fun a hE => ?_
    refine QL.v hE (runs_if hE rfl rfl rfl hg115) (Gives.p hE rfl) rfl fun a hE => ?_
    rcases Bool.eq_false_or_eq_true (decide (((k85 : Nat) : Int) > 0)) with hg116 | hg116
    ·replace hq109 := iteT hg116 hq109
     refine QL.v hE (runs_if hE rfl rfl rfl hg116) (Gives.fld hE rfl fl99_2) rfl fun a hE => ?_
     refine QL.v hE (runs_if hE rfl rfl rfl hg116) (Gives.loadB hE 0 rfl rfl rfl ty3) rfl fun a hE => ?_
     refine QL.v hE (runs_if hE rfl rfl rfl hg116) (Gives.fld hE rfl fl111_2) rfl fun a hE => ?_
     refine QL.v hE (runs_if hE rfl rfl rfl hg116) (Gives.loadB hE 1 rfl rfl rfl ty109) rfl fun a hE => ?_
     refine QL.v hE (runs_if hE rfl rfl rfl hg116) (Gives.p hE rfl) rfl fun a hE => ?_
     refine QL.v hE (runs_if hE rfl rfl rfl hg116) (Gives.p hE rfl) rfl fun a hE => ?_
     obtain ⟨x117, hx118, hq109⟩ := bindS hq109
     obtain ⟨hi119, hlt120, hy121⟩ := gx_some hx118
     obtain ⟨cs122, hl123, hR124, hat125⟩ := h75.at hy121
     subst hR124
     refine QL.v hE (runs_if hE rfl rfl rfl hg116) (Gives.idx hE (w64 (((k85 : Nat) : Int) - 1)).toNat rfl rfl sl109 hi119 hlt120 (h75.aok hlt120)) rfl fun a hE => ?_
     refine QL.v hE (runs_if hE rfl rfl rfl hg116) (Gives.fld hE rfl fl99_3) rfl fun a hE => ?_
     refine QL.v hE (runs_if hE rfl rfl rfl hg116) (Gives.load1 hE rfl (fun w h => (hat125 w _ h).one rfl) ty3) rfl fun a hE => ?_
     refine QL.v hE (runs_if hE rfl rfl rfl hg116) (Gives.p hE rfl) rfl fun a hE => ?_
     refine QL.v hE (runs_if hE rfl rfl rfl hg115) (Gives.pickT hE rfl hg116 rfl) rfl fun a hE => ?_
     refine qP hE (Gives.pickF hE rfl hg115 rfl) rfl fun a hE => ?_
     refine qP hE (Gives.p hE rfl) rfl fun a hE => ?_
     refine QL.nil ?_; clear hS w; intro w hS
     subst hK114
     exact ⟨decide (x86.Arr ≤ x117.Dep), Option.some.inj hq109, hE.pick _ ⟨rfl, rfl, rfl, rfl, rfl, rfl, rfl, rfl, rfl, trivial⟩, hS⟩
    replace hq109 := iteF hg116 hq109
    refine QL.no hE (runs_not hE rfl rfl rfl (by rw [hg116]; decide)) rfl fun a hE => ?_
    refine QL.no hE (runs_not hE rfl rfl rfl (by rw [hg116]; decide)) rfl fun a hE => ?_
    refine QL.no hE (runs_not hE rfl rfl rfl (by rw [hg116]; decide)) rfl fun a hE => ?_
    refine QL.no hE (runs_not hE rfl rfl rfl (by rw [hg116]; decide)) rfl fun a hE => ?_
    refine QL.no hE (runs_not hE rfl rfl rfl (by rw [hg116]; decide)) rfl fun a hE => ?_
    refine QL.no hE (runs_not hE rfl rfl rfl (by rw [hg116]; decide)) rfl fun a hE => ?_
    refine QL.no hE (runs_not hE rfl rfl rfl (by rw [hg116]; decide)) rfl fun a hE => ?_
    refine QL.no hE (runs_not hE rfl rfl rfl (by rw [hg116]; decide)) rfl fun a hE => ?_
    refine QL.no hE (runs_not hE rfl rfl rfl (by rw [hg116]; decide)) rfl fun a hE => ?_
    refine QL.no hE (runs_not hE rfl rfl rfl (by rw [hg116]; decide)) rfl fun a hE => ?_
    refine QL.v hE (runs_if hE rfl rfl rfl hg115) (Gives.pickF hE rfl hg116 rfl) rfl fun a hE => ?_
    refine qP hE (Gives.pickF hE rfl hg115 rfl) rfl fun a hE => ?_
    refine qP hE (Gives.p hE rfl) rfl fun a hE => ?_
    refine QL.nil ?_; clear hS w; intro w hS
    subst hK114
    exact ⟨false, Option.some.inj hq109, hE.pick _ ⟨rfl, rfl, rfl, rfl, rfl, rfl, rfl, rfl, rfl, trivial⟩, hS⟩
   clear hE hS a w; rintro a w ⟨q113, rfl, hE, hS⟩
   refine W.cond hE rfl (fun hc126 => ?_) (fun hc126 => ?_)
   ·replace hq83 := iteT hc126 hq83
    refine W.seq (W.region (vp hS hE rfl rfl fun a hE => WL.nil ?_))
    refine W.ret ?_
    subst hK94
    subst hK68
    rw [← Option.some.inj hq83] at hq56
    dsimp only at hq56
    rw [← Option.some.inj hq56] at hr
    dsimp only at hr
    refine finG (fn := Tryz.f60) (rs := [.tmp 2]) (vs := [_]) hE rfl ⟨rfl, trivial⟩ ?_
    obtain rfl := Option.some.inj hr
    replace hS := hS.tail
    replace hS := hS.tail
    replace hS := hS.tail
    replace hS := hS.tail
    exact ⟨rfl, hS⟩
   replace hq83 := iteF hc126 hq83
   refine W.skip ?_
   refine W.region ?_
   refine vP hS hE (Gives.inc hE rfl (by have := h75.small; omega)) rfl fun a hE => ?_
   refine vp hS hE rfl rfl fun a hE => WL.nil ?_
   replace hS := hS.tail
   subst hK94
   exact ⟨rest87.length, Nat.lt_succ_self _, rest87, k85 + 1, rfl, hd88, hq83, hE.pick _ ⟨rfl, rfl, rfl, rfl, rfl, rfl, rfl, rfl, trivial⟩, hS⟩
  clear hE hS a w; rintro a w ⟨rfl, hE, hS⟩
  dsimp only at hq56
  refine W.region ?_
  refine vP hS hE (Gives.inc hE rfl (by have := h0_0.small; omega)) rfl fun a hE => ?_
  refine vp hS hE rfl rfl fun a hE => WL.nil ?_
  replace hS := hS.tail
  subst hK68
  exact ⟨rest60.length, Nat.lt_succ_self _, rest60, k58 + 1, (mput q67 x59.No true), rfl, hd61, hq56, hE.pick _ ⟨rfl, rfl, rfl, rfl, trivial⟩, hS⟩
 clear hE hS a w; rintro a w ⟨q67, rfl, hE, hS⟩
 dsimp only at hr
 refine W.seq (W.region (vp hS hE rfl rfl fun a hE => WL.nil ?_))
 refine W.ret ?_
 refine finG (fn := Tryz.f60) (rs := [.tmp 2]) (vs := [_]) hE rfl ⟨rfl, trivial⟩ ?_
 obtain rfl := Option.some.inj hr
 replace hS := hS.tail
 replace hS := hS.tail
 exact ⟨rfl, hS⟩
set_option maxHeartbeats 8000000 in
theorem GuideBoard_1_v1_ok  {w : World} {s : Sg} {R : List HP} {pb0 : Nat} {pb1 : Nat} {pb2 : Nat} {pb3 : Nat} {x0 : ApiTrain} {a0_0 : Option Addr} {c0_0 : Nat} {a0_1 : Option Addr} {c0_1 : Nat} {x1 : Bool} {y0 : Int} {y1_0 : List (Int × ApiTrain)} {b_v0 : Nat} {l_v0 : List (Int × List Value)} {y2 : Int} {y3 : List GuideRow} {a_v1 : Option Addr} {c_v1 n_v1 : Nat} {cs_v1 : List Value} (hS : St w s (pc pb0 #[vi y0] 3 :: pc pb1 #[.map (some b_v0)] 124 :: pc pb2 #[vi y2] 3 :: pc pb3 #[.slice a_v1 n_v1 c_v1] 123 :: mapC keyI.f aggv b_v0 l_v0 :: vecC 127 7 a_v1 c_v1 n_v1 cs_v1 :: R)) (h0_0 : Sl 4 RApiStop s a0_0 c0_0 x0.Stops) (_h0_1 : Sl 1 (RL 1 (RI .i64)) s a0_1 c0_1 x0.Legs) (h_v0 : MRv RApiTrain s l_v0 y1_0) (h_v1 : Ev 7 RGuideRow s cs_v1 y3) (hn_v1 : y3.length = n_v1) {r : (List GuideRow)} (hr : GuideBoard_1_v1 x0 x1 y0 y1_0 y2 y3 = some r) :
  Calls Tryz.prog 62 [.agg (List.toArray [vi x0.No, vi x0.Stock, .slice a0_0 x0.Stops.length c0_0, .slice a0_1 x0.Legs.length c0_1]), .bool x1, pp pb0, pp pb1, pp pb2, pp pb3].toArray w (fun e w => ∃ (a52 : Option Addr) (c53 : Nat) (n55 : Nat) (cs56 : List Value), e = .returned (.tuple #[]) ∧ Ev 7 RGuideRow s cs56 r ∧ r.length = n55 ∧ St w s (pc pb0 #[vi y0] 3 :: pc pb1 #[.map (some b_v0)] 124 :: pc pb2 #[vi y2] 3 :: pc pb3 #[.slice a52 n55 c53] 123 :: mapC keyI.f aggv b_v0 l_v0 :: vecC 127 7 a52 c53 n55 cs56 :: R)) := by
 refine enter Tryz.func62 rfl rfl rfl fun a hE => ?_
 rw [GuideBoard_1_v1] at hr
 subst hn_v1
 refine W.seq (W.region ?_)
 refine WL.box hE hS (runs_plain rfl) rfl rfl rfl ?_; clear hE hS a w; intro b58 a w hE hS
 refine WL.nil ?_
 refine W.seq (W.region (vP hS hE (Gives.fld hE rfl fl111_2) rfl fun a hE => ?_))
 refine vP hS hE (Gives.loadB hE 0 rfl rfl rfl ty109) rfl fun a hE => ?_
 refine vP hS hE (Gives.len hE rfl sl109) rfl fun a hE => ?_
 refine v2 hS hE rfl rfl rfl rfl fun a hE => WL.nil ?_
 refine W.seq (W.region (vP hS hE (Gives.fld hE rfl fl111_2) rfl fun a hE => ?_))
 refine vP hS hE (Gives.loadB hE 0 rfl rfl rfl ty109) rfl fun a hE => ?_
 refine vp hS hE rfl rfl fun a hE => ?_
 obtain ⟨x59, hx60, hr⟩ := bindS hr
 obtain ⟨a61, c62, heq63, h64⟩ := h0_0.cut hx60
 obtain ⟨h65, h66, h67, _⟩ := cutl_some hx60
 refine vP hS hE (Gives.slH hE sl109 rfl rfl h66 (Int.le_trans h67 (by have := h0_0.len; omega)) heq63) rfl fun a hE => ?_
 refine vP hS hE (Gives.len hE rfl sl109) rfl fun a hE => ?_
 refine vp hS hE rfl rfl fun a hE => WL.nil ?_
 obtain ⟨q69, hq68, hr⟩ := bindS hr
 refine W.cut (fun a w => ∃ (q79 : List GuideRow), ∃ (a80 : Option Addr), ∃ (c81 : Nat), ∃ (n83 : Nat), ∃ (cs84 : List Value), q79 = q69 ∧ Ev 7 RGuideRow s cs84 q79 ∧ q79.length = n83 ∧ Rep a 92 [] ∧ St w s (pc b58 #[vi x0.No, vi x0.Stock, .slice a0_0 x0.Stops.length c0_0, .slice a0_1 x0.Legs.length c0_1] 111 :: pc pb0 #[vi y0] 3 :: pc pb1 #[.map (some b_v0)] 124 :: pc pb2 #[vi y2] 3 :: pc pb3 #[.slice a80 n83 c81] 123 :: mapC keyI.f aggv b_v0 l_v0 :: vecC 127 7 a80 c81 n83 cs84 :: R)) ?_ ?_
 ·refine W.block ?_
  refine W.loop (fun m a w => ∃ (rest72 : List ApiStop) (k70 : Nat), ∃ (q79 : List GuideRow), ∃ (a80 : Option Addr), ∃ (c81 : Nat), ∃ (n83 : Nat), ∃ (cs84 : List Value), rest72.length = m ∧ x59.drop k70 = rest72 ∧ GuideBoard_1_v1.loop1 x0 x1 y0 y1_0 y2 rest72 k70 q79 = some q69 ∧ Ev 7 RGuideRow s cs84 q79 ∧ q79.length = n83 ∧ Rep a 92 [(1, .bool x1), (2, pp pb0), (3, pp pb1), (4, pp pb2), (5, pp pb3), (6, pp b58), (8, vi (w64 (((x0.Stops).length : Int) - 1))), (20, .slice a61 x59.length c62), (21, vi ((x59).length : Int)), (22, vi ((k70 : Nat) : Int))] ∧ St w s (pc b58 #[vi x0.No, vi x0.Stock, .slice a0_0 x0.Stops.length c0_0, .slice a0_1 x0.Legs.length c0_1] 111 :: pc pb0 #[vi y0] 3 :: pc pb1 #[.map (some b_v0)] 124 :: pc pb2 #[vi y2] 3 :: pc pb3 #[.slice a80 n83 c81] 123 :: mapC keyI.f aggv b_v0 l_v0 :: vecC 127 7 a80 c81 n83 cs84 :: R)) (m := x59.length) ⟨x59, 0, y3, a_v1, c_v1, y3.length, cs_v1, rfl, rfl, hq68, h_v1, (rfl), hE.pick _ ⟨rfl, rfl, rfl, rfl, rfl, rfl, rfl, rfl, rfl, rfl, trivial⟩, hS⟩ ?_
  clear hE hS a w hq68; rintro m76 a w ⟨rest72, k70, q79, a80, c81, n83, cs84, rfl, hd73, hq68, h82, rfl, hE, hS⟩
  refine W.gen fun K86 hK86 => ?_
  rcases rest72 with _ | ⟨x71, rest72⟩
  ·have hlt74 := drop_nil hd73
   refine W.seq (W.region (vp hS hE rfl rfl fun a hE => WL.nil ?_))
   refine W.seq ?_
   refine W.condF hE rfl (decide_eq_false (by omega)) ?_
   subst hK86
   refine W.exit rfl ?_
   exact ⟨q79, a80, c81, q79.length, cs84, Option.some.inj hq68, h82, rfl, hE.pick _ trivial, hS⟩
  obtain ⟨hlt74, hx75, hd73⟩ := drop_cons hd73
  rw [GuideBoard_1_v1.loop1] at hq68
  refine W.seq (W.region (vp hS hE rfl rfl fun a hE => WL.nil ?_))
  refine W.seq ?_
  refine W.condT hE rfl (decide_eq_true (by omega)) ?_
  refine W.skip ?_
  refine W.seq ?_
  refine W.block ?_
  refine W.seq (W.region (vp hS hE rfl rfl fun a hE => ?_))
  obtain ⟨cs87, hl88, hR89, hat90⟩ := h64.at hx75
  subst hR89
  refine vP hS hE (Gives.idx hE k70 rfl rfl sl109 rfl hlt74 (h64.aok hlt74)) rfl fun a hE => ?_
  refine vP hS hE (Gives.loadA hE rfl (fun w h => hat90 w _ h) ty99) rfl fun a hE => ?_
  refine WL.alloc hE hS (runs_plain rfl) zr99 rfl ?_; clear hE hS a w; intro b91 a w hE hS
  refine vp hS hE rfl rfl fun a hE => ?_
  refine WL.storeI hE hS 0 rfl (ApiStop.cells x71) (runs_plain rfl) rfl rfl rfl ty99 rfl rfl rfl rfl ?_; clear hE hS a w; intro a w hE hS
  refine WL.nil ?_
  refine W.seq ?_
  refine W.seq (W.region (vP hS hE (Gives.fld hE rfl fl99_0) rfl fun a hE => ?_))
  refine vP hS hE (Gives.loadB hE 0 rfl rfl rfl ty3) rfl fun a hE => ?_
  refine vP hS hE (Gives.loadB hE 2 rfl rfl rfl ty3) rfl fun a hE => ?_
  refine vp hS hE rfl rfl fun a hE => WL.nil ?_
  refine W.cond hE rfl (fun hc92 => ?_) (fun hc92 => ?_)
  ·replace hq68 := iteT hc92 hq68
   refine W.exit rfl ?_
   refine W.region ?_
   refine vP hS hE (Gives.inc hE rfl (by have := h64.small; omega)) rfl fun a hE => ?_
   refine vp hS hE rfl rfl fun a hE => WL.nil ?_
   replace hS := hS.tail
   subst hK86
   exact ⟨rest72.length, Nat.lt_succ_self _, rest72, k70 + 1, q79, a80, c81, q79.length, cs84, rfl, hd73, hq68, h82, rfl, hE.pick _ ⟨rfl, rfl, rfl, rfl, rfl, rfl, rfl, rfl, rfl, rfl, trivial⟩, hS⟩
  replace hq68 := iteF hc92 hq68
  refine W.skip ?_
  refine W.seq ?_
  refine W.gen fun K93 hK93 => ?_
  refine W.regionE (dup (fun w => St w s (pc b91 (ApiStop.cells x71).toArray 99 :: pc b58 #[vi x0.No, vi x0.Stock, .slice a0_0 x0.Stops.length c0_0, .slice a0_1 x0.Legs.length c0_1] 111 :: pc pb0 #[vi y0] 3 :: pc pb1 #[.map (some b_v0)] 124 :: pc pb2 #[vi y2] 3 :: pc pb3 #[.slice a80 q79.length c81] 123 :: mapC keyI.f aggv b_v0 l_v0 :: vecC 127 7 a80 c81 q79.length cs84 :: R))) (fun b i => cond b ([0, 1, 2, 3, 4, 5, 6, 7, 8, 9, 10, 11, 12, 13, 14, 15].contains i) ([0, 1, 2, 3, 4, 5, 6, 7, 8, 9, 10, 11, 12, 13, 14, 15].contains i)) mixed ?_
  replace hS := hS.drew
  refine tP (i := 0) hE rfl (by kernel_rfl) (Gives.fld hE rfl fl99_3) rfl hS hS fun a hE => ?_
  refine tT (i := 1) true rfl hE rfl (by kernel_rfl) (Gives.loadB hE 0 rfl rfl rfl ty3) rfl hS hS fun a hE => ?_
  refine tP (i := 2) hE rfl (by kernel_rfl) (Gives.fld hE rfl fl111_0) rfl hS hS fun a hE => ?_
  refine tT (i := 3) true rfl hE rfl (by kernel_rfl) (Gives.loadB hE 1 rfl rfl rfl ty3) rfl hS hS fun a hE => ?_
  refine tP (i := 4) hE rfl (by kernel_rfl) (Gives.fld hE rfl fl111_2) rfl hS hS fun a hE => ?_
  refine tT (i := 5) true rfl hE rfl (by kernel_rfl) (Gives.loadB hE 1 rfl rfl rfl ty109) rfl hS hS fun a hE => ?_
  refine tP (i := 6) hE rfl (by kernel_rfl) (Gives.p hE rfl) rfl hS hS fun a hE => ?_
  obtain ⟨x94, hx95, hq68⟩ := bindS hq68
  obtain ⟨hi96, hlt97, hy98⟩ := gx_some hx95
  obtain ⟨cs99, hl100, hR101, hat102⟩ := h0_0.at hy98
  subst hR101
  refine tP (i := 7) hE rfl (by kernel_rfl) (Gives.idx hE (w64 (((x0.Stops).length : Int) - 1)).toNat rfl rfl sl109 hi96 hlt97 (h0_0.aok hlt97)) rfl hS hS fun a hE => ?_
  refine tP (i := 8) hE rfl (by kernel_rfl) (Gives.fld hE rfl fl99_0) rfl hS hS fun a hE => ?_
  refine tT (i := 9) true rfl hE rfl (by kernel_rfl) (Gives.load1 hE rfl (fun w h => (hat102 w _ h).one rfl) ty3) rfl hS hS fun a hE => ?_
  refine tP (i := 10) hE rfl (by kernel_rfl) (Gives.fld hE rfl fl99_1) rfl hS hS fun a hE => ?_
  refine tT (i := 11) true rfl hE rfl (by kernel_rfl) (Gives.loadB hE 0 rfl rfl rfl ty3) rfl hS hS fun a hE => ?_
  refine tP (i := 12) hE rfl (by kernel_rfl) (Gives.p hE rfl) rfl hS hS fun a hE => ?_
  refine tP (i := 13) hE rfl (by kernel_rfl) (Gives.build hE (vs := [(0, vi x71.Dep), (2, vi x0.No), (3, vi x94.Station), (4, vi x71.Track), (5, .bool x1)]) [vi x71.Dep, vi 0, vi x0.No, vi x94.Station, vi x71.Track, .bool x1] rfl (by kernel_rfl)) rfl hS hS fun a hE => ?_
  refine Rg.one (i := 14) true true rfl (by kernel_rfl) (by kernel_rfl) (by kernel_rfl) ?_
  refine WL.alloc hE hS (runs_plain rfl) zr44 rfl ?_; clear hE hS a w; intro b103 a w hE hS
  refine WL.nil ?_
  refine ⟨⟨fun _ => (hS.tail), fun _ => (hS.tail)⟩, ?_⟩
  refine Rg.one (i := 15) true true rfl (by kernel_rfl) (by kernel_rfl) (by kernel_rfl) ?_
  refine WL.storeI hE hS 0 rfl [vi x71.Dep, vi 0, vi x0.No, vi x94.Station, vi x71.Track, .bool x1] (runs_plain rfl) rfl rfl rfl ty44 rfl rfl rfl rfl ?_; clear hE hS a w; intro a w hE hS
  refine WL.nil ?_
  refine ⟨⟨fun _ => (hS.tail), fun _ => (hS.tail)⟩, ?_⟩
  refine Rg.done (by kernel_rfl) ?_
  subst hK93
  refine W.seq ?_
  refine W.seq (W.region (vp hS hE rfl rfl fun a hE => WL.nil ?_))
  obtain ⟨q105, hq104, hq68⟩ := bindS hq68
  refine W.cut (fun a w => ∃ (q108 : Int), ∃ (q109 : Int), ∃ (q110 : Int), (q108, q109, q110) = q105 ∧ Rep a 92 [(1, .bool x1), (2, pp pb0), (3, pp pb1), (4, pp pb2), (5, pp pb3), (6, pp b58), (8, vi (w64 (((x0.Stops).length : Int) - 1))), (9, vi ((k70 : Nat) : Int)), (11, pp b103), (20, .slice a61 x59.length c62), (21, vi ((x59).length : Int)), (22, vi ((k70 : Nat) : Int))] ∧ St w s (pc b103 #[vi q108, vi q109, vi x0.No, vi x94.Station, vi q110, .bool x1] 44 :: pc b91 (ApiStop.cells x71).toArray 99 :: pc b58 #[vi x0.No, vi x0.Stock, .slice a0_0 x0.Stops.length c0_0, .slice a0_1 x0.Legs.length c0_1] 111 :: pc pb0 #[vi y0] 3 :: pc pb1 #[.map (some b_v0)] 124 :: pc pb2 #[vi y2] 3 :: pc pb3 #[.slice a80 q79.length c81] 123 :: mapC keyI.f aggv b_v0 l_v0 :: vecC 127 7 a80 c81 q79.length cs84 :: R)) ?_ ?_
  ·refine W.gen fun K111 hK111 => ?_
   refine W.cond hE rfl (fun hc112 => ?_) (fun hc112 => ?_)
   ·replace hq104 := iteT hc112 hq104
    refine W.region ?_
    refine vP hS hE (Gives.fld hE rfl fl44_4) rfl fun a hE => ?_
    refine WL.storeI hE hS 0 rfl [vi x71.Dep, vi 0, vi x0.No, vi x94.Station, vi (-1), .bool x1] (runs_plain rfl) rfl rfl rfl ty3 rfl rfl rfl rfl ?_; clear hE hS a w; intro a w hE hS
    refine WL.nil ?_
    subst hK111
    exact ⟨x71.Dep, 0, (-1), Option.some.inj hq104, hE.pick _ ⟨rfl, rfl, rfl, rfl, rfl, rfl, rfl, rfl, rfl, rfl, rfl, rfl, trivial⟩, hS⟩
   replace hq104 := iteF hc112 hq104
   refine W.seq (W.region (vP hS hE (Gives.loadB hE 4 rfl rfl rfl ty124) rfl fun a hE => ?_))
   refine vP hS hE (Gives.fld hE rfl fl111_0) rfl fun a hE => ?_
   refine vP hS hE (Gives.loadB hE 2 rfl rfl rfl ty3) rfl fun a hE => ?_
   obtain ⟨x113, hx114, hq104⟩ := bndS hq104
   obtain ⟨cs115, e116, hR117⟩ := MRv.at (Rr := RApiTrain) (zc := [vi 0, vi 0, .slice none 0 0, .slice none 0 0]) (zx := (ApiTrain.mk 0 0 [] [])) ⟨_, _, _, _, rfl, Sl.nil, Sl.nil⟩ h_v0 x0.No
   rw [hx114] at hR117
   obtain ⟨a118, c119, a121, c122, rfl, h120, h123⟩ := hR117
   refine vP hS hE (Gives.meGet keyI hE 7 (k := x0.No) rfl rfl rfl mp124 ze111 e116) rfl fun a hE => ?_
   refine vP hS hE (Gives.field1 hE rfl fd111_2 ty109 rfl) rfl fun a hE => ?_
   refine vp hS hE rfl rfl fun a hE => WL.nil ?_
   refine W.seq ?_
   obtain ⟨q125, hq124, hq104⟩ := bindS hq104
   refine W.cut (fun a w => ∃ (q128 : Bool), q128 = q125 ∧ Rep a 92 [(1, .bool x1), (2, pp pb0), (3, pp pb1), (4, pp pb2), (5, pp pb3), (6, pp b58), (8, vi (w64 (((x0.Stops).length : Int) - 1))), (9, vi ((k70 : Nat) : Int)), (10, pp b91), (11, pp b103), (12, .slice a118 x113.Stops.length c119), (20, .slice a61 x59.length c62), (21, vi ((x59).length : Int)), (22, vi ((k70 : Nat) : Int)), (64, .bool q128)] ∧ St w s (pc b103 #[vi x71.Dep, vi 0, vi x0.No, vi x94.Station, vi x71.Track, .bool x1] 44 :: pc b91 (ApiStop.cells x71).toArray 99 :: pc b58 #[vi x0.No, vi x0.Stock, .slice a0_0 x0.Stops.length c0_0, .slice a0_1 x0.Legs.length c0_1] 111 :: pc pb0 #[vi y0] 3 :: pc pb1 #[.map (some b_v0)] 124 :: pc pb2 #[vi y2] 3 :: pc pb3 #[.slice a80 q79.length c81] 123 :: mapC keyI.f aggv b_v0 l_v0 :: vecC 127 7 a80 c81 q79.length cs84 :: R)) ?_ ?_
   ·refine W.gen fun K129 hK129 => ?_
    refine W.regionQ (C := fun w => St w s (pc b103 #[vi x71.Dep, vi 0, vi x0.No, vi x94.Station, vi x71.Track, .bool x1] 44 :: pc b91 (ApiStop.cells x71).toArray 99 :: pc b58 #[vi x0.No, vi x0.Stock, .slice a0_0 x0.Stops.length c0_0, .slice a0_1 x0.Legs.length c0_1] 111 :: pc pb0 #[vi y0] 3 :: pc pb1 #[.map (some b_v0)] 124 :: pc pb2 #[vi y2] 3 :: pc pb3 #[.slice a80 q79.length c81] 123 :: mapC keyI.f aggv b_v0 l_v0 :: vecC 127 7 a80 c81 q79.length cs84 :: R)) mixed (by kernel_rfl) hS.drew ?_
    refine qP hE (Gives.p hE rfl) rfl fun a hE => ?_
    refine qP hE (Gives.p hE rfl) rfl fun a hE => ?_
    refine qP hE (Gives.len hE rfl sl109) rfl fun a hE => ?_
    refine qP hE (Gives.p hE rfl) rfl fun a hE => ?_
    refine qP hE (Gives.p hE rfl) rfl fun a hE => ?_
    rcases Bool.eq_false_or_eq_true (decide (((k70 : Nat) : Int) < ((x113.Stops).length : Int))) with hg130 | hg130
    ·replace hq124 := iteT hg130 hq124
     refine QL.v hE (runs_if hE rfl rfl rfl hg130) (Gives.p hE rfl) rfl fun a hE => ?_
     refine QL.v hE (runs_if hE rfl rfl rfl hg130) (Gives.p hE rfl) rfl fun a hE => ?_
     obtain ⟨x131, hx132, hq124⟩ := bindS hq124
     obtain ⟨hi133, hlt134, hy135⟩ := gx_some hx132
     obtain ⟨cs136, hl137, hR138, hat139⟩ := h120.at hy135
     subst hR138
     refine QL.v hE (runs_if hE rfl rfl rfl hg130) (Gives.idx hE (((k70 : Nat) : Int)).toNat rfl rfl sl109 hi133 hlt134 (h120.aok hlt134)) rfl fun a hE => ?_
     refine QL.v hE (runs_if hE rfl rfl rfl hg130) (Gives.fld hE rfl fl99_0) rfl fun a hE => ?_
     refine QL.v hE (runs_if hE rfl rfl rfl hg130) (Gives.load1 hE rfl (fun w h => (hat139 w _ h).one rfl) ty3) rfl fun a hE => ?_
     refine QL.v hE (runs_if hE rfl rfl rfl hg130) (Gives.loadB hE 3 rfl rfl rfl ty3) rfl fun a hE => ?_
     refine QL.v hE (runs_if hE rfl rfl rfl hg130) (Gives.p hE rfl) rfl fun a hE => ?_
     refine qP hE (Gives.pickT hE rfl hg130 rfl) rfl fun a hE => ?_
     refine QL.nil ?_; clear hS w; intro w hS
     subst hK129
     exact ⟨(x131.Station == y0), Option.some.inj hq124, hE.pick _ ⟨rfl, rfl, rfl, rfl, rfl, rfl, rfl, rfl, rfl, rfl, rfl, rfl, rfl, rfl, rfl, trivial⟩, hS⟩
    replace hq124 := iteF hg130 hq124
    refine QL.no hE (runs_not hE rfl rfl rfl (by rw [hg130]; decide)) rfl fun a hE => ?_
    refine QL.no hE (runs_not hE rfl rfl rfl (by rw [hg130]; decide)) rfl fun a hE => ?_
    refine QL.no hE (runs_not hE rfl rfl rfl (by rw [hg130]; decide)) rfl fun a hE => ?_
    refine QL.no hE (runs_not hE rfl rfl rfl (by rw [hg130]; decide)) rfl fun a hE => ?_
    refine QL.no hE (runs_not hE rfl rfl rfl (by rw [hg130]; decide)) rfl fun a hE => ?_
    refine QL.no hE (runs_not hE rfl rfl rfl (by rw [hg130]; decide)) rfl fun a hE => ?_
    refine QL.no hE (runs_not hE rfl rfl rfl (by rw [hg130]; decide)) rfl fun a hE => ?_
    refine qP hE (Gives.pickF hE rfl hg130 rfl) rfl fun a hE => ?_
    refine QL.nil ?_; clear hS w; intro w hS
    subst hK129
    exact ⟨false, Option.some.inj hq124, hE.pick _ ⟨rfl, rfl, rfl, rfl, rfl, rfl, rfl, rfl, rfl, rfl, rfl, rfl, rfl, rfl, rfl, trivial⟩, hS⟩
   clear hE hS a w; rintro a w ⟨q128, rfl, hE, hS⟩
   obtain ⟨q141, hq140, hq104⟩ := bindS hq104
   refine W.cut (fun a w => ∃ (q144 : Int), ∃ (q145 : Int), (q144, q145) = q141 ∧ Rep a 92 [(1, .bool x1), (2, pp pb0), (3, pp pb1), (4, pp pb2), (5, pp pb3), (6, pp b58), (8, vi (w64 (((x0.Stops).length : Int) - 1))), (9, vi ((k70 : Nat) : Int)), (11, pp b103), (20, .slice a61 x59.length c62), (21, vi ((x59).length : Int)), (22, vi ((k70 : Nat) : Int))] ∧ St w s (pc b103 #[vi q144, vi q145, vi x0.No, vi x94.Station, vi x71.Track, .bool x1] 44 :: pc b91 (ApiStop.cells x71).toArray 99 :: pc b58 #[vi x0.No, vi x0.Stock, .slice a0_0 x0.Stops.length c0_0, .slice a0_1 x0.Legs.length c0_1] 111 :: pc pb0 #[vi y0] 3 :: pc pb1 #[.map (some b_v0)] 124 :: pc pb2 #[vi y2] 3 :: pc pb3 #[.slice a80 q79.length c81] 123 :: mapC keyI.f aggv b_v0 l_v0 :: vecC 127 7 a80 c81 q79.length cs84 :: R)) ?_ ?_
   ·refine W.gen fun K146 hK146 => ?_
    refine W.cond hE rfl (fun hc147 => ?_) (fun hc147 => ?_)
    ·replace hq140 := iteT hc147 hq140
     refine W.seq (W.region (v2 hS hE rfl rfl rfl rfl fun a hE => ?_))
     obtain ⟨x148, hx149, hq140⟩ := bindS hq140
     obtain ⟨hi150, hlt151, hy152⟩ := gx_some hx149
     obtain ⟨cs153, hl154, hR155, hat156⟩ := h120.at hy152
     subst hR155
     refine vP hS hE (Gives.idx hE (((k70 : Nat) : Int)).toNat rfl rfl sl109 hi150 hlt151 (h120.aok hlt151)) rfl fun a hE => ?_
     refine vP hS hE (Gives.fld hE rfl fl99_3) rfl fun a hE => ?_
     refine vP hS hE (Gives.load1 hE rfl (fun w h => (hat156 w _ h).one rfl) ty3) rfl fun a hE => ?_
     refine vP hS hE (Gives.fld hE rfl fl44_0) rfl fun a hE => ?_
     refine WL.storeI hE hS 0 rfl [vi x148.Dep, vi 0, vi x0.No, vi x94.Station, vi x71.Track, .bool x1] (runs_plain rfl) rfl rfl rfl ty3 rfl rfl rfl rfl ?_; clear hE hS a w; intro a w hE hS
     refine WL.nil ?_
     refine W.region ?_
     refine vP hS hE (Gives.fld hE rfl fl99_3) rfl fun a hE => ?_
     refine vP hS hE (Gives.loadB hE 1 rfl rfl rfl ty3) rfl fun a hE => ?_
     refine vP hS hE (Gives.fld hE rfl fl44_0) rfl fun a hE => ?_
     refine vP hS hE (Gives.loadB hE 0 rfl rfl rfl ty3) rfl fun a hE => ?_
     refine vp hS hE rfl rfl fun a hE => ?_
     refine vP hS hE (Gives.max2 hE rfl rfl) rfl fun a hE => ?_
     refine vP hS hE (Gives.fld hE rfl fl44_1) rfl fun a hE => ?_
     refine WL.storeI hE hS 0 rfl [vi x148.Dep, vi (mx 0 (w64 (x71.Dep - x148.Dep))), vi x0.No, vi x94.Station, vi x71.Track, .bool x1] (runs_plain rfl) rfl rfl rfl ty3 rfl rfl rfl rfl ?_; clear hE hS a w; intro a w hE hS
     refine WL.nil ?_
     subst hK146
     exact ⟨x148.Dep, mx 0 (w64 (x71.Dep - x148.Dep)), Option.some.inj hq140, hE.pick _ ⟨rfl, rfl, rfl, rfl, rfl, rfl, rfl, rfl, rfl, rfl, rfl, rfl, trivial⟩, hS⟩
    replace hq140 := iteF hc147 hq140
    refine W.skip ?_
    subst hK146
    exact ⟨x71.Dep, 0, Option.some.inj hq140, hE.pick _ ⟨rfl, rfl, rfl, rfl, rfl, rfl, rfl, rfl, rfl, rfl, rfl, rfl, trivial⟩, hS⟩
   clear hE hS a w; rintro a w ⟨q144, q145, rfl, hE, hS⟩
   dsimp only at hq104
   subst hK111
   exact ⟨q144, q145, x71.Track, Option.some.inj hq104, hE.pick _ ⟨rfl, rfl, rfl, rfl, rfl, rfl, rfl, rfl, rfl, rfl, rfl, rfl, trivial⟩, hS⟩
  clear hE hS a w; rintro a w ⟨q108, q109, q110, rfl, hE, hS⟩
  dsimp only at hq68
  refine W.seq (W.region (vP hS hE (Gives.fld hE rfl fl44_0) rfl fun a hE => ?_))
  refine vP hS hE (Gives.loadB hE 0 rfl rfl rfl ty3) rfl fun a hE => ?_
  refine vP hS hE (Gives.fld hE rfl fl44_1) rfl fun a hE => ?_
  refine vP hS hE (Gives.loadB hE 0 rfl rfl rfl ty3) rfl fun a hE => ?_
  refine vp hS hE rfl rfl fun a hE => ?_
  refine vP hS hE (Gives.loadB hE 5 rfl rfl rfl ty3) rfl fun a hE => ?_
  refine vp hS hE rfl rfl fun a hE => WL.nil ?_
  obtain ⟨q158, hq157, hq68⟩ := bindS hq68
  refine W.cut (fun a w => ∃ (q161 : List GuideRow), ∃ (a162 : Option Addr), ∃ (c163 : Nat), ∃ (n165 : Nat), ∃ (cs166 : List Value), q161 = q158 ∧ Ev 7 RGuideRow s cs166 q161 ∧ q161.length = n165 ∧ Rep a 92 [(1, .bool x1), (2, pp pb0), (3, pp pb1), (4, pp pb2), (5, pp pb3), (6, pp b58), (8, vi (w64 (((x0.Stops).length : Int) - 1))), (20, .slice a61 x59.length c62), (21, vi ((x59).length : Int)), (22, vi ((k70 : Nat) : Int))] ∧ St w s (pc b103 #[vi q108, vi q109, vi x0.No, vi x94.Station, vi q110, .bool x1] 44 :: pc b91 (ApiStop.cells x71).toArray 99 :: pc b58 #[vi x0.No, vi x0.Stock, .slice a0_0 x0.Stops.length c0_0, .slice a0_1 x0.Legs.length c0_1] 111 :: pc pb0 #[vi y0] 3 :: pc pb1 #[.map (some b_v0)] 124 :: pc pb2 #[vi y2] 3 :: pc pb3 #[.slice a162 n165 c163] 123 :: mapC keyI.f aggv b_v0 l_v0 :: vecC 127 7 a162 c163 n165 cs166 :: R)) ?_ ?_
  ·refine W.gen fun K168 hK168 => ?_
   refine W.cond hE rfl (fun hc169 => ?_) (fun hc169 => ?_)
   ·replace hq157 := iteT hc169 hq157
    refine W.region ?_
    refine vP hS hE (Gives.loadB hE 6 rfl rfl rfl ty123) rfl fun a hE => ?_
    refine vP hS hE (Gives.loadBA hE 0 rfl rfl ty44) rfl fun a hE => ?_
    refine vp hS hE rfl rfl fun a hE => ?_
    refine vP hS hE (Gives.build hE (vs := [(0, .agg (List.toArray [vi q108, vi q109, vi x0.No, vi x94.Station, vi q110, .bool x1])), (1, vi ((k70 : Nat) : Int))]) [vi q108, vi q109, vi x0.No, vi x94.Station, vi q110, .bool x1, vi ((k70 : Nat) : Int)] rfl (by kernel_rfl)) rfl fun a hE => ?_
    refine WL.lit hE hS (e := 127) (es := 7) (vs := [(0, .agg (List.toArray [vi q108, vi q109, vi x0.No, vi x94.Station, vi q110, .bool x1, vi ((k70 : Nat) : Int)]))]) (cs := [vi q108, vi q109, vi x0.No, vi x94.Station, vi q110, .bool x1, vi ((k70 : Nat) : Int)]) (runs_plain rfl) rfl (by kernel_rfl) rfl ?_; clear hE hS a w; intro b170 a w hE hS
    obtain ⟨x171, hx172, hq157⟩ := bindS hq157
    refine WL.appD hE hS 8 (m := 1) (runs_plain rfl) rfl rfl rfl ap123 rfl h82 rfl (xs := [(GuideRow.mk (GuideLine.mk q108 q109 x0.No x94.Station q110 x1) ((k70 : Nat) : Int))]) (Ev.cons (c1 := [vi q108, vi q109, vi x0.No, vi x94.Station, vi q110, .bool x1, vi ((k70 : Nat) : Int)]) rfl rfl (Ev.nil)) rfl rfl hx172 rfl ?_; clear hE hS a w; intro a173 c174 cs175 a w h176 hE hS
    refine WL.storeI hE hS 6 rfl [.slice a173 x171.length c174] (runs_plain rfl) rfl rfl rfl ty123 rfl rfl rfl rfl ?_; clear hE hS a w; intro a w hE hS
    refine WL.nil ?_
    subst hK168
    exact ⟨x171, a173, c174, x171.length, cs175, Option.some.inj hq157, h176, (rfl), hE.pick _ ⟨rfl, rfl, rfl, rfl, rfl, rfl, rfl, rfl, rfl, rfl, trivial⟩, hS⟩
   replace hq157 := iteF hc169 hq157
   refine W.skip ?_
   subst hK168
   exact ⟨q79, a80, c81, q79.length, cs84, Option.some.inj hq157, h82, rfl, hE.pick _ ⟨rfl, rfl, rfl, rfl, rfl, rfl, rfl, rfl, rfl, rfl, trivial⟩, hS⟩
  clear hE hS a w; rintro a w ⟨q161, a162, c163, n165, cs166, rfl, h164, rfl, hE, hS⟩
  refine W.region ?_
  refine vP hS hE (Gives.inc hE rfl (by have := h64.small; omega)) rfl fun a hE => ?_
  refine vp hS hE rfl rfl fun a hE => WL.nil ?_
  replace hS := hS.tail
  replace hS := hS.tail
  subst hK86
  exact ⟨rest72.length, Nat.lt_succ_self _, rest72, k70 + 1, q161, a162, c163, q161.length, cs166, rfl, hd73, hq68, h164, rfl, hE.pick _ ⟨rfl, rfl, rfl, rfl, rfl, rfl, rfl, rfl, rfl, rfl, trivial⟩, hS⟩
 clear hE hS a w; rintro a w ⟨q79, a80, c81, n83, cs84, rfl, h82, rfl, hE, hS⟩
 refine finG (fn := Tryz.f62) (rs := []) (vs := []) hE rfl trivial ?_
 obtain rfl := Option.some.inj hr
 replace hS := hS.tail
 exact ⟨a80, c81, q79.length, cs84, rfl, h82, rfl, hS⟩
set_option maxHeartbeats 8000000 in
theorem CmpisNaNint_ok  {w : World} {s : Sg} {R : List HP} {x0 : Int} (hS : St w s (R))  {r : Bool} (hr : CmpisNaNint x0 = r) :
  Calls Tryz.prog 95 [vi x0].toArray w (fun e w => e = .returned (.bool r) ∧ St w s (R)) := by
 refine enter Tryz.func95 rfl rfl rfl fun a hE => ?_
 rw [CmpisNaNint] at hr
 refine W.seq (W.region (vp hS hE rfl rfl fun a hE => WL.nil ?_))
 refine W.seq (W.region (v2 hS hE rfl rfl rfl rfl fun a hE => ?_))
 refine v2 hS hE rfl rfl rfl rfl fun a hE => WL.nil ?_
 refine W.ret ?_
 refine finG (fn := Tryz.f95) (rs := [.tmp 2]) (vs := [_]) hE rfl ⟨rfl, trivial⟩ ?_
 subst hr
 exact ⟨rfl, hS⟩
set_option maxHeartbeats 8000000 in
theorem CmpCompareint_ok  {w : World} {s : Sg} {R : List HP} {x0 : Int} {x1 : Int} (hS : St w s (R))  {r : Int} (hr : CmpCompareint x0 x1 = r) :
  Calls Tryz.prog 42 [vi x0, vi x1].toArray w (fun e w => e = .returned (vi r) ∧ St w s (R)) := by
 refine enter Tryz.func42 rfl rfl rfl fun a hE => ?_
 rw [CmpCompareint] at hr
 refine W.seq (W.region (vp hS hE rfl rfl fun a hE => WL.nil ?_))
 refine W.seq (W.region (vp hS hE rfl rfl fun a hE => ?_))
 refine WL.fnq hE (CmpisNaNint_ok hS  rfl (r := CmpisNaNint x0)) (runs_plain rfl) bd95 rfl rfl rfl ?_
 clear hE hS; rintro e w ⟨rfl, hS⟩; refine ⟨_, rfl, ?_⟩; clear a; intro a hE
 refine vp hS hE rfl rfl fun a hE => WL.nil ?_
 refine W.seq (W.region (vp hS hE rfl rfl fun a hE => ?_))
 refine WL.fnq hE (CmpisNaNint_ok hS  rfl (r := CmpisNaNint x1)) (runs_plain rfl) bd95 rfl rfl rfl ?_
 clear hE hS; rintro e w ⟨rfl, hS⟩; refine ⟨_, rfl, ?_⟩; clear a; intro a hE
 refine vp hS hE rfl rfl fun a hE => WL.nil ?_
 refine W.seq ?_
 refine W.seq (W.region (vp hS hE rfl rfl fun a hE => WL.nil ?_))
 refine W.cond hE rfl (fun hc51 => ?_) (fun hc51 => ?_)
 ·replace hr := iteT hc51 hr
  refine W.seq ?_
  refine W.seq (W.region (vp hS hE rfl rfl fun a hE => WL.nil ?_))
  refine W.cond hE rfl (fun hc52 => ?_) (fun hc52 => ?_)
  ·replace hr := iteT hc52 hr
   refine W.seq (W.region (vp hS hE rfl rfl fun a hE => WL.nil ?_))
   refine W.ret ?_
   refine finG (fn := Tryz.f42) (rs := [.tmp 4]) (vs := [_]) hE rfl ⟨rfl, trivial⟩ ?_
   subst hr
   exact ⟨rfl, hS⟩
  replace hr := iteF hc52 hr
  refine W.skip ?_
  refine W.seq (W.region (vp hS hE rfl rfl fun a hE => WL.nil ?_))
  refine W.ret ?_
  refine finG (fn := Tryz.f42) (rs := [.tmp 4]) (vs := [_]) hE rfl ⟨rfl, trivial⟩ ?_
  subst hr
  exact ⟨rfl, hS⟩
 replace hr := iteF hc51 hr
 refine W.skip ?_
 refine W.seq ?_
 refine W.seq (W.region (vp hS hE rfl rfl fun a hE => WL.nil ?_))
 refine W.cond hE rfl (fun hc53 => ?_) (fun hc53 => ?_)
 ·replace hr := iteT hc53 hr
  refine W.seq (W.region (vp hS hE rfl rfl fun a hE => WL.nil ?_))
  refine W.ret ?_
  refine finG (fn := Tryz.f42) (rs := [.tmp 4]) (vs := [_]) hE rfl ⟨rfl, trivial⟩ ?_
  subst hr
  exact ⟨rfl, hS⟩
 replace hr := iteF hc53 hr
 refine W.skip ?_
 refine W.seq ?_
 refine W.seq (W.region (v2 hS hE rfl rfl rfl rfl fun a hE => ?_))
 refine vp hS hE rfl rfl fun a hE => WL.nil ?_
 refine W.cond hE rfl (fun hc54 => ?_) (fun hc54 => ?_)
 ·replace hr := iteT hc54 hr
  refine W.seq (W.region (vp hS hE rfl rfl fun a hE => WL.nil ?_))
  refine W.ret ?_
  refine finG (fn := Tryz.f42) (rs := [.tmp 4]) (vs := [_]) hE rfl ⟨rfl, trivial⟩ ?_
  subst hr
  exact ⟨rfl, hS⟩
 replace hr := iteF hc54 hr
 refine W.skip ?_
 refine W.seq ?_
 refine W.seq (W.region (v2 hS hE rfl rfl rfl rfl fun a hE => ?_))
 refine vp hS hE rfl rfl fun a hE => WL.nil ?_
 refine W.cond hE rfl (fun hc55 => ?_) (fun hc55 => ?_)
 ·replace hr := iteT hc55 hr
  refine W.seq (W.region (vp hS hE rfl rfl fun a hE => WL.nil ?_))
  refine W.ret ?_
  refine finG (fn := Tryz.f42) (rs := [.tmp 4]) (vs := [_]) hE rfl ⟨rfl, trivial⟩ ?_
  subst hr
  exact ⟨rfl, hS⟩
 replace hr := iteF hc55 hr
 refine W.skip ?_
 refine W.seq (W.region (vp hS hE rfl rfl fun a hE => WL.nil ?_))
 refine W.ret ?_
 refine finG (fn := Tryz.f42) (rs := [.tmp 4]) (vs := [_]) hE rfl ⟨rfl, trivial⟩ ?_
 subst hr
 exact ⟨rfl, hS⟩
set_option maxHeartbeats 8000000 in
theorem CmpOrint_ok  {w : World} {s : Sg} {R : List HP} {x0 : List Int} {a0 : Option Addr} {c0 : Nat} (hS : St w s (R)) (h0 : Sl 1 (RI .i64) s a0 c0 x0) {r : Int} (hr : CmpOrint x0 = r) :
  Calls Tryz.prog 41 [.slice a0 x0.length c0].toArray w (fun e w => e = .returned (vi r) ∧ St w s (R)) := by
 refine enter Tryz.func41 rfl rfl rfl fun a hE => ?_
 rw [CmpOrint] at hr
 refine W.seq (W.region (vp hS hE rfl rfl fun a hE => WL.nil ?_))
 refine W.seq (W.region (vp hS hE rfl rfl fun a hE => WL.nil ?_))
 refine W.seq ?_
 refine W.seq (W.region (vp hS hE rfl rfl fun a hE => ?_))
 refine vP hS hE (Gives.len hE rfl sl65) rfl fun a hE => ?_
 refine vp hS hE rfl rfl fun a hE => WL.nil ?_
 obtain ⟨q52, hq51, hr⟩ := bndS hr
 refine W.cut (fun a w => (.next ()) = q52 ∧ Rep a 18 [(3, vi 0)] ∧ St w s (R)) ?_ ?_
 ·refine W.block ?_
  refine W.loop (fun m a w => ∃ (rest55 : List Int) (k53 : Nat), rest55.length = m ∧ x0.drop k53 = rest55 ∧ CmpOrint.loop1 rest55 = q52 ∧ Rep a 18 [(3, vi 0), (6, .slice a0 x0.length c0), (7, vi ((x0).length : Int)), (8, vi ((k53 : Nat) : Int))] ∧ St w s (R)) (m := x0.length) ⟨x0, 0, rfl, rfl, hq51, hE.pick _ ⟨rfl, rfl, rfl, rfl, trivial⟩, hS⟩ ?_
  clear hE hS a w hq51; rintro m59 a w ⟨rest55, k53, rfl, hd56, hq51, hE, hS⟩
  refine W.gen fun K62 hK62 => ?_
  rcases rest55 with _ | ⟨x54, rest55⟩
  ·have hlt57 := drop_nil hd56
   refine W.seq (W.region (vp hS hE rfl rfl fun a hE => WL.nil ?_))
   refine W.seq ?_
   refine W.condF hE rfl (decide_eq_false (by omega)) ?_
   subst hK62
   refine W.exit rfl ?_
   exact ⟨hq51, hE.pick _ ⟨rfl, trivial⟩, hS⟩
  obtain ⟨hlt57, hx58, hd56⟩ := drop_cons hd56
  rw [CmpOrint.loop1] at hq51
  refine W.seq (W.region (vp hS hE rfl rfl fun a hE => WL.nil ?_))
  refine W.seq ?_
  refine W.condT hE rfl (decide_eq_true (by omega)) ?_
  refine W.skip ?_
  refine W.seq ?_
  refine W.block ?_
  refine W.seq (W.region ?_)
  obtain ⟨cs63, hl64, hR65, hat66⟩ := h0.at hx58
  subst hR65
  refine vP hS hE (Gives.idx hE k53 rfl rfl sl65 rfl hlt57 (h0.aok hlt57)) rfl fun a hE => ?_
  refine vP hS hE (Gives.load1 hE rfl (fun w h => hat66 w _ h) ty3) rfl fun a hE => ?_
  refine vp hS hE rfl rfl fun a hE => WL.nil ?_
  refine W.seq (W.region (v2 hS hE rfl rfl rfl rfl fun a hE => ?_))
  refine vp hS hE rfl rfl fun a hE => WL.nil ?_
  refine W.cond hE rfl (fun hc67 => ?_) (fun hc67 => ?_)
  ·replace hq51 := iteT hc67 hq51
   refine W.seq (W.region (v2 hS hE rfl rfl rfl rfl fun a hE => WL.nil ?_))
   refine W.ret ?_
   subst hK62
   rw [← hq51] at hr
   dsimp only at hr
   refine finG (fn := Tryz.f41) (rs := [.tmp 2]) (vs := [_]) hE rfl ⟨rfl, trivial⟩ ?_
   subst hr
   exact ⟨rfl, hS⟩
  replace hq51 := iteF hc67 hq51
  refine W.skip ?_
  refine W.region ?_
  refine vP hS hE (Gives.inc hE rfl (by have := h0.small; omega)) rfl fun a hE => ?_
  refine vp hS hE rfl rfl fun a hE => WL.nil ?_
  subst hK62
  exact ⟨rest55.length, Nat.lt_succ_self _, rest55, k53 + 1, rfl, hd56, hq51, hE.pick _ ⟨rfl, rfl, rfl, rfl, trivial⟩, hS⟩
 clear hE hS a w; rintro a w ⟨rfl, hE, hS⟩
 dsimp only at hr
 refine W.seq (W.region (v2 hS hE rfl rfl rfl rfl fun a hE => WL.nil ?_))
 refine W.ret ?_
 refine finG (fn := Tryz.f41) (rs := [.tmp 2]) (vs := [_]) hE rfl ⟨rfl, trivial⟩ ?_
 subst hr
 exact ⟨rfl, hS⟩
set_option maxHeartbeats 8000000 in
theorem GuideBoard_2_ok  {w : World} {s : Sg} {R : List HP} {x0 : GuideRow} {x1 : GuideRow} (hS : St w s (R))  {r : Int} (hr : GuideBoard_2 x0 x1 = r) :
  Calls Tryz.prog 64 [.agg (GuideRow.cells x0).toArray, .agg (GuideRow.cells x1).toArray].toArray w (fun e w => e = .returned (vi r) ∧ St w s (R)) := by
 refine enter Tryz.func64 rfl rfl rfl fun a hE => ?_
 rw [GuideBoard_2] at hr
 refine W.seq (W.region ?_)
 refine WL.box hE hS (runs_plain rfl) rfl rfl rfl ?_; clear hE hS a w; intro b51 a w hE hS
 refine WL.box hE hS (runs_plain rfl) rfl rfl rfl ?_; clear hE hS a w; intro b52 a w hE hS
 refine vp hS hE rfl rfl fun a hE => WL.nil ?_
 refine W.seq ?_
 refine W.gen fun K53 hK53 => ?_
 refine W.regionE (dup (fun w => St w s (pc b52 (GuideRow.cells x1).toArray 127 :: pc b51 (GuideRow.cells x0).toArray 127 :: R))) (fun b i => cond b ([0, 1, 2, 3, 4, 5, 6, 7, 8, 9, 10, 11, 12, 13, 14, 15, 16, 17, 18, 19, 20, 21].contains i) ([0, 1, 2, 3, 4, 5, 6, 7, 8, 9, 10, 11, 12, 13, 14, 15, 16, 17, 18, 19, 20, 21].contains i)) mixed ?_
 replace hS := hS.drew
 refine tP (i := 0) hE rfl (by kernel_rfl) (Gives.fld hE rfl fl127_0) rfl hS hS fun a hE => ?_
 refine tP (i := 1) hE rfl (by kernel_rfl) (Gives.fld hE rfl fl44_0) rfl hS hS fun a hE => ?_
 refine tT (i := 2) true rfl hE rfl (by kernel_rfl) (Gives.loadB hE 1 rfl rfl rfl ty3) rfl hS hS fun a hE => ?_
 refine tP (i := 3) hE rfl (by kernel_rfl) (Gives.fld hE rfl fl127_0) rfl hS hS fun a hE => ?_
 refine tP (i := 4) hE rfl (by kernel_rfl) (Gives.fld hE rfl fl44_0) rfl hS hS fun a hE => ?_
 refine tT (i := 5) true rfl hE rfl (by kernel_rfl) (Gives.loadB hE 0 rfl rfl rfl ty3) rfl hS hS fun a hE => ?_
 refine tP (i := 7) hE rfl (by kernel_rfl) (Gives.fld hE rfl fl127_0) rfl hS hS fun a hE => ?_
 refine tP (i := 8) hE rfl (by kernel_rfl) (Gives.fld hE rfl fl44_2) rfl hS hS fun a hE => ?_
 refine tT (i := 9) true rfl hE rfl (by kernel_rfl) (Gives.loadB hE 1 rfl rfl rfl ty3) rfl hS hS fun a hE => ?_
 refine tP (i := 10) hE rfl (by kernel_rfl) (Gives.fld hE rfl fl127_0) rfl hS hS fun a hE => ?_
 refine tP (i := 11) hE rfl (by kernel_rfl) (Gives.fld hE rfl fl44_2) rfl hS hS fun a hE => ?_
 refine tT (i := 12) true rfl hE rfl (by kernel_rfl) (Gives.loadB hE 0 rfl rfl rfl ty3) rfl hS hS fun a hE => ?_
 refine tP (i := 14) hE rfl (by kernel_rfl) (Gives.fld hE rfl fl127_1) rfl hS hS fun a hE => ?_
 refine tT (i := 15) true rfl hE rfl (by kernel_rfl) (Gives.loadB hE 1 rfl rfl rfl ty3) rfl hS hS fun a hE => ?_
 refine tP (i := 16) hE rfl (by kernel_rfl) (Gives.fld hE rfl fl127_1) rfl hS hS fun a hE => ?_
 refine tT (i := 17) true rfl hE rfl (by kernel_rfl) (Gives.loadB hE 0 rfl rfl rfl ty3) rfl hS hS fun a hE => ?_
 refine Rg.one (i := 6) true true rfl (by kernel_rfl) (by kernel_rfl) (by kernel_rfl) ?_
 refine WL.fnq hE (CmpCompareint_ok hS  rfl (r := CmpCompareint x0.Line.Time x1.Line.Time)) (runs_plain rfl) bd42 rfl rfl rfl ?_
 clear hE hS; rintro e w ⟨rfl, hS⟩; refine ⟨_, rfl, ?_⟩; clear a; intro a hE
 refine WL.nil ?_
 refine ⟨⟨fun _ => hS, fun _ => hS⟩, ?_⟩
 refine Rg.one (i := 13) true true rfl (by kernel_rfl) (by kernel_rfl) (by kernel_rfl) ?_
 refine WL.fnq hE (CmpCompareint_ok hS  rfl (r := CmpCompareint x0.Line.No x1.Line.No)) (runs_plain rfl) bd42 rfl rfl rfl ?_
 clear hE hS; rintro e w ⟨rfl, hS⟩; refine ⟨_, rfl, ?_⟩; clear a; intro a hE
 refine WL.nil ?_
 refine ⟨⟨fun _ => hS, fun _ => hS⟩, ?_⟩
 refine Rg.one (i := 18) true true rfl (by kernel_rfl) (by kernel_rfl) (by kernel_rfl) ?_
 refine WL.fnq hE (CmpCompareint_ok hS  rfl (r := CmpCompareint x0.stop x1.stop)) (runs_plain rfl) bd42 rfl rfl rfl ?_
 clear hE hS; rintro e w ⟨rfl, hS⟩; refine ⟨_, rfl, ?_⟩; clear a; intro a hE
 refine WL.nil ?_
 refine ⟨⟨fun _ => hS, fun _ => hS⟩, ?_⟩
 refine Rg.one (i := 19) true true rfl (by kernel_rfl) (by kernel_rfl) (by kernel_rfl) ?_
 refine WL.lit hE hS (e := 3) (es := 1) (vs := [(0, vi (CmpCompareint x0.Line.Time x1.Line.Time)), (1, vi (CmpCompareint x0.Line.No x1.Line.No)), (2, vi (CmpCompareint x0.stop x1.stop))]) (cs := [vi (CmpCompareint x0.Line.Time x1.Line.Time), vi (CmpCompareint x0.Line.No x1.Line.No), vi (CmpCompareint x0.stop x1.stop)]) (runs_plain rfl) rfl (by kernel_rfl) rfl ?_; clear hE hS a w; intro b54 a w hE hS
 replace hS := hS.ptVec (es := 1) (m := 3) rfl (by decide)
 have h56 : Ev 1 (RI .i64) s [vi (CmpCompareint x0.Line.Time x1.Line.Time), vi (CmpCompareint x0.Line.No x1.Line.No), vi (CmpCompareint x0.stop x1.stop)] [(CmpCompareint x0.Line.Time x1.Line.Time), (CmpCompareint x0.Line.No x1.Line.No), (CmpCompareint x0.stop x1.stop)] := (Ev.cons (c1 := [vi (CmpCompareint x0.Line.Time x1.Line.Time)]) rfl rfl (Ev.cons (c1 := [vi (CmpCompareint x0.Line.No x1.Line.No)]) rfl rfl (Ev.cons (c1 := [vi (CmpCompareint x0.stop x1.stop)]) rfl rfl (Ev.nil))))
 have hF := hS.fixD RI.mono 0 rfl h56 (rfl); clear hS; obtain ⟨s57, hle58, hS, h59⟩ := hF
 refine WL.nil ?_
 refine ⟨⟨fun _ => (St.down hle58 hS), fun _ => (St.down hle58 hS)⟩, ?_⟩
 refine Rg.one (i := 20) true true rfl (by kernel_rfl) (by kernel_rfl) (by kernel_rfl) ?_
 refine WL.fnq hE (CmpOrint_ok hS h59 rfl (r := CmpOrint [(CmpCompareint x0.Line.Time x1.Line.Time), (CmpCompareint x0.Line.No x1.Line.No), (CmpCompareint x0.stop x1.stop)])) (runs_plain rfl) bd41 rfl rfl rfl ?_
 clear hE hS; rintro e w ⟨rfl, hS⟩; refine ⟨_, rfl, ?_⟩; clear a; intro a hE
 refine WL.nil ?_
 refine ⟨⟨fun _ => (St.down hle58 hS), fun _ => (St.down hle58 hS)⟩, ?_⟩
 refine tP (i := 21) hE rfl (by kernel_rfl) (Gives.p hE rfl) rfl (St.down hle58 hS) (St.down hle58 hS) fun a hE => ?_
 refine Rg.done (by kernel_rfl) ?_
 subst hK53
 refine W.ret ?_
 refine finG (fn := Tryz.f64) (rs := [.tmp 4]) (vs := [_]) hE rfl ⟨rfl, trivial⟩ ?_
 subst hr
 replace hS := hS.tail
 replace hS := hS.tail
 exact ⟨rfl, (hS.down hle58)⟩
set_option maxHeartbeats 8000000 in
theorem SlicesinsertionSortCmpFuncguiderow_v1_ok {fu : Nat}  {w : World} {s : Sg} {R : List HP} {x0 : List GuideRow} {a_v0 : Option Addr} {c_v0 n_v0 : Nat} {cs_v0 : List Value} {x1 : Int} {x2 : Int} (hS : St w s (vecC 127 7 a_v0 c_v0 n_v0 cs_v0 :: R)) (h_v0 : Ev 7 RGuideRow s cs_v0 x0) (hn_v0 : x0.length = n_v0) {r : (List GuideRow)} (hr : SlicesinsertionSortCmpFuncguiderow_v1 fu x0 x1 x2 = some r) :
  Calls Tryz.prog 146 [.slice a_v0 n_v0 c_v0, vi x1, vi x2, .func (.func 64) #[] #[]].toArray w (fun e w => ∃ (cs55 : List Value), e = .returned (.tuple #[]) ∧ Ev 7 RGuideRow s cs55 r ∧ r.length = n_v0 ∧ St w s (vecC 127 7 a_v0 c_v0 n_v0 cs55 :: R)) := by
 refine enter Tryz.func146 rfl rfl rfl fun a hE => ?_
 rw [SlicesinsertionSortCmpFuncguiderow_v1] at hr
 subst hn_v0
 refine W.seq (W.region (v2 hS hE rfl rfl rfl rfl fun a hE => ?_))
 refine vp hS hE rfl rfl fun a hE => WL.nil ?_
 obtain ⟨q58, hq57, hr⟩ := bindS hr
 refine W.cut (fun a w => ∃ (q63 : Int), ∃ (q64 : List GuideRow), ∃ (cs68 : List Value), (q63, q64) = q58 ∧ Ev 7 RGuideRow s cs68 q64 ∧ q64.length = x0.length ∧ Rep a 53 [] ∧ St w s (vecC 127 7 a_v0 c_v0 x0.length cs68 :: R)) ?_ ?_
 ·refine W.block ?_
  refine W.loop (fun m a w => ∃ (n59 : Nat), ∃ (q63 : Int), ∃ (q64 : List GuideRow), ∃ (cs68 : List Value), n59 = m ∧ SlicesinsertionSortCmpFuncguiderow_v1.loop1 x1 x2 fu n59 q63 q64 = some q58 ∧ Ev 7 RGuideRow s cs68 q64 ∧ q64.length = x0.length ∧ Rep a 53 [(0, .slice a_v0 x0.length c_v0), (1, vi x1), (2, vi x2), (3, .func (.func 64) #[] #[]), (8, vi q63)] ∧ St w s (vecC 127 7 a_v0 c_v0 x0.length cs68 :: R)) (m := fu) ⟨fu, (w64 (x1 + 1)), x0, cs_v0, rfl, hq57, h_v0, (rfl), hE.pick _ ⟨rfl, rfl, rfl, rfl, rfl, trivial⟩, hS⟩ ?_
  clear hE hS a w hq57; rintro m60 a w ⟨n59, q63, q64, cs68, rfl, hq57, h67, hn69, hE, hS⟩
  refine W.gen fun K70 hK70 => ?_
  rcases n59 with _ | n59
  ·rw [SlicesinsertionSortCmpFuncguiderow_v1.loop1] at hq57; exact absurd hq57 (by simp)
  rw [SlicesinsertionSortCmpFuncguiderow_v1.loop1] at hq57
  refine W.seq ?_
  refine W.seq (W.region (v2 hS hE rfl rfl rfl rfl fun a hE => ?_))
  refine vp hS hE rfl rfl fun a hE => WL.nil ?_
  refine W.cond hE rfl (fun hc71 => ?_) (fun hc71 => ?_)
  ·replace hq57 := iteT hc71 hq57
   refine W.skip ?_
   refine W.seq ?_
   refine W.block ?_
   refine W.seq (W.region (v2 hS hE rfl rfl rfl rfl fun a hE => WL.nil ?_))
   obtain ⟨q73, hq72, hq57⟩ := bindS hq57
   refine W.cut (fun a w => ∃ (q78 : Int), ∃ (q79 : List GuideRow), ∃ (cs83 : List Value), (q78, q79) = q73 ∧ Ev 7 RGuideRow s cs83 q79 ∧ q79.length = x0.length ∧ Rep a 53 [(0, .slice a_v0 x0.length c_v0), (1, vi x1), (2, vi x2), (3, .func (.func 64) #[] #[]), (8, vi q63)] ∧ St w s (vecC 127 7 a_v0 c_v0 x0.length cs83 :: R)) ?_ ?_
   ·refine W.block ?_
    refine W.loop (fun m a w => ∃ (n74 : Nat), ∃ (q78 : Int), ∃ (q79 : List GuideRow), ∃ (cs83 : List Value), n74 = m ∧ SlicesinsertionSortCmpFuncguiderow_v1.loop2 x1 n74 q78 q79 = some q73 ∧ Ev 7 RGuideRow s cs83 q79 ∧ q79.length = x0.length ∧ Rep a 53 [(0, .slice a_v0 x0.length c_v0), (1, vi x1), (2, vi x2), (3, .func (.func 64) #[] #[]), (8, vi q63), (9, vi q78)] ∧ St w s (vecC 127 7 a_v0 c_v0 x0.length cs83 :: R)) (m := fu) ⟨fu, q63, q64, cs68, rfl, hq72, h67, hn69, hE.pick _ ⟨rfl, rfl, rfl, rfl, rfl, rfl, trivial⟩, hS⟩ ?_
    clear hE hS a w hq72; rintro m75 a w ⟨n74, q78, q79, cs83, rfl, hq72, h82, hn84, hE, hS⟩
    refine W.gen fun K85 hK85 => ?_
    rcases n74 with _ | n74
    ·rw [SlicesinsertionSortCmpFuncguiderow_v1.loop2] at hq72; exact absurd hq72 (by simp)
    rw [SlicesinsertionSortCmpFuncguiderow_v1.loop2] at hq72
    refine W.seq ?_
    refine W.seq ?_
    obtain ⟨q87, hq86, hq72⟩ := bindS hq72
    refine W.cut (fun a w => ∃ (q90 : Bool), q90 = q87 ∧ Rep a 53 [(0, .slice a_v0 x0.length c_v0), (1, vi x1), (2, vi x2), (3, .func (.func 64) #[] #[]), (8, vi q63), (9, vi q78), (34, .bool q90)] ∧ St w s (vecC 127 7 a_v0 c_v0 x0.length cs83 :: R)) ?_ ?_
    ·refine W.gen fun K91 hK91 => ?_
     refine W.regionQ (C := fun w => St w s (vecC 127 7 a_v0 c_v0 x0.length cs83 :: R)) mixed (by kernel_rfl) hS.drew ?_
     refine qP hE (Gives.p hE rfl) rfl fun a hE => ?_
     refine qP hE (Gives.p hE rfl) rfl fun a hE => ?_
     refine qP hE (Gives.p hE rfl) rfl fun a hE => ?_
     refine qP hE (Gives.p hE rfl) rfl fun a hE => ?_
     rcases Bool.eq_false_or_eq_true (decide (q78 > x1)) with hg92 | hg92
     ·replace hq86 := iteT hg92 hq86
      refine QL.v hE (runs_if hE rfl rfl rfl hg92) (Gives.p hE rfl) rfl fun a hE => ?_
      refine QL.v hE (runs_if hE rfl rfl rfl hg92) (Gives.p hE rfl) rfl fun a hE => ?_
      refine QL.v hE (runs_if hE rfl rfl rfl hg92) (Gives.p hE rfl) rfl fun a hE => ?_
      obtain ⟨x93, hx94, hq86⟩ := bindS hq86
      obtain ⟨hi95, hlt96, hy97⟩ := gx_some hx94
      obtain ⟨vs98, hl99, hR100, hd101, hget102⟩ := h82.at hy97
      subst hR100
      refine QL.v hE (runs_if hE rfl rfl rfl hg92) (Gives.idx hE ((q78).toNat) rfl rfl sl123 hi95 (by have := hn84; omega) (hS.vecAok 0 rfl (by have := hn84; omega : (q78).toNat < x0.length))) rfl fun a hE => ?_
      refine QL.v hE (runs_if hE rfl rfl rfl hg92) (Gives.loadA hE rfl (fun w h => St.vecSees h 0 rfl ((q78).toNat * 7) _ hget102) ty127) rfl fun a hE => ?_
      refine QL.v hE (runs_if hE rfl rfl rfl hg92) (Gives.p hE rfl) rfl fun a hE => ?_
      refine QL.v hE (runs_if hE rfl rfl rfl hg92) (Gives.p hE rfl) rfl fun a hE => ?_
      refine QL.v hE (runs_if hE rfl rfl rfl hg92) (Gives.p hE rfl) rfl fun a hE => ?_
      obtain ⟨x103, hx104, hq86⟩ := bindS hq86
      obtain ⟨hi105, hlt106, hy107⟩ := gx_some hx104
      obtain ⟨vs108, hl109, hR110, hd111, hget112⟩ := h82.at hy107
      subst hR110
      refine QL.v hE (runs_if hE rfl rfl rfl hg92) (Gives.idx hE ((w64 (q78 - 1)).toNat) rfl rfl sl123 hi105 (by have := hn84; omega) (hS.vecAok 0 rfl (by have := hn84; omega : (w64 (q78 - 1)).toNat < x0.length))) rfl fun a hE => ?_
      refine QL.v hE (runs_if hE rfl rfl rfl hg92) (Gives.loadA hE rfl (fun w h => St.vecSees h 0 rfl ((w64 (q78 - 1)).toNat * 7) _ hget112) ty127) rfl fun a hE => ?_
      refine QL.fnw hE (fun w hS => GuideBoard_2_ok hS  rfl (r := GuideBoard_2 x93 x103)) rfl (runs_if hE rfl rfl rfl hg92) bd64 rfl rfl rfl fun a hE => ?_
      refine QL.v hE (runs_if hE rfl rfl rfl hg92) (Gives.p hE rfl) rfl fun a hE => ?_
      refine qP hE (Gives.pickT hE rfl hg92 rfl) rfl fun a hE => ?_
      refine QL.nil ?_; clear hS w; intro w hS
      subst hK91
      exact ⟨decide ((GuideBoard_2 x93 x103) < 0), Option.some.inj hq86, hE.pick _ ⟨rfl, rfl, rfl, rfl, rfl, rfl, rfl, trivial⟩, hS⟩
     replace hq86 := iteF hg92 hq86
     refine QL.no hE (runs_not hE rfl rfl rfl (by rw [hg92]; decide)) rfl fun a hE => ?_
     refine QL.no hE (runs_not hE rfl rfl rfl (by rw [hg92]; decide)) rfl fun a hE => ?_
     refine QL.no hE (runs_not hE rfl rfl rfl (by rw [hg92]; decide)) rfl fun a hE => ?_
     refine QL.no hE (runs_not hE rfl rfl rfl (by rw [hg92]; decide)) rfl fun a hE => ?_
     refine QL.no hE (runs_not hE rfl rfl rfl (by rw [hg92]; decide)) rfl fun a hE => ?_
     refine QL.no hE (runs_not hE rfl rfl rfl (by rw [hg92]; decide)) rfl fun a hE => ?_
     refine QL.no hE (runs_not hE rfl rfl rfl (by rw [hg92]; decide)) rfl fun a hE => ?_
     refine QL.no hE (runs_not hE rfl rfl rfl (by rw [hg92]; decide)) rfl fun a hE => ?_
     refine QL.no hE (runs_not hE rfl rfl rfl (by rw [hg92]; decide)) rfl fun a hE => ?_
     refine QL.no hE (runs_not hE rfl rfl rfl (by rw [hg92]; decide)) rfl fun a hE => ?_
     refine QL.no hE (runs_not hE rfl rfl rfl (by rw [hg92]; decide)) rfl fun a hE => ?_
     refine QL.no hE (runs_not hE rfl rfl rfl (by rw [hg92]; decide)) rfl fun a hE => ?_
     refine qP hE (Gives.pickF hE rfl hg92 rfl) rfl fun a hE => ?_
     refine QL.nil ?_; clear hS w; intro w hS
     subst hK91
     exact ⟨false, Option.some.inj hq86, hE.pick _ ⟨rfl, rfl, rfl, rfl, rfl, rfl, rfl, trivial⟩, hS⟩
    clear hE hS a w; rintro a w ⟨q90, rfl, hE, hS⟩
    refine W.cond hE rfl (fun hc113 => ?_) (fun hc113 => ?_)
    ·replace hq72 := iteT hc113 hq72
     refine W.skip ?_
     refine W.seq ?_
     refine W.block ?_
     refine W.gen fun K114 hK114 => ?_
     refine W.regionE (sel (fun w => St w s (vecC 127 7 a_v0 c_v0 x0.length cs83 :: R)) (fun w => St w s (R))) (fun b i => cond b ([0, 1, 2, 3, 4, 5, 6, 7, 8, 9, 10, 11, 12, 13, 14, 16].contains i) ([0, 1, 2, 3, 4, 5, 6, 7, 8, 9, 10, 11, 12, 13, 14, 15, 16, 17].contains i)) mixed ?_
     replace hS := hS.drew
     refine tP (i := 0) hE rfl (by kernel_rfl) (Gives.p hE rfl) rfl hS (hS.tail) fun a hE => ?_
     refine tP (i := 1) hE rfl (by kernel_rfl) (Gives.p hE rfl) rfl hS (hS.tail) fun a hE => ?_
     refine tP (i := 2) hE rfl (by kernel_rfl) (Gives.p hE rfl) rfl hS (hS.tail) fun a hE => ?_
     refine tP (i := 3) hE rfl (by kernel_rfl) (Gives.p hE rfl) rfl hS (hS.tail) fun a hE => ?_
     refine tP (i := 4) hE rfl (by kernel_rfl) (Gives.p hE rfl) rfl hS (hS.tail) fun a hE => ?_
     refine tP (i := 5) hE rfl (by kernel_rfl) (Gives.p hE rfl) rfl hS (hS.tail) fun a hE => ?_
     refine tP (i := 6) hE rfl (by kernel_rfl) (Gives.p hE rfl) rfl hS (hS.tail) fun a hE => ?_
     refine tP (i := 7) hE rfl (by kernel_rfl) (Gives.p hE rfl) rfl hS (hS.tail) fun a hE => ?_
     obtain ⟨x115, hx116, hq72⟩ := bindS hq72
     obtain ⟨hi117, hlt118, hy119⟩ := gx_some hx116
     obtain ⟨vs120, hl121, hR122, hd123, hget124⟩ := h82.at hy119
     subst hR122
     refine tP (i := 8) hE rfl (by kernel_rfl) (Gives.idx hE ((w64 (q78 - 1)).toNat) rfl rfl sl123 hi117 (by have := hn84; omega) (hS.vecAok 0 rfl (by have := hn84; omega : (w64 (q78 - 1)).toNat < x0.length))) rfl hS (hS.tail) fun a hE => ?_
     refine tT (i := 9) true rfl hE rfl (by kernel_rfl) (Gives.loadA hE rfl (fun w h => St.vecSees h 0 rfl ((w64 (q78 - 1)).toNat * 7) _ hget124) ty127) rfl hS (hS.tail) fun a hE => ?_
     refine tP (i := 10) hE rfl (by kernel_rfl) (Gives.p hE rfl) rfl hS (hS.tail) fun a hE => ?_
     refine tP (i := 11) hE rfl (by kernel_rfl) (Gives.p hE rfl) rfl hS (hS.tail) fun a hE => ?_
     obtain ⟨x125, hx126, hq72⟩ := bindS hq72
     obtain ⟨hi127, hlt128, hy129⟩ := gx_some hx126
     obtain ⟨vs130, hl131, hR132, hd133, hget134⟩ := h82.at hy129
     subst hR132
     refine tP (i := 12) hE rfl (by kernel_rfl) (Gives.idx hE ((q78).toNat) rfl rfl sl123 hi127 (by have := hn84; omega) (hS.vecAok 0 rfl (by have := hn84; omega : (q78).toNat < x0.length))) rfl hS (hS.tail) fun a hE => ?_
     refine tT (i := 13) true rfl hE rfl (by kernel_rfl) (Gives.loadA hE rfl (fun w h => St.vecSees h 0 rfl ((q78).toNat * 7) _ hget134) ty127) rfl hS (hS.tail) fun a hE => ?_
     obtain ⟨_, hx136, hq72⟩ := bindS hq72
     obtain ⟨h137, h138⟩ := ix_some hx136
     refine tP (i := 14) hE rfl (by kernel_rfl) (Gives.idx hE ((q78).toNat) rfl rfl sl123 h137 (by have := hn84; omega) (hS.vecAok 0 rfl (by have := hn84; omega : (q78).toNat < x0.length))) rfl hS (hS.tail) fun a hE => ?_
     refine Rg.one (i := 15) false true rfl (by kernel_rfl) (by kernel_rfl) (by kernel_rfl) ?_
     obtain ⟨x140, hx141, hq72⟩ := bindS hq72
     refine WL.setD hE hS 0 rfl (runs_plain rfl) rfl rfl (vs := [vi x115.Line.Time, vi x115.Line.Late, vi x115.Line.No, vi x115.Line.To, vi x115.Line.Track, .bool x115.Line.Ends, vi x115.stop]) rfl ty127 rfl rfl rfl h82 hn84 (sx_some hx141).1 hx141 rfl rfl ?_; clear hE hS a w; intro cs142 a w h143 hn144 hE hS
     refine WL.nil ?_
     refine ⟨⟨fun h => absurd h (by decide), fun _ => (hS.tail)⟩, ?_⟩
     obtain ⟨_, hx146, hq72⟩ := bindS hq72
     obtain ⟨h147, h148⟩ := ix_some hx146
     refine Rg.takeP (i := 16) hE rfl (by kernel_rfl) (runs_plain rfl) (Gives.idx hE ((w64 (q78 - 1)).toNat) rfl rfl sl123 h147 (by have := hn144; omega) (hS.vecAok 0 rfl (by have := hn144; omega : (w64 (q78 - 1)).toNat < x0.length))) rfl (tw_sel (fun h => absurd h (by decide)) (fun _ => (hS.tail))) fun a hE => ?_
     refine Rg.one (i := 17) false true rfl (by kernel_rfl) (by kernel_rfl) (by kernel_rfl) ?_
     obtain ⟨x150, hx151, hq72⟩ := bindS hq72
     refine WL.setD hE hS 0 rfl (runs_plain rfl) rfl rfl (vs := [vi x125.Line.Time, vi x125.Line.Late, vi x125.Line.No, vi x125.Line.To, vi x125.Line.Track, .bool x125.Line.Ends, vi x125.stop]) rfl ty127 rfl rfl rfl h143 hn144 (sx_some hx151).1 hx151 rfl rfl ?_; clear hE hS a w; intro cs152 a w h153 hn154 hE hS
     refine WL.nil ?_
     refine ⟨⟨fun h => absurd h (by decide), fun _ => (hS.tail)⟩, ?_⟩
     refine Rg.done (by kernel_rfl) ?_
     subst hK114
     refine W.region ?_
     refine v2 hS hE rfl rfl rfl rfl fun a hE => ?_
     refine vp hS hE rfl rfl fun a hE => WL.nil ?_
     subst hK85
     exact ⟨n74, Nat.lt_succ_self _, n74, (w64 (q78 - 1)), x150, cs152, rfl, hq72, h153, hn154, hE.pick _ ⟨rfl, rfl, rfl, rfl, rfl, rfl, trivial⟩, hS⟩
    replace hq72 := iteF hc113 hq72
    subst hK85
    refine W.exit rfl ?_
    exact ⟨q78, q79, cs83, Option.some.inj hq72, h82, hn84, hE.pick _ ⟨rfl, rfl, rfl, rfl, rfl, trivial⟩, hS⟩
   clear hE hS a w; rintro a w ⟨q78, q79, cs83, rfl, h82, hn84, hE, hS⟩
   dsimp only at hq57
   refine W.region ?_
   refine v2 hS hE rfl rfl rfl rfl fun a hE => ?_
   refine vp hS hE rfl rfl fun a hE => WL.nil ?_
   subst hK70
   exact ⟨n59, Nat.lt_succ_self _, n59, (w64 (q63 + 1)), q79, cs83, rfl, hq57, h82, hn84, hE.pick _ ⟨rfl, rfl, rfl, rfl, rfl, trivial⟩, hS⟩
  replace hq57 := iteF hc71 hq57
  subst hK70
  refine W.exit rfl ?_
  exact ⟨q63, q64, cs68, Option.some.inj hq57, h67, hn69, hE.pick _ trivial, hS⟩
 clear hE hS a w; rintro a w ⟨q63, q64, cs68, rfl, h67, hn69, hE, hS⟩
 dsimp only at hr
 refine finG (fn := Tryz.f146) (rs := []) (vs := []) hE rfl trivial ?_
 obtain rfl := Option.some.inj hr
 exact ⟨cs68, rfl, h67, hn69, hS⟩
set_option maxHeartbeats 8000000 in
theorem SlicesswapRangeCmpFuncguiderow_v1_ok {fu : Nat}  {w : World} {s : Sg} {R : List HP} {x0 : List GuideRow} {a_v0 : Option Addr} {c_v0 n_v0 : Nat} {cs_v0 : List Value} {x1 : Int} {x2 : Int} {x3 : Int} (hS : St w s (vecC 127 7 a_v0 c_v0 n_v0 cs_v0 :: R)) (h_v0 : Ev 7 RGuideRow s cs_v0 x0) (hn_v0 : x0.length = n_v0) {r : (List GuideRow)} (hr : SlicesswapRangeCmpFuncguiderow_v1 fu x0 x1 x2 x3 = some r) :
  Calls Tryz.prog 188 [.slice a_v0 n_v0 c_v0, vi x1, vi x2, vi x3, .func (.func 64) #[] #[]].toArray w (fun e w => ∃ (cs55 : List Value), e = .returned (.tuple #[]) ∧ Ev 7 RGuideRow s cs55 r ∧ r.length = n_v0 ∧ St w s (vecC 127 7 a_v0 c_v0 n_v0 cs55 :: R)) := by
 refine enter Tryz.func188 rfl rfl rfl fun a hE => ?_
 rw [SlicesswapRangeCmpFuncguiderow_v1] at hr
 subst hn_v0
 refine W.seq (W.region (vp hS hE rfl rfl fun a hE => WL.nil ?_))
 obtain ⟨q58, hq57, hr⟩ := bindS hr
 refine W.cut (fun a w => ∃ (q63 : Int), ∃ (q64 : List GuideRow), ∃ (cs68 : List Value), (q63, q64) = q58 ∧ Ev 7 RGuideRow s cs68 q64 ∧ q64.length = x0.length ∧ Rep a 38 [] ∧ St w s (vecC 127 7 a_v0 c_v0 x0.length cs68 :: R)) ?_ ?_
 ·refine W.block ?_
  refine W.loop (fun m a w => ∃ (n59 : Nat), ∃ (q63 : Int), ∃ (q64 : List GuideRow), ∃ (cs68 : List Value), n59 = m ∧ SlicesswapRangeCmpFuncguiderow_v1.loop1 x1 x2 x3 n59 q63 q64 = some q58 ∧ Ev 7 RGuideRow s cs68 q64 ∧ q64.length = x0.length ∧ Rep a 38 [(0, .slice a_v0 x0.length c_v0), (1, vi x1), (2, vi x2), (3, vi x3), (10, vi q63)] ∧ St w s (vecC 127 7 a_v0 c_v0 x0.length cs68 :: R)) (m := fu) ⟨fu, 0, x0, cs_v0, rfl, hq57, h_v0, (rfl), hE.pick _ ⟨rfl, rfl, rfl, rfl, rfl, trivial⟩, hS⟩ ?_
  clear hE hS a w hq57; rintro m60 a w ⟨n59, q63, q64, cs68, rfl, hq57, h67, hn69, hE, hS⟩
  refine W.gen fun K70 hK70 => ?_
  rcases n59 with _ | n59
  ·rw [SlicesswapRangeCmpFuncguiderow_v1.loop1] at hq57; exact absurd hq57 (by simp)
  rw [SlicesswapRangeCmpFuncguiderow_v1.loop1] at hq57
  refine W.seq ?_
  refine W.seq (W.region (v2 hS hE rfl rfl rfl rfl fun a hE => ?_))
  refine vp hS hE rfl rfl fun a hE => WL.nil ?_
  refine W.cond hE rfl (fun hc71 => ?_) (fun hc71 => ?_)
  ·replace hq57 := iteT hc71 hq57
   refine W.skip ?_
   refine W.seq ?_
   refine W.block ?_
   refine W.gen fun K72 hK72 => ?_
   refine W.regionE (sel (fun w => St w s (vecC 127 7 a_v0 c_v0 x0.length cs68 :: R)) (fun w => St w s (R))) (fun b i => cond b ([0, 1, 2, 3, 4, 5, 6, 7, 8, 9, 10, 11, 12, 13, 14, 15, 16, 17, 18, 19, 20, 22].contains i) ([0, 1, 2, 3, 4, 5, 6, 7, 8, 9, 10, 11, 12, 13, 14, 15, 16, 17, 18, 19, 20, 21, 22, 23].contains i)) mixed ?_
   replace hS := hS.drew
   refine tP (i := 0) hE rfl (by kernel_rfl) (Gives.p hE rfl) rfl hS (hS.tail) fun a hE => ?_
   refine tP (i := 1) hE rfl (by kernel_rfl) (Gives.p hE rfl) rfl hS (hS.tail) fun a hE => ?_
   refine tP (i := 2) hE rfl (by kernel_rfl) (Gives.p hE rfl) rfl hS (hS.tail) fun a hE => ?_
   refine tP (i := 3) hE rfl (by kernel_rfl) (Gives.p hE rfl) rfl hS (hS.tail) fun a hE => ?_
   refine tP (i := 4) hE rfl (by kernel_rfl) (Gives.p hE rfl) rfl hS (hS.tail) fun a hE => ?_
   refine tP (i := 5) hE rfl (by kernel_rfl) (Gives.p hE rfl) rfl hS (hS.tail) fun a hE => ?_
   refine tP (i := 6) hE rfl (by kernel_rfl) (Gives.p hE rfl) rfl hS (hS.tail) fun a hE => ?_
   refine tP (i := 7) hE rfl (by kernel_rfl) (Gives.p hE rfl) rfl hS (hS.tail) fun a hE => ?_
   refine tP (i := 8) hE rfl (by kernel_rfl) (Gives.p hE rfl) rfl hS (hS.tail) fun a hE => ?_
   refine tP (i := 9) hE rfl (by kernel_rfl) (Gives.p hE rfl) rfl hS (hS.tail) fun a hE => ?_
   refine tP (i := 10) hE rfl (by kernel_rfl) (Gives.p hE rfl) rfl hS (hS.tail) fun a hE => ?_
   refine tP (i := 11) hE rfl (by kernel_rfl) (Gives.p hE rfl) rfl hS (hS.tail) fun a hE => ?_
   obtain ⟨x73, hx74, hq57⟩ := bindS hq57
   obtain ⟨hi75, hlt76, hy77⟩ := gx_some hx74
   obtain ⟨vs78, hl79, hR80, hd81, hget82⟩ := h67.at hy77
   subst hR80
   refine tP (i := 12) hE rfl (by kernel_rfl) (Gives.idx hE ((w64 (x2 + q63)).toNat) rfl rfl sl123 hi75 (by have := hn69; omega) (hS.vecAok 0 rfl (by have := hn69; omega : (w64 (x2 + q63)).toNat < x0.length))) rfl hS (hS.tail) fun a hE => ?_
   refine tT (i := 13) true rfl hE rfl (by kernel_rfl) (Gives.loadA hE rfl (fun w h => St.vecSees h 0 rfl ((w64 (x2 + q63)).toNat * 7) _ hget82) ty127) rfl hS (hS.tail) fun a hE => ?_
   refine tP (i := 14) hE rfl (by kernel_rfl) (Gives.p hE rfl) rfl hS (hS.tail) fun a hE => ?_
   refine tP (i := 15) hE rfl (by kernel_rfl) (Gives.p hE rfl) rfl hS (hS.tail) fun a hE => ?_
   refine tP (i := 16) hE rfl (by kernel_rfl) (Gives.p hE rfl) rfl hS (hS.tail) fun a hE => ?_
   refine tP (i := 17) hE rfl (by kernel_rfl) (Gives.p hE rfl) rfl hS (hS.tail) fun a hE => ?_
   obtain ⟨x83, hx84, hq57⟩ := bindS hq57
   obtain ⟨hi85, hlt86, hy87⟩ := gx_some hx84
   obtain ⟨vs88, hl89, hR90, hd91, hget92⟩ := h67.at hy87
   subst hR90
   refine tP (i := 18) hE rfl (by kernel_rfl) (Gives.idx hE ((w64 (x1 + q63)).toNat) rfl rfl sl123 hi85 (by have := hn69; omega) (hS.vecAok 0 rfl (by have := hn69; omega : (w64 (x1 + q63)).toNat < x0.length))) rfl hS (hS.tail) fun a hE => ?_
   refine tT (i := 19) true rfl hE rfl (by kernel_rfl) (Gives.loadA hE rfl (fun w h => St.vecSees h 0 rfl ((w64 (x1 + q63)).toNat * 7) _ hget92) ty127) rfl hS (hS.tail) fun a hE => ?_
   obtain ⟨_, hx94, hq57⟩ := bindS hq57
   obtain ⟨h95, h96⟩ := ix_some hx94
   refine tP (i := 20) hE rfl (by kernel_rfl) (Gives.idx hE ((w64 (x1 + q63)).toNat) rfl rfl sl123 h95 (by have := hn69; omega) (hS.vecAok 0 rfl (by have := hn69; omega : (w64 (x1 + q63)).toNat < x0.length))) rfl hS (hS.tail) fun a hE => ?_
   refine Rg.one (i := 21) false true rfl (by kernel_rfl) (by kernel_rfl) (by kernel_rfl) ?_
   obtain ⟨x98, hx99, hq57⟩ := bindS hq57
   refine WL.setD hE hS 0 rfl (runs_plain rfl) rfl rfl (vs := [vi x73.Line.Time, vi x73.Line.Late, vi x73.Line.No, vi x73.Line.To, vi x73.Line.Track, .bool x73.Line.Ends, vi x73.stop]) rfl ty127 rfl rfl rfl h67 hn69 (sx_some hx99).1 hx99 rfl rfl ?_; clear hE hS a w; intro cs100 a w h101 hn102 hE hS
   refine WL.nil ?_
   refine ⟨⟨fun h => absurd h (by decide), fun _ => (hS.tail)⟩, ?_⟩
   obtain ⟨_, hx104, hq57⟩ := bindS hq57
   obtain ⟨h105, h106⟩ := ix_some hx104
   refine Rg.takeP (i := 22) hE rfl (by kernel_rfl) (runs_plain rfl) (Gives.idx hE ((w64 (x2 + q63)).toNat) rfl rfl sl123 h105 (by have := hn102; omega) (hS.vecAok 0 rfl (by have := hn102; omega : (w64 (x2 + q63)).toNat < x0.length))) rfl (tw_sel (fun h => absurd h (by decide)) (fun _ => (hS.tail))) fun a hE => ?_
   refine Rg.one (i := 23) false true rfl (by kernel_rfl) (by kernel_rfl) (by kernel_rfl) ?_
   obtain ⟨x108, hx109, hq57⟩ := bindS hq57
   refine WL.setD hE hS 0 rfl (runs_plain rfl) rfl rfl (vs := [vi x83.Line.Time, vi x83.Line.Late, vi x83.Line.No, vi x83.Line.To, vi x83.Line.Track, .bool x83.Line.Ends, vi x83.stop]) rfl ty127 rfl rfl rfl h101 hn102 (sx_some hx109).1 hx109 rfl rfl ?_; clear hE hS a w; intro cs110 a w h111 hn112 hE hS
   refine WL.nil ?_
   refine ⟨⟨fun h => absurd h (by decide), fun _ => (hS.tail)⟩, ?_⟩
   refine Rg.done (by kernel_rfl) ?_
   subst hK72
   refine W.region ?_
   refine v2 hS hE rfl rfl rfl rfl fun a hE => ?_
   refine vp hS hE rfl rfl fun a hE => WL.nil ?_
   subst hK70
   exact ⟨n59, Nat.lt_succ_self _, n59, (w64 (q63 + 1)), x108, cs110, rfl, hq57, h111, hn112, hE.pick _ ⟨rfl, rfl, rfl, rfl, rfl, trivial⟩, hS⟩
  replace hq57 := iteF hc71 hq57
  subst hK70
  refine W.exit rfl ?_
  exact ⟨q63, q64, cs68, Option.some.inj hq57, h67, hn69, hE.pick _ trivial, hS⟩
 clear hE hS a w; rintro a w ⟨q63, q64, cs68, rfl, h67, hn69, hE, hS⟩
 dsimp only at hr
 refine finG (fn := Tryz.f188) (rs := []) (vs := []) hE rfl trivial ?_
 obtain rfl := Option.some.inj hr
 exact ⟨cs68, rfl, h67, hn69, hS⟩
end Go.Proofs.YtpcebngchmgckaaGreatDoor
