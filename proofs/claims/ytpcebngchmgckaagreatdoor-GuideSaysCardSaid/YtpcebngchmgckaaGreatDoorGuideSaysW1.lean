/- The walks of the functions that GuideSays reaches: each call comes to what its mirror says. The conditions are those of each contract. -/
import Derived.Test.YtpcebngchmgckaaGreatDoorProg
import Derived.Test.YtpcebngchmgckaaGreatDoorFpTight
import Derived.Test.YtpcebngchmgckaaGreatDoorGuideSaysM
import Derived.Test.YtpcebngchmgckaaGreatDoorFpAllT
import Derived.Test.YtpcebngchmgckaaGreatDoorGuideSaysS
import Derived.Test.YtpcebngchmgckaaGreatDoorFpMapS
import Derived.Test.YtpcebngchmgckaaGreatDoorFpBytes
import Derived.Test.YtpcebngchmgckaaGreatDoorFpFld
import Derived.Test.YtpcebngchmgckaaGreatDoorFpMapG
import Derived.Test.YtpcebngchmgckaaGreatDoorFpMapV
import Derived.Test.YtpcebngchmgckaaGreatDoorFpMaps
import Derived.Test.YtpcebngchmgckaaGreatDoorFpOrd
import Derived.Test.YtpcebngchmgckaaGreatDoorFpRf
import Derived.Test.YtpcebngchmgckaaGreatDoorFpRng
set_option maxRecDepth 10000
namespace Go.Proofs.YtpcebngchmgckaaGreatDoor
open Go Go.Fp
def keyLineEnd : KeyS LineEnd where
 ls := fun a => [.i .i64 a.section_, .i .i64 a.end_]
 ks := [.i .i64, .i .i64]
 kinds := by intro a; rfl
 same := by intro a b; cases a; cases b; rw [Bool.eq_iff_iff]; simp [eqs, Leaf.same]
 law := by intro a b h; simpa using h
 refl := by simp

def keyGuidePoint : KeyS GuidePoint where
 ls := fun a => [.i .i64 a.Dep, .i .i64 a.Arr, .i .i64 a.Rides]
 ks := [.i .i64, .i .i64, .i .i64]
 kinds := by intro a; rfl
 same := by intro a b; cases a; cases b; rw [Bool.eq_iff_iff]; simp [eqs, Leaf.same]
 law := by intro a b h; simpa using h
 refl := by simp

def keyGuidePlace : KeyS GuidePlace where
 ls := fun a => [.i .i64 a.train, .i .i64 a.off]
 ks := [.i .i64, .i .i64]
 kinds := by intro a; rfl
 same := by intro a b; cases a; cases b; rw [Bool.eq_iff_iff]; simp [eqs, Leaf.same]
 law := by intro a b h; simpa using h
 refl := by simp

def keyAr3i64 : KeyS Ar3i64 where
 ls := fun a => [.i .i64 a.f0, .i .i64 a.f1, .i .i64 a.f2]
 ks := [.i .i64, .i .i64, .i .i64]
 kinds := by intro a; rfl
 same := by intro a b; cases a; cases b; rw [Bool.eq_iff_iff]; simp [eqs, Leaf.same]
 law := by intro a b h; simpa using h
 refl := by simp
theorem ae148 : arEqB Tryz.prog 148 2 (.i .i64) = true := by kernel_rfl
theorem ap213 : apOk Tryz.prog 213 216 3 = true := by kernel_rfl
theorem ap23 : apOk Tryz.prog 23 65 1 = true := by kernel_rfl
theorem ap27 : apOk Tryz.prog 27 95 3 = true := by kernel_rfl
theorem ar148 : arOk Tryz.prog 148 2 = true := by kernel_rfl
theorem ar195 : arOk Tryz.prog 195 3 = true := by kernel_rfl
theorem ar264 : arOk Tryz.prog 264 4 = true := by kernel_rfl
theorem arS_270 : arEqB Tryz.prog 270 3 (.i .i64) = true := by kernel_rfl
theorem bd100 : bodied Tryz.prog 100 = true := by kernel_rfl
theorem bd101 : bodied Tryz.prog 101 = true := by kernel_rfl
theorem bd102 : bodied Tryz.prog 102 = true := by kernel_rfl
theorem bd105 : bodied Tryz.prog 105 = true := by kernel_rfl
theorem bd11 : bodied Tryz.prog 11 = true := by kernel_rfl
theorem bd110 : bodied Tryz.prog 110 = true := by kernel_rfl
theorem bd111 : bodied Tryz.prog 111 = true := by kernel_rfl
theorem bd112 : bodied Tryz.prog 112 = true := by kernel_rfl
theorem bd113 : bodied Tryz.prog 113 = true := by kernel_rfl
theorem bd114 : bodied Tryz.prog 114 = true := by kernel_rfl
theorem bd115 : bodied Tryz.prog 115 = true := by kernel_rfl
theorem bd116 : bodied Tryz.prog 116 = true := by kernel_rfl
theorem bd118 : bodied Tryz.prog 118 = true := by kernel_rfl
theorem bd120 : bodied Tryz.prog 120 = true := by kernel_rfl
theorem bd121 : bodied Tryz.prog 121 = true := by kernel_rfl
theorem bd122 : bodied Tryz.prog 122 = true := by kernel_rfl
theorem bd123 : bodied Tryz.prog 123 = true := by kernel_rfl
theorem bd128 : bodied Tryz.prog 128 = true := by kernel_rfl
theorem bd129 : bodied Tryz.prog 129 = true := by kernel_rfl
theorem bd130 : bodied Tryz.prog 130 = true := by kernel_rfl
theorem bd131 : bodied Tryz.prog 131 = true := by kernel_rfl
theorem bd132 : bodied Tryz.prog 132 = true := by kernel_rfl
theorem bd133 : bodied Tryz.prog 133 = true := by kernel_rfl
theorem bd142 : bodied Tryz.prog 142 = true := by kernel_rfl
theorem bd143 : bodied Tryz.prog 143 = true := by kernel_rfl
theorem bd144 : bodied Tryz.prog 144 = true := by kernel_rfl
theorem bd145 : bodied Tryz.prog 145 = true := by kernel_rfl
theorem bd157 : bodied Tryz.prog 157 = true := by kernel_rfl
theorem bd158 : bodied Tryz.prog 158 = true := by kernel_rfl
theorem bd159 : bodied Tryz.prog 159 = true := by kernel_rfl
theorem bd160 : bodied Tryz.prog 160 = true := by kernel_rfl
theorem bd161 : bodied Tryz.prog 161 = true := by kernel_rfl
theorem bd162 : bodied Tryz.prog 162 = true := by kernel_rfl
theorem bd165 : bodied Tryz.prog 165 = true := by kernel_rfl
theorem bd166 : bodied Tryz.prog 166 = true := by kernel_rfl
theorem bd167 : bodied Tryz.prog 167 = true := by kernel_rfl
theorem bd168 : bodied Tryz.prog 168 = true := by kernel_rfl
theorem bd169 : bodied Tryz.prog 169 = true := by kernel_rfl
theorem bd17 : bodied Tryz.prog 17 = true := by kernel_rfl
theorem bd170 : bodied Tryz.prog 170 = true := by kernel_rfl
theorem bd18 : bodied Tryz.prog 18 = true := by kernel_rfl
theorem bd183 : bodied Tryz.prog 183 = true := by kernel_rfl
theorem bd184 : bodied Tryz.prog 184 = true := by kernel_rfl
theorem bd19 : bodied Tryz.prog 19 = true := by kernel_rfl
theorem bd194 : bodied Tryz.prog 194 = true := by kernel_rfl
theorem bd20 : bodied Tryz.prog 20 = true := by kernel_rfl
theorem bd21 : bodied Tryz.prog 21 = true := by kernel_rfl
theorem bd38 : bodied Tryz.prog 38 = true := by kernel_rfl
theorem bd41 : bodied Tryz.prog 41 = true := by kernel_rfl
theorem bd42 : bodied Tryz.prog 42 = true := by kernel_rfl
theorem bd43 : bodied Tryz.prog 43 = true := by kernel_rfl
theorem bd44 : bodied Tryz.prog 44 = true := by kernel_rfl
theorem bd47 : bodied Tryz.prog 47 = true := by kernel_rfl
theorem bd48 : bodied Tryz.prog 48 = true := by kernel_rfl
theorem bd49 : bodied Tryz.prog 49 = true := by kernel_rfl
theorem bd50 : bodied Tryz.prog 50 = true := by kernel_rfl
theorem bd51 : bodied Tryz.prog 51 = true := by kernel_rfl
theorem bd52 : bodied Tryz.prog 52 = true := by kernel_rfl
theorem bd53 : bodied Tryz.prog 53 = true := by kernel_rfl
theorem bd54 : bodied Tryz.prog 54 = true := by kernel_rfl
theorem bd60 : bodied Tryz.prog 60 = true := by kernel_rfl
theorem bd61 : bodied Tryz.prog 61 = true := by kernel_rfl
theorem bd69 : bodied Tryz.prog 69 = true := by kernel_rfl
theorem bd70 : bodied Tryz.prog 70 = true := by kernel_rfl
theorem bd71 : bodied Tryz.prog 71 = true := by kernel_rfl
theorem bd72 : bodied Tryz.prog 72 = true := by kernel_rfl
theorem bd73 : bodied Tryz.prog 73 = true := by kernel_rfl
theorem bd74 : bodied Tryz.prog 74 = true := by kernel_rfl
theorem bd75 : bodied Tryz.prog 75 = true := by kernel_rfl
theorem bd76 : bodied Tryz.prog 76 = true := by kernel_rfl
theorem bd77 : bodied Tryz.prog 77 = true := by kernel_rfl
theorem bd78 : bodied Tryz.prog 78 = true := by kernel_rfl
theorem bd79 : bodied Tryz.prog 79 = true := by kernel_rfl
theorem bd8 : bodied Tryz.prog 8 = true := by kernel_rfl
theorem bd81 : bodied Tryz.prog 81 = true := by kernel_rfl
theorem bd95 : bodied Tryz.prog 95 = true := by kernel_rfl
theorem cl213 : clOk Tryz.prog 213 216 3 = true := by kernel_rfl
theorem fd99_3 : fdOk Tryz.prog 99 3 3 3 = true := by kernel_rfl
theorem fl111_0 : fldOk Tryz.prog 111 0 0 = true := by kernel_rfl
theorem fl111_1 : fldOk Tryz.prog 111 1 1 = true := by kernel_rfl
theorem fl111_2 : fldOk Tryz.prog 111 2 2 = true := by kernel_rfl
theorem fl111_3 : fldOk Tryz.prog 111 3 3 = true := by kernel_rfl
theorem fl151_0 : fldOk Tryz.prog 151 0 0 = true := by kernel_rfl
theorem fl151_1 : fldOk Tryz.prog 151 1 1 = true := by kernel_rfl
theorem fl151_2 : fldOk Tryz.prog 151 2 2 = true := by kernel_rfl
theorem fl151_3 : fldOk Tryz.prog 151 3 3 = true := by kernel_rfl
theorem fl151_4 : fldOk Tryz.prog 151 4 4 = true := by kernel_rfl
theorem fl151_5 : fldOk Tryz.prog 151 5 5 = true := by kernel_rfl
theorem fl198_0 : fldOk Tryz.prog 198 0 0 = true := by kernel_rfl
theorem fl198_1 : fldOk Tryz.prog 198 1 1 = true := by kernel_rfl
theorem fl198_2 : fldOk Tryz.prog 198 2 2 = true := by kernel_rfl
theorem fl198_3 : fldOk Tryz.prog 198 3 3 = true := by kernel_rfl
theorem fl203_0 : fldOk Tryz.prog 203 0 0 = true := by kernel_rfl
theorem fl203_1 : fldOk Tryz.prog 203 1 1 = true := by kernel_rfl
theorem fl207_0 : fldOk Tryz.prog 207 0 0 = true := by kernel_rfl
theorem fl207_1 : fldOk Tryz.prog 207 1 1 = true := by kernel_rfl
theorem fl216_0 : fldOk Tryz.prog 216 0 0 = true := by kernel_rfl
theorem fl216_1 : fldOk Tryz.prog 216 1 1 = true := by kernel_rfl
theorem fl216_2 : fldOk Tryz.prog 216 2 2 = true := by kernel_rfl
theorem fl253_0 : fldOk Tryz.prog 253 0 0 = true := by kernel_rfl
theorem fl253_1 : fldOk Tryz.prog 253 1 1 = true := by kernel_rfl
theorem fl25_0 : fldOk Tryz.prog 25 0 0 = true := by kernel_rfl
theorem fl25_1 : fldOk Tryz.prog 25 1 1 = true := by kernel_rfl
theorem fl267_0 : fldOk Tryz.prog 267 0 0 = true := by kernel_rfl
theorem fl267_1 : fldOk Tryz.prog 267 1 1 = true := by kernel_rfl
theorem fl29_0 : fldOk Tryz.prog 29 0 0 = true := by kernel_rfl
theorem fl44_0 : fldOk Tryz.prog 44 0 0 = true := by kernel_rfl
theorem fl44_1 : fldOk Tryz.prog 44 1 1 = true := by kernel_rfl
theorem fl44_2 : fldOk Tryz.prog 44 2 2 = true := by kernel_rfl
theorem fl44_3 : fldOk Tryz.prog 44 3 3 = true := by kernel_rfl
theorem fl44_4 : fldOk Tryz.prog 44 4 4 = true := by kernel_rfl
theorem fl44_5 : fldOk Tryz.prog 44 5 5 = true := by kernel_rfl
theorem fl53_0 : fldOk Tryz.prog 53 0 0 = true := by kernel_rfl
theorem fl53_1 : fldOk Tryz.prog 53 1 1 = true := by kernel_rfl
theorem fl53_2 : fldOk Tryz.prog 53 2 2 = true := by kernel_rfl
theorem fl53_3 : fldOk Tryz.prog 53 3 3 = true := by kernel_rfl
theorem fl53_4 : fldOk Tryz.prog 53 4 4 = true := by kernel_rfl
theorem fl55_2 : fldOk Tryz.prog 55 2 2 = true := by kernel_rfl
theorem fl55_3 : fldOk Tryz.prog 55 3 3 = true := by kernel_rfl
theorem fl55_4 : fldOk Tryz.prog 55 4 4 = true := by kernel_rfl
theorem fl57_5 : fldOk Tryz.prog 57 5 5 = true := by kernel_rfl
theorem fl91_0 : fldOk Tryz.prog 91 0 0 = true := by kernel_rfl
theorem fl91_1 : fldOk Tryz.prog 91 1 2 = true := by kernel_rfl
theorem fl95_0 : fldOk Tryz.prog 95 0 0 = true := by kernel_rfl
theorem fl95_1 : fldOk Tryz.prog 95 1 1 = true := by kernel_rfl
theorem fl95_2 : fldOk Tryz.prog 95 2 2 = true := by kernel_rfl
theorem fl99_0 : fldOk Tryz.prog 99 0 0 = true := by kernel_rfl
theorem fl99_1 : fldOk Tryz.prog 99 1 1 = true := by kernel_rfl
theorem fl99_2 : fldOk Tryz.prog 99 2 2 = true := by kernel_rfl
theorem fl99_3 : fldOk Tryz.prog 99 3 3 = true := by kernel_rfl
theorem hu248 : (Tryz.prog.underlying 248).isSome = true := by kernel_rfl
theorem hu3 : (Tryz.prog.underlying 3).isSome = true := by kernel_rfl
theorem hu5 : (Tryz.prog.underlying 5).isSome = true := by kernel_rfl
theorem isl27 : isSl Tryz.prog 27 = true := by kernel_rfl
theorem mixed : Tryz.prog.follows .mixedOrders = true := by kernel_rfl
theorem mp125 : mpOk Tryz.prog keyI.ok 125 3 4 = true := by kernel_rfl
theorem mp251 : mpOkS Tryz.prog keyLineEnd.ks 251 253 4 = true := by kernel_rfl
theorem mp261 : mpOk Tryz.prog keyI.ok 261 3 27 = true := by kernel_rfl
theorem mp262 : mpOkS Tryz.prog keyGuidePoint.ks 262 216 4 = true := by kernel_rfl
theorem mp263 : mpOkS Tryz.prog keyGuidePlace.ks 263 267 4 = true := by kernel_rfl
theorem se95 : stEqB Tryz.prog 95 [.i .i64, .i .i64, .i .i64] = true := by kernel_rfl
theorem sl109 : slOk Tryz.prog 109 99 4 = true := by kernel_rfl
theorem sl139 : slOk Tryz.prog 139 5 1 = true := by kernel_rfl
theorem sl201 : slOk Tryz.prog 201 148 2 = true := by kernel_rfl
theorem sl213 : slOk Tryz.prog 213 216 3 = true := by kernel_rfl
theorem sl22 : slOk Tryz.prog 22 111 4 = true := by kernel_rfl
theorem sl23 : slOk Tryz.prog 23 65 1 = true := by kernel_rfl
theorem sl27 : slOk Tryz.prog 27 95 3 = true := by kernel_rfl
theorem sl39 : slOk Tryz.prog 39 44 6 = true := by kernel_rfl
theorem sl47 : slOk Tryz.prog 47 9 1 = true := by kernel_rfl
theorem sl48 : slOk Tryz.prog 48 151 7 = true := by kernel_rfl
theorem sl49 : slOk Tryz.prog 49 198 4 = true := by kernel_rfl
theorem sl50 : slOk Tryz.prog 50 203 2 = true := by kernel_rfl
theorem sl51 : slOk Tryz.prog 51 207 2 = true := by kernel_rfl
theorem sl65 : slOk Tryz.prog 65 3 1 = true := by kernel_rfl
theorem st9 : stOk Tryz.prog 9 = true := by kernel_rfl
theorem ty107 : tyOk Tryz.prog 107 false 1 = true := by kernel_rfl
theorem ty109 : tyOk Tryz.prog 109 false 1 = true := by kernel_rfl
theorem ty111 : tyOk Tryz.prog 111 true 4 = true := by kernel_rfl
theorem ty148 : tyOk Tryz.prog 148 true 2 = true := by kernel_rfl
theorem ty151 : tyOk Tryz.prog 151 true 7 = true := by kernel_rfl
theorem ty198 : tyOk Tryz.prog 198 true 4 = true := by kernel_rfl
theorem ty203 : tyOk Tryz.prog 203 true 2 = true := by kernel_rfl
theorem ty207 : tyOk Tryz.prog 207 true 2 = true := by kernel_rfl
theorem ty216 : tyOk Tryz.prog 216 true 3 = true := by kernel_rfl
theorem ty22 : tyOk Tryz.prog 22 false 1 = true := by kernel_rfl
theorem ty23 : tyOk Tryz.prog 23 false 1 = true := by kernel_rfl
theorem ty25 : tyOk Tryz.prog 25 true 2 = true := by kernel_rfl
theorem ty253 : tyOk Tryz.prog 253 true 2 = true := by kernel_rfl
theorem ty261 : tyOk Tryz.prog 261 false 1 = true := by kernel_rfl
theorem ty263 : tyOk Tryz.prog 263 false 1 = true := by kernel_rfl
theorem ty264 : tyOk Tryz.prog 264 true 4 = true := by kernel_rfl
theorem ty267 : tyOk Tryz.prog 267 true 2 = true := by kernel_rfl
theorem ty269 : tyOk Tryz.prog 269 false 1 = true := by kernel_rfl
theorem ty27 : tyOk Tryz.prog 27 false 1 = true := by kernel_rfl
theorem ty270 : tyOk Tryz.prog 270 true 3 = true := by kernel_rfl
theorem ty29 : tyOk Tryz.prog 29 true 1 = true := by kernel_rfl
theorem ty3 : tyOk Tryz.prog 3 false 1 = true := by kernel_rfl
theorem ty4 : tyOk Tryz.prog 4 false 1 = true := by kernel_rfl
theorem ty44 : tyOk Tryz.prog 44 true 6 = true := by kernel_rfl
theorem ty47 : tyOk Tryz.prog 47 false 1 = true := by kernel_rfl
theorem ty48 : tyOk Tryz.prog 48 false 1 = true := by kernel_rfl
theorem ty49 : tyOk Tryz.prog 49 false 1 = true := by kernel_rfl
theorem ty5 : tyOk Tryz.prog 5 false 1 = true := by kernel_rfl
theorem ty50 : tyOk Tryz.prog 50 false 1 = true := by kernel_rfl
theorem ty51 : tyOk Tryz.prog 51 false 1 = true := by kernel_rfl
theorem ty53 : tyOk Tryz.prog 53 true 5 = true := by kernel_rfl
theorem ty55 : tyOk Tryz.prog 55 true 5 = true := by kernel_rfl
theorem ty57 : tyOk Tryz.prog 57 true 6 = true := by kernel_rfl
theorem ty65 : tyOk Tryz.prog 65 false 1 = true := by kernel_rfl
theorem ty9 : tyOk Tryz.prog 9 false 1 = true := by kernel_rfl
theorem ty91 : tyOk Tryz.prog 91 true 3 = true := by kernel_rfl
theorem ty95 : tyOk Tryz.prog 95 true 3 = true := by kernel_rfl
theorem ty99 : tyOk Tryz.prog 99 true 4 = true := by kernel_rfl
theorem ui193 : Tryz.prog.underlying 193 = some (.int .u64) := by kernel_rfl
theorem ui3 : Tryz.prog.underlying 3 = some (.int .i64) := by kernel_rfl
theorem ui5 : Tryz.prog.underlying 5 = some (.int .u8) := by kernel_rfl
theorem um261 : Tryz.prog.underlying 261 = some (.map 3 27) := by kernel_rfl
theorem um263 : Tryz.prog.underlying 263 = some (.map 267 4) := by kernel_rfl
theorem um269 : Tryz.prog.underlying 269 = some (.map 270 4) := by kernel_rfl
theorem us139 : Tryz.prog.underlying 139 = some (.slice 5) := by kernel_rfl
theorem zm4 : (Tryz.prog.info? 4).bind (fun i => i.zero) = some (Value.bool false) := by kernel_rfl
theorem zr107 : (Tryz.prog.info? 107).bind (fun i => i.zero.map fun z => z.cells.toList) = some [.nilFunc] := by kernel_rfl
theorem zr111 : (Tryz.prog.info? 111).bind (fun i => i.zero.map fun z => z.cells.toList) = some [vi 0, vi 0, .slice none 0 0, .slice none 0 0] := by kernel_rfl
theorem zr141 : (Tryz.prog.info? 141).bind (fun i => i.zero.map fun z => z.cells.toList) = some [.pointer none, .slice none 0 0] := by kernel_rfl
theorem zr148 : (Tryz.prog.info? 148).bind (fun i => i.zero.map fun z => z.cells.toList) = some [vi 0, vi 0] := by kernel_rfl
theorem zr151 : (Tryz.prog.info? 151).bind (fun i => i.zero.map fun z => z.cells.toList) = some [vi 0, vi 0, vi 0, vi 0, vi 0, vi 0, .bool false] := by kernel_rfl
theorem zr198 : (Tryz.prog.info? 198).bind (fun i => i.zero.map fun z => z.cells.toList) = some [vi 0, vi 0, vi 0, vi 0] := by kernel_rfl
theorem zr203 : (Tryz.prog.info? 203).bind (fun i => i.zero.map fun z => z.cells.toList) = some [vi 0, vi 0] := by kernel_rfl
theorem zr207 : (Tryz.prog.info? 207).bind (fun i => i.zero.map fun z => z.cells.toList) = some [vi 0, vi 0] := by kernel_rfl
theorem zr216 : (Tryz.prog.info? 216).bind (fun i => i.zero.map fun z => z.cells.toList) = some [vi 0, vi 0, vi 0] := by kernel_rfl
theorem zr25 : (Tryz.prog.info? 25).bind (fun i => i.zero.map fun z => z.cells.toList) = some [.slice none 0 0, .slice none 0 0] := by kernel_rfl
theorem zr253 : (Tryz.prog.info? 253).bind (fun i => i.zero.map fun z => z.cells.toList) = some [vi 0, vi 0] := by kernel_rfl
theorem zr261 : (Tryz.prog.info? 261).bind (fun i => i.zero.map fun z => z.cells.toList) = some [.map none] := by kernel_rfl
theorem zr264 : (Tryz.prog.info? 264).bind (fun i => i.zero.map fun z => z.cells.toList) = some [.map none, .map none, .map none, .map none] := by kernel_rfl
theorem zr267 : (Tryz.prog.info? 267).bind (fun i => i.zero.map fun z => z.cells.toList) = some [vi 0, vi 0] := by kernel_rfl
theorem zr269 : (Tryz.prog.info? 269).bind (fun i => i.zero.map fun z => z.cells.toList) = some [.map none] := by kernel_rfl
theorem zr27 : (Tryz.prog.info? 27).bind (fun i => i.zero.map fun z => z.cells.toList) = some [.slice none 0 0] := by kernel_rfl
theorem zr270 : (Tryz.prog.info? 270).bind (fun i => i.zero.map fun z => z.cells.toList) = some [vi 0, vi 0, vi 0] := by kernel_rfl
theorem zr29 : (Tryz.prog.info? 29).bind (fun i => i.zero.map fun z => z.cells.toList) = some [.slice none 0 0] := by kernel_rfl
theorem zr4 : (Tryz.prog.info? 4).bind (fun i => i.zero.map fun z => z.cells.toList) = some [.bool false] := by kernel_rfl
theorem zr44 : (Tryz.prog.info? 44).bind (fun i => i.zero.map fun z => z.cells.toList) = some [vi 0, vi 0, vi 0, vi 0, vi 0, .bool false] := by kernel_rfl
theorem zr95 : (Tryz.prog.info? 95).bind (fun i => i.zero.map fun z => z.cells.toList) = some [vi 0, vi 0, vi 0] := by kernel_rfl
theorem zr99 : (Tryz.prog.info? 99).bind (fun i => i.zero.map fun z => z.cells.toList) = some [vi 0, vi 0, vi 0, vi 0] := by kernel_rfl
theorem zs27 : (Tryz.prog.info? 27).bind (fun i => i.zero) = some (.slice none 0 0) := by kernel_rfl
theorem sbmixed : Tryz.prog.follows .mixedOrders = true := by kernel_rfl
theorem sbty60 : tyOk Tryz.prog 138 false 1 = true := by kernel_rfl
theorem sbty61 : tyOk Tryz.prog 139 false 1 = true := by kernel_rfl
theorem sbfl0 : fldOk Tryz.prog 141 0 0 = true := by kernel_rfl
theorem sbfl1 : fldOk Tryz.prog 141 1 1 = true := by kernel_rfl
theorem sbap : apOk Tryz.prog 139 5 1 = true := by kernel_rfl
theorem sbsl : slOk Tryz.prog 139 5 1 = true := by kernel_rfl
theorem sbpt : ptOk Tryz.prog 138 141 = true := by kernel_rfl
theorem sbu60 : Tryz.prog.underlying 138 = some (.pointer 141) := by kernel_rfl
theorem sbu77 : Tryz.prog.underlying 257 = some .unsafePointer := by kernel_rfl
theorem sbu76 : Tryz.prog.underlying 196 = some (.pointer 5) := by kernel_rfl
theorem sbu9 : Tryz.prog.underlying 9 = some .string := by kernel_rfl
theorem sbst : stOk Tryz.prog 9 = true := by kernel_rfl
theorem sbc : Tryz.prog.cellsOf 141 = 2 := by kernel_rfl
theorem sbc5 : Tryz.prog.cellsOf 5 = 1 := by kernel_rfl
theorem sbi0 : (Tryz.prog.info? 141).map (·.size) = some 2 := by kernel_rfl
theorem sbi : ∃ j, Tryz.prog.info? 141 = some j ∧ j.size ≠ 0 := by
 have h := sbi0
 rw [Option.map_eq_some_iff] at h
 obtain ⟨j, h1, h2⟩ := h
 exact ⟨j, h1, by omega⟩
theorem sbsame : sameOk Tryz.prog 163 := ⟨_, rfl, by kernel_rfl, by kernel_rfl, by kernel_rfl, by kernel_rfl⟩
theorem sbbd : bodied Tryz.prog 117 = true := by kernel_rfl
section
variable {w : World} {s : Sg} {R : List HP} {b : Nat} {y : ByteArray}
theorem sbCheck_ok {f a : Option Addr} {c : Nat} (hf : f = none ∨ f = some ⟨b, 0, none⟩) (hS : St w s (pc b [.pointer f, .slice a y.size c].toArray 141 :: R)) :
  Calls Tryz.prog 117 [pp b].toArray w (fun e w => e = .returned (.tuple #[]) ∧ St w s (pc b [pp b, .slice a y.size c].toArray 141 :: R)) := by
 obtain ⟨j, hj1, hj2⟩ := sbi
 refine enter Tryz.func117 rfl rfl rfl fun a hE => ?_
 refine W.seq (W.region (vp hS hE rfl rfl fun a hE => ?_))
 refine vP hS hE (Gives.nilOk hE rfl) rfl fun a hE => ?_
 refine vP hS hE (Gives.fld hE rfl sbfl0) rfl fun a hE => ?_
 refine vP hS hE (Gives.loadB hE 0 rfl rfl rfl sbty60) rfl fun a hE => ?_
 refine vP hS hE (Gives.isNilP hE rfl rfl sbpt) rfl fun a hE => WL.nil ?_
 refine W.cond hE rfl (fun hc => ?_) (fun hc => ?_)
 ·refine W.region ?_
  refine v2 hS hE rfl rfl rfl rfl fun a hE => ?_
  refine vP hS hE (Gives.toUnsafe hE 0 rfl rfl rfl sbu60 sbu77 hj1 hj2) rfl fun a hE => ?_
  refine WL.same hE sbsame (runs_plain rfl) rfl rfl fun a hE => ?_
  refine vP hS hE (Gives.fromUnsafe hE 0 rfl rfl sbu77 sbu60 hj1 sbc rfl) rfl fun a hE => ?_
  refine vP hS hE (Gives.nilOk hE rfl) rfl fun a hE => ?_
  refine vP hS hE (Gives.fld hE rfl sbfl0) rfl fun a hE => ?_
  refine WL.storeI hE hS 0 rfl _ (runs_plain rfl) rfl rfl rfl sbty60 rfl rfl rfl rfl ?_; clear hE hS a; intro a w hE hS
  refine WL.nil ?_
  refine fin0 hE rfl ?_
  exact ⟨rfl, hS⟩
 have hf' : f = some ⟨b, 0, none⟩ := by
  rcases hf with rfl | h
  ·cases hc
  exact h
 subst hf'
 refine W.seq (W.region (vp hS hE rfl rfl fun a hE => ?_))
 refine vP hS hE (Gives.nilOk hE rfl) rfl fun a hE => ?_
 refine vP hS hE (Gives.fld hE rfl sbfl0) rfl fun a hE => ?_
 refine vP hS hE (Gives.loadB hE 0 rfl rfl rfl sbty60) rfl fun a hE => ?_
 refine vp hS hE rfl rfl fun a hE => ?_
 refine vP hS hE (Gives.neqSame hE rfl rfl sbu60 hj1) rfl fun a hE => WL.nil ?_
 refine W.condF hE rfl rfl ?_
 refine W.skip ?_
 refine fin0 hE rfl ?_
 exact ⟨rfl, hS⟩

theorem sbWrite_ok {x r : ByteArray} (hS : St w s (sbC 141 5 b y :: R)) (hr : sbw y x = some r) :
  Calls Tryz.prog 70 [pp b, .string x].toArray w (fun e w => e = .returned (.tuple #[vi x.size, .nilIface]) ∧ St w s (sbC 141 5 b r :: R)) := by
 obtain ⟨h1, h2, rfl⟩ := sbw_some hr
 obtain ⟨f, sa, c, hf, ha, hS⟩ := hS.sbOpen
 refine enter Tryz.func70 rfl rfl rfl fun a hE => ?_
 refine W.seq (W.region (v2 hS hE rfl rfl rfl rfl fun a hE => WL.nil ?_))
 refine W.seq (W.region (vp hS hE rfl rfl fun a hE => ?_))
 refine WL.fnq hE (sbCheck_ok hf hS) (runs_plain rfl) sbbd rfl rfl rfl ?_
 clear hE hS; rintro e w ⟨rfl, hS⟩; refine ⟨_, rfl, ?_⟩; clear a; intro a hE
 refine WL.nil ?_
 refine W.seq (W.region (v2 hS hE rfl rfl rfl rfl fun a hE => ?_))
 refine vP hS hE (Gives.nilOk hE rfl) rfl fun a hE => ?_
 refine vP hS hE (Gives.fld hE rfl sbfl1) rfl fun a hE => ?_
 refine vP hS hE (Gives.loadB hE 0 rfl rfl rfl sbty61) rfl fun a hE => ?_
 refine vp hS hE rfl rfl fun a hE => ?_
 refine WL.appStr hE hS 1 (runs_plain rfl) rfl rfl rfl sbap sbu9 h1 h2 ha.1 rfl ?_; clear hE hS a ha; intro sa2 c2 a w ha hE hS
 refine vP hS hE (Gives.nilOk hE rfl) rfl fun a hE => ?_
 refine vP hS hE (Gives.fld hE rfl sbfl1) rfl fun a hE => ?_
 refine WL.storeI hE hS 0 rfl _ (runs_plain rfl) rfl rfl rfl sbty61 rfl rfl rfl rfl ?_; clear hE hS a; intro a w hE hS
 refine WL.nil ?_
 refine W.seq (W.region (vp hS hE rfl rfl fun a hE => ?_))
 refine vP hS hE (Gives.lenS hE rfl sbst) rfl fun a hE => ?_
 refine v2 hS hE rfl rfl rfl rfl fun a hE => WL.nil ?_
 refine W.ret ?_
 refine finG (fn := Tryz.f70) (rs := [.tmp 4, .tmp 5]) (vs := [_, _]) hE rfl ⟨rfl, rfl, trivial⟩ ?_
 refine ⟨rfl, St.sbClose (f := some ⟨b, 0, none⟩) (a := sa2) (c := c2) (.inr rfl) ha ?_⟩
 rw [ByteArray.size_append, byteCells_app]
 exact hS

theorem sbString_ok (hS : St w s (sbC 141 5 b y :: R)) :
  Calls Tryz.prog 73 [pp b].toArray w (fun e w => e = .returned (.string y) ∧ St w s R) := by
 obtain ⟨f, sa, c, hf, ha, hS⟩ := hS.sbOpen
 refine enter Tryz.func73 rfl rfl rfl fun a hE => ?_
 refine W.seq (W.region (vp hS hE rfl rfl fun a hE => WL.nil ?_))
 refine W.seq ?_
 refine W.regionE (sel (fun w => St w s (pc b [.pointer f, .slice sa y.size c].toArray 141 :: vecC 5 1 sa c y.size (byteCells y) :: R)) (fun w => St w s R)) (fun b i => cond b (!(i == 10)) true) sbmixed ?_
 replace hS := hS.drew
 refine Rg.takeP (i := 0) hE rfl (by kernel_rfl) (runs_plain rfl) (Gives.p hE rfl) rfl (tw_sel (fun _ => hS) (fun _ => hS.tail.tail)) fun a hE => ?_
 refine Rg.takeP (i := 5) hE rfl (by kernel_rfl) (runs_plain rfl) (Gives.p hE rfl) rfl (tw_sel (fun _ => hS) (fun _ => hS.tail.tail)) fun a hE => ?_
 refine Rg.takeP (i := 1) hE rfl (by kernel_rfl) (runs_plain rfl) (Gives.nilOk hE rfl) rfl (tw_sel (fun _ => hS) (fun _ => hS.tail.tail)) fun a hE => ?_
 refine Rg.takeP (i := 6) hE rfl (by kernel_rfl) (runs_plain rfl) (Gives.nilOk hE rfl) rfl (tw_sel (fun _ => hS) (fun _ => hS.tail.tail)) fun a hE => ?_
 refine Rg.takeP (i := 2) hE rfl (by kernel_rfl) (runs_plain rfl) (Gives.fld hE rfl sbfl1) rfl (tw_sel (fun _ => hS) (fun _ => hS.tail.tail)) fun a hE => ?_
 refine Rg.takeP (i := 7) hE rfl (by kernel_rfl) (runs_plain rfl) (Gives.fld hE rfl sbfl1) rfl (tw_sel (fun _ => hS) (fun _ => hS.tail.tail)) fun a hE => ?_
 refine Rg.two (i := 3) (j := 8) true true true true rfl rfl (by kernel_rfl) (by kernel_rfl) (by kernel_rfl) (by kernel_rfl) (by kernel_rfl) ?_ ?_
 ·refine vP hS hE (Gives.loadB hE 0 rfl rfl rfl sbty61) rfl fun a hE => WL.nil ?_
  refine ⟨⟨fun _ => hS, fun _ => hS.tail.tail⟩, ?_⟩
  refine Rg.takeP (i := 4) hE rfl (by kernel_rfl) (runs_plain rfl) (Gives.sliceData hE rfl ha.2) rfl (tw_sel (fun _ => hS) (fun _ => hS.tail.tail)) fun a hE => ?_
  refine Rg.one (i := 8) true true rfl (by kernel_rfl) (by kernel_rfl) (by kernel_rfl) ?_
  refine vP hS hE (Gives.loadB hE 0 rfl rfl rfl sbty61) rfl fun a hE => WL.nil ?_
  refine ⟨⟨fun _ => hS, fun _ => hS.tail.tail⟩, ?_⟩
  refine Rg.takeP (i := 9) hE rfl (by kernel_rfl) (runs_plain rfl) (Gives.len hE rfl sbsl) rfl (tw_sel (fun _ => hS) (fun _ => hS.tail.tail)) fun a hE => ?_
  refine Rg.one (i := 10) false true rfl (by kernel_rfl) (by kernel_rfl) (by kernel_rfl) ?_
  refine WL.sbString hE hS 1 (runs_plain rfl) rfl rfl rfl ha.1 sbu76 sbc5 rfl ?_; clear hE hS a; intro a w hE hS
  refine WL.nil ?_
  refine ⟨⟨fun h => absurd h (by decide), fun _ => hS.tail⟩, ?_⟩
  refine Rg.takeP (i := 11) hE rfl (by kernel_rfl) (runs_plain rfl) (Gives.p hE rfl) rfl (tw_sel (fun h => absurd h (by decide)) (fun _ => hS.tail)) fun a hE => ?_
  refine Rg.done (by kernel_rfl) ?_
  refine W.ret ?_
  refine finG (fn := Tryz.f73) (rs := [.tmp 2]) (vs := [_]) hE rfl ⟨rfl, trivial⟩ ?_
  exact ⟨rfl, hS.tail⟩
 refine vP hS hE (Gives.loadB hE 0 rfl rfl rfl sbty61) rfl fun a hE => WL.nil ?_
 refine ⟨⟨fun _ => hS, fun _ => hS.tail.tail⟩, ?_⟩
 refine Rg.takeP (i := 9) hE rfl (by kernel_rfl) (runs_plain rfl) (Gives.len hE rfl sbsl) rfl (tw_sel (fun _ => hS) (fun _ => hS.tail.tail)) fun a hE => ?_
 refine Rg.one (i := 3) true true rfl (by kernel_rfl) (by kernel_rfl) (by kernel_rfl) ?_
 refine vP hS hE (Gives.loadB hE 0 rfl rfl rfl sbty61) rfl fun a hE => WL.nil ?_
 refine ⟨⟨fun _ => hS, fun _ => hS.tail.tail⟩, ?_⟩
 refine Rg.takeP (i := 4) hE rfl (by kernel_rfl) (runs_plain rfl) (Gives.sliceData hE rfl ha.2) rfl (tw_sel (fun _ => hS) (fun _ => hS.tail.tail)) fun a hE => ?_
 refine Rg.one (i := 10) false true rfl (by kernel_rfl) (by kernel_rfl) (by kernel_rfl) ?_
 refine WL.sbString hE hS 1 (runs_plain rfl) rfl rfl rfl ha.1 sbu76 sbc5 rfl ?_; clear hE hS a; intro a w hE hS
 refine WL.nil ?_
 refine ⟨⟨fun h => absurd h (by decide), fun _ => hS.tail⟩, ?_⟩
 refine Rg.takeP (i := 11) hE rfl (by kernel_rfl) (runs_plain rfl) (Gives.p hE rfl) rfl (tw_sel (fun h => absurd h (by decide)) (fun _ => hS.tail)) fun a hE => ?_
 refine Rg.done (by kernel_rfl) ?_
 refine W.ret ?_
 refine finG (fn := Tryz.f73) (rs := [.tmp 2]) (vs := [_]) hE rfl ⟨rfl, trivial⟩ ?_
 exact ⟨rfl, hS.tail⟩
end
theorem itoa_ok {w : World} {s : Sg} {R : List HP} {x : Int} {r : ByteArray} (hS : St w s R) (hTab : TabS Tryz.prog s) (hr : itoa x = some r) : Calls Tryz.prog 72 [vi x].toArray w (fun e w => e = .returned (.string r) ∧ St w s R) := by
 obtain ⟨⟨h0, h1⟩, rfl⟩ := itoa_some hr
 refine (Tryz.strconv_Itoa x h0 h1 w (hTab w R hS)).mono ?_
 rintro e w' ⟨rfl, k, os, rfl⟩
 exact ⟨rfl, (hS.drewN k).growBy os⟩
set_option maxHeartbeats 8000000 in
theorem Linename_ok  {w : World} {s : Sg} {R : List HP} {x0 : ByteArray} (hS : St w s (R))  {r : Bool} (hr : Linename x0 = some r) :
  Calls Tryz.prog 111 [.string x0].toArray w (fun e w => e = .returned (.bool r) ∧ St w s (R)) := by
 refine enter Tryz.func111 rfl rfl rfl fun a hE => ?_
 rw [Linename] at hr
 refine W.seq (W.region (vp hS hE rfl rfl fun a hE => WL.nil ?_))
 refine W.seq ?_
 refine W.seq (W.region (vp hS hE rfl rfl fun a hE => ?_))
 obtain ⟨_, hz51, hr⟩ := bindS hr
 refine WL.toBytes hE hS (runs_plain rfl) rfl rfl st9 us139 ui5 hz51 ?_; clear hE hS a w; intro a52 c53 s54 a w hle55 h56 hE hS
 refine vP hS hE (Gives.len hE rfl sl139) rfl fun a hE => ?_
 refine vp hS hE rfl rfl fun a hE => WL.nil ?_
 obtain ⟨q58, hq57, hr⟩ := bndS hr
 refine W.cut (fun a w => (.next ()) = q58 ∧ Rep a 27 [(0, .string x0)] ∧ St w s54 (R)) ?_ ?_
 ·refine W.block ?_
  refine W.loop (fun m a w => ∃ (rest61 : List Int) (k59 : Nat), rest61.length = m ∧ (sby x0).drop k59 = rest61 ∧ Linename.loop1 rest61 = q58 ∧ Rep a 27 [(0, .string x0), (6, .slice a52 (sby x0).length c53), (7, vi (((sby x0)).length : Int)), (8, vi ((k59 : Nat) : Int))] ∧ St w s54 (R)) (m := (sby x0).length) ⟨(sby x0), 0, rfl, rfl, hq57, hE.pick _ ⟨rfl, rfl, rfl, rfl, trivial⟩, hS⟩ ?_
  clear hE hS a w hq57; rintro m65 a w ⟨rest61, k59, rfl, hd62, hq57, hE, hS⟩
  refine W.gen fun K68 hK68 => ?_
  rcases rest61 with _ | ⟨x60, rest61⟩
  ·have hlt63 := drop_nil hd62
   refine W.seq (W.region (vp hS hE rfl rfl fun a hE => WL.nil ?_))
   refine W.seq ?_
   refine W.condF hE rfl (decide_eq_false (by omega)) ?_
   subst hK68
   refine W.exit rfl ?_
   exact ⟨hq57, hE.pick _ ⟨rfl, trivial⟩, hS⟩
  obtain ⟨hlt63, hx64, hd62⟩ := drop_cons hd62
  rw [Linename.loop1] at hq57
  refine W.seq (W.region (vp hS hE rfl rfl fun a hE => WL.nil ?_))
  refine W.seq ?_
  refine W.condT hE rfl (decide_eq_true (by omega)) ?_
  refine W.skip ?_
  refine W.seq ?_
  refine W.block ?_
  refine W.seq (W.region ?_)
  obtain ⟨cs69, hl70, hR71, hat72⟩ := h56.at hx64
  subst hR71
  refine vP hS hE (Gives.idx hE k59 rfl rfl sl139 rfl hlt63 (h56.aok hlt63)) rfl fun a hE => ?_
  refine vP hS hE (Gives.load1 hE rfl (fun w h => hat72 w _ h) ty5) rfl fun a hE => ?_
  refine vp hS hE rfl rfl fun a hE => WL.nil ?_
  refine W.seq ?_
  obtain ⟨q74, hq73, hq57⟩ := bndS hq57
  refine W.cut (fun a w => ∃ (q77 : Bool), q77 = q74 ∧ Rep a 27 [(0, .string x0), (6, .slice a52 (sby x0).length c53), (7, vi (((sby x0)).length : Int)), (8, vi ((k59 : Nat) : Int)), (17, .bool q77)] ∧ St w s54 (R)) ?_ ?_
  ·refine W.gen fun K78 hK78 => ?_
   refine W.region ?_
   refine v2 hS hE rfl rfl rfl rfl fun a hE => ?_
   refine vp hS hE rfl rfl fun a hE => ?_
   rcases Bool.eq_false_or_eq_true (decide (x60 < 97)) with hg79 | hg79
   ·replace hq73 := iteT hg79 hq73
    refine nO hE rfl rfl rfl (by rw [hg79]; decide) rfl fun a hE => ?_
    refine nO hE rfl rfl rfl (by rw [hg79]; decide) rfl fun a hE => ?_
    refine vP hS hE (Gives.pickT hE rfl hg79 rfl) rfl fun a hE => WL.nil ?_
    subst hK78
    exact ⟨true, hq73, hE.pick _ ⟨rfl, rfl, rfl, rfl, rfl, trivial⟩, hS⟩
   replace hq73 := iteF hg79 hq73
   refine WL.vS hS hE (runs_if hE rfl rfl rfl hg79) (Gives.p hE rfl) rfl fun a hE => ?_
   refine WL.vS hS hE (runs_if hE rfl rfl rfl hg79) (Gives.p hE rfl) rfl fun a hE => ?_
   refine vP hS hE (Gives.pickF hE rfl hg79 rfl) rfl fun a hE => WL.nil ?_
   subst hK78
   exact ⟨decide (x60 > 122), hq73, hE.pick _ ⟨rfl, rfl, rfl, rfl, rfl, trivial⟩, hS⟩
  clear hE hS a w; rintro a w ⟨q77, rfl, hE, hS⟩
  refine W.cond hE rfl (fun hc80 => ?_) (fun hc80 => ?_)
  ·replace hq57 := iteT hc80 hq57
   refine W.seq (W.region (vp hS hE rfl rfl fun a hE => WL.nil ?_))
   refine W.ret ?_
   subst hK68
   rw [← hq57] at hr
   dsimp only at hr
   refine finG (fn := Tryz.f111) (rs := [.tmp 2]) (vs := [_]) hE rfl ⟨rfl, trivial⟩ ?_
   obtain rfl := Option.some.inj hr
   exact ⟨rfl, (hS.down hle55)⟩
  replace hq57 := iteF hc80 hq57
  refine W.skip ?_
  refine W.region ?_
  refine vP hS hE (Gives.inc hE rfl (by have := h56.small; omega)) rfl fun a hE => ?_
  refine vp hS hE rfl rfl fun a hE => WL.nil ?_
  subst hK68
  exact ⟨rest61.length, Nat.lt_succ_self _, rest61, k59 + 1, rfl, hd62, hq57, hE.pick _ ⟨rfl, rfl, rfl, rfl, trivial⟩, hS⟩
 clear hE hS a w; rintro a w ⟨rfl, hE, hS⟩
 dsimp only at hr
 refine W.seq ?_
 obtain ⟨q82, hq81, hr⟩ := bndS hr
 refine W.cut (fun a w => ∃ (q85 : Bool), q85 = q82 ∧ Rep a 27 [(2, .bool q85)] ∧ St w s54 (R)) ?_ ?_
 ·refine W.gen fun K86 hK86 => ?_
  refine W.region ?_
  refine vp hS hE rfl rfl fun a hE => ?_
  refine vP hS hE (Gives.lenS hE rfl st9) rfl fun a hE => ?_
  refine v2 hS hE rfl rfl rfl rfl fun a hE => ?_
  rcases Bool.eq_false_or_eq_true (decide (((x0.size : Nat) : Int) ≥ 1)) with hg87 | hg87
  ·replace hq81 := iteT hg87 hq81
   refine WL.vS hS hE (runs_if hE rfl rfl rfl hg87) (Gives.p hE rfl) rfl fun a hE => ?_
   refine WL.vS hS hE (runs_if hE rfl rfl rfl hg87) (Gives.lenS hE rfl st9) rfl fun a hE => ?_
   refine WL.vS hS hE (runs_if hE rfl rfl rfl hg87) (Gives.p hE rfl) rfl fun a hE => ?_
   refine vP hS hE (Gives.pickT hE rfl hg87 rfl) rfl fun a hE => ?_
   refine vp hS hE rfl rfl fun a hE => WL.nil ?_
   subst hK86
   exact ⟨decide (((x0.size : Nat) : Int) ≤ 12), hq81, hE.pick _ ⟨rfl, trivial⟩, hS⟩
  replace hq81 := iteF hg87 hq81
  refine nO hE rfl rfl rfl (by rw [hg87]; decide) rfl fun a hE => ?_
  refine nO hE rfl rfl rfl (by rw [hg87]; decide) rfl fun a hE => ?_
  refine nO hE rfl rfl rfl (by rw [hg87]; decide) rfl fun a hE => ?_
  refine vP hS hE (Gives.pickF hE rfl hg87 rfl) rfl fun a hE => ?_
  refine vp hS hE rfl rfl fun a hE => WL.nil ?_
  subst hK86
  exact ⟨false, hq81, hE.pick _ ⟨rfl, trivial⟩, hS⟩
 clear hE hS a w; rintro a w ⟨q85, rfl, hE, hS⟩
 refine W.ret ?_
 refine finG (fn := Tryz.f111) (rs := [.tmp 2]) (vs := [_]) hE rfl ⟨rfl, trivial⟩ ?_
 obtain rfl := Option.some.inj hr
 exact ⟨rfl, (hS.down hle55)⟩
set_option maxHeartbeats 8000000 in
theorem SlicesIndexLstring_ok  {w : World} {s : Sg} {R : List HP} {x0 : List ByteArray} {a0 : Option Addr} {c0 : Nat} {x1 : ByteArray} (hS : St w s (R)) (h0 : Sl 1 RS s a0 c0 x0) {r : Int} (hr : SlicesIndexLstring x0 x1 = r) :
  Calls Tryz.prog 158 [.slice a0 x0.length c0, .string x1].toArray w (fun e w => e = .returned (vi r) ∧ St w s (R)) := by
 refine enter Tryz.func158 rfl rfl rfl fun a hE => ?_
 rw [SlicesIndexLstring] at hr
 refine W.seq (W.region (vp hS hE rfl rfl fun a hE => WL.nil ?_))
 refine W.seq ?_
 refine W.seq (W.region (vp hS hE rfl rfl fun a hE => ?_))
 refine vP hS hE (Gives.len hE rfl sl47) rfl fun a hE => ?_
 refine vp hS hE rfl rfl fun a hE => WL.nil ?_
 obtain ⟨q52, hq51, hr⟩ := bndS hr
 refine W.cut (fun a w => (.next ()) = q52 ∧ Rep a 19 [] ∧ St w s (R)) ?_ ?_
 ·refine W.block ?_
  refine W.loop (fun m a w => ∃ (rest55 : List ByteArray) (k53 : Nat), rest55.length = m ∧ x0.drop k53 = rest55 ∧ SlicesIndexLstring.loop1 x1 rest55 k53 = q52 ∧ Rep a 19 [(0, .slice a0 x0.length c0), (1, .string x1), (7, vi ((x0).length : Int)), (8, vi ((k53 : Nat) : Int))] ∧ St w s (R)) (m := x0.length) ⟨x0, 0, rfl, rfl, hq51, hE.pick _ ⟨rfl, rfl, rfl, rfl, trivial⟩, hS⟩ ?_
  clear hE hS a w hq51; rintro m59 a w ⟨rest55, k53, rfl, hd56, hq51, hE, hS⟩
  refine W.gen fun K62 hK62 => ?_
  rcases rest55 with _ | ⟨x54, rest55⟩
  ·have hlt57 := drop_nil hd56
   refine W.seq (W.region (vp hS hE rfl rfl fun a hE => WL.nil ?_))
   refine W.seq ?_
   refine W.condF hE rfl (decide_eq_false (by omega)) ?_
   subst hK62
   refine W.exit rfl ?_
   exact ⟨hq51, hE.pick _ trivial, hS⟩
  obtain ⟨hlt57, hx58, hd56⟩ := drop_cons hd56
  rw [SlicesIndexLstring.loop1] at hq51
  refine W.seq (W.region (vp hS hE rfl rfl fun a hE => WL.nil ?_))
  refine W.seq ?_
  refine W.condT hE rfl (decide_eq_true (by omega)) ?_
  refine W.skip ?_
  refine W.seq ?_
  refine W.block ?_
  refine W.seq (W.region (v2 hS hE rfl rfl rfl rfl fun a hE => WL.nil ?_))
  refine W.seq (W.region (v2 hS hE rfl rfl rfl rfl fun a hE => ?_))
  refine vp hS hE rfl rfl fun a hE => ?_
  obtain ⟨cs63, hl64, hR65, hat66⟩ := h0.at hx58
  subst hR65
  refine vP hS hE (Gives.idx hE k53 rfl rfl sl47 rfl hlt57 (h0.aok hlt57)) rfl fun a hE => ?_
  refine vP hS hE (Gives.load1 hE rfl (fun w h => hat66 w _ h) ty9) rfl fun a hE => ?_
  refine vP hS hE (Gives.eqSt hE rfl rfl) rfl fun a hE => WL.nil ?_
  refine W.cond hE rfl (fun hc67 => ?_) (fun hc67 => ?_)
  ·replace hq51 := iteT hc67 hq51
   refine W.seq (W.region (v2 hS hE rfl rfl rfl rfl fun a hE => WL.nil ?_))
   refine W.ret ?_
   subst hK62
   rw [← hq51] at hr
   dsimp only at hr
   refine finG (fn := Tryz.f158) (rs := [.tmp 4]) (vs := [_]) hE rfl ⟨rfl, trivial⟩ ?_
   subst hr
   exact ⟨rfl, hS⟩
  replace hq51 := iteF hc67 hq51
  refine W.skip ?_
  refine W.region ?_
  refine vP hS hE (Gives.inc hE rfl (by have := h0.small; omega)) rfl fun a hE => ?_
  refine vp hS hE rfl rfl fun a hE => WL.nil ?_
  subst hK62
  exact ⟨rest55.length, Nat.lt_succ_self _, rest55, k53 + 1, rfl, hd56, hq51, hE.pick _ ⟨rfl, rfl, rfl, rfl, trivial⟩, hS⟩
 clear hE hS a w; rintro a w ⟨rfl, hE, hS⟩
 dsimp only at hr
 refine W.seq (W.region (vp hS hE rfl rfl fun a hE => WL.nil ?_))
 refine W.ret ?_
 refine finG (fn := Tryz.f158) (rs := [.tmp 4]) (vs := [_]) hE rfl ⟨rfl, trivial⟩ ?_
 subst hr
 exact ⟨rfl, hS⟩
set_option maxHeartbeats 8000000 in
theorem SlicesContainsLstring_ok  {w : World} {s : Sg} {R : List HP} {x0 : List ByteArray} {a0 : Option Addr} {c0 : Nat} {x1 : ByteArray} (hS : St w s (R)) (h0 : Sl 1 RS s a0 c0 x0) {r : Bool} (hr : SlicesContainsLstring x0 x1 = r) :
  Calls Tryz.prog 112 [.slice a0 x0.length c0, .string x1].toArray w (fun e w => e = .returned (.bool r) ∧ St w s (R)) := by
 refine enter Tryz.func112 rfl rfl rfl fun a hE => ?_
 rw [SlicesContainsLstring] at hr
 refine W.seq (W.region (vp hS hE rfl rfl fun a hE => WL.nil ?_))
 refine W.seq (W.region (v2 hS hE rfl rfl rfl rfl fun a hE => ?_))
 refine WL.fnq hE (SlicesIndexLstring_ok hS h0 rfl (r := SlicesIndexLstring x0 x1)) (runs_plain rfl) bd158 rfl rfl rfl ?_
 clear hE hS; rintro e w ⟨rfl, hS⟩; refine ⟨_, rfl, ?_⟩; clear a; intro a hE
 refine v2 hS hE rfl rfl rfl rfl fun a hE => WL.nil ?_
 refine W.ret ?_
 refine finG (fn := Tryz.f112) (rs := [.tmp 4]) (vs := [_]) hE rfl ⟨rfl, trivial⟩ ?_
 subst hr
 exact ⟨rfl, hS⟩
set_option maxHeartbeats 8000000 in
theorem Lineends_ok  {w : World} {s : Sg} {R : List HP} {x0 : Int} (hS : St w s (R))  {r : Int} (hr : Lineends x0 = r) :
  Calls Tryz.prog 159 [vi x0].toArray w (fun e w => e = .returned (vi r) ∧ St w s (R)) := by
 refine enter Tryz.func159 rfl rfl rfl fun a hE => ?_
 rw [Lineends] at hr
 refine W.seq (W.region (vp hS hE rfl rfl fun a hE => WL.nil ?_))
 refine W.seq ?_
 refine W.seq (W.region (vp hS hE rfl rfl fun a hE => WL.nil ?_))
 refine W.block ?_
 refine W.seq (W.region (v2 hS hE rfl rfl rfl rfl fun a hE => WL.nil ?_))
 refine W.cond hE rfl (fun hc51 => ?_) (fun hc51 => ?_)
 ·replace hr := iteT hc51 hr
  refine W.seq (W.region (vp hS hE rfl rfl fun a hE => WL.nil ?_))
  refine W.ret ?_
  refine finG (fn := Tryz.f159) (rs := [.tmp 2]) (vs := [_]) hE rfl ⟨rfl, trivial⟩ ?_
  subst hr
  exact ⟨rfl, hS⟩
 replace hr := iteF hc51 hr
 refine W.seq (W.region (v2 hS hE rfl rfl rfl rfl fun a hE => WL.nil ?_))
 refine W.cond hE rfl (fun hc52 => ?_) (fun hc52 => ?_)
 ·replace hr := iteT hc52 hr
  refine W.seq (W.region (vp hS hE rfl rfl fun a hE => WL.nil ?_))
  refine W.ret ?_
  refine finG (fn := Tryz.f159) (rs := [.tmp 2]) (vs := [_]) hE rfl ⟨rfl, trivial⟩ ?_
  subst hr
  exact ⟨rfl, hS⟩
 replace hr := iteF hc52 hr
 refine W.seq (W.region (v2 hS hE rfl rfl rfl rfl fun a hE => WL.nil ?_))
 refine W.cond hE rfl (fun hc53 => ?_) (fun hc53 => ?_)
 ·replace hr := iteT hc53 hr
  refine W.seq (W.region (vp hS hE rfl rfl fun a hE => WL.nil ?_))
  refine W.ret ?_
  refine finG (fn := Tryz.f159) (rs := [.tmp 2]) (vs := [_]) hE rfl ⟨rfl, trivial⟩ ?_
  subst hr
  exact ⟨rfl, hS⟩
 replace hr := iteF hc53 hr
 refine W.skip ?_
 refine W.seq (W.region (vp hS hE rfl rfl fun a hE => WL.nil ?_))
 refine W.ret ?_
 refine finG (fn := Tryz.f159) (rs := [.tmp 2]) (vs := [_]) hE rfl ⟨rfl, trivial⟩ ?_
 subst hr
 exact ⟨rfl, hS⟩
set_option maxHeartbeats 8000000 in
theorem Linewithin_ok  {w : World} {s : Sg} {R : List HP} {x0 : Int} {x1 : Int} {x2 : Int} (hS : St w s (R))  {r : Bool} (hr : Linewithin x0 x1 x2 = r) :
  Calls Tryz.prog 160 [vi x0, vi x1, vi x2].toArray w (fun e w => e = .returned (.bool r) ∧ St w s (R)) := by
 refine enter Tryz.func160 rfl rfl rfl fun a hE => ?_
 rw [Linewithin] at hr
 refine W.seq (W.region (vp hS hE rfl rfl fun a hE => WL.nil ?_))
 refine W.seq ?_
 obtain ⟨q52, hq51, hr⟩ := bndS hr
 refine W.cut (fun a w => ∃ (q55 : Bool), q55 = q52 ∧ Rep a 15 [(6, .bool q55)] ∧ St w s (R)) ?_ ?_
 ·refine W.gen fun K56 hK56 => ?_
  refine W.region ?_
  refine v2 hS hE rfl rfl rfl rfl fun a hE => ?_
  refine v2 hS hE rfl rfl rfl rfl fun a hE => ?_
  rcases Bool.eq_false_or_eq_true (decide (x0 ≥ x1)) with hg57 | hg57
  ·replace hq51 := iteT hg57 hq51
   refine WL.vS hS hE (runs_if hE rfl rfl rfl hg57) (Gives.p hE rfl) rfl fun a hE => ?_
   refine WL.vS hS hE (runs_if hE rfl rfl rfl hg57) (Gives.p hE rfl) rfl fun a hE => ?_
   refine WL.vS hS hE (runs_if hE rfl rfl rfl hg57) (Gives.p hE rfl) rfl fun a hE => ?_
   refine vP hS hE (Gives.pickT hE rfl hg57 rfl) rfl fun a hE => ?_
   refine vp hS hE rfl rfl fun a hE => WL.nil ?_
   subst hK56
   exact ⟨decide (x0 ≤ x2), hq51, hE.pick _ ⟨rfl, trivial⟩, hS⟩
  replace hq51 := iteF hg57 hq51
  refine nO hE rfl rfl rfl (by rw [hg57]; decide) rfl fun a hE => ?_
  refine nO hE rfl rfl rfl (by rw [hg57]; decide) rfl fun a hE => ?_
  refine nO hE rfl rfl rfl (by rw [hg57]; decide) rfl fun a hE => ?_
  refine vP hS hE (Gives.pickF hE rfl hg57 rfl) rfl fun a hE => ?_
  refine vp hS hE rfl rfl fun a hE => WL.nil ?_
  subst hK56
  exact ⟨false, hq51, hE.pick _ ⟨rfl, trivial⟩, hS⟩
 clear hE hS a w; rintro a w ⟨q55, rfl, hE, hS⟩
 refine W.ret ?_
 refine finG (fn := Tryz.f160) (rs := [.tmp 6]) (vs := [_]) hE rfl ⟨rfl, trivial⟩ ?_
 subst hr
 exact ⟨rfl, hS⟩
set_option maxHeartbeats 8000000 in
theorem LinecheckSection_ok  {w : World} {s : Sg} {R : List HP} {x0 : ApiSection} {x1 : Int} (hS : St w s (R))  {r : Int} (hr : LinecheckSection x0 x1 = r) :
  Calls Tryz.prog 113 [.agg (ApiSection.cells x0).toArray, vi x1].toArray w (fun e w => e = .returned (vi r) ∧ St w s (R)) := by
 refine enter Tryz.func113 rfl rfl rfl fun a hE => ?_
 rw [LinecheckSection] at hr
 refine W.seq (W.region ?_)
 refine WL.box hE hS (runs_plain rfl) rfl rfl rfl ?_; clear hE hS a w; intro b51 a w hE hS
 refine vp hS hE rfl rfl fun a hE => WL.nil ?_
 refine W.seq ?_
 refine W.regionQ (C := fun w => St w s (pc b51 (ApiSection.cells x0).toArray 151 :: R)) mixed (by kernel_rfl) hS.drew ?_
 refine qP hE (Gives.fld hE rfl fl151_0) rfl fun a hE => ?_
 refine qP hE (Gives.loadB hE 0 rfl rfl rfl ty3) rfl fun a hE => ?_
 refine qP hE (Gives.p hE rfl) rfl fun a hE => ?_
 refine qP hE (Gives.fld hE rfl fl151_0) rfl fun a hE => ?_
 refine qP hE (Gives.loadB hE 0 rfl rfl rfl ty3) rfl fun a hE => ?_
 refine qP hE (Gives.p hE rfl) rfl fun a hE => ?_
 refine qP hE (Gives.fld hE rfl fl151_0) rfl fun a hE => ?_
 refine qP hE (Gives.loadB hE 0 rfl rfl rfl ty3) rfl fun a hE => ?_
 refine qP hE (Gives.p hE rfl) rfl fun a hE => ?_
 refine qP hE (Gives.p hE rfl) rfl fun a hE => ?_
 refine qP hE (Gives.p hE rfl) rfl fun a hE => ?_
 refine qP hE (Gives.p hE rfl) rfl fun a hE => ?_
 refine QL.nil ?_; clear hS w; intro w hS
 refine W.seq ?_
 refine W.block ?_
 refine W.seq (W.region (vP hS hE (Gives.fld hE rfl fl151_0) rfl fun a hE => ?_))
 refine vP hS hE (Gives.loadB hE 0 rfl rfl rfl ty3) rfl fun a hE => ?_
 refine WL.fnq hE (Lineends_ok hS  rfl (r := Lineends x0.Kind)) (runs_plain rfl) bd159 rfl rfl rfl ?_
 clear hE hS; rintro e w ⟨rfl, hS⟩; refine ⟨_, rfl, ?_⟩; clear a; intro a hE
 refine v2 hS hE rfl rfl rfl rfl fun a hE => WL.nil ?_
 refine W.cond hE rfl (fun hc52 => ?_) (fun hc52 => ?_)
 ·replace hr := iteT hc52 hr
  refine W.seq (W.region (vp hS hE rfl rfl fun a hE => WL.nil ?_))
  refine W.ret ?_
  refine finG (fn := Tryz.f113) (rs := [.tmp 4]) (vs := [_]) hE rfl ⟨rfl, trivial⟩ ?_
  subst hr
  replace hS := hS.tail
  exact ⟨rfl, hS⟩
 replace hr := iteF hc52 hr
 refine W.seq ?_
 obtain ⟨q54, hq53, hr⟩ := bndS hr
 refine W.cut (fun a w => ∃ (q57 : Bool), q57 = q54 ∧ Rep a 84 [(1, vi x1), (2, pp b51), (5, .bool (x0.Kind == 2)), (6, .bool (x0.Kind == 1)), (7, .bool (x0.Kind == 3)), (22, .bool q57)] ∧ St w s (pc b51 (ApiSection.cells x0).toArray 151 :: R)) ?_ ?_
 ·refine W.gen fun K58 hK58 => ?_
  refine W.region ?_
  refine vP hS hE (Gives.fld hE rfl fl151_1) rfl fun a hE => ?_
  refine vP hS hE (Gives.loadB hE 0 rfl rfl rfl ty3) rfl fun a hE => ?_
  refine WL.fnq hE (Linewithin_ok hS  rfl (r := Linewithin x0.Length 10 3000)) (runs_plain rfl) bd160 rfl rfl rfl ?_
  clear hE hS; rintro e w ⟨rfl, hS⟩; refine ⟨_, rfl, ?_⟩; clear a; intro a hE
  refine v2 hS hE rfl rfl rfl rfl fun a hE => ?_
  rcases Bool.eq_false_or_eq_true (!(Linewithin x0.Length 10 3000)) with hg59 | hg59
  ·replace hq53 := iteT hg59 hq53
   refine nO hE rfl rfl rfl (by rw [hg59]; decide) rfl fun a hE => ?_
   refine nO hE rfl rfl rfl (by rw [hg59]; decide) rfl fun a hE => ?_
   refine nO hE rfl rfl rfl (by rw [hg59]; decide) rfl fun a hE => ?_
   refine nO hE rfl rfl rfl (by rw [hg59]; decide) rfl fun a hE => ?_
   refine vP hS hE (Gives.pickT hE rfl hg59 rfl) rfl fun a hE => ?_
   refine vp hS hE rfl rfl fun a hE => ?_
   refine nO hE rfl rfl rfl (by decide) rfl fun a hE => ?_
   refine nO hE rfl rfl rfl (by decide) rfl fun a hE => ?_
   refine nO hE rfl rfl rfl (by decide) rfl fun a hE => ?_
   refine nO hE rfl rfl rfl (by decide) rfl fun a hE => ?_
   refine vP hS hE (Gives.pickT hE rfl rfl rfl) rfl fun a hE => ?_
   refine vp hS hE rfl rfl fun a hE => WL.nil ?_
   subst hK58
   exact ⟨true, hq53, hE.pick _ ⟨rfl, rfl, rfl, rfl, rfl, rfl, trivial⟩, hS⟩
  replace hq53 := iteF hg59 hq53
  refine WL.vS hS hE (runs_if hE rfl rfl rfl hg59) (Gives.fld hE rfl fl151_2) rfl fun a hE => ?_
  refine WL.vS hS hE (runs_if hE rfl rfl rfl hg59) (Gives.loadB hE 0 rfl rfl rfl ty3) rfl fun a hE => ?_
  refine WL.fnq hE (Linewithin_ok hS  rfl (r := Linewithin x0.Grade (-40) 40)) (runs_if hE rfl rfl rfl hg59) bd160 rfl rfl rfl ?_
  clear hE hS; rintro e w ⟨rfl, hS⟩; refine ⟨_, rfl, ?_⟩; clear a; intro a hE
  refine WL.vS hS hE (runs_if hE rfl rfl rfl hg59) (Gives.p hE rfl) rfl fun a hE => ?_
  refine vP hS hE (Gives.pickF hE rfl hg59 rfl) rfl fun a hE => ?_
  refine vp hS hE rfl rfl fun a hE => ?_
  rcases Bool.eq_false_or_eq_true (!(Linewithin x0.Grade (-40) 40)) with hg60 | hg60
  ·replace hq53 := iteT hg60 hq53
   refine nO hE rfl rfl rfl (by rw [hg60]; decide) rfl fun a hE => ?_
   refine nO hE rfl rfl rfl (by rw [hg60]; decide) rfl fun a hE => ?_
   refine nO hE rfl rfl rfl (by rw [hg60]; decide) rfl fun a hE => ?_
   refine nO hE rfl rfl rfl (by rw [hg60]; decide) rfl fun a hE => ?_
   refine vP hS hE (Gives.pickT hE rfl hg60 rfl) rfl fun a hE => ?_
   refine vp hS hE rfl rfl fun a hE => WL.nil ?_
   subst hK58
   exact ⟨true, hq53, hE.pick _ ⟨rfl, rfl, rfl, rfl, rfl, rfl, trivial⟩, hS⟩
  replace hq53 := iteF hg60 hq53
  refine WL.vS hS hE (runs_if hE rfl rfl rfl hg60) (Gives.fld hE rfl fl151_3) rfl fun a hE => ?_
  refine WL.vS hS hE (runs_if hE rfl rfl rfl hg60) (Gives.loadB hE 0 rfl rfl rfl ty3) rfl fun a hE => ?_
  refine WL.fnq hE (Linewithin_ok hS  rfl (r := Linewithin x0.Speed 300 6000)) (runs_if hE rfl rfl rfl hg60) bd160 rfl rfl rfl ?_
  clear hE hS; rintro e w ⟨rfl, hS⟩; refine ⟨_, rfl, ?_⟩; clear a; intro a hE
  refine WL.vS hS hE (runs_if hE rfl rfl rfl hg60) (Gives.p hE rfl) rfl fun a hE => ?_
  refine vP hS hE (Gives.pickF hE rfl hg60 rfl) rfl fun a hE => ?_
  refine vp hS hE rfl rfl fun a hE => WL.nil ?_
  subst hK58
  exact ⟨!(Linewithin x0.Speed 300 6000), hq53, hE.pick _ ⟨rfl, rfl, rfl, rfl, rfl, rfl, trivial⟩, hS⟩
 clear hE hS a w; rintro a w ⟨q57, rfl, hE, hS⟩
 refine W.cond hE rfl (fun hc61 => ?_) (fun hc61 => ?_)
 ·replace hr := iteT hc61 hr
  refine W.seq (W.region (vp hS hE rfl rfl fun a hE => WL.nil ?_))
  refine W.ret ?_
  refine finG (fn := Tryz.f113) (rs := [.tmp 4]) (vs := [_]) hE rfl ⟨rfl, trivial⟩ ?_
  subst hr
  replace hS := hS.tail
  exact ⟨rfl, hS⟩
 replace hr := iteF hc61 hr
 refine W.seq ?_
 obtain ⟨q63, hq62, hr⟩ := bndS hr
 refine W.cut (fun a w => ∃ (q66 : Bool), q66 = q63 ∧ Rep a 84 [(2, pp b51), (5, .bool (x0.Kind == 2)), (6, .bool (x0.Kind == 1)), (7, .bool (x0.Kind == 3)), (39, .bool q66)] ∧ St w s (pc b51 (ApiSection.cells x0).toArray 151 :: R)) ?_ ?_
 ·refine W.gen fun K67 hK67 => ?_
  refine W.region ?_
  refine v2 hS hE rfl rfl rfl rfl fun a hE => ?_
  rcases Bool.eq_false_or_eq_true (x0.Kind == 2) with hg68 | hg68
  ·replace hq62 := iteT hg68 hq62
   refine WL.vS hS hE (runs_if hE rfl rfl rfl hg68) (Gives.fld hE rfl fl151_4) rfl fun a hE => ?_
   refine WL.vS hS hE (runs_if hE rfl rfl rfl hg68) (Gives.loadB hE 0 rfl rfl rfl ty3) rfl fun a hE => ?_
   refine WL.vS hS hE (runs_if hE rfl rfl rfl hg68) (Gives.fld hE rfl fl151_3) rfl fun a hE => ?_
   refine WL.vS hS hE (runs_if hE rfl rfl rfl hg68) (Gives.loadB hE 0 rfl rfl rfl ty3) rfl fun a hE => ?_
   refine WL.fnq hE (Linewithin_ok hS  rfl (r := Linewithin x0.Slow 300 x0.Speed)) (runs_if hE rfl rfl rfl hg68) bd160 rfl rfl rfl ?_
   clear hE hS; rintro e w ⟨rfl, hS⟩; refine ⟨_, rfl, ?_⟩; clear a; intro a hE
   refine WL.vS hS hE (runs_if hE rfl rfl rfl hg68) (Gives.p hE rfl) rfl fun a hE => ?_
   refine vP hS hE (Gives.pickT hE rfl hg68 rfl) rfl fun a hE => ?_
   refine vp hS hE rfl rfl fun a hE => ?_
   rcases Bool.eq_false_or_eq_true (!(Linewithin x0.Slow 300 x0.Speed)) with hg69 | hg69
   ·replace hq62 := iteT hg69 hq62
    refine nO hE rfl rfl rfl (by rw [hg69]; decide) rfl fun a hE => ?_
    refine nO hE rfl rfl rfl (by rw [hg69]; decide) rfl fun a hE => ?_
    refine WL.no hE (runs_undef hE rfl rfl rfl) rfl fun a hE => ?_
    refine WL.no hE (runs_undef hE rfl rfl rfl) rfl fun a hE => ?_
    refine WL.no hE (runs_undef hE rfl rfl rfl) rfl fun a hE => ?_
    refine WL.no hE (runs_undef hE rfl rfl rfl) rfl fun a hE => ?_
    refine WL.no hE (runs_undef hE rfl rfl rfl) rfl fun a hE => ?_
    refine nO hE rfl rfl rfl (by rw [hg69]; decide) rfl fun a hE => ?_
    refine vP hS hE (Gives.pickT hE rfl hg69 rfl) rfl fun a hE => ?_
    refine vp hS hE rfl rfl fun a hE => WL.nil ?_
    subst hK67
    exact ⟨true, hq62, hE.pick _ ⟨rfl, rfl, rfl, rfl, rfl, trivial⟩, hS⟩
   replace hq62 := iteF hg69 hq62
   refine WL.vS hS hE (runs_if hE rfl rfl rfl hg69) (Gives.p hE rfl) rfl fun a hE => ?_
   refine WL.vS hS hE (runs_if hE rfl rfl rfl hg69) (Gives.p hE rfl) rfl fun a hE => ?_
   rcases Bool.eq_false_or_eq_true (x0.Kind == 1) with hg70 | hg70
   ·replace hq62 := iteT hg70 hq62
    refine WL.vS hS hE (runs_if hE rfl rfl rfl hg70) (Gives.fld hE rfl fl151_5) rfl fun a hE => ?_
    refine WL.vS hS hE (runs_if hE rfl rfl rfl hg70) (Gives.loadB hE 0 rfl rfl rfl ty3) rfl fun a hE => ?_
    refine WL.vS hS hE (runs_if hE rfl rfl rfl hg70) (Gives.p hE rfl) rfl fun a hE => ?_
    refine WL.fnq hE (Linewithin_ok hS  rfl (r := Linewithin x0.Station 0 x1)) (runs_if hE rfl rfl rfl hg70) bd160 rfl rfl rfl ?_
    clear hE hS; rintro e w ⟨rfl, hS⟩; refine ⟨_, rfl, ?_⟩; clear a; intro a hE
    refine WL.vS hS hE (runs_if hE rfl rfl rfl hg70) (Gives.p hE rfl) rfl fun a hE => ?_
    refine WL.vS hS hE (runs_if hE rfl rfl rfl hg69) (Gives.pickT hE rfl hg70 rfl) rfl fun a hE => ?_
    refine vP hS hE (Gives.pickF hE rfl hg69 rfl) rfl fun a hE => ?_
    refine vp hS hE rfl rfl fun a hE => WL.nil ?_
    subst hK67
    exact ⟨!(Linewithin x0.Station 0 x1), hq62, hE.pick _ ⟨rfl, rfl, rfl, rfl, rfl, trivial⟩, hS⟩
   replace hq62 := iteF hg70 hq62
   refine nO hE rfl rfl rfl (by rw [hg70]; decide) rfl fun a hE => ?_
   refine nO hE rfl rfl rfl (by rw [hg70]; decide) rfl fun a hE => ?_
   refine nO hE rfl rfl rfl (by rw [hg70]; decide) rfl fun a hE => ?_
   refine nO hE rfl rfl rfl (by rw [hg70]; decide) rfl fun a hE => ?_
   refine nO hE rfl rfl rfl (by rw [hg70]; decide) rfl fun a hE => ?_
   refine WL.vS hS hE (runs_if hE rfl rfl rfl hg69) (Gives.pickF hE rfl hg70 rfl) rfl fun a hE => ?_
   refine vP hS hE (Gives.pickF hE rfl hg69 rfl) rfl fun a hE => ?_
   refine vp hS hE rfl rfl fun a hE => WL.nil ?_
   subst hK67
   exact ⟨false, hq62, hE.pick _ ⟨rfl, rfl, rfl, rfl, rfl, trivial⟩, hS⟩
  replace hq62 := iteF hg68 hq62
  refine nO hE rfl rfl rfl (by rw [hg68]; decide) rfl fun a hE => ?_
  refine nO hE rfl rfl rfl (by rw [hg68]; decide) rfl fun a hE => ?_
  refine nO hE rfl rfl rfl (by rw [hg68]; decide) rfl fun a hE => ?_
  refine nO hE rfl rfl rfl (by rw [hg68]; decide) rfl fun a hE => ?_
  refine nO hE rfl rfl rfl (by rw [hg68]; decide) rfl fun a hE => ?_
  refine nO hE rfl rfl rfl (by rw [hg68]; decide) rfl fun a hE => ?_
  refine vP hS hE (Gives.pickF hE rfl hg68 rfl) rfl fun a hE => ?_
  refine vp hS hE rfl rfl fun a hE => ?_
  refine WL.vS hS hE (runs_if hE rfl rfl rfl rfl) (Gives.p hE rfl) rfl fun a hE => ?_
  refine WL.vS hS hE (runs_if hE rfl rfl rfl rfl) (Gives.p hE rfl) rfl fun a hE => ?_
  rcases Bool.eq_false_or_eq_true (x0.Kind == 1) with hg71 | hg71
  ·replace hq62 := iteT hg71 hq62
   refine WL.vS hS hE (runs_if hE rfl rfl rfl hg71) (Gives.fld hE rfl fl151_5) rfl fun a hE => ?_
   refine WL.vS hS hE (runs_if hE rfl rfl rfl hg71) (Gives.loadB hE 0 rfl rfl rfl ty3) rfl fun a hE => ?_
   refine WL.vS hS hE (runs_if hE rfl rfl rfl hg71) (Gives.p hE rfl) rfl fun a hE => ?_
   refine WL.fnq hE (Linewithin_ok hS  rfl (r := Linewithin x0.Station 0 x1)) (runs_if hE rfl rfl rfl hg71) bd160 rfl rfl rfl ?_
   clear hE hS; rintro e w ⟨rfl, hS⟩; refine ⟨_, rfl, ?_⟩; clear a; intro a hE
   refine WL.vS hS hE (runs_if hE rfl rfl rfl hg71) (Gives.p hE rfl) rfl fun a hE => ?_
   refine WL.vS hS hE (runs_if hE rfl rfl rfl rfl) (Gives.pickT hE rfl hg71 rfl) rfl fun a hE => ?_
   refine vP hS hE (Gives.pickF hE rfl rfl rfl) rfl fun a hE => ?_
   refine vp hS hE rfl rfl fun a hE => WL.nil ?_
   subst hK67
   exact ⟨!(Linewithin x0.Station 0 x1), hq62, hE.pick _ ⟨rfl, rfl, rfl, rfl, rfl, trivial⟩, hS⟩
  replace hq62 := iteF hg71 hq62
  refine nO hE rfl rfl rfl (by rw [hg71]; decide) rfl fun a hE => ?_
  refine nO hE rfl rfl rfl (by rw [hg71]; decide) rfl fun a hE => ?_
  refine nO hE rfl rfl rfl (by rw [hg71]; decide) rfl fun a hE => ?_
  refine nO hE rfl rfl rfl (by rw [hg71]; decide) rfl fun a hE => ?_
  refine nO hE rfl rfl rfl (by rw [hg71]; decide) rfl fun a hE => ?_
  refine WL.vS hS hE (runs_if hE rfl rfl rfl rfl) (Gives.pickF hE rfl hg71 rfl) rfl fun a hE => ?_
  refine vP hS hE (Gives.pickF hE rfl rfl rfl) rfl fun a hE => ?_
  refine vp hS hE rfl rfl fun a hE => WL.nil ?_
  subst hK67
  exact ⟨false, hq62, hE.pick _ ⟨rfl, rfl, rfl, rfl, rfl, trivial⟩, hS⟩
 clear hE hS a w; rintro a w ⟨q66, rfl, hE, hS⟩
 refine W.cond hE rfl (fun hc72 => ?_) (fun hc72 => ?_)
 ·replace hr := iteT hc72 hr
  refine W.seq (W.region (vp hS hE rfl rfl fun a hE => WL.nil ?_))
  refine W.ret ?_
  refine finG (fn := Tryz.f113) (rs := [.tmp 4]) (vs := [_]) hE rfl ⟨rfl, trivial⟩ ?_
  subst hr
  replace hS := hS.tail
  exact ⟨rfl, hS⟩
 replace hr := iteF hc72 hr
 refine W.seq ?_
 obtain ⟨q74, hq73, hr⟩ := bndS hr
 refine W.cut (fun a w => ∃ (q77 : Bool), q77 = q74 ∧ Rep a 84 [(59, .bool q77)] ∧ St w s (pc b51 (ApiSection.cells x0).toArray 151 :: R)) ?_ ?_
 ·refine W.gen fun K78 hK78 => ?_
  refine W.region ?_
  refine vP hS hE (Gives.fld hE rfl fl151_4) rfl fun a hE => ?_
  refine vP hS hE (Gives.loadB hE 0 rfl rfl rfl ty3) rfl fun a hE => ?_
  refine v2 hS hE rfl rfl rfl rfl fun a hE => ?_
  rcases Bool.eq_false_or_eq_true (x0.Slow != 0) with hg79 | hg79
  ·replace hq73 := iteT hg79 hq73
   refine WL.vS hS hE (runs_if hE rfl rfl rfl hg79) (Gives.p hE rfl) rfl fun a hE => ?_
   refine WL.vS hS hE (runs_if hE rfl rfl rfl hg79) (Gives.p hE rfl) rfl fun a hE => ?_
   refine vP hS hE (Gives.pickT hE rfl hg79 rfl) rfl fun a hE => ?_
   refine vp hS hE rfl rfl fun a hE => ?_
   rcases Bool.eq_false_or_eq_true (!(x0.Kind == 2)) with hg80 | hg80
   ·replace hq73 := iteT hg80 hq73
    refine nO hE rfl rfl rfl (by rw [hg80]; decide) rfl fun a hE => ?_
    refine nO hE rfl rfl rfl (by rw [hg80]; decide) rfl fun a hE => ?_
    refine nO hE rfl rfl rfl (by rw [hg80]; decide) rfl fun a hE => ?_
    refine nO hE rfl rfl rfl (by rw [hg80]; decide) rfl fun a hE => ?_
    refine WL.no hE (runs_undef hE rfl rfl rfl) rfl fun a hE => ?_
    refine WL.no hE (runs_undef hE rfl rfl rfl) rfl fun a hE => ?_
    refine nO hE rfl rfl rfl (by rw [hg80]; decide) rfl fun a hE => ?_
    refine vP hS hE (Gives.pickT hE rfl hg80 rfl) rfl fun a hE => ?_
    refine vp hS hE rfl rfl fun a hE => ?_
    refine nO hE rfl rfl rfl (by decide) rfl fun a hE => ?_
    refine nO hE rfl rfl rfl (by decide) rfl fun a hE => ?_
    refine nO hE rfl rfl rfl (by decide) rfl fun a hE => ?_
    refine nO hE rfl rfl rfl (by decide) rfl fun a hE => ?_
    refine WL.no hE (runs_undef hE rfl rfl rfl) rfl fun a hE => ?_
    refine nO hE rfl rfl rfl (by decide) rfl fun a hE => ?_
    refine vP hS hE (Gives.pickT hE rfl rfl rfl) rfl fun a hE => ?_
    refine vp hS hE rfl rfl fun a hE => WL.nil ?_
    subst hK78
    exact ⟨true, hq73, hE.pick _ ⟨rfl, trivial⟩, hS⟩
   replace hq73 := iteF hg80 hq73
   refine WL.vS hS hE (runs_if hE rfl rfl rfl hg80) (Gives.fld hE rfl fl151_5) rfl fun a hE => ?_
   refine WL.vS hS hE (runs_if hE rfl rfl rfl hg80) (Gives.loadB hE 0 rfl rfl rfl ty3) rfl fun a hE => ?_
   refine WL.vS hS hE (runs_if hE rfl rfl rfl hg80) (Gives.p hE rfl) rfl fun a hE => ?_
   refine WL.vS hS hE (runs_if hE rfl rfl rfl hg80) (Gives.p hE rfl) rfl fun a hE => ?_
   rcases Bool.eq_false_or_eq_true (x0.Station != 0) with hg81 | hg81
   ·replace hq73 := iteT hg81 hq73
    refine WL.vS hS hE (runs_if hE rfl rfl rfl hg81) (Gives.p hE rfl) rfl fun a hE => ?_
    refine WL.vS hS hE (runs_if hE rfl rfl rfl hg81) (Gives.p hE rfl) rfl fun a hE => ?_
    refine WL.vS hS hE (runs_if hE rfl rfl rfl hg80) (Gives.pickT hE rfl hg81 rfl) rfl fun a hE => ?_
    refine vP hS hE (Gives.pickF hE rfl hg80 rfl) rfl fun a hE => ?_
    refine vp hS hE rfl rfl fun a hE => ?_
    rcases Bool.eq_false_or_eq_true (!(x0.Kind == 1)) with hg82 | hg82
    ·replace hq73 := iteT hg82 hq73
     refine nO hE rfl rfl rfl (by rw [hg82]; decide) rfl fun a hE => ?_
     refine nO hE rfl rfl rfl (by rw [hg82]; decide) rfl fun a hE => ?_
     refine nO hE rfl rfl rfl (by rw [hg82]; decide) rfl fun a hE => ?_
     refine nO hE rfl rfl rfl (by rw [hg82]; decide) rfl fun a hE => ?_
     refine WL.no hE (runs_undef hE rfl rfl rfl) rfl fun a hE => ?_
     refine nO hE rfl rfl rfl (by rw [hg82]; decide) rfl fun a hE => ?_
     refine vP hS hE (Gives.pickT hE rfl hg82 rfl) rfl fun a hE => ?_
     refine vp hS hE rfl rfl fun a hE => WL.nil ?_
     subst hK78
     exact ⟨true, hq73, hE.pick _ ⟨rfl, trivial⟩, hS⟩
    replace hq73 := iteF hg82 hq73
    refine WL.vS hS hE (runs_if hE rfl rfl rfl hg82) (Gives.fld hE rfl fl151_2) rfl fun a hE => ?_
    refine WL.vS hS hE (runs_if hE rfl rfl rfl hg82) (Gives.loadB hE 0 rfl rfl rfl ty3) rfl fun a hE => ?_
    refine WL.vS hS hE (runs_if hE rfl rfl rfl hg82) (Gives.p hE rfl) rfl fun a hE => ?_
    refine WL.vS hS hE (runs_if hE rfl rfl rfl hg82) (Gives.p hE rfl) rfl fun a hE => ?_
    rcases Bool.eq_false_or_eq_true (x0.Grade != 0) with hg83 | hg83
    ·replace hq73 := iteT hg83 hq73
     refine WL.vS hS hE (runs_if hE rfl rfl rfl hg83) (Gives.p hE rfl) rfl fun a hE => ?_
     refine WL.vS hS hE (runs_if hE rfl rfl rfl hg82) (Gives.pickT hE rfl hg83 rfl) rfl fun a hE => ?_
     refine vP hS hE (Gives.pickF hE rfl hg82 rfl) rfl fun a hE => ?_
     refine vp hS hE rfl rfl fun a hE => WL.nil ?_
     subst hK78
     exact ⟨(x0.Kind == 3), hq73, hE.pick _ ⟨rfl, trivial⟩, hS⟩
    replace hq73 := iteF hg83 hq73
    refine nO hE rfl rfl rfl (by rw [hg83]; decide) rfl fun a hE => ?_
    refine WL.vS hS hE (runs_if hE rfl rfl rfl hg82) (Gives.pickF hE rfl hg83 rfl) rfl fun a hE => ?_
    refine vP hS hE (Gives.pickF hE rfl hg82 rfl) rfl fun a hE => ?_
    refine vp hS hE rfl rfl fun a hE => WL.nil ?_
    subst hK78
    exact ⟨false, hq73, hE.pick _ ⟨rfl, trivial⟩, hS⟩
   replace hq73 := iteF hg81 hq73
   refine nO hE rfl rfl rfl (by rw [hg81]; decide) rfl fun a hE => ?_
   refine nO hE rfl rfl rfl (by rw [hg81]; decide) rfl fun a hE => ?_
   refine WL.vS hS hE (runs_if hE rfl rfl rfl hg80) (Gives.pickF hE rfl hg81 rfl) rfl fun a hE => ?_
   refine vP hS hE (Gives.pickF hE rfl hg80 rfl) rfl fun a hE => ?_
   refine vp hS hE rfl rfl fun a hE => ?_
   refine WL.vS hS hE (runs_if hE rfl rfl rfl rfl) (Gives.fld hE rfl fl151_2) rfl fun a hE => ?_
   refine WL.vS hS hE (runs_if hE rfl rfl rfl rfl) (Gives.loadB hE 0 rfl rfl rfl ty3) rfl fun a hE => ?_
   refine WL.vS hS hE (runs_if hE rfl rfl rfl rfl) (Gives.p hE rfl) rfl fun a hE => ?_
   refine WL.vS hS hE (runs_if hE rfl rfl rfl rfl) (Gives.p hE rfl) rfl fun a hE => ?_
   rcases Bool.eq_false_or_eq_true (x0.Grade != 0) with hg84 | hg84
   ·replace hq73 := iteT hg84 hq73
    refine WL.vS hS hE (runs_if hE rfl rfl rfl hg84) (Gives.p hE rfl) rfl fun a hE => ?_
    refine WL.vS hS hE (runs_if hE rfl rfl rfl rfl) (Gives.pickT hE rfl hg84 rfl) rfl fun a hE => ?_
    refine vP hS hE (Gives.pickF hE rfl rfl rfl) rfl fun a hE => ?_
    refine vp hS hE rfl rfl fun a hE => WL.nil ?_
    subst hK78
    exact ⟨(x0.Kind == 3), hq73, hE.pick _ ⟨rfl, trivial⟩, hS⟩
   replace hq73 := iteF hg84 hq73
   refine nO hE rfl rfl rfl (by rw [hg84]; decide) rfl fun a hE => ?_
   refine WL.vS hS hE (runs_if hE rfl rfl rfl rfl) (Gives.pickF hE rfl hg84 rfl) rfl fun a hE => ?_
   refine vP hS hE (Gives.pickF hE rfl rfl rfl) rfl fun a hE => ?_
   refine vp hS hE rfl rfl fun a hE => WL.nil ?_
   subst hK78
   exact ⟨false, hq73, hE.pick _ ⟨rfl, trivial⟩, hS⟩
  replace hq73 := iteF hg79 hq73
  refine nO hE rfl rfl rfl (by rw [hg79]; decide) rfl fun a hE => ?_
  refine nO hE rfl rfl rfl (by rw [hg79]; decide) rfl fun a hE => ?_
  refine vP hS hE (Gives.pickF hE rfl hg79 rfl) rfl fun a hE => ?_
  refine vp hS hE rfl rfl fun a hE => ?_
  refine WL.vS hS hE (runs_if hE rfl rfl rfl rfl) (Gives.fld hE rfl fl151_5) rfl fun a hE => ?_
  refine WL.vS hS hE (runs_if hE rfl rfl rfl rfl) (Gives.loadB hE 0 rfl rfl rfl ty3) rfl fun a hE => ?_
  refine WL.vS hS hE (runs_if hE rfl rfl rfl rfl) (Gives.p hE rfl) rfl fun a hE => ?_
  refine WL.vS hS hE (runs_if hE rfl rfl rfl rfl) (Gives.p hE rfl) rfl fun a hE => ?_
  rcases Bool.eq_false_or_eq_true (x0.Station != 0) with hg85 | hg85
  ·replace hq73 := iteT hg85 hq73
   refine WL.vS hS hE (runs_if hE rfl rfl rfl hg85) (Gives.p hE rfl) rfl fun a hE => ?_
   refine WL.vS hS hE (runs_if hE rfl rfl rfl hg85) (Gives.p hE rfl) rfl fun a hE => ?_
   refine WL.vS hS hE (runs_if hE rfl rfl rfl rfl) (Gives.pickT hE rfl hg85 rfl) rfl fun a hE => ?_
   refine vP hS hE (Gives.pickF hE rfl rfl rfl) rfl fun a hE => ?_
   refine vp hS hE rfl rfl fun a hE => ?_
   rcases Bool.eq_false_or_eq_true (!(x0.Kind == 1)) with hg86 | hg86
   ·replace hq73 := iteT hg86 hq73
    refine nO hE rfl rfl rfl (by rw [hg86]; decide) rfl fun a hE => ?_
    refine nO hE rfl rfl rfl (by rw [hg86]; decide) rfl fun a hE => ?_
    refine nO hE rfl rfl rfl (by rw [hg86]; decide) rfl fun a hE => ?_
    refine nO hE rfl rfl rfl (by rw [hg86]; decide) rfl fun a hE => ?_
    refine WL.no hE (runs_undef hE rfl rfl rfl) rfl fun a hE => ?_
    refine nO hE rfl rfl rfl (by rw [hg86]; decide) rfl fun a hE => ?_
    refine vP hS hE (Gives.pickT hE rfl hg86 rfl) rfl fun a hE => ?_
    refine vp hS hE rfl rfl fun a hE => WL.nil ?_
    subst hK78
    exact ⟨true, hq73, hE.pick _ ⟨rfl, trivial⟩, hS⟩
   replace hq73 := iteF hg86 hq73
   refine WL.vS hS hE (runs_if hE rfl rfl rfl hg86) (Gives.fld hE rfl fl151_2) rfl fun a hE => ?_
   refine WL.vS hS hE (runs_if hE rfl rfl rfl hg86) (Gives.loadB hE 0 rfl rfl rfl ty3) rfl fun a hE => ?_
   refine WL.vS hS hE (runs_if hE rfl rfl rfl hg86) (Gives.p hE rfl) rfl fun a hE => ?_
   refine WL.vS hS hE (runs_if hE rfl rfl rfl hg86) (Gives.p hE rfl) rfl fun a hE => ?_
   rcases Bool.eq_false_or_eq_true (x0.Grade != 0) with hg87 | hg87
   ·replace hq73 := iteT hg87 hq73
    refine WL.vS hS hE (runs_if hE rfl rfl rfl hg87) (Gives.p hE rfl) rfl fun a hE => ?_
    refine WL.vS hS hE (runs_if hE rfl rfl rfl hg86) (Gives.pickT hE rfl hg87 rfl) rfl fun a hE => ?_
    refine vP hS hE (Gives.pickF hE rfl hg86 rfl) rfl fun a hE => ?_
    refine vp hS hE rfl rfl fun a hE => WL.nil ?_
    subst hK78
    exact ⟨(x0.Kind == 3), hq73, hE.pick _ ⟨rfl, trivial⟩, hS⟩
   replace hq73 := iteF hg87 hq73
   refine nO hE rfl rfl rfl (by rw [hg87]; decide) rfl fun a hE => ?_
   refine WL.vS hS hE (runs_if hE rfl rfl rfl hg86) (Gives.pickF hE rfl hg87 rfl) rfl fun a hE => ?_
   refine vP hS hE (Gives.pickF hE rfl hg86 rfl) rfl fun a hE => ?_
   refine vp hS hE rfl rfl fun a hE => WL.nil ?_
   subst hK78
   exact ⟨false, hq73, hE.pick _ ⟨rfl, trivial⟩, hS⟩
  replace hq73 := iteF hg85 hq73
  refine nO hE rfl rfl rfl (by rw [hg85]; decide) rfl fun a hE => ?_
  refine nO hE rfl rfl rfl (by rw [hg85]; decide) rfl fun a hE => ?_
  refine WL.vS hS hE (runs_if hE rfl rfl rfl rfl) (Gives.pickF hE rfl hg85 rfl) rfl fun a hE => ?_
  refine vP hS hE (Gives.pickF hE rfl rfl rfl) rfl fun a hE => ?_
  refine vp hS hE rfl rfl fun a hE => ?_
  refine WL.vS hS hE (runs_if hE rfl rfl rfl rfl) (Gives.fld hE rfl fl151_2) rfl fun a hE => ?_
  refine WL.vS hS hE (runs_if hE rfl rfl rfl rfl) (Gives.loadB hE 0 rfl rfl rfl ty3) rfl fun a hE => ?_
  refine WL.vS hS hE (runs_if hE rfl rfl rfl rfl) (Gives.p hE rfl) rfl fun a hE => ?_
  refine WL.vS hS hE (runs_if hE rfl rfl rfl rfl) (Gives.p hE rfl) rfl fun a hE => ?_
  rcases Bool.eq_false_or_eq_true (x0.Grade != 0) with hg88 | hg88
  ·replace hq73 := iteT hg88 hq73
   refine WL.vS hS hE (runs_if hE rfl rfl rfl hg88) (Gives.p hE rfl) rfl fun a hE => ?_
   refine WL.vS hS hE (runs_if hE rfl rfl rfl rfl) (Gives.pickT hE rfl hg88 rfl) rfl fun a hE => ?_
   refine vP hS hE (Gives.pickF hE rfl rfl rfl) rfl fun a hE => ?_
   refine vp hS hE rfl rfl fun a hE => WL.nil ?_
   subst hK78
   exact ⟨(x0.Kind == 3), hq73, hE.pick _ ⟨rfl, trivial⟩, hS⟩
  replace hq73 := iteF hg88 hq73
  refine nO hE rfl rfl rfl (by rw [hg88]; decide) rfl fun a hE => ?_
  refine WL.vS hS hE (runs_if hE rfl rfl rfl rfl) (Gives.pickF hE rfl hg88 rfl) rfl fun a hE => ?_
  refine vP hS hE (Gives.pickF hE rfl rfl rfl) rfl fun a hE => ?_
  refine vp hS hE rfl rfl fun a hE => WL.nil ?_
  subst hK78
  exact ⟨false, hq73, hE.pick _ ⟨rfl, trivial⟩, hS⟩
 clear hE hS a w; rintro a w ⟨q77, rfl, hE, hS⟩
 refine W.cond hE rfl (fun hc89 => ?_) (fun hc89 => ?_)
 ·replace hr := iteT hc89 hr
  refine W.seq (W.region (vp hS hE rfl rfl fun a hE => WL.nil ?_))
  refine W.ret ?_
  refine finG (fn := Tryz.f113) (rs := [.tmp 4]) (vs := [_]) hE rfl ⟨rfl, trivial⟩ ?_
  subst hr
  replace hS := hS.tail
  exact ⟨rfl, hS⟩
 replace hr := iteF hc89 hr
 refine W.skip ?_
 refine W.seq (W.region (vp hS hE rfl rfl fun a hE => WL.nil ?_))
 refine W.ret ?_
 refine finG (fn := Tryz.f113) (rs := [.tmp 4]) (vs := [_]) hE rfl ⟨rfl, trivial⟩ ?_
 subst hr
 replace hS := hS.tail
 exact ⟨rfl, hS⟩
set_option maxHeartbeats 8000000 in
theorem Linehas_ok  {w : World} {s : Sg} {R : List HP} {x0 : ApiNet} {a0_0 : Option Addr} {c0_0 : Nat} {a0_1 : Option Addr} {c0_1 : Nat} {a0_2 : Option Addr} {c0_2 : Nat} {a0_3 : Option Addr} {c0_3 : Nat} {a0_4 : Option Addr} {c0_4 : Nat} {x1 : LineEnd} (hS : St w s (R)) (_h0_0 : Sl 1 RS s a0_0 c0_0 x0.Stations) (h0_1 : Sl 7 RApiSection s a0_1 c0_1 x0.Sections) (_h0_2 : Sl 4 RApiLink s a0_2 c0_2 x0.Links) (_h0_3 : Sl 2 RApiSignal s a0_3 c0_3 x0.Signals) (_h0_4 : Sl 2 RApiGate s a0_4 c0_4 x0.Gates) {r : Bool} (hr : Linehas x0 x1 = some r) :
  Calls Tryz.prog 161 [.agg (List.toArray [.slice a0_0 x0.Stations.length c0_0, .slice a0_1 x0.Sections.length c0_1, .slice a0_2 x0.Links.length c0_2, .slice a0_3 x0.Signals.length c0_3, .slice a0_4 x0.Gates.length c0_4]), .agg (LineEnd.cells x1).toArray].toArray w (fun e w => e = .returned (.bool r) ∧ St w s (R)) := by
 refine enter Tryz.func161 rfl rfl rfl fun a hE => ?_
 rw [Linehas] at hr
 refine W.seq (W.region ?_)
 refine WL.box hE hS (runs_plain rfl) rfl rfl rfl ?_; clear hE hS a w; intro b51 a w hE hS
 refine WL.box hE hS (runs_plain rfl) rfl rfl rfl ?_; clear hE hS a w; intro b52 a w hE hS
 refine vp hS hE rfl rfl fun a hE => WL.nil ?_
 refine W.seq ?_
 obtain ⟨q54, hq53, hr⟩ := bindS hr
 refine W.cut (fun a w => ∃ (q57 : Bool), q57 = q54 ∧ Rep a 26 [(4, .bool q57)] ∧ St w s (pc b52 (LineEnd.cells x1).toArray 253 :: pc b51 #[.slice a0_0 x0.Stations.length c0_0, .slice a0_1 x0.Sections.length c0_1, .slice a0_2 x0.Links.length c0_2, .slice a0_3 x0.Signals.length c0_3, .slice a0_4 x0.Gates.length c0_4] 53 :: R)) ?_ ?_
 ·refine W.gen fun K58 hK58 => ?_
  refine W.regionQ (C := fun w => St w s (pc b52 (LineEnd.cells x1).toArray 253 :: pc b51 #[.slice a0_0 x0.Stations.length c0_0, .slice a0_1 x0.Sections.length c0_1, .slice a0_2 x0.Links.length c0_2, .slice a0_3 x0.Signals.length c0_3, .slice a0_4 x0.Gates.length c0_4] 53 :: R)) mixed (by kernel_rfl) hS.drew ?_
  refine qP hE (Gives.fld hE rfl fl253_0) rfl fun a hE => ?_
  refine qP hE (Gives.loadB hE 0 rfl rfl rfl ty3) rfl fun a hE => ?_
  refine qP hE (Gives.fld hE rfl fl53_1) rfl fun a hE => ?_
  refine qP hE (Gives.loadB hE 1 rfl rfl rfl ty48) rfl fun a hE => ?_
  refine qP hE (Gives.len hE rfl sl48) rfl fun a hE => ?_
  refine qP hE (Gives.p hE rfl) rfl fun a hE => ?_
  refine QL.fnq hE (fun w hS => Linewithin_ok hS  rfl (r := Linewithin x1.section_ 0 (w64 (((x0.Sections).length : Int) - 1)))) (runs_plain rfl) bd160 rfl rfl rfl fun a hE => ?_
  refine qP hE (Gives.p hE rfl) rfl fun a hE => ?_
  rcases Bool.eq_false_or_eq_true (Linewithin x1.section_ 0 (w64 (((x0.Sections).length : Int) - 1))) with hg59 | hg59
  ·replace hq53 := iteT hg59 hq53
   refine QL.v hE (runs_if hE rfl rfl rfl hg59) (Gives.fld hE rfl fl253_1) rfl fun a hE => ?_
   refine QL.v hE (runs_if hE rfl rfl rfl hg59) (Gives.loadB hE 0 rfl rfl rfl ty3) rfl fun a hE => ?_
   refine QL.v hE (runs_if hE rfl rfl rfl hg59) (Gives.fld hE rfl fl53_1) rfl fun a hE => ?_
   refine QL.v hE (runs_if hE rfl rfl rfl hg59) (Gives.loadB hE 1 rfl rfl rfl ty48) rfl fun a hE => ?_
   refine QL.v hE (runs_if hE rfl rfl rfl hg59) (Gives.fld hE rfl fl253_0) rfl fun a hE => ?_
   refine QL.v hE (runs_if hE rfl rfl rfl hg59) (Gives.loadB hE 0 rfl rfl rfl ty3) rfl fun a hE => ?_
   obtain ⟨x60, hx61, hq53⟩ := bindS hq53
   obtain ⟨hi62, hlt63, hy64⟩ := gx_some hx61
   obtain ⟨cs65, hl66, hR67, hat68⟩ := h0_1.at hy64
   subst hR67
   refine QL.v hE (runs_if hE rfl rfl rfl hg59) (Gives.idx hE (x1.section_).toNat rfl rfl sl48 hi62 hlt63 (h0_1.aok hlt63)) rfl fun a hE => ?_
   refine QL.v hE (runs_if hE rfl rfl rfl hg59) (Gives.fld hE rfl fl151_0) rfl fun a hE => ?_
   refine QL.v hE (runs_if hE rfl rfl rfl hg59) (Gives.load1 hE rfl (fun w h => (hat68 w _ h).one rfl) ty3) rfl fun a hE => ?_
   refine QL.fnq hE (fun w hS => Lineends_ok hS  rfl (r := Lineends x60.Kind)) (runs_if hE rfl rfl rfl hg59) bd159 rfl rfl rfl fun a hE => ?_
   refine QL.v hE (runs_if hE rfl rfl rfl hg59) (Gives.p hE rfl) rfl fun a hE => ?_
   refine QL.fnq hE (fun w hS => Linewithin_ok hS  rfl (r := Linewithin x1.end_ 0 (w64 ((Lineends x60.Kind) - 1)))) (runs_if hE rfl rfl rfl hg59) bd160 rfl rfl rfl fun a hE => ?_
   refine qP hE (Gives.pickT hE rfl hg59 rfl) rfl fun a hE => ?_
   refine qP hE (Gives.p hE rfl) rfl fun a hE => ?_
   refine QL.nil ?_; clear hS w; intro w hS
   subst hK58
   exact ⟨(Linewithin x1.end_ 0 (w64 ((Lineends x60.Kind) - 1))), Option.some.inj hq53, hE.pick _ ⟨rfl, trivial⟩, hS⟩
  replace hq53 := iteF hg59 hq53
  refine QL.no hE (runs_not hE rfl rfl rfl (by rw [hg59]; decide)) rfl fun a hE => ?_
  refine QL.no hE (runs_not hE rfl rfl rfl (by rw [hg59]; decide)) rfl fun a hE => ?_
  refine QL.no hE (runs_not hE rfl rfl rfl (by rw [hg59]; decide)) rfl fun a hE => ?_
  refine QL.no hE (runs_not hE rfl rfl rfl (by rw [hg59]; decide)) rfl fun a hE => ?_
  refine QL.no hE (runs_not hE rfl rfl rfl (by rw [hg59]; decide)) rfl fun a hE => ?_
  refine QL.no hE (runs_not hE rfl rfl rfl (by rw [hg59]; decide)) rfl fun a hE => ?_
  refine QL.no hE (runs_not hE rfl rfl rfl (by rw [hg59]; decide)) rfl fun a hE => ?_
  refine QL.no hE (runs_not hE rfl rfl rfl (by rw [hg59]; decide)) rfl fun a hE => ?_
  refine QL.no hE (runs_not hE rfl rfl rfl (by rw [hg59]; decide)) rfl fun a hE => ?_
  refine QL.no hE (runs_not hE rfl rfl rfl (by rw [hg59]; decide)) rfl fun a hE => ?_
  refine QL.no hE (runs_not hE rfl rfl rfl (by rw [hg59]; decide)) rfl fun a hE => ?_
  refine QL.no hE (runs_not hE rfl rfl rfl (by rw [hg59]; decide)) rfl fun a hE => ?_
  refine qP hE (Gives.pickF hE rfl hg59 rfl) rfl fun a hE => ?_
  refine qP hE (Gives.p hE rfl) rfl fun a hE => ?_
  refine QL.nil ?_; clear hS w; intro w hS
  subst hK58
  exact ⟨false, Option.some.inj hq53, hE.pick _ ⟨rfl, trivial⟩, hS⟩
 clear hE hS a w; rintro a w ⟨q57, rfl, hE, hS⟩
 refine W.ret ?_
 refine finG (fn := Tryz.f161) (rs := [.tmp 4]) (vs := [_]) hE rfl ⟨rfl, trivial⟩ ?_
 obtain rfl := Option.some.inj hr
 replace hS := hS.tail
 replace hS := hS.tail
 exact ⟨rfl, hS⟩
set_option maxHeartbeats 8000000 in
theorem CmpisNaNint_ok  {w : World} {s : Sg} {R : List HP} {x0 : Int} (hS : St w s (R))  {r : Bool} (hr : CmpisNaNint x0 = r) :
  Calls Tryz.prog 95 [vi x0].toArray w (fun e w => e = .returned (.bool r) ∧ St w s (R)) := by
 refine enter Tryz.func95 rfl rfl rfl fun a hE => ?_
 rw [CmpisNaNint] at hr
 refine W.seq (W.region (vp hS hE rfl rfl fun a hE => WL.nil ?_))
 refine W.seq (W.region (v2 hS hE rfl rfl rfl rfl fun a hE => ?_))
 refine v2 hS hE rfl rfl rfl rfl fun a hE => WL.nil ?_
 refine W.ret ?_
 refine finG (fn := Tryz.f95) (rs := [.tmp 2]) (vs := [_]) hE rfl ⟨rfl, trivial⟩ ?_
 subst hr
 exact ⟨rfl, hS⟩
set_option maxHeartbeats 8000000 in
theorem CmpCompareint_ok  {w : World} {s : Sg} {R : List HP} {x0 : Int} {x1 : Int} (hS : St w s (R))  {r : Int} (hr : CmpCompareint x0 x1 = r) :
  Calls Tryz.prog 42 [vi x0, vi x1].toArray w (fun e w => e = .returned (vi r) ∧ St w s (R)) := by
 refine enter Tryz.func42 rfl rfl rfl fun a hE => ?_
 rw [CmpCompareint] at hr
 refine W.seq (W.region (vp hS hE rfl rfl fun a hE => WL.nil ?_))
 refine W.seq (W.region (vp hS hE rfl rfl fun a hE => ?_))
 refine WL.fnq hE (CmpisNaNint_ok hS  rfl (r := CmpisNaNint x0)) (runs_plain rfl) bd95 rfl rfl rfl ?_
 clear hE hS; rintro e w ⟨rfl, hS⟩; refine ⟨_, rfl, ?_⟩; clear a; intro a hE
 refine vp hS hE rfl rfl fun a hE => WL.nil ?_
 refine W.seq (W.region (vp hS hE rfl rfl fun a hE => ?_))
 refine WL.fnq hE (CmpisNaNint_ok hS  rfl (r := CmpisNaNint x1)) (runs_plain rfl) bd95 rfl rfl rfl ?_
 clear hE hS; rintro e w ⟨rfl, hS⟩; refine ⟨_, rfl, ?_⟩; clear a; intro a hE
 refine vp hS hE rfl rfl fun a hE => WL.nil ?_
 refine W.seq ?_
 refine W.seq (W.region (vp hS hE rfl rfl fun a hE => WL.nil ?_))
 refine W.cond hE rfl (fun hc51 => ?_) (fun hc51 => ?_)
 ·replace hr := iteT hc51 hr
  refine W.seq ?_
  refine W.seq (W.region (vp hS hE rfl rfl fun a hE => WL.nil ?_))
  refine W.cond hE rfl (fun hc52 => ?_) (fun hc52 => ?_)
  ·replace hr := iteT hc52 hr
   refine W.seq (W.region (vp hS hE rfl rfl fun a hE => WL.nil ?_))
   refine W.ret ?_
   refine finG (fn := Tryz.f42) (rs := [.tmp 4]) (vs := [_]) hE rfl ⟨rfl, trivial⟩ ?_
   subst hr
   exact ⟨rfl, hS⟩
  replace hr := iteF hc52 hr
  refine W.skip ?_
  refine W.seq (W.region (vp hS hE rfl rfl fun a hE => WL.nil ?_))
  refine W.ret ?_
  refine finG (fn := Tryz.f42) (rs := [.tmp 4]) (vs := [_]) hE rfl ⟨rfl, trivial⟩ ?_
  subst hr
  exact ⟨rfl, hS⟩
 replace hr := iteF hc51 hr
 refine W.skip ?_
 refine W.seq ?_
 refine W.seq (W.region (vp hS hE rfl rfl fun a hE => WL.nil ?_))
 refine W.cond hE rfl (fun hc53 => ?_) (fun hc53 => ?_)
 ·replace hr := iteT hc53 hr
  refine W.seq (W.region (vp hS hE rfl rfl fun a hE => WL.nil ?_))
  refine W.ret ?_
  refine finG (fn := Tryz.f42) (rs := [.tmp 4]) (vs := [_]) hE rfl ⟨rfl, trivial⟩ ?_
  subst hr
  exact ⟨rfl, hS⟩
 replace hr := iteF hc53 hr
 refine W.skip ?_
 refine W.seq ?_
 refine W.seq (W.region (v2 hS hE rfl rfl rfl rfl fun a hE => ?_))
 refine vp hS hE rfl rfl fun a hE => WL.nil ?_
 refine W.cond hE rfl (fun hc54 => ?_) (fun hc54 => ?_)
 ·replace hr := iteT hc54 hr
  refine W.seq (W.region (vp hS hE rfl rfl fun a hE => WL.nil ?_))
  refine W.ret ?_
  refine finG (fn := Tryz.f42) (rs := [.tmp 4]) (vs := [_]) hE rfl ⟨rfl, trivial⟩ ?_
  subst hr
  exact ⟨rfl, hS⟩
 replace hr := iteF hc54 hr
 refine W.skip ?_
 refine W.seq ?_
 refine W.seq (W.region (v2 hS hE rfl rfl rfl rfl fun a hE => ?_))
 refine vp hS hE rfl rfl fun a hE => WL.nil ?_
 refine W.cond hE rfl (fun hc55 => ?_) (fun hc55 => ?_)
 ·replace hr := iteT hc55 hr
  refine W.seq (W.region (vp hS hE rfl rfl fun a hE => WL.nil ?_))
  refine W.ret ?_
  refine finG (fn := Tryz.f42) (rs := [.tmp 4]) (vs := [_]) hE rfl ⟨rfl, trivial⟩ ?_
  subst hr
  exact ⟨rfl, hS⟩
 replace hr := iteF hc55 hr
 refine W.skip ?_
 refine W.seq (W.region (vp hS hE rfl rfl fun a hE => WL.nil ?_))
 refine W.ret ?_
 refine finG (fn := Tryz.f42) (rs := [.tmp 4]) (vs := [_]) hE rfl ⟨rfl, trivial⟩ ?_
 subst hr
 exact ⟨rfl, hS⟩
set_option maxHeartbeats 8000000 in
theorem CmpOrint_ok  {w : World} {s : Sg} {R : List HP} {x0 : List Int} {a0 : Option Addr} {c0 : Nat} (hS : St w s (R)) (h0 : Sl 1 (RI .i64) s a0 c0 x0) {r : Int} (hr : CmpOrint x0 = r) :
  Calls Tryz.prog 41 [.slice a0 x0.length c0].toArray w (fun e w => e = .returned (vi r) ∧ St w s (R)) := by
 refine enter Tryz.func41 rfl rfl rfl fun a hE => ?_
 rw [CmpOrint] at hr
 refine W.seq (W.region (vp hS hE rfl rfl fun a hE => WL.nil ?_))
 refine W.seq (W.region (vp hS hE rfl rfl fun a hE => WL.nil ?_))
 refine W.seq ?_
 refine W.seq (W.region (vp hS hE rfl rfl fun a hE => ?_))
 refine vP hS hE (Gives.len hE rfl sl65) rfl fun a hE => ?_
 refine vp hS hE rfl rfl fun a hE => WL.nil ?_
 obtain ⟨q52, hq51, hr⟩ := bndS hr
 refine W.cut (fun a w => (.next ()) = q52 ∧ Rep a 18 [(3, vi 0)] ∧ St w s (R)) ?_ ?_
 ·refine W.block ?_
  refine W.loop (fun m a w => ∃ (rest55 : List Int) (k53 : Nat), rest55.length = m ∧ x0.drop k53 = rest55 ∧ CmpOrint.loop1 rest55 = q52 ∧ Rep a 18 [(3, vi 0), (6, .slice a0 x0.length c0), (7, vi ((x0).length : Int)), (8, vi ((k53 : Nat) : Int))] ∧ St w s (R)) (m := x0.length) ⟨x0, 0, rfl, rfl, hq51, hE.pick _ ⟨rfl, rfl, rfl, rfl, trivial⟩, hS⟩ ?_
  clear hE hS a w hq51; rintro m59 a w ⟨rest55, k53, rfl, hd56, hq51, hE, hS⟩
  refine W.gen fun K62 hK62 => ?_
  rcases rest55 with _ | ⟨x54, rest55⟩
  ·have hlt57 := drop_nil hd56
   refine W.seq (W.region (vp hS hE rfl rfl fun a hE => WL.nil ?_))
   refine W.seq ?_
   refine W.condF hE rfl (decide_eq_false (by omega)) ?_
   subst hK62
   refine W.exit rfl ?_
   exact ⟨hq51, hE.pick _ ⟨rfl, trivial⟩, hS⟩
  obtain ⟨hlt57, hx58, hd56⟩ := drop_cons hd56
  rw [CmpOrint.loop1] at hq51
  refine W.seq (W.region (vp hS hE rfl rfl fun a hE => WL.nil ?_))
  refine W.seq ?_
  refine W.condT hE rfl (decide_eq_true (by omega)) ?_
  refine W.skip ?_
  refine W.seq ?_
  refine W.block ?_
  refine W.seq (W.region ?_)
  obtain ⟨cs63, hl64, hR65, hat66⟩ := h0.at hx58
  subst hR65
  refine vP hS hE (Gives.idx hE k53 rfl rfl sl65 rfl hlt57 (h0.aok hlt57)) rfl fun a hE => ?_
  refine vP hS hE (Gives.load1 hE rfl (fun w h => hat66 w _ h) ty3) rfl fun a hE => ?_
  refine vp hS hE rfl rfl fun a hE => WL.nil ?_
  refine W.seq (W.region (v2 hS hE rfl rfl rfl rfl fun a hE => ?_))
  refine vp hS hE rfl rfl fun a hE => WL.nil ?_
  refine W.cond hE rfl (fun hc67 => ?_) (fun hc67 => ?_)
  ·replace hq51 := iteT hc67 hq51
   refine W.seq (W.region (v2 hS hE rfl rfl rfl rfl fun a hE => WL.nil ?_))
   refine W.ret ?_
   subst hK62
   rw [← hq51] at hr
   dsimp only at hr
   refine finG (fn := Tryz.f41) (rs := [.tmp 2]) (vs := [_]) hE rfl ⟨rfl, trivial⟩ ?_
   subst hr
   exact ⟨rfl, hS⟩
  replace hq51 := iteF hc67 hq51
  refine W.skip ?_
  refine W.region ?_
  refine vP hS hE (Gives.inc hE rfl (by have := h0.small; omega)) rfl fun a hE => ?_
  refine vp hS hE rfl rfl fun a hE => WL.nil ?_
  subst hK62
  exact ⟨rest55.length, Nat.lt_succ_self _, rest55, k53 + 1, rfl, hd56, hq51, hE.pick _ ⟨rfl, rfl, rfl, rfl, trivial⟩, hS⟩
 clear hE hS a w; rintro a w ⟨rfl, hE, hS⟩
 dsimp only at hr
 refine W.seq (W.region (v2 hS hE rfl rfl rfl rfl fun a hE => WL.nil ?_))
 refine W.ret ?_
 refine finG (fn := Tryz.f41) (rs := [.tmp 2]) (vs := [_]) hE rfl ⟨rfl, trivial⟩ ?_
 subst hr
 exact ⟨rfl, hS⟩
set_option maxHeartbeats 8000000 in
theorem LinecheckLinks_ok  {w : World} {s : Sg} {R : List HP} {x0 : ApiNet} {a0_0 : Option Addr} {c0_0 : Nat} {a0_1 : Option Addr} {c0_1 : Nat} {a0_2 : Option Addr} {c0_2 : Nat} {a0_3 : Option Addr} {c0_3 : Nat} {a0_4 : Option Addr} {c0_4 : Nat} (hS : St w s (R)) (h0_0 : Sl 1 RS s a0_0 c0_0 x0.Stations) (h0_1 : Sl 7 RApiSection s a0_1 c0_1 x0.Sections) (h0_2 : Sl 4 RApiLink s a0_2 c0_2 x0.Links) (h0_3 : Sl 2 RApiSignal s a0_3 c0_3 x0.Signals) (h0_4 : Sl 2 RApiGate s a0_4 c0_4 x0.Gates) {r : Int} (hr : LinecheckLinks x0 = some r) :
  Calls Tryz.prog 114 [.agg (List.toArray [.slice a0_0 x0.Stations.length c0_0, .slice a0_1 x0.Sections.length c0_1, .slice a0_2 x0.Links.length c0_2, .slice a0_3 x0.Signals.length c0_3, .slice a0_4 x0.Gates.length c0_4])].toArray w (fun e w => e = .returned (vi r) ∧ St w s (R)) := by
 refine enter Tryz.func114 rfl rfl rfl fun a hE => ?_
 rw [LinecheckLinks] at hr
 refine W.seq (W.region ?_)
 refine WL.box hE hS (runs_plain rfl) rfl rfl rfl ?_; clear hE hS a w; intro b51 a w hE hS
 refine vp hS hE rfl rfl fun a hE => WL.nil ?_
 refine W.seq (W.region ?_)
 refine WL.mkMap (fk := keyLineEnd.f) (fv := Value.bool) hE hS (runs_plain rfl) rfl ?_; clear hE hS a w; intro b52 a w hE hS
 refine vp hS hE rfl rfl fun a hE => WL.nil ?_
 refine W.seq ?_
 refine W.seq (W.region (vP hS hE (Gives.fld hE rfl fl53_2) rfl fun a hE => ?_))
 refine vP hS hE (Gives.loadB hE 1 rfl rfl rfl ty49) rfl fun a hE => ?_
 refine vP hS hE (Gives.len hE rfl sl49) rfl fun a hE => ?_
 refine vp hS hE rfl rfl fun a hE => WL.nil ?_
 obtain ⟨q54, hq53, hr⟩ := bindS hr
 refine W.cut (fun a w => ∃ (q64 : List (LineEnd × Bool)), ∃ (s62 : Sg), s.Le s62 ∧ (.next q64) = q54 ∧ Rep a 85 [] ∧ St w s62 (mapC keyLineEnd.f Value.bool b52 q64 :: pc b51 #[.slice a0_0 x0.Stations.length c0_0, .slice a0_1 x0.Sections.length c0_1, .slice a0_2 x0.Links.length c0_2, .slice a0_3 x0.Signals.length c0_3, .slice a0_4 x0.Gates.length c0_4] 53 :: R)) ?_ ?_
 ·refine W.block ?_
  refine W.loop (fun m a w => ∃ (rest57 : List ApiLink) (k55 : Nat), ∃ (q64 : List (LineEnd × Bool)), ∃ (s62 : Sg), rest57.length = m ∧ x0.Links.drop k55 = rest57 ∧ s.Le s62 ∧ LinecheckLinks.loop1 x0 rest57 k55 q64 = some q54 ∧ Rep a 85 [(1, pp b51), (3, .map (some b52)), (11, .slice a0_2 x0.Links.length c0_2), (12, vi ((x0.Links).length : Int)), (13, vi ((k55 : Nat) : Int))] ∧ St w s62 (mapC keyLineEnd.f Value.bool b52 q64 :: pc b51 #[.slice a0_0 x0.Stations.length c0_0, .slice a0_1 x0.Sections.length c0_1, .slice a0_2 x0.Links.length c0_2, .slice a0_3 x0.Signals.length c0_3, .slice a0_4 x0.Gates.length c0_4] 53 :: R)) (m := x0.Links.length) ⟨x0.Links, 0, [], s, rfl, rfl, (Sg.Le.refl _), hq53, hE.pick _ ⟨rfl, rfl, rfl, rfl, rfl, trivial⟩, hS⟩ ?_
  clear hE hS a w hq53; rintro m61 a w ⟨rest57, k55, q64, s62, rfl, hd58, hle63, hq53, hE, hS⟩
  refine W.gen fun K65 hK65 => ?_
  replace h0_0 := Sl.mono RS.mono hle63 h0_0
  replace h0_1 := Sl.mono RApiSection.mono hle63 h0_1
  replace h0_2 := Sl.mono RApiLink.mono hle63 h0_2
  replace h0_3 := Sl.mono RApiSignal.mono hle63 h0_3
  replace h0_4 := Sl.mono RApiGate.mono hle63 h0_4
  rcases rest57 with _ | ⟨x56, rest57⟩
  ·have hlt59 := drop_nil hd58
   refine W.seq (W.region (vp hS hE rfl rfl fun a hE => WL.nil ?_))
   refine W.seq ?_
   refine W.condF hE rfl (decide_eq_false (by omega)) ?_
   subst hK65
   refine W.exit rfl ?_
   exact ⟨q64, s62, hle63, Option.some.inj hq53, hE.pick _ trivial, hS⟩
  obtain ⟨hlt59, hx60, hd58⟩ := drop_cons hd58
  rw [LinecheckLinks.loop1] at hq53
  refine W.seq (W.region (vp hS hE rfl rfl fun a hE => WL.nil ?_))
  refine W.seq ?_
  refine W.condT hE rfl (decide_eq_true (by omega)) ?_
  refine W.skip ?_
  refine W.seq ?_
  refine W.block ?_
  refine W.seq (W.region (vp hS hE rfl rfl fun a hE => ?_))
  obtain ⟨cs66, hl67, hR68, hat69⟩ := h0_2.at hx60
  subst hR68
  refine vP hS hE (Gives.idx hE k55 rfl rfl sl49 rfl hlt59 (h0_2.aok hlt59)) rfl fun a hE => ?_
  refine vP hS hE (Gives.loadA hE rfl (fun w h => hat69 w _ h) ty198) rfl fun a hE => ?_
  refine WL.alloc hE hS (runs_plain rfl) zr198 rfl ?_; clear hE hS a w; intro b70 a w hE hS
  refine vp hS hE rfl rfl fun a hE => ?_
  refine WL.storeI hE hS 0 rfl (ApiLink.cells x56) (runs_plain rfl) rfl rfl rfl ty198 rfl rfl rfl rfl ?_; clear hE hS a w; intro a w hE hS
  refine WL.nil ?_
  refine W.seq ?_
  refine W.gen fun K71 hK71 => ?_
  refine W.regionE (dup (fun w => St w s62 (pc b70 (ApiLink.cells x56).toArray 198 :: mapC keyLineEnd.f Value.bool b52 q64 :: pc b51 #[.slice a0_0 x0.Stations.length c0_0, .slice a0_1 x0.Sections.length c0_1, .slice a0_2 x0.Links.length c0_2, .slice a0_3 x0.Signals.length c0_3, .slice a0_4 x0.Gates.length c0_4] 53 :: R))) (fun b i => cond b ([0, 1, 2, 3, 4, 5, 6, 7, 8, 9, 10, 11, 12, 13].contains i) ([0, 1, 2, 3, 4, 5, 6, 7, 8, 9, 10, 11, 12, 13].contains i)) mixed ?_
  replace hS := hS.drew
  refine tP (i := 0) hE rfl (by kernel_rfl) (Gives.fld hE rfl fl198_0) rfl hS hS fun a hE => ?_
  refine tT (i := 1) true rfl hE rfl (by kernel_rfl) (Gives.loadB hE 0 rfl rfl rfl ty3) rfl hS hS fun a hE => ?_
  refine tP (i := 2) hE rfl (by kernel_rfl) (Gives.fld hE rfl fl198_1) rfl hS hS fun a hE => ?_
  refine tT (i := 3) true rfl hE rfl (by kernel_rfl) (Gives.loadB hE 0 rfl rfl rfl ty3) rfl hS hS fun a hE => ?_
  refine tP (i := 4) hE rfl (by kernel_rfl) (Gives.build hE (vs := [(0, vi x56.A), (1, vi x56.EndA)]) [vi x56.A, vi x56.EndA] rfl (by kernel_rfl)) rfl hS hS fun a hE => ?_
  refine tP (i := 5) hE rfl (by kernel_rfl) (Gives.fld hE rfl fl198_2) rfl hS hS fun a hE => ?_
  refine tT (i := 6) true rfl hE rfl (by kernel_rfl) (Gives.loadB hE 0 rfl rfl rfl ty3) rfl hS hS fun a hE => ?_
  refine tP (i := 7) hE rfl (by kernel_rfl) (Gives.fld hE rfl fl198_3) rfl hS hS fun a hE => ?_
  refine tT (i := 8) true rfl hE rfl (by kernel_rfl) (Gives.loadB hE 0 rfl rfl rfl ty3) rfl hS hS fun a hE => ?_
  refine tP (i := 9) hE rfl (by kernel_rfl) (Gives.build hE (vs := [(0, vi x56.B), (1, vi x56.EndB)]) [vi x56.B, vi x56.EndB] rfl (by kernel_rfl)) rfl hS hS fun a hE => ?_
  suffices key : ∀ b72 b73 (a : Act) (w : World), Sl 4 RApiLink s62 a0_2 c0_2 x0.Links → Sl 1 RS s62 a0_0 c0_0 x0.Stations → Sl 7 RApiSection s62 a0_1 c0_1 x0.Sections → Sl 2 RApiSignal s62 a0_3 c0_3 x0.Signals → Sl 2 RApiGate s62 a0_4 c0_4 x0.Gates → Rep a 85 [(1, pp b51), (3, .map (some b52)), (4, vi ((k55 : Nat) : Int)), (5, pp b70), (6, pp b72), (7, pp b73), (11, .slice a0_2 x0.Links.length c0_2), (12, vi ((x0.Links).length : Int)), (13, vi ((k55 : Nat) : Int))] → St w s62 (pc b73 #[vi x56.B, vi x56.EndB] 253 :: pc b72 #[vi x56.A, vi x56.EndA] 253 :: pc b70 (ApiLink.cells x56).toArray 198 :: mapC keyLineEnd.f Value.bool b52 q64 :: pc b51 #[.slice a0_0 x0.Stations.length c0_0, .slice a0_1 x0.Sections.length c0_1, .slice a0_2 x0.Links.length c0_2, .slice a0_3 x0.Signals.length c0_3, .slice a0_4 x0.Gates.length c0_4] 53 :: R) → K71.nor a w by
   refine Rg.many 10 [11] (by kernel_rfl) ⟨?_, ?_, trivial⟩
   ·refine Br.mk (i := 10) true true rfl (by kernel_rfl) (by kernel_rfl) ?_
    refine WL.alloc hE hS (runs_plain rfl) zr253 rfl ?_; clear hE hS a w; intro b72 a w hE hS
    refine WL.nil ?_
    refine ⟨⟨fun _ => (hS.tail), fun _ => (hS.tail)⟩, ?_⟩
    refine Rg.one (i := 11) true true rfl (by kernel_rfl) (by kernel_rfl) (by kernel_rfl) ?_
    refine WL.alloc hE hS (runs_plain rfl) zr253 rfl ?_; clear hE hS a w; intro b73 a w hE hS
    refine WL.nil ?_
    refine ⟨⟨fun _ => ((hS.tail).tail), fun _ => ((hS.tail).tail)⟩, ?_⟩
    refine Rg.one (i := 12) true true rfl (by kernel_rfl) (by kernel_rfl) (by kernel_rfl) ?_
    refine WL.storeI hE hS 1 rfl [vi x56.A, vi x56.EndA] (runs_plain rfl) rfl rfl rfl ty253 rfl rfl rfl rfl ?_; clear hE hS a w; intro a w hE hS
    refine WL.nil ?_
    refine ⟨⟨fun _ => ((hS.tail).tail), fun _ => ((hS.tail).tail)⟩, ?_⟩
    refine Rg.one (i := 13) true true rfl (by kernel_rfl) (by kernel_rfl) (by kernel_rfl) ?_
    refine WL.storeI hE hS 0 rfl [vi x56.B, vi x56.EndB] (runs_plain rfl) rfl rfl rfl ty253 rfl rfl rfl rfl ?_; clear hE hS a w; intro a w hE hS
    refine WL.nil ?_
    refine ⟨⟨fun _ => ((hS.tail).tail), fun _ => ((hS.tail).tail)⟩, ?_⟩
    refine Rg.done (by kernel_rfl) ?_
    exact key _ _ _ _ h0_2 h0_0 h0_1 h0_3 h0_4 (hE.pick _ ⟨rfl, rfl, rfl, rfl, rfl, rfl, rfl, rfl, rfl, trivial⟩) hS
   refine Br.mk (i := 11) true true rfl (by kernel_rfl) (by kernel_rfl) ?_
   refine WL.alloc hE hS (runs_plain rfl) zr253 rfl ?_; clear hE hS a w; intro b73 a w hE hS
   refine WL.nil ?_
   refine ⟨⟨fun _ => (hS.tail), fun _ => (hS.tail)⟩, ?_⟩
   refine Rg.one (i := 10) true true rfl (by kernel_rfl) (by kernel_rfl) (by kernel_rfl) ?_
   refine WL.alloc hE hS (runs_plain rfl) zr253 rfl ?_; clear hE hS a w; intro b72 a w hE hS
   refine WL.nil ?_
   refine ⟨⟨fun _ => ((hS.tail).tail), fun _ => ((hS.tail).tail)⟩, ?_⟩
   refine Rg.one (i := 12) true true rfl (by kernel_rfl) (by kernel_rfl) (by kernel_rfl) ?_
   refine WL.storeI hE hS 0 rfl [vi x56.A, vi x56.EndA] (runs_plain rfl) rfl rfl rfl ty253 rfl rfl rfl rfl ?_; clear hE hS a w; intro a w hE hS
   refine WL.nil ?_
   refine ⟨⟨fun _ => ((hS.tail).tail), fun _ => ((hS.tail).tail)⟩, ?_⟩
   refine Rg.one (i := 13) true true rfl (by kernel_rfl) (by kernel_rfl) (by kernel_rfl) ?_
   refine WL.storeI hE hS 1 rfl [vi x56.B, vi x56.EndB] (runs_plain rfl) rfl rfl rfl ty253 rfl rfl rfl rfl ?_; clear hE hS a w; intro a w hE hS
   refine WL.nil ?_
   refine ⟨⟨fun _ => ((hS.tail).tail), fun _ => ((hS.tail).tail)⟩, ?_⟩
   refine Rg.done (by kernel_rfl) ?_
   replace hS := hS.front 4 rfl
   replace hS := hS.front 4 rfl
   replace hS := hS.front 4 rfl
   replace hS := hS.front 3 rfl
   replace hS := hS.front 4 rfl
   exact key _ _ _ _ h0_2 h0_0 h0_1 h0_3 h0_4 (hE.pick _ ⟨rfl, rfl, rfl, rfl, rfl, rfl, rfl, rfl, rfl, trivial⟩) hS
  clear hE hS a w; intro b72 b73 a w h0_2 h0_0 h0_1 h0_3 h0_4 hE hS
  subst hK71
  refine W.seq ?_
  refine W.block ?_
  refine W.seq ?_
  obtain ⟨q76, hq75, hq53⟩ := bindS hq53
  refine W.cut (fun a w => ∃ (q79 : Bool), q79 = q76 ∧ Rep a 85 [(1, pp b51), (3, .map (some b52)), (4, vi ((k55 : Nat) : Int)), (5, pp b70), (6, pp b72), (7, pp b73), (11, .slice a0_2 x0.Links.length c0_2), (12, vi ((x0.Links).length : Int)), (13, vi ((k55 : Nat) : Int)), (28, .bool q79)] ∧ St w s62 (pc b73 #[vi x56.B, vi x56.EndB] 253 :: pc b72 #[vi x56.A, vi x56.EndA] 253 :: pc b70 (ApiLink.cells x56).toArray 198 :: mapC keyLineEnd.f Value.bool b52 q64 :: pc b51 #[.slice a0_0 x0.Stations.length c0_0, .slice a0_1 x0.Sections.length c0_1, .slice a0_2 x0.Links.length c0_2, .slice a0_3 x0.Signals.length c0_3, .slice a0_4 x0.Gates.length c0_4] 53 :: R)) ?_ ?_
  ·refine W.gen fun K80 hK80 => ?_
   refine W.region ?_
   refine vP hS hE (Gives.loadBA hE 4 rfl rfl ty53) rfl fun a hE => ?_
   refine vP hS hE (Gives.loadBA hE 1 rfl rfl ty253) rfl fun a hE => ?_
   obtain ⟨q81, hq82, hq75⟩ := bindS hq75
   have hc_ := Linehas_ok hS h0_0 h0_1 h0_2 h0_3 h0_4 hq82
   refine WL.fnq hE (hc_) (runs_plain rfl) bd161 rfl rfl rfl ?_
   clear hE hS hc_; rintro e w ⟨rfl, hS⟩; refine ⟨_, rfl, ?_⟩; clear a; intro a hE
   refine v2 hS hE rfl rfl rfl rfl fun a hE => ?_
   rcases Bool.eq_false_or_eq_true !q81 with hg83 | hg83
   ·replace hq75 := iteT hg83 hq75
    refine nO hE rfl rfl rfl (by rw [hg83]; decide) rfl fun a hE => ?_
    refine nO hE rfl rfl rfl (by rw [hg83]; decide) rfl fun a hE => ?_
    refine nO hE rfl rfl rfl (by rw [hg83]; decide) rfl fun a hE => ?_
    refine nO hE rfl rfl rfl (by rw [hg83]; decide) rfl fun a hE => ?_
    refine vP hS hE (Gives.pickT hE rfl hg83 rfl) rfl fun a hE => ?_
    refine vp hS hE rfl rfl fun a hE => WL.nil ?_
    subst hK80
    exact ⟨true, Option.some.inj hq75, hE.pick _ ⟨rfl, rfl, rfl, rfl, rfl, rfl, rfl, rfl, rfl, rfl, trivial⟩, hS⟩
   replace hq75 := iteF hg83 hq75
   refine WL.vS hS hE (runs_if hE rfl rfl rfl hg83) (Gives.loadBA hE 4 rfl rfl ty53) rfl fun a hE => ?_
   refine WL.vS hS hE (runs_if hE rfl rfl rfl hg83) (Gives.loadBA hE 0 rfl rfl ty253) rfl fun a hE => ?_
   obtain ⟨q84, hq85, hq75⟩ := bindS hq75
   have hc_ := Linehas_ok hS h0_0 h0_1 h0_2 h0_3 h0_4 hq85
   refine WL.fnq hE (hc_) (runs_if hE rfl rfl rfl hg83) bd161 rfl rfl rfl ?_
   clear hE hS hc_; rintro e w ⟨rfl, hS⟩; refine ⟨_, rfl, ?_⟩; clear a; intro a hE
   refine WL.vS hS hE (runs_if hE rfl rfl rfl hg83) (Gives.p hE rfl) rfl fun a hE => ?_
   refine vP hS hE (Gives.pickF hE rfl hg83 rfl) rfl fun a hE => ?_
   refine vp hS hE rfl rfl fun a hE => WL.nil ?_
   subst hK80
   exact ⟨!q84, Option.some.inj hq75, hE.pick _ ⟨rfl, rfl, rfl, rfl, rfl, rfl, rfl, rfl, rfl, rfl, trivial⟩, hS⟩
  clear hE hS a w; rintro a w ⟨q79, rfl, hE, hS⟩
  refine W.cond hE rfl (fun hc86 => ?_) (fun hc86 => ?_)
  ·replace hq53 := iteT hc86 hq53
   refine W.seq (W.region (vp hS hE rfl rfl fun a hE => WL.nil ?_))
   refine W.ret ?_
   subst hK65
   rw [← Option.some.inj hq53] at hr
   dsimp only at hr
   refine finG (fn := Tryz.f114) (rs := [.tmp 2]) (vs := [_]) hE rfl ⟨rfl, trivial⟩ ?_
   obtain rfl := Option.some.inj hr
   replace hS := hS.tail
   replace hS := hS.tail
   replace hS := hS.tail
   replace hS := hS.tail
   replace hS := hS.tail
   exact ⟨rfl, (hS.down hle63)⟩
  replace hq53 := iteF hc86 hq53
  refine W.seq (W.region (vP hS hE (Gives.fld hE rfl fl198_0) rfl fun a hE => ?_))
  refine vP hS hE (Gives.loadB hE 2 rfl rfl rfl ty3) rfl fun a hE => ?_
  refine vP hS hE (Gives.fld hE rfl fl198_2) rfl fun a hE => ?_
  refine vP hS hE (Gives.loadB hE 2 rfl rfl rfl ty3) rfl fun a hE => ?_
  refine v2 hS hE rfl rfl rfl rfl fun a hE => WL.nil ?_
  refine W.cond hE rfl (fun hc87 => ?_) (fun hc87 => ?_)
  ·replace hq53 := iteT hc87 hq53
   refine W.seq (W.region (vp hS hE rfl rfl fun a hE => WL.nil ?_))
   refine W.ret ?_
   subst hK65
   rw [← Option.some.inj hq53] at hr
   dsimp only at hr
   refine finG (fn := Tryz.f114) (rs := [.tmp 2]) (vs := [_]) hE rfl ⟨rfl, trivial⟩ ?_
   obtain rfl := Option.some.inj hr
   replace hS := hS.tail
   replace hS := hS.tail
   replace hS := hS.tail
   replace hS := hS.tail
   replace hS := hS.tail
   exact ⟨rfl, (hS.down hle63)⟩
  replace hq53 := iteF hc87 hq53
  refine W.seq (W.region (vP hS hE (Gives.fld hE rfl fl198_0) rfl fun a hE => ?_))
  refine vP hS hE (Gives.loadB hE 2 rfl rfl rfl ty3) rfl fun a hE => ?_
  refine vP hS hE (Gives.fld hE rfl fl198_2) rfl fun a hE => ?_
  refine vP hS hE (Gives.loadB hE 2 rfl rfl rfl ty3) rfl fun a hE => ?_
  refine v2 hS hE rfl rfl rfl rfl fun a hE => WL.nil ?_
  refine W.cond hE rfl (fun hc88 => ?_) (fun hc88 => ?_)
  ·replace hq53 := iteT hc88 hq53
   refine W.seq (W.region (vp hS hE rfl rfl fun a hE => WL.nil ?_))
   refine W.ret ?_
   subst hK65
   rw [← Option.some.inj hq53] at hr
   dsimp only at hr
   refine finG (fn := Tryz.f114) (rs := [.tmp 2]) (vs := [_]) hE rfl ⟨rfl, trivial⟩ ?_
   obtain rfl := Option.some.inj hr
   replace hS := hS.tail
   replace hS := hS.tail
   replace hS := hS.tail
   replace hS := hS.tail
   replace hS := hS.tail
   exact ⟨rfl, (hS.down hle63)⟩
  replace hq53 := iteF hc88 hq53
  refine W.skip ?_
  refine W.seq ?_
  refine W.seq (W.region (v2 hS hE rfl rfl rfl rfl fun a hE => WL.nil ?_))
  obtain ⟨q90, hq89, hq53⟩ := bindS hq53
  refine W.cut (fun a w => ∃ (s91 : Sg), s62.Le s91 ∧ .next () = q90 ∧ Rep a 85 [(1, pp b51), (3, .map (some b52)), (6, pp b72), (7, pp b73), (11, .slice a0_2 x0.Links.length c0_2), (12, vi ((x0.Links).length : Int)), (13, vi ((k55 : Nat) : Int))] ∧ St w s91 (pc b73 #[vi x56.B, vi x56.EndB] 253 :: pc b72 #[vi x56.A, vi x56.EndA] 253 :: pc b70 (ApiLink.cells x56).toArray 198 :: mapC keyLineEnd.f Value.bool b52 q64 :: pc b51 #[.slice a0_0 x0.Stations.length c0_0, .slice a0_1 x0.Sections.length c0_1, .slice a0_2 x0.Links.length c0_2, .slice a0_3 x0.Signals.length c0_3, .slice a0_4 x0.Gates.length c0_4] 53 :: R)) ?_ ?_
  ·refine W.gen fun K93 hK93 => ?_
   refine W.cond hE rfl (fun hc94 => ?_) (fun hc94 => ?_)
   ·replace hq89 := iteT hc94 hq89
    refine W.seq (W.region (vP hS hE (Gives.fld hE rfl fl53_2) rfl fun a hE => ?_))
    refine vP hS hE (Gives.loadB hE 4 rfl rfl rfl ty49) rfl fun a hE => ?_
    refine v2 hS hE rfl rfl rfl rfl fun a hE => ?_
    obtain ⟨x95, hx96, hq89⟩ := bindS hq89
    obtain ⟨hi97, hlt98, hy99⟩ := gx_some hx96
    obtain ⟨cs100, hl101, hR102, hat103⟩ := h0_2.at hy99
    subst hR102
    refine vP hS hE (Gives.idx hE (w64 (((k55 : Nat) : Int) - 1)).toNat rfl rfl sl49 hi97 hlt98 (h0_2.aok hlt98)) rfl fun a hE => ?_
    refine vP hS hE (Gives.loadA hE rfl (fun w h => hat103 w _ h) ty198) rfl fun a hE => ?_
    refine WL.alloc hE hS (runs_plain rfl) zr198 rfl ?_; clear hE hS a w; intro b104 a w hE hS
    refine WL.storeI hE hS 0 rfl (ApiLink.cells x95) (runs_plain rfl) rfl rfl rfl ty198 rfl rfl rfl rfl ?_; clear hE hS a w; intro a w hE hS
    refine WL.nil ?_
    refine W.seq ?_
    refine W.gen fun K105 hK105 => ?_
    refine W.regionE (dup (fun w => St w s62 (pc b104 (ApiLink.cells x95).toArray 198 :: pc b73 #[vi x56.B, vi x56.EndB] 253 :: pc b72 #[vi x56.A, vi x56.EndA] 253 :: pc b70 (ApiLink.cells x56).toArray 198 :: mapC keyLineEnd.f Value.bool b52 q64 :: pc b51 #[.slice a0_0 x0.Stations.length c0_0, .slice a0_1 x0.Sections.length c0_1, .slice a0_2 x0.Links.length c0_2, .slice a0_3 x0.Signals.length c0_3, .slice a0_4 x0.Gates.length c0_4] 53 :: R))) (fun b i => cond b ([0, 1, 2, 3, 4, 5, 6, 7, 8, 9, 10, 11, 12].contains i) ([0, 1, 2, 3, 4, 5, 6, 7, 8, 9, 10, 11, 12].contains i)) mixed ?_
    replace hS := hS.drew
    refine tP (i := 0) hE rfl (by kernel_rfl) (Gives.fld hE rfl fl198_0) rfl hS hS fun a hE => ?_
    refine tT (i := 1) true rfl hE rfl (by kernel_rfl) (Gives.loadB hE 0 rfl rfl rfl ty3) rfl hS hS fun a hE => ?_
    refine tP (i := 2) hE rfl (by kernel_rfl) (Gives.fld hE rfl fl198_0) rfl hS hS fun a hE => ?_
    refine tT (i := 3) true rfl hE rfl (by kernel_rfl) (Gives.loadB hE 3 rfl rfl rfl ty3) rfl hS hS fun a hE => ?_
    refine tP (i := 5) hE rfl (by kernel_rfl) (Gives.fld hE rfl fl198_1) rfl hS hS fun a hE => ?_
    refine tT (i := 6) true rfl hE rfl (by kernel_rfl) (Gives.loadB hE 0 rfl rfl rfl ty3) rfl hS hS fun a hE => ?_
    refine tP (i := 7) hE rfl (by kernel_rfl) (Gives.fld hE rfl fl198_1) rfl hS hS fun a hE => ?_
    refine tT (i := 8) true rfl hE rfl (by kernel_rfl) (Gives.loadB hE 3 rfl rfl rfl ty3) rfl hS hS fun a hE => ?_
    refine Rg.one (i := 4) true true rfl (by kernel_rfl) (by kernel_rfl) (by kernel_rfl) ?_
    refine WL.fnq hE (CmpCompareint_ok hS  rfl (r := CmpCompareint x95.A x56.A)) (runs_plain rfl) bd42 rfl rfl rfl ?_
    clear hE hS; rintro e w ⟨rfl, hS⟩; refine ⟨_, rfl, ?_⟩; clear a; intro a hE
    refine WL.nil ?_
    refine ⟨⟨fun _ => hS, fun _ => hS⟩, ?_⟩
    refine Rg.one (i := 9) true true rfl (by kernel_rfl) (by kernel_rfl) (by kernel_rfl) ?_
    refine WL.fnq hE (CmpCompareint_ok hS  rfl (r := CmpCompareint x95.EndA x56.EndA)) (runs_plain rfl) bd42 rfl rfl rfl ?_
    clear hE hS; rintro e w ⟨rfl, hS⟩; refine ⟨_, rfl, ?_⟩; clear a; intro a hE
    refine WL.nil ?_
    refine ⟨⟨fun _ => hS, fun _ => hS⟩, ?_⟩
    refine Rg.one (i := 10) true true rfl (by kernel_rfl) (by kernel_rfl) (by kernel_rfl) ?_
    refine WL.lit hE hS (e := 3) (es := 1) (vs := [(0, vi (CmpCompareint x95.A x56.A)), (1, vi (CmpCompareint x95.EndA x56.EndA))]) (cs := [vi (CmpCompareint x95.A x56.A), vi (CmpCompareint x95.EndA x56.EndA)]) (runs_plain rfl) rfl (by kernel_rfl) rfl ?_; clear hE hS a w; intro b106 a w hE hS
    replace hS := hS.ptVec (es := 1) (m := 2) rfl (by decide)
    have h108 : Ev 1 (RI .i64) s62 [vi (CmpCompareint x95.A x56.A), vi (CmpCompareint x95.EndA x56.EndA)] [(CmpCompareint x95.A x56.A), (CmpCompareint x95.EndA x56.EndA)] := (Ev.cons (c1 := [vi (CmpCompareint x95.A x56.A)]) rfl rfl (Ev.cons (c1 := [vi (CmpCompareint x95.EndA x56.EndA)]) rfl rfl (Ev.nil)))
    have hF := hS.fixD RI.mono 0 rfl h108 (rfl); clear hS; obtain ⟨s109, hle110, hS, h111⟩ := hF
    replace h0_2 := Sl.mono RApiLink.mono hle110 h0_2
    replace h0_0 := Sl.mono RS.mono hle110 h0_0
    replace h0_1 := Sl.mono RApiSection.mono hle110 h0_1
    replace h0_3 := Sl.mono RApiSignal.mono hle110 h0_3
    replace h0_4 := Sl.mono RApiGate.mono hle110 h0_4
    refine WL.nil ?_
    refine ⟨⟨fun _ => (St.down hle110 hS), fun _ => (St.down hle110 hS)⟩, ?_⟩
    refine Rg.one (i := 11) true true rfl (by kernel_rfl) (by kernel_rfl) (by kernel_rfl) ?_
    refine WL.fnq hE (CmpOrint_ok hS h111 rfl (r := CmpOrint [(CmpCompareint x95.A x56.A), (CmpCompareint x95.EndA x56.EndA)])) (runs_plain rfl) bd41 rfl rfl rfl ?_
    clear hE hS; rintro e w ⟨rfl, hS⟩; refine ⟨_, rfl, ?_⟩; clear a; intro a hE
    refine WL.nil ?_
    refine ⟨⟨fun _ => (St.down hle110 hS), fun _ => (St.down hle110 hS)⟩, ?_⟩
    refine tP (i := 12) hE rfl (by kernel_rfl) (Gives.p hE rfl) rfl (St.down hle110 hS) (St.down hle110 hS) fun a hE => ?_
    refine Rg.done (by kernel_rfl) ?_
    subst hK105
    refine W.cond hE rfl (fun hc112 => ?_) (fun hc112 => ?_)
    ·replace hq89 := iteT hc112 hq89
     refine W.seq (W.region (vp hS hE rfl rfl fun a hE => WL.nil ?_))
     refine W.ret ?_
     subst hK93
     subst hK65
     rw [← Option.some.inj hq89] at hq53
     dsimp only at hq53
     rw [← Option.some.inj hq53] at hr
     dsimp only at hr
     refine finG (fn := Tryz.f114) (rs := [.tmp 2]) (vs := [_]) hE rfl ⟨rfl, trivial⟩ ?_
     obtain rfl := Option.some.inj hr
     replace hS := hS.tail
     replace hS := hS.tail
     replace hS := hS.tail
     replace hS := hS.tail
     replace hS := hS.tail
     replace hS := hS.tail
     exact ⟨rfl, (hS.down (Sg.Le.trans hle63 hle110))⟩
    replace hq89 := iteF hc112 hq89
    refine W.skip ?_
    replace hS := hS.tail
    subst hK93
    exact ⟨s109, hle110, Option.some.inj hq89, hE.pick _ ⟨rfl, rfl, rfl, rfl, rfl, rfl, rfl, trivial⟩, hS⟩
   replace hq89 := iteF hc94 hq89
   refine W.skip ?_
   subst hK93
   exact ⟨s62, (Sg.Le.refl _), Option.some.inj hq89, hE.pick _ ⟨rfl, rfl, rfl, rfl, rfl, rfl, rfl, trivial⟩, hS⟩
  clear hE hS a w; rintro a w ⟨s91, hle92, rfl, hE, hS⟩
  dsimp only at hq53
  replace h0_2 := Sl.mono RApiLink.mono hle92 h0_2
  replace h0_0 := Sl.mono RS.mono hle92 h0_0
  replace h0_1 := Sl.mono RApiSection.mono hle92 h0_1
  replace h0_3 := Sl.mono RApiSignal.mono hle92 h0_3
  replace h0_4 := Sl.mono RApiGate.mono hle92 h0_4
  refine W.seq ?_
  refine W.seq ?_
  obtain ⟨q114, hq113, hq53⟩ := bndS hq53
  refine W.cut (fun a w => ∃ (q117 : Bool), q117 = q114 ∧ Rep a 85 [(1, pp b51), (3, .map (some b52)), (6, pp b72), (7, pp b73), (11, .slice a0_2 x0.Links.length c0_2), (12, vi ((x0.Links).length : Int)), (13, vi ((k55 : Nat) : Int)), (79, .bool q117)] ∧ St w s91 (pc b73 #[vi x56.B, vi x56.EndB] 253 :: pc b72 #[vi x56.A, vi x56.EndA] 253 :: pc b70 (ApiLink.cells x56).toArray 198 :: mapC keyLineEnd.f Value.bool b52 q64 :: pc b51 #[.slice a0_0 x0.Stations.length c0_0, .slice a0_1 x0.Sections.length c0_1, .slice a0_2 x0.Links.length c0_2, .slice a0_3 x0.Signals.length c0_3, .slice a0_4 x0.Gates.length c0_4] 53 :: R)) ?_ ?_
  ·refine W.gen fun K118 hK118 => ?_
   refine W.region ?_
   refine vp hS hE rfl rfl fun a hE => ?_
   refine vP hS hE (Gives.loadBA hE 1 rfl rfl ty253) rfl fun a hE => ?_
   refine vP hS hE (Gives.mapGetS keyLineEnd hE 3 (k := (LineEnd.mk x56.A x56.EndA)) (z := false) rfl rfl rfl mp251 zm4) rfl fun a hE => ?_
   refine vp hS hE rfl rfl fun a hE => ?_
   rcases Bool.eq_false_or_eq_true ((mget q64 (LineEnd.mk x56.A x56.EndA)).getD false) with hg119 | hg119
   ·replace hq113 := iteT hg119 hq113
    refine nO hE rfl rfl rfl (by rw [hg119]; decide) rfl fun a hE => ?_
    refine nO hE rfl rfl rfl (by rw [hg119]; decide) rfl fun a hE => ?_
    refine nO hE rfl rfl rfl (by rw [hg119]; decide) rfl fun a hE => ?_
    refine vP hS hE (Gives.pickT hE rfl hg119 rfl) rfl fun a hE => WL.nil ?_
    subst hK118
    exact ⟨true, hq113, hE.pick _ ⟨rfl, rfl, rfl, rfl, rfl, rfl, rfl, rfl, trivial⟩, hS⟩
   replace hq113 := iteF hg119 hq113
   refine WL.vS hS hE (runs_if hE rfl rfl rfl hg119) (Gives.p hE rfl) rfl fun a hE => ?_
   refine WL.vS hS hE (runs_if hE rfl rfl rfl hg119) (Gives.loadBA hE 0 rfl rfl ty253) rfl fun a hE => ?_
   refine WL.vS hS hE (runs_if hE rfl rfl rfl hg119) (Gives.mapGetS keyLineEnd hE 3 (k := (LineEnd.mk x56.B x56.EndB)) (z := false) rfl rfl rfl mp251 zm4) rfl fun a hE => ?_
   refine vP hS hE (Gives.pickF hE rfl hg119 rfl) rfl fun a hE => WL.nil ?_
   subst hK118
   exact ⟨((mget q64 (LineEnd.mk x56.B x56.EndB)).getD false), hq113, hE.pick _ ⟨rfl, rfl, rfl, rfl, rfl, rfl, rfl, rfl, trivial⟩, hS⟩
  clear hE hS a w; rintro a w ⟨q117, rfl, hE, hS⟩
  refine W.cond hE rfl (fun hc120 => ?_) (fun hc120 => ?_)
  ·replace hq53 := iteT hc120 hq53
   refine W.seq (W.region (vp hS hE rfl rfl fun a hE => WL.nil ?_))
   refine W.ret ?_
   subst hK65
   rw [← Option.some.inj hq53] at hr
   dsimp only at hr
   refine finG (fn := Tryz.f114) (rs := [.tmp 2]) (vs := [_]) hE rfl ⟨rfl, trivial⟩ ?_
   obtain rfl := Option.some.inj hr
   replace hS := hS.tail
   replace hS := hS.tail
   replace hS := hS.tail
   replace hS := hS.tail
   replace hS := hS.tail
   exact ⟨rfl, (hS.down (Sg.Le.trans hle63 hle92))⟩
  replace hq53 := iteF hc120 hq53
  refine W.skip ?_
  refine W.gen fun K121 hK121 => ?_
  refine W.regionE (sel (fun w => St w s91 (pc b73 #[vi x56.B, vi x56.EndB] 253 :: pc b72 #[vi x56.A, vi x56.EndA] 253 :: pc b70 (ApiLink.cells x56).toArray 198 :: mapC keyLineEnd.f Value.bool b52 q64 :: pc b51 #[.slice a0_0 x0.Stations.length c0_0, .slice a0_1 x0.Sections.length c0_1, .slice a0_2 x0.Links.length c0_2, .slice a0_3 x0.Signals.length c0_3, .slice a0_4 x0.Gates.length c0_4] 53 :: R)) (fun w => St w s91 (pc b73 #[vi x56.B, vi x56.EndB] 253 :: pc b72 #[vi x56.A, vi x56.EndA] 253 :: pc b70 (ApiLink.cells x56).toArray 198 :: pc b51 #[.slice a0_0 x0.Stations.length c0_0, .slice a0_1 x0.Sections.length c0_1, .slice a0_2 x0.Links.length c0_2, .slice a0_3 x0.Signals.length c0_3, .slice a0_4 x0.Gates.length c0_4] 53 :: R))) (fun b i => cond b ([0, 1, 2, 3].contains i) ([0, 1, 2, 3, 4, 5].contains i)) mixed ?_
  replace hS := hS.drew
  refine tP (i := 0) hE rfl (by kernel_rfl) (Gives.p hE rfl) rfl hS (hS.dropAt 3) fun a hE => ?_
  refine tT (i := 1) true rfl hE rfl (by kernel_rfl) (Gives.loadBA hE 1 rfl rfl ty253) rfl hS (hS.dropAt 3) fun a hE => ?_
  refine tP (i := 2) hE rfl (by kernel_rfl) (Gives.p hE rfl) rfl hS (hS.dropAt 3) fun a hE => ?_
  have hT := tw_sel (A := fun w => St w s91 _) (B := fun w => St w s91 _) (w := _) (x := true) (y := true) (fun _ => hS) (fun _ => (hS.dropAt 3))
  have hF := hS; replace hS := (hS.dropAt 3)
  refine Rg.take (i := 3) false rfl hE rfl (by kernel_rfl) (runs_plain rfl) (Gives.loadBA hE 0 rfl rfl ty253) rfl hT fun a hE => ?_
  replace hS := hF; clear hF hT
  refine Rg.one (i := 4) false true rfl (by kernel_rfl) (by kernel_rfl) (by kernel_rfl) ?_
  refine WL.mapSetS keyLineEnd hE hS 3 (k := (LineEnd.mk x56.A x56.EndA)) (v := true) (.inl rfl) (runs_plain rfl) rfl rfl rfl rfl mp251 rfl ?_; clear hE hS a w; intro a w hE hS
  refine WL.nil ?_
  refine ⟨⟨fun h => absurd h (by decide), fun _ => (hS.dropAt 3)⟩, ?_⟩
  refine Rg.one (i := 5) false true rfl (by kernel_rfl) (by kernel_rfl) (by kernel_rfl) ?_
  refine WL.mapSetS keyLineEnd hE hS 3 (k := (LineEnd.mk x56.B x56.EndB)) (v := true) (.inl rfl) (runs_plain rfl) rfl rfl rfl rfl mp251 rfl ?_; clear hE hS a w; intro a w hE hS
  refine WL.nil ?_
  refine ⟨⟨fun h => absurd h (by decide), fun _ => (hS.dropAt 3)⟩, ?_⟩
  refine Rg.done (by kernel_rfl) ?_
  subst hK121
  refine W.region ?_
  refine vP hS hE (Gives.inc hE rfl (by have := h0_2.small; omega)) rfl fun a hE => ?_
  refine vp hS hE rfl rfl fun a hE => WL.nil ?_
  replace hS := hS.tail
  replace hS := hS.tail
  replace hS := hS.tail
  subst hK65
  exact ⟨rest57.length, Nat.lt_succ_self _, rest57, k55 + 1, (mput (mput q64 (LineEnd.mk x56.A x56.EndA) true) (LineEnd.mk x56.B x56.EndB) true), s91, rfl, hd58, (Sg.Le.trans hle63 hle92), hq53, hE.pick _ ⟨rfl, rfl, rfl, rfl, rfl, trivial⟩, hS⟩
 clear hE hS a w; rintro a w ⟨q64, s62, hle63, rfl, hE, hS⟩
 dsimp only at hr
 replace h0_0 := Sl.mono RS.mono hle63 h0_0
 replace h0_1 := Sl.mono RApiSection.mono hle63 h0_1
 replace h0_2 := Sl.mono RApiLink.mono hle63 h0_2
 replace h0_3 := Sl.mono RApiSignal.mono hle63 h0_3
 replace h0_4 := Sl.mono RApiGate.mono hle63 h0_4
 refine W.seq (W.region (vp hS hE rfl rfl fun a hE => WL.nil ?_))
 refine W.ret ?_
 refine finG (fn := Tryz.f114) (rs := [.tmp 2]) (vs := [_]) hE rfl ⟨rfl, trivial⟩ ?_
 obtain rfl := Option.some.inj hr
 replace hS := hS.tail
 replace hS := hS.tail
 exact ⟨rfl, (hS.down hle63)⟩
set_option maxHeartbeats 8000000 in
theorem Linejoined_ok  {w : World} {s : Sg} {R : List HP} {x0 : ApiNet} {a0_0 : Option Addr} {c0_0 : Nat} {a0_1 : Option Addr} {c0_1 : Nat} {a0_2 : Option Addr} {c0_2 : Nat} {a0_3 : Option Addr} {c0_3 : Nat} {a0_4 : Option Addr} {c0_4 : Nat} {x1 : LineEnd} (hS : St w s (R)) (_h0_0 : Sl 1 RS s a0_0 c0_0 x0.Stations) (_h0_1 : Sl 7 RApiSection s a0_1 c0_1 x0.Sections) (h0_2 : Sl 4 RApiLink s a0_2 c0_2 x0.Links) (_h0_3 : Sl 2 RApiSignal s a0_3 c0_3 x0.Signals) (_h0_4 : Sl 2 RApiGate s a0_4 c0_4 x0.Gates) {r : LineEnd × Bool} (hr : Linejoined x0 x1 = r) :
  Calls Tryz.prog 162 [.agg (List.toArray [.slice a0_0 x0.Stations.length c0_0, .slice a0_1 x0.Sections.length c0_1, .slice a0_2 x0.Links.length c0_2, .slice a0_3 x0.Signals.length c0_3, .slice a0_4 x0.Gates.length c0_4]), .agg (LineEnd.cells x1).toArray].toArray w (fun e w => ∃ (cs0 : List Value) (t : Sg), e = .returned (.tuple #[.agg cs0.toArray, .bool r.2]) ∧ s.Le t ∧ RLineEnd t cs0 r.1 ∧ St w t (R)) := by
 refine enter Tryz.func162 rfl rfl rfl fun a hE => ?_
 rw [Linejoined] at hr
 refine W.seq (W.region ?_)
 refine WL.box hE hS (runs_plain rfl) rfl rfl rfl ?_; clear hE hS a w; intro b51 a w hE hS
 refine WL.box hE hS (runs_plain rfl) rfl rfl rfl ?_; clear hE hS a w; intro b52 a w hE hS
 refine WL.alloc hE hS (runs_plain rfl) zr253 rfl ?_; clear hE hS a w; intro b53 a w hE hS
 refine vp hS hE rfl rfl fun a hE => WL.nil ?_
 refine W.seq ?_
 refine W.seq (W.region (vP hS hE (Gives.fld hE rfl fl53_2) rfl fun a hE => ?_))
 refine vP hS hE (Gives.loadB hE 2 rfl rfl rfl ty49) rfl fun a hE => ?_
 refine vP hS hE (Gives.len hE rfl sl49) rfl fun a hE => ?_
 refine vp hS hE rfl rfl fun a hE => WL.nil ?_
 obtain ⟨q55, hq54, hr⟩ := bndS hr
 refine W.cut (fun a w => ∃ (q65 : Int), ∃ (q66 : Int), (.next (q65, q66)) = q55 ∧ Rep a 53 [(4, pp b53)] ∧ St w s (pc b53 #[vi q65, vi q66] 253 :: pc b52 (LineEnd.cells x1).toArray 253 :: pc b51 #[.slice a0_0 x0.Stations.length c0_0, .slice a0_1 x0.Sections.length c0_1, .slice a0_2 x0.Links.length c0_2, .slice a0_3 x0.Signals.length c0_3, .slice a0_4 x0.Gates.length c0_4] 53 :: R)) ?_ ?_
 ·refine W.block ?_
  refine W.loop (fun m a w => ∃ (rest58 : List ApiLink) (k56 : Nat), ∃ (q65 : Int), ∃ (q66 : Int), rest58.length = m ∧ x0.Links.drop k56 = rest58 ∧ Linejoined.loop1 x1 rest58 q65 q66 = q55 ∧ Rep a 53 [(3, pp b52), (4, pp b53), (9, .slice a0_2 x0.Links.length c0_2), (10, vi ((x0.Links).length : Int)), (11, vi ((k56 : Nat) : Int))] ∧ St w s (pc b53 #[vi q65, vi q66] 253 :: pc b52 (LineEnd.cells x1).toArray 253 :: pc b51 #[.slice a0_0 x0.Stations.length c0_0, .slice a0_1 x0.Sections.length c0_1, .slice a0_2 x0.Links.length c0_2, .slice a0_3 x0.Signals.length c0_3, .slice a0_4 x0.Gates.length c0_4] 53 :: R)) (m := x0.Links.length) ⟨x0.Links, 0, 0, 0, rfl, rfl, hq54, hE.pick _ ⟨rfl, rfl, rfl, rfl, rfl, trivial⟩, hS⟩ ?_
  clear hE hS a w hq54; rintro m62 a w ⟨rest58, k56, q65, q66, rfl, hd59, hq54, hE, hS⟩
  refine W.gen fun K67 hK67 => ?_
  rcases rest58 with _ | ⟨x57, rest58⟩
  ·have hlt60 := drop_nil hd59
   refine W.seq (W.region (vp hS hE rfl rfl fun a hE => WL.nil ?_))
   refine W.seq ?_
   refine W.condF hE rfl (decide_eq_false (by omega)) ?_
   subst hK67
   refine W.exit rfl ?_
   exact ⟨q65, q66, hq54, hE.pick _ ⟨rfl, trivial⟩, hS⟩
  obtain ⟨hlt60, hx61, hd59⟩ := drop_cons hd59
  rw [Linejoined.loop1] at hq54
  refine W.seq (W.region (vp hS hE rfl rfl fun a hE => WL.nil ?_))
  refine W.seq ?_
  refine W.condT hE rfl (decide_eq_true (by omega)) ?_
  refine W.skip ?_
  refine W.seq ?_
  refine W.block ?_
  refine W.seq (W.region ?_)
  obtain ⟨cs68, hl69, hR70, hat71⟩ := h0_2.at hx61
  subst hR70
  refine vP hS hE (Gives.idx hE k56 rfl rfl sl49 rfl hlt60 (h0_2.aok hlt60)) rfl fun a hE => ?_
  refine vP hS hE (Gives.loadA hE rfl (fun w h => hat71 w _ h) ty198) rfl fun a hE => ?_
  refine WL.alloc hE hS (runs_plain rfl) zr198 rfl ?_; clear hE hS a w; intro b72 a w hE hS
  refine WL.storeI hE hS 0 rfl (ApiLink.cells x57) (runs_plain rfl) rfl rfl rfl ty198 rfl rfl rfl rfl ?_; clear hE hS a w; intro a w hE hS
  refine WL.nil ?_
  refine W.block ?_
  refine W.seq ?_
  obtain ⟨q74, hq73, hq54⟩ := bndS hq54
  refine W.cut (fun a w => ∃ (q77 : Bool), q77 = q74 ∧ Rep a 53 [(3, pp b52), (4, pp b53), (7, pp b72), (9, .slice a0_2 x0.Links.length c0_2), (10, vi ((x0.Links).length : Int)), (11, vi ((k56 : Nat) : Int)), (15, .bool q77)] ∧ St w s (pc b72 (ApiLink.cells x57).toArray 198 :: pc b53 #[vi q65, vi q66] 253 :: pc b52 (LineEnd.cells x1).toArray 253 :: pc b51 #[.slice a0_0 x0.Stations.length c0_0, .slice a0_1 x0.Sections.length c0_1, .slice a0_2 x0.Links.length c0_2, .slice a0_3 x0.Signals.length c0_3, .slice a0_4 x0.Gates.length c0_4] 53 :: R)) ?_ ?_
  ·refine W.gen fun K78 hK78 => ?_
   refine W.region ?_
   refine vP hS hE (Gives.fld hE rfl fl198_0) rfl fun a hE => ?_
   refine vP hS hE (Gives.loadB hE 0 rfl rfl rfl ty3) rfl fun a hE => ?_
   refine vP hS hE (Gives.fld hE rfl fl253_0) rfl fun a hE => ?_
   refine vP hS hE (Gives.loadB hE 2 rfl rfl rfl ty3) rfl fun a hE => ?_
   refine v2 hS hE rfl rfl rfl rfl fun a hE => ?_
   rcases Bool.eq_false_or_eq_true (x57.A == x1.section_) with hg79 | hg79
   ·replace hq73 := iteT hg79 hq73
    refine WL.vS hS hE (runs_if hE rfl rfl rfl hg79) (Gives.fld hE rfl fl198_1) rfl fun a hE => ?_
    refine WL.vS hS hE (runs_if hE rfl rfl rfl hg79) (Gives.loadB hE 0 rfl rfl rfl ty3) rfl fun a hE => ?_
    refine WL.vS hS hE (runs_if hE rfl rfl rfl hg79) (Gives.fld hE rfl fl253_1) rfl fun a hE => ?_
    refine WL.vS hS hE (runs_if hE rfl rfl rfl hg79) (Gives.loadB hE 2 rfl rfl rfl ty3) rfl fun a hE => ?_
    refine WL.vS hS hE (runs_if hE rfl rfl rfl hg79) (Gives.p hE rfl) rfl fun a hE => ?_
    refine vP hS hE (Gives.pickT hE rfl hg79 rfl) rfl fun a hE => ?_
    refine vp hS hE rfl rfl fun a hE => WL.nil ?_
    subst hK78
    exact ⟨(x57.EndA == x1.end_), hq73, hE.pick _ ⟨rfl, rfl, rfl, rfl, rfl, rfl, rfl, trivial⟩, hS⟩
   replace hq73 := iteF hg79 hq73
   refine nO hE rfl rfl rfl (by rw [hg79]; decide) rfl fun a hE => ?_
   refine nO hE rfl rfl rfl (by rw [hg79]; decide) rfl fun a hE => ?_
   refine nO hE rfl rfl rfl (by rw [hg79]; decide) rfl fun a hE => ?_
   refine nO hE rfl rfl rfl (by rw [hg79]; decide) rfl fun a hE => ?_
   refine nO hE rfl rfl rfl (by rw [hg79]; decide) rfl fun a hE => ?_
   refine vP hS hE (Gives.pickF hE rfl hg79 rfl) rfl fun a hE => ?_
   refine vp hS hE rfl rfl fun a hE => WL.nil ?_
   subst hK78
   exact ⟨false, hq73, hE.pick _ ⟨rfl, rfl, rfl, rfl, rfl, rfl, rfl, trivial⟩, hS⟩
  clear hE hS a w; rintro a w ⟨q77, rfl, hE, hS⟩
  refine W.cond hE rfl (fun hc80 => ?_) (fun hc80 => ?_)
  ·replace hq54 := iteT hc80 hq54
   refine W.seq (W.region (vP hS hE (Gives.fld hE rfl fl198_2) rfl fun a hE => ?_))
   refine vP hS hE (Gives.loadB hE 0 rfl rfl rfl ty3) rfl fun a hE => ?_
   refine vP hS hE (Gives.fld hE rfl fl198_3) rfl fun a hE => ?_
   refine vP hS hE (Gives.loadB hE 0 rfl rfl rfl ty3) rfl fun a hE => ?_
   refine vP hS hE (Gives.build hE (vs := [(0, vi x57.B), (1, vi x57.EndB)]) [vi x57.B, vi x57.EndB] rfl (by kernel_rfl)) rfl fun a hE => ?_
   refine WL.storeI hE hS 1 rfl [vi x57.B, vi x57.EndB] (runs_plain rfl) rfl rfl rfl ty253 rfl rfl rfl rfl ?_; clear hE hS a w; intro a w hE hS
   refine vp hS hE rfl rfl fun a hE => WL.nil ?_
   refine W.ret ?_
   subst hK67
   rw [← hq54] at hr
   dsimp only at hr
   refine finG (fn := Tryz.f162) (rs := [.cell 4 253, .tmp 5]) (vs := [_, _]) hE rfl ⟨⟨_, rfl, .inl ⟨_, rfl, hS.seesAt 1 rfl, ty253⟩⟩, rfl, trivial⟩ ?_
   subst hr
   replace hS := hS.tail
   replace hS := hS.tail
   replace hS := hS.tail
   replace hS := hS.tail
   exact ⟨_, s, rfl, (Sg.Le.refl _), rfl, hS⟩
  replace hq54 := iteF hc80 hq54
  refine W.seq ?_
  obtain ⟨q82, hq81, hq54⟩ := bndS hq54
  refine W.cut (fun a w => ∃ (q85 : Bool), q85 = q82 ∧ Rep a 53 [(3, pp b52), (4, pp b53), (7, pp b72), (9, .slice a0_2 x0.Links.length c0_2), (10, vi ((x0.Links).length : Int)), (11, vi ((k56 : Nat) : Int)), (33, .bool q85)] ∧ St w s (pc b72 (ApiLink.cells x57).toArray 198 :: pc b53 #[vi q65, vi q66] 253 :: pc b52 (LineEnd.cells x1).toArray 253 :: pc b51 #[.slice a0_0 x0.Stations.length c0_0, .slice a0_1 x0.Sections.length c0_1, .slice a0_2 x0.Links.length c0_2, .slice a0_3 x0.Signals.length c0_3, .slice a0_4 x0.Gates.length c0_4] 53 :: R)) ?_ ?_
  ·refine W.gen fun K86 hK86 => ?_
   refine W.region ?_
   refine vP hS hE (Gives.fld hE rfl fl198_2) rfl fun a hE => ?_
   refine vP hS hE (Gives.loadB hE 0 rfl rfl rfl ty3) rfl fun a hE => ?_
   refine vP hS hE (Gives.fld hE rfl fl253_0) rfl fun a hE => ?_
   refine vP hS hE (Gives.loadB hE 2 rfl rfl rfl ty3) rfl fun a hE => ?_
   refine v2 hS hE rfl rfl rfl rfl fun a hE => ?_
   rcases Bool.eq_false_or_eq_true (x57.B == x1.section_) with hg87 | hg87
   ·replace hq81 := iteT hg87 hq81
    refine WL.vS hS hE (runs_if hE rfl rfl rfl hg87) (Gives.fld hE rfl fl198_3) rfl fun a hE => ?_
    refine WL.vS hS hE (runs_if hE rfl rfl rfl hg87) (Gives.loadB hE 0 rfl rfl rfl ty3) rfl fun a hE => ?_
    refine WL.vS hS hE (runs_if hE rfl rfl rfl hg87) (Gives.fld hE rfl fl253_1) rfl fun a hE => ?_
    refine WL.vS hS hE (runs_if hE rfl rfl rfl hg87) (Gives.loadB hE 2 rfl rfl rfl ty3) rfl fun a hE => ?_
    refine WL.vS hS hE (runs_if hE rfl rfl rfl hg87) (Gives.p hE rfl) rfl fun a hE => ?_
    refine vP hS hE (Gives.pickT hE rfl hg87 rfl) rfl fun a hE => ?_
    refine vp hS hE rfl rfl fun a hE => WL.nil ?_
    subst hK86
    exact ⟨(x57.EndB == x1.end_), hq81, hE.pick _ ⟨rfl, rfl, rfl, rfl, rfl, rfl, rfl, trivial⟩, hS⟩
   replace hq81 := iteF hg87 hq81
   refine nO hE rfl rfl rfl (by rw [hg87]; decide) rfl fun a hE => ?_
   refine nO hE rfl rfl rfl (by rw [hg87]; decide) rfl fun a hE => ?_
   refine nO hE rfl rfl rfl (by rw [hg87]; decide) rfl fun a hE => ?_
   refine nO hE rfl rfl rfl (by rw [hg87]; decide) rfl fun a hE => ?_
   refine nO hE rfl rfl rfl (by rw [hg87]; decide) rfl fun a hE => ?_
   refine vP hS hE (Gives.pickF hE rfl hg87 rfl) rfl fun a hE => ?_
   refine vp hS hE rfl rfl fun a hE => WL.nil ?_
   subst hK86
   exact ⟨false, hq81, hE.pick _ ⟨rfl, rfl, rfl, rfl, rfl, rfl, rfl, trivial⟩, hS⟩
  clear hE hS a w; rintro a w ⟨q85, rfl, hE, hS⟩
  refine W.cond hE rfl (fun hc88 => ?_) (fun hc88 => ?_)
  ·replace hq54 := iteT hc88 hq54
   refine W.seq (W.region (vP hS hE (Gives.fld hE rfl fl198_0) rfl fun a hE => ?_))
   refine vP hS hE (Gives.loadB hE 0 rfl rfl rfl ty3) rfl fun a hE => ?_
   refine vP hS hE (Gives.fld hE rfl fl198_1) rfl fun a hE => ?_
   refine vP hS hE (Gives.loadB hE 0 rfl rfl rfl ty3) rfl fun a hE => ?_
   refine vP hS hE (Gives.build hE (vs := [(0, vi x57.A), (1, vi x57.EndA)]) [vi x57.A, vi x57.EndA] rfl (by kernel_rfl)) rfl fun a hE => ?_
   refine WL.storeI hE hS 1 rfl [vi x57.A, vi x57.EndA] (runs_plain rfl) rfl rfl rfl ty253 rfl rfl rfl rfl ?_; clear hE hS a w; intro a w hE hS
   refine vp hS hE rfl rfl fun a hE => WL.nil ?_
   refine W.ret ?_
   subst hK67
   rw [← hq54] at hr
   dsimp only at hr
   refine finG (fn := Tryz.f162) (rs := [.cell 4 253, .tmp 5]) (vs := [_, _]) hE rfl ⟨⟨_, rfl, .inl ⟨_, rfl, hS.seesAt 1 rfl, ty253⟩⟩, rfl, trivial⟩ ?_
   subst hr
   replace hS := hS.tail
   replace hS := hS.tail
   replace hS := hS.tail
   replace hS := hS.tail
   exact ⟨_, s, rfl, (Sg.Le.refl _), rfl, hS⟩
  replace hq54 := iteF hc88 hq54
  refine W.skip ?_
  refine W.region ?_
  refine vP hS hE (Gives.inc hE rfl (by have := h0_2.small; omega)) rfl fun a hE => ?_
  refine vp hS hE rfl rfl fun a hE => WL.nil ?_
  replace hS := hS.tail
  subst hK67
  exact ⟨rest58.length, Nat.lt_succ_self _, rest58, k56 + 1, q65, q66, rfl, hd59, hq54, hE.pick _ ⟨rfl, rfl, rfl, rfl, rfl, trivial⟩, hS⟩
 clear hE hS a w; rintro a w ⟨q65, q66, rfl, hE, hS⟩
 dsimp only at hr
 refine W.seq (W.region (vP hS hE (Gives.build hE (vs := []) [vi 0, vi 0] rfl (by kernel_rfl)) rfl fun a hE => ?_))
 refine WL.storeI hE hS 0 rfl [vi 0, vi 0] (runs_plain rfl) rfl rfl rfl ty253 rfl rfl rfl rfl ?_; clear hE hS a w; intro a w hE hS
 refine vp hS hE rfl rfl fun a hE => WL.nil ?_
 refine W.ret ?_
 refine finG (fn := Tryz.f162) (rs := [.cell 4 253, .tmp 5]) (vs := [_, _]) hE rfl ⟨⟨_, rfl, .inl ⟨_, rfl, hS.seesAt 0 rfl, ty253⟩⟩, rfl, trivial⟩ ?_
 subst hr
 replace hS := hS.tail
 replace hS := hS.tail
 replace hS := hS.tail
 exact ⟨_, s, rfl, (Sg.Le.refl _), rfl, hS⟩
set_option maxHeartbeats 8000000 in
theorem LinecheckSignals_ok  {w : World} {s : Sg} {R : List HP} {x0 : ApiNet} {a0_0 : Option Addr} {c0_0 : Nat} {a0_1 : Option Addr} {c0_1 : Nat} {a0_2 : Option Addr} {c0_2 : Nat} {a0_3 : Option Addr} {c0_3 : Nat} {a0_4 : Option Addr} {c0_4 : Nat} (hS : St w s (R)) (h0_0 : Sl 1 RS s a0_0 c0_0 x0.Stations) (h0_1 : Sl 7 RApiSection s a0_1 c0_1 x0.Sections) (h0_2 : Sl 4 RApiLink s a0_2 c0_2 x0.Links) (h0_3 : Sl 2 RApiSignal s a0_3 c0_3 x0.Signals) (h0_4 : Sl 2 RApiGate s a0_4 c0_4 x0.Gates) {r : Int} (hr : LinecheckSignals x0 = some r) :
  Calls Tryz.prog 115 [.agg (List.toArray [.slice a0_0 x0.Stations.length c0_0, .slice a0_1 x0.Sections.length c0_1, .slice a0_2 x0.Links.length c0_2, .slice a0_3 x0.Signals.length c0_3, .slice a0_4 x0.Gates.length c0_4])].toArray w (fun e w => e = .returned (vi r) ∧ St w s (R)) := by
 refine enter Tryz.func115 rfl rfl rfl fun a hE => ?_
 rw [LinecheckSignals] at hr
 refine W.seq (W.region ?_)
 refine WL.box hE hS (runs_plain rfl) rfl rfl rfl ?_; clear hE hS a w; intro b51 a w hE hS
 refine vp hS hE rfl rfl fun a hE => WL.nil ?_
 refine W.seq ?_
 refine W.seq (W.region (vP hS hE (Gives.fld hE rfl fl53_3) rfl fun a hE => ?_))
 refine vP hS hE (Gives.loadB hE 0 rfl rfl rfl ty50) rfl fun a hE => ?_
 refine vP hS hE (Gives.len hE rfl sl50) rfl fun a hE => ?_
 refine vp hS hE rfl rfl fun a hE => WL.nil ?_
 obtain ⟨q53, hq52, hr⟩ := bindS hr
 refine W.cut (fun a w => ∃ (s61 : Sg), s.Le s61 ∧ (.next ()) = q53 ∧ Rep a 66 [] ∧ St w s61 (pc b51 #[.slice a0_0 x0.Stations.length c0_0, .slice a0_1 x0.Sections.length c0_1, .slice a0_2 x0.Links.length c0_2, .slice a0_3 x0.Signals.length c0_3, .slice a0_4 x0.Gates.length c0_4] 53 :: R)) ?_ ?_
 ·refine W.block ?_
  refine W.loop (fun m a w => ∃ (rest56 : List ApiSignal) (k54 : Nat), ∃ (s61 : Sg), rest56.length = m ∧ x0.Signals.drop k54 = rest56 ∧ s.Le s61 ∧ LinecheckSignals.loop1 x0 rest56 k54 = some q53 ∧ Rep a 66 [(1, pp b51), (10, .slice a0_3 x0.Signals.length c0_3), (11, vi ((x0.Signals).length : Int)), (12, vi ((k54 : Nat) : Int))] ∧ St w s61 (pc b51 #[.slice a0_0 x0.Stations.length c0_0, .slice a0_1 x0.Sections.length c0_1, .slice a0_2 x0.Links.length c0_2, .slice a0_3 x0.Signals.length c0_3, .slice a0_4 x0.Gates.length c0_4] 53 :: R)) (m := x0.Signals.length) ⟨x0.Signals, 0, s, rfl, rfl, (Sg.Le.refl _), hq52, hE.pick _ ⟨rfl, rfl, rfl, rfl, trivial⟩, hS⟩ ?_
  clear hE hS a w hq52; rintro m60 a w ⟨rest56, k54, s61, rfl, hd57, hle62, hq52, hE, hS⟩
  refine W.gen fun K63 hK63 => ?_
  replace h0_0 := Sl.mono RS.mono hle62 h0_0
  replace h0_1 := Sl.mono RApiSection.mono hle62 h0_1
  replace h0_2 := Sl.mono RApiLink.mono hle62 h0_2
  replace h0_3 := Sl.mono RApiSignal.mono hle62 h0_3
  replace h0_4 := Sl.mono RApiGate.mono hle62 h0_4
  rcases rest56 with _ | ⟨x55, rest56⟩
  ·have hlt58 := drop_nil hd57
   refine W.seq (W.region (vp hS hE rfl rfl fun a hE => WL.nil ?_))
   refine W.seq ?_
   refine W.condF hE rfl (decide_eq_false (by omega)) ?_
   subst hK63
   refine W.exit rfl ?_
   exact ⟨s61, hle62, Option.some.inj hq52, hE.pick _ trivial, hS⟩
  obtain ⟨hlt58, hx59, hd57⟩ := drop_cons hd57
  rw [LinecheckSignals.loop1] at hq52
  refine W.seq (W.region (vp hS hE rfl rfl fun a hE => WL.nil ?_))
  refine W.seq ?_
  refine W.condT hE rfl (decide_eq_true (by omega)) ?_
  refine W.skip ?_
  refine W.seq ?_
  refine W.block ?_
  refine W.seq (W.region (vp hS hE rfl rfl fun a hE => ?_))
  obtain ⟨cs64, hl65, hR66, hat67⟩ := h0_3.at hx59
  subst hR66
  refine vP hS hE (Gives.idx hE k54 rfl rfl sl50 rfl hlt58 (h0_3.aok hlt58)) rfl fun a hE => ?_
  refine vP hS hE (Gives.loadA hE rfl (fun w h => hat67 w _ h) ty203) rfl fun a hE => ?_
  refine WL.alloc hE hS (runs_plain rfl) zr203 rfl ?_; clear hE hS a w; intro b68 a w hE hS
  refine vp hS hE rfl rfl fun a hE => ?_
  refine WL.storeI hE hS 0 rfl (ApiSignal.cells x55) (runs_plain rfl) rfl rfl rfl ty203 rfl rfl rfl rfl ?_; clear hE hS a w; intro a w hE hS
  refine WL.nil ?_
  refine W.seq (W.region (vP hS hE (Gives.fld hE rfl fl203_0) rfl fun a hE => ?_))
  refine vP hS hE (Gives.loadB hE 0 rfl rfl rfl ty3) rfl fun a hE => ?_
  refine vP hS hE (Gives.fld hE rfl fl203_1) rfl fun a hE => ?_
  refine vP hS hE (Gives.loadB hE 0 rfl rfl rfl ty3) rfl fun a hE => ?_
  refine vP hS hE (Gives.build hE (vs := [(0, vi x55.Section), (1, vi x55.End)]) [vi x55.Section, vi x55.End] rfl (by kernel_rfl)) rfl fun a hE => ?_
  refine WL.alloc hE hS (runs_plain rfl) zr253 rfl ?_; clear hE hS a w; intro b69 a w hE hS
  refine WL.storeI hE hS 0 rfl [vi x55.Section, vi x55.End] (runs_plain rfl) rfl rfl rfl ty253 rfl rfl rfl rfl ?_; clear hE hS a w; intro a w hE hS
  refine WL.nil ?_
  refine W.seq ?_
  refine W.seq (W.region (vP hS hE (Gives.loadBA hE 2 rfl rfl ty53) rfl fun a hE => ?_))
  refine vP hS hE (Gives.loadBA hE 0 rfl rfl ty253) rfl fun a hE => ?_
  obtain ⟨q70, hq71, hq52⟩ := bindS hq52
  have hc_ := Linehas_ok hS h0_0 h0_1 h0_2 h0_3 h0_4 hq71
  refine WL.fnq hE (hc_) (runs_plain rfl) bd161 rfl rfl rfl ?_
  clear hE hS hc_; rintro e w ⟨rfl, hS⟩; refine ⟨_, rfl, ?_⟩; clear a; intro a hE
  refine vp hS hE rfl rfl fun a hE => WL.nil ?_
  refine W.cond hE rfl (fun hc72 => ?_) (fun hc72 => ?_)
  ·replace hq52 := iteT hc72 hq52
   refine W.seq (W.region (vp hS hE rfl rfl fun a hE => WL.nil ?_))
   refine W.ret ?_
   subst hK63
   rw [← Option.some.inj hq52] at hr
   dsimp only at hr
   refine finG (fn := Tryz.f115) (rs := [.tmp 2]) (vs := [_]) hE rfl ⟨rfl, trivial⟩ ?_
   obtain rfl := Option.some.inj hr
   replace hS := hS.tail
   replace hS := hS.tail
   replace hS := hS.tail
   exact ⟨rfl, (hS.down hle62)⟩
  replace hq52 := iteF hc72 hq52
  refine W.skip ?_
  refine W.seq ?_
  refine W.seq (W.region (vP hS hE (Gives.loadBA hE 2 rfl rfl ty53) rfl fun a hE => ?_))
  refine vP hS hE (Gives.loadBA hE 0 rfl rfl ty253) rfl fun a hE => ?_
  obtain ⟨q73, hq74, hq52⟩ := bndS hq52
  have hc_ := Linejoined_ok hS h0_0 h0_1 h0_2 h0_3 h0_4 hq74
  refine WL.fnq hE (hc_) (runs_plain rfl) bd162 rfl rfl rfl ?_
  clear hE hS hc_; rintro e w ⟨cs75, s77, rfl, hle78, h76, hS⟩; refine ⟨_, rfl, ?_⟩; clear a; intro a hE
  replace h0_3 := Sl.mono RApiSignal.mono hle78 h0_3
  replace h0_0 := Sl.mono RS.mono hle78 h0_0
  replace h0_1 := Sl.mono RApiSection.mono hle78 h0_1
  replace h0_2 := Sl.mono RApiLink.mono hle78 h0_2
  replace h0_4 := Sl.mono RApiGate.mono hle78 h0_4
  subst h76
  refine v2 hS hE rfl rfl rfl rfl fun a hE => ?_
  refine vp hS hE rfl rfl fun a hE => ?_
  refine WL.alloc hE hS (runs_plain rfl) zr253 rfl ?_; clear hE hS a w; intro b79 a w hE hS
  refine WL.storeI hE hS 0 rfl (LineEnd.cells q73.1) (runs_plain rfl) rfl rfl rfl ty253 rfl rfl rfl rfl ?_; clear hE hS a w; intro a w hE hS
  refine vp hS hE rfl rfl fun a hE => WL.nil ?_
  refine W.seq ?_
  obtain ⟨q81, hq80, hq52⟩ := bindS hq52
  refine W.cut (fun a w => ∃ (q84 : Bool), q84 = q81 ∧ Rep a 66 [(1, pp b51), (3, vi ((k54 : Nat) : Int)), (4, pp b68), (10, .slice a0_3 x0.Signals.length c0_3), (11, vi ((x0.Signals).length : Int)), (12, vi ((k54 : Nat) : Int)), (43, .bool q84)] ∧ St w s77 (pc b79 (LineEnd.cells q73.1).toArray 253 :: pc b69 #[vi x55.Section, vi x55.End] 253 :: pc b68 (ApiSignal.cells x55).toArray 203 :: pc b51 #[.slice a0_0 x0.Stations.length c0_0, .slice a0_1 x0.Sections.length c0_1, .slice a0_2 x0.Links.length c0_2, .slice a0_3 x0.Signals.length c0_3, .slice a0_4 x0.Gates.length c0_4] 53 :: R)) ?_ ?_
  ·refine W.gen fun K85 hK85 => ?_
   refine W.region ?_
   refine v2 hS hE rfl rfl rfl rfl fun a hE => ?_
   refine vp hS hE rfl rfl fun a hE => ?_
   rcases Bool.eq_false_or_eq_true !q73.2 with hg86 | hg86
   ·replace hq80 := iteT hg86 hq80
    refine nO hE rfl rfl rfl (by rw [hg86]; decide) rfl fun a hE => ?_
    refine nO hE rfl rfl rfl (by rw [hg86]; decide) rfl fun a hE => ?_
    refine nO hE rfl rfl rfl (by rw [hg86]; decide) rfl fun a hE => ?_
    refine nO hE rfl rfl rfl (by rw [hg86]; decide) rfl fun a hE => ?_
    refine nO hE rfl rfl rfl (by rw [hg86]; decide) rfl fun a hE => ?_
    refine nO hE rfl rfl rfl (by rw [hg86]; decide) rfl fun a hE => ?_
    refine nO hE rfl rfl rfl (by rw [hg86]; decide) rfl fun a hE => ?_
    refine nO hE rfl rfl rfl (by rw [hg86]; decide) rfl fun a hE => ?_
    refine vP hS hE (Gives.pickT hE rfl hg86 rfl) rfl fun a hE => WL.nil ?_
    subst hK85
    exact ⟨true, Option.some.inj hq80, hE.pick _ ⟨rfl, rfl, rfl, rfl, rfl, rfl, rfl, trivial⟩, hS⟩
   replace hq80 := iteF hg86 hq80
   refine WL.vS hS hE (runs_if hE rfl rfl rfl hg86) (Gives.fld hE rfl fl53_1) rfl fun a hE => ?_
   refine WL.vS hS hE (runs_if hE rfl rfl rfl hg86) (Gives.loadB hE 3 rfl rfl rfl ty48) rfl fun a hE => ?_
   refine WL.vS hS hE (runs_if hE rfl rfl rfl hg86) (Gives.fld hE rfl fl203_0) rfl fun a hE => ?_
   refine WL.vS hS hE (runs_if hE rfl rfl rfl hg86) (Gives.loadB hE 2 rfl rfl rfl ty3) rfl fun a hE => ?_
   obtain ⟨x87, hx88, hq80⟩ := bindS hq80
   obtain ⟨hi89, hlt90, hy91⟩ := gx_some hx88
   obtain ⟨cs92, hl93, hR94, hat95⟩ := h0_1.at hy91
   subst hR94
   refine WL.vS hS hE (runs_if hE rfl rfl rfl hg86) (Gives.idx hE (x55.Section).toNat rfl rfl sl48 hi89 hlt90 (h0_1.aok hlt90)) rfl fun a hE => ?_
   refine WL.vS hS hE (runs_if hE rfl rfl rfl hg86) (Gives.fld hE rfl fl151_0) rfl fun a hE => ?_
   refine WL.vS hS hE (runs_if hE rfl rfl rfl hg86) (Gives.load1 hE rfl (fun w h => (hat95 w _ h).one rfl) ty3) rfl fun a hE => ?_
   refine WL.vS hS hE (runs_if hE rfl rfl rfl hg86) (Gives.p hE rfl) rfl fun a hE => ?_
   refine vP hS hE (Gives.pickF hE rfl hg86 rfl) rfl fun a hE => WL.nil ?_
   subst hK85
   exact ⟨(x87.Kind != 1), Option.some.inj hq80, hE.pick _ ⟨rfl, rfl, rfl, rfl, rfl, rfl, rfl, trivial⟩, hS⟩
  clear hE hS a w; rintro a w ⟨q84, rfl, hE, hS⟩
  refine W.cond hE rfl (fun hc96 => ?_) (fun hc96 => ?_)
  ·replace hq52 := iteT hc96 hq52
   refine W.seq (W.region (vp hS hE rfl rfl fun a hE => WL.nil ?_))
   refine W.ret ?_
   subst hK63
   rw [← Option.some.inj hq52] at hr
   dsimp only at hr
   refine finG (fn := Tryz.f115) (rs := [.tmp 2]) (vs := [_]) hE rfl ⟨rfl, trivial⟩ ?_
   obtain rfl := Option.some.inj hr
   replace hS := hS.tail
   replace hS := hS.tail
   replace hS := hS.tail
   replace hS := hS.tail
   exact ⟨rfl, (hS.down (Sg.Le.trans hle62 hle78))⟩
  replace hq52 := iteF hc96 hq52
  refine W.skip ?_
  refine W.seq (W.region (v2 hS hE rfl rfl rfl rfl fun a hE => WL.nil ?_))
  obtain ⟨q98, hq97, hq52⟩ := bindS hq52
  refine W.cut (fun a w => ∃ (s99 : Sg), s77.Le s99 ∧ .next () = q98 ∧ Rep a 66 [(1, pp b51), (10, .slice a0_3 x0.Signals.length c0_3), (11, vi ((x0.Signals).length : Int)), (12, vi ((k54 : Nat) : Int))] ∧ St w s99 (pc b79 (LineEnd.cells q73.1).toArray 253 :: pc b69 #[vi x55.Section, vi x55.End] 253 :: pc b68 (ApiSignal.cells x55).toArray 203 :: pc b51 #[.slice a0_0 x0.Stations.length c0_0, .slice a0_1 x0.Sections.length c0_1, .slice a0_2 x0.Links.length c0_2, .slice a0_3 x0.Signals.length c0_3, .slice a0_4 x0.Gates.length c0_4] 53 :: R)) ?_ ?_
  ·refine W.gen fun K101 hK101 => ?_
   refine W.cond hE rfl (fun hc102 => ?_) (fun hc102 => ?_)
   ·replace hq97 := iteT hc102 hq97
    refine W.seq (W.region (vP hS hE (Gives.fld hE rfl fl53_3) rfl fun a hE => ?_))
    refine vP hS hE (Gives.loadB hE 3 rfl rfl rfl ty50) rfl fun a hE => ?_
    refine v2 hS hE rfl rfl rfl rfl fun a hE => ?_
    obtain ⟨x103, hx104, hq97⟩ := bindS hq97
    obtain ⟨hi105, hlt106, hy107⟩ := gx_some hx104
    obtain ⟨cs108, hl109, hR110, hat111⟩ := h0_3.at hy107
    subst hR110
    refine vP hS hE (Gives.idx hE (w64 (((k54 : Nat) : Int) - 1)).toNat rfl rfl sl50 hi105 hlt106 (h0_3.aok hlt106)) rfl fun a hE => ?_
    refine vP hS hE (Gives.loadA hE rfl (fun w h => hat111 w _ h) ty203) rfl fun a hE => ?_
    refine WL.alloc hE hS (runs_plain rfl) zr203 rfl ?_; clear hE hS a w; intro b112 a w hE hS
    refine WL.storeI hE hS 0 rfl (ApiSignal.cells x103) (runs_plain rfl) rfl rfl rfl ty203 rfl rfl rfl rfl ?_; clear hE hS a w; intro a w hE hS
    refine WL.nil ?_
    refine W.seq ?_
    refine W.gen fun K113 hK113 => ?_
    refine W.regionE (dup (fun w => St w s77 (pc b112 (ApiSignal.cells x103).toArray 203 :: pc b79 (LineEnd.cells q73.1).toArray 253 :: pc b69 #[vi x55.Section, vi x55.End] 253 :: pc b68 (ApiSignal.cells x55).toArray 203 :: pc b51 #[.slice a0_0 x0.Stations.length c0_0, .slice a0_1 x0.Sections.length c0_1, .slice a0_2 x0.Links.length c0_2, .slice a0_3 x0.Signals.length c0_3, .slice a0_4 x0.Gates.length c0_4] 53 :: R))) (fun b i => cond b ([0, 1, 2, 3, 4, 5, 6, 7, 8, 9, 10, 11, 12].contains i) ([0, 1, 2, 3, 4, 5, 6, 7, 8, 9, 10, 11, 12].contains i)) mixed ?_
    replace hS := hS.drew
    refine tP (i := 0) hE rfl (by kernel_rfl) (Gives.fld hE rfl fl203_0) rfl hS hS fun a hE => ?_
    refine tT (i := 1) true rfl hE rfl (by kernel_rfl) (Gives.loadB hE 0 rfl rfl rfl ty3) rfl hS hS fun a hE => ?_
    refine tP (i := 2) hE rfl (by kernel_rfl) (Gives.fld hE rfl fl203_0) rfl hS hS fun a hE => ?_
    refine tT (i := 3) true rfl hE rfl (by kernel_rfl) (Gives.loadB hE 3 rfl rfl rfl ty3) rfl hS hS fun a hE => ?_
    refine tP (i := 5) hE rfl (by kernel_rfl) (Gives.fld hE rfl fl203_1) rfl hS hS fun a hE => ?_
    refine tT (i := 6) true rfl hE rfl (by kernel_rfl) (Gives.loadB hE 0 rfl rfl rfl ty3) rfl hS hS fun a hE => ?_
    refine tP (i := 7) hE rfl (by kernel_rfl) (Gives.fld hE rfl fl203_1) rfl hS hS fun a hE => ?_
    refine tT (i := 8) true rfl hE rfl (by kernel_rfl) (Gives.loadB hE 3 rfl rfl rfl ty3) rfl hS hS fun a hE => ?_
    refine Rg.one (i := 4) true true rfl (by kernel_rfl) (by kernel_rfl) (by kernel_rfl) ?_
    refine WL.fnq hE (CmpCompareint_ok hS  rfl (r := CmpCompareint x103.Section x55.Section)) (runs_plain rfl) bd42 rfl rfl rfl ?_
    clear hE hS; rintro e w ⟨rfl, hS⟩; refine ⟨_, rfl, ?_⟩; clear a; intro a hE
    refine WL.nil ?_
    refine ⟨⟨fun _ => hS, fun _ => hS⟩, ?_⟩
    refine Rg.one (i := 9) true true rfl (by kernel_rfl) (by kernel_rfl) (by kernel_rfl) ?_
    refine WL.fnq hE (CmpCompareint_ok hS  rfl (r := CmpCompareint x103.End x55.End)) (runs_plain rfl) bd42 rfl rfl rfl ?_
    clear hE hS; rintro e w ⟨rfl, hS⟩; refine ⟨_, rfl, ?_⟩; clear a; intro a hE
    refine WL.nil ?_
    refine ⟨⟨fun _ => hS, fun _ => hS⟩, ?_⟩
    refine Rg.one (i := 10) true true rfl (by kernel_rfl) (by kernel_rfl) (by kernel_rfl) ?_
    refine WL.lit hE hS (e := 3) (es := 1) (vs := [(0, vi (CmpCompareint x103.Section x55.Section)), (1, vi (CmpCompareint x103.End x55.End))]) (cs := [vi (CmpCompareint x103.Section x55.Section), vi (CmpCompareint x103.End x55.End)]) (runs_plain rfl) rfl (by kernel_rfl) rfl ?_; clear hE hS a w; intro b114 a w hE hS
    replace hS := hS.ptVec (es := 1) (m := 2) rfl (by decide)
    have h116 : Ev 1 (RI .i64) s77 [vi (CmpCompareint x103.Section x55.Section), vi (CmpCompareint x103.End x55.End)] [(CmpCompareint x103.Section x55.Section), (CmpCompareint x103.End x55.End)] := (Ev.cons (c1 := [vi (CmpCompareint x103.Section x55.Section)]) rfl rfl (Ev.cons (c1 := [vi (CmpCompareint x103.End x55.End)]) rfl rfl (Ev.nil)))
    have hF := hS.fixD RI.mono 0 rfl h116 (rfl); clear hS; obtain ⟨s117, hle118, hS, h119⟩ := hF
    replace h0_3 := Sl.mono RApiSignal.mono hle118 h0_3
    replace h0_0 := Sl.mono RS.mono hle118 h0_0
    replace h0_1 := Sl.mono RApiSection.mono hle118 h0_1
    replace h0_2 := Sl.mono RApiLink.mono hle118 h0_2
    replace h0_4 := Sl.mono RApiGate.mono hle118 h0_4
    refine WL.nil ?_
    refine ⟨⟨fun _ => (St.down hle118 hS), fun _ => (St.down hle118 hS)⟩, ?_⟩
    refine Rg.one (i := 11) true true rfl (by kernel_rfl) (by kernel_rfl) (by kernel_rfl) ?_
    refine WL.fnq hE (CmpOrint_ok hS h119 rfl (r := CmpOrint [(CmpCompareint x103.Section x55.Section), (CmpCompareint x103.End x55.End)])) (runs_plain rfl) bd41 rfl rfl rfl ?_
    clear hE hS; rintro e w ⟨rfl, hS⟩; refine ⟨_, rfl, ?_⟩; clear a; intro a hE
    refine WL.nil ?_
    refine ⟨⟨fun _ => (St.down hle118 hS), fun _ => (St.down hle118 hS)⟩, ?_⟩
    refine tP (i := 12) hE rfl (by kernel_rfl) (Gives.p hE rfl) rfl (St.down hle118 hS) (St.down hle118 hS) fun a hE => ?_
    refine Rg.done (by kernel_rfl) ?_
    subst hK113
    refine W.cond hE rfl (fun hc120 => ?_) (fun hc120 => ?_)
    ·replace hq97 := iteT hc120 hq97
     refine W.seq (W.region (vp hS hE rfl rfl fun a hE => WL.nil ?_))
     refine W.ret ?_
     subst hK101
     subst hK63
     rw [← Option.some.inj hq97] at hq52
     dsimp only at hq52
     rw [← Option.some.inj hq52] at hr
     dsimp only at hr
     refine finG (fn := Tryz.f115) (rs := [.tmp 2]) (vs := [_]) hE rfl ⟨rfl, trivial⟩ ?_
     obtain rfl := Option.some.inj hr
     replace hS := hS.tail
     replace hS := hS.tail
     replace hS := hS.tail
     replace hS := hS.tail
     replace hS := hS.tail
     exact ⟨rfl, (hS.down (Sg.Le.trans (Sg.Le.trans hle62 hle78) hle118))⟩
    replace hq97 := iteF hc120 hq97
    refine W.skip ?_
    replace hS := hS.tail
    subst hK101
    exact ⟨s117, hle118, Option.some.inj hq97, hE.pick _ ⟨rfl, rfl, rfl, rfl, trivial⟩, hS⟩
   replace hq97 := iteF hc102 hq97
   refine W.skip ?_
   subst hK101
   exact ⟨s77, (Sg.Le.refl _), Option.some.inj hq97, hE.pick _ ⟨rfl, rfl, rfl, rfl, trivial⟩, hS⟩
  clear hE hS a w; rintro a w ⟨s99, hle100, rfl, hE, hS⟩
  dsimp only at hq52
  replace h0_3 := Sl.mono RApiSignal.mono hle100 h0_3
  replace h0_0 := Sl.mono RS.mono hle100 h0_0
  replace h0_1 := Sl.mono RApiSection.mono hle100 h0_1
  replace h0_2 := Sl.mono RApiLink.mono hle100 h0_2
  replace h0_4 := Sl.mono RApiGate.mono hle100 h0_4
  refine W.region ?_
  refine vP hS hE (Gives.inc hE rfl (by have := h0_3.small; omega)) rfl fun a hE => ?_
  refine vp hS hE rfl rfl fun a hE => WL.nil ?_
  replace hS := hS.tail
  replace hS := hS.tail
  replace hS := hS.tail
  subst hK63
  exact ⟨rest56.length, Nat.lt_succ_self _, rest56, k54 + 1, s99, rfl, hd57, (Sg.Le.trans (Sg.Le.trans hle62 hle78) hle100), hq52, hE.pick _ ⟨rfl, rfl, rfl, rfl, trivial⟩, hS⟩
 clear hE hS a w; rintro a w ⟨s61, hle62, rfl, hE, hS⟩
 dsimp only at hr
 replace h0_0 := Sl.mono RS.mono hle62 h0_0
 replace h0_1 := Sl.mono RApiSection.mono hle62 h0_1
 replace h0_2 := Sl.mono RApiLink.mono hle62 h0_2
 replace h0_3 := Sl.mono RApiSignal.mono hle62 h0_3
 replace h0_4 := Sl.mono RApiGate.mono hle62 h0_4
 refine W.seq (W.region (vp hS hE rfl rfl fun a hE => WL.nil ?_))
 refine W.ret ?_
 refine finG (fn := Tryz.f115) (rs := [.tmp 2]) (vs := [_]) hE rfl ⟨rfl, trivial⟩ ?_
 obtain rfl := Option.some.inj hr
 replace hS := hS.tail
 exact ⟨rfl, (hS.down hle62)⟩
set_option maxHeartbeats 8000000 in
theorem LinecheckGates_ok  {w : World} {s : Sg} {R : List HP} {x0 : ApiNet} {a0_0 : Option Addr} {c0_0 : Nat} {a0_1 : Option Addr} {c0_1 : Nat} {a0_2 : Option Addr} {c0_2 : Nat} {a0_3 : Option Addr} {c0_3 : Nat} {a0_4 : Option Addr} {c0_4 : Nat} (hS : St w s (R)) (_h0_0 : Sl 1 RS s a0_0 c0_0 x0.Stations) (h0_1 : Sl 7 RApiSection s a0_1 c0_1 x0.Sections) (_h0_2 : Sl 4 RApiLink s a0_2 c0_2 x0.Links) (_h0_3 : Sl 2 RApiSignal s a0_3 c0_3 x0.Signals) (h0_4 : Sl 2 RApiGate s a0_4 c0_4 x0.Gates) {r : Int} (hr : LinecheckGates x0 = some r) :
  Calls Tryz.prog 116 [.agg (List.toArray [.slice a0_0 x0.Stations.length c0_0, .slice a0_1 x0.Sections.length c0_1, .slice a0_2 x0.Links.length c0_2, .slice a0_3 x0.Signals.length c0_3, .slice a0_4 x0.Gates.length c0_4])].toArray w (fun e w => e = .returned (vi r) ∧ St w s (R)) := by
 refine enter Tryz.func116 rfl rfl rfl fun a hE => ?_
 rw [LinecheckGates] at hr
 refine W.seq (W.region ?_)
 refine WL.box hE hS (runs_plain rfl) rfl rfl rfl ?_; clear hE hS a w; intro b51 a w hE hS
 refine vp hS hE rfl rfl fun a hE => WL.nil ?_
 refine W.seq ?_
 refine W.seq (W.region (vP hS hE (Gives.fld hE rfl fl53_4) rfl fun a hE => ?_))
 refine vP hS hE (Gives.loadB hE 0 rfl rfl rfl ty51) rfl fun a hE => ?_
 refine vP hS hE (Gives.len hE rfl sl51) rfl fun a hE => ?_
 refine vp hS hE rfl rfl fun a hE => WL.nil ?_
 obtain ⟨q53, hq52, hr⟩ := bindS hr
 refine W.cut (fun a w => (.next ()) = q53 ∧ Rep a 52 [] ∧ St w s (pc b51 #[.slice a0_0 x0.Stations.length c0_0, .slice a0_1 x0.Sections.length c0_1, .slice a0_2 x0.Links.length c0_2, .slice a0_3 x0.Signals.length c0_3, .slice a0_4 x0.Gates.length c0_4] 53 :: R)) ?_ ?_
 ·refine W.block ?_
  refine W.loop (fun m a w => ∃ (rest56 : List ApiGate) (k54 : Nat), rest56.length = m ∧ x0.Gates.drop k54 = rest56 ∧ LinecheckGates.loop1 x0 rest56 k54 = some q53 ∧ Rep a 52 [(1, pp b51), (6, .slice a0_4 x0.Gates.length c0_4), (7, vi ((x0.Gates).length : Int)), (8, vi ((k54 : Nat) : Int))] ∧ St w s (pc b51 #[.slice a0_0 x0.Stations.length c0_0, .slice a0_1 x0.Sections.length c0_1, .slice a0_2 x0.Links.length c0_2, .slice a0_3 x0.Signals.length c0_3, .slice a0_4 x0.Gates.length c0_4] 53 :: R)) (m := x0.Gates.length) ⟨x0.Gates, 0, rfl, rfl, hq52, hE.pick _ ⟨rfl, rfl, rfl, rfl, trivial⟩, hS⟩ ?_
  clear hE hS a w hq52; rintro m60 a w ⟨rest56, k54, rfl, hd57, hq52, hE, hS⟩
  refine W.gen fun K63 hK63 => ?_
  rcases rest56 with _ | ⟨x55, rest56⟩
  ·have hlt58 := drop_nil hd57
   refine W.seq (W.region (vp hS hE rfl rfl fun a hE => WL.nil ?_))
   refine W.seq ?_
   refine W.condF hE rfl (decide_eq_false (by omega)) ?_
   subst hK63
   refine W.exit rfl ?_
   exact ⟨Option.some.inj hq52, hE.pick _ trivial, hS⟩
  obtain ⟨hlt58, hx59, hd57⟩ := drop_cons hd57
  rw [LinecheckGates.loop1] at hq52
  refine W.seq (W.region (vp hS hE rfl rfl fun a hE => WL.nil ?_))
  refine W.seq ?_
  refine W.condT hE rfl (decide_eq_true (by omega)) ?_
  refine W.skip ?_
  refine W.seq ?_
  refine W.block ?_
  refine W.seq (W.region (vp hS hE rfl rfl fun a hE => ?_))
  obtain ⟨cs64, hl65, hR66, hat67⟩ := h0_4.at hx59
  subst hR66
  refine vP hS hE (Gives.idx hE k54 rfl rfl sl51 rfl hlt58 (h0_4.aok hlt58)) rfl fun a hE => ?_
  refine vP hS hE (Gives.loadA hE rfl (fun w h => hat67 w _ h) ty207) rfl fun a hE => ?_
  refine WL.alloc hE hS (runs_plain rfl) zr207 rfl ?_; clear hE hS a w; intro b68 a w hE hS
  refine vp hS hE rfl rfl fun a hE => ?_
  refine WL.storeI hE hS 0 rfl (ApiGate.cells x55) (runs_plain rfl) rfl rfl rfl ty207 rfl rfl rfl rfl ?_; clear hE hS a w; intro a w hE hS
  refine WL.nil ?_
  refine W.block ?_
  refine W.seq (W.region (vP hS hE (Gives.fld hE rfl fl207_0) rfl fun a hE => ?_))
  refine vP hS hE (Gives.loadB hE 0 rfl rfl rfl ty3) rfl fun a hE => ?_
  refine vP hS hE (Gives.fld hE rfl fl53_1) rfl fun a hE => ?_
  refine vP hS hE (Gives.loadB hE 1 rfl rfl rfl ty48) rfl fun a hE => ?_
  refine vP hS hE (Gives.len hE rfl sl48) rfl fun a hE => ?_
  refine vp hS hE rfl rfl fun a hE => ?_
  refine WL.fnq hE (Linewithin_ok hS  rfl (r := Linewithin x55.Section 0 (w64 (((x0.Sections).length : Int) - 1)))) (runs_plain rfl) bd160 rfl rfl rfl ?_
  clear hE hS; rintro e w ⟨rfl, hS⟩; refine ⟨_, rfl, ?_⟩; clear a; intro a hE
  refine v2 hS hE rfl rfl rfl rfl fun a hE => WL.nil ?_
  refine W.cond hE rfl (fun hc69 => ?_) (fun hc69 => ?_)
  ·replace hq52 := iteT hc69 hq52
   refine W.seq (W.region (vp hS hE rfl rfl fun a hE => WL.nil ?_))
   refine W.ret ?_
   subst hK63
   rw [← Option.some.inj hq52] at hr
   dsimp only at hr
   refine finG (fn := Tryz.f116) (rs := [.tmp 2]) (vs := [_]) hE rfl ⟨rfl, trivial⟩ ?_
   obtain rfl := Option.some.inj hr
   replace hS := hS.tail
   replace hS := hS.tail
   exact ⟨rfl, hS⟩
  replace hq52 := iteF hc69 hq52
  refine W.seq (W.region (vP hS hE (Gives.fld hE rfl fl53_1) rfl fun a hE => ?_))
  refine vP hS hE (Gives.loadB hE 1 rfl rfl rfl ty48) rfl fun a hE => ?_
  refine vP hS hE (Gives.fld hE rfl fl207_0) rfl fun a hE => ?_
  refine vP hS hE (Gives.loadB hE 0 rfl rfl rfl ty3) rfl fun a hE => ?_
  obtain ⟨x70, hx71, hq52⟩ := bindS hq52
  obtain ⟨hi72, hlt73, hy74⟩ := gx_some hx71
  obtain ⟨cs75, hl76, hR77, hat78⟩ := h0_1.at hy74
  subst hR77
  refine vP hS hE (Gives.idx hE (x55.Section).toNat rfl rfl sl48 hi72 hlt73 (h0_1.aok hlt73)) rfl fun a hE => ?_
  refine vP hS hE (Gives.fld hE rfl fl151_0) rfl fun a hE => ?_
  refine vP hS hE (Gives.load1 hE rfl (fun w h => (hat78 w _ h).one rfl) ty3) rfl fun a hE => ?_
  refine v2 hS hE rfl rfl rfl rfl fun a hE => WL.nil ?_
  refine W.cond hE rfl (fun hc79 => ?_) (fun hc79 => ?_)
  ·replace hq52 := iteT hc79 hq52
   refine W.seq (W.region (vp hS hE rfl rfl fun a hE => WL.nil ?_))
   refine W.ret ?_
   subst hK63
   rw [← Option.some.inj hq52] at hr
   dsimp only at hr
   refine finG (fn := Tryz.f116) (rs := [.tmp 2]) (vs := [_]) hE rfl ⟨rfl, trivial⟩ ?_
   obtain rfl := Option.some.inj hr
   replace hS := hS.tail
   replace hS := hS.tail
   exact ⟨rfl, hS⟩
  replace hq52 := iteF hc79 hq52
  refine W.seq (W.region (vP hS hE (Gives.fld hE rfl fl207_1) rfl fun a hE => ?_))
  refine vP hS hE (Gives.loadB hE 0 rfl rfl rfl ty3) rfl fun a hE => ?_
  refine WL.fnq hE (Linewithin_ok hS  rfl (r := Linewithin x55.Close 1 12)) (runs_plain rfl) bd160 rfl rfl rfl ?_
  clear hE hS; rintro e w ⟨rfl, hS⟩; refine ⟨_, rfl, ?_⟩; clear a; intro a hE
  refine v2 hS hE rfl rfl rfl rfl fun a hE => WL.nil ?_
  refine W.cond hE rfl (fun hc80 => ?_) (fun hc80 => ?_)
  ·replace hq52 := iteT hc80 hq52
   refine W.seq (W.region (vp hS hE rfl rfl fun a hE => WL.nil ?_))
   refine W.ret ?_
   subst hK63
   rw [← Option.some.inj hq52] at hr
   dsimp only at hr
   refine finG (fn := Tryz.f116) (rs := [.tmp 2]) (vs := [_]) hE rfl ⟨rfl, trivial⟩ ?_
   obtain rfl := Option.some.inj hr
   replace hS := hS.tail
   replace hS := hS.tail
   exact ⟨rfl, hS⟩
  replace hq52 := iteF hc80 hq52
  refine W.seq ?_
  obtain ⟨q82, hq81, hq52⟩ := bindS hq52
  refine W.cut (fun a w => ∃ (q85 : Bool), q85 = q82 ∧ Rep a 52 [(1, pp b51), (6, .slice a0_4 x0.Gates.length c0_4), (7, vi ((x0.Gates).length : Int)), (8, vi ((k54 : Nat) : Int)), (36, .bool q85)] ∧ St w s (pc b68 (ApiGate.cells x55).toArray 207 :: pc b51 #[.slice a0_0 x0.Stations.length c0_0, .slice a0_1 x0.Sections.length c0_1, .slice a0_2 x0.Links.length c0_2, .slice a0_3 x0.Signals.length c0_3, .slice a0_4 x0.Gates.length c0_4] 53 :: R)) ?_ ?_
  ·refine W.gen fun K86 hK86 => ?_
   refine W.regionQ (C := fun w => St w s (pc b68 (ApiGate.cells x55).toArray 207 :: pc b51 #[.slice a0_0 x0.Stations.length c0_0, .slice a0_1 x0.Sections.length c0_1, .slice a0_2 x0.Links.length c0_2, .slice a0_3 x0.Signals.length c0_3, .slice a0_4 x0.Gates.length c0_4] 53 :: R)) mixed (by kernel_rfl) hS.drew ?_
   refine qP hE (Gives.p hE rfl) rfl fun a hE => ?_
   refine qP hE (Gives.p hE rfl) rfl fun a hE => ?_
   refine qP hE (Gives.p hE rfl) rfl fun a hE => ?_
   rcases Bool.eq_false_or_eq_true (decide (((k54 : Nat) : Int) > 0)) with hg87 | hg87
   ·replace hq81 := iteT hg87 hq81
    refine QL.v hE (runs_if hE rfl rfl rfl hg87) (Gives.fld hE rfl fl207_0) rfl fun a hE => ?_
    refine QL.v hE (runs_if hE rfl rfl rfl hg87) (Gives.loadB hE 0 rfl rfl rfl ty3) rfl fun a hE => ?_
    refine QL.v hE (runs_if hE rfl rfl rfl hg87) (Gives.fld hE rfl fl53_4) rfl fun a hE => ?_
    refine QL.v hE (runs_if hE rfl rfl rfl hg87) (Gives.loadB hE 1 rfl rfl rfl ty51) rfl fun a hE => ?_
    refine QL.v hE (runs_if hE rfl rfl rfl hg87) (Gives.p hE rfl) rfl fun a hE => ?_
    refine QL.v hE (runs_if hE rfl rfl rfl hg87) (Gives.p hE rfl) rfl fun a hE => ?_
    obtain ⟨x88, hx89, hq81⟩ := bindS hq81
    obtain ⟨hi90, hlt91, hy92⟩ := gx_some hx89
    obtain ⟨cs93, hl94, hR95, hat96⟩ := h0_4.at hy92
    subst hR95
    refine QL.v hE (runs_if hE rfl rfl rfl hg87) (Gives.idx hE (w64 (((k54 : Nat) : Int) - 1)).toNat rfl rfl sl51 hi90 hlt91 (h0_4.aok hlt91)) rfl fun a hE => ?_
    refine QL.v hE (runs_if hE rfl rfl rfl hg87) (Gives.fld hE rfl fl207_0) rfl fun a hE => ?_
    refine QL.v hE (runs_if hE rfl rfl rfl hg87) (Gives.load1 hE rfl (fun w h => (hat96 w _ h).one rfl) ty3) rfl fun a hE => ?_
    refine QL.v hE (runs_if hE rfl rfl rfl hg87) (Gives.p hE rfl) rfl fun a hE => ?_
    refine qP hE (Gives.pickT hE rfl hg87 rfl) rfl fun a hE => ?_
    refine qP hE (Gives.p hE rfl) rfl fun a hE => ?_
    refine QL.nil ?_; clear hS w; intro w hS
    subst hK86
    exact ⟨decide (x55.Section ≤ x88.Section), Option.some.inj hq81, hE.pick _ ⟨rfl, rfl, rfl, rfl, rfl, trivial⟩, hS⟩
   replace hq81 := iteF hg87 hq81
   refine QL.no hE (runs_not hE rfl rfl rfl (by rw [hg87]; decide)) rfl fun a hE => ?_
   refine QL.no hE (runs_not hE rfl rfl rfl (by rw [hg87]; decide)) rfl fun a hE => ?_
   refine QL.no hE (runs_not hE rfl rfl rfl (by rw [hg87]; decide)) rfl fun a hE => ?_
   refine QL.no hE (runs_not hE rfl rfl rfl (by rw [hg87]; decide)) rfl fun a hE => ?_
   refine QL.no hE (runs_not hE rfl rfl rfl (by rw [hg87]; decide)) rfl fun a hE => ?_
   refine QL.no hE (runs_not hE rfl rfl rfl (by rw [hg87]; decide)) rfl fun a hE => ?_
   refine QL.no hE (runs_not hE rfl rfl rfl (by rw [hg87]; decide)) rfl fun a hE => ?_
   refine QL.no hE (runs_not hE rfl rfl rfl (by rw [hg87]; decide)) rfl fun a hE => ?_
   refine QL.no hE (runs_not hE rfl rfl rfl (by rw [hg87]; decide)) rfl fun a hE => ?_
   refine QL.no hE (runs_not hE rfl rfl rfl (by rw [hg87]; decide)) rfl fun a hE => ?_
   refine qP hE (Gives.pickF hE rfl hg87 rfl) rfl fun a hE => ?_
   refine qP hE (Gives.p hE rfl) rfl fun a hE => ?_
   refine QL.nil ?_; clear hS w; intro w hS
   subst hK86
   exact ⟨false, Option.some.inj hq81, hE.pick _ ⟨rfl, rfl, rfl, rfl, rfl, trivial⟩, hS⟩
  clear hE hS a w; rintro a w ⟨q85, rfl, hE, hS⟩
  refine W.cond hE rfl (fun hc97 => ?_) (fun hc97 => ?_)
  ·replace hq52 := iteT hc97 hq52
   refine W.seq (W.region (vp hS hE rfl rfl fun a hE => WL.nil ?_))
   refine W.ret ?_
   subst hK63
   rw [← Option.some.inj hq52] at hr
   dsimp only at hr
   refine finG (fn := Tryz.f116) (rs := [.tmp 2]) (vs := [_]) hE rfl ⟨rfl, trivial⟩ ?_
   obtain rfl := Option.some.inj hr
   replace hS := hS.tail
   replace hS := hS.tail
   exact ⟨rfl, hS⟩
  replace hq52 := iteF hc97 hq52
  refine W.skip ?_
  refine W.region ?_
  refine vP hS hE (Gives.inc hE rfl (by have := h0_4.small; omega)) rfl fun a hE => ?_
  refine vp hS hE rfl rfl fun a hE => WL.nil ?_
  replace hS := hS.tail
  subst hK63
  exact ⟨rest56.length, Nat.lt_succ_self _, rest56, k54 + 1, rfl, hd57, hq52, hE.pick _ ⟨rfl, rfl, rfl, rfl, trivial⟩, hS⟩
 clear hE hS a w; rintro a w ⟨rfl, hE, hS⟩
 dsimp only at hr
 refine W.seq (W.region (vp hS hE rfl rfl fun a hE => WL.nil ?_))
 refine W.ret ?_
 refine finG (fn := Tryz.f116) (rs := [.tmp 2]) (vs := [_]) hE rfl ⟨rfl, trivial⟩ ?_
 obtain rfl := Option.some.inj hr
 replace hS := hS.tail
 exact ⟨rfl, hS⟩
set_option maxHeartbeats 8000000 in
theorem LineCheck_ok  {w : World} {s : Sg} {R : List HP} {x0 : ApiNet} {a0_0 : Option Addr} {c0_0 : Nat} {a0_1 : Option Addr} {c0_1 : Nat} {a0_2 : Option Addr} {c0_2 : Nat} {a0_3 : Option Addr} {c0_3 : Nat} {a0_4 : Option Addr} {c0_4 : Nat} (hS : St w s (R)) (h0_0 : Sl 1 RS s a0_0 c0_0 x0.Stations) (h0_1 : Sl 7 RApiSection s a0_1 c0_1 x0.Sections) (h0_2 : Sl 4 RApiLink s a0_2 c0_2 x0.Links) (h0_3 : Sl 2 RApiSignal s a0_3 c0_3 x0.Signals) (h0_4 : Sl 2 RApiGate s a0_4 c0_4 x0.Gates) {r : Int} (hr : LineCheck x0 = some r) :
  Calls Tryz.prog 69 [.agg (List.toArray [.slice a0_0 x0.Stations.length c0_0, .slice a0_1 x0.Sections.length c0_1, .slice a0_2 x0.Links.length c0_2, .slice a0_3 x0.Signals.length c0_3, .slice a0_4 x0.Gates.length c0_4])].toArray w (fun e w => e = .returned (vi r) ∧ St w s (R)) := by
 refine enter Tryz.func69 rfl rfl rfl fun a hE => ?_
 rw [LineCheck] at hr
 refine W.seq (W.region ?_)
 refine WL.box hE hS (runs_plain rfl) rfl rfl rfl ?_; clear hE hS a w; intro b51 a w hE hS
 refine vp hS hE rfl rfl fun a hE => WL.nil ?_
 refine W.seq ?_
 refine W.block ?_
 refine W.seq (W.region (vP hS hE (Gives.fld hE rfl fl53_1) rfl fun a hE => ?_))
 refine vP hS hE (Gives.loadB hE 0 rfl rfl rfl ty48) rfl fun a hE => ?_
 refine vP hS hE (Gives.len hE rfl sl48) rfl fun a hE => ?_
 refine v2 hS hE rfl rfl rfl rfl fun a hE => WL.nil ?_
 refine W.cond hE rfl (fun hc52 => ?_) (fun hc52 => ?_)
 ·replace hr := iteT hc52 hr
  refine W.seq (W.region (vp hS hE rfl rfl fun a hE => WL.nil ?_))
  refine W.ret ?_
  refine finG (fn := Tryz.f69) (rs := [.tmp 2]) (vs := [_]) hE rfl ⟨rfl, trivial⟩ ?_
  obtain rfl := Option.some.inj hr
  replace hS := hS.tail
  exact ⟨rfl, hS⟩
 replace hr := iteF hc52 hr
 refine W.seq ?_
 obtain ⟨q54, hq53, hr⟩ := bndS hr
 refine W.cut (fun a w => ∃ (q57 : Bool), q57 = q54 ∧ Rep a 92 [(1, pp b51), (16, .bool q57)] ∧ St w s (pc b51 #[.slice a0_0 x0.Stations.length c0_0, .slice a0_1 x0.Sections.length c0_1, .slice a0_2 x0.Links.length c0_2, .slice a0_3 x0.Signals.length c0_3, .slice a0_4 x0.Gates.length c0_4] 53 :: R)) ?_ ?_
 ·refine W.gen fun K58 hK58 => ?_
  refine W.region ?_
  refine vP hS hE (Gives.fld hE rfl fl53_0) rfl fun a hE => ?_
  refine vP hS hE (Gives.loadB hE 0 rfl rfl rfl ty47) rfl fun a hE => ?_
  refine vP hS hE (Gives.len hE rfl sl47) rfl fun a hE => ?_
  refine v2 hS hE rfl rfl rfl rfl fun a hE => ?_
  rcases Bool.eq_false_or_eq_true (decide (((x0.Stations).length : Int) > 12)) with hg59 | hg59
  ·replace hq53 := iteT hg59 hq53
   refine nO hE rfl rfl rfl (by rw [hg59]; decide) rfl fun a hE => ?_
   refine nO hE rfl rfl rfl (by rw [hg59]; decide) rfl fun a hE => ?_
   refine nO hE rfl rfl rfl (by rw [hg59]; decide) rfl fun a hE => ?_
   refine nO hE rfl rfl rfl (by rw [hg59]; decide) rfl fun a hE => ?_
   refine vP hS hE (Gives.pickT hE rfl hg59 rfl) rfl fun a hE => ?_
   refine vp hS hE rfl rfl fun a hE => ?_
   refine nO hE rfl rfl rfl (by decide) rfl fun a hE => ?_
   refine nO hE rfl rfl rfl (by decide) rfl fun a hE => ?_
   refine nO hE rfl rfl rfl (by decide) rfl fun a hE => ?_
   refine nO hE rfl rfl rfl (by decide) rfl fun a hE => ?_
   refine vP hS hE (Gives.pickT hE rfl rfl rfl) rfl fun a hE => ?_
   refine vp hS hE rfl rfl fun a hE => ?_
   refine nO hE rfl rfl rfl (by decide) rfl fun a hE => ?_
   refine nO hE rfl rfl rfl (by decide) rfl fun a hE => ?_
   refine nO hE rfl rfl rfl (by decide) rfl fun a hE => ?_
   refine nO hE rfl rfl rfl (by decide) rfl fun a hE => ?_
   refine vP hS hE (Gives.pickT hE rfl rfl rfl) rfl fun a hE => ?_
   refine vp hS hE rfl rfl fun a hE => ?_
   refine nO hE rfl rfl rfl (by decide) rfl fun a hE => ?_
   refine nO hE rfl rfl rfl (by decide) rfl fun a hE => ?_
   refine nO hE rfl rfl rfl (by decide) rfl fun a hE => ?_
   refine nO hE rfl rfl rfl (by decide) rfl fun a hE => ?_
   refine vP hS hE (Gives.pickT hE rfl rfl rfl) rfl fun a hE => ?_
   refine vp hS hE rfl rfl fun a hE => WL.nil ?_
   subst hK58
   exact ⟨true, hq53, hE.pick _ ⟨rfl, rfl, trivial⟩, hS⟩
  replace hq53 := iteF hg59 hq53
  refine WL.vS hS hE (runs_if hE rfl rfl rfl hg59) (Gives.fld hE rfl fl53_1) rfl fun a hE => ?_
  refine WL.vS hS hE (runs_if hE rfl rfl rfl hg59) (Gives.loadB hE 0 rfl rfl rfl ty48) rfl fun a hE => ?_
  refine WL.vS hS hE (runs_if hE rfl rfl rfl hg59) (Gives.len hE rfl sl48) rfl fun a hE => ?_
  refine WL.vS hS hE (runs_if hE rfl rfl rfl hg59) (Gives.p hE rfl) rfl fun a hE => ?_
  refine vP hS hE (Gives.pickF hE rfl hg59 rfl) rfl fun a hE => ?_
  refine vp hS hE rfl rfl fun a hE => ?_
  rcases Bool.eq_false_or_eq_true (decide (((x0.Sections).length : Int) > 60)) with hg60 | hg60
  ·replace hq53 := iteT hg60 hq53
   refine nO hE rfl rfl rfl (by rw [hg60]; decide) rfl fun a hE => ?_
   refine nO hE rfl rfl rfl (by rw [hg60]; decide) rfl fun a hE => ?_
   refine nO hE rfl rfl rfl (by rw [hg60]; decide) rfl fun a hE => ?_
   refine nO hE rfl rfl rfl (by rw [hg60]; decide) rfl fun a hE => ?_
   refine vP hS hE (Gives.pickT hE rfl hg60 rfl) rfl fun a hE => ?_
   refine vp hS hE rfl rfl fun a hE => ?_
   refine nO hE rfl rfl rfl (by decide) rfl fun a hE => ?_
   refine nO hE rfl rfl rfl (by decide) rfl fun a hE => ?_
   refine nO hE rfl rfl rfl (by decide) rfl fun a hE => ?_
   refine nO hE rfl rfl rfl (by decide) rfl fun a hE => ?_
   refine vP hS hE (Gives.pickT hE rfl rfl rfl) rfl fun a hE => ?_
   refine vp hS hE rfl rfl fun a hE => ?_
   refine nO hE rfl rfl rfl (by decide) rfl fun a hE => ?_
   refine nO hE rfl rfl rfl (by decide) rfl fun a hE => ?_
   refine nO hE rfl rfl rfl (by decide) rfl fun a hE => ?_
   refine nO hE rfl rfl rfl (by decide) rfl fun a hE => ?_
   refine vP hS hE (Gives.pickT hE rfl rfl rfl) rfl fun a hE => ?_
   refine vp hS hE rfl rfl fun a hE => WL.nil ?_
   subst hK58
   exact ⟨true, hq53, hE.pick _ ⟨rfl, rfl, trivial⟩, hS⟩
  replace hq53 := iteF hg60 hq53
  refine WL.vS hS hE (runs_if hE rfl rfl rfl hg60) (Gives.fld hE rfl fl53_2) rfl fun a hE => ?_
  refine WL.vS hS hE (runs_if hE rfl rfl rfl hg60) (Gives.loadB hE 0 rfl rfl rfl ty49) rfl fun a hE => ?_
  refine WL.vS hS hE (runs_if hE rfl rfl rfl hg60) (Gives.len hE rfl sl49) rfl fun a hE => ?_
  refine WL.vS hS hE (runs_if hE rfl rfl rfl hg60) (Gives.p hE rfl) rfl fun a hE => ?_
  refine vP hS hE (Gives.pickF hE rfl hg60 rfl) rfl fun a hE => ?_
  refine vp hS hE rfl rfl fun a hE => ?_
  rcases Bool.eq_false_or_eq_true (decide (((x0.Links).length : Int) > 90)) with hg61 | hg61
  ·replace hq53 := iteT hg61 hq53
   refine nO hE rfl rfl rfl (by rw [hg61]; decide) rfl fun a hE => ?_
   refine nO hE rfl rfl rfl (by rw [hg61]; decide) rfl fun a hE => ?_
   refine nO hE rfl rfl rfl (by rw [hg61]; decide) rfl fun a hE => ?_
   refine nO hE rfl rfl rfl (by rw [hg61]; decide) rfl fun a hE => ?_
   refine vP hS hE (Gives.pickT hE rfl hg61 rfl) rfl fun a hE => ?_
   refine vp hS hE rfl rfl fun a hE => ?_
   refine nO hE rfl rfl rfl (by decide) rfl fun a hE => ?_
   refine nO hE rfl rfl rfl (by decide) rfl fun a hE => ?_
   refine nO hE rfl rfl rfl (by decide) rfl fun a hE => ?_
   refine nO hE rfl rfl rfl (by decide) rfl fun a hE => ?_
   refine vP hS hE (Gives.pickT hE rfl rfl rfl) rfl fun a hE => ?_
   refine vp hS hE rfl rfl fun a hE => WL.nil ?_
   subst hK58
   exact ⟨true, hq53, hE.pick _ ⟨rfl, rfl, trivial⟩, hS⟩
  replace hq53 := iteF hg61 hq53
  refine WL.vS hS hE (runs_if hE rfl rfl rfl hg61) (Gives.fld hE rfl fl53_3) rfl fun a hE => ?_
  refine WL.vS hS hE (runs_if hE rfl rfl rfl hg61) (Gives.loadB hE 0 rfl rfl rfl ty50) rfl fun a hE => ?_
  refine WL.vS hS hE (runs_if hE rfl rfl rfl hg61) (Gives.len hE rfl sl50) rfl fun a hE => ?_
  refine WL.vS hS hE (runs_if hE rfl rfl rfl hg61) (Gives.p hE rfl) rfl fun a hE => ?_
  refine vP hS hE (Gives.pickF hE rfl hg61 rfl) rfl fun a hE => ?_
  refine vp hS hE rfl rfl fun a hE => ?_
  rcases Bool.eq_false_or_eq_true (decide (((x0.Signals).length : Int) > 40)) with hg62 | hg62
  ·replace hq53 := iteT hg62 hq53
   refine nO hE rfl rfl rfl (by rw [hg62]; decide) rfl fun a hE => ?_
   refine nO hE rfl rfl rfl (by rw [hg62]; decide) rfl fun a hE => ?_
   refine nO hE rfl rfl rfl (by rw [hg62]; decide) rfl fun a hE => ?_
   refine nO hE rfl rfl rfl (by rw [hg62]; decide) rfl fun a hE => ?_
   refine vP hS hE (Gives.pickT hE rfl hg62 rfl) rfl fun a hE => ?_
   refine vp hS hE rfl rfl fun a hE => WL.nil ?_
   subst hK58
   exact ⟨true, hq53, hE.pick _ ⟨rfl, rfl, trivial⟩, hS⟩
  replace hq53 := iteF hg62 hq53
  refine WL.vS hS hE (runs_if hE rfl rfl rfl hg62) (Gives.fld hE rfl fl53_4) rfl fun a hE => ?_
  refine WL.vS hS hE (runs_if hE rfl rfl rfl hg62) (Gives.loadB hE 0 rfl rfl rfl ty51) rfl fun a hE => ?_
  refine WL.vS hS hE (runs_if hE rfl rfl rfl hg62) (Gives.len hE rfl sl51) rfl fun a hE => ?_
  refine WL.vS hS hE (runs_if hE rfl rfl rfl hg62) (Gives.p hE rfl) rfl fun a hE => ?_
  refine vP hS hE (Gives.pickF hE rfl hg62 rfl) rfl fun a hE => ?_
  refine vp hS hE rfl rfl fun a hE => WL.nil ?_
  subst hK58
  exact ⟨decide (((x0.Gates).length : Int) > 8), hq53, hE.pick _ ⟨rfl, rfl, trivial⟩, hS⟩
 clear hE hS a w; rintro a w ⟨q57, rfl, hE, hS⟩
 refine W.cond hE rfl (fun hc63 => ?_) (fun hc63 => ?_)
 ·replace hr := iteT hc63 hr
  refine W.seq (W.region (vp hS hE rfl rfl fun a hE => WL.nil ?_))
  refine W.ret ?_
  refine finG (fn := Tryz.f69) (rs := [.tmp 2]) (vs := [_]) hE rfl ⟨rfl, trivial⟩ ?_
  obtain rfl := Option.some.inj hr
  replace hS := hS.tail
  exact ⟨rfl, hS⟩
 replace hr := iteF hc63 hr
 refine W.skip ?_
 refine W.seq ?_
 refine W.seq (W.region (vP hS hE (Gives.fld hE rfl fl53_0) rfl fun a hE => ?_))
 refine vP hS hE (Gives.loadB hE 0 rfl rfl rfl ty47) rfl fun a hE => ?_
 refine vP hS hE (Gives.len hE rfl sl47) rfl fun a hE => ?_
 refine vp hS hE rfl rfl fun a hE => WL.nil ?_
 obtain ⟨q65, hq64, hr⟩ := bindS hr
 refine W.cut (fun a w => (.next ()) = q65 ∧ Rep a 92 [(1, pp b51)] ∧ St w s (pc b51 #[.slice a0_0 x0.Stations.length c0_0, .slice a0_1 x0.Sections.length c0_1, .slice a0_2 x0.Links.length c0_2, .slice a0_3 x0.Signals.length c0_3, .slice a0_4 x0.Gates.length c0_4] 53 :: R)) ?_ ?_
 ·refine W.block ?_
  refine W.loop (fun m a w => ∃ (rest68 : List ByteArray) (k66 : Nat), rest68.length = m ∧ x0.Stations.drop k66 = rest68 ∧ LineCheck.loop1 x0 rest68 k66 = some q65 ∧ Rep a 92 [(1, pp b51), (46, .slice a0_0 x0.Stations.length c0_0), (47, vi ((x0.Stations).length : Int)), (48, vi ((k66 : Nat) : Int))] ∧ St w s (pc b51 #[.slice a0_0 x0.Stations.length c0_0, .slice a0_1 x0.Sections.length c0_1, .slice a0_2 x0.Links.length c0_2, .slice a0_3 x0.Signals.length c0_3, .slice a0_4 x0.Gates.length c0_4] 53 :: R)) (m := x0.Stations.length) ⟨x0.Stations, 0, rfl, rfl, hq64, hE.pick _ ⟨rfl, rfl, rfl, rfl, trivial⟩, hS⟩ ?_
  clear hE hS a w hq64; rintro m72 a w ⟨rest68, k66, rfl, hd69, hq64, hE, hS⟩
  refine W.gen fun K75 hK75 => ?_
  rcases rest68 with _ | ⟨x67, rest68⟩
  ·have hlt70 := drop_nil hd69
   refine W.seq (W.region (vp hS hE rfl rfl fun a hE => WL.nil ?_))
   refine W.seq ?_
   refine W.condF hE rfl (decide_eq_false (by omega)) ?_
   subst hK75
   refine W.exit rfl ?_
   exact ⟨Option.some.inj hq64, hE.pick _ ⟨rfl, trivial⟩, hS⟩
  obtain ⟨hlt70, hx71, hd69⟩ := drop_cons hd69
  rw [LineCheck.loop1] at hq64
  refine W.seq (W.region (vp hS hE rfl rfl fun a hE => WL.nil ?_))
  refine W.seq ?_
  refine W.condT hE rfl (decide_eq_true (by omega)) ?_
  refine W.skip ?_
  refine W.seq ?_
  refine W.block ?_
  refine W.seq (W.region (vp hS hE rfl rfl fun a hE => ?_))
  obtain ⟨cs76, hl77, hR78, hat79⟩ := h0_0.at hx71
  subst hR78
  refine vP hS hE (Gives.idx hE k66 rfl rfl sl47 rfl hlt70 (h0_0.aok hlt70)) rfl fun a hE => ?_
  refine vP hS hE (Gives.load1 hE rfl (fun w h => hat79 w _ h) ty9) rfl fun a hE => ?_
  refine v2 hS hE rfl rfl rfl rfl fun a hE => WL.nil ?_
  refine W.block ?_
  refine W.seq (W.region (vp hS hE rfl rfl fun a hE => ?_))
  obtain ⟨q80, hq81, hq64⟩ := bindS hq64
  have hc_ := Linename_ok hS  hq81
  refine WL.fnq hE (hc_) (runs_plain rfl) bd111 rfl rfl rfl ?_
  clear hE hS hc_; rintro e w ⟨rfl, hS⟩; refine ⟨_, rfl, ?_⟩; clear a; intro a hE
  refine v2 hS hE rfl rfl rfl rfl fun a hE => WL.nil ?_
  refine W.cond hE rfl (fun hc82 => ?_) (fun hc82 => ?_)
  ·replace hq64 := iteT hc82 hq64
   refine W.seq (W.region (vp hS hE rfl rfl fun a hE => WL.nil ?_))
   refine W.ret ?_
   subst hK75
   rw [← Option.some.inj hq64] at hr
   dsimp only at hr
   refine finG (fn := Tryz.f69) (rs := [.tmp 2]) (vs := [_]) hE rfl ⟨rfl, trivial⟩ ?_
   obtain rfl := Option.some.inj hr
   replace hS := hS.tail
   exact ⟨rfl, hS⟩
  replace hq64 := iteF hc82 hq64
  refine W.seq (W.region (vP hS hE (Gives.fld hE rfl fl53_0) rfl fun a hE => ?_))
  refine vP hS hE (Gives.loadB hE 0 rfl rfl rfl ty47) rfl fun a hE => ?_
  refine vp hS hE rfl rfl fun a hE => ?_
  obtain ⟨x83, hx84, hq64⟩ := bindS hq64
  obtain ⟨a85, c86, heq87, h88⟩ := h0_0.cut hx84
  obtain ⟨h89, h90, h91, _⟩ := cutl_some hx84
  refine vP hS hE (Gives.slH hE sl47 rfl rfl h90 (Int.le_trans h91 (by have := h0_0.len; omega)) heq87) rfl fun a hE => ?_
  refine vp hS hE rfl rfl fun a hE => ?_
  refine WL.fnq hE (SlicesContainsLstring_ok hS h88 rfl (r := SlicesContainsLstring x83 x67)) (runs_plain rfl) bd112 rfl rfl rfl ?_
  clear hE hS; rintro e w ⟨rfl, hS⟩; refine ⟨_, rfl, ?_⟩; clear a; intro a hE
  refine vp hS hE rfl rfl fun a hE => WL.nil ?_
  refine W.cond hE rfl (fun hc92 => ?_) (fun hc92 => ?_)
  ·replace hq64 := iteT hc92 hq64
   refine W.seq (W.region (vp hS hE rfl rfl fun a hE => WL.nil ?_))
   refine W.ret ?_
   subst hK75
   rw [← Option.some.inj hq64] at hr
   dsimp only at hr
   refine finG (fn := Tryz.f69) (rs := [.tmp 2]) (vs := [_]) hE rfl ⟨rfl, trivial⟩ ?_
   obtain rfl := Option.some.inj hr
   replace hS := hS.tail
   exact ⟨rfl, hS⟩
  replace hq64 := iteF hc92 hq64
  refine W.skip ?_
  refine W.region ?_
  refine vP hS hE (Gives.inc hE rfl (by have := h0_0.small; omega)) rfl fun a hE => ?_
  refine vp hS hE rfl rfl fun a hE => WL.nil ?_
  subst hK75
  exact ⟨rest68.length, Nat.lt_succ_self _, rest68, k66 + 1, rfl, hd69, hq64, hE.pick _ ⟨rfl, rfl, rfl, rfl, trivial⟩, hS⟩
 clear hE hS a w; rintro a w ⟨rfl, hE, hS⟩
 dsimp only at hr
 refine W.seq ?_
 refine W.seq (W.region (vP hS hE (Gives.fld hE rfl fl53_1) rfl fun a hE => ?_))
 refine vP hS hE (Gives.loadB hE 0 rfl rfl rfl ty48) rfl fun a hE => ?_
 refine vP hS hE (Gives.len hE rfl sl48) rfl fun a hE => ?_
 refine vp hS hE rfl rfl fun a hE => WL.nil ?_
 obtain ⟨q94, hq93, hr⟩ := bndS hr
 refine W.cut (fun a w => (.next ()) = q94 ∧ Rep a 92 [(1, pp b51)] ∧ St w s (pc b51 #[.slice a0_0 x0.Stations.length c0_0, .slice a0_1 x0.Sections.length c0_1, .slice a0_2 x0.Links.length c0_2, .slice a0_3 x0.Signals.length c0_3, .slice a0_4 x0.Gates.length c0_4] 53 :: R)) ?_ ?_
 ·refine W.block ?_
  refine W.loop (fun m a w => ∃ (rest97 : List ApiSection) (k95 : Nat), rest97.length = m ∧ x0.Sections.drop k95 = rest97 ∧ LineCheck.loop2 x0 rest97 = q94 ∧ Rep a 92 [(1, pp b51), (66, .slice a0_1 x0.Sections.length c0_1), (67, vi ((x0.Sections).length : Int)), (68, vi ((k95 : Nat) : Int))] ∧ St w s (pc b51 #[.slice a0_0 x0.Stations.length c0_0, .slice a0_1 x0.Sections.length c0_1, .slice a0_2 x0.Links.length c0_2, .slice a0_3 x0.Signals.length c0_3, .slice a0_4 x0.Gates.length c0_4] 53 :: R)) (m := x0.Sections.length) ⟨x0.Sections, 0, rfl, rfl, hq93, hE.pick _ ⟨rfl, rfl, rfl, rfl, trivial⟩, hS⟩ ?_
  clear hE hS a w hq93; rintro m101 a w ⟨rest97, k95, rfl, hd98, hq93, hE, hS⟩
  refine W.gen fun K104 hK104 => ?_
  rcases rest97 with _ | ⟨x96, rest97⟩
  ·have hlt99 := drop_nil hd98
   refine W.seq (W.region (vp hS hE rfl rfl fun a hE => WL.nil ?_))
   refine W.seq ?_
   refine W.condF hE rfl (decide_eq_false (by omega)) ?_
   subst hK104
   refine W.exit rfl ?_
   exact ⟨hq93, hE.pick _ ⟨rfl, trivial⟩, hS⟩
  obtain ⟨hlt99, hx100, hd98⟩ := drop_cons hd98
  rw [LineCheck.loop2] at hq93
  refine W.seq (W.region (vp hS hE rfl rfl fun a hE => WL.nil ?_))
  refine W.seq ?_
  refine W.condT hE rfl (decide_eq_true (by omega)) ?_
  refine W.skip ?_
  refine W.seq ?_
  refine W.block ?_
  refine W.seq (W.region ?_)
  obtain ⟨cs105, hl106, hR107, hat108⟩ := h0_1.at hx100
  subst hR107
  refine vP hS hE (Gives.idx hE k95 rfl rfl sl48 rfl hlt99 (h0_1.aok hlt99)) rfl fun a hE => ?_
  refine vP hS hE (Gives.loadA hE rfl (fun w h => hat108 w _ h) ty151) rfl fun a hE => ?_
  refine WL.alloc hE hS (runs_plain rfl) zr151 rfl ?_; clear hE hS a w; intro b109 a w hE hS
  refine WL.storeI hE hS 0 rfl (ApiSection.cells x96) (runs_plain rfl) rfl rfl rfl ty151 rfl rfl rfl rfl ?_; clear hE hS a w; intro a w hE hS
  refine WL.nil ?_
  refine W.seq (W.region (vP hS hE (Gives.loadBA hE 0 rfl rfl ty151) rfl fun a hE => ?_))
  refine vP hS hE (Gives.fld hE rfl fl53_0) rfl fun a hE => ?_
  refine vP hS hE (Gives.loadB hE 1 rfl rfl rfl ty47) rfl fun a hE => ?_
  refine vP hS hE (Gives.len hE rfl sl47) rfl fun a hE => ?_
  refine WL.fnq hE (LinecheckSection_ok hS  rfl (r := LinecheckSection x96 ((x0.Stations).length : Int))) (runs_plain rfl) bd113 rfl rfl rfl ?_
  clear hE hS; rintro e w ⟨rfl, hS⟩; refine ⟨_, rfl, ?_⟩; clear a; intro a hE
  refine vp hS hE rfl rfl fun a hE => WL.nil ?_
  refine W.seq (W.region (v2 hS hE rfl rfl rfl rfl fun a hE => WL.nil ?_))
  refine W.cond hE rfl (fun hc110 => ?_) (fun hc110 => ?_)
  ·replace hq93 := iteT hc110 hq93
   refine W.seq (W.region (v2 hS hE rfl rfl rfl rfl fun a hE => WL.nil ?_))
   refine W.ret ?_
   subst hK104
   rw [← hq93] at hr
   dsimp only at hr
   refine finG (fn := Tryz.f69) (rs := [.tmp 2]) (vs := [_]) hE rfl ⟨rfl, trivial⟩ ?_
   obtain rfl := Option.some.inj hr
   replace hS := hS.tail
   replace hS := hS.tail
   exact ⟨rfl, hS⟩
  replace hq93 := iteF hc110 hq93
  refine W.skip ?_
  refine W.region ?_
  refine vP hS hE (Gives.inc hE rfl (by have := h0_1.small; omega)) rfl fun a hE => ?_
  refine vp hS hE rfl rfl fun a hE => WL.nil ?_
  replace hS := hS.tail
  subst hK104
  exact ⟨rest97.length, Nat.lt_succ_self _, rest97, k95 + 1, rfl, hd98, hq93, hE.pick _ ⟨rfl, rfl, rfl, rfl, trivial⟩, hS⟩
 clear hE hS a w; rintro a w ⟨rfl, hE, hS⟩
 dsimp only at hr
 refine W.seq ?_
 refine W.seq (W.region (vP hS hE (Gives.build hE (vs := [(0, .func (.func 114) #[] #[]), (1, .func (.func 115) #[] #[]), (2, .func (.func 116) #[] #[])]) [.func (.func 114) #[] #[], .func (.func 115) #[] #[], .func (.func 116) #[] #[]] rfl (by kernel_rfl)) rfl fun a hE => ?_))
 refine vp hS hE rfl rfl fun a hE => WL.nil ?_
 obtain ⟨q112, hq111, hr⟩ := bindS hr
 refine W.cut (fun a w => (.next ()) = q112 ∧ Rep a 92 [] ∧ St w s (pc b51 #[.slice a0_0 x0.Stations.length c0_0, .slice a0_1 x0.Sections.length c0_1, .slice a0_2 x0.Links.length c0_2, .slice a0_3 x0.Signals.length c0_3, .slice a0_4 x0.Gates.length c0_4] 53 :: R)) ?_ ?_
 ·refine W.block ?_
  refine W.loop (fun m a w => ∃ (rest115 : Nat) (k113 : Nat), rest115 = m ∧ k113 + rest115 = 3 ∧ LineCheck.loop3 x0 rest115 k113 = some q112 ∧ Rep a 92 [(1, pp b51), (81, .agg (List.toArray [.func (.func 114) #[] #[], .func (.func 115) #[] #[], .func (.func 116) #[] #[]])), (82, vi ((k113 : Nat) : Int))] ∧ St w s (pc b51 #[.slice a0_0 x0.Stations.length c0_0, .slice a0_1 x0.Sections.length c0_1, .slice a0_2 x0.Links.length c0_2, .slice a0_3 x0.Signals.length c0_3, .slice a0_4 x0.Gates.length c0_4] 53 :: R)) (m := 3) ⟨3, 0, rfl, by omega, hq111, hE.pick _ ⟨rfl, rfl, rfl, trivial⟩, hS⟩ ?_
  clear hE hS a w hq111; rintro m119 a w ⟨rest115, k113, rfl, hd116, hq111, hE, hS⟩
  refine W.gen fun K122 hK122 => ?_
  rcases rest115 with _ | rest115
  ·skip
   refine W.seq (W.region (vp hS hE rfl rfl fun a hE => WL.nil ?_))
   refine W.seq ?_
   refine W.condF hE rfl (decide_eq_false (by omega)) ?_
   subst hK122
   refine W.exit rfl ?_
   exact ⟨Option.some.inj hq111, hE.pick _ trivial, hS⟩
  have hlt117 : k113 < 3 := by omega
  rw [LineCheck.loop3] at hq111
  refine W.seq (W.region (vp hS hE rfl rfl fun a hE => WL.nil ?_))
  refine W.seq ?_
  refine W.condT hE rfl (decide_eq_true (by omega)) ?_
  refine W.skip ?_
  refine W.seq ?_
  refine W.block ?_
  refine W.seq (W.region ?_)
  rcases Bool.eq_false_or_eq_true (k113 == 0) with hg123 | hg123
  ·replace hq111 := iteT hg123 hq111
   have hv_ : ([.func (.func 114) #[] #[], .func (.func 115) #[] #[], .func (.func 116) #[] #[]] : List Value)[k113]? = some (.func (.func 114) #[] #[]) := by rw [(eq_of_beq hg123)]; rfl
   refine vP hS hE (show Gives _ _ _ _ (.func (.func 114) #[] #[]) from Gives.indexM hE (f := id) (l := [.func (.func 114) #[] #[], .func (.func 115) #[] #[], .func (.func 116) #[] #[]]) (k := k113) ar195 rfl rfl (by simp) rfl hv_) rfl fun a hE => ?_
   clear hv_
   refine vp hS hE rfl rfl fun a hE => WL.nil ?_
   refine W.seq (W.region (vp hS hE rfl rfl fun a hE => ?_))
   refine vP hS hE (Gives.loadBA hE 0 rfl rfl ty53) rfl fun a hE => ?_
   obtain ⟨q124, hq125, hq111⟩ := bindS hq111
   have hc_ := LinecheckLinks_ok hS h0_0 h0_1 h0_2 h0_3 h0_4 hq125
   refine WL.fnw hE (hc_) rfl (runs_plain rfl) bd114 rfl rfl rfl ?_
   clear hE hS hc_; rintro e w ⟨rfl, hS⟩; refine ⟨_, rfl, ?_⟩; clear a; intro a hE
   refine vp hS hE rfl rfl fun a hE => WL.nil ?_
   refine W.seq (W.region (v2 hS hE rfl rfl rfl rfl fun a hE => WL.nil ?_))
   refine W.cond hE rfl (fun hc126 => ?_) (fun hc126 => ?_)
   ·replace hq111 := iteT hc126 hq111
    refine W.seq (W.region (v2 hS hE rfl rfl rfl rfl fun a hE => WL.nil ?_))
    refine W.ret ?_
    subst hK122
    rw [← Option.some.inj hq111] at hr
    dsimp only at hr
    refine finG (fn := Tryz.f69) (rs := [.tmp 2]) (vs := [_]) hE rfl ⟨rfl, trivial⟩ ?_
    obtain rfl := Option.some.inj hr
    replace hS := hS.tail
    exact ⟨rfl, hS⟩
   replace hq111 := iteF hc126 hq111
   refine W.skip ?_
   refine W.region ?_
   refine vP hS hE (Gives.inc hE rfl (by omega)) rfl fun a hE => ?_
   refine vp hS hE rfl rfl fun a hE => WL.nil ?_
   subst hK122
   exact ⟨rest115, Nat.lt_succ_self _, rest115, k113 + 1, rfl, (by omega), hq111, hE.pick _ ⟨rfl, rfl, rfl, trivial⟩, hS⟩
  replace hq111 := iteF hg123 hq111
  rcases Bool.eq_false_or_eq_true (k113 == 1) with hg127 | hg127
  ·replace hq111 := iteT hg127 hq111
   have hv_ : ([.func (.func 114) #[] #[], .func (.func 115) #[] #[], .func (.func 116) #[] #[]] : List Value)[k113]? = some (.func (.func 115) #[] #[]) := by rw [(eq_of_beq hg127)]; rfl
   refine vP hS hE (show Gives _ _ _ _ (.func (.func 115) #[] #[]) from Gives.indexM hE (f := id) (l := [.func (.func 114) #[] #[], .func (.func 115) #[] #[], .func (.func 116) #[] #[]]) (k := k113) ar195 rfl rfl (by simp) rfl hv_) rfl fun a hE => ?_
   clear hv_
   refine vp hS hE rfl rfl fun a hE => WL.nil ?_
   refine W.seq (W.region (vp hS hE rfl rfl fun a hE => ?_))
   refine vP hS hE (Gives.loadBA hE 0 rfl rfl ty53) rfl fun a hE => ?_
   obtain ⟨q128, hq129, hq111⟩ := bindS hq111
   have hc_ := LinecheckSignals_ok hS h0_0 h0_1 h0_2 h0_3 h0_4 hq129
   refine WL.fnw hE (hc_) rfl (runs_plain rfl) bd115 rfl rfl rfl ?_
   clear hE hS hc_; rintro e w ⟨rfl, hS⟩; refine ⟨_, rfl, ?_⟩; clear a; intro a hE
   refine vp hS hE rfl rfl fun a hE => WL.nil ?_
   refine W.seq (W.region (v2 hS hE rfl rfl rfl rfl fun a hE => WL.nil ?_))
   refine W.cond hE rfl (fun hc130 => ?_) (fun hc130 => ?_)
   ·replace hq111 := iteT hc130 hq111
    refine W.seq (W.region (v2 hS hE rfl rfl rfl rfl fun a hE => WL.nil ?_))
    refine W.ret ?_
    subst hK122
    rw [← Option.some.inj hq111] at hr
    dsimp only at hr
    refine finG (fn := Tryz.f69) (rs := [.tmp 2]) (vs := [_]) hE rfl ⟨rfl, trivial⟩ ?_
    obtain rfl := Option.some.inj hr
    replace hS := hS.tail
    exact ⟨rfl, hS⟩
   replace hq111 := iteF hc130 hq111
   refine W.skip ?_
   refine W.region ?_
   refine vP hS hE (Gives.inc hE rfl (by omega)) rfl fun a hE => ?_
   refine vp hS hE rfl rfl fun a hE => WL.nil ?_
   subst hK122
   exact ⟨rest115, Nat.lt_succ_self _, rest115, k113 + 1, rfl, (by omega), hq111, hE.pick _ ⟨rfl, rfl, rfl, trivial⟩, hS⟩
  replace hq111 := iteF hg127 hq111
  have hk131 : k113 = 2 := by have := beq_eq_false_iff_ne.1 hg123; have := beq_eq_false_iff_ne.1 hg127; omega
  have hv_ : ([.func (.func 114) #[] #[], .func (.func 115) #[] #[], .func (.func 116) #[] #[]] : List Value)[k113]? = some (.func (.func 116) #[] #[]) := by rw [hk131]; rfl
  refine vP hS hE (show Gives _ _ _ _ (.func (.func 116) #[] #[]) from Gives.indexM hE (f := id) (l := [.func (.func 114) #[] #[], .func (.func 115) #[] #[], .func (.func 116) #[] #[]]) (k := k113) ar195 rfl rfl (by simp) rfl hv_) rfl fun a hE => ?_
  clear hv_
  refine vp hS hE rfl rfl fun a hE => WL.nil ?_
  refine W.seq (W.region (vp hS hE rfl rfl fun a hE => ?_))
  refine vP hS hE (Gives.loadBA hE 0 rfl rfl ty53) rfl fun a hE => ?_
  obtain ⟨q132, hq133, hq111⟩ := bindS hq111
  have hc_ := LinecheckGates_ok hS h0_0 h0_1 h0_2 h0_3 h0_4 hq133
  refine WL.fnw hE (hc_) rfl (runs_plain rfl) bd116 rfl rfl rfl ?_
  clear hE hS hc_; rintro e w ⟨rfl, hS⟩; refine ⟨_, rfl, ?_⟩; clear a; intro a hE
  refine vp hS hE rfl rfl fun a hE => WL.nil ?_
  refine W.seq (W.region (v2 hS hE rfl rfl rfl rfl fun a hE => WL.nil ?_))
  refine W.cond hE rfl (fun hc134 => ?_) (fun hc134 => ?_)
  ·replace hq111 := iteT hc134 hq111
   refine W.seq (W.region (v2 hS hE rfl rfl rfl rfl fun a hE => WL.nil ?_))
   refine W.ret ?_
   subst hK122
   rw [← Option.some.inj hq111] at hr
   dsimp only at hr
   refine finG (fn := Tryz.f69) (rs := [.tmp 2]) (vs := [_]) hE rfl ⟨rfl, trivial⟩ ?_
   obtain rfl := Option.some.inj hr
   replace hS := hS.tail
   exact ⟨rfl, hS⟩
  replace hq111 := iteF hc134 hq111
  refine W.skip ?_
  refine W.region ?_
  refine vP hS hE (Gives.inc hE rfl (by omega)) rfl fun a hE => ?_
  refine vp hS hE rfl rfl fun a hE => WL.nil ?_
  subst hK122
  exact ⟨rest115, Nat.lt_succ_self _, rest115, k113 + 1, rfl, (by omega), hq111, hE.pick _ ⟨rfl, rfl, rfl, trivial⟩, hS⟩
 clear hE hS a w; rintro a w ⟨rfl, hE, hS⟩
 dsimp only at hr
 refine W.seq (W.region (vp hS hE rfl rfl fun a hE => WL.nil ?_))
 refine W.ret ?_
 refine finG (fn := Tryz.f69) (rs := [.tmp 2]) (vs := [_]) hE rfl ⟨rfl, trivial⟩ ?_
 obtain rfl := Option.some.inj hr
 replace hS := hS.tail
 exact ⟨rfl, hS⟩
set_option maxHeartbeats 8000000 in
theorem Guidewithin_ok  {w : World} {s : Sg} {R : List HP} {x0 : Int} {x1 : Int} {x2 : Int} (hS : St w s (R))  {r : Bool} (hr : Guidewithin x0 x1 x2 = r) :
  Calls Tryz.prog 61 [vi x0, vi x1, vi x2].toArray w (fun e w => e = .returned (.bool r) ∧ St w s (R)) := by
 refine enter Tryz.func61 rfl rfl rfl fun a hE => ?_
 rw [Guidewithin] at hr
 refine W.seq (W.region (vp hS hE rfl rfl fun a hE => WL.nil ?_))
 refine W.seq ?_
 obtain ⟨q52, hq51, hr⟩ := bndS hr
 refine W.cut (fun a w => ∃ (q55 : Bool), q55 = q52 ∧ Rep a 15 [(6, .bool q55)] ∧ St w s (R)) ?_ ?_
 ·refine W.gen fun K56 hK56 => ?_
  refine W.region ?_
  refine v2 hS hE rfl rfl rfl rfl fun a hE => ?_
  refine v2 hS hE rfl rfl rfl rfl fun a hE => ?_
  rcases Bool.eq_false_or_eq_true (decide (x0 ≥ x1)) with hg57 | hg57
  ·replace hq51 := iteT hg57 hq51
   refine WL.vS hS hE (runs_if hE rfl rfl rfl hg57) (Gives.p hE rfl) rfl fun a hE => ?_
   refine WL.vS hS hE (runs_if hE rfl rfl rfl hg57) (Gives.p hE rfl) rfl fun a hE => ?_
   refine WL.vS hS hE (runs_if hE rfl rfl rfl hg57) (Gives.p hE rfl) rfl fun a hE => ?_
   refine vP hS hE (Gives.pickT hE rfl hg57 rfl) rfl fun a hE => ?_
   refine vp hS hE rfl rfl fun a hE => WL.nil ?_
   subst hK56
   exact ⟨decide (x0 ≤ x2), hq51, hE.pick _ ⟨rfl, trivial⟩, hS⟩
  replace hq51 := iteF hg57 hq51
  refine nO hE rfl rfl rfl (by rw [hg57]; decide) rfl fun a hE => ?_
  refine nO hE rfl rfl rfl (by rw [hg57]; decide) rfl fun a hE => ?_
  refine nO hE rfl rfl rfl (by rw [hg57]; decide) rfl fun a hE => ?_
  refine vP hS hE (Gives.pickF hE rfl hg57 rfl) rfl fun a hE => ?_
  refine vp hS hE rfl rfl fun a hE => WL.nil ?_
  subst hK56
  exact ⟨false, hq51, hE.pick _ ⟨rfl, trivial⟩, hS⟩
 clear hE hS a w; rintro a w ⟨q55, rfl, hE, hS⟩
 refine W.ret ?_
 refine finG (fn := Tryz.f61) (rs := [.tmp 6]) (vs := [_]) hE rfl ⟨rfl, trivial⟩ ?_
 subst hr
 exact ⟨rfl, hS⟩
set_option maxHeartbeats 8000000 in
theorem Guidetwo_ok  {w : World} {s : Sg} {R : List HP} {x0 : Int} (hS : St w s (R)) (hTab : TabS Tryz.prog s) {r : ByteArray} (hr : Guidetwo x0 = some r) :
  Calls Tryz.prog 118 [vi x0].toArray w (fun e w => e = .returned (.string r) ∧ St w s (R)) := by
 refine enter Tryz.func118 rfl rfl rfl fun a hE => ?_
 rw [Guidetwo] at hr
 refine W.seq (W.region (vp hS hE rfl rfl fun a hE => WL.nil ?_))
 refine W.seq (W.region (vp hS hE rfl rfl fun a hE => ?_))
 obtain ⟨q51, hq52, hr⟩ := bindS hr
 refine WL.fnq hE (itoa_ok hS (TabS.mono (Sg.Le.refl _) hTab) hq52) (runs_plain rfl) bd72 rfl rfl rfl ?_
 clear hE hS; rintro e w ⟨rfl, hS⟩; refine ⟨_, rfl, ?_⟩; clear a; intro a hE
 refine vp hS hE rfl rfl fun a hE => WL.nil ?_
 refine W.seq ?_
 refine W.seq (W.region (v2 hS hE rfl rfl rfl rfl fun a hE => WL.nil ?_))
 refine W.cond hE rfl (fun hc53 => ?_) (fun hc53 => ?_)
 ·replace hr := iteT hc53 hr
  refine W.seq (W.region (vp hS hE rfl rfl fun a hE => ?_))
  obtain ⟨x54, hx55, hr⟩ := bindS hr
  refine vP hS hE (Gives.catS hE rfl rfl hx55) rfl fun a hE => ?_
  refine vp hS hE rfl rfl fun a hE => WL.nil ?_
  refine W.ret ?_
  refine finG (fn := Tryz.f118) (rs := [.tmp 2]) (vs := [_]) hE rfl ⟨rfl, trivial⟩ ?_
  obtain rfl := Option.some.inj hr
  exact ⟨rfl, hS⟩
 replace hr := iteF hc53 hr
 refine W.skip ?_
 refine W.seq (W.region (v2 hS hE rfl rfl rfl rfl fun a hE => WL.nil ?_))
 refine W.ret ?_
 refine finG (fn := Tryz.f118) (rs := [.tmp 2]) (vs := [_]) hE rfl ⟨rfl, trivial⟩ ?_
 obtain rfl := Option.some.inj hr
 exact ⟨rfl, hS⟩
set_option maxHeartbeats 8000000 in
theorem Guideclock_ok  {w : World} {s : Sg} {R : List HP} {x0 : Int} (hS : St w s (R)) (hTab : TabS Tryz.prog s) {r : ByteArray} (hr : Guideclock x0 = some r) :
  Calls Tryz.prog 71 [vi x0].toArray w (fun e w => e = .returned (.string r) ∧ St w s (R)) := by
 refine enter Tryz.func71 rfl rfl rfl fun a hE => ?_
 rw [Guideclock] at hr
 refine W.seq (W.region (vp hS hE rfl rfl fun a hE => WL.nil ?_))
 refine W.seq (W.region (v2 hS hE rfl rfl rfl rfl fun a hE => ?_))
 obtain ⟨q51, hq52, hr⟩ := bindS hr
 have hc_ := Guidetwo_ok hS (TabS.mono (Sg.Le.refl _) hTab) hq52
 refine WL.fnq hE (hc_) (runs_plain rfl) bd118 rfl rfl rfl ?_
 clear hE hS hc_; rintro e w ⟨rfl, hS⟩; refine ⟨_, rfl, ?_⟩; clear a; intro a hE
 obtain ⟨x53, hx54, hr⟩ := bindS hr
 refine vP hS hE (Gives.catS hE rfl rfl hx54) rfl fun a hE => ?_
 refine v2 hS hE rfl rfl rfl rfl fun a hE => ?_
 refine vp hS hE rfl rfl fun a hE => ?_
 obtain ⟨q55, hq56, hr⟩ := bindS hr
 have hc_ := Guidetwo_ok hS (TabS.mono (Sg.Le.refl _) hTab) hq56
 refine WL.fnq hE (hc_) (runs_plain rfl) bd118 rfl rfl rfl ?_
 clear hE hS hc_; rintro e w ⟨rfl, hS⟩; refine ⟨_, rfl, ?_⟩; clear a; intro a hE
 obtain ⟨x57, hx58, hr⟩ := bindS hr
 refine vP hS hE (Gives.catS hE rfl rfl hx58) rfl fun a hE => ?_
 refine vp hS hE rfl rfl fun a hE => WL.nil ?_
 refine W.ret ?_
 refine finG (fn := Tryz.f71) (rs := [.tmp 2]) (vs := [_]) hE rfl ⟨rfl, trivial⟩ ?_
 obtain rfl := Option.some.inj hr
 exact ⟨rfl, hS⟩
end Go.Proofs.YtpcebngchmgckaaGreatDoor
