/- The walks of the functions that GuideProfiles reaches: each call comes to what its mirror says. The conditions are those of each contract. -/
import Derived.Test.YtpcebngchmgckaaDoorProg
import Derived.Test.YtpcebngchmgckaaDoorFpTight
import Derived.Test.YtpcebngchmgckaaDoorGuideProfilesM
import Derived.Test.YtpcebngchmgckaaDoorFpAllX
import Derived.Test.YtpcebngchmgckaaDoorGuideProfilesS
import Derived.Test.YtpcebngchmgckaaDoorFpMapS
import Derived.Test.YtpcebngchmgckaaDoorFpFld
import Derived.Test.YtpcebngchmgckaaDoorFpMapG
import Derived.Test.YtpcebngchmgckaaDoorFpMapV
import Derived.Test.YtpcebngchmgckaaDoorFpMaps
import Derived.Test.YtpcebngchmgckaaDoorFpOrd
import Derived.Test.YtpcebngchmgckaaDoorFpRf
import Derived.Test.YtpcebngchmgckaaDoorFpRng
set_option maxRecDepth 10000
namespace Go.Proofs.YtpcebngchmgckaaDoor
open Go Go.Fp
def keyGuidePoint : KeyS GuidePoint where
 ls := fun a => [.i .i64 a.Dep, .i .i64 a.Arr, .i .i64 a.Rides]
 ks := [.i .i64, .i .i64, .i .i64]
 kinds := by intro a; rfl
 same := by intro a b; cases a; cases b; rw [Bool.eq_iff_iff]; simp [eqs, Leaf.same]
 law := by intro a b h; simpa using h
 refl := by simp

def keyGuidePlace : KeyS GuidePlace where
 ls := fun a => [.i .i64 a.train, .i .i64 a.off]
 ks := [.i .i64, .i .i64]
 kinds := by intro a; rfl
 same := by intro a b; cases a; cases b; rw [Bool.eq_iff_iff]; simp [eqs, Leaf.same]
 law := by intro a b h; simpa using h
 refl := by simp

def keyAr3i64 : KeyS Ar3i64 where
 ls := fun a => [.i .i64 a.f0, .i .i64 a.f1, .i .i64 a.f2]
 ks := [.i .i64, .i .i64, .i .i64]
 kinds := by intro a; rfl
 same := by intro a b; cases a; cases b; rw [Bool.eq_iff_iff]; simp [eqs, Leaf.same]
 law := by intro a b h; simpa using h
 refl := by simp
theorem ap23 : apOk Tryd.prog 23 45 1 = true := by kernel_rfl
theorem ap26 : apOk Tryd.prog 26 47 3 = true := by kernel_rfl
theorem ap39 : apOk Tryd.prog 39 28 1 = true := by kernel_rfl
theorem ap55 : apOk Tryd.prog 55 62 3 = true := by kernel_rfl
theorem ar119 : arOk Tryd.prog 119 4 = true := by kernel_rfl
theorem arS_132 : arEqB Tryd.prog 132 3 (.i .i64) = true := by kernel_rfl
theorem bd10 : bodied Tryd.prog 10 = true := by kernel_rfl
theorem bd101 : bodied Tryd.prog 101 = true := by kernel_rfl
theorem bd102 : bodied Tryd.prog 102 = true := by kernel_rfl
theorem bd103 : bodied Tryd.prog 103 = true := by kernel_rfl
theorem bd104 : bodied Tryd.prog 104 = true := by kernel_rfl
theorem bd105 : bodied Tryd.prog 105 = true := by kernel_rfl
theorem bd106 : bodied Tryd.prog 106 = true := by kernel_rfl
theorem bd107 : bodied Tryd.prog 107 = true := by kernel_rfl
theorem bd108 : bodied Tryd.prog 108 = true := by kernel_rfl
theorem bd109 : bodied Tryd.prog 109 = true := by kernel_rfl
theorem bd110 : bodied Tryd.prog 110 = true := by kernel_rfl
theorem bd112 : bodied Tryd.prog 112 = true := by kernel_rfl
theorem bd113 : bodied Tryd.prog 113 = true := by kernel_rfl
theorem bd114 : bodied Tryd.prog 114 = true := by kernel_rfl
theorem bd12 : bodied Tryd.prog 12 = true := by kernel_rfl
theorem bd13 : bodied Tryd.prog 13 = true := by kernel_rfl
theorem bd138 : bodied Tryd.prog 138 = true := by kernel_rfl
theorem bd16 : bodied Tryd.prog 16 = true := by kernel_rfl
theorem bd17 : bodied Tryd.prog 17 = true := by kernel_rfl
theorem bd18 : bodied Tryd.prog 18 = true := by kernel_rfl
theorem bd22 : bodied Tryd.prog 22 = true := by kernel_rfl
theorem bd25 : bodied Tryd.prog 25 = true := by kernel_rfl
theorem bd26 : bodied Tryd.prog 26 = true := by kernel_rfl
theorem bd27 : bodied Tryd.prog 27 = true := by kernel_rfl
theorem bd28 : bodied Tryd.prog 28 = true := by kernel_rfl
theorem bd29 : bodied Tryd.prog 29 = true := by kernel_rfl
theorem bd30 : bodied Tryd.prog 30 = true := by kernel_rfl
theorem bd46 : bodied Tryd.prog 46 = true := by kernel_rfl
theorem bd47 : bodied Tryd.prog 47 = true := by kernel_rfl
theorem bd48 : bodied Tryd.prog 48 = true := by kernel_rfl
theorem bd49 : bodied Tryd.prog 49 = true := by kernel_rfl
theorem bd51 : bodied Tryd.prog 51 = true := by kernel_rfl
theorem bd53 : bodied Tryd.prog 53 = true := by kernel_rfl
theorem bd54 : bodied Tryd.prog 54 = true := by kernel_rfl
theorem bd55 : bodied Tryd.prog 55 = true := by kernel_rfl
theorem bd56 : bodied Tryd.prog 56 = true := by kernel_rfl
theorem bd57 : bodied Tryd.prog 57 = true := by kernel_rfl
theorem bd58 : bodied Tryd.prog 58 = true := by kernel_rfl
theorem bd59 : bodied Tryd.prog 59 = true := by kernel_rfl
theorem bd60 : bodied Tryd.prog 60 = true := by kernel_rfl
theorem bd63 : bodied Tryd.prog 63 = true := by kernel_rfl
theorem bd65 : bodied Tryd.prog 65 = true := by kernel_rfl
theorem bd66 : bodied Tryd.prog 66 = true := by kernel_rfl
theorem bd67 : bodied Tryd.prog 67 = true := by kernel_rfl
theorem bd70 : bodied Tryd.prog 70 = true := by kernel_rfl
theorem bd72 : bodied Tryd.prog 72 = true := by kernel_rfl
theorem bd73 : bodied Tryd.prog 73 = true := by kernel_rfl
theorem bd74 : bodied Tryd.prog 74 = true := by kernel_rfl
theorem bd75 : bodied Tryd.prog 75 = true := by kernel_rfl
theorem bd76 : bodied Tryd.prog 76 = true := by kernel_rfl
theorem bd77 : bodied Tryd.prog 77 = true := by kernel_rfl
theorem bd78 : bodied Tryd.prog 78 = true := by kernel_rfl
theorem bd79 : bodied Tryd.prog 79 = true := by kernel_rfl
theorem bd80 : bodied Tryd.prog 80 = true := by kernel_rfl
theorem bd82 : bodied Tryd.prog 82 = true := by kernel_rfl
theorem bd83 : bodied Tryd.prog 83 = true := by kernel_rfl
theorem bd96 : bodied Tryd.prog 96 = true := by kernel_rfl
theorem bd97 : bodied Tryd.prog 97 = true := by kernel_rfl
theorem bd98 : bodied Tryd.prog 98 = true := by kernel_rfl
theorem bd99 : bodied Tryd.prog 99 = true := by kernel_rfl
theorem cl55 : clOk Tryd.prog 55 62 3 = true := by kernel_rfl
theorem fd106_0 : fdOk Tryd.prog 106 0 0 3 = true := by kernel_rfl
theorem fd106_3 : fdOk Tryd.prog 106 3 3 3 = true := by kernel_rfl
theorem fl106_0 : fldOk Tryd.prog 106 0 0 = true := by kernel_rfl
theorem fl106_1 : fldOk Tryd.prog 106 1 1 = true := by kernel_rfl
theorem fl106_2 : fldOk Tryd.prog 106 2 2 = true := by kernel_rfl
theorem fl106_3 : fldOk Tryd.prog 106 3 3 = true := by kernel_rfl
theorem fl126_0 : fldOk Tryd.prog 126 0 0 = true := by kernel_rfl
theorem fl126_1 : fldOk Tryd.prog 126 1 1 = true := by kernel_rfl
theorem fl25_0 : fldOk Tryd.prog 25 0 0 = true := by kernel_rfl
theorem fl25_1 : fldOk Tryd.prog 25 1 1 = true := by kernel_rfl
theorem fl28_0 : fldOk Tryd.prog 28 0 0 = true := by kernel_rfl
theorem fl44_0 : fldOk Tryd.prog 44 0 0 = true := by kernel_rfl
theorem fl44_1 : fldOk Tryd.prog 44 1 1 = true := by kernel_rfl
theorem fl44_2 : fldOk Tryd.prog 44 2 2 = true := by kernel_rfl
theorem fl44_3 : fldOk Tryd.prog 44 3 3 = true := by kernel_rfl
theorem fl47_0 : fldOk Tryd.prog 47 0 0 = true := by kernel_rfl
theorem fl47_1 : fldOk Tryd.prog 47 1 1 = true := by kernel_rfl
theorem fl47_2 : fldOk Tryd.prog 47 2 2 = true := by kernel_rfl
theorem fl62_0 : fldOk Tryd.prog 62 0 0 = true := by kernel_rfl
theorem fl62_1 : fldOk Tryd.prog 62 1 1 = true := by kernel_rfl
theorem fl62_2 : fldOk Tryd.prog 62 2 2 = true := by kernel_rfl
theorem fl94_0 : fldOk Tryd.prog 94 0 0 = true := by kernel_rfl
theorem fl94_1 : fldOk Tryd.prog 94 1 2 = true := by kernel_rfl
theorem isl26 : isSl Tryd.prog 26 = true := by kernel_rfl
theorem mixed : Tryd.prog.follows .mixedOrders = true := by kernel_rfl
theorem mp114 : mpOk Tryd.prog keyI.ok 114 3 4 = true := by kernel_rfl
theorem mp118 : mpOkS Tryd.prog keyGuidePlace.ks 118 126 4 = true := by kernel_rfl
theorem mp156 : mpOk Tryd.prog keyI.ok 156 3 26 = true := by kernel_rfl
theorem mp157 : mpOkS Tryd.prog keyGuidePoint.ks 157 62 4 = true := by kernel_rfl
theorem se47 : stEqB Tryd.prog 47 [.i .i64, .i .i64, .i .i64] = true := by kernel_rfl
theorem se62 : stEqB Tryd.prog 62 [.i .i64, .i .i64, .i .i64] = true := by kernel_rfl
theorem sl22 : slOk Tryd.prog 22 44 4 = true := by kernel_rfl
theorem sl23 : slOk Tryd.prog 23 45 1 = true := by kernel_rfl
theorem sl26 : slOk Tryd.prog 26 47 3 = true := by kernel_rfl
theorem sl39 : slOk Tryd.prog 39 28 1 = true := by kernel_rfl
theorem sl42 : slOk Tryd.prog 42 106 4 = true := by kernel_rfl
theorem sl45 : slOk Tryd.prog 45 3 1 = true := by kernel_rfl
theorem sl55 : slOk Tryd.prog 55 62 3 = true := by kernel_rfl
theorem ty106 : tyOk Tryd.prog 106 true 4 = true := by kernel_rfl
theorem ty118 : tyOk Tryd.prog 118 false 1 = true := by kernel_rfl
theorem ty119 : tyOk Tryd.prog 119 true 4 = true := by kernel_rfl
theorem ty126 : tyOk Tryd.prog 126 true 2 = true := by kernel_rfl
theorem ty128 : tyOk Tryd.prog 128 false 1 = true := by kernel_rfl
theorem ty129 : tyOk Tryd.prog 129 false 1 = true := by kernel_rfl
theorem ty130 : tyOk Tryd.prog 130 false 1 = true := by kernel_rfl
theorem ty132 : tyOk Tryd.prog 132 true 3 = true := by kernel_rfl
theorem ty137 : tyOk Tryd.prog 137 false 1 = true := by kernel_rfl
theorem ty156 : tyOk Tryd.prog 156 false 1 = true := by kernel_rfl
theorem ty22 : tyOk Tryd.prog 22 false 1 = true := by kernel_rfl
theorem ty23 : tyOk Tryd.prog 23 false 1 = true := by kernel_rfl
theorem ty25 : tyOk Tryd.prog 25 true 2 = true := by kernel_rfl
theorem ty26 : tyOk Tryd.prog 26 false 1 = true := by kernel_rfl
theorem ty28 : tyOk Tryd.prog 28 true 1 = true := by kernel_rfl
theorem ty3 : tyOk Tryd.prog 3 false 1 = true := by kernel_rfl
theorem ty39 : tyOk Tryd.prog 39 false 1 = true := by kernel_rfl
theorem ty4 : tyOk Tryd.prog 4 false 1 = true := by kernel_rfl
theorem ty42 : tyOk Tryd.prog 42 false 1 = true := by kernel_rfl
theorem ty44 : tyOk Tryd.prog 44 true 4 = true := by kernel_rfl
theorem ty45 : tyOk Tryd.prog 45 false 1 = true := by kernel_rfl
theorem ty47 : tyOk Tryd.prog 47 true 3 = true := by kernel_rfl
theorem ty62 : tyOk Tryd.prog 62 true 3 = true := by kernel_rfl
theorem ty94 : tyOk Tryd.prog 94 true 3 = true := by kernel_rfl
theorem um118 : Tryd.prog.underlying 118 = some (.map 126 4) := by kernel_rfl
theorem um128 : Tryd.prog.underlying 128 = some (.map 132 4) := by kernel_rfl
theorem um156 : Tryd.prog.underlying 156 = some (.map 3 26) := by kernel_rfl
theorem zm4 : (Tryd.prog.info? 4).bind (fun i => i.zero) = some (Value.bool false) := by kernel_rfl
theorem zr106 : (Tryd.prog.info? 106).bind (fun i => i.zero.map fun z => z.cells.toList) = some [vi 0, vi 0, vi 0, vi 0] := by kernel_rfl
theorem zr119 : (Tryd.prog.info? 119).bind (fun i => i.zero.map fun z => z.cells.toList) = some [.map none, .map none, .map none, .map none] := by kernel_rfl
theorem zr126 : (Tryd.prog.info? 126).bind (fun i => i.zero.map fun z => z.cells.toList) = some [vi 0, vi 0] := by kernel_rfl
theorem zr128 : (Tryd.prog.info? 128).bind (fun i => i.zero.map fun z => z.cells.toList) = some [.map none] := by kernel_rfl
theorem zr129 : (Tryd.prog.info? 129).bind (fun i => i.zero.map fun z => z.cells.toList) = some [.nilFunc] := by kernel_rfl
theorem zr130 : (Tryd.prog.info? 130).bind (fun i => i.zero.map fun z => z.cells.toList) = some [.nilFunc] := by kernel_rfl
theorem zr132 : (Tryd.prog.info? 132).bind (fun i => i.zero.map fun z => z.cells.toList) = some [vi 0, vi 0, vi 0] := by kernel_rfl
theorem zr137 : (Tryd.prog.info? 137).bind (fun i => i.zero.map fun z => z.cells.toList) = some [.nilFunc] := by kernel_rfl
theorem zr156 : (Tryd.prog.info? 156).bind (fun i => i.zero.map fun z => z.cells.toList) = some [.map none] := by kernel_rfl
theorem zr164 : (Tryd.prog.info? 164).bind (fun i => i.zero.map fun z => z.cells.toList) = some [.pointer none, .slice none 0 0] := by kernel_rfl
theorem zr25 : (Tryd.prog.info? 25).bind (fun i => i.zero.map fun z => z.cells.toList) = some [.slice none 0 0, .slice none 0 0] := by kernel_rfl
theorem zr26 : (Tryd.prog.info? 26).bind (fun i => i.zero.map fun z => z.cells.toList) = some [.slice none 0 0] := by kernel_rfl
theorem zr28 : (Tryd.prog.info? 28).bind (fun i => i.zero.map fun z => z.cells.toList) = some [.slice none 0 0] := by kernel_rfl
theorem zr39 : (Tryd.prog.info? 39).bind (fun i => i.zero.map fun z => z.cells.toList) = some [.slice none 0 0] := by kernel_rfl
theorem zr4 : (Tryd.prog.info? 4).bind (fun i => i.zero.map fun z => z.cells.toList) = some [.bool false] := by kernel_rfl
theorem zr44 : (Tryd.prog.info? 44).bind (fun i => i.zero.map fun z => z.cells.toList) = some [vi 0, vi 0, .slice none 0 0, .slice none 0 0] := by kernel_rfl
theorem zr47 : (Tryd.prog.info? 47).bind (fun i => i.zero.map fun z => z.cells.toList) = some [vi 0, vi 0, vi 0] := by kernel_rfl
theorem zr62 : (Tryd.prog.info? 62).bind (fun i => i.zero.map fun z => z.cells.toList) = some [vi 0, vi 0, vi 0] := by kernel_rfl
theorem zr94 : (Tryd.prog.info? 94).bind (fun i => i.zero.map fun z => z.cells.toList) = some [.slice none 0 0, .slice none 0 0, vi 0] := by kernel_rfl
theorem zs26 : (Tryd.prog.info? 26).bind (fun i => i.zero) = some (.slice none 0 0) := by kernel_rfl
theorem sbmixed : Tryd.prog.follows .mixedOrders = true := by kernel_rfl
theorem sbty60 : tyOk Tryd.prog 161 false 1 = true := by kernel_rfl
theorem sbty61 : tyOk Tryd.prog 162 false 1 = true := by kernel_rfl
theorem sbfl0 : fldOk Tryd.prog 164 0 0 = true := by kernel_rfl
theorem sbfl1 : fldOk Tryd.prog 164 1 1 = true := by kernel_rfl
theorem sbap : apOk Tryd.prog 162 5 1 = true := by kernel_rfl
theorem sbsl : slOk Tryd.prog 162 5 1 = true := by kernel_rfl
theorem sbpt : ptOk Tryd.prog 161 164 = true := by kernel_rfl
theorem sbu60 : Tryd.prog.underlying 161 = some (.pointer 164) := by kernel_rfl
theorem sbu77 : Tryd.prog.underlying 218 = some .unsafePointer := by kernel_rfl
theorem sbu76 : Tryd.prog.underlying 199 = some (.pointer 5) := by kernel_rfl
theorem sbu9 : Tryd.prog.underlying 9 = some .string := by kernel_rfl
theorem sbst : stOk Tryd.prog 9 = true := by kernel_rfl
theorem sbc : Tryd.prog.cellsOf 164 = 2 := by kernel_rfl
theorem sbc5 : Tryd.prog.cellsOf 5 = 1 := by kernel_rfl
theorem sbi0 : (Tryd.prog.info? 164).map (·.size) = some 2 := by kernel_rfl
theorem sbi : ∃ j, Tryd.prog.info? 164 = some j ∧ j.size ≠ 0 := by
 have h := sbi0
 rw [Option.map_eq_some_iff] at h
 obtain ⟨j, h1, h2⟩ := h
 exact ⟨j, h1, by omega⟩
theorem sbsame : sameOk Tryd.prog 158 := ⟨_, rfl, by kernel_rfl, by kernel_rfl, by kernel_rfl, by kernel_rfl⟩
theorem sbbd : bodied Tryd.prog 137 = true := by kernel_rfl
section
variable {w : World} {s : Sg} {R : List HP} {b : Nat} {y : ByteArray}
theorem sbCheck_ok {f a : Option Addr} {c : Nat} (hf : f = none ∨ f = some ⟨b, 0, none⟩) (hS : St w s (pc b [.pointer f, .slice a y.size c].toArray 164 :: R)) :
  Calls Tryd.prog 137 [pp b].toArray w (fun e w => e = .returned (.tuple #[]) ∧ St w s (pc b [pp b, .slice a y.size c].toArray 164 :: R)) := by
 obtain ⟨j, hj1, hj2⟩ := sbi
 refine enter Tryd.func137 rfl rfl rfl fun a hE => ?_
 refine W.seq (W.region (vp hS hE rfl rfl fun a hE => ?_))
 refine vP hS hE (Gives.nilOk hE rfl) rfl fun a hE => ?_
 refine vP hS hE (Gives.fld hE rfl sbfl0) rfl fun a hE => ?_
 refine vP hS hE (Gives.loadB hE 0 rfl rfl rfl sbty60) rfl fun a hE => ?_
 refine vP hS hE (Gives.isNilP hE rfl rfl sbpt) rfl fun a hE => WL.nil ?_
 refine W.cond hE rfl (fun hc => ?_) (fun hc => ?_)
 ·refine W.region ?_
  refine v2 hS hE rfl rfl rfl rfl fun a hE => ?_
  refine vP hS hE (Gives.toUnsafe hE 0 rfl rfl rfl sbu60 sbu77 hj1 hj2) rfl fun a hE => ?_
  refine WL.same hE sbsame (runs_plain rfl) rfl rfl fun a hE => ?_
  refine vP hS hE (Gives.fromUnsafe hE 0 rfl rfl sbu77 sbu60 hj1 sbc rfl) rfl fun a hE => ?_
  refine vP hS hE (Gives.nilOk hE rfl) rfl fun a hE => ?_
  refine vP hS hE (Gives.fld hE rfl sbfl0) rfl fun a hE => ?_
  refine WL.storeI hE hS 0 rfl _ (runs_plain rfl) rfl rfl rfl sbty60 rfl rfl rfl rfl ?_; clear hE hS a; intro a w hE hS
  refine WL.nil ?_
  refine fin0 hE rfl ?_
  exact ⟨rfl, hS⟩
 have hf' : f = some ⟨b, 0, none⟩ := by
  rcases hf with rfl | h
  ·cases hc
  exact h
 subst hf'
 refine W.seq (W.region (vp hS hE rfl rfl fun a hE => ?_))
 refine vP hS hE (Gives.nilOk hE rfl) rfl fun a hE => ?_
 refine vP hS hE (Gives.fld hE rfl sbfl0) rfl fun a hE => ?_
 refine vP hS hE (Gives.loadB hE 0 rfl rfl rfl sbty60) rfl fun a hE => ?_
 refine vp hS hE rfl rfl fun a hE => ?_
 refine vP hS hE (Gives.neqSame hE rfl rfl sbu60 hj1) rfl fun a hE => WL.nil ?_
 refine W.condF hE rfl rfl ?_
 refine W.skip ?_
 refine fin0 hE rfl ?_
 exact ⟨rfl, hS⟩

theorem sbWrite_ok {x r : ByteArray} (hS : St w s (sbC 164 5 b y :: R)) (hr : sbw y x = some r) :
  Calls Tryd.prog 108 [pp b, .string x].toArray w (fun e w => e = .returned (.tuple #[vi x.size, .nilIface]) ∧ St w s (sbC 164 5 b r :: R)) := by
 obtain ⟨h1, h2, rfl⟩ := sbw_some hr
 obtain ⟨f, sa, c, hf, ha, hS⟩ := hS.sbOpen
 refine enter Tryd.func108 rfl rfl rfl fun a hE => ?_
 refine W.seq (W.region (v2 hS hE rfl rfl rfl rfl fun a hE => WL.nil ?_))
 refine W.seq (W.region (vp hS hE rfl rfl fun a hE => ?_))
 refine WL.fnq hE (sbCheck_ok hf hS) (runs_plain rfl) sbbd rfl rfl rfl ?_
 clear hE hS; rintro e w ⟨rfl, hS⟩; refine ⟨_, rfl, ?_⟩; clear a; intro a hE
 refine WL.nil ?_
 refine W.seq (W.region (v2 hS hE rfl rfl rfl rfl fun a hE => ?_))
 refine vP hS hE (Gives.nilOk hE rfl) rfl fun a hE => ?_
 refine vP hS hE (Gives.fld hE rfl sbfl1) rfl fun a hE => ?_
 refine vP hS hE (Gives.loadB hE 0 rfl rfl rfl sbty61) rfl fun a hE => ?_
 refine vp hS hE rfl rfl fun a hE => ?_
 refine WL.appStr hE hS 1 (runs_plain rfl) rfl rfl rfl sbap sbu9 h1 h2 ha.1 rfl ?_; clear hE hS a ha; intro sa2 c2 a w ha hE hS
 refine vP hS hE (Gives.nilOk hE rfl) rfl fun a hE => ?_
 refine vP hS hE (Gives.fld hE rfl sbfl1) rfl fun a hE => ?_
 refine WL.storeI hE hS 0 rfl _ (runs_plain rfl) rfl rfl rfl sbty61 rfl rfl rfl rfl ?_; clear hE hS a; intro a w hE hS
 refine WL.nil ?_
 refine W.seq (W.region (vp hS hE rfl rfl fun a hE => ?_))
 refine vP hS hE (Gives.lenS hE rfl sbst) rfl fun a hE => ?_
 refine v2 hS hE rfl rfl rfl rfl fun a hE => WL.nil ?_
 refine W.ret ?_
 refine finG (fn := Tryd.f108) (rs := [.tmp 4, .tmp 5]) (vs := [_, _]) hE rfl ⟨rfl, rfl, trivial⟩ ?_
 refine ⟨rfl, St.sbClose (f := some ⟨b, 0, none⟩) (a := sa2) (c := c2) (.inr rfl) ha ?_⟩
 rw [ByteArray.size_append, byteCells_app]
 exact hS

theorem sbString_ok (hS : St w s (sbC 164 5 b y :: R)) :
  Calls Tryd.prog 110 [pp b].toArray w (fun e w => e = .returned (.string y) ∧ St w s R) := by
 obtain ⟨f, sa, c, hf, ha, hS⟩ := hS.sbOpen
 refine enter Tryd.func110 rfl rfl rfl fun a hE => ?_
 refine W.seq (W.region (vp hS hE rfl rfl fun a hE => WL.nil ?_))
 refine W.seq ?_
 refine W.regionE (sel (fun w => St w s (pc b [.pointer f, .slice sa y.size c].toArray 164 :: vecC 5 1 sa c y.size (byteCells y) :: R)) (fun w => St w s R)) (fun b i => cond b (!(i == 10)) true) sbmixed ?_
 replace hS := hS.drew
 refine Rg.takeP (i := 0) hE rfl (by kernel_rfl) (runs_plain rfl) (Gives.p hE rfl) rfl (tw_sel (fun _ => hS) (fun _ => hS.tail.tail)) fun a hE => ?_
 refine Rg.takeP (i := 5) hE rfl (by kernel_rfl) (runs_plain rfl) (Gives.p hE rfl) rfl (tw_sel (fun _ => hS) (fun _ => hS.tail.tail)) fun a hE => ?_
 refine Rg.takeP (i := 1) hE rfl (by kernel_rfl) (runs_plain rfl) (Gives.nilOk hE rfl) rfl (tw_sel (fun _ => hS) (fun _ => hS.tail.tail)) fun a hE => ?_
 refine Rg.takeP (i := 6) hE rfl (by kernel_rfl) (runs_plain rfl) (Gives.nilOk hE rfl) rfl (tw_sel (fun _ => hS) (fun _ => hS.tail.tail)) fun a hE => ?_
 refine Rg.takeP (i := 2) hE rfl (by kernel_rfl) (runs_plain rfl) (Gives.fld hE rfl sbfl1) rfl (tw_sel (fun _ => hS) (fun _ => hS.tail.tail)) fun a hE => ?_
 refine Rg.takeP (i := 7) hE rfl (by kernel_rfl) (runs_plain rfl) (Gives.fld hE rfl sbfl1) rfl (tw_sel (fun _ => hS) (fun _ => hS.tail.tail)) fun a hE => ?_
 refine Rg.two (i := 3) (j := 8) true true true true rfl rfl (by kernel_rfl) (by kernel_rfl) (by kernel_rfl) (by kernel_rfl) (by kernel_rfl) ?_ ?_
 ·refine vP hS hE (Gives.loadB hE 0 rfl rfl rfl sbty61) rfl fun a hE => WL.nil ?_
  refine ⟨⟨fun _ => hS, fun _ => hS.tail.tail⟩, ?_⟩
  refine Rg.takeP (i := 4) hE rfl (by kernel_rfl) (runs_plain rfl) (Gives.sliceData hE rfl ha.2) rfl (tw_sel (fun _ => hS) (fun _ => hS.tail.tail)) fun a hE => ?_
  refine Rg.one (i := 8) true true rfl (by kernel_rfl) (by kernel_rfl) (by kernel_rfl) ?_
  refine vP hS hE (Gives.loadB hE 0 rfl rfl rfl sbty61) rfl fun a hE => WL.nil ?_
  refine ⟨⟨fun _ => hS, fun _ => hS.tail.tail⟩, ?_⟩
  refine Rg.takeP (i := 9) hE rfl (by kernel_rfl) (runs_plain rfl) (Gives.len hE rfl sbsl) rfl (tw_sel (fun _ => hS) (fun _ => hS.tail.tail)) fun a hE => ?_
  refine Rg.one (i := 10) false true rfl (by kernel_rfl) (by kernel_rfl) (by kernel_rfl) ?_
  refine WL.sbString hE hS 1 (runs_plain rfl) rfl rfl rfl ha.1 sbu76 sbc5 rfl ?_; clear hE hS a; intro a w hE hS
  refine WL.nil ?_
  refine ⟨⟨fun h => absurd h (by decide), fun _ => hS.tail⟩, ?_⟩
  refine Rg.takeP (i := 11) hE rfl (by kernel_rfl) (runs_plain rfl) (Gives.p hE rfl) rfl (tw_sel (fun h => absurd h (by decide)) (fun _ => hS.tail)) fun a hE => ?_
  refine Rg.done (by kernel_rfl) ?_
  refine W.ret ?_
  refine finG (fn := Tryd.f110) (rs := [.tmp 2]) (vs := [_]) hE rfl ⟨rfl, trivial⟩ ?_
  exact ⟨rfl, hS.tail⟩
 refine vP hS hE (Gives.loadB hE 0 rfl rfl rfl sbty61) rfl fun a hE => WL.nil ?_
 refine ⟨⟨fun _ => hS, fun _ => hS.tail.tail⟩, ?_⟩
 refine Rg.takeP (i := 9) hE rfl (by kernel_rfl) (runs_plain rfl) (Gives.len hE rfl sbsl) rfl (tw_sel (fun _ => hS) (fun _ => hS.tail.tail)) fun a hE => ?_
 refine Rg.one (i := 3) true true rfl (by kernel_rfl) (by kernel_rfl) (by kernel_rfl) ?_
 refine vP hS hE (Gives.loadB hE 0 rfl rfl rfl sbty61) rfl fun a hE => WL.nil ?_
 refine ⟨⟨fun _ => hS, fun _ => hS.tail.tail⟩, ?_⟩
 refine Rg.takeP (i := 4) hE rfl (by kernel_rfl) (runs_plain rfl) (Gives.sliceData hE rfl ha.2) rfl (tw_sel (fun _ => hS) (fun _ => hS.tail.tail)) fun a hE => ?_
 refine Rg.one (i := 10) false true rfl (by kernel_rfl) (by kernel_rfl) (by kernel_rfl) ?_
 refine WL.sbString hE hS 1 (runs_plain rfl) rfl rfl rfl ha.1 sbu76 sbc5 rfl ?_; clear hE hS a; intro a w hE hS
 refine WL.nil ?_
 refine ⟨⟨fun h => absurd h (by decide), fun _ => hS.tail⟩, ?_⟩
 refine Rg.takeP (i := 11) hE rfl (by kernel_rfl) (runs_plain rfl) (Gives.p hE rfl) rfl (tw_sel (fun h => absurd h (by decide)) (fun _ => hS.tail)) fun a hE => ?_
 refine Rg.done (by kernel_rfl) ?_
 refine W.ret ?_
 refine finG (fn := Tryd.f110) (rs := [.tmp 2]) (vs := [_]) hE rfl ⟨rfl, trivial⟩ ?_
 exact ⟨rfl, hS.tail⟩
end
section
open Go.Sort
theorem cmpc_54 (x y : Int) : CmpCompareint x y = Lib.compareInt x y := by
 unfold CmpCompareint CmpisNaNint Lib.compareInt
 simp
theorem cmpx_54 (x y : Int) (W : World) : Calls Tryd.prog 54 #[vi x, vi y] W fun e w' => e = .returned (vi (CmpCompareint x y)) ∧ w' = W := by
 rw [cmpc_54]; exact Tryd.cmp_Compare_int x y W
end
section
open Go.Sort
set_option maxHeartbeats 8000000 in
theorem SlicesCompareLint_x  {w : World} {s : Sg} {R : List HP} {x0 : List Int} {a0 : Option Addr} {c0 : Nat} {x1 : List Int} {a1 : Option Addr} {c1 : Nat} (hS : St w s (R)) {w0 : World} (hw : w = w0) (h0 : Sl 1 (RI .i64) s a0 c0 x0) (h1 : Sl 1 (RI .i64) s a1 c1 x1) {r : Int} (hr : SlicesCompareLint x0 x1 = some r) :
  Calls Tryd.prog 82 [.slice a0 x0.length c0, .slice a1 x1.length c1].toArray w (fun e w => e = .returned (vi r) ∧ w = w0) := by
 refine enter Tryd.func82 rfl rfl rfl fun a hE => ?_
 rw [SlicesCompareLint] at hr
 refine W.seq (W.region (vp hS hE rfl rfl fun a hE => WL.nil ?_))
 refine W.seq ?_
 refine W.seq (W.region (vp hS hE rfl rfl fun a hE => ?_))
 refine vP hS hE (Gives.len hE rfl sl45) rfl fun a hE => ?_
 refine vp hS hE rfl rfl fun a hE => WL.nil ?_
 obtain ⟨q52, hq51, hr⟩ := bindS hr
 refine W.cut (fun a w => (.next ()) = q52 ∧ Rep a 36 [(0, .slice a0 x0.length c0), (1, .slice a1 x1.length c1)] ∧ St w s (R) ∧ w = w0) ?_ ?_
 ·refine W.block ?_
  refine W.loop (fun m a w => ∃ (rest55 : List Int) (k53 : Nat), rest55.length = m ∧ x0.drop k53 = rest55 ∧ SlicesCompareLint.loop1 x1 rest55 k53 = some q52 ∧ Rep a 36 [(0, .slice a0 x0.length c0), (1, .slice a1 x1.length c1), (9, .slice a0 x0.length c0), (10, vi ((x0).length : Int)), (11, vi ((k53 : Nat) : Int))] ∧ St w s (R) ∧ w = w0) (m := x0.length) ⟨x0, 0, rfl, rfl, hq51, hE.pick _ ⟨rfl, rfl, rfl, rfl, rfl, trivial⟩, hS, hw⟩ ?_
  clear hE hS hw a w hq51; rintro m59 a w ⟨rest55, k53, rfl, hd56, hq51, hE, hS, hw⟩
  refine W.gen fun K62 hK62 => ?_
  rcases rest55 with _ | ⟨x54, rest55⟩
  ·have hlt57 := drop_nil hd56
   refine W.seq (W.region (vp hS hE rfl rfl fun a hE => WL.nil ?_))
   refine W.seq ?_
   refine W.condF hE rfl (decide_eq_false (by omega)) ?_
   subst hK62
   refine W.exit rfl ?_
   exact ⟨Option.some.inj hq51, hE.pick _ ⟨rfl, rfl, trivial⟩, hS, hw⟩
  obtain ⟨hlt57, hx58, hd56⟩ := drop_cons hd56
  rw [SlicesCompareLint.loop1] at hq51
  refine W.seq (W.region (vp hS hE rfl rfl fun a hE => WL.nil ?_))
  refine W.seq ?_
  refine W.condT hE rfl (decide_eq_true (by omega)) ?_
  refine W.skip ?_
  refine W.seq ?_
  refine W.block ?_
  refine W.seq (W.region (vp hS hE rfl rfl fun a hE => ?_))
  obtain ⟨cs63, hl64, hR65, hat66⟩ := h0.at hx58
  subst hR65
  refine vP hS hE (Gives.idx hE k53 rfl rfl sl45 rfl hlt57 (h0.aok hlt57)) rfl fun a hE => ?_
  refine vP hS hE (Gives.load1 hE rfl (fun w h => hat66 w _ h) ty3) rfl fun a hE => ?_
  refine v2 hS hE rfl rfl rfl rfl fun a hE => WL.nil ?_
  refine W.seq ?_
  refine W.seq (W.region (v2 hS hE rfl rfl rfl rfl fun a hE => ?_))
  refine vP hS hE (Gives.len hE rfl sl45) rfl fun a hE => ?_
  refine vp hS hE rfl rfl fun a hE => WL.nil ?_
  refine W.cond hE rfl (fun hc67 => ?_) (fun hc67 => ?_)
  ·replace hq51 := iteT hc67 hq51
   refine W.seq (W.region (vp hS hE rfl rfl fun a hE => WL.nil ?_))
   refine W.ret ?_
   subst hK62
   rw [← Option.some.inj hq51] at hr
   dsimp only at hr
   refine finG (fn := Tryd.f82) (rs := [.tmp 4]) (vs := [_]) hE rfl ⟨rfl, trivial⟩ ?_
   obtain rfl := Option.some.inj hr
   exact ⟨rfl, hw⟩
  replace hq51 := iteF hc67 hq51
  refine W.skip ?_
  refine W.seq (W.region (v2 hS hE rfl rfl rfl rfl fun a hE => ?_))
  obtain ⟨x68, hx69, hq51⟩ := bindS hq51
  obtain ⟨hi70, hlt71, hy72⟩ := gx_some hx69
  obtain ⟨cs73, hl74, hR75, hat76⟩ := h1.at hy72
  subst hR75
  refine vP hS hE (Gives.idx hE (((k53 : Nat) : Int)).toNat rfl rfl sl45 hi70 hlt71 (h1.aok hlt71)) rfl fun a hE => ?_
  refine vP hS hE (Gives.load1 hE rfl (fun w h => hat76 w _ h) ty3) rfl fun a hE => ?_
  refine vp hS hE rfl rfl fun a hE => WL.nil ?_
  refine W.seq (W.region (v2 hS hE rfl rfl rfl rfl fun a hE => ?_))
  refine WL.fnq hE (cmpx_54 x54 x68 _) (runs_plain rfl) bd54 rfl rfl rfl ?_
  clear hE; rintro e w1 ⟨rfl, hw1⟩; rw [hw1]; clear hw1 w1; refine ⟨_, rfl, ?_⟩; clear a; intro a hE
  refine vp hS hE rfl rfl fun a hE => WL.nil ?_
  refine W.seq (W.region (v2 hS hE rfl rfl rfl rfl fun a hE => WL.nil ?_))
  refine W.cond hE rfl (fun hc77 => ?_) (fun hc77 => ?_)
  ·replace hq51 := iteT hc77 hq51
   refine W.seq (W.region (v2 hS hE rfl rfl rfl rfl fun a hE => WL.nil ?_))
   refine W.ret ?_
   subst hK62
   rw [← Option.some.inj hq51] at hr
   dsimp only at hr
   refine finG (fn := Tryd.f82) (rs := [.tmp 4]) (vs := [_]) hE rfl ⟨rfl, trivial⟩ ?_
   obtain rfl := Option.some.inj hr
   exact ⟨rfl, hw⟩
  replace hq51 := iteF hc77 hq51
  refine W.skip ?_
  refine W.region ?_
  refine vP hS hE (Gives.inc hE rfl (by have := h0.small; omega)) rfl fun a hE => ?_
  refine vp hS hE rfl rfl fun a hE => WL.nil ?_
  subst hK62
  exact ⟨rest55.length, Nat.lt_succ_self _, rest55, k53 + 1, rfl, hd56, hq51, hE.pick _ ⟨rfl, rfl, rfl, rfl, rfl, trivial⟩, hS, hw⟩
 clear hE hS hw a w; rintro a w ⟨rfl, hE, hS, hw⟩
 dsimp only at hr
 refine W.seq ?_
 refine W.seq (W.region (vp hS hE rfl rfl fun a hE => ?_))
 refine vP hS hE (Gives.len hE rfl sl45) rfl fun a hE => ?_
 refine vp hS hE rfl rfl fun a hE => ?_
 refine vP hS hE (Gives.len hE rfl sl45) rfl fun a hE => ?_
 refine vp hS hE rfl rfl fun a hE => WL.nil ?_
 refine W.cond hE rfl (fun hc78 => ?_) (fun hc78 => ?_)
 ·replace hr := iteT hc78 hr
  refine W.seq (W.region (vp hS hE rfl rfl fun a hE => WL.nil ?_))
  refine W.ret ?_
  refine finG (fn := Tryd.f82) (rs := [.tmp 4]) (vs := [_]) hE rfl ⟨rfl, trivial⟩ ?_
  obtain rfl := Option.some.inj hr
  exact ⟨rfl, hw⟩
 replace hr := iteF hc78 hr
 refine W.skip ?_
 refine W.seq (W.region (vp hS hE rfl rfl fun a hE => WL.nil ?_))
 refine W.ret ?_
 refine finG (fn := Tryd.f82) (rs := [.tmp 4]) (vs := [_]) hE rfl ⟨rfl, trivial⟩ ?_
 obtain rfl := Option.some.inj hr
 exact ⟨rfl, hw⟩
set_option maxHeartbeats 8000000 in
theorem Fishref2ProfileOf_1_x  {w : World} {s : Sg} {R : List HP} {x0 : GuidePoint} {x1 : GuidePoint} (hS : St w s (R)) {w0 : World} (hX : XW w0 w)  {r : Int} (hr : Fishref2ProfileOf_1 x0 x1 = some r) :
  Calls Tryd.prog 81 [.agg (GuidePoint.cells x0).toArray, .agg (GuidePoint.cells x1).toArray].toArray w (fun e w => e = .returned (vi r) ∧ St w s (R) ∧ XW w0 w) := by
 refine enter Tryd.func81 rfl rfl rfl fun a hE => ?_
 rw [Fishref2ProfileOf_1] at hr
 refine W.seq (W.region ?_)
 refine WL.boxX hE hS hX (runs_plain rfl) rfl rfl rfl ?_; clear hE hS hX a w; intro b51 a w hE hS hX
 refine WL.boxX hE hS hX (runs_plain rfl) rfl rfl rfl ?_; clear hE hS hX a w; intro b52 a w hE hS hX
 refine vp hS hE rfl rfl fun a hE => WL.nil ?_
 refine W.seq (W.region (vP hS hE (Gives.fld hE rfl fl62_0) rfl fun a hE => ?_))
 refine vP hS hE (Gives.loadB hE 1 rfl rfl rfl ty3) rfl fun a hE => ?_
 refine vP hS hE (Gives.fld hE rfl fl62_1) rfl fun a hE => ?_
 refine vP hS hE (Gives.loadB hE 1 rfl rfl rfl ty3) rfl fun a hE => ?_
 refine vP hS hE (Gives.fld hE rfl fl62_2) rfl fun a hE => ?_
 refine vP hS hE (Gives.loadB hE 1 rfl rfl rfl ty3) rfl fun a hE => ?_
 refine WL.litX hE hS hX (e := 3) (es := 1) (vs := [(0, vi x0.Dep), (1, vi x0.Arr), (2, vi x0.Rides)]) (cs := [vi x0.Dep, vi x0.Arr, vi x0.Rides]) (runs_plain rfl) rfl (by kernel_rfl) rfl ?_; clear hE hS hX a w; intro b53 a w hE hS hX
 replace hS := hS.ptVec (es := 1) (m := 3) rfl (by decide)
 have h55 : Ev 1 (RI .i64) s [vi x0.Dep, vi x0.Arr, vi x0.Rides] [x0.Dep, x0.Arr, x0.Rides] := (Ev.cons (c1 := [vi x0.Dep]) rfl rfl (Ev.cons (c1 := [vi x0.Arr]) rfl rfl (Ev.cons (c1 := [vi x0.Rides]) rfl rfl (Ev.nil))))
 have hF := hS.fixD RI.mono 0 rfl h55 (rfl); clear hS; obtain ⟨s56, hle57, hS, h58⟩ := hF
 refine vP hS hE (Gives.fld hE rfl fl62_0) rfl fun a hE => ?_
 refine vP hS hE (Gives.loadB hE 0 rfl rfl rfl ty3) rfl fun a hE => ?_
 refine vP hS hE (Gives.fld hE rfl fl62_1) rfl fun a hE => ?_
 refine vP hS hE (Gives.loadB hE 0 rfl rfl rfl ty3) rfl fun a hE => ?_
 refine vP hS hE (Gives.fld hE rfl fl62_2) rfl fun a hE => ?_
 refine vP hS hE (Gives.loadB hE 0 rfl rfl rfl ty3) rfl fun a hE => ?_
 refine WL.litX hE hS hX (e := 3) (es := 1) (vs := [(0, vi x1.Dep), (1, vi x1.Arr), (2, vi x1.Rides)]) (cs := [vi x1.Dep, vi x1.Arr, vi x1.Rides]) (runs_plain rfl) rfl (by kernel_rfl) rfl ?_; clear hE hS hX a w; intro b59 a w hE hS hX
 replace hS := hS.ptVec (es := 1) (m := 3) rfl (by decide)
 have h61 : Ev 1 (RI .i64) s56 [vi x1.Dep, vi x1.Arr, vi x1.Rides] [x1.Dep, x1.Arr, x1.Rides] := (Ev.cons (c1 := [vi x1.Dep]) rfl rfl (Ev.cons (c1 := [vi x1.Arr]) rfl rfl (Ev.cons (c1 := [vi x1.Rides]) rfl rfl (Ev.nil))))
 have hF := hS.fixD RI.mono 0 rfl h61 (rfl); clear hS; obtain ⟨s62, hle63, hS, h64⟩ := hF
 replace h58 := Sl.mono RI.mono hle63 h58
 obtain ⟨q65, hq66, hr⟩ := bindS hr
 have hc_ := SlicesCompareLint_x hS rfl h58 h64 hq66
 refine WL.fnq hE (hc_) (runs_plain rfl) bd82 rfl rfl rfl ?_
 clear hE hc_; rintro e w1 ⟨rfl, hw1⟩; rw [hw1]; clear hw1 w1; refine ⟨_, rfl, ?_⟩; clear a; intro a hE
 refine vp hS hE rfl rfl fun a hE => WL.nil ?_
 refine W.ret ?_
 refine finG (fn := Tryd.f81) (rs := [.tmp 4]) (vs := [_]) hE rfl ⟨rfl, trivial⟩ ?_
 obtain rfl := Option.some.inj hr
 replace hS := hS.tail
 replace hS := hS.tail
 exact ⟨rfl, (hS.down (Sg.Le.trans hle57 hle63)), hX⟩
theorem cmpl81 (b : List Int) : ∀ (l : List Int) (k : Nat), k + l.length ≤ b.length → ∃ v, SlicesCompareLint.loop1 b l k = some v
 | [], k, _ => ⟨_, rfl⟩
 | x :: l, k, h => by
  simp only [List.length_cons] at h
  rw [SlicesCompareLint.loop1]
  split
  ·exact ⟨_, rfl⟩
  have hg : gx b ((k : Nat) : Int) = some (b[k]'(by omega)) := by
   unfold gx
   rw [if_pos (by omega)]
   simp
  rw [hg, Option.bind_some]
  split
  ·exact ⟨_, rfl⟩
  exact cmpl81 b l (k + 1) (by omega)
theorem cmps81 (a b : List Int) (h : a.length ≤ b.length) : ∃ v, SlicesCompareLint a b = some v := by
 obtain ⟨v, hv⟩ := cmpl81 b a 0 (by omega)
 rw [SlicesCompareLint, hv, Option.bind_some]
 cases v with
 | ret r => exact ⟨_, rfl⟩
 | next u => simp only; split <;> exact ⟨_, rfl⟩
theorem binds81 {α β : Type} {A : Option α} {B : α → Option β} (h : ∃ v, A = some v) (k : ∀ v, ∃ u, B v = some u) : ∃ u, A.bind B = some u := by
 obtain ⟨v, rfl⟩ := h
 exact k v
theorem tot81 (x y : GuidePoint) : Fishref2ProfileOf_1 x y = some (Fishref2ProfileOf_1T x y) := by
 have key : ∃ v, Fishref2ProfileOf_1 x y = some v := by
  unfold Fishref2ProfileOf_1
  exact binds81 (cmps81 _ _ (by simp)) (fun v => ⟨_, rfl⟩)
 obtain ⟨v, h⟩ := key
 unfold Fishref2ProfileOf_1T
 rw [h]
 rfl
theorem sfclo81 (x y : GuidePoint) (W : World) : Calls Tryd.prog 81 #[.agg (GuidePoint.cells x).toArray, .agg (GuidePoint.cells y).toArray] W fun e w' => e = .returned (vi (Fishref2ProfileOf_1T x y)) ∧ ∃ q os', w' = Sort.grow (W.drewN q) os' :=
 (Fishref2ProfileOf_1_x (St.startX W) (XW.refl W) (tot81 x y)).mono fun _ _ h => ⟨h.1, h.2.2.grow h.2.1⟩
theorem sortC80_81 : SortC Tryd.prog 80 81 3 :=
 ⟨fun α _ enc hk h1 cf hO blk off cap d w hclo hH hb hsz => AnyQ.slices_SortFunc Tryd.laysSF80 3 Tryd.isAgg62 Tryd.sizeOf62 enc hk h1 cf hO 81 #[] blk off cap d w (enters_of Tryd.func81 (by kernel_rfl) rfl) (fun m os dk _ x y => hclo x y _) hH hb hsz,
  fun p cap fv w => AnyF.slices_SortFunc_none Tryd.laysSF80 p cap fv w⟩
theorem itSortF80_81_ok {w : World} {s : Sg} {R : List HP} {a : Option Addr} {c n : Nat} {cs : List Value} {l r : List GuidePoint} (hS : St w s (vecC 62 3 a c n cs :: R)) (h : Ev 3 RGuidePoint s cs l) (hn : l.length = n) (hr : srtF Fishref2ProfileOf_1T l = some r) :
  Calls Tryd.prog 80 [.slice a n c, .func (.func 81) #[] #[]].toArray w (fun e w => ∃ (cs0 : List Value), e = .returned (.tuple #[]) ∧ Ev 3 RGuidePoint s cs0 r ∧ r.length = n ∧ St w s (vecC 62 3 a c n cs0 :: R)) :=
 sortF_ok sortC80_81 (cells := GuidePoint.cells) (fun _ => rfl) (fun x v hv => by simp [GuidePoint.cells] at hv; rcases hv with rfl | rfl | rfl <;> rfl) (fun x y W => sfclo81 x y W) (fun _ _ _ h => h) (fun _ _ => rfl) hS h hn hr
end
section
open Go.Sort
set_option maxHeartbeats 8000000 in
theorem CmpOrint_x  {w : World} {s : Sg} {R : List HP} {x0 : List Int} {a0 : Option Addr} {c0 : Nat} (hS : St w s (R)) {w0 : World} (hw : w = w0) (h0 : Sl 1 (RI .i64) s a0 c0 x0) {r : Int} (hr : CmpOrint x0 = r) :
  Calls Tryd.prog 53 [.slice a0 x0.length c0].toArray w (fun e w => e = .returned (vi r) ∧ w = w0) := by
 refine enter Tryd.func53 rfl rfl rfl fun a hE => ?_
 rw [CmpOrint] at hr
 refine W.seq (W.region (vp hS hE rfl rfl fun a hE => WL.nil ?_))
 refine W.seq (W.region (vp hS hE rfl rfl fun a hE => WL.nil ?_))
 refine W.seq ?_
 refine W.seq (W.region (vp hS hE rfl rfl fun a hE => ?_))
 refine vP hS hE (Gives.len hE rfl sl45) rfl fun a hE => ?_
 refine vp hS hE rfl rfl fun a hE => WL.nil ?_
 obtain ⟨q52, hq51, hr⟩ := bndS hr
 refine W.cut (fun a w => (.next ()) = q52 ∧ Rep a 18 [(3, vi 0)] ∧ St w s (R) ∧ w = w0) ?_ ?_
 ·refine W.block ?_
  refine W.loop (fun m a w => ∃ (rest55 : List Int) (k53 : Nat), rest55.length = m ∧ x0.drop k53 = rest55 ∧ CmpOrint.loop1 rest55 = q52 ∧ Rep a 18 [(3, vi 0), (6, .slice a0 x0.length c0), (7, vi ((x0).length : Int)), (8, vi ((k53 : Nat) : Int))] ∧ St w s (R) ∧ w = w0) (m := x0.length) ⟨x0, 0, rfl, rfl, hq51, hE.pick _ ⟨rfl, rfl, rfl, rfl, trivial⟩, hS, hw⟩ ?_
  clear hE hS hw a w hq51; rintro m59 a w ⟨rest55, k53, rfl, hd56, hq51, hE, hS, hw⟩
  refine W.gen fun K62 hK62 => ?_
  rcases rest55 with _ | ⟨x54, rest55⟩
  ·have hlt57 := drop_nil hd56
   refine W.seq (W.region (vp hS hE rfl rfl fun a hE => WL.nil ?_))
   refine W.seq ?_
   refine W.condF hE rfl (decide_eq_false (by omega)) ?_
   subst hK62
   refine W.exit rfl ?_
   exact ⟨hq51, hE.pick _ ⟨rfl, trivial⟩, hS, hw⟩
  obtain ⟨hlt57, hx58, hd56⟩ := drop_cons hd56
  rw [CmpOrint.loop1] at hq51
  refine W.seq (W.region (vp hS hE rfl rfl fun a hE => WL.nil ?_))
  refine W.seq ?_
  refine W.condT hE rfl (decide_eq_true (by omega)) ?_
  refine W.skip ?_
  refine W.seq ?_
  refine W.block ?_
  refine W.seq (W.region ?_)
  obtain ⟨cs63, hl64, hR65, hat66⟩ := h0.at hx58
  subst hR65
  refine vP hS hE (Gives.idx hE k53 rfl rfl sl45 rfl hlt57 (h0.aok hlt57)) rfl fun a hE => ?_
  refine vP hS hE (Gives.load1 hE rfl (fun w h => hat66 w _ h) ty3) rfl fun a hE => ?_
  refine vp hS hE rfl rfl fun a hE => WL.nil ?_
  refine W.seq (W.region (v2 hS hE rfl rfl rfl rfl fun a hE => ?_))
  refine vp hS hE rfl rfl fun a hE => WL.nil ?_
  refine W.cond hE rfl (fun hc67 => ?_) (fun hc67 => ?_)
  ·replace hq51 := iteT hc67 hq51
   refine W.seq (W.region (v2 hS hE rfl rfl rfl rfl fun a hE => WL.nil ?_))
   refine W.ret ?_
   subst hK62
   rw [← hq51] at hr
   dsimp only at hr
   refine finG (fn := Tryd.f53) (rs := [.tmp 2]) (vs := [_]) hE rfl ⟨rfl, trivial⟩ ?_
   subst hr
   exact ⟨rfl, hw⟩
  replace hq51 := iteF hc67 hq51
  refine W.skip ?_
  refine W.region ?_
  refine vP hS hE (Gives.inc hE rfl (by have := h0.small; omega)) rfl fun a hE => ?_
  refine vp hS hE rfl rfl fun a hE => WL.nil ?_
  subst hK62
  exact ⟨rest55.length, Nat.lt_succ_self _, rest55, k53 + 1, rfl, hd56, hq51, hE.pick _ ⟨rfl, rfl, rfl, rfl, trivial⟩, hS, hw⟩
 clear hE hS hw a w; rintro a w ⟨rfl, hE, hS, hw⟩
 dsimp only at hr
 refine W.seq (W.region (v2 hS hE rfl rfl rfl rfl fun a hE => WL.nil ?_))
 refine W.ret ?_
 refine finG (fn := Tryd.f53) (rs := [.tmp 2]) (vs := [_]) hE rfl ⟨rfl, trivial⟩ ?_
 subst hr
 exact ⟨rfl, hw⟩
set_option maxHeartbeats 8000000 in
theorem GuidecomparePoints_x  {w : World} {s : Sg} {R : List HP} {x0 : GuidePoint} {x1 : GuidePoint} (hS : St w s (R)) {w0 : World} (hX : XW w0 w)  {r : Int} (hr : GuidecomparePoints x0 x1 = r) :
  Calls Tryd.prog 100 [.agg (GuidePoint.cells x0).toArray, .agg (GuidePoint.cells x1).toArray].toArray w (fun e w => e = .returned (vi r) ∧ St w s (R) ∧ XW w0 w) := by
 refine enter Tryd.func100 rfl rfl rfl fun a hE => ?_
 rw [GuidecomparePoints] at hr
 refine W.seq (W.region ?_)
 refine WL.boxX hE hS hX (runs_plain rfl) rfl rfl rfl ?_; clear hE hS hX a w; intro b51 a w hE hS hX
 refine WL.boxX hE hS hX (runs_plain rfl) rfl rfl rfl ?_; clear hE hS hX a w; intro b52 a w hE hS hX
 refine vp hS hE rfl rfl fun a hE => WL.nil ?_
 refine W.seq ?_
 refine W.gen fun K53 hK53 => ?_
 refine W.regionE (dup (fun w => St w s (pc b52 (GuidePoint.cells x1).toArray 62 :: pc b51 (GuidePoint.cells x0).toArray 62 :: R))) (fun b i => cond b ([0, 1, 2, 3, 4, 5, 6, 7, 8, 9, 10, 11, 12, 13, 14, 15, 16, 17].contains i) ([0, 1, 2, 3, 4, 5, 6, 7, 8, 9, 10, 11, 12, 13, 14, 15, 16, 17].contains i)) mixed ?_
 replace hS := hS.drew; replace hX := hX.drew
 refine tP (i := 0) hE rfl (by kernel_rfl) (Gives.fld hE rfl fl62_0) rfl hS hS fun a hE => ?_
 refine tT (i := 1) true rfl hE rfl (by kernel_rfl) (Gives.loadB hE 1 rfl rfl rfl ty3) rfl hS hS fun a hE => ?_
 refine tP (i := 2) hE rfl (by kernel_rfl) (Gives.fld hE rfl fl62_0) rfl hS hS fun a hE => ?_
 refine tT (i := 3) true rfl hE rfl (by kernel_rfl) (Gives.loadB hE 0 rfl rfl rfl ty3) rfl hS hS fun a hE => ?_
 refine tP (i := 5) hE rfl (by kernel_rfl) (Gives.fld hE rfl fl62_1) rfl hS hS fun a hE => ?_
 refine tT (i := 6) true rfl hE rfl (by kernel_rfl) (Gives.loadB hE 1 rfl rfl rfl ty3) rfl hS hS fun a hE => ?_
 refine tP (i := 7) hE rfl (by kernel_rfl) (Gives.fld hE rfl fl62_1) rfl hS hS fun a hE => ?_
 refine tT (i := 8) true rfl hE rfl (by kernel_rfl) (Gives.loadB hE 0 rfl rfl rfl ty3) rfl hS hS fun a hE => ?_
 refine tP (i := 10) hE rfl (by kernel_rfl) (Gives.fld hE rfl fl62_2) rfl hS hS fun a hE => ?_
 refine tT (i := 11) true rfl hE rfl (by kernel_rfl) (Gives.loadB hE 1 rfl rfl rfl ty3) rfl hS hS fun a hE => ?_
 refine tP (i := 12) hE rfl (by kernel_rfl) (Gives.fld hE rfl fl62_2) rfl hS hS fun a hE => ?_
 refine tT (i := 13) true rfl hE rfl (by kernel_rfl) (Gives.loadB hE 0 rfl rfl rfl ty3) rfl hS hS fun a hE => ?_
 refine Rg.one (i := 4) true true rfl (by kernel_rfl) (by kernel_rfl) (by kernel_rfl) ?_
 refine WL.fnq hE (cmpx_54 x0.Dep x1.Dep _) (runs_plain rfl) bd54 rfl rfl rfl ?_
 clear hE; rintro e w1 ⟨rfl, hw1⟩; rw [hw1]; clear hw1 w1; refine ⟨_, rfl, ?_⟩; clear a; intro a hE
 refine WL.nil ?_
 refine ⟨⟨fun _ => hS, fun _ => hS⟩, ?_⟩
 refine Rg.one (i := 9) true true rfl (by kernel_rfl) (by kernel_rfl) (by kernel_rfl) ?_
 refine WL.fnq hE (cmpx_54 x0.Arr x1.Arr _) (runs_plain rfl) bd54 rfl rfl rfl ?_
 clear hE; rintro e w1 ⟨rfl, hw1⟩; rw [hw1]; clear hw1 w1; refine ⟨_, rfl, ?_⟩; clear a; intro a hE
 refine WL.nil ?_
 refine ⟨⟨fun _ => hS, fun _ => hS⟩, ?_⟩
 refine Rg.one (i := 14) true true rfl (by kernel_rfl) (by kernel_rfl) (by kernel_rfl) ?_
 refine WL.fnq hE (cmpx_54 x0.Rides x1.Rides _) (runs_plain rfl) bd54 rfl rfl rfl ?_
 clear hE; rintro e w1 ⟨rfl, hw1⟩; rw [hw1]; clear hw1 w1; refine ⟨_, rfl, ?_⟩; clear a; intro a hE
 refine WL.nil ?_
 refine ⟨⟨fun _ => hS, fun _ => hS⟩, ?_⟩
 refine Rg.one (i := 15) true true rfl (by kernel_rfl) (by kernel_rfl) (by kernel_rfl) ?_
 refine WL.litX hE hS hX (e := 3) (es := 1) (vs := [(0, vi (CmpCompareint x0.Dep x1.Dep)), (1, vi (CmpCompareint x0.Arr x1.Arr)), (2, vi (CmpCompareint x0.Rides x1.Rides))]) (cs := [vi (CmpCompareint x0.Dep x1.Dep), vi (CmpCompareint x0.Arr x1.Arr), vi (CmpCompareint x0.Rides x1.Rides)]) (runs_plain rfl) rfl (by kernel_rfl) rfl ?_; clear hE hS hX a w; intro b54 a w hE hS hX
 replace hS := hS.ptVec (es := 1) (m := 3) rfl (by decide)
 have h56 : Ev 1 (RI .i64) s [vi (CmpCompareint x0.Dep x1.Dep), vi (CmpCompareint x0.Arr x1.Arr), vi (CmpCompareint x0.Rides x1.Rides)] [(CmpCompareint x0.Dep x1.Dep), (CmpCompareint x0.Arr x1.Arr), (CmpCompareint x0.Rides x1.Rides)] := (Ev.cons (c1 := [vi (CmpCompareint x0.Dep x1.Dep)]) rfl rfl (Ev.cons (c1 := [vi (CmpCompareint x0.Arr x1.Arr)]) rfl rfl (Ev.cons (c1 := [vi (CmpCompareint x0.Rides x1.Rides)]) rfl rfl (Ev.nil))))
 have hF := hS.fixD RI.mono 0 rfl h56 (rfl); clear hS; obtain ⟨s57, hle58, hS, h59⟩ := hF
 refine WL.nil ?_
 refine ⟨⟨fun _ => (St.down hle58 hS), fun _ => (St.down hle58 hS)⟩, ?_⟩
 refine Rg.one (i := 16) true true rfl (by kernel_rfl) (by kernel_rfl) (by kernel_rfl) ?_
 refine WL.fnq hE (CmpOrint_x hS rfl h59 rfl (r := CmpOrint [(CmpCompareint x0.Dep x1.Dep), (CmpCompareint x0.Arr x1.Arr), (CmpCompareint x0.Rides x1.Rides)])) (runs_plain rfl) bd53 rfl rfl rfl ?_
 clear hE; rintro e w1 ⟨rfl, hw1⟩; rw [hw1]; clear hw1 w1; refine ⟨_, rfl, ?_⟩; clear a; intro a hE
 refine WL.nil ?_
 refine ⟨⟨fun _ => (St.down hle58 hS), fun _ => (St.down hle58 hS)⟩, ?_⟩
 refine tP (i := 17) hE rfl (by kernel_rfl) (Gives.p hE rfl) rfl (St.down hle58 hS) (St.down hle58 hS) fun a hE => ?_
 refine Rg.done (by kernel_rfl) ?_
 subst hK53
 refine W.ret ?_
 refine finG (fn := Tryd.f100) (rs := [.tmp 4]) (vs := [_]) hE rfl ⟨rfl, trivial⟩ ?_
 subst hr
 replace hS := hS.tail
 replace hS := hS.tail
 exact ⟨rfl, (hS.down hle58), hX⟩
theorem sfclo100 (x y : GuidePoint) (W : World) : Calls Tryd.prog 100 #[.agg (GuidePoint.cells x).toArray, .agg (GuidePoint.cells y).toArray] W fun e w' => e = .returned (vi (GuidecomparePoints x y)) ∧ ∃ q os', w' = Sort.grow (W.drewN q) os' :=
 (GuidecomparePoints_x (St.startX W) (XW.refl W) rfl).mono fun _ _ h => ⟨h.1, h.2.2.grow h.2.1⟩
theorem sortC80_100 : SortC Tryd.prog 80 100 3 :=
 ⟨fun α _ enc hk h1 cf hO blk off cap d w hclo hH hb hsz => AnyQ.slices_SortFunc Tryd.laysSF80 3 Tryd.isAgg62 Tryd.sizeOf62 enc hk h1 cf hO 100 #[] blk off cap d w (enters_of Tryd.func100 (by kernel_rfl) rfl) (fun m os dk _ x y => hclo x y _) hH hb hsz,
  fun p cap fv w => AnyF.slices_SortFunc_none Tryd.laysSF80 p cap fv w⟩
theorem itSortF80_100_ok {w : World} {s : Sg} {R : List HP} {a : Option Addr} {c n : Nat} {cs : List Value} {l r : List GuidePoint} (hS : St w s (vecC 62 3 a c n cs :: R)) (h : Ev 3 RGuidePoint s cs l) (hn : l.length = n) (hr : srtF GuidecomparePoints l = some r) :
  Calls Tryd.prog 80 [.slice a n c, .func (.func 100) #[] #[]].toArray w (fun e w => ∃ (cs0 : List Value), e = .returned (.tuple #[]) ∧ Ev 3 RGuidePoint s cs0 r ∧ r.length = n ∧ St w s (vecC 62 3 a c n cs0 :: R)) :=
 sortF_ok sortC80_100 (cells := GuidePoint.cells) (fun _ => rfl) (fun x v hv => by simp [GuidePoint.cells] at hv; rcases hv with rfl | rfl | rfl <;> rfl) (fun x y W => sfclo100 x y W) (fun _ _ _ h => h) (fun _ _ => rfl) hS h hn hr
end
theorem itoa_ok {w : World} {s : Sg} {R : List HP} {x : Int} {r : ByteArray} (hS : St w s R) (hTab : TabS Tryd.prog s) (hr : itoa x = some r) : Calls Tryd.prog 138 [vi x].toArray w (fun e w => e = .returned (.string r) ∧ St w s R) := by
 obtain ⟨⟨h0, h1⟩, rfl⟩ := itoa_some hr
 refine (Tryd.strconv_Itoa x h0 h1 w (hTab w R hS)).mono ?_
 rintro e w' ⟨rfl, k, os, rfl⟩
 exact ⟨rfl, (hS.drewN k).growBy os⟩
set_option maxHeartbeats 8000000 in
theorem Planform_ok  {w : World} {s : Sg} {R : List HP} {x0 : ApiDay} {a0_0 : Option Addr} {c0_0 : Nat} {a0_1 : Option Addr} {c0_1 : Nat} (hS : St w s (R)) (h0_0 : Sl 4 RApiTrain s a0_0 c0_0 x0.Trains) (h0_1 : Sl 1 (RL 1 (RI .i64)) s a0_1 c0_1 x0.Turns) {r : Int} (hr : Planform x0 = r) :
  Calls Tryd.prog 105 [.agg [.slice a0_0 x0.Trains.length c0_0, .slice a0_1 x0.Turns.length c0_1].toArray].toArray w (fun e w => e = .returned (vi r) ∧ St w s (R)) := by
 refine enter Tryd.func105 rfl rfl rfl fun a hE => ?_
 rw [Planform] at hr
 refine W.seq (W.region ?_)
 refine WL.box hE hS (runs_plain rfl) rfl rfl rfl ?_; clear hE hS a w; intro b51 a w hE hS
 refine vp hS hE rfl rfl fun a hE => WL.nil ?_
 refine W.seq ?_
 refine W.seq ?_
 obtain ⟨q53, hq52, hr⟩ := bndS hr
 refine W.cut (fun a w => ∃ (q56 : Bool), q56 = q53 ∧ Rep a 85 [(1, pp b51), (20, .bool q56)] ∧ St w s (pc b51 #[.slice a0_0 x0.Trains.length c0_0, .slice a0_1 x0.Turns.length c0_1] 25 :: R)) ?_ ?_
 ·refine W.gen fun K57 hK57 => ?_
  refine W.region ?_
  refine vP hS hE (Gives.fld hE rfl fl25_0) rfl fun a hE => ?_
  refine vP hS hE (Gives.loadB hE 0 rfl rfl rfl ty22) rfl fun a hE => ?_
  refine vP hS hE (Gives.len hE rfl sl22) rfl fun a hE => ?_
  refine v2 hS hE rfl rfl rfl rfl fun a hE => ?_
  rcases Bool.eq_false_or_eq_true (decide (((x0.Trains).length : Int) > 12)) with hg58 | hg58
  ·replace hq52 := iteT hg58 hq52
   refine nO hE rfl rfl rfl (by rw [hg58]; decide) rfl fun a hE => ?_
   refine nO hE rfl rfl rfl (by rw [hg58]; decide) rfl fun a hE => ?_
   refine nO hE rfl rfl rfl (by rw [hg58]; decide) rfl fun a hE => ?_
   refine nO hE rfl rfl rfl (by rw [hg58]; decide) rfl fun a hE => ?_
   refine vP hS hE (Gives.pickT hE rfl hg58 rfl) rfl fun a hE => WL.nil ?_
   subst hK57
   exact ⟨true, hq52, hE.pick _ ⟨rfl, rfl, trivial⟩, hS⟩
  replace hq52 := iteF hg58 hq52
  refine WL.vS hS hE (runs_if hE rfl rfl rfl hg58) (Gives.fld hE rfl fl25_1) rfl fun a hE => ?_
  refine WL.vS hS hE (runs_if hE rfl rfl rfl hg58) (Gives.loadB hE 0 rfl rfl rfl ty23) rfl fun a hE => ?_
  refine WL.vS hS hE (runs_if hE rfl rfl rfl hg58) (Gives.len hE rfl sl23) rfl fun a hE => ?_
  refine WL.vS hS hE (runs_if hE rfl rfl rfl hg58) (Gives.p hE rfl) rfl fun a hE => ?_
  refine vP hS hE (Gives.pickF hE rfl hg58 rfl) rfl fun a hE => WL.nil ?_
  subst hK57
  exact ⟨decide (((x0.Turns).length : Int) > 8), hq52, hE.pick _ ⟨rfl, rfl, trivial⟩, hS⟩
 clear hE hS a w; rintro a w ⟨q56, rfl, hE, hS⟩
 refine W.cond hE rfl (fun hc59 => ?_) (fun hc59 => ?_)
 ·replace hr := iteT hc59 hr
  refine W.seq (W.region (vp hS hE rfl rfl fun a hE => WL.nil ?_))
  refine W.ret ?_
  refine finG (fn := Tryd.f105) (rs := [.tmp 2]) (vs := [_]) hE rfl ⟨rfl, trivial⟩ ?_
  subst hr
  replace hS := hS.tail
  exact ⟨rfl, hS⟩
 replace hr := iteF hc59 hr
 refine W.skip ?_
 refine W.seq ?_
 refine W.seq (W.region (vP hS hE (Gives.fld hE rfl fl25_0) rfl fun a hE => ?_))
 refine vP hS hE (Gives.loadB hE 0 rfl rfl rfl ty22) rfl fun a hE => ?_
 refine vP hS hE (Gives.len hE rfl sl22) rfl fun a hE => ?_
 refine vp hS hE rfl rfl fun a hE => WL.nil ?_
 obtain ⟨q61, hq60, hr⟩ := bndS hr
 refine W.cut (fun a w => (.next ()) = q61 ∧ Rep a 85 [(1, pp b51)] ∧ St w s (pc b51 #[.slice a0_0 x0.Trains.length c0_0, .slice a0_1 x0.Turns.length c0_1] 25 :: R)) ?_ ?_
 ·refine W.block ?_
  refine W.loop (fun m a w => ∃ (rest64 : List ApiTrain) (k62 : Nat), rest64.length = m ∧ x0.Trains.drop k62 = rest64 ∧ Planform.loop1 rest64 = q61 ∧ Rep a 85 [(1, pp b51), (22, .slice a0_0 x0.Trains.length c0_0), (23, vi ((x0.Trains).length : Int)), (24, vi ((k62 : Nat) : Int))] ∧ St w s (pc b51 #[.slice a0_0 x0.Trains.length c0_0, .slice a0_1 x0.Turns.length c0_1] 25 :: R)) (m := x0.Trains.length) ⟨x0.Trains, 0, rfl, rfl, hq60, hE.pick _ ⟨rfl, rfl, rfl, rfl, trivial⟩, hS⟩ ?_
  clear hE hS a w hq60; rintro m68 a w ⟨rest64, k62, rfl, hd65, hq60, hE, hS⟩
  refine W.gen fun K71 hK71 => ?_
  rcases rest64 with _ | ⟨x63, rest64⟩
  ·have hlt66 := drop_nil hd65
   refine W.seq (W.region (vp hS hE rfl rfl fun a hE => WL.nil ?_))
   refine W.seq ?_
   refine W.condF hE rfl (decide_eq_false (by omega)) ?_
   subst hK71
   refine W.exit rfl ?_
   exact ⟨hq60, hE.pick _ ⟨rfl, trivial⟩, hS⟩
  obtain ⟨hlt66, hx67, hd65⟩ := drop_cons hd65
  rw [Planform.loop1] at hq60
  refine W.seq (W.region (vp hS hE rfl rfl fun a hE => WL.nil ?_))
  refine W.seq ?_
  refine W.condT hE rfl (decide_eq_true (by omega)) ?_
  refine W.skip ?_
  refine W.seq ?_
  refine W.block ?_
  refine W.seq (W.region ?_)
  obtain ⟨cs72, hl73, hR74, hat75⟩ := h0_0.at hx67
  obtain ⟨a76, c77, a79, c80, rfl, h78, h81⟩ := hR74
  refine vP hS hE (Gives.idx hE k62 rfl rfl sl22 rfl hlt66 (h0_0.aok hlt66)) rfl fun a hE => ?_
  refine vP hS hE (Gives.loadA hE rfl (fun w h => hat75 w _ h) ty44) rfl fun a hE => ?_
  refine WL.alloc hE hS (runs_plain rfl) zr44 rfl ?_; clear hE hS a w; intro b82 a w hE hS
  refine WL.storeI hE hS 0 rfl [vi x63.No, vi x63.Stock, .slice a76 x63.Stops.length c77, .slice a79 x63.Legs.length c80] (runs_plain rfl) rfl rfl rfl ty44 rfl rfl rfl rfl ?_; clear hE hS a w; intro a w hE hS
  refine WL.nil ?_
  refine W.seq ?_
  refine W.seq ?_
  obtain ⟨q84, hq83, hq60⟩ := bndS hq60
  refine W.cut (fun a w => ∃ (q87 : Bool), q87 = q84 ∧ Rep a 85 [(1, pp b51), (4, pp b82), (22, .slice a0_0 x0.Trains.length c0_0), (23, vi ((x0.Trains).length : Int)), (24, vi ((k62 : Nat) : Int)), (41, .bool q87)] ∧ St w s (pc b82 #[vi x63.No, vi x63.Stock, .slice a76 x63.Stops.length c77, .slice a79 x63.Legs.length c80] 44 :: pc b51 #[.slice a0_0 x0.Trains.length c0_0, .slice a0_1 x0.Turns.length c0_1] 25 :: R)) ?_ ?_
  ·refine W.gen fun K88 hK88 => ?_
   refine W.region ?_
   refine vP hS hE (Gives.fld hE rfl fl44_2) rfl fun a hE => ?_
   refine vP hS hE (Gives.loadB hE 0 rfl rfl rfl ty42) rfl fun a hE => ?_
   refine vP hS hE (Gives.len hE rfl sl42) rfl fun a hE => ?_
   refine v2 hS hE rfl rfl rfl rfl fun a hE => ?_
   rcases Bool.eq_false_or_eq_true (((x63.Stops).length : Int) == 0) with hg89 | hg89
   ·replace hq83 := iteT hg89 hq83
    refine nO hE rfl rfl rfl (by rw [hg89]; decide) rfl fun a hE => ?_
    refine nO hE rfl rfl rfl (by rw [hg89]; decide) rfl fun a hE => ?_
    refine nO hE rfl rfl rfl (by rw [hg89]; decide) rfl fun a hE => ?_
    refine nO hE rfl rfl rfl (by rw [hg89]; decide) rfl fun a hE => ?_
    refine nO hE rfl rfl rfl (by rw [hg89]; decide) rfl fun a hE => ?_
    refine nO hE rfl rfl rfl (by rw [hg89]; decide) rfl fun a hE => ?_
    refine nO hE rfl rfl rfl (by rw [hg89]; decide) rfl fun a hE => ?_
    refine nO hE rfl rfl rfl (by rw [hg89]; decide) rfl fun a hE => ?_
    refine vP hS hE (Gives.pickT hE rfl hg89 rfl) rfl fun a hE => WL.nil ?_
    subst hK88
    exact ⟨true, hq83, hE.pick _ ⟨rfl, rfl, rfl, rfl, rfl, rfl, trivial⟩, hS⟩
   replace hq83 := iteF hg89 hq83
   refine WL.vS hS hE (runs_if hE rfl rfl rfl hg89) (Gives.fld hE rfl fl44_3) rfl fun a hE => ?_
   refine WL.vS hS hE (runs_if hE rfl rfl rfl hg89) (Gives.loadB hE 0 rfl rfl rfl ty23) rfl fun a hE => ?_
   refine WL.vS hS hE (runs_if hE rfl rfl rfl hg89) (Gives.len hE rfl sl23) rfl fun a hE => ?_
   refine WL.vS hS hE (runs_if hE rfl rfl rfl hg89) (Gives.fld hE rfl fl44_2) rfl fun a hE => ?_
   refine WL.vS hS hE (runs_if hE rfl rfl rfl hg89) (Gives.loadB hE 0 rfl rfl rfl ty42) rfl fun a hE => ?_
   refine WL.vS hS hE (runs_if hE rfl rfl rfl hg89) (Gives.len hE rfl sl42) rfl fun a hE => ?_
   refine WL.vS hS hE (runs_if hE rfl rfl rfl hg89) (Gives.p hE rfl) rfl fun a hE => ?_
   refine WL.vS hS hE (runs_if hE rfl rfl rfl hg89) (Gives.p hE rfl) rfl fun a hE => ?_
   refine vP hS hE (Gives.pickF hE rfl hg89 rfl) rfl fun a hE => WL.nil ?_
   subst hK88
   exact ⟨(((x63.Legs).length : Int) != (w64 (((x63.Stops).length : Int) - 1))), hq83, hE.pick _ ⟨rfl, rfl, rfl, rfl, rfl, rfl, trivial⟩, hS⟩
  clear hE hS a w; rintro a w ⟨q87, rfl, hE, hS⟩
  refine W.cond hE rfl (fun hc90 => ?_) (fun hc90 => ?_)
  ·replace hq60 := iteT hc90 hq60
   refine W.seq (W.region (vp hS hE rfl rfl fun a hE => WL.nil ?_))
   refine W.ret ?_
   subst hK71
   rw [← hq60] at hr
   dsimp only at hr
   refine finG (fn := Tryd.f105) (rs := [.tmp 2]) (vs := [_]) hE rfl ⟨rfl, trivial⟩ ?_
   subst hr
   replace hS := hS.tail
   replace hS := hS.tail
   exact ⟨rfl, hS⟩
  replace hq60 := iteF hc90 hq60
  refine W.skip ?_
  refine W.seq ?_
  refine W.seq (W.region (vP hS hE (Gives.fld hE rfl fl44_3) rfl fun a hE => ?_))
  refine vP hS hE (Gives.loadB hE 0 rfl rfl rfl ty23) rfl fun a hE => ?_
  refine vP hS hE (Gives.len hE rfl sl23) rfl fun a hE => ?_
  refine vp hS hE rfl rfl fun a hE => WL.nil ?_
  obtain ⟨q92, hq91, hq60⟩ := bndS hq60
  refine W.cut (fun a w => (.next ()) = q92 ∧ Rep a 85 [(1, pp b51), (4, pp b82), (22, .slice a0_0 x0.Trains.length c0_0), (23, vi ((x0.Trains).length : Int)), (24, vi ((k62 : Nat) : Int))] ∧ St w s (pc b82 #[vi x63.No, vi x63.Stock, .slice a76 x63.Stops.length c77, .slice a79 x63.Legs.length c80] 44 :: pc b51 #[.slice a0_0 x0.Trains.length c0_0, .slice a0_1 x0.Turns.length c0_1] 25 :: R)) ?_ ?_
  ·refine W.block ?_
   refine W.loop (fun m a w => ∃ (rest95 : List (List Int)) (k93 : Nat), rest95.length = m ∧ x63.Legs.drop k93 = rest95 ∧ Planform.loop2 rest95 = q92 ∧ Rep a 85 [(1, pp b51), (4, pp b82), (22, .slice a0_0 x0.Trains.length c0_0), (23, vi ((x0.Trains).length : Int)), (24, vi ((k62 : Nat) : Int)), (43, .slice a79 x63.Legs.length c80), (44, vi ((x63.Legs).length : Int)), (45, vi ((k93 : Nat) : Int))] ∧ St w s (pc b82 #[vi x63.No, vi x63.Stock, .slice a76 x63.Stops.length c77, .slice a79 x63.Legs.length c80] 44 :: pc b51 #[.slice a0_0 x0.Trains.length c0_0, .slice a0_1 x0.Turns.length c0_1] 25 :: R)) (m := x63.Legs.length) ⟨x63.Legs, 0, rfl, rfl, hq91, hE.pick _ ⟨rfl, rfl, rfl, rfl, rfl, rfl, rfl, rfl, trivial⟩, hS⟩ ?_
   clear hE hS a w hq91; rintro m99 a w ⟨rest95, k93, rfl, hd96, hq91, hE, hS⟩
   refine W.gen fun K102 hK102 => ?_
   rcases rest95 with _ | ⟨x94, rest95⟩
   ·have hlt97 := drop_nil hd96
    refine W.seq (W.region (vp hS hE rfl rfl fun a hE => WL.nil ?_))
    refine W.seq ?_
    refine W.condF hE rfl (decide_eq_false (by omega)) ?_
    subst hK102
    refine W.exit rfl ?_
    exact ⟨hq91, hE.pick _ ⟨rfl, rfl, rfl, rfl, rfl, trivial⟩, hS⟩
   obtain ⟨hlt97, hx98, hd96⟩ := drop_cons hd96
   rw [Planform.loop2] at hq91
   refine W.seq (W.region (vp hS hE rfl rfl fun a hE => WL.nil ?_))
   refine W.seq ?_
   refine W.condT hE rfl (decide_eq_true (by omega)) ?_
   refine W.skip ?_
   refine W.seq ?_
   refine W.block ?_
   refine W.seq (W.region ?_)
   obtain ⟨cs103, hl104, hR105, hat106⟩ := h81.at hx98
   obtain ⟨a107, c108, rfl, h109⟩ := hR105
   refine vP hS hE (Gives.idx hE k93 rfl rfl sl23 rfl hlt97 (h81.aok hlt97)) rfl fun a hE => ?_
   refine vP hS hE (Gives.load1 hE rfl (fun w h => hat106 w _ h) ty45) rfl fun a hE => ?_
   refine vp hS hE rfl rfl fun a hE => WL.nil ?_
   refine W.seq (W.region (vp hS hE rfl rfl fun a hE => ?_))
   refine vP hS hE (Gives.len hE rfl sl45) rfl fun a hE => ?_
   refine vp hS hE rfl rfl fun a hE => WL.nil ?_
   refine W.cond hE rfl (fun hc110 => ?_) (fun hc110 => ?_)
   ·replace hq91 := iteT hc110 hq91
    refine W.seq (W.region (vp hS hE rfl rfl fun a hE => WL.nil ?_))
    refine W.ret ?_
    subst hK102
    subst hK71
    rw [← hq91] at hq60
    dsimp only at hq60
    rw [← hq60] at hr
    dsimp only at hr
    refine finG (fn := Tryd.f105) (rs := [.tmp 2]) (vs := [_]) hE rfl ⟨rfl, trivial⟩ ?_
    subst hr
    replace hS := hS.tail
    replace hS := hS.tail
    exact ⟨rfl, hS⟩
   replace hq91 := iteF hc110 hq91
   refine W.skip ?_
   refine W.region ?_
   refine vP hS hE (Gives.inc hE rfl (by have := h81.small; omega)) rfl fun a hE => ?_
   refine vp hS hE rfl rfl fun a hE => WL.nil ?_
   subst hK102
   exact ⟨rest95.length, Nat.lt_succ_self _, rest95, k93 + 1, rfl, hd96, hq91, hE.pick _ ⟨rfl, rfl, rfl, rfl, rfl, rfl, rfl, rfl, trivial⟩, hS⟩
  clear hE hS a w; rintro a w ⟨rfl, hE, hS⟩
  dsimp only at hq60
  refine W.seq ?_
  refine W.seq (W.region (vP hS hE (Gives.fld hE rfl fl44_2) rfl fun a hE => ?_))
  refine vP hS hE (Gives.loadB hE 0 rfl rfl rfl ty42) rfl fun a hE => ?_
  refine vP hS hE (Gives.len hE rfl sl42) rfl fun a hE => ?_
  refine vp hS hE rfl rfl fun a hE => WL.nil ?_
  refine W.cond hE rfl (fun hc111 => ?_) (fun hc111 => ?_)
  ·replace hq60 := iteT hc111 hq60
   refine W.seq (W.region (vp hS hE rfl rfl fun a hE => WL.nil ?_))
   refine W.ret ?_
   subst hK71
   rw [← hq60] at hr
   dsimp only at hr
   refine finG (fn := Tryd.f105) (rs := [.tmp 2]) (vs := [_]) hE rfl ⟨rfl, trivial⟩ ?_
   subst hr
   replace hS := hS.tail
   replace hS := hS.tail
   exact ⟨rfl, hS⟩
  replace hq60 := iteF hc111 hq60
  refine W.skip ?_
  refine W.seq (W.region (vP hS hE (Gives.fld hE rfl fl44_3) rfl fun a hE => ?_))
  refine vP hS hE (Gives.loadB hE 0 rfl rfl rfl ty23) rfl fun a hE => ?_
  refine vP hS hE (Gives.len hE rfl sl23) rfl fun a hE => ?_
  refine vp hS hE rfl rfl fun a hE => WL.nil ?_
  obtain ⟨q113, hq112, hq60⟩ := bndS hq60
  refine W.cut (fun a w => (.next ()) = q113 ∧ Rep a 85 [(1, pp b51), (22, .slice a0_0 x0.Trains.length c0_0), (23, vi ((x0.Trains).length : Int)), (24, vi ((k62 : Nat) : Int))] ∧ St w s (pc b82 #[vi x63.No, vi x63.Stock, .slice a76 x63.Stops.length c77, .slice a79 x63.Legs.length c80] 44 :: pc b51 #[.slice a0_0 x0.Trains.length c0_0, .slice a0_1 x0.Turns.length c0_1] 25 :: R)) ?_ ?_
  ·refine W.block ?_
   refine W.loop (fun m a w => ∃ (rest116 : List (List Int)) (k114 : Nat), rest116.length = m ∧ x63.Legs.drop k114 = rest116 ∧ Planform.loop3 rest116 = q113 ∧ Rep a 85 [(1, pp b51), (22, .slice a0_0 x0.Trains.length c0_0), (23, vi ((x0.Trains).length : Int)), (24, vi ((k62 : Nat) : Int)), (58, .slice a79 x63.Legs.length c80), (59, vi ((x63.Legs).length : Int)), (60, vi ((k114 : Nat) : Int))] ∧ St w s (pc b82 #[vi x63.No, vi x63.Stock, .slice a76 x63.Stops.length c77, .slice a79 x63.Legs.length c80] 44 :: pc b51 #[.slice a0_0 x0.Trains.length c0_0, .slice a0_1 x0.Turns.length c0_1] 25 :: R)) (m := x63.Legs.length) ⟨x63.Legs, 0, rfl, rfl, hq112, hE.pick _ ⟨rfl, rfl, rfl, rfl, rfl, rfl, rfl, trivial⟩, hS⟩ ?_
   clear hE hS a w hq112; rintro m120 a w ⟨rest116, k114, rfl, hd117, hq112, hE, hS⟩
   refine W.gen fun K123 hK123 => ?_
   rcases rest116 with _ | ⟨x115, rest116⟩
   ·have hlt118 := drop_nil hd117
    refine W.seq (W.region (vp hS hE rfl rfl fun a hE => WL.nil ?_))
    refine W.seq ?_
    refine W.condF hE rfl (decide_eq_false (by omega)) ?_
    subst hK123
    refine W.exit rfl ?_
    exact ⟨hq112, hE.pick _ ⟨rfl, rfl, rfl, rfl, trivial⟩, hS⟩
   obtain ⟨hlt118, hx119, hd117⟩ := drop_cons hd117
   rw [Planform.loop3] at hq112
   refine W.seq (W.region (vp hS hE rfl rfl fun a hE => WL.nil ?_))
   refine W.seq ?_
   refine W.condT hE rfl (decide_eq_true (by omega)) ?_
   refine W.skip ?_
   refine W.seq ?_
   refine W.block ?_
   refine W.seq (W.region ?_)
   obtain ⟨cs124, hl125, hR126, hat127⟩ := h81.at hx119
   obtain ⟨a128, c129, rfl, h130⟩ := hR126
   refine vP hS hE (Gives.idx hE k114 rfl rfl sl23 rfl hlt118 (h81.aok hlt118)) rfl fun a hE => ?_
   refine vP hS hE (Gives.load1 hE rfl (fun w h => hat127 w _ h) ty45) rfl fun a hE => ?_
   refine vp hS hE rfl rfl fun a hE => WL.nil ?_
   refine W.seq (W.region (vp hS hE rfl rfl fun a hE => ?_))
   refine vP hS hE (Gives.len hE rfl sl45) rfl fun a hE => ?_
   refine vp hS hE rfl rfl fun a hE => WL.nil ?_
   refine W.cond hE rfl (fun hc131 => ?_) (fun hc131 => ?_)
   ·replace hq112 := iteT hc131 hq112
    refine W.seq (W.region (vp hS hE rfl rfl fun a hE => WL.nil ?_))
    refine W.ret ?_
    subst hK123
    subst hK71
    rw [← hq112] at hq60
    dsimp only at hq60
    rw [← hq60] at hr
    dsimp only at hr
    refine finG (fn := Tryd.f105) (rs := [.tmp 2]) (vs := [_]) hE rfl ⟨rfl, trivial⟩ ?_
    subst hr
    replace hS := hS.tail
    replace hS := hS.tail
    exact ⟨rfl, hS⟩
   replace hq112 := iteF hc131 hq112
   refine W.skip ?_
   refine W.region ?_
   refine vP hS hE (Gives.inc hE rfl (by have := h81.small; omega)) rfl fun a hE => ?_
   refine vp hS hE rfl rfl fun a hE => WL.nil ?_
   subst hK123
   exact ⟨rest116.length, Nat.lt_succ_self _, rest116, k114 + 1, rfl, hd117, hq112, hE.pick _ ⟨rfl, rfl, rfl, rfl, rfl, rfl, rfl, trivial⟩, hS⟩
  clear hE hS a w; rintro a w ⟨rfl, hE, hS⟩
  dsimp only at hq60
  refine W.region ?_
  refine vP hS hE (Gives.inc hE rfl (by have := h0_0.small; omega)) rfl fun a hE => ?_
  refine vp hS hE rfl rfl fun a hE => WL.nil ?_
  replace hS := hS.tail
  subst hK71
  exact ⟨rest64.length, Nat.lt_succ_self _, rest64, k62 + 1, rfl, hd65, hq60, hE.pick _ ⟨rfl, rfl, rfl, rfl, trivial⟩, hS⟩
 clear hE hS a w; rintro a w ⟨rfl, hE, hS⟩
 dsimp only at hr
 refine W.seq ?_
 refine W.seq (W.region (vP hS hE (Gives.fld hE rfl fl25_1) rfl fun a hE => ?_))
 refine vP hS hE (Gives.loadB hE 0 rfl rfl rfl ty23) rfl fun a hE => ?_
 refine vP hS hE (Gives.len hE rfl sl23) rfl fun a hE => ?_
 refine vp hS hE rfl rfl fun a hE => WL.nil ?_
 obtain ⟨q133, hq132, hr⟩ := bndS hr
 refine W.cut (fun a w => (.next ()) = q133 ∧ Rep a 85 [] ∧ St w s (pc b51 #[.slice a0_0 x0.Trains.length c0_0, .slice a0_1 x0.Turns.length c0_1] 25 :: R)) ?_ ?_
 ·refine W.block ?_
  refine W.loop (fun m a w => ∃ (rest136 : List (List Int)) (k134 : Nat), rest136.length = m ∧ x0.Turns.drop k134 = rest136 ∧ Planform.loop4 rest136 = q133 ∧ Rep a 85 [(70, .slice a0_1 x0.Turns.length c0_1), (71, vi ((x0.Turns).length : Int)), (72, vi ((k134 : Nat) : Int))] ∧ St w s (pc b51 #[.slice a0_0 x0.Trains.length c0_0, .slice a0_1 x0.Turns.length c0_1] 25 :: R)) (m := x0.Turns.length) ⟨x0.Turns, 0, rfl, rfl, hq132, hE.pick _ ⟨rfl, rfl, rfl, trivial⟩, hS⟩ ?_
  clear hE hS a w hq132; rintro m140 a w ⟨rest136, k134, rfl, hd137, hq132, hE, hS⟩
  refine W.gen fun K143 hK143 => ?_
  rcases rest136 with _ | ⟨x135, rest136⟩
  ·have hlt138 := drop_nil hd137
   refine W.seq (W.region (vp hS hE rfl rfl fun a hE => WL.nil ?_))
   refine W.seq ?_
   refine W.condF hE rfl (decide_eq_false (by omega)) ?_
   subst hK143
   refine W.exit rfl ?_
   exact ⟨hq132, hE.pick _ trivial, hS⟩
  obtain ⟨hlt138, hx139, hd137⟩ := drop_cons hd137
  rw [Planform.loop4] at hq132
  refine W.seq (W.region (vp hS hE rfl rfl fun a hE => WL.nil ?_))
  refine W.seq ?_
  refine W.condT hE rfl (decide_eq_true (by omega)) ?_
  refine W.skip ?_
  refine W.seq ?_
  refine W.block ?_
  refine W.seq (W.region ?_)
  obtain ⟨cs144, hl145, hR146, hat147⟩ := h0_1.at hx139
  obtain ⟨a148, c149, rfl, h150⟩ := hR146
  refine vP hS hE (Gives.idx hE k134 rfl rfl sl23 rfl hlt138 (h0_1.aok hlt138)) rfl fun a hE => ?_
  refine vP hS hE (Gives.load1 hE rfl (fun w h => hat147 w _ h) ty45) rfl fun a hE => ?_
  refine vp hS hE rfl rfl fun a hE => WL.nil ?_
  refine W.block ?_
  refine W.seq (W.region (vp hS hE rfl rfl fun a hE => ?_))
  refine vP hS hE (Gives.len hE rfl sl45) rfl fun a hE => ?_
  refine v2 hS hE rfl rfl rfl rfl fun a hE => WL.nil ?_
  refine W.cond hE rfl (fun hc151 => ?_) (fun hc151 => ?_)
  ·replace hq132 := iteT hc151 hq132
   refine W.seq (W.region (vp hS hE rfl rfl fun a hE => WL.nil ?_))
   refine W.ret ?_
   subst hK143
   rw [← hq132] at hr
   dsimp only at hr
   refine finG (fn := Tryd.f105) (rs := [.tmp 2]) (vs := [_]) hE rfl ⟨rfl, trivial⟩ ?_
   subst hr
   replace hS := hS.tail
   exact ⟨rfl, hS⟩
  replace hq132 := iteF hc151 hq132
  refine W.seq (W.region (vp hS hE rfl rfl fun a hE => ?_))
  refine vP hS hE (Gives.len hE rfl sl45) rfl fun a hE => ?_
  refine v2 hS hE rfl rfl rfl rfl fun a hE => WL.nil ?_
  refine W.cond hE rfl (fun hc152 => ?_) (fun hc152 => ?_)
  ·replace hq132 := iteT hc152 hq132
   refine W.seq (W.region (vp hS hE rfl rfl fun a hE => WL.nil ?_))
   refine W.ret ?_
   subst hK143
   rw [← hq132] at hr
   dsimp only at hr
   refine finG (fn := Tryd.f105) (rs := [.tmp 2]) (vs := [_]) hE rfl ⟨rfl, trivial⟩ ?_
   subst hr
   replace hS := hS.tail
   exact ⟨rfl, hS⟩
  replace hq132 := iteF hc152 hq132
  refine W.skip ?_
  refine W.region ?_
  refine vP hS hE (Gives.inc hE rfl (by have := h0_1.small; omega)) rfl fun a hE => ?_
  refine vp hS hE rfl rfl fun a hE => WL.nil ?_
  subst hK143
  exact ⟨rest136.length, Nat.lt_succ_self _, rest136, k134 + 1, rfl, hd137, hq132, hE.pick _ ⟨rfl, rfl, rfl, trivial⟩, hS⟩
 clear hE hS a w; rintro a w ⟨rfl, hE, hS⟩
 dsimp only at hr
 refine W.seq (W.region (vp hS hE rfl rfl fun a hE => WL.nil ?_))
 refine W.ret ?_
 refine finG (fn := Tryd.f105) (rs := [.tmp 2]) (vs := [_]) hE rfl ⟨rfl, trivial⟩ ?_
 subst hr
 replace hS := hS.tail
 exact ⟨rfl, hS⟩
set_option maxHeartbeats 8000000 in
theorem Planwithin_ok  {w : World} {s : Sg} {R : List HP} {x0 : Int} {x1 : Int} {x2 : Int} (hS : St w s (R))  {r : Bool} (hr : Planwithin x0 x1 x2 = r) :
  Calls Tryd.prog 107 [vi x0, vi x1, vi x2].toArray w (fun e w => e = .returned (.bool r) ∧ St w s (R)) := by
 refine enter Tryd.func107 rfl rfl rfl fun a hE => ?_
 rw [Planwithin] at hr
 refine W.seq (W.region (vp hS hE rfl rfl fun a hE => WL.nil ?_))
 refine W.seq ?_
 obtain ⟨q52, hq51, hr⟩ := bndS hr
 refine W.cut (fun a w => ∃ (q55 : Bool), q55 = q52 ∧ Rep a 15 [(6, .bool q55)] ∧ St w s (R)) ?_ ?_
 ·refine W.gen fun K56 hK56 => ?_
  refine W.region ?_
  refine v2 hS hE rfl rfl rfl rfl fun a hE => ?_
  refine v2 hS hE rfl rfl rfl rfl fun a hE => ?_
  rcases Bool.eq_false_or_eq_true (decide (x0 ≥ x1)) with hg57 | hg57
  ·replace hq51 := iteT hg57 hq51
   refine WL.vS hS hE (runs_if hE rfl rfl rfl hg57) (Gives.p hE rfl) rfl fun a hE => ?_
   refine WL.vS hS hE (runs_if hE rfl rfl rfl hg57) (Gives.p hE rfl) rfl fun a hE => ?_
   refine WL.vS hS hE (runs_if hE rfl rfl rfl hg57) (Gives.p hE rfl) rfl fun a hE => ?_
   refine vP hS hE (Gives.pickT hE rfl hg57 rfl) rfl fun a hE => ?_
   refine vp hS hE rfl rfl fun a hE => WL.nil ?_
   subst hK56
   exact ⟨decide (x0 ≤ x2), hq51, hE.pick _ ⟨rfl, trivial⟩, hS⟩
  replace hq51 := iteF hg57 hq51
  refine nO hE rfl rfl rfl (by rw [hg57]; decide) rfl fun a hE => ?_
  refine nO hE rfl rfl rfl (by rw [hg57]; decide) rfl fun a hE => ?_
  refine nO hE rfl rfl rfl (by rw [hg57]; decide) rfl fun a hE => ?_
  refine vP hS hE (Gives.pickF hE rfl hg57 rfl) rfl fun a hE => ?_
  refine vp hS hE rfl rfl fun a hE => WL.nil ?_
  subst hK56
  exact ⟨false, hq51, hE.pick _ ⟨rfl, trivial⟩, hS⟩
 clear hE hS a w; rintro a w ⟨q55, rfl, hE, hS⟩
 refine W.ret ?_
 refine finG (fn := Tryd.f107) (rs := [.tmp 6]) (vs := [_]) hE rfl ⟨rfl, trivial⟩ ?_
 subst hr
 exact ⟨rfl, hS⟩
set_option maxHeartbeats 8000000 in
theorem Plansentence_ok  {w : World} {s : Sg} {R : List HP} {x0 : ByteArray} {x1 : List Int} {a1 : Option Addr} {c1 : Nat} (hS : St w s (R)) (hTab : TabS Tryd.prog s) (h1 : Sl 1 (RI .i64) s a1 c1 x1) {r : ByteArray} (hr : Plansentence x0 x1 = some r) :
  Calls Tryd.prog 109 [.string x0, .slice a1 x1.length c1].toArray w (fun e w => e = .returned (.string r) ∧ St w s (R)) := by
 refine enter Tryd.func109 rfl rfl rfl fun a hE => ?_
 rw [Plansentence] at hr
 refine W.seq (W.region (vp hS hE rfl rfl fun a hE => WL.nil ?_))
 refine W.seq ?_
 refine W.seq (W.region (vp hS hE rfl rfl fun a hE => ?_))
 refine vP hS hE (Gives.len hE rfl sl45) rfl fun a hE => ?_
 refine vp hS hE rfl rfl fun a hE => WL.nil ?_
 obtain ⟨q52, hq51, hr⟩ := bindS hr
 refine W.cut (fun a w => ∃ (q62 : ByteArray), q62 = q52 ∧ Rep a 21 [(0, .string q62)] ∧ St w s (R)) ?_ ?_
 ·refine W.block ?_
  refine W.loop (fun m a w => ∃ (rest55 : List Int) (k53 : Nat), ∃ (q62 : ByteArray), rest55.length = m ∧ x1.drop k53 = rest55 ∧ Plansentence.loop1 rest55 q62 = some q52 ∧ Rep a 21 [(0, .string q62), (7, .slice a1 x1.length c1), (8, vi ((x1).length : Int)), (9, vi ((k53 : Nat) : Int))] ∧ St w s (R)) (m := x1.length) ⟨x1, 0, x0, rfl, rfl, hq51, hE.pick _ ⟨rfl, rfl, rfl, rfl, trivial⟩, hS⟩ ?_
  clear hE hS a w hq51; rintro m59 a w ⟨rest55, k53, q62, rfl, hd56, hq51, hE, hS⟩
  refine W.gen fun K63 hK63 => ?_
  rcases rest55 with _ | ⟨x54, rest55⟩
  ·have hlt57 := drop_nil hd56
   refine W.seq (W.region (vp hS hE rfl rfl fun a hE => WL.nil ?_))
   refine W.seq ?_
   refine W.condF hE rfl (decide_eq_false (by omega)) ?_
   subst hK63
   refine W.exit rfl ?_
   exact ⟨q62, Option.some.inj hq51, hE.pick _ ⟨rfl, trivial⟩, hS⟩
  obtain ⟨hlt57, hx58, hd56⟩ := drop_cons hd56
  rw [Plansentence.loop1] at hq51
  refine W.seq (W.region (vp hS hE rfl rfl fun a hE => WL.nil ?_))
  refine W.seq ?_
  refine W.condT hE rfl (decide_eq_true (by omega)) ?_
  refine W.skip ?_
  refine W.seq ?_
  refine W.block ?_
  refine W.seq (W.region ?_)
  obtain ⟨cs64, hl65, hR66, hat67⟩ := h1.at hx58
  subst hR66
  refine vP hS hE (Gives.idx hE k53 rfl rfl sl45 rfl hlt57 (h1.aok hlt57)) rfl fun a hE => ?_
  refine vP hS hE (Gives.load1 hE rfl (fun w h => hat67 w _ h) ty3) rfl fun a hE => ?_
  refine vp hS hE rfl rfl fun a hE => WL.nil ?_
  refine W.region ?_
  refine v2 hS hE rfl rfl rfl rfl fun a hE => ?_
  obtain ⟨q68, hq69, hq51⟩ := bindS hq51
  refine WL.fnq hE (itoa_ok hS (TabS.mono (Sg.Le.refl _) hTab) hq69) (runs_plain rfl) bd138 rfl rfl rfl ?_
  clear hE hS; rintro e w ⟨rfl, hS⟩; refine ⟨_, rfl, ?_⟩; clear a; intro a hE
  obtain ⟨x70, hx71, hq51⟩ := bindS hq51
  refine vP hS hE (Gives.catS hE rfl rfl hx71) rfl fun a hE => ?_
  obtain ⟨x72, hx73, hq51⟩ := bindS hq51
  refine vP hS hE (Gives.catS hE rfl rfl hx73) rfl fun a hE => ?_
  refine vp hS hE rfl rfl fun a hE => WL.nil ?_
  refine W.region ?_
  refine vP hS hE (Gives.inc hE rfl (by have := h1.small; omega)) rfl fun a hE => ?_
  refine vp hS hE rfl rfl fun a hE => WL.nil ?_
  subst hK63
  exact ⟨rest55.length, Nat.lt_succ_self _, rest55, k53 + 1, x72, rfl, hd56, hq51, hE.pick _ ⟨rfl, rfl, rfl, rfl, trivial⟩, hS⟩
 clear hE hS a w; rintro a w ⟨q62, rfl, hE, hS⟩
 refine W.seq (W.region (vp hS hE rfl rfl fun a hE => ?_))
 obtain ⟨x74, hx75, hr⟩ := bindS hr
 refine vP hS hE (Gives.catS hE rfl rfl hx75) rfl fun a hE => ?_
 refine vp hS hE rfl rfl fun a hE => WL.nil ?_
 refine W.ret ?_
 refine finG (fn := Tryd.f109) (rs := [.tmp 4]) (vs := [_]) hE rfl ⟨rfl, trivial⟩ ?_
 obtain rfl := Option.some.inj hr
 exact ⟨rfl, hS⟩
set_option maxHeartbeats 8000000 in
theorem PlanText_1_v1_ok  {w : World} {s : Sg} {R : List HP} {pb0 : Nat} {pb1 : Nat} {x0 : ByteArray} {x1 : List Int} {a1 : Option Addr} {c1 : Nat} {y0 : Bool} {y1_0 : ByteArray} (hS : St w s (pc pb0 #[.bool y0] 4 :: sbC 164 5 pb1 y1_0 :: R)) (hTab : TabS Tryd.prog s) (h1 : Sl 1 (RI .i64) s a1 c1 x1) {r : Bool × ByteArray} (hr : PlanText_1_v1 x0 x1 y0 y1_0 = some r) :
  Calls Tryd.prog 106 [.string x0, .slice a1 x1.length c1, pp pb0, pp pb1].toArray w (fun e w => e = .returned (.tuple #[]) ∧ St w s (pc pb0 #[.bool r.1] 4 :: sbC 164 5 pb1 r.2 :: R)) := by
 refine enter Tryd.func106 rfl rfl rfl fun a hE => ?_
 rw [PlanText_1_v1] at hr
 refine W.seq ?_
 refine W.seq (W.region (vp hS hE rfl rfl fun a hE => ?_))
 refine vP hS hE (Gives.len hE rfl sl45) rfl fun a hE => ?_
 refine vp hS hE rfl rfl fun a hE => WL.nil ?_
 obtain ⟨q54, hq53, hr⟩ := bndS hr
 refine W.cut (fun a w => ∃ (q64 : Bool), q64 = q54 ∧ Rep a 24 [(0, .string x0), (1, .slice a1 x1.length c1), (3, pp pb1)] ∧ St w s (pc pb0 #[.bool q64] 4 :: sbC 164 5 pb1 y1_0 :: R)) ?_ ?_
 ·refine W.block ?_
  refine W.loop (fun m a w => ∃ (rest57 : List Int) (k55 : Nat), ∃ (q64 : Bool), rest57.length = m ∧ x1.drop k55 = rest57 ∧ PlanText_1_v1.loop1 rest57 q64 = q54 ∧ Rep a 24 [(0, .string x0), (1, .slice a1 x1.length c1), (2, pp pb0), (3, pp pb1), (8, .slice a1 x1.length c1), (9, vi ((x1).length : Int)), (10, vi ((k55 : Nat) : Int))] ∧ St w s (pc pb0 #[.bool q64] 4 :: sbC 164 5 pb1 y1_0 :: R)) (m := x1.length) ⟨x1, 0, y0, rfl, rfl, hq53, hE.pick _ ⟨rfl, rfl, rfl, rfl, rfl, rfl, rfl, trivial⟩, hS⟩ ?_
  clear hE hS a w hq53; rintro m61 a w ⟨rest57, k55, q64, rfl, hd58, hq53, hE, hS⟩
  refine W.gen fun K65 hK65 => ?_
  rcases rest57 with _ | ⟨x56, rest57⟩
  ·have hlt59 := drop_nil hd58
   refine W.seq (W.region (vp hS hE rfl rfl fun a hE => WL.nil ?_))
   refine W.seq ?_
   refine W.condF hE rfl (decide_eq_false (by omega)) ?_
   subst hK65
   refine W.exit rfl ?_
   exact ⟨q64, hq53, hE.pick _ ⟨rfl, rfl, rfl, trivial⟩, hS⟩
  obtain ⟨hlt59, hx60, hd58⟩ := drop_cons hd58
  rw [PlanText_1_v1.loop1] at hq53
  refine W.seq (W.region (vp hS hE rfl rfl fun a hE => WL.nil ?_))
  refine W.seq ?_
  refine W.condT hE rfl (decide_eq_true (by omega)) ?_
  refine W.skip ?_
  refine W.seq ?_
  refine W.block ?_
  refine W.seq (W.region ?_)
  obtain ⟨cs66, hl67, hR68, hat69⟩ := h1.at hx60
  subst hR68
  refine vP hS hE (Gives.idx hE k55 rfl rfl sl45 rfl hlt59 (h1.aok hlt59)) rfl fun a hE => ?_
  refine vP hS hE (Gives.load1 hE rfl (fun w h => hat69 w _ h) ty3) rfl fun a hE => ?_
  refine vp hS hE rfl rfl fun a hE => WL.nil ?_
  obtain ⟨q71, hq70, hq53⟩ := bndS hq53
  refine W.cut (fun a w => ∃ (q74 : Bool), q74 = q71 ∧ Rep a 24 [(0, .string x0), (1, .slice a1 x1.length c1), (2, pp pb0), (3, pp pb1), (8, .slice a1 x1.length c1), (9, vi ((x1).length : Int)), (10, vi ((k55 : Nat) : Int))] ∧ St w s (pc pb0 #[.bool q74] 4 :: sbC 164 5 pb1 y1_0 :: R)) ?_ ?_
  ·refine W.gen fun K75 hK75 => ?_
   refine W.region ?_
   refine vP hS hE (Gives.loadB hE 0 rfl rfl rfl ty4) rfl fun a hE => ?_
   refine vp hS hE rfl rfl fun a hE => ?_
   rcases Bool.eq_false_or_eq_true q64 with hg76 | hg76
   ·replace hq70 := iteT hg76 hq70
    refine WL.vS hS hE (runs_if hE rfl rfl rfl hg76) (Gives.p hE rfl) rfl fun a hE => ?_
    refine WL.fnq hE (Planwithin_ok hS  rfl (r := Planwithin x56 0 999999)) (runs_if hE rfl rfl rfl hg76) bd107 rfl rfl rfl ?_
    clear hE hS; rintro e w ⟨rfl, hS⟩; refine ⟨_, rfl, ?_⟩; clear a; intro a hE
    refine vP hS hE (Gives.pickT hE rfl hg76 rfl) rfl fun a hE => ?_
    refine WL.storeI hE hS 0 rfl [.bool (Planwithin x56 0 999999)] (runs_plain rfl) rfl rfl rfl ty4 rfl rfl rfl rfl ?_; clear hE hS a w; intro a w hE hS
    refine WL.nil ?_
    subst hK75
    exact ⟨(Planwithin x56 0 999999), hq70, hE.pick _ ⟨rfl, rfl, rfl, rfl, rfl, rfl, rfl, trivial⟩, hS⟩
   replace hq70 := iteF hg76 hq70
   refine nO hE rfl rfl rfl (by rw [hg76]; decide) rfl fun a hE => ?_
   refine nO hE rfl rfl rfl (by rw [hg76]; decide) rfl fun a hE => ?_
   refine vP hS hE (Gives.pickF hE rfl hg76 rfl) rfl fun a hE => ?_
   refine WL.storeI hE hS 0 rfl [.bool false] (runs_plain rfl) rfl rfl rfl ty4 rfl rfl rfl rfl ?_; clear hE hS a w; intro a w hE hS
   refine WL.nil ?_
   subst hK75
   exact ⟨false, hq70, hE.pick _ ⟨rfl, rfl, rfl, rfl, rfl, rfl, rfl, trivial⟩, hS⟩
  clear hE hS a w; rintro a w ⟨q74, rfl, hE, hS⟩
  refine W.region ?_
  refine vP hS hE (Gives.inc hE rfl (by have := h1.small; omega)) rfl fun a hE => ?_
  refine vp hS hE rfl rfl fun a hE => WL.nil ?_
  subst hK65
  exact ⟨rest57.length, Nat.lt_succ_self _, rest57, k55 + 1, q74, rfl, hd58, hq53, hE.pick _ ⟨rfl, rfl, rfl, rfl, rfl, rfl, rfl, trivial⟩, hS⟩
 clear hE hS a w; rintro a w ⟨q64, rfl, hE, hS⟩
 refine W.region ?_
 refine v2 hS hE rfl rfl rfl rfl fun a hE => ?_
 obtain ⟨q77, hq78, hr⟩ := bindS hr
 have hc_ := Plansentence_ok hS (TabS.mono (Sg.Le.refl _) hTab) h1 hq78
 refine WL.fnq hE (hc_) (runs_plain rfl) bd109 rfl rfl rfl ?_
 clear hE hS hc_; rintro e w ⟨rfl, hS⟩; refine ⟨_, rfl, ?_⟩; clear a; intro a hE
 replace hS := hS.front 1 rfl
 obtain ⟨q79, hq80, hr⟩ := bindS hr
 refine WL.fnq hE (sbWrite_ok hS hq80) (runs_plain rfl) bd108 rfl rfl rfl ?_
 clear hE hS; rintro e w ⟨rfl, hS⟩; refine ⟨_, rfl, ?_⟩; clear a; intro a hE
 refine WL.nil ?_
 refine finG (fn := Tryd.f106) (rs := []) (vs := []) hE rfl trivial ?_
 obtain rfl := Option.some.inj hr
 replace hS := hS.front 1 rfl
 exact ⟨rfl, hS⟩
set_option maxHeartbeats 8000000 in
theorem PlanText_ok  {w : World} {s : Sg} {R : List HP} {x0 : ApiDay} {a0_0 : Option Addr} {c0_0 : Nat} {a0_1 : Option Addr} {c0_1 : Nat} (hS : St w s (R)) (hTab : TabS Tryd.prog s) (h0_0 : Sl 4 RApiTrain s a0_0 c0_0 x0.Trains) (h0_1 : Sl 1 (RL 1 (RI .i64)) s a0_1 c0_1 x0.Turns) {r : ByteArray × Int} (hr : PlanText x0 = some r) :
  Calls Tryd.prog 65 [.agg [.slice a0_0 x0.Trains.length c0_0, .slice a0_1 x0.Turns.length c0_1].toArray].toArray w (fun e w => e = .returned (.tuple #[.string r.1, vi r.2]) ∧ St w s (R)) := by
 refine enter Tryd.func65 rfl rfl rfl fun a hE => ?_
 rw [PlanText] at hr
 refine W.seq (W.region ?_)
 refine WL.box hE hS (runs_plain rfl) rfl rfl rfl ?_; clear hE hS a w; intro b51 a w hE hS
 refine v2 hS hE rfl rfl rfl rfl fun a hE => WL.nil ?_
 refine W.seq ?_
 refine W.seq (W.region (vP hS hE (Gives.loadBA hE 0 rfl rfl ty25) rfl fun a hE => ?_))
 refine WL.fnq hE (Planform_ok hS h0_0 h0_1 rfl (r := Planform x0)) (runs_plain rfl) bd105 rfl rfl rfl ?_
 clear hE hS; rintro e w ⟨rfl, hS⟩; refine ⟨_, rfl, ?_⟩; clear a; intro a hE
 refine vp hS hE rfl rfl fun a hE => WL.nil ?_
 refine W.seq (W.region (v2 hS hE rfl rfl rfl rfl fun a hE => WL.nil ?_))
 refine W.cond hE rfl (fun hc52 => ?_) (fun hc52 => ?_)
 ·replace hr := iteT hc52 hr
  refine W.seq (W.region (v2 hS hE rfl rfl rfl rfl fun a hE => ?_))
  refine vp hS hE rfl rfl fun a hE => WL.nil ?_
  refine W.ret ?_
  refine finG (fn := Tryd.f65) (rs := [.tmp 2, .tmp 3]) (vs := [_, _]) hE rfl ⟨rfl, rfl, trivial⟩ ?_
  obtain rfl := Option.some.inj hr
  replace hS := hS.tail
  exact ⟨rfl, hS⟩
 replace hr := iteF hc52 hr
 refine W.skip ?_
 refine W.seq (W.region ?_)
 refine WL.alloc hE hS (runs_plain rfl) zr164 rfl ?_; clear hE hS a w; intro b53 a w hE hS
 replace hS := hS.sbNew 5
 refine WL.nil ?_
 refine W.seq (W.region ?_)
 refine WL.alloc hE hS (runs_plain rfl) zr4 rfl ?_; clear hE hS a w; intro b54 a w hE hS
 refine WL.storeI hE hS 0 rfl [.bool true] (runs_plain rfl) rfl rfl rfl ty4 rfl rfl rfl rfl ?_; clear hE hS a w; intro a w hE hS
 refine WL.nil ?_
 refine W.seq (W.region (vP hS hE (Gives.mkfn hE (vs := [pp b54, pp b53]) rfl) rfl fun a hE => ?_))
 refine vp hS hE rfl rfl fun a hE => WL.nil ?_
 refine W.seq ?_
 refine W.seq (W.region (vP hS hE (Gives.fld hE rfl fl25_0) rfl fun a hE => ?_))
 refine vP hS hE (Gives.loadB hE 2 rfl rfl rfl ty22) rfl fun a hE => ?_
 refine vP hS hE (Gives.len hE rfl sl22) rfl fun a hE => ?_
 refine vp hS hE rfl rfl fun a hE => WL.nil ?_
 obtain ⟨q56, hq55, hr⟩ := bindS hr
 refine W.cut (fun a w => ∃ (q66 : ByteArray), ∃ (q67 : Bool), ∃ (s64 : Sg), s.Le s64 ∧ (q66, q67) = q56 ∧ Rep a 81 [(1, pp b51), (5, pp b53), (6, pp b54), (7, .func (.func 106) #[] #[pp b54, pp b53])] ∧ St w s64 (pc b54 #[.bool q67] 4 :: sbC 164 5 b53 q66 :: pc b51 #[.slice a0_0 x0.Trains.length c0_0, .slice a0_1 x0.Turns.length c0_1] 25 :: R)) ?_ ?_
 ·refine W.block ?_
  refine W.loop (fun m a w => ∃ (rest59 : List ApiTrain) (k57 : Nat), ∃ (q66 : ByteArray), ∃ (q67 : Bool), ∃ (s64 : Sg), rest59.length = m ∧ x0.Trains.drop k57 = rest59 ∧ s.Le s64 ∧ PlanText.loop1 rest59 q66 q67 = some q56 ∧ Rep a 81 [(1, pp b51), (5, pp b53), (6, pp b54), (7, .func (.func 106) #[] #[pp b54, pp b53]), (23, .slice a0_0 x0.Trains.length c0_0), (24, vi ((x0.Trains).length : Int)), (25, vi ((k57 : Nat) : Int))] ∧ St w s64 (pc b54 #[.bool q67] 4 :: sbC 164 5 b53 q66 :: pc b51 #[.slice a0_0 x0.Trains.length c0_0, .slice a0_1 x0.Turns.length c0_1] 25 :: R)) (m := x0.Trains.length) ⟨x0.Trains, 0, ByteArray.empty, true, s, rfl, rfl, (Sg.Le.refl _), hq55, hE.pick _ ⟨rfl, rfl, rfl, rfl, rfl, rfl, rfl, trivial⟩, hS⟩ ?_
  clear hE hS a w hq55; rintro m63 a w ⟨rest59, k57, q66, q67, s64, rfl, hd60, hle65, hq55, hE, hS⟩
  refine W.gen fun K68 hK68 => ?_
  replace h0_0 := Sl.mono RApiTrain.mono hle65 h0_0
  replace h0_1 := Sl.mono (RL.mono RI.mono) hle65 h0_1
  rcases rest59 with _ | ⟨x58, rest59⟩
  ·have hlt61 := drop_nil hd60
   refine W.seq (W.region (vp hS hE rfl rfl fun a hE => WL.nil ?_))
   refine W.seq ?_
   refine W.condF hE rfl (decide_eq_false (by omega)) ?_
   subst hK68
   refine W.exit rfl ?_
   exact ⟨q66, q67, s64, hle65, Option.some.inj hq55, hE.pick _ ⟨rfl, rfl, rfl, rfl, trivial⟩, hS⟩
  obtain ⟨hlt61, hx62, hd60⟩ := drop_cons hd60
  rw [PlanText.loop1] at hq55
  refine W.seq (W.region (vp hS hE rfl rfl fun a hE => WL.nil ?_))
  refine W.seq ?_
  refine W.condT hE rfl (decide_eq_true (by omega)) ?_
  refine W.skip ?_
  refine W.seq ?_
  refine W.block ?_
  refine W.seq (W.region ?_)
  obtain ⟨cs69, hl70, hR71, hat72⟩ := h0_0.at hx62
  obtain ⟨a73, c74, a76, c77, rfl, h75, h78⟩ := hR71
  refine vP hS hE (Gives.idx hE k57 rfl rfl sl22 rfl hlt61 (h0_0.aok hlt61)) rfl fun a hE => ?_
  refine vP hS hE (Gives.loadA hE rfl (fun w h => hat72 w _ h) ty44) rfl fun a hE => ?_
  refine WL.alloc hE hS (runs_plain rfl) zr44 rfl ?_; clear hE hS a w; intro b79 a w hE hS
  refine WL.storeI hE hS 0 rfl [vi x58.No, vi x58.Stock, .slice a73 x58.Stops.length c74, .slice a76 x58.Legs.length c77] (runs_plain rfl) rfl rfl rfl ty44 rfl rfl rfl rfl ?_; clear hE hS a w; intro a w hE hS
  refine WL.nil ?_
  refine W.seq (W.region (vp hS hE rfl rfl fun a hE => ?_))
  refine vP hS hE (Gives.fld hE rfl fl44_0) rfl fun a hE => ?_
  refine vP hS hE (Gives.loadB hE 0 rfl rfl rfl ty3) rfl fun a hE => ?_
  refine vP hS hE (Gives.fld hE rfl fl44_1) rfl fun a hE => ?_
  refine vP hS hE (Gives.loadB hE 0 rfl rfl rfl ty3) rfl fun a hE => ?_
  refine WL.lit hE hS (e := 3) (es := 1) (vs := [(0, vi x58.No), (1, vi x58.Stock)]) (cs := [vi x58.No, vi x58.Stock]) (runs_plain rfl) rfl (by kernel_rfl) rfl ?_; clear hE hS a w; intro b80 a w hE hS
  replace hS := hS.ptVec (es := 1) (m := 2) rfl (by decide)
  have h82 : Ev 1 (RI .i64) s64 [vi x58.No, vi x58.Stock] [x58.No, x58.Stock] := (Ev.cons (c1 := [vi x58.No]) rfl rfl (Ev.cons (c1 := [vi x58.Stock]) rfl rfl (Ev.nil)))
  have hF := hS.fixD RI.mono 0 rfl h82 (rfl); clear hS; obtain ⟨s83, hle84, hS, h85⟩ := hF
  replace h0_0 := Sl.mono RApiTrain.mono hle84 h0_0
  replace h75 := Sl.mono RApiStop.mono hle84 h75
  replace h78 := Sl.mono (RL.mono RI.mono) hle84 h78
  replace h0_1 := Sl.mono (RL.mono RI.mono) hle84 h0_1
  obtain ⟨q86, hq87, hq55⟩ := bindS hq55
  replace hS := hS.front 2 rfl
  replace hS := hS.front 2 rfl
  have hc_ := PlanText_1_v1_ok hS (TabS.mono (Sg.Le.trans hle65 hle84) hTab) h85 hq87
  refine WL.fnw hE (hc_) rfl (runs_plain rfl) bd106 rfl rfl rfl ?_
  clear hE hS hc_; rintro e w ⟨rfl, hS⟩; refine ⟨_, rfl, ?_⟩; clear a; intro a hE
  refine WL.nil ?_
  refine W.seq ?_
  refine W.seq (W.region (vP hS hE (Gives.fld hE rfl fl44_2) rfl fun a hE => ?_))
  refine vP hS hE (Gives.loadB hE 2 rfl rfl rfl ty42) rfl fun a hE => ?_
  refine vP hS hE (Gives.len hE rfl sl42) rfl fun a hE => ?_
  refine vp hS hE rfl rfl fun a hE => WL.nil ?_
  obtain ⟨q89, hq88, hq55⟩ := bindS hq55
  refine W.cut (fun a w => ∃ (q99 : ByteArray), ∃ (q100 : Bool), ∃ (s97 : Sg), s83.Le s97 ∧ (q99, q100) = q89 ∧ Rep a 81 [(1, pp b51), (5, pp b53), (6, pp b54), (7, .func (.func 106) #[] #[pp b54, pp b53]), (9, pp b79), (23, .slice a0_0 x0.Trains.length c0_0), (24, vi ((x0.Trains).length : Int)), (25, vi ((k57 : Nat) : Int))] ∧ St w s97 (pc b54 #[.bool q100] 4 :: sbC 164 5 b53 q99 :: pc b79 #[vi x58.No, vi x58.Stock, .slice a73 x58.Stops.length c74, .slice a76 x58.Legs.length c77] 44 :: pc b51 #[.slice a0_0 x0.Trains.length c0_0, .slice a0_1 x0.Turns.length c0_1] 25 :: R)) ?_ ?_
  ·refine W.block ?_
   refine W.loop (fun m a w => ∃ (rest92 : List ApiStop) (k90 : Nat), ∃ (q99 : ByteArray), ∃ (q100 : Bool), ∃ (s97 : Sg), rest92.length = m ∧ x58.Stops.drop k90 = rest92 ∧ s83.Le s97 ∧ PlanText.loop2 rest92 q99 q100 = some q89 ∧ Rep a 81 [(1, pp b51), (5, pp b53), (6, pp b54), (7, .func (.func 106) #[] #[pp b54, pp b53]), (9, pp b79), (23, .slice a0_0 x0.Trains.length c0_0), (24, vi ((x0.Trains).length : Int)), (25, vi ((k57 : Nat) : Int)), (37, .slice a73 x58.Stops.length c74), (38, vi ((x58.Stops).length : Int)), (39, vi ((k90 : Nat) : Int))] ∧ St w s97 (pc b54 #[.bool q100] 4 :: sbC 164 5 b53 q99 :: pc b79 #[vi x58.No, vi x58.Stock, .slice a73 x58.Stops.length c74, .slice a76 x58.Legs.length c77] 44 :: pc b51 #[.slice a0_0 x0.Trains.length c0_0, .slice a0_1 x0.Turns.length c0_1] 25 :: R)) (m := x58.Stops.length) ⟨x58.Stops, 0, q86.2, q86.1, s83, rfl, rfl, (Sg.Le.refl _), hq88, hE.pick _ ⟨rfl, rfl, rfl, rfl, rfl, rfl, rfl, rfl, rfl, rfl, rfl, trivial⟩, hS⟩ ?_
   clear hE hS a w hq88; rintro m96 a w ⟨rest92, k90, q99, q100, s97, rfl, hd93, hle98, hq88, hE, hS⟩
   refine W.gen fun K101 hK101 => ?_
   replace h0_0 := Sl.mono RApiTrain.mono hle98 h0_0
   replace h75 := Sl.mono RApiStop.mono hle98 h75
   replace h78 := Sl.mono (RL.mono RI.mono) hle98 h78
   replace h85 := Sl.mono RI.mono hle98 h85
   replace h0_1 := Sl.mono (RL.mono RI.mono) hle98 h0_1
   rcases rest92 with _ | ⟨x91, rest92⟩
   ·have hlt94 := drop_nil hd93
    refine W.seq (W.region (vp hS hE rfl rfl fun a hE => WL.nil ?_))
    refine W.seq ?_
    refine W.condF hE rfl (decide_eq_false (by omega)) ?_
    subst hK101
    refine W.exit rfl ?_
    exact ⟨q99, q100, s97, hle98, Option.some.inj hq88, hE.pick _ ⟨rfl, rfl, rfl, rfl, rfl, rfl, rfl, rfl, trivial⟩, hS⟩
   obtain ⟨hlt94, hx95, hd93⟩ := drop_cons hd93
   rw [PlanText.loop2] at hq88
   refine W.seq (W.region (vp hS hE rfl rfl fun a hE => WL.nil ?_))
   refine W.seq ?_
   refine W.condT hE rfl (decide_eq_true (by omega)) ?_
   refine W.skip ?_
   refine W.seq ?_
   refine W.block ?_
   refine W.seq (W.region ?_)
   obtain ⟨cs102, hl103, hR104, hat105⟩ := h75.at hx95
   subst hR104
   refine vP hS hE (Gives.idx hE k90 rfl rfl sl42 rfl hlt94 (h75.aok hlt94)) rfl fun a hE => ?_
   refine vP hS hE (Gives.loadA hE rfl (fun w h => hat105 w _ h) ty106) rfl fun a hE => ?_
   refine WL.alloc hE hS (runs_plain rfl) zr106 rfl ?_; clear hE hS a w; intro b106 a w hE hS
   refine WL.storeI hE hS 0 rfl (ApiStop.cells x91) (runs_plain rfl) rfl rfl rfl ty106 rfl rfl rfl rfl ?_; clear hE hS a w; intro a w hE hS
   refine WL.nil ?_
   refine W.region ?_
   refine vp hS hE rfl rfl fun a hE => ?_
   refine vP hS hE (Gives.fld hE rfl fl106_0) rfl fun a hE => ?_
   refine vP hS hE (Gives.loadB hE 0 rfl rfl rfl ty3) rfl fun a hE => ?_
   refine vP hS hE (Gives.fld hE rfl fl106_1) rfl fun a hE => ?_
   refine vP hS hE (Gives.loadB hE 0 rfl rfl rfl ty3) rfl fun a hE => ?_
   refine vP hS hE (Gives.fld hE rfl fl106_2) rfl fun a hE => ?_
   refine vP hS hE (Gives.loadB hE 0 rfl rfl rfl ty3) rfl fun a hE => ?_
   refine vP hS hE (Gives.fld hE rfl fl106_3) rfl fun a hE => ?_
   refine vP hS hE (Gives.loadB hE 0 rfl rfl rfl ty3) rfl fun a hE => ?_
   refine WL.lit hE hS (e := 3) (es := 1) (vs := [(0, vi x91.Station), (1, vi x91.Track), (2, vi x91.Arr), (3, vi x91.Dep)]) (cs := [vi x91.Station, vi x91.Track, vi x91.Arr, vi x91.Dep]) (runs_plain rfl) rfl (by kernel_rfl) rfl ?_; clear hE hS a w; intro b107 a w hE hS
   replace hS := hS.ptVec (es := 1) (m := 4) rfl (by decide)
   have h109 : Ev 1 (RI .i64) s97 [vi x91.Station, vi x91.Track, vi x91.Arr, vi x91.Dep] [x91.Station, x91.Track, x91.Arr, x91.Dep] := (Ev.cons (c1 := [vi x91.Station]) rfl rfl (Ev.cons (c1 := [vi x91.Track]) rfl rfl (Ev.cons (c1 := [vi x91.Arr]) rfl rfl (Ev.cons (c1 := [vi x91.Dep]) rfl rfl (Ev.nil)))))
   have hF := hS.fixD RI.mono 0 rfl h109 (rfl); clear hS; obtain ⟨s110, hle111, hS, h112⟩ := hF
   replace h0_0 := Sl.mono RApiTrain.mono hle111 h0_0
   replace h75 := Sl.mono RApiStop.mono hle111 h75
   replace h78 := Sl.mono (RL.mono RI.mono) hle111 h78
   replace h0_1 := Sl.mono (RL.mono RI.mono) hle111 h0_1
   obtain ⟨q113, hq114, hq88⟩ := bindS hq88
   replace hS := hS.front 2 rfl
   replace hS := hS.front 2 rfl
   have hc_ := PlanText_1_v1_ok hS (TabS.mono (Sg.Le.trans (Sg.Le.trans (Sg.Le.trans hle65 hle84) hle98) hle111) hTab) h112 hq114
   refine WL.fnw hE (hc_) rfl (runs_plain rfl) bd106 rfl rfl rfl ?_
   clear hE hS hc_; rintro e w ⟨rfl, hS⟩; refine ⟨_, rfl, ?_⟩; clear a; intro a hE
   refine WL.nil ?_
   refine W.region ?_
   refine vP hS hE (Gives.inc hE rfl (by have := h75.small; omega)) rfl fun a hE => ?_
   refine vp hS hE rfl rfl fun a hE => WL.nil ?_
   replace hS := hS.dropAt 2
   subst hK101
   exact ⟨rest92.length, Nat.lt_succ_self _, rest92, k90 + 1, q113.2, q113.1, s110, rfl, hd93, (Sg.Le.trans hle98 hle111), hq88, hE.pick _ ⟨rfl, rfl, rfl, rfl, rfl, rfl, rfl, rfl, rfl, rfl, rfl, trivial⟩, hS⟩
  clear hE hS a w; rintro a w ⟨q99, q100, s97, hle98, rfl, hE, hS⟩
  dsimp only at hq55
  replace h0_0 := Sl.mono RApiTrain.mono hle98 h0_0
  replace h75 := Sl.mono RApiStop.mono hle98 h75
  replace h78 := Sl.mono (RL.mono RI.mono) hle98 h78
  replace h85 := Sl.mono RI.mono hle98 h85
  replace h0_1 := Sl.mono (RL.mono RI.mono) hle98 h0_1
  refine W.seq (W.region (vP hS hE (Gives.fld hE rfl fl44_3) rfl fun a hE => ?_))
  refine vP hS hE (Gives.loadB hE 2 rfl rfl rfl ty23) rfl fun a hE => ?_
  refine vP hS hE (Gives.len hE rfl sl23) rfl fun a hE => ?_
  refine vp hS hE rfl rfl fun a hE => WL.nil ?_
  obtain ⟨q116, hq115, hq55⟩ := bindS hq55
  refine W.cut (fun a w => ∃ (q126 : ByteArray), ∃ (q127 : Bool), (q126, q127) = q116 ∧ Rep a 81 [(1, pp b51), (5, pp b53), (6, pp b54), (7, .func (.func 106) #[] #[pp b54, pp b53]), (23, .slice a0_0 x0.Trains.length c0_0), (24, vi ((x0.Trains).length : Int)), (25, vi ((k57 : Nat) : Int))] ∧ St w s97 (pc b54 #[.bool q127] 4 :: sbC 164 5 b53 q126 :: pc b79 #[vi x58.No, vi x58.Stock, .slice a73 x58.Stops.length c74, .slice a76 x58.Legs.length c77] 44 :: pc b51 #[.slice a0_0 x0.Trains.length c0_0, .slice a0_1 x0.Turns.length c0_1] 25 :: R)) ?_ ?_
  ·refine W.block ?_
   refine W.loop (fun m a w => ∃ (rest119 : List (List Int)) (k117 : Nat), ∃ (q126 : ByteArray), ∃ (q127 : Bool), rest119.length = m ∧ x58.Legs.drop k117 = rest119 ∧ PlanText.loop3 rest119 q126 q127 = some q116 ∧ Rep a 81 [(1, pp b51), (5, pp b53), (6, pp b54), (7, .func (.func 106) #[] #[pp b54, pp b53]), (23, .slice a0_0 x0.Trains.length c0_0), (24, vi ((x0.Trains).length : Int)), (25, vi ((k57 : Nat) : Int)), (56, .slice a76 x58.Legs.length c77), (57, vi ((x58.Legs).length : Int)), (58, vi ((k117 : Nat) : Int))] ∧ St w s97 (pc b54 #[.bool q127] 4 :: sbC 164 5 b53 q126 :: pc b79 #[vi x58.No, vi x58.Stock, .slice a73 x58.Stops.length c74, .slice a76 x58.Legs.length c77] 44 :: pc b51 #[.slice a0_0 x0.Trains.length c0_0, .slice a0_1 x0.Turns.length c0_1] 25 :: R)) (m := x58.Legs.length) ⟨x58.Legs, 0, q99, q100, rfl, rfl, hq115, hE.pick _ ⟨rfl, rfl, rfl, rfl, rfl, rfl, rfl, rfl, rfl, rfl, trivial⟩, hS⟩ ?_
   clear hE hS a w hq115; rintro m123 a w ⟨rest119, k117, q126, q127, rfl, hd120, hq115, hE, hS⟩
   refine W.gen fun K128 hK128 => ?_
   rcases rest119 with _ | ⟨x118, rest119⟩
   ·have hlt121 := drop_nil hd120
    refine W.seq (W.region (vp hS hE rfl rfl fun a hE => WL.nil ?_))
    refine W.seq ?_
    refine W.condF hE rfl (decide_eq_false (by omega)) ?_
    subst hK128
    refine W.exit rfl ?_
    exact ⟨q126, q127, Option.some.inj hq115, hE.pick _ ⟨rfl, rfl, rfl, rfl, rfl, rfl, rfl, trivial⟩, hS⟩
   obtain ⟨hlt121, hx122, hd120⟩ := drop_cons hd120
   rw [PlanText.loop3] at hq115
   refine W.seq (W.region (vp hS hE rfl rfl fun a hE => WL.nil ?_))
   refine W.seq ?_
   refine W.condT hE rfl (decide_eq_true (by omega)) ?_
   refine W.skip ?_
   refine W.seq ?_
   refine W.block ?_
   refine W.seq (W.region ?_)
   obtain ⟨cs129, hl130, hR131, hat132⟩ := h78.at hx122
   obtain ⟨a133, c134, rfl, h135⟩ := hR131
   refine vP hS hE (Gives.idx hE k117 rfl rfl sl23 rfl hlt121 (h78.aok hlt121)) rfl fun a hE => ?_
   refine vP hS hE (Gives.load1 hE rfl (fun w h => hat132 w _ h) ty45) rfl fun a hE => ?_
   refine vp hS hE rfl rfl fun a hE => WL.nil ?_
   refine W.region ?_
   refine v2 hS hE rfl rfl rfl rfl fun a hE => ?_
   obtain ⟨q136, hq137, hq115⟩ := bindS hq115
   have hc_ := PlanText_1_v1_ok hS (TabS.mono (Sg.Le.trans (Sg.Le.trans hle65 hle84) hle98) hTab) h135 hq137
   refine WL.fnw hE (hc_) rfl (runs_plain rfl) bd106 rfl rfl rfl ?_
   clear hE hS hc_; rintro e w ⟨rfl, hS⟩; refine ⟨_, rfl, ?_⟩; clear a; intro a hE
   refine WL.nil ?_
   refine W.region ?_
   refine vP hS hE (Gives.inc hE rfl (by have := h78.small; omega)) rfl fun a hE => ?_
   refine vp hS hE rfl rfl fun a hE => WL.nil ?_
   subst hK128
   exact ⟨rest119.length, Nat.lt_succ_self _, rest119, k117 + 1, q136.2, q136.1, rfl, hd120, hq115, hE.pick _ ⟨rfl, rfl, rfl, rfl, rfl, rfl, rfl, rfl, rfl, rfl, trivial⟩, hS⟩
  clear hE hS a w; rintro a w ⟨q126, q127, rfl, hE, hS⟩
  dsimp only at hq55
  refine W.region ?_
  refine vP hS hE (Gives.inc hE rfl (by have := h0_0.small; omega)) rfl fun a hE => ?_
  refine vp hS hE rfl rfl fun a hE => WL.nil ?_
  replace hS := hS.dropAt 2
  subst hK68
  exact ⟨rest59.length, Nat.lt_succ_self _, rest59, k57 + 1, q126, q127, s97, rfl, hd60, (Sg.Le.trans (Sg.Le.trans hle65 hle84) hle98), hq55, hE.pick _ ⟨rfl, rfl, rfl, rfl, rfl, rfl, rfl, trivial⟩, hS⟩
 clear hE hS a w; rintro a w ⟨q66, q67, s64, hle65, rfl, hE, hS⟩
 dsimp only at hr
 replace h0_0 := Sl.mono RApiTrain.mono hle65 h0_0
 replace h0_1 := Sl.mono (RL.mono RI.mono) hle65 h0_1
 refine W.seq ?_
 refine W.seq (W.region (vP hS hE (Gives.fld hE rfl fl25_1) rfl fun a hE => ?_))
 refine vP hS hE (Gives.loadB hE 2 rfl rfl rfl ty23) rfl fun a hE => ?_
 refine vP hS hE (Gives.len hE rfl sl23) rfl fun a hE => ?_
 refine vp hS hE rfl rfl fun a hE => WL.nil ?_
 obtain ⟨q139, hq138, hr⟩ := bindS hr
 refine W.cut (fun a w => ∃ (q149 : ByteArray), ∃ (q150 : Bool), (q149, q150) = q139 ∧ Rep a 81 [(5, pp b53), (6, pp b54)] ∧ St w s64 (pc b54 #[.bool q150] 4 :: sbC 164 5 b53 q149 :: pc b51 #[.slice a0_0 x0.Trains.length c0_0, .slice a0_1 x0.Turns.length c0_1] 25 :: R)) ?_ ?_
 ·refine W.block ?_
  refine W.loop (fun m a w => ∃ (rest142 : List (List Int)) (k140 : Nat), ∃ (q149 : ByteArray), ∃ (q150 : Bool), rest142.length = m ∧ x0.Turns.drop k140 = rest142 ∧ PlanText.loop4 rest142 q149 q150 = some q139 ∧ Rep a 81 [(5, pp b53), (6, pp b54), (7, .func (.func 106) #[] #[pp b54, pp b53]), (68, .slice a0_1 x0.Turns.length c0_1), (69, vi ((x0.Turns).length : Int)), (70, vi ((k140 : Nat) : Int))] ∧ St w s64 (pc b54 #[.bool q150] 4 :: sbC 164 5 b53 q149 :: pc b51 #[.slice a0_0 x0.Trains.length c0_0, .slice a0_1 x0.Turns.length c0_1] 25 :: R)) (m := x0.Turns.length) ⟨x0.Turns, 0, q66, q67, rfl, rfl, hq138, hE.pick _ ⟨rfl, rfl, rfl, rfl, rfl, rfl, trivial⟩, hS⟩ ?_
  clear hE hS a w hq138; rintro m146 a w ⟨rest142, k140, q149, q150, rfl, hd143, hq138, hE, hS⟩
  refine W.gen fun K151 hK151 => ?_
  rcases rest142 with _ | ⟨x141, rest142⟩
  ·have hlt144 := drop_nil hd143
   refine W.seq (W.region (vp hS hE rfl rfl fun a hE => WL.nil ?_))
   refine W.seq ?_
   refine W.condF hE rfl (decide_eq_false (by omega)) ?_
   subst hK151
   refine W.exit rfl ?_
   exact ⟨q149, q150, Option.some.inj hq138, hE.pick _ ⟨rfl, rfl, trivial⟩, hS⟩
  obtain ⟨hlt144, hx145, hd143⟩ := drop_cons hd143
  rw [PlanText.loop4] at hq138
  refine W.seq (W.region (vp hS hE rfl rfl fun a hE => WL.nil ?_))
  refine W.seq ?_
  refine W.condT hE rfl (decide_eq_true (by omega)) ?_
  refine W.skip ?_
  refine W.seq ?_
  refine W.block ?_
  refine W.seq (W.region ?_)
  obtain ⟨cs152, hl153, hR154, hat155⟩ := h0_1.at hx145
  obtain ⟨a156, c157, rfl, h158⟩ := hR154
  refine vP hS hE (Gives.idx hE k140 rfl rfl sl23 rfl hlt144 (h0_1.aok hlt144)) rfl fun a hE => ?_
  refine vP hS hE (Gives.load1 hE rfl (fun w h => hat155 w _ h) ty45) rfl fun a hE => ?_
  refine vp hS hE rfl rfl fun a hE => WL.nil ?_
  refine W.region ?_
  refine v2 hS hE rfl rfl rfl rfl fun a hE => ?_
  obtain ⟨q159, hq160, hq138⟩ := bindS hq138
  have hc_ := PlanText_1_v1_ok hS (TabS.mono hle65 hTab) h158 hq160
  refine WL.fnw hE (hc_) rfl (runs_plain rfl) bd106 rfl rfl rfl ?_
  clear hE hS hc_; rintro e w ⟨rfl, hS⟩; refine ⟨_, rfl, ?_⟩; clear a; intro a hE
  refine WL.nil ?_
  refine W.region ?_
  refine vP hS hE (Gives.inc hE rfl (by have := h0_1.small; omega)) rfl fun a hE => ?_
  refine vp hS hE rfl rfl fun a hE => WL.nil ?_
  subst hK151
  exact ⟨rest142.length, Nat.lt_succ_self _, rest142, k140 + 1, q159.2, q159.1, rfl, hd143, hq138, hE.pick _ ⟨rfl, rfl, rfl, rfl, rfl, rfl, trivial⟩, hS⟩
 clear hE hS a w; rintro a w ⟨q149, q150, rfl, hE, hS⟩
 dsimp only at hr
 refine W.seq ?_
 refine W.seq (W.region (vP hS hE (Gives.loadB hE 0 rfl rfl rfl ty4) rfl fun a hE => ?_))
 refine vp hS hE rfl rfl fun a hE => WL.nil ?_
 refine W.cond hE rfl (fun hc161 => ?_) (fun hc161 => ?_)
 ·replace hr := iteT hc161 hr
  refine W.seq (W.region (v2 hS hE rfl rfl rfl rfl fun a hE => WL.nil ?_))
  refine W.ret ?_
  refine finG (fn := Tryd.f65) (rs := [.tmp 2, .tmp 3]) (vs := [_, _]) hE rfl ⟨rfl, rfl, trivial⟩ ?_
  obtain rfl := Option.some.inj hr
  replace hS := hS.tail
  replace hS := hS.tail
  replace hS := hS.tail
  exact ⟨rfl, (hS.down hle65)⟩
 replace hr := iteF hc161 hr
 refine W.skip ?_
 refine W.seq (W.region ?_)
 replace hS := hS.front 1 rfl
 refine WL.fnq hE (sbString_ok hS) (runs_plain rfl) bd110 rfl rfl rfl ?_
 clear hE hS; rintro e w ⟨rfl, hS⟩; refine ⟨_, rfl, ?_⟩; clear a; intro a hE
 refine v2 hS hE rfl rfl rfl rfl fun a hE => WL.nil ?_
 refine W.ret ?_
 refine finG (fn := Tryd.f65) (rs := [.tmp 2, .tmp 3]) (vs := [_, _]) hE rfl ⟨rfl, rfl, trivial⟩ ?_
 obtain rfl := Option.some.inj hr
 replace hS := hS.tail
 replace hS := hS.tail
 exact ⟨rfl, (hS.down hle65)⟩
set_option maxHeartbeats 8000000 in
theorem Guidewithin_ok  {w : World} {s : Sg} {R : List HP} {x0 : Int} {x1 : Int} {x2 : Int} (hS : St w s (R))  {r : Bool} (hr : Guidewithin x0 x1 x2 = r) :
  Calls Tryd.prog 66 [vi x0, vi x1, vi x2].toArray w (fun e w => e = .returned (.bool r) ∧ St w s (R)) := by
 refine enter Tryd.func66 rfl rfl rfl fun a hE => ?_
 rw [Guidewithin] at hr
 refine W.seq (W.region (vp hS hE rfl rfl fun a hE => WL.nil ?_))
 refine W.seq ?_
 obtain ⟨q52, hq51, hr⟩ := bndS hr
 refine W.cut (fun a w => ∃ (q55 : Bool), q55 = q52 ∧ Rep a 15 [(6, .bool q55)] ∧ St w s (R)) ?_ ?_
 ·refine W.gen fun K56 hK56 => ?_
  refine W.region ?_
  refine v2 hS hE rfl rfl rfl rfl fun a hE => ?_
  refine v2 hS hE rfl rfl rfl rfl fun a hE => ?_
  rcases Bool.eq_false_or_eq_true (decide (x0 ≥ x1)) with hg57 | hg57
  ·replace hq51 := iteT hg57 hq51
   refine WL.vS hS hE (runs_if hE rfl rfl rfl hg57) (Gives.p hE rfl) rfl fun a hE => ?_
   refine WL.vS hS hE (runs_if hE rfl rfl rfl hg57) (Gives.p hE rfl) rfl fun a hE => ?_
   refine WL.vS hS hE (runs_if hE rfl rfl rfl hg57) (Gives.p hE rfl) rfl fun a hE => ?_
   refine vP hS hE (Gives.pickT hE rfl hg57 rfl) rfl fun a hE => ?_
   refine vp hS hE rfl rfl fun a hE => WL.nil ?_
   subst hK56
   exact ⟨decide (x0 ≤ x2), hq51, hE.pick _ ⟨rfl, trivial⟩, hS⟩
  replace hq51 := iteF hg57 hq51
  refine nO hE rfl rfl rfl (by rw [hg57]; decide) rfl fun a hE => ?_
  refine nO hE rfl rfl rfl (by rw [hg57]; decide) rfl fun a hE => ?_
  refine nO hE rfl rfl rfl (by rw [hg57]; decide) rfl fun a hE => ?_
  refine vP hS hE (Gives.pickF hE rfl hg57 rfl) rfl fun a hE => ?_
  refine vp hS hE rfl rfl fun a hE => WL.nil ?_
  subst hK56
  exact ⟨false, hq51, hE.pick _ ⟨rfl, trivial⟩, hS⟩
 clear hE hS a w; rintro a w ⟨q55, rfl, hE, hS⟩
 refine W.ret ?_
 refine finG (fn := Tryd.f66) (rs := [.tmp 6]) (vs := [_]) hE rfl ⟨rfl, trivial⟩ ?_
 subst hr
 exact ⟨rfl, hS⟩
set_option maxHeartbeats 8000000 in
theorem GuideCheck_ok  {w : World} {s : Sg} {R : List HP} {x0 : ApiDay} {a0_0 : Option Addr} {c0_0 : Nat} {a0_1 : Option Addr} {c0_1 : Nat} (hS : St w s (R)) (hTab : TabS Tryd.prog s) (h0_0 : Sl 4 RApiTrain s a0_0 c0_0 x0.Trains) (h0_1 : Sl 1 (RL 1 (RI .i64)) s a0_1 c0_1 x0.Turns) {r : Int} (hr : GuideCheck x0 = some r) :
  Calls Tryd.prog 17 [.agg [.slice a0_0 x0.Trains.length c0_0, .slice a0_1 x0.Turns.length c0_1].toArray].toArray w (fun e w => e = .returned (vi r) ∧ St w s (R)) := by
 refine enter Tryd.func17 rfl rfl rfl fun a hE => ?_
 rw [GuideCheck] at hr
 refine W.seq (W.region ?_)
 refine WL.box hE hS (runs_plain rfl) rfl rfl rfl ?_; clear hE hS a w; intro b51 a w hE hS
 refine vp hS hE rfl rfl fun a hE => WL.nil ?_
 refine W.seq ?_
 refine W.seq (W.region (vP hS hE (Gives.loadBA hE 0 rfl rfl ty25) rfl fun a hE => ?_))
 obtain ⟨q52, hq53, hr⟩ := bindS hr
 have hc_ := PlanText_ok hS (TabS.mono (Sg.Le.refl _) hTab) h0_0 h0_1 hq53
 refine WL.fnq hE (hc_) (runs_plain rfl) bd65 rfl rfl rfl ?_
 clear hE hS hc_; rintro e w ⟨rfl, hS⟩; refine ⟨_, rfl, ?_⟩; clear a; intro a hE
 refine v2 hS hE rfl rfl rfl rfl fun a hE => ?_
 refine v2 hS hE rfl rfl rfl rfl fun a hE => ?_
 refine vp hS hE rfl rfl fun a hE => WL.nil ?_
 refine W.seq (W.region (v2 hS hE rfl rfl rfl rfl fun a hE => WL.nil ?_))
 refine W.cond hE rfl (fun hc54 => ?_) (fun hc54 => ?_)
 ·replace hr := iteT hc54 hr
  refine W.seq (W.region (v2 hS hE rfl rfl rfl rfl fun a hE => WL.nil ?_))
  refine W.ret ?_
  refine finG (fn := Tryd.f17) (rs := [.tmp 2]) (vs := [_]) hE rfl ⟨rfl, trivial⟩ ?_
  obtain rfl := Option.some.inj hr
  replace hS := hS.tail
  exact ⟨rfl, hS⟩
 replace hr := iteF hc54 hr
 refine W.skip ?_
 refine W.seq (W.region ?_)
 refine WL.mkMap (fk := keyI.f) (fv := Value.bool) hE hS (runs_plain rfl) rfl ?_; clear hE hS a w; intro b55 a w hE hS
 refine vp hS hE rfl rfl fun a hE => WL.nil ?_
 refine W.seq ?_
 refine W.seq (W.region (vP hS hE (Gives.fld hE rfl fl25_0) rfl fun a hE => ?_))
 refine vP hS hE (Gives.loadB hE 1 rfl rfl rfl ty22) rfl fun a hE => ?_
 refine vP hS hE (Gives.len hE rfl sl22) rfl fun a hE => ?_
 refine vp hS hE rfl rfl fun a hE => WL.nil ?_
 obtain ⟨q57, hq56, hr⟩ := bindS hr
 refine W.cut (fun a w => ∃ (q67 : List (Int × Bool)), (.next q67) = q57 ∧ Rep a 93 [] ∧ St w s (mapC keyI.f Value.bool b55 q67 :: pc b51 #[.slice a0_0 x0.Trains.length c0_0, .slice a0_1 x0.Turns.length c0_1] 25 :: R)) ?_ ?_
 ·refine W.block ?_
  refine W.loop (fun m a w => ∃ (rest60 : List ApiTrain) (k58 : Nat), ∃ (q67 : List (Int × Bool)), rest60.length = m ∧ x0.Trains.drop k58 = rest60 ∧ GuideCheck.loop1 rest60 q67 = some q57 ∧ Rep a 93 [(5, .map (some b55)), (20, .slice a0_0 x0.Trains.length c0_0), (21, vi ((x0.Trains).length : Int)), (22, vi ((k58 : Nat) : Int))] ∧ St w s (mapC keyI.f Value.bool b55 q67 :: pc b51 #[.slice a0_0 x0.Trains.length c0_0, .slice a0_1 x0.Turns.length c0_1] 25 :: R)) (m := x0.Trains.length) ⟨x0.Trains, 0, [], rfl, rfl, hq56, hE.pick _ ⟨rfl, rfl, rfl, rfl, trivial⟩, hS⟩ ?_
  clear hE hS a w hq56; rintro m64 a w ⟨rest60, k58, q67, rfl, hd61, hq56, hE, hS⟩
  refine W.gen fun K68 hK68 => ?_
  rcases rest60 with _ | ⟨x59, rest60⟩
  ·have hlt62 := drop_nil hd61
   refine W.seq (W.region (vp hS hE rfl rfl fun a hE => WL.nil ?_))
   refine W.seq ?_
   refine W.condF hE rfl (decide_eq_false (by omega)) ?_
   subst hK68
   refine W.exit rfl ?_
   exact ⟨q67, Option.some.inj hq56, hE.pick _ trivial, hS⟩
  obtain ⟨hlt62, hx63, hd61⟩ := drop_cons hd61
  rw [GuideCheck.loop1] at hq56
  refine W.seq (W.region (vp hS hE rfl rfl fun a hE => WL.nil ?_))
  refine W.seq ?_
  refine W.condT hE rfl (decide_eq_true (by omega)) ?_
  refine W.skip ?_
  refine W.seq ?_
  refine W.block ?_
  refine W.seq (W.region ?_)
  obtain ⟨cs69, hl70, hR71, hat72⟩ := h0_0.at hx63
  obtain ⟨a73, c74, a76, c77, rfl, h75, h78⟩ := hR71
  refine vP hS hE (Gives.idx hE k58 rfl rfl sl22 rfl hlt62 (h0_0.aok hlt62)) rfl fun a hE => ?_
  refine vP hS hE (Gives.loadA hE rfl (fun w h => hat72 w _ h) ty44) rfl fun a hE => ?_
  refine WL.alloc hE hS (runs_plain rfl) zr44 rfl ?_; clear hE hS a w; intro b79 a w hE hS
  refine WL.storeI hE hS 0 rfl [vi x59.No, vi x59.Stock, .slice a73 x59.Stops.length c74, .slice a76 x59.Legs.length c77] (runs_plain rfl) rfl rfl rfl ty44 rfl rfl rfl rfl ?_; clear hE hS a w; intro a w hE hS
  refine WL.nil ?_
  refine W.seq ?_
  refine W.block ?_
  refine W.seq (W.region (vP hS hE (Gives.fld hE rfl fl44_0) rfl fun a hE => ?_))
  refine vP hS hE (Gives.loadB hE 0 rfl rfl rfl ty3) rfl fun a hE => ?_
  refine WL.fnq hE (Guidewithin_ok hS  rfl (r := Guidewithin x59.No 1 9999)) (runs_plain rfl) bd66 rfl rfl rfl ?_
  clear hE hS; rintro e w ⟨rfl, hS⟩; refine ⟨_, rfl, ?_⟩; clear a; intro a hE
  refine v2 hS hE rfl rfl rfl rfl fun a hE => WL.nil ?_
  refine W.cond hE rfl (fun hc80 => ?_) (fun hc80 => ?_)
  ·replace hq56 := iteT hc80 hq56
   refine W.seq (W.region (vp hS hE rfl rfl fun a hE => WL.nil ?_))
   refine W.ret ?_
   subst hK68
   rw [← Option.some.inj hq56] at hr
   dsimp only at hr
   refine finG (fn := Tryd.f17) (rs := [.tmp 2]) (vs := [_]) hE rfl ⟨rfl, trivial⟩ ?_
   obtain rfl := Option.some.inj hr
   replace hS := hS.tail
   replace hS := hS.tail
   replace hS := hS.tail
   exact ⟨rfl, hS⟩
  replace hq56 := iteF hc80 hq56
  refine W.seq (W.region (vp hS hE rfl rfl fun a hE => ?_))
  refine vP hS hE (Gives.fld hE rfl fl44_0) rfl fun a hE => ?_
  refine vP hS hE (Gives.loadB hE 0 rfl rfl rfl ty3) rfl fun a hE => ?_
  refine vP hS hE (Gives.mapGet keyI hE 1 (k := x59.No) (z := false) rfl rfl rfl mp114 zm4) rfl fun a hE => ?_
  refine vp hS hE rfl rfl fun a hE => WL.nil ?_
  refine W.cond hE rfl (fun hc81 => ?_) (fun hc81 => ?_)
  ·replace hq56 := iteT hc81 hq56
   refine W.seq (W.region (vp hS hE rfl rfl fun a hE => WL.nil ?_))
   refine W.ret ?_
   subst hK68
   rw [← Option.some.inj hq56] at hr
   dsimp only at hr
   refine finG (fn := Tryd.f17) (rs := [.tmp 2]) (vs := [_]) hE rfl ⟨rfl, trivial⟩ ?_
   obtain rfl := Option.some.inj hr
   replace hS := hS.tail
   replace hS := hS.tail
   replace hS := hS.tail
   exact ⟨rfl, hS⟩
  replace hq56 := iteF hc81 hq56
  refine W.seq (W.region (vP hS hE (Gives.fld hE rfl fl44_2) rfl fun a hE => ?_))
  refine vP hS hE (Gives.loadB hE 0 rfl rfl rfl ty42) rfl fun a hE => ?_
  refine vP hS hE (Gives.len hE rfl sl42) rfl fun a hE => ?_
  refine v2 hS hE rfl rfl rfl rfl fun a hE => WL.nil ?_
  refine W.cond hE rfl (fun hc82 => ?_) (fun hc82 => ?_)
  ·replace hq56 := iteT hc82 hq56
   refine W.seq (W.region (vp hS hE rfl rfl fun a hE => WL.nil ?_))
   refine W.ret ?_
   subst hK68
   rw [← Option.some.inj hq56] at hr
   dsimp only at hr
   refine finG (fn := Tryd.f17) (rs := [.tmp 2]) (vs := [_]) hE rfl ⟨rfl, trivial⟩ ?_
   obtain rfl := Option.some.inj hr
   replace hS := hS.tail
   replace hS := hS.tail
   replace hS := hS.tail
   exact ⟨rfl, hS⟩
  replace hq56 := iteF hc82 hq56
  refine W.skip ?_
  refine W.seq (W.region (vp hS hE rfl rfl fun a hE => ?_))
  refine vP hS hE (Gives.fld hE rfl fl44_0) rfl fun a hE => ?_
  refine vP hS hE (Gives.loadB hE 0 rfl rfl rfl ty3) rfl fun a hE => ?_
  refine WL.mapSet keyI hE hS 1 (k := x59.No) (v := true) (.inl rfl) (runs_plain rfl) rfl rfl rfl rfl mp114 rfl ?_; clear hE hS a w; intro a w hE hS
  refine WL.nil ?_
  refine W.seq (W.region (vP hS hE (Gives.fld hE rfl fl44_2) rfl fun a hE => ?_))
  refine vP hS hE (Gives.loadB hE 0 rfl rfl rfl ty42) rfl fun a hE => ?_
  refine vP hS hE (Gives.len hE rfl sl42) rfl fun a hE => ?_
  refine vp hS hE rfl rfl fun a hE => WL.nil ?_
  obtain ⟨q84, hq83, hq56⟩ := bindS hq56
  refine W.cut (fun a w => (.next ()) = q84 ∧ Rep a 93 [(5, .map (some b55)), (20, .slice a0_0 x0.Trains.length c0_0), (21, vi ((x0.Trains).length : Int)), (22, vi ((k58 : Nat) : Int))] ∧ St w s (pc b79 #[vi x59.No, vi x59.Stock, .slice a73 x59.Stops.length c74, .slice a76 x59.Legs.length c77] 44 :: mapC keyI.f Value.bool b55 (mput q67 x59.No true) :: pc b51 #[.slice a0_0 x0.Trains.length c0_0, .slice a0_1 x0.Turns.length c0_1] 25 :: R)) ?_ ?_
  ·refine W.block ?_
   refine W.loop (fun m a w => ∃ (rest87 : List ApiStop) (k85 : Nat), rest87.length = m ∧ x59.Stops.drop k85 = rest87 ∧ GuideCheck.loop2 x59 rest87 k85 = some q84 ∧ Rep a 93 [(5, .map (some b55)), (7, pp b79), (20, .slice a0_0 x0.Trains.length c0_0), (21, vi ((x0.Trains).length : Int)), (22, vi ((k58 : Nat) : Int)), (45, .slice a73 x59.Stops.length c74), (46, vi ((x59.Stops).length : Int)), (47, vi ((k85 : Nat) : Int))] ∧ St w s (pc b79 #[vi x59.No, vi x59.Stock, .slice a73 x59.Stops.length c74, .slice a76 x59.Legs.length c77] 44 :: mapC keyI.f Value.bool b55 (mput q67 x59.No true) :: pc b51 #[.slice a0_0 x0.Trains.length c0_0, .slice a0_1 x0.Turns.length c0_1] 25 :: R)) (m := x59.Stops.length) ⟨x59.Stops, 0, rfl, rfl, hq83, hE.pick _ ⟨rfl, rfl, rfl, rfl, rfl, rfl, rfl, rfl, trivial⟩, hS⟩ ?_
   clear hE hS a w hq83; rintro m91 a w ⟨rest87, k85, rfl, hd88, hq83, hE, hS⟩
   refine W.gen fun K94 hK94 => ?_
   rcases rest87 with _ | ⟨x86, rest87⟩
   ·have hlt89 := drop_nil hd88
    refine W.seq (W.region (vp hS hE rfl rfl fun a hE => WL.nil ?_))
    refine W.seq ?_
    refine W.condF hE rfl (decide_eq_false (by omega)) ?_
    subst hK94
    refine W.exit rfl ?_
    exact ⟨Option.some.inj hq83, hE.pick _ ⟨rfl, rfl, rfl, rfl, trivial⟩, hS⟩
   obtain ⟨hlt89, hx90, hd88⟩ := drop_cons hd88
   rw [GuideCheck.loop2] at hq83
   refine W.seq (W.region (vp hS hE rfl rfl fun a hE => WL.nil ?_))
   refine W.seq ?_
   refine W.condT hE rfl (decide_eq_true (by omega)) ?_
   refine W.skip ?_
   refine W.seq ?_
   refine W.block ?_
   refine W.seq (W.region (vp hS hE rfl rfl fun a hE => ?_))
   obtain ⟨cs95, hl96, hR97, hat98⟩ := h75.at hx90
   subst hR97
   refine vP hS hE (Gives.idx hE k85 rfl rfl sl42 rfl hlt89 (h75.aok hlt89)) rfl fun a hE => ?_
   refine vP hS hE (Gives.loadA hE rfl (fun w h => hat98 w _ h) ty106) rfl fun a hE => ?_
   refine WL.alloc hE hS (runs_plain rfl) zr106 rfl ?_; clear hE hS a w; intro b99 a w hE hS
   refine vp hS hE rfl rfl fun a hE => ?_
   refine WL.storeI hE hS 0 rfl (ApiStop.cells x86) (runs_plain rfl) rfl rfl rfl ty106 rfl rfl rfl rfl ?_; clear hE hS a w; intro a w hE hS
   refine WL.nil ?_
   refine W.block ?_
   refine W.seq ?_
   obtain ⟨q101, hq100, hq83⟩ := bndS hq83
   refine W.cut (fun a w => ∃ (q104 : Bool), q104 = q101 ∧ Rep a 93 [(5, .map (some b55)), (7, pp b79), (8, vi ((k85 : Nat) : Int)), (9, pp b99), (20, .slice a0_0 x0.Trains.length c0_0), (21, vi ((x0.Trains).length : Int)), (22, vi ((k58 : Nat) : Int)), (45, .slice a73 x59.Stops.length c74), (46, vi ((x59.Stops).length : Int)), (47, vi ((k85 : Nat) : Int)), (52, .bool q104)] ∧ St w s (pc b99 (ApiStop.cells x86).toArray 106 :: pc b79 #[vi x59.No, vi x59.Stock, .slice a73 x59.Stops.length c74, .slice a76 x59.Legs.length c77] 44 :: mapC keyI.f Value.bool b55 (mput q67 x59.No true) :: pc b51 #[.slice a0_0 x0.Trains.length c0_0, .slice a0_1 x0.Turns.length c0_1] 25 :: R)) ?_ ?_
   ·refine W.gen fun K105 hK105 => ?_
    refine W.region ?_
    refine vP hS hE (Gives.fld hE rfl fl106_0) rfl fun a hE => ?_
    refine vP hS hE (Gives.loadB hE 0 rfl rfl rfl ty3) rfl fun a hE => ?_
    refine WL.fnq hE (Guidewithin_ok hS  rfl (r := Guidewithin x86.Station 0 11)) (runs_plain rfl) bd66 rfl rfl rfl ?_
    clear hE hS; rintro e w ⟨rfl, hS⟩; refine ⟨_, rfl, ?_⟩; clear a; intro a hE
    refine v2 hS hE rfl rfl rfl rfl fun a hE => ?_
    rcases Bool.eq_false_or_eq_true (!(Guidewithin x86.Station 0 11)) with hg106 | hg106
    ·replace hq100 := iteT hg106 hq100
     refine nO hE rfl rfl rfl (by rw [hg106]; decide) rfl fun a hE => ?_
     refine nO hE rfl rfl rfl (by rw [hg106]; decide) rfl fun a hE => ?_
     refine nO hE rfl rfl rfl (by rw [hg106]; decide) rfl fun a hE => ?_
     refine nO hE rfl rfl rfl (by rw [hg106]; decide) rfl fun a hE => ?_
     refine vP hS hE (Gives.pickT hE rfl hg106 rfl) rfl fun a hE => ?_
     refine vp hS hE rfl rfl fun a hE => ?_
     refine nO hE rfl rfl rfl (by decide) rfl fun a hE => ?_
     refine nO hE rfl rfl rfl (by decide) rfl fun a hE => ?_
     refine nO hE rfl rfl rfl (by decide) rfl fun a hE => ?_
     refine nO hE rfl rfl rfl (by decide) rfl fun a hE => ?_
     refine vP hS hE (Gives.pickT hE rfl rfl rfl) rfl fun a hE => ?_
     refine vp hS hE rfl rfl fun a hE => WL.nil ?_
     subst hK105
     exact ⟨true, hq100, hE.pick _ ⟨rfl, rfl, rfl, rfl, rfl, rfl, rfl, rfl, rfl, rfl, rfl, trivial⟩, hS⟩
    replace hq100 := iteF hg106 hq100
    refine WL.vS hS hE (runs_if hE rfl rfl rfl hg106) (Gives.fld hE rfl fl106_2) rfl fun a hE => ?_
    refine WL.vS hS hE (runs_if hE rfl rfl rfl hg106) (Gives.loadB hE 0 rfl rfl rfl ty3) rfl fun a hE => ?_
    refine WL.fnq hE (Guidewithin_ok hS  rfl (r := Guidewithin x86.Arr 0 28800)) (runs_if hE rfl rfl rfl hg106) bd66 rfl rfl rfl ?_
    clear hE hS; rintro e w ⟨rfl, hS⟩; refine ⟨_, rfl, ?_⟩; clear a; intro a hE
    refine WL.vS hS hE (runs_if hE rfl rfl rfl hg106) (Gives.p hE rfl) rfl fun a hE => ?_
    refine vP hS hE (Gives.pickF hE rfl hg106 rfl) rfl fun a hE => ?_
    refine vp hS hE rfl rfl fun a hE => ?_
    rcases Bool.eq_false_or_eq_true (!(Guidewithin x86.Arr 0 28800)) with hg107 | hg107
    ·replace hq100 := iteT hg107 hq100
     refine nO hE rfl rfl rfl (by rw [hg107]; decide) rfl fun a hE => ?_
     refine nO hE rfl rfl rfl (by rw [hg107]; decide) rfl fun a hE => ?_
     refine nO hE rfl rfl rfl (by rw [hg107]; decide) rfl fun a hE => ?_
     refine nO hE rfl rfl rfl (by rw [hg107]; decide) rfl fun a hE => ?_
     refine vP hS hE (Gives.pickT hE rfl hg107 rfl) rfl fun a hE => ?_
     refine vp hS hE rfl rfl fun a hE => WL.nil ?_
     subst hK105
     exact ⟨true, hq100, hE.pick _ ⟨rfl, rfl, rfl, rfl, rfl, rfl, rfl, rfl, rfl, rfl, rfl, trivial⟩, hS⟩
    replace hq100 := iteF hg107 hq100
    refine WL.vS hS hE (runs_if hE rfl rfl rfl hg107) (Gives.fld hE rfl fl106_3) rfl fun a hE => ?_
    refine WL.vS hS hE (runs_if hE rfl rfl rfl hg107) (Gives.loadB hE 0 rfl rfl rfl ty3) rfl fun a hE => ?_
    refine WL.fnq hE (Guidewithin_ok hS  rfl (r := Guidewithin x86.Dep 0 28800)) (runs_if hE rfl rfl rfl hg107) bd66 rfl rfl rfl ?_
    clear hE hS; rintro e w ⟨rfl, hS⟩; refine ⟨_, rfl, ?_⟩; clear a; intro a hE
    refine WL.vS hS hE (runs_if hE rfl rfl rfl hg107) (Gives.p hE rfl) rfl fun a hE => ?_
    refine vP hS hE (Gives.pickF hE rfl hg107 rfl) rfl fun a hE => ?_
    refine vp hS hE rfl rfl fun a hE => WL.nil ?_
    subst hK105
    exact ⟨!(Guidewithin x86.Dep 0 28800), hq100, hE.pick _ ⟨rfl, rfl, rfl, rfl, rfl, rfl, rfl, rfl, rfl, rfl, rfl, trivial⟩, hS⟩
   clear hE hS a w; rintro a w ⟨q104, rfl, hE, hS⟩
   refine W.cond hE rfl (fun hc108 => ?_) (fun hc108 => ?_)
   ·replace hq83 := iteT hc108 hq83
    refine W.seq (W.region (vp hS hE rfl rfl fun a hE => WL.nil ?_))
    refine W.ret ?_
    subst hK94
    subst hK68
    rw [← Option.some.inj hq83] at hq56
    dsimp only at hq56
    rw [← Option.some.inj hq56] at hr
    dsimp only at hr
    refine finG (fn := Tryd.f17) (rs := [.tmp 2]) (vs := [_]) hE rfl ⟨rfl, trivial⟩ ?_
    obtain rfl := Option.some.inj hr
    replace hS := hS.tail
    replace hS := hS.tail
    replace hS := hS.tail
    replace hS := hS.tail
    exact ⟨rfl, hS⟩
   replace hq83 := iteF hc108 hq83
   refine W.seq ?_
   obtain ⟨q110, hq109, hq83⟩ := bindS hq83
   refine W.cut (fun a w => ∃ (q113 : Bool), q113 = q110 ∧ Rep a 93 [(5, .map (some b55)), (7, pp b79), (20, .slice a0_0 x0.Trains.length c0_0), (21, vi ((x0.Trains).length : Int)), (22, vi ((k58 : Nat) : Int)), (45, .slice a73 x59.Stops.length c74), (46, vi ((x59.Stops).length : Int)), (47, vi ((k85 : Nat) : Int)), (69, .bool q113)] ∧ St w s (pc b99 (ApiStop.cells x86).toArray 106 :: pc b79 #[vi x59.No, vi x59.Stock, .slice a73 x59.Stops.length c74, .slice a76 x59.Legs.length c77] 44 :: mapC keyI.f Value.bool b55 (mput q67 x59.No true) :: pc b51 #[.slice a0_0 x0.Trains.length c0_0, .slice a0_1 x0.Turns.length c0_1] 25 :: R)) ?_ ?_
   ·refine W.gen fun K114 hK114 => ?_
    refine W.regionQ (C := fun w => St w s (pc b99 (ApiStop.cells x86).toArray 106 :: pc b79 #[vi x59.No, vi x59.Stock, .slice a73 x59.Stops.length c74, .slice a76 x59.Legs.length c77] 44 :: mapC keyI.f Value.bool b55 (mput q67 x59.No true) :: pc b51 #[.slice a0_0 x0.Trains.length c0_0, .slice a0_1 x0.Turns.length c0_1] 25 :: R)) mixed (by kernel_rfl) hS.drew ?_
    refine qP hE (Gives.fld hE rfl fl106_3) rfl fun a hE => ?_
    refine qP hE (Gives.loadB hE 0 rfl rfl rfl ty3) rfl fun a hE => ?_
    refine qP hE (Gives.fld hE rfl fl106_2) rfl fun a hE => ?_
    refine qP hE (Gives.loadB hE 0 rfl rfl rfl ty3) rfl fun a hE => ?_
    refine qP hE (Gives.p hE rfl) rfl fun a hE => ?_
    refine qP hE (Gives.p hE rfl) rfl fun a hE => ?_
    rcases Bool.eq_false_or_eq_true (decide (x86.Dep < x86.Arr)) with hg115 | hg115
    ·replace hq109 := iteT hg115 hq109
     refine QL.no hE (runs_not hE rfl rfl rfl (by rw [hg115]; decide)) rfl fun a hE => ?_
     refine QL.no hE (runs_not hE rfl rfl rfl (by rw [hg115]; decide)) rfl fun a hE => ?_
     refine QL.no hE (runs_not hE rfl rfl rfl (by rw [hg115]; decide)) rfl fun a hE => ?_
     refine QL.no hE (runs_undef hE rfl rfl rfl) rfl fun a hE => ?_
     refine QL.no hE (runs_undef hE rfl rfl rfl) rfl fun a hE => ?_
     refine QL.no hE (runs_undef hE rfl rfl rfl) rfl fun a hE => ?_
     refine QL.no hE (runs_undef hE rfl rfl rfl) rfl fun a hE => ?_
     refine QL.no hE (runs_undef hE rfl rfl rfl) rfl fun a hE => ?_
     refine QL.no hE (runs_undef hE rfl rfl rfl) rfl fun a hE => ?_
     refine QL.no hE (runs_undef hE rfl rfl rfl) rfl fun a hE => ?_
     refine QL.no hE (runs_undef hE rfl rfl rfl) rfl fun a hE => ?_
     refine QL.no hE (runs_undef hE rfl rfl rfl) rfl fun a hE => ?_
     refine QL.no hE (runs_undef hE rfl rfl rfl) rfl fun a hE => ?_
     refine QL.no hE (runs_not hE rfl rfl rfl (by rw [hg115]; decide)) rfl fun a hE => ?_
     refine qP hE (Gives.pickT hE rfl hg115 rfl) rfl fun a hE => ?_
     refine qP hE (Gives.p hE rfl) rfl fun a hE => ?_
     refine QL.nil ?_; clear hS w; intro w hS
     subst hK114
     exact ⟨true, Option.some.inj hq109, hE.pick _ ⟨rfl, rfl, rfl, rfl, rfl, rfl, rfl, rfl, rfl, trivial⟩, hS⟩
    replace hq109 := iteF hg115 hq109
    refine QL.v hE (runs_if hE rfl rfl rfl hg115) (Gives.p hE rfl) rfl fun a hE => ?_
    refine QL.v hE (runs_if hE rfl rfl rfl hg115) (Gives.p hE rfl) rfl fun a hE => ?_
    refine QL.v hE (runs_if hE rfl rfl rfl hg115) (Gives.p hE rfl) rfl fun a hE => ?_
    rcases Bool.eq_false_or_eq_true (decide (((k85 : Nat) : Int) > 0)) with hg116 | hg116
    ·replace hq109 := iteT hg116 hq109
     refine QL.v hE (runs_if hE rfl rfl rfl hg116) (Gives.fld hE rfl fl106_2) rfl fun a hE => ?_
     refine QL.v hE (runs_if hE rfl rfl rfl hg116) (Gives.loadB hE 0 rfl rfl rfl ty3) rfl fun a hE => ?_
     refine QL.v hE (runs_if hE rfl rfl rfl hg116) (Gives.fld hE rfl fl44_2) rfl fun a hE => ?_
     refine QL.v hE (runs_if hE rfl rfl rfl hg116) (Gives.loadB hE 1 rfl rfl rfl ty42) rfl fun a hE => ?_
     refine QL.v hE (runs_if hE rfl rfl rfl hg116) (Gives.p hE rfl) rfl fun a hE => ?_
     refine QL.v hE (runs_if hE rfl rfl rfl hg116) (Gives.p hE rfl) rfl fun a hE => ?_
     obtain ⟨x117, hx118, hq109⟩ := bindS hq109
     obtain ⟨hi119, hlt120, hy121⟩ := gx_some hx118
     obtain ⟨cs122, hl123, hR124, hat125⟩ := h75.at hy121
     subst hR124
     refine QL.v hE (runs_if hE rfl rfl rfl hg116) (Gives.idx hE (w64 (((k85 : Nat) : Int) - 1)).toNat rfl rfl sl42 hi119 hlt120 (h75.aok hlt120)) rfl fun a hE => ?_
     refine QL.v hE (runs_if hE rfl rfl rfl hg116) (Gives.fld hE rfl fl106_3) rfl fun a hE => ?_
     refine QL.v hE (runs_if hE rfl rfl rfl hg116) (Gives.load1 hE rfl (fun w h => (hat125 w _ h).one rfl) ty3) rfl fun a hE => ?_
     refine QL.v hE (runs_if hE rfl rfl rfl hg116) (Gives.p hE rfl) rfl fun a hE => ?_
     refine QL.v hE (runs_if hE rfl rfl rfl hg115) (Gives.pickT hE rfl hg116 rfl) rfl fun a hE => ?_
     refine qP hE (Gives.pickF hE rfl hg115 rfl) rfl fun a hE => ?_
     refine qP hE (Gives.p hE rfl) rfl fun a hE => ?_
     refine QL.nil ?_; clear hS w; intro w hS
     subst hK114
     exact ⟨decide (x86.Arr ≤ x117.Dep), Option.some.inj hq109, hE.pick _ ⟨rfl, rfl, rfl, rfl, rfl, rfl, rfl, rfl, rfl, trivial⟩, hS⟩
    replace hq109 := iteF hg116 hq109
    refine QL.no hE (runs_not hE rfl rfl rfl (by rw [hg116]; decide)) rfl fun a hE => ?_
    refine QL.no hE (runs_not hE rfl rfl rfl (by rw [hg116]; decide)) rfl fun a hE => ?_
    refine QL.no hE (runs_not hE rfl rfl rfl (by rw [hg116]; decide)) rfl fun a hE => ?_
    refine QL.no hE (runs_not hE rfl rfl rfl (by rw [hg116]; decide)) rfl fun a hE => ?_
    refine QL.no hE (runs_not hE rfl rfl rfl (by rw [hg116]; decide)) rfl fun a hE => ?_
    refine QL.no hE (runs_not hE rfl rfl rfl (by rw [hg116]; decide)) rfl fun a hE => ?_
    refine QL.no hE (runs_not hE rfl rfl rfl (by rw [hg116]; decide)) rfl fun a hE => ?_
    refine QL.no hE (runs_not hE rfl rfl rfl (by rw [hg116]; decide)) rfl fun a hE => ?_
    refine QL.no hE (runs_not hE rfl rfl rfl (by rw [hg116]; decide)) rfl fun a hE => ?_
    refine QL.no hE (runs_not hE rfl rfl rfl (by rw [hg116]; decide)) rfl fun a hE => ?_
    refine QL.v hE (runs_if hE rfl rfl rfl hg115) (Gives.pickF hE rfl hg116 rfl) rfl fun a hE => ?_
    refine qP hE (Gives.pickF hE rfl hg115 rfl) rfl fun a hE => ?_
    refine qP hE (Gives.p hE rfl) rfl fun a hE => ?_
    refine QL.nil ?_; clear hS w; intro w hS
    subst hK114
    exact ⟨false, Option.some.inj hq109, hE.pick _ ⟨rfl, rfl, rfl, rfl, rfl, rfl, rfl, rfl, rfl, trivial⟩, hS⟩
   clear hE hS a w; rintro a w ⟨q113, rfl, hE, hS⟩
   refine W.cond hE rfl (fun hc126 => ?_) (fun hc126 => ?_)
   ·replace hq83 := iteT hc126 hq83
    refine W.seq (W.region (vp hS hE rfl rfl fun a hE => WL.nil ?_))
    refine W.ret ?_
    subst hK94
    subst hK68
    rw [← Option.some.inj hq83] at hq56
    dsimp only at hq56
    rw [← Option.some.inj hq56] at hr
    dsimp only at hr
    refine finG (fn := Tryd.f17) (rs := [.tmp 2]) (vs := [_]) hE rfl ⟨rfl, trivial⟩ ?_
    obtain rfl := Option.some.inj hr
    replace hS := hS.tail
    replace hS := hS.tail
    replace hS := hS.tail
    replace hS := hS.tail
    exact ⟨rfl, hS⟩
   replace hq83 := iteF hc126 hq83
   refine W.skip ?_
   refine W.region ?_
   refine vP hS hE (Gives.inc hE rfl (by have := h75.small; omega)) rfl fun a hE => ?_
   refine vp hS hE rfl rfl fun a hE => WL.nil ?_
   replace hS := hS.tail
   subst hK94
   exact ⟨rest87.length, Nat.lt_succ_self _, rest87, k85 + 1, rfl, hd88, hq83, hE.pick _ ⟨rfl, rfl, rfl, rfl, rfl, rfl, rfl, rfl, trivial⟩, hS⟩
  clear hE hS a w; rintro a w ⟨rfl, hE, hS⟩
  dsimp only at hq56
  refine W.region ?_
  refine vP hS hE (Gives.inc hE rfl (by have := h0_0.small; omega)) rfl fun a hE => ?_
  refine vp hS hE rfl rfl fun a hE => WL.nil ?_
  replace hS := hS.tail
  subst hK68
  exact ⟨rest60.length, Nat.lt_succ_self _, rest60, k58 + 1, (mput q67 x59.No true), rfl, hd61, hq56, hE.pick _ ⟨rfl, rfl, rfl, rfl, trivial⟩, hS⟩
 clear hE hS a w; rintro a w ⟨q67, rfl, hE, hS⟩
 dsimp only at hr
 refine W.seq (W.region (vp hS hE rfl rfl fun a hE => WL.nil ?_))
 refine W.ret ?_
 refine finG (fn := Tryd.f17) (rs := [.tmp 2]) (vs := [_]) hE rfl ⟨rfl, trivial⟩ ?_
 obtain rfl := Option.some.inj hr
 replace hS := hS.tail
 replace hS := hS.tail
 exact ⟨rfl, hS⟩
set_option maxHeartbeats 8000000 in
theorem GuidecheckLeast_ok  {w : World} {s : Sg} {R : List HP} {x0 : ApiDay} {a0_0 : Option Addr} {c0_0 : Nat} {a0_1 : Option Addr} {c0_1 : Nat} {x1 : Int} (hS : St w s (R)) (hTab : TabS Tryd.prog s) (h0_0 : Sl 4 RApiTrain s a0_0 c0_0 x0.Trains) (h0_1 : Sl 1 (RL 1 (RI .i64)) s a0_1 c0_1 x0.Turns) {r : Int} (hr : GuidecheckLeast x0 x1 = some r) :
  Calls Tryd.prog 67 [.agg [.slice a0_0 x0.Trains.length c0_0, .slice a0_1 x0.Turns.length c0_1].toArray, vi x1].toArray w (fun e w => e = .returned (vi r) ∧ St w s (R)) := by
 refine enter Tryd.func67 rfl rfl rfl fun a hE => ?_
 rw [GuidecheckLeast] at hr
 refine W.seq (W.region ?_)
 refine WL.box hE hS (runs_plain rfl) rfl rfl rfl ?_; clear hE hS a w; intro b51 a w hE hS
 refine vp hS hE rfl rfl fun a hE => WL.nil ?_
 refine W.seq ?_
 refine W.seq (W.region (vP hS hE (Gives.loadBA hE 0 rfl rfl ty25) rfl fun a hE => ?_))
 obtain ⟨q52, hq53, hr⟩ := bindS hr
 have hc_ := GuideCheck_ok hS (TabS.mono (Sg.Le.refl _) hTab) h0_0 h0_1 hq53
 refine WL.fnq hE (hc_) (runs_plain rfl) bd17 rfl rfl rfl ?_
 clear hE hS hc_; rintro e w ⟨rfl, hS⟩; refine ⟨_, rfl, ?_⟩; clear a; intro a hE
 refine vp hS hE rfl rfl fun a hE => WL.nil ?_
 refine W.seq (W.region (v2 hS hE rfl rfl rfl rfl fun a hE => WL.nil ?_))
 refine W.cond hE rfl (fun hc54 => ?_) (fun hc54 => ?_)
 ·replace hr := iteT hc54 hr
  refine W.seq (W.region (v2 hS hE rfl rfl rfl rfl fun a hE => WL.nil ?_))
  refine W.ret ?_
  refine finG (fn := Tryd.f67) (rs := [.tmp 4]) (vs := [_]) hE rfl ⟨rfl, trivial⟩ ?_
  obtain rfl := Option.some.inj hr
  replace hS := hS.tail
  exact ⟨rfl, hS⟩
 replace hr := iteF hc54 hr
 refine W.skip ?_
 refine W.seq ?_
 refine W.seq (W.region (vp hS hE rfl rfl fun a hE => ?_))
 refine WL.fnq hE (Guidewithin_ok hS  rfl (r := Guidewithin x1 0 28800)) (runs_plain rfl) bd66 rfl rfl rfl ?_
 clear hE hS; rintro e w ⟨rfl, hS⟩; refine ⟨_, rfl, ?_⟩; clear a; intro a hE
 refine vp hS hE rfl rfl fun a hE => WL.nil ?_
 refine W.cond hE rfl (fun hc55 => ?_) (fun hc55 => ?_)
 ·replace hr := iteT hc55 hr
  refine W.seq (W.region (vp hS hE rfl rfl fun a hE => WL.nil ?_))
  refine W.ret ?_
  refine finG (fn := Tryd.f67) (rs := [.tmp 4]) (vs := [_]) hE rfl ⟨rfl, trivial⟩ ?_
  obtain rfl := Option.some.inj hr
  replace hS := hS.tail
  exact ⟨rfl, hS⟩
 replace hr := iteF hc55 hr
 refine W.skip ?_
 refine W.seq (W.region (vp hS hE rfl rfl fun a hE => WL.nil ?_))
 refine W.ret ?_
 refine finG (fn := Tryd.f67) (rs := [.tmp 4]) (vs := [_]) hE rfl ⟨rfl, trivial⟩ ?_
 obtain rfl := Option.some.inj hr
 replace hS := hS.tail
 exact ⟨rfl, hS⟩
set_option maxHeartbeats 8000000 in
theorem Guidecheck_ok  {w : World} {s : Sg} {R : List HP} {x0 : ApiDay} {a0_0 : Option Addr} {c0_0 : Nat} {a0_1 : Option Addr} {c0_1 : Nat} {x1 : Int} {x2 : Int} {x3 : Int} {x4 : List Int} {a4 : Option Addr} {c4 : Nat} (hS : St w s (R)) (hTab : TabS Tryd.prog s) (h0_0 : Sl 4 RApiTrain s a0_0 c0_0 x0.Trains) (h0_1 : Sl 1 (RL 1 (RI .i64)) s a0_1 c0_1 x0.Turns) (h4 : Sl 1 (RI .i64) s a4 c4 x4) {r : Int} (hr : Guidecheck x0 x1 x2 x3 x4 = some r) :
  Calls Tryd.prog 46 [.agg [.slice a0_0 x0.Trains.length c0_0, .slice a0_1 x0.Turns.length c0_1].toArray, vi x1, vi x2, vi x3, .slice a4 x4.length c4].toArray w (fun e w => e = .returned (vi r) ∧ St w s (R)) := by
 refine enter Tryd.func46 rfl rfl rfl fun a hE => ?_
 rw [Guidecheck] at hr
 refine W.seq (W.region ?_)
 refine WL.box hE hS (runs_plain rfl) rfl rfl rfl ?_; clear hE hS a w; intro b51 a w hE hS
 refine vp hS hE rfl rfl fun a hE => WL.nil ?_
 refine W.seq ?_
 refine W.seq (W.region (vP hS hE (Gives.loadBA hE 0 rfl rfl ty25) rfl fun a hE => ?_))
 refine vp hS hE rfl rfl fun a hE => ?_
 obtain ⟨q52, hq53, hr⟩ := bindS hr
 have hc_ := GuidecheckLeast_ok hS (TabS.mono (Sg.Le.refl _) hTab) h0_0 h0_1 hq53
 refine WL.fnq hE (hc_) (runs_plain rfl) bd67 rfl rfl rfl ?_
 clear hE hS hc_; rintro e w ⟨rfl, hS⟩; refine ⟨_, rfl, ?_⟩; clear a; intro a hE
 refine vp hS hE rfl rfl fun a hE => WL.nil ?_
 refine W.seq (W.region (v2 hS hE rfl rfl rfl rfl fun a hE => WL.nil ?_))
 refine W.cond hE rfl (fun hc54 => ?_) (fun hc54 => ?_)
 ·replace hr := iteT hc54 hr
  refine W.seq (W.region (v2 hS hE rfl rfl rfl rfl fun a hE => WL.nil ?_))
  refine W.ret ?_
  refine finG (fn := Tryd.f46) (rs := [.tmp 10]) (vs := [_]) hE rfl ⟨rfl, trivial⟩ ?_
  obtain rfl := Option.some.inj hr
  replace hS := hS.tail
  exact ⟨rfl, hS⟩
 replace hr := iteF hc54 hr
 refine W.skip ?_
 refine W.seq ?_
 refine W.seq ?_
 obtain ⟨q56, hq55, hr⟩ := bndS hr
 refine W.cut (fun a w => ∃ (q59 : Bool), q59 = q56 ∧ Rep a 41 [(2, vi x2), (3, vi x3), (4, .slice a4 x4.length c4), (27, .bool q59)] ∧ St w s (pc b51 #[.slice a0_0 x0.Trains.length c0_0, .slice a0_1 x0.Turns.length c0_1] 25 :: R)) ?_ ?_
 ·refine W.gen fun K60 hK60 => ?_
  refine W.region ?_
  refine vp hS hE rfl rfl fun a hE => ?_
  refine WL.fnq hE (Guidewithin_ok hS  rfl (r := Guidewithin x2 0 11)) (runs_plain rfl) bd66 rfl rfl rfl ?_
  clear hE hS; rintro e w ⟨rfl, hS⟩; refine ⟨_, rfl, ?_⟩; clear a; intro a hE
  refine v2 hS hE rfl rfl rfl rfl fun a hE => ?_
  rcases Bool.eq_false_or_eq_true (!(Guidewithin x2 0 11)) with hg61 | hg61
  ·replace hq55 := iteT hg61 hq55
   refine nO hE rfl rfl rfl (by rw [hg61]; decide) rfl fun a hE => ?_
   refine nO hE rfl rfl rfl (by rw [hg61]; decide) rfl fun a hE => ?_
   refine nO hE rfl rfl rfl (by rw [hg61]; decide) rfl fun a hE => ?_
   refine vP hS hE (Gives.pickT hE rfl hg61 rfl) rfl fun a hE => WL.nil ?_
   subst hK60
   exact ⟨true, hq55, hE.pick _ ⟨rfl, rfl, rfl, rfl, trivial⟩, hS⟩
  replace hq55 := iteF hg61 hq55
  refine WL.vS hS hE (runs_if hE rfl rfl rfl hg61) (Gives.p hE rfl) rfl fun a hE => ?_
  refine WL.fnq hE (Guidewithin_ok hS  rfl (r := Guidewithin x3 0 11)) (runs_if hE rfl rfl rfl hg61) bd66 rfl rfl rfl ?_
  clear hE hS; rintro e w ⟨rfl, hS⟩; refine ⟨_, rfl, ?_⟩; clear a; intro a hE
  refine WL.vS hS hE (runs_if hE rfl rfl rfl hg61) (Gives.p hE rfl) rfl fun a hE => ?_
  refine vP hS hE (Gives.pickF hE rfl hg61 rfl) rfl fun a hE => WL.nil ?_
  subst hK60
  exact ⟨!(Guidewithin x3 0 11), hq55, hE.pick _ ⟨rfl, rfl, rfl, rfl, trivial⟩, hS⟩
 clear hE hS a w; rintro a w ⟨q59, rfl, hE, hS⟩
 refine W.cond hE rfl (fun hc62 => ?_) (fun hc62 => ?_)
 ·replace hr := iteT hc62 hr
  refine W.seq (W.region (vp hS hE rfl rfl fun a hE => WL.nil ?_))
  refine W.ret ?_
  refine finG (fn := Tryd.f46) (rs := [.tmp 10]) (vs := [_]) hE rfl ⟨rfl, trivial⟩ ?_
  obtain rfl := Option.some.inj hr
  replace hS := hS.tail
  exact ⟨rfl, hS⟩
 replace hr := iteF hc62 hr
 refine W.skip ?_
 refine W.seq ?_
 refine W.seq (W.region (v2 hS hE rfl rfl rfl rfl fun a hE => ?_))
 refine vp hS hE rfl rfl fun a hE => WL.nil ?_
 refine W.cond hE rfl (fun hc63 => ?_) (fun hc63 => ?_)
 ·replace hr := iteT hc63 hr
  refine W.seq (W.region (vp hS hE rfl rfl fun a hE => WL.nil ?_))
  refine W.ret ?_
  refine finG (fn := Tryd.f46) (rs := [.tmp 10]) (vs := [_]) hE rfl ⟨rfl, trivial⟩ ?_
  obtain rfl := Option.some.inj hr
  replace hS := hS.tail
  exact ⟨rfl, hS⟩
 replace hr := iteF hc63 hr
 refine W.skip ?_
 refine W.seq ?_
 refine W.seq (W.region (vp hS hE rfl rfl fun a hE => ?_))
 refine vP hS hE (Gives.len hE rfl sl45) rfl fun a hE => ?_
 refine vp hS hE rfl rfl fun a hE => WL.nil ?_
 obtain ⟨q65, hq64, hr⟩ := bndS hr
 refine W.cut (fun a w => (.next ()) = q65 ∧ Rep a 41 [] ∧ St w s (pc b51 #[.slice a0_0 x0.Trains.length c0_0, .slice a0_1 x0.Turns.length c0_1] 25 :: R)) ?_ ?_
 ·refine W.block ?_
  refine W.loop (fun m a w => ∃ (rest68 : List Int) (k66 : Nat), rest68.length = m ∧ x4.drop k66 = rest68 ∧ Guidecheck.loop1 rest68 = q65 ∧ Rep a 41 [(31, .slice a4 x4.length c4), (32, vi ((x4).length : Int)), (33, vi ((k66 : Nat) : Int))] ∧ St w s (pc b51 #[.slice a0_0 x0.Trains.length c0_0, .slice a0_1 x0.Turns.length c0_1] 25 :: R)) (m := x4.length) ⟨x4, 0, rfl, rfl, hq64, hE.pick _ ⟨rfl, rfl, rfl, trivial⟩, hS⟩ ?_
  clear hE hS a w hq64; rintro m72 a w ⟨rest68, k66, rfl, hd69, hq64, hE, hS⟩
  refine W.gen fun K75 hK75 => ?_
  rcases rest68 with _ | ⟨x67, rest68⟩
  ·have hlt70 := drop_nil hd69
   refine W.seq (W.region (vp hS hE rfl rfl fun a hE => WL.nil ?_))
   refine W.seq ?_
   refine W.condF hE rfl (decide_eq_false (by omega)) ?_
   subst hK75
   refine W.exit rfl ?_
   exact ⟨hq64, hE.pick _ trivial, hS⟩
  obtain ⟨hlt70, hx71, hd69⟩ := drop_cons hd69
  rw [Guidecheck.loop1] at hq64
  refine W.seq (W.region (vp hS hE rfl rfl fun a hE => WL.nil ?_))
  refine W.seq ?_
  refine W.condT hE rfl (decide_eq_true (by omega)) ?_
  refine W.skip ?_
  refine W.seq ?_
  refine W.block ?_
  refine W.seq (W.region ?_)
  obtain ⟨cs76, hl77, hR78, hat79⟩ := h4.at hx71
  subst hR78
  refine vP hS hE (Gives.idx hE k66 rfl rfl sl45 rfl hlt70 (h4.aok hlt70)) rfl fun a hE => ?_
  refine vP hS hE (Gives.load1 hE rfl (fun w h => hat79 w _ h) ty3) rfl fun a hE => ?_
  refine vp hS hE rfl rfl fun a hE => WL.nil ?_
  refine W.seq (W.region (vp hS hE rfl rfl fun a hE => ?_))
  refine WL.fnq hE (Guidewithin_ok hS  rfl (r := Guidewithin x67 0 28800)) (runs_plain rfl) bd66 rfl rfl rfl ?_
  clear hE hS; rintro e w ⟨rfl, hS⟩; refine ⟨_, rfl, ?_⟩; clear a; intro a hE
  refine vp hS hE rfl rfl fun a hE => WL.nil ?_
  refine W.cond hE rfl (fun hc80 => ?_) (fun hc80 => ?_)
  ·replace hq64 := iteT hc80 hq64
   refine W.seq (W.region (vp hS hE rfl rfl fun a hE => WL.nil ?_))
   refine W.ret ?_
   subst hK75
   rw [← hq64] at hr
   dsimp only at hr
   refine finG (fn := Tryd.f46) (rs := [.tmp 10]) (vs := [_]) hE rfl ⟨rfl, trivial⟩ ?_
   obtain rfl := Option.some.inj hr
   replace hS := hS.tail
   exact ⟨rfl, hS⟩
  replace hq64 := iteF hc80 hq64
  refine W.skip ?_
  refine W.region ?_
  refine vP hS hE (Gives.inc hE rfl (by have := h4.small; omega)) rfl fun a hE => ?_
  refine vp hS hE rfl rfl fun a hE => WL.nil ?_
  subst hK75
  exact ⟨rest68.length, Nat.lt_succ_self _, rest68, k66 + 1, rfl, hd69, hq64, hE.pick _ ⟨rfl, rfl, rfl, trivial⟩, hS⟩
 clear hE hS a w; rintro a w ⟨rfl, hE, hS⟩
 dsimp only at hr
 refine W.seq (W.region (vp hS hE rfl rfl fun a hE => WL.nil ?_))
 refine W.ret ?_
 refine finG (fn := Tryd.f46) (rs := [.tmp 10]) (vs := [_]) hE rfl ⟨rfl, trivial⟩ ?_
 obtain rfl := Option.some.inj hr
 replace hS := hS.tail
 exact ⟨rfl, hS⟩
theorem pt_at0 {α : Type} {es : Nat} {R : Rd α} {s : Sg} {b : Nat} {v : α} (h : Pt es R s (some ⟨b, 0, none⟩) (some v)) : ∃ cs, s.At b 0 cs ∧ R s cs v := by
 obtain ⟨b', o', cs, e, _, h3, h4⟩ := h
 injection e with e
 injection e with e1 e2
 subst e1; subst e2
 exact ⟨cs, h3, h4⟩
set_option maxHeartbeats 4000000 in
theorem rides1_ok {s : Sg} {bn bo bs ba : Nat} {cn : List Value} {n : GuideNet} {station at_ nt : Int} (hn : s.At bn 0 cn) (hcn : RGuideNet s cn n) (hnt : s.At bo 0 [vi nt]) (hst : s.At bs 0 [vi station]) (hat : s.At ba 0 [vi at_]) :
  Iter Tryd.prog 113 [pp bn, pp bo, pp bs, pp ba] (fun x => [Value.agg (GuideRide.cells x).toArray]) s (ridesT station at_ nt n.Day.Trains 0) := by
 intro y I X hI hY w t Q h0 hS
 obtain ⟨a0, c0, a1, c1, rfl, hTr, hTu⟩ := hcn
 have cell : ∀ {u : Sg} {b o : Nat} {cs : List Value} {v : Value} (k : Nat), s.Le u → s.At b o cs → cs[k]? = some v → ∀ w rs, St w u rs → Sees w b (o + k) [v] := by
  intro u b o cs v k hle h hk w rs hS j x hj
  cases j with
  | zero => simp at hj; subst hj; have := hS.sees (h.mono hle) k v hk; simpa using this
  | succ j => simp at hj
 have hle := hI _ _ _ h0
 refine enter Tryd.func113 rfl rfl rfl fun a hE => ?_
 refine W.seq (W.region (vP hS hE (Gives.fld hE rfl fl94_0) rfl fun a hE => ?_))
 refine vP hS hE (Gives.fld hE rfl fl25_0) rfl fun a hE => ?_
 refine vP hS hE (Gives.load1 hE rfl (fun w h => cell 0 hle hn rfl w _ h) ty22) rfl fun a hE => ?_
 refine vP hS hE (Gives.len hE rfl sl22) rfl fun a hE => ?_
 refine vp hS hE rfl rfl fun a hE => WL.nil ?_
 refine W.block ?_
 refine W.loop (fun m a w => ∃ (rest : List ApiTrain) (k : Nat) (pre : List GuideRide) (u : Sg) (Q : List HP), rest.length = m ∧ n.Day.Trains.drop k = rest ∧ ridesT station at_ nt n.Day.Trains 0 = pre ++ ridesT station at_ nt rest k ∧ I pre u Q ∧ Rep a 59 [(0, .func (.yield y) #[] #[]), (1, pp bn), (2, pp bo), (3, pp bs), (4, pp ba), (13, .slice a0 n.Day.Trains.length c0), (14, vi ((n.Day.Trains.length : Nat) : Int)), (15, vi (k : Int))] ∧ St w u Q) (m := n.Day.Trains.length) ⟨n.Day.Trains, 0, [], t, Q, rfl, rfl, rfl, h0, hE.pick _ ⟨rfl, rfl, rfl, rfl, rfl, rfl, rfl, rfl, trivial⟩, hS⟩ ?_
 clear hE hS h0 hle a w t Q; rintro m a w ⟨rest, k, pre, u, Q, rfl, hd, hl, hp, hE, hS⟩
 have hle := hI _ _ _ hp
 refine W.gen fun K hK => ?_
 have hrd : K.rd = none := by rw [← hK]
 rcases rest with _ | ⟨x, rest⟩
 ·have hlt := drop_nil hd
  refine W.seq (W.region (vp hS hE rfl rfl fun a hE => WL.nil ?_))
  refine W.seq ?_
  refine W.condF hE rfl (decide_eq_false (by omega)) ?_
  subst hK
  refine W.exit rfl ?_
  refine fin0 hE rfl ⟨⟨_, rfl⟩, .inl ⟨u, Q, ?_, hS⟩⟩
  rw [hl, ridesT, List.append_nil]; exact hp
 obtain ⟨hlt, hx, hd⟩ := drop_cons hd
 rw [ridesT] at hl
 refine W.seq (W.region (vp hS hE rfl rfl fun a hE => WL.nil ?_))
 refine W.seq ?_
 refine W.condT hE rfl (decide_eq_true (by omega)) ?_
 refine W.skip ?_
 refine W.seq ?_
 refine W.block ?_
 obtain ⟨ct, hctl, hctA, hct⟩ := hTr.el k x hx
 obtain ⟨ta, tc, tb, te, rfl, hSt, hLe⟩ := hct
 refine W.seq (W.region (vp hS hE rfl rfl fun a hE => ?_))
 refine vP hS hE (Gives.idx hE k rfl rfl sl22 rfl hlt ((Sl.mono RApiTrain.mono hle hTr).aok (k := k) hlt)) rfl fun a hE => ?_
 refine vP hS hE (Gives.loadA hE rfl (fun w h => h.sees (hctA.mono hle)) ty44) rfl fun a hE => ?_
 refine WL.alloc hE hS (runs_plain rfl) zr44 rfl ?_; clear hE hS a w; intro bt a w hE hS
 refine vp hS hE rfl rfl fun a hE => ?_
 refine WL.storeI hE hS 0 rfl [vi x.No, vi x.Stock, .slice ta x.Stops.length tc, .slice tb x.Legs.length te] (runs_plain rfl) rfl rfl rfl ty44 rfl rfl rfl rfl ?_; clear hE hS a w; intro a w hE hS
 refine WL.nil ?_
 refine W.seq ?_
 refine W.seq (W.region (vp hS hE rfl rfl fun a hE => ?_))
 refine vP hS hE (Gives.load1 hE rfl (fun w h => cell 0 hle hnt rfl w _ h) ty3) rfl fun a hE => ?_
 refine vp hS hE rfl rfl fun a hE => WL.nil ?_
 refine W.cond hE rfl (fun hc => ?_) (fun hc => ?_)
 ·refine W.exit rfl ?_
  have hc : (k : Int) = nt := by simpa using hc
  rw [if_pos hc, List.nil_append] at hl
  replace hS := hS.tail
  refine W.region ?_
  refine vP hS hE (Gives.inc hE rfl (by have := hTr.small; omega)) rfl fun a hE => ?_
  refine vp hS hE rfl rfl fun a hE => WL.nil ?_
  subst hK
  exact ⟨rest.length, Nat.lt_succ_self _, rest, k + 1, pre, u, Q, rfl, hd, hl, hp, hE.pick _ ⟨rfl, rfl, rfl, rfl, rfl, rfl, rfl, rfl, trivial⟩, hS⟩
 have hc : ¬ (k : Int) = nt := by simpa using hc
 rw [if_neg hc] at hl
 refine W.skip ?_
 refine W.seq (W.region (vP hS hE (Gives.fld hE rfl fl44_2) rfl fun a hE => ?_))
 refine vP hS hE (Gives.loadB hE 0 rfl rfl rfl ty42) rfl fun a hE => ?_
 refine vP hS hE (Gives.len hE rfl sl42) rfl fun a hE => ?_
 refine vp hS hE rfl rfl fun a hE => WL.nil ?_
 refine W.block ?_
 refine W.loop (fun m a w => ∃ (rest2 : List ApiStop) (k2 : Nat) (pre2 : List GuideRide) (u2 : Sg) (Q2 : List HP), rest2.length = m ∧ x.Stops.drop k2 = rest2 ∧ ridesT station at_ nt n.Day.Trains 0 = pre2 ++ (ridesS station at_ k x.Stops.length rest2 k2 ++ ridesT station at_ nt rest (k + 1)) ∧ I pre2 u2 Q2 ∧ Rep a 59 [(0, .func (.yield y) #[] #[]), (1, pp bn), (2, pp bo), (3, pp bs), (4, pp ba), (13, .slice a0 n.Day.Trains.length c0), (14, vi ((n.Day.Trains.length : Nat) : Int)), (15, vi (k : Int)), (6, vi (k : Int)), (7, pp bt), (24, .slice ta x.Stops.length tc), (25, vi ((x.Stops.length : Nat) : Int)), (26, vi (k2 : Int))] ∧ St w u2 (pt bt (Obj.cells [Value.int .i64 x.No, Value.int .i64 x.Stock, Value.slice ta x.Stops.length tc, Value.slice tb x.Legs.length te].toArray 44 (0, 0)) :: Q2)) (m := x.Stops.length) ⟨x.Stops, 0, pre, u, Q, rfl, rfl, hl, hp, hE.pick _ ⟨rfl, rfl, rfl, rfl, rfl, rfl, rfl, rfl, rfl, rfl, rfl, rfl, rfl, trivial⟩, hS⟩ ?_
 clear hE hS a w hp hl hle pre; rintro m2 a w ⟨rest2, k2, pre, u2, Q2, rfl, hd2, hl, hp, hE, hS⟩
 have hle := hI _ _ _ hp
 refine W.gen fun K2 hK2 => ?_
 have hrd2 : K2.rd = none := by rw [← hK2]; exact hrd
 rcases rest2 with _ | ⟨z, rest2⟩
 ·have hlt2 := drop_nil hd2
  rw [ridesS, List.nil_append] at hl
  refine W.seq (W.region (vp hS hE rfl rfl fun a hE => WL.nil ?_))
  refine W.seq ?_
  refine W.condF hE rfl (decide_eq_false (by omega)) ?_
  subst hK2
  refine W.exit rfl ?_
  replace hS := hS.tail
  refine W.region ?_
  refine vP hS hE (Gives.inc hE rfl (by have := hTr.small; omega)) rfl fun a hE => ?_
  refine vp hS hE rfl rfl fun a hE => WL.nil ?_
  subst hK
  exact ⟨rest.length, Nat.lt_succ_self _, rest, k + 1, pre, u2, Q2, rfl, hd, hl, hp, hE.pick _ ⟨rfl, rfl, rfl, rfl, rfl, rfl, rfl, rfl, trivial⟩, hS⟩
 obtain ⟨hlt2, hx2, hd2⟩ := drop_cons hd2
 rw [ridesS] at hl
 refine W.seq (W.region (vp hS hE rfl rfl fun a hE => WL.nil ?_))
 refine W.seq ?_
 refine W.condT hE rfl (decide_eq_true (by omega)) ?_
 refine W.skip ?_
 refine W.seq ?_
 refine W.block ?_
 obtain ⟨cz, hczl, hcz, hczS⟩ := (Sl.mono RApiStop.mono hle hSt).at hx2
 subst hcz
 refine W.seq (W.region (vp hS hE rfl rfl fun a hE => ?_))
 refine vP hS hE (Gives.idx hE k2 rfl rfl sl42 rfl hlt2 ((Sl.mono RApiStop.mono hle hSt).aok (k := k2) hlt2)) rfl fun a hE => ?_
 refine vP hS hE (Gives.loadA hE rfl (fun w h => hczS w _ h) ty106) rfl fun a hE => ?_
 refine WL.alloc hE hS (runs_plain rfl) zr106 rfl ?_; clear hE hS a w; intro bz a w hE hS
 refine vp hS hE rfl rfl fun a hE => ?_
 refine WL.storeI hE hS 0 rfl (ApiStop.cells z) (vs := ApiStop.cells z) (runs_plain rfl) rfl rfl rfl ty106 rfl rfl rfl rfl ?_; clear hE hS a w; intro a w hE hS
 refine WL.nil ?_
 refine W.seq ?_
 refine W.seq (W.region (vP hS hE (Gives.fld hE rfl fl106_0) rfl fun a hE => ?_))
 refine vP hS hE (Gives.loadB hE 0 rfl rfl rfl ty3) rfl fun a hE => ?_
 refine vP hS hE (Gives.load1 hE rfl (fun w h => cell 0 hle hst rfl w _ h) ty3) rfl fun a hE => ?_
 refine v2 hS hE rfl rfl rfl rfl fun a hE => ?_
 by_cases hc3 : z.Station = station
 ·have hb3 : (z.Station != station) = false := by simpa using hc3
  refine WL.vS hS hE (runs_if hE rfl rfl rfl hb3) (Gives.fld hE rfl fl106_3) rfl fun a hE => ?_
  refine WL.vS hS hE (runs_if hE rfl rfl rfl hb3) (Gives.loadB hE 0 rfl rfl rfl ty3) rfl fun a hE => ?_
  refine WL.vS hS hE (runs_if hE rfl rfl rfl hb3) (Gives.load1 hE rfl (fun w h => cell 0 hle hat rfl w _ h) ty3) rfl fun a hE => ?_
  refine WL.vS hS hE (runs_if hE rfl rfl rfl hb3) (Gives.p hE rfl) rfl fun a hE => ?_
  refine vP hS hE (Gives.pickF hE rfl hb3 rfl) rfl fun a hE => WL.nil ?_
  refine W.cond hE rfl (fun hc4 => ?_) (fun hc4 => ?_)
  ·refine W.exit rfl ?_
   have hc4 : z.Dep < at_ := by simpa using hc4
   rw [if_pos (Or.inr hc4), List.nil_append] at hl
   replace hS := hS.tail
   refine W.region ?_
   refine vP hS hE (Gives.inc hE rfl (by have := hSt.small; omega)) rfl fun a hE => ?_
   refine vp hS hE rfl rfl fun a hE => WL.nil ?_
   subst hK2
   exact ⟨rest2.length, Nat.lt_succ_self _, rest2, k2 + 1, pre, u2, Q2, rfl, hd2, hl, hp, hE.pick _ ⟨rfl, rfl, rfl, rfl, rfl, rfl, rfl, rfl, rfl, rfl, rfl, rfl, rfl, trivial⟩, hS⟩
  have hc4 : ¬ z.Dep < at_ := by simpa using hc4
  rw [if_neg (show ¬ (z.Station ≠ station ∨ z.Dep < at_) from fun h => h.elim (fun h => h hc3) hc4), List.append_assoc] at hl
  refine W.skip ?_
  refine W.seq (W.region (vp hS hE rfl rfl fun a hE => ?_))
  refine vP hS hE (Gives.inc hE rfl (by have := hSt.small; omega)) rfl fun a hE => ?_
  refine vp hS hE rfl rfl fun a hE => WL.nil ?_
  refine W.block ?_
  refine W.loop (fun m a w => ∃ (r3 k3 : Nat) (pre3 : List GuideRide) (u3 : Sg) (Q3 : List HP), r3 = m ∧ k3 + r3 = x.Stops.length ∧ ridesT station at_ nt n.Day.Trains 0 = pre3 ++ (ridesF k k2 r3 k3 ++ (ridesS station at_ k x.Stops.length rest2 (k2 + 1) ++ ridesT station at_ nt rest (k + 1))) ∧ I pre3 u3 Q3 ∧ Rep a 59 [(0, .func (.yield y) #[] #[]), (1, pp bn), (2, pp bo), (3, pp bs), (4, pp ba), (13, .slice a0 n.Day.Trains.length c0), (14, vi ((n.Day.Trains.length : Nat) : Int)), (15, vi (k : Int)), (6, vi (k : Int)), (7, pp bt), (24, .slice ta x.Stops.length tc), (25, vi ((x.Stops.length : Nat) : Int)), (26, vi (k2 : Int)), (8, vi (k2 : Int)), (9, pp bz), (10, vi (k3 : Int))] ∧ St w u3 (pt bz (Obj.cells (ApiStop.cells z).toArray 106 (0, 0)) :: pt bt (Obj.cells [Value.int .i64 x.No, Value.int .i64 x.Stock, Value.slice ta x.Stops.length tc, Value.slice tb x.Legs.length te].toArray 44 (0, 0)) :: Q3)) (m := x.Stops.length - (k2 + 1)) ⟨x.Stops.length - (k2 + 1), k2 + 1, pre, u2, Q2, rfl, by omega, hl, hp, hE.pick _ ⟨rfl, rfl, rfl, rfl, rfl, rfl, rfl, rfl, rfl, rfl, rfl, rfl, rfl, rfl, rfl, rfl, trivial⟩, hS⟩ ?_
  clear hE hS a w hp hl hle pre; rintro m3 a w ⟨r3, k3, pre, u3, Q3, rfl, hd3, hl, hp, hE, hS⟩
  have hle := hI _ _ _ hp
  refine W.gen fun K3 hK3 => ?_
  have hrd3 : K3.rd = none := by rw [← hK3]; exact hrd2
  refine W.seq ?_
  refine W.seq (W.region (vp hS hE rfl rfl fun a hE => ?_))
  refine vP hS hE (Gives.fld hE rfl fl44_2) rfl fun a hE => ?_
  refine vP hS hE (Gives.loadB hE 1 rfl rfl rfl ty42) rfl fun a hE => ?_
  refine vP hS hE (Gives.len hE rfl sl42) rfl fun a hE => ?_
  refine vp hS hE rfl rfl fun a hE => WL.nil ?_
  rcases r3 with _ | r3
  ·rw [ridesF, List.nil_append] at hl
   refine W.condF hE rfl (decide_eq_false (by omega)) ?_
   subst hK3
   refine W.exit rfl ?_
   replace hS := hS.tail
   refine W.region ?_
   refine vP hS hE (Gives.inc hE rfl (by have := hSt.small; omega)) rfl fun a hE => ?_
   refine vp hS hE rfl rfl fun a hE => WL.nil ?_
   subst hK2
   exact ⟨rest2.length, Nat.lt_succ_self _, rest2, k2 + 1, pre, u3, Q3, rfl, hd2, hl, hp, hE.pick _ ⟨rfl, rfl, rfl, rfl, rfl, rfl, rfl, rfl, rfl, rfl, rfl, rfl, rfl, trivial⟩, hS⟩
  rw [ridesF, List.cons_append] at hl
  refine W.condT hE rfl (decide_eq_true (by omega)) ?_
  refine W.skip ?_
  refine W.seq ?_
  refine W.block ?_
  refine W.seq ?_
  refine W.regionY ?_
  refine WLY.vS hrd3 hS hE (runs_plain rfl) (Gives.p hE rfl) rfl fun a hE => ?_
  refine WLY.vS hrd3 hS hE (runs_plain rfl) (Gives.p hE rfl) rfl fun a hE => ?_
  refine WLY.vS hrd3 hS hE (runs_plain rfl) (Gives.p hE rfl) rfl fun a hE => ?_
  refine WLY.vS hrd3 hS hE (runs_plain rfl) (Gives.p hE rfl) rfl fun a hE => ?_
  refine WLY.vS hrd3 hS hE (runs_plain rfl) (Gives.build hE (vs := [(0, vi (k : Int)), (1, vi (k2 : Int)), (2, vi (k3 : Int))]) (GuideRide.cells ⟨(k : Int), (k2 : Int), (k3 : Int)⟩) rfl (by kernel_rfl)) rfl fun a hE => ?_
  have hpre : pre ++ [⟨(k : Int), (k2 : Int), (k3 : Int)⟩] <+: ridesT station at_ nt n.Day.Trains 0 := ⟨_, by rw [hl, List.append_assoc]; rfl⟩
  refine WLY.yield hrd3 hE rfl rfl (runs_plain rfl) rfl (hY pre ⟨(k : Int), (k2 : Int), (k3 : Int)⟩ u3 Q3 [pt bz (Obj.cells (ApiStop.cells z).toArray 106 (0, 0)), pt bt (Obj.cells [Value.int .i64 x.No, Value.int .i64 x.Stock, Value.slice ta x.Stops.length tc, Value.slice tb x.Legs.length te].toArray 44 (0, 0))] w hpre hp hS) ?_
  clear hE hS a w; rintro e w (⟨rfl, u4, Q4, hp4, hS⟩ | ⟨rfl, u4, Q4, hX, hS⟩)
  ·refine ⟨_, rfl, fun a hE => ?_⟩
   refine WLY.vS hrd3 hS hE (runs_plain rfl) (Gives.p hE rfl) rfl fun a hE => ?_
   refine WLY.nil ?_
   refine W.condF hE rfl rfl ?_
   refine W.skip ?_
   refine W.region ?_
   refine vp hS hE rfl rfl fun a hE => ?_
   refine vP hS hE (Gives.inc hE rfl (by have := hSt.small; omega)) rfl fun a hE => ?_
   refine vp hS hE rfl rfl fun a hE => WL.nil ?_
   subst hK3
   exact ⟨r3, Nat.lt_succ_self _, r3, k3 + 1, _, u4, Q4, rfl, by omega, (by rw [hl, List.append_assoc]; rfl), hp4, hE.pick _ ⟨rfl, rfl, rfl, rfl, rfl, rfl, rfl, rfl, rfl, rfl, rfl, rfl, rfl, rfl, rfl, rfl, trivial⟩, hS⟩
  refine ⟨_, rfl, fun a hE => ?_⟩
  refine WLY.vS hrd3 hS hE (runs_plain rfl) (Gives.p hE rfl) rfl fun a hE => ?_
  refine WLY.nil ?_
  refine W.condT hE rfl rfl ?_
  refine W.ret ?_
  subst hK3 hK2 hK
  exact fin0 hE rfl ⟨⟨_, rfl⟩, .inr ⟨u4, Q4, hX, hS.tail.tail⟩⟩
 have hb3 : (z.Station != station) = true := by simpa using hc3
 refine nO hE rfl rfl rfl (by rw [hb3]; decide) rfl fun a hE => ?_
 refine nO hE rfl rfl rfl (by rw [hb3]; decide) rfl fun a hE => ?_
 refine nO hE rfl rfl rfl (by rw [hb3]; decide) rfl fun a hE => ?_
 refine nO hE rfl rfl rfl (by rw [hb3]; decide) rfl fun a hE => ?_
 refine vP hS hE (Gives.pickT hE rfl hb3 rfl) rfl fun a hE => WL.nil ?_
 refine W.condT hE rfl rfl ?_
 refine W.exit rfl ?_
 rw [if_pos (Or.inl hc3), List.nil_append] at hl
 replace hS := hS.tail
 refine W.region ?_
 refine vP hS hE (Gives.inc hE rfl (by have := hSt.small; omega)) rfl fun a hE => ?_
 refine vp hS hE rfl rfl fun a hE => WL.nil ?_
 subst hK2
 exact ⟨rest2.length, Nat.lt_succ_self _, rest2, k2 + 1, pre, u2, Q2, rfl, hd2, hl, hp, hE.pick _ ⟨rfl, rfl, rfl, rfl, rfl, rfl, rfl, rfl, rfl, rfl, rfl, rfl, rfl, trivial⟩, hS⟩
theorem rides_it {s : Sg} {bn bo bs ba : Nat} {n : GuideNet} {station at_ nt : Int} (hn : Pt 3 RGuideNet s (some ⟨bn, 0, none⟩) (some n)) (hnt : Pt 1 (RI .i64) s (some ⟨bo, 0, none⟩) (some nt)) (hst : Pt 1 (RI .i64) s (some ⟨bs, 0, none⟩) (some station)) (hat : Pt 1 (RI .i64) s (some ⟨ba, 0, none⟩) (some at_)) :
  Iter Tryd.prog 113 [pp bn, pp bo, pp bs, pp ba] (fun x => [Value.agg (GuideRide.cells x).toArray]) s (ridesT station at_ nt n.Day.Trains 0) := by
 obtain ⟨cn, h1, h2⟩ := pt_at0 hn
 obtain ⟨c1, h3, rfl⟩ := pt_at0 hnt
 obtain ⟨c2, h4, rfl⟩ := pt_at0 hst
 obtain ⟨c3, h5, rfl⟩ := pt_at0 hat
 exact rides1_ok h1 h2 h3 h4 h5

set_option maxHeartbeats 8000000 in
theorem GuideNetrides_ok  {w : World} {s : Sg} {R : List HP} {x0 : GuideNet} {a0_0 : Option Addr} {c0_0 : Nat} {a0_1 : Option Addr} {c0_1 : Nat} {x1 : Int} {x2 : Int} {x3 : Int} (hS : St w s (R)) (h0_0 : Sl 4 RApiTrain s a0_0 c0_0 x0.Day.Trains) (h0_1 : Sl 1 (RL 1 (RI .i64)) s a0_1 c0_1 x0.Day.Turns) {r : (List GuideRide)} (hr : GuideNetrides x0 x1 x2 x3 = r) :
  Calls Tryd.prog 72 [.agg [.slice a0_0 x0.Day.Trains.length c0_0, .slice a0_1 x0.Day.Turns.length c0_1, vi x0.least].toArray, vi x1, vi x2, vi x3].toArray w (fun e w => ∃ (lb0 : List Value) (t : Sg), e = .returned (.func (.func 113) #[] lb0.toArray) ∧ s.Le t ∧ Iter Tryd.prog 113 lb0 (fun x => [Value.agg (GuideRide.cells x).toArray]) t r ∧ St w t (R)) := by
 refine enter Tryd.func72 rfl rfl rfl fun a hE => ?_
 rw [GuideNetrides] at hr
 refine W.seq (W.region ?_)
 refine WL.box hE hS (runs_plain rfl) rfl rfl rfl ?_; clear hE hS a w; intro b51 a w hE hS
 refine WL.box hE hS (runs_plain rfl) rfl rfl rfl ?_; clear hE hS a w; intro b52 a w hE hS
 refine WL.box hE hS (runs_plain rfl) rfl rfl rfl ?_; clear hE hS a w; intro b53 a w hE hS
 refine WL.box hE hS (runs_plain rfl) rfl rfl rfl ?_; clear hE hS a w; intro b54 a w hE hS
 refine vp hS hE rfl rfl fun a hE => WL.nil ?_
 refine W.seq (W.region (vP hS hE (Gives.mkfn hE (vs := [pp b51, pp b54, pp b52, pp b53]) rfl) rfl fun a hE => ?_))
 refine vp hS hE rfl rfl fun a hE => WL.nil ?_
 refine W.ret ?_
 have hF := hS.fixB (es := 3) (Rr := RGuideNet) (v := x0) RGuideNet.mono 3 rfl rfl ⟨_, _, _, _, rfl, h0_0, h0_1⟩; clear hS; obtain ⟨s55, hle56, hS, h57⟩ := hF
 replace h0_0 := Sl.mono RApiTrain.mono hle56 h0_0
 replace h0_1 := Sl.mono (RL.mono RI.mono) hle56 h0_1
 have hF := hS.fixB (es := 1) (Rr := RI .i64) (v := x3) RI.mono 0 rfl rfl rfl; clear hS; obtain ⟨s58, hle59, hS, h60⟩ := hF
 replace h0_0 := Sl.mono RApiTrain.mono hle59 h0_0
 replace h0_1 := Sl.mono (RL.mono RI.mono) hle59 h0_1
 replace h57 := Pt.mono RGuideNet.mono hle59 h57
 have hF := hS.fixB (es := 1) (Rr := RI .i64) (v := x1) RI.mono 1 rfl rfl rfl; clear hS; obtain ⟨s61, hle62, hS, h63⟩ := hF
 replace h0_0 := Sl.mono RApiTrain.mono hle62 h0_0
 replace h0_1 := Sl.mono (RL.mono RI.mono) hle62 h0_1
 replace h57 := Pt.mono RGuideNet.mono hle62 h57
 replace h60 := Pt.mono RI.mono hle62 h60
 have hF := hS.fixB (es := 1) (Rr := RI .i64) (v := x2) RI.mono 0 rfl rfl rfl; clear hS; obtain ⟨s64, hle65, hS, h66⟩ := hF
 replace h0_0 := Sl.mono RApiTrain.mono hle65 h0_0
 replace h0_1 := Sl.mono (RL.mono RI.mono) hle65 h0_1
 replace h57 := Pt.mono RGuideNet.mono hle65 h57
 replace h63 := Pt.mono RI.mono hle65 h63
 replace h60 := Pt.mono RI.mono hle65 h60
 have h67 := rides_it h57 h60 h63 h66
 refine finG (fn := Tryd.f72) (rs := [.tmp 8]) (vs := [_]) hE rfl ⟨rfl, trivial⟩ ?_
 subst hr
 exact ⟨[pp b51, pp b54, pp b52, pp b53], s64, rfl, (Sg.Le.trans (Sg.Le.trans (Sg.Le.trans hle56 hle59) hle62) hle65), h67, hS⟩
set_option maxHeartbeats 8000000 in
theorem GuideNeton_ok  {w : World} {s : Sg} {R : List HP} {x0 : GuideNet} {a0_0 : Option Addr} {c0_0 : Nat} {a0_1 : Option Addr} {c0_1 : Nat} {x1 : GuideRide} (hS : St w s (R)) (h0_0 : Sl 4 RApiTrain s a0_0 c0_0 x0.Day.Trains) (_h0_1 : Sl 1 (RL 1 (RI .i64)) s a0_1 c0_1 x0.Day.Turns) {r : ApiStop} (hr : GuideNeton x0 x1 = some r) :
  Calls Tryd.prog 99 [.agg [.slice a0_0 x0.Day.Trains.length c0_0, .slice a0_1 x0.Day.Turns.length c0_1, vi x0.least].toArray, .agg (GuideRide.cells x1).toArray].toArray w (fun e w => ∃ (cs0 : List Value) (t : Sg), e = .returned (.agg cs0.toArray) ∧ s.Le t ∧ RApiStop t cs0 r ∧ St w t (R)) := by
 refine enter Tryd.func99 rfl rfl rfl fun a hE => ?_
 rw [GuideNeton] at hr
 refine W.seq (W.region ?_)
 refine WL.box hE hS (runs_plain rfl) rfl rfl rfl ?_; clear hE hS a w; intro b51 a w hE hS
 refine WL.box hE hS (runs_plain rfl) rfl rfl rfl ?_; clear hE hS a w; intro b52 a w hE hS
 refine WL.alloc hE hS (runs_plain rfl) zr106 rfl ?_; clear hE hS a w; intro b53 a w hE hS
 refine WL.nil ?_
 refine W.seq ?_
 refine W.gen fun K54 hK54 => ?_
 refine W.regionE (sel (fun w => St w s (pc b53 #[vi 0, vi 0, vi 0, vi 0] 106 :: pc b52 (GuideRide.cells x1).toArray 47 :: pc b51 #[.slice a0_0 x0.Day.Trains.length c0_0, .slice a0_1 x0.Day.Turns.length c0_1, vi x0.least] 94 :: R)) (fun w => St w s (pc b52 (GuideRide.cells x1).toArray 47 :: pc b51 #[.slice a0_0 x0.Day.Trains.length c0_0, .slice a0_1 x0.Day.Turns.length c0_1, vi x0.least] 94 :: R))) (fun b i => cond b ([0, 1, 2, 3, 4, 5, 6, 7, 8, 9, 10, 11].contains i) ([0, 1, 2, 3, 4, 5, 6, 7, 8, 9, 10, 11, 12].contains i)) mixed ?_
 replace hS := hS.drew
 refine tP (i := 0) hE rfl (by kernel_rfl) (Gives.fld hE rfl fl94_0) rfl hS (hS.tail) fun a hE => ?_
 refine tP (i := 1) hE rfl (by kernel_rfl) (Gives.fld hE rfl fl25_0) rfl hS (hS.tail) fun a hE => ?_
 refine tT (i := 2) true rfl hE rfl (by kernel_rfl) (Gives.loadB hE 2 rfl rfl rfl ty22) rfl hS (hS.tail) fun a hE => ?_
 refine tP (i := 3) hE rfl (by kernel_rfl) (Gives.fld hE rfl fl47_0) rfl hS (hS.tail) fun a hE => ?_
 refine tT (i := 4) true rfl hE rfl (by kernel_rfl) (Gives.loadB hE 1 rfl rfl rfl ty3) rfl hS (hS.tail) fun a hE => ?_
 obtain ⟨x55, hx56, hr⟩ := bindS hr
 obtain ⟨hi57, hlt58, hy59⟩ := gx_some hx56
 obtain ⟨cs60, hl61, hR62, hat63⟩ := h0_0.at hy59
 obtain ⟨a64, c65, a67, c68, rfl, h66, h69⟩ := hR62
 refine tP (i := 5) hE rfl (by kernel_rfl) (Gives.idx hE (x1.Train).toNat rfl rfl sl22 hi57 hlt58 (h0_0.aok hlt58)) rfl hS (hS.tail) fun a hE => ?_
 refine tP (i := 6) hE rfl (by kernel_rfl) (Gives.fld hE rfl fl44_2) rfl hS (hS.tail) fun a hE => ?_
 refine tT (i := 7) true rfl hE rfl (by kernel_rfl) (Gives.load1 hE rfl (fun w h => (hat63 w _ h).one rfl) ty42) rfl hS (hS.tail) fun a hE => ?_
 refine tP (i := 8) hE rfl (by kernel_rfl) (Gives.fld hE rfl fl47_1) rfl hS (hS.tail) fun a hE => ?_
 refine tT (i := 9) true rfl hE rfl (by kernel_rfl) (Gives.loadB hE 1 rfl rfl rfl ty3) rfl hS (hS.tail) fun a hE => ?_
 obtain ⟨x70, hx71, hr⟩ := bindS hr
 obtain ⟨hi72, hlt73, hy74⟩ := gx_some hx71
 obtain ⟨cs75, hl76, hR77, hat78⟩ := h66.at hy74
 subst hR77
 refine tP (i := 10) hE rfl (by kernel_rfl) (Gives.idx hE (x1.On).toNat rfl rfl sl42 hi72 hlt73 (h66.aok hlt73)) rfl hS (hS.tail) fun a hE => ?_
 refine tT (i := 11) true rfl hE rfl (by kernel_rfl) (Gives.loadA hE rfl (fun w h => hat78 w _ h) ty106) rfl hS (hS.tail) fun a hE => ?_
 refine Rg.one (i := 12) false true rfl (by kernel_rfl) (by kernel_rfl) (by kernel_rfl) ?_
 refine WL.storeI hE hS 0 rfl (ApiStop.cells x70) (runs_plain rfl) rfl rfl rfl ty106 rfl rfl rfl rfl ?_; clear hE hS a w; intro a w hE hS
 refine WL.nil ?_
 refine ⟨⟨fun h => absurd h (by decide), fun _ => (hS.tail)⟩, ?_⟩
 refine Rg.done (by kernel_rfl) ?_
 subst hK54
 refine W.ret ?_
 refine finG (fn := Tryd.f99) (rs := [.cell 4 106]) (vs := [_]) hE rfl ⟨⟨_, rfl, .inl ⟨_, rfl, hS.seesAt 0 rfl, ty106⟩⟩, trivial⟩ ?_
 obtain rfl := Option.some.inj hr
 replace hS := hS.tail
 replace hS := hS.tail
 replace hS := hS.tail
 exact ⟨_, s, rfl, (Sg.Le.refl _), rfl, hS⟩
set_option maxHeartbeats 8000000 in
theorem GuideNetoff_ok  {w : World} {s : Sg} {R : List HP} {x0 : GuideNet} {a0_0 : Option Addr} {c0_0 : Nat} {a0_1 : Option Addr} {c0_1 : Nat} {x1 : GuideRide} (hS : St w s (R)) (h0_0 : Sl 4 RApiTrain s a0_0 c0_0 x0.Day.Trains) (_h0_1 : Sl 1 (RL 1 (RI .i64)) s a0_1 c0_1 x0.Day.Turns) {r : ApiStop} (hr : GuideNetoff x0 x1 = some r) :
  Calls Tryd.prog 77 [.agg [.slice a0_0 x0.Day.Trains.length c0_0, .slice a0_1 x0.Day.Turns.length c0_1, vi x0.least].toArray, .agg (GuideRide.cells x1).toArray].toArray w (fun e w => ∃ (cs0 : List Value) (t : Sg), e = .returned (.agg cs0.toArray) ∧ s.Le t ∧ RApiStop t cs0 r ∧ St w t (R)) := by
 refine enter Tryd.func77 rfl rfl rfl fun a hE => ?_
 rw [GuideNetoff] at hr
 refine W.seq (W.region ?_)
 refine WL.box hE hS (runs_plain rfl) rfl rfl rfl ?_; clear hE hS a w; intro b51 a w hE hS
 refine WL.box hE hS (runs_plain rfl) rfl rfl rfl ?_; clear hE hS a w; intro b52 a w hE hS
 refine WL.alloc hE hS (runs_plain rfl) zr106 rfl ?_; clear hE hS a w; intro b53 a w hE hS
 refine WL.nil ?_
 refine W.seq ?_
 refine W.gen fun K54 hK54 => ?_
 refine W.regionE (sel (fun w => St w s (pc b53 #[vi 0, vi 0, vi 0, vi 0] 106 :: pc b52 (GuideRide.cells x1).toArray 47 :: pc b51 #[.slice a0_0 x0.Day.Trains.length c0_0, .slice a0_1 x0.Day.Turns.length c0_1, vi x0.least] 94 :: R)) (fun w => St w s (pc b52 (GuideRide.cells x1).toArray 47 :: pc b51 #[.slice a0_0 x0.Day.Trains.length c0_0, .slice a0_1 x0.Day.Turns.length c0_1, vi x0.least] 94 :: R))) (fun b i => cond b ([0, 1, 2, 3, 4, 5, 6, 7, 8, 9, 10, 11].contains i) ([0, 1, 2, 3, 4, 5, 6, 7, 8, 9, 10, 11, 12].contains i)) mixed ?_
 replace hS := hS.drew
 refine tP (i := 0) hE rfl (by kernel_rfl) (Gives.fld hE rfl fl94_0) rfl hS (hS.tail) fun a hE => ?_
 refine tP (i := 1) hE rfl (by kernel_rfl) (Gives.fld hE rfl fl25_0) rfl hS (hS.tail) fun a hE => ?_
 refine tT (i := 2) true rfl hE rfl (by kernel_rfl) (Gives.loadB hE 2 rfl rfl rfl ty22) rfl hS (hS.tail) fun a hE => ?_
 refine tP (i := 3) hE rfl (by kernel_rfl) (Gives.fld hE rfl fl47_0) rfl hS (hS.tail) fun a hE => ?_
 refine tT (i := 4) true rfl hE rfl (by kernel_rfl) (Gives.loadB hE 1 rfl rfl rfl ty3) rfl hS (hS.tail) fun a hE => ?_
 obtain ⟨x55, hx56, hr⟩ := bindS hr
 obtain ⟨hi57, hlt58, hy59⟩ := gx_some hx56
 obtain ⟨cs60, hl61, hR62, hat63⟩ := h0_0.at hy59
 obtain ⟨a64, c65, a67, c68, rfl, h66, h69⟩ := hR62
 refine tP (i := 5) hE rfl (by kernel_rfl) (Gives.idx hE (x1.Train).toNat rfl rfl sl22 hi57 hlt58 (h0_0.aok hlt58)) rfl hS (hS.tail) fun a hE => ?_
 refine tP (i := 6) hE rfl (by kernel_rfl) (Gives.fld hE rfl fl44_2) rfl hS (hS.tail) fun a hE => ?_
 refine tT (i := 7) true rfl hE rfl (by kernel_rfl) (Gives.load1 hE rfl (fun w h => (hat63 w _ h).one rfl) ty42) rfl hS (hS.tail) fun a hE => ?_
 refine tP (i := 8) hE rfl (by kernel_rfl) (Gives.fld hE rfl fl47_2) rfl hS (hS.tail) fun a hE => ?_
 refine tT (i := 9) true rfl hE rfl (by kernel_rfl) (Gives.loadB hE 1 rfl rfl rfl ty3) rfl hS (hS.tail) fun a hE => ?_
 obtain ⟨x70, hx71, hr⟩ := bindS hr
 obtain ⟨hi72, hlt73, hy74⟩ := gx_some hx71
 obtain ⟨cs75, hl76, hR77, hat78⟩ := h66.at hy74
 subst hR77
 refine tP (i := 10) hE rfl (by kernel_rfl) (Gives.idx hE (x1.Off).toNat rfl rfl sl42 hi72 hlt73 (h66.aok hlt73)) rfl hS (hS.tail) fun a hE => ?_
 refine tT (i := 11) true rfl hE rfl (by kernel_rfl) (Gives.loadA hE rfl (fun w h => hat78 w _ h) ty106) rfl hS (hS.tail) fun a hE => ?_
 refine Rg.one (i := 12) false true rfl (by kernel_rfl) (by kernel_rfl) (by kernel_rfl) ?_
 refine WL.storeI hE hS 0 rfl (ApiStop.cells x70) (runs_plain rfl) rfl rfl rfl ty106 rfl rfl rfl rfl ?_; clear hE hS a w; intro a w hE hS
 refine WL.nil ?_
 refine ⟨⟨fun h => absurd h (by decide), fun _ => (hS.tail)⟩, ?_⟩
 refine Rg.done (by kernel_rfl) ?_
 subst hK54
 refine W.ret ?_
 refine finG (fn := Tryd.f77) (rs := [.cell 4 106]) (vs := [_]) hE rfl ⟨⟨_, rfl, .inl ⟨_, rfl, hS.seesAt 0 rfl, ty106⟩⟩, trivial⟩ ?_
 obtain rfl := Option.some.inj hr
 replace hS := hS.tail
 replace hS := hS.tail
 replace hS := hS.tail
 exact ⟨_, s, rfl, (Sg.Le.refl _), rfl, hS⟩
set_option maxHeartbeats 8000000 in
theorem GuideNetbehind_ok  {w : World} {s : Sg} {R : List HP} {x0 : GuideNet} {a0_0 : Option Addr} {c0_0 : Nat} {a0_1 : Option Addr} {c0_1 : Nat} {x1 : GuideRide} (hS : St w s (R)) (h0_0 : Sl 4 RApiTrain s a0_0 c0_0 x0.Day.Trains) (h0_1 : Sl 1 (RL 1 (RI .i64)) s a0_1 c0_1 x0.Day.Turns) {r : (List GuideRide)} (hr : GuideNetbehind x0 x1 = some r) :
  Calls Tryd.prog 78 [.agg [.slice a0_0 x0.Day.Trains.length c0_0, .slice a0_1 x0.Day.Turns.length c0_1, vi x0.least].toArray, .agg (GuideRide.cells x1).toArray].toArray w (fun e w => ∃ (lb0 : List Value) (t : Sg), e = .returned (.func (.func 113) #[] lb0.toArray) ∧ s.Le t ∧ Iter Tryd.prog 113 lb0 (fun x => [Value.agg (GuideRide.cells x).toArray]) t r ∧ St w t (R)) := by
 refine enter Tryd.func78 rfl rfl rfl fun a hE => ?_
 rw [GuideNetbehind] at hr
 refine W.seq (W.region ?_)
 refine WL.box hE hS (runs_plain rfl) rfl rfl rfl ?_; clear hE hS a w; intro b51 a w hE hS
 refine WL.box hE hS (runs_plain rfl) rfl rfl rfl ?_; clear hE hS a w; intro b52 a w hE hS
 refine vp hS hE rfl rfl fun a hE => WL.nil ?_
 refine W.seq (W.region (vP hS hE (Gives.loadBA hE 1 rfl rfl ty94) rfl fun a hE => ?_))
 refine vP hS hE (Gives.loadBA hE 0 rfl rfl ty47) rfl fun a hE => ?_
 obtain ⟨q53, hq54, hr⟩ := bindS hr
 have hc_ := GuideNetoff_ok hS h0_0 h0_1 hq54
 refine WL.fnq hE (hc_) (runs_plain rfl) bd77 rfl rfl rfl ?_
 clear hE hS hc_; rintro e w ⟨cs55, s57, rfl, hle58, h56, hS⟩; refine ⟨_, rfl, ?_⟩; clear a; intro a hE
 replace h0_0 := Sl.mono RApiTrain.mono hle58 h0_0
 replace h0_1 := Sl.mono (RL.mono RI.mono) hle58 h0_1
 subst h56
 refine WL.alloc hE hS (runs_plain rfl) zr106 rfl ?_; clear hE hS a w; intro b59 a w hE hS
 refine WL.storeI hE hS 0 rfl (ApiStop.cells q53) (runs_plain rfl) rfl rfl rfl ty106 rfl rfl rfl rfl ?_; clear hE hS a w; intro a w hE hS
 refine WL.nil ?_
 refine W.seq (W.region (vP hS hE (Gives.loadBA hE 2 rfl rfl ty94) rfl fun a hE => ?_))
 refine vP hS hE (Gives.fld hE rfl fl106_0) rfl fun a hE => ?_
 refine vP hS hE (Gives.loadB hE 0 rfl rfl rfl ty3) rfl fun a hE => ?_
 refine vP hS hE (Gives.fld hE rfl fl106_2) rfl fun a hE => ?_
 refine vP hS hE (Gives.loadB hE 0 rfl rfl rfl ty3) rfl fun a hE => ?_
 refine vP hS hE (Gives.fld hE rfl fl94_1) rfl fun a hE => ?_
 refine vP hS hE (Gives.loadB hE 2 rfl rfl rfl ty3) rfl fun a hE => ?_
 refine vp hS hE rfl rfl fun a hE => ?_
 refine vP hS hE (Gives.fld hE rfl fl47_0) rfl fun a hE => ?_
 refine vP hS hE (Gives.loadB hE 1 rfl rfl rfl ty3) rfl fun a hE => ?_
 obtain ⟨q60, hq61, hr⟩ := bndS hr
 have hc_ := GuideNetrides_ok hS h0_0 h0_1 hq61
 refine WL.fnq hE (hc_) (runs_plain rfl) bd72 rfl rfl rfl ?_
 clear hE hS hc_; rintro e w ⟨lb62, s64, rfl, hle65, h63, hS⟩; refine ⟨_, rfl, ?_⟩; clear a; intro a hE
 replace h0_0 := Sl.mono RApiTrain.mono hle65 h0_0
 replace h0_1 := Sl.mono (RL.mono RI.mono) hle65 h0_1
 refine vp hS hE rfl rfl fun a hE => WL.nil ?_
 refine W.ret ?_
 refine finG (fn := Tryd.f78) (rs := [.tmp 4]) (vs := [_]) hE rfl ⟨rfl, trivial⟩ ?_
 obtain rfl := Option.some.inj hr
 replace hS := hS.tail
 replace hS := hS.tail
 replace hS := hS.tail
 exact ⟨lb62, s64, rfl, (Sg.Le.trans hle58 hle65), h63, hS⟩
set_option maxHeartbeats 8000000 in
theorem SlicesAppendSeqLguideRide_v1_ok  {w : World} {s : Sg} {R : List HP} {x0 : List GuideRide} {a_v0 : Option Addr} {c_v0 n_v0 : Nat} {cs_v0 : List Value} {x1 : List GuideRide} {lb1 : List Value} (hS : St w s (vecC 47 3 a_v0 c_v0 n_v0 cs_v0 :: R)) (h_v0 : Ev 3 RGuideRide s cs_v0 x0) (hn_v0 : x0.length = n_v0) (h1 : Iter Tryd.prog 113 lb1 (fun x => [Value.agg (GuideRide.cells x).toArray]) s x1) {r : (List GuideRide)} (hr : SlicesAppendSeqLguideRide_v1 x0 x1 = some r) :
  Calls Tryd.prog 112 [.slice a_v0 n_v0 c_v0, .func (.func 113) #[] lb1.toArray].toArray w (fun e w => ∃ (a0 : Option Addr) (c0 n0 : Nat) (cs0 : List Value) (t : Sg), e = .returned (.slice a0 n0 c0) ∧ s.Le t ∧ Ev 3 RGuideRide t cs0 r ∧ r.length = n0 ∧ St w t (vecC 47 3 a0 c0 n0 cs0 :: R)) := by
 refine enter Tryd.func112 rfl rfl rfl fun a hE => ?_
 rw [SlicesAppendSeqLguideRide_v1] at hr
 subst hn_v0
 refine W.seq (W.region ?_)
 refine WL.box hE hS (runs_plain rfl) rfl rfl rfl ?_; clear hE hS a w; intro b51 a w hE hS
 refine vp hS hE rfl rfl fun a hE => WL.nil ?_
 refine W.seq ?_
 refine W.seq (W.region (vp hS hE rfl rfl fun a hE => WL.nil ?_))
 refine W.block ?_
 obtain ⟨q53, hq52, hr⟩ := bindS hr
 refine W.cut (fun a w => ∃ (q65 : List GuideRide), ∃ (a66 : Option Addr), ∃ (c67 : Nat), ∃ (n69 : Nat), ∃ (cs70 : List Value), ∃ (D59 : Nat) (s63 : Sg), s.Le s63 ∧ q65 = q53 ∧ Ev 3 RGuideRide s63 cs70 q65 ∧ q65.length = n69 ∧ Rep a 13 [(2, pp b51), (4294967295, vi (D59 : Nat))] ∧ St w s63 (pt D59 (.deferred (some [])) :: pc b51 #[.slice a66 n69 c67] 26 :: vecC 47 3 a66 c67 n69 cs70 :: R)) ?_ ?_
 ·refine W.rangeFunc (l := x1) (ps := [7]) [] rfl hE rfl hS rfl h1 bd113 (fun _ => rfl) rfl (fun pre56 s63 Q_ => ∃ (rest55 : List GuideRide), ∃ (q65 : List GuideRide), ∃ (a66 : Option Addr), ∃ (c67 : Nat), ∃ (n69 : Nat), ∃ (cs70 : List Value), x1 = pre56 ++ rest55 ∧ SlicesAppendSeqLguideRide_v1.loop1 rest55 q65 = some q53 ∧ s.Le s63 ∧ Ev 3 RGuideRide s63 cs70 q65 ∧ q65.length = n69 ∧ Q_ = pc b51 #[.slice a66 n69 c67] 26 :: vecC 47 3 a66 c67 n69 cs70 :: R) (fun _ _ _ => False) (fun _ _ _ h => (by obtain ⟨rest55, q65, a66, c67, n69, cs70, _, _, hle_, _⟩ := h; exact hle_)) ⟨x1, x0, a_v0, c_v0, x0.length, cs_v0, rfl, hq52, Sg.Le.refl _, h_v0, (rfl), rfl⟩ (fun x54 (b72 : Nat) => [(2, pp b51), (5, pp b72)]) (fun x54 (b72 : Nat) => [pc b72 (GuideRide.cells x54).toArray 47]) ?_ ?_ ?_ ?_
  ·intro x54 a w t62 R L60 hE hS
   refine W.region ?_
   refine WL.alloc hE hS (runs_plain rfl) zr47 rfl ?_; clear hE hS a w; intro b72 a w hE hS
   refine WL.storeI hE hS 0 rfl (GuideRide.cells x54) (runs_plain rfl) rfl rfl rfl ty47 rfl rfl rfl rfl ?_; clear hE hS a w; intro a w hE hS
   refine WL.nil ?_
   exact ⟨b72, hE.pick _ ⟨rfl, rfl, trivial⟩, hS⟩
  ·intro pre56 x54 b72 s63 Q_ T_ L60 a w hpre_ hI_ hE hS
   obtain ⟨rest55, q65, a66, c67, n69, cs70, hl57, hq52, hle64, h68, rfl, rfl⟩ := hI_
   obtain ⟨rest55, rfl⟩ := pre_next hl57 hpre_
   rw [SlicesAppendSeqLguideRide_v1.loop1] at hq52
   replace hS : St w s63 (pc b72 (GuideRide.cells x54).toArray 47 :: pc b51 #[.slice a66 q65.length c67] 26 :: vecC 47 3 a66 c67 q65.length cs70 :: (R ++ T_)) := hS
   generalize hT73 : R ++ T_ = R at hS
   refine W.gen fun K74 hK74 => ?_
   replace h1 := Iter.mono hle64 h1
   replace h_v0 := Ev.mono RGuideRide.mono hle64 h_v0
   refine W.block ?_
   refine W.region ?_
   refine vP hS hE (Gives.loadB hE 1 rfl rfl rfl ty26) rfl fun a hE => ?_
   refine vP hS hE (Gives.loadBA hE 0 rfl rfl ty47) rfl fun a hE => ?_
   refine WL.lit hE hS (e := 47) (es := 3) (vs := [(0, .agg (GuideRide.cells x54).toArray)]) (cs := [vi x54.Train, vi x54.On, vi x54.Off]) (runs_plain rfl) rfl (by kernel_rfl) rfl ?_; clear hE hS a w; intro b75 a w hE hS
   obtain ⟨x76, hx77, hq52⟩ := bindS hq52
   refine WL.appD hE hS 2 (m := 1) (runs_plain rfl) rfl rfl rfl ap26 rfl h68 rfl (xs := [x54]) (Ev.cons (c1 := [vi x54.Train, vi x54.On, vi x54.Off]) rfl rfl (Ev.nil)) rfl rfl hx77 rfl ?_; clear hE hS a w; intro a78 c79 cs80 a w h81 hE hS
   refine WL.storeI hE hS 1 rfl [.slice a78 x76.length c79] (runs_plain rfl) rfl rfl rfl ty26 rfl rfl rfl rfl ?_; clear hE hS a w; intro a w hE hS
   refine WL.nil ?_
   replace hS := hS.tail
   subst hK74
   subst hT73
   exact ⟨s63, _, ⟨rest55, x76, a78, c79, x76.length, cs80, hl57.trans (by simp), hq52, hle64, h81, (rfl), rfl⟩, hS⟩
  ·intro s63 Q_ D59 a w hI_ hE hS
   obtain ⟨rest55, q65, a66, c67, n69, cs70, hl57, hq52, hle64, h68, rfl, rfl⟩ := hI_
   obtain rfl := pre_end hl57
   rw [SlicesAppendSeqLguideRide_v1.loop1] at hq52
   exact ⟨q65, _, _, _, _, D59, s63, hle64, Option.some.inj hq52, h68, rfl, hE.pick _ ⟨rfl, rfl, trivial⟩, hS⟩
  exact fun _ _ _ _ _ _ _ h => h.elim
 clear hE hS a w; rintro a w ⟨q65, a66, c67, n69, cs70, D59, s63, hle64, rfl, h68, rfl, hE, hS⟩
 replace h1 := Iter.mono hle64 h1
 replace h_v0 := Ev.mono RGuideRide.mono hle64 h_v0
 refine W.seq (W.region (vP hS hE (Gives.loadB hE 1 rfl rfl rfl ty26) rfl fun a hE => ?_))
 refine vp hS hE rfl rfl fun a hE => WL.nil ?_
 refine W.ret ?_
 refine finGM (fn := Tryd.f112) (rs := [.tmp 4]) (vs := [.slice a66 q65.length c67]) hE hS 0 rfl rfl ?_
 clear hS; intro w hS
 refine ⟨⟨rfl, trivial⟩, ?_⟩
 obtain rfl := Option.some.inj hr
 replace hS := hS.tail
 exact ⟨a66, c67, q65.length, cs70, s63, rfl, hle64, h68, rfl, hS⟩
set_option maxHeartbeats 8000000 in
theorem GuideNetends_ok  {w : World} {s : Sg} {R : List HP} {x0 : GuideNet} {a0_0 : Option Addr} {c0_0 : Nat} {a0_1 : Option Addr} {c0_1 : Nat} {x1 : List GuideRide} {a1 : Option Addr} {c1 : Nat} (hS : St w s (R)) (h0_0 : Sl 4 RApiTrain s a0_0 c0_0 x0.Day.Trains) (h0_1 : Sl 1 (RL 1 (RI .i64)) s a0_1 c0_1 x0.Day.Turns) (h1 : Sl 3 RGuideRide s a1 c1 x1) {r : (List (List (GuidePlace × Bool)))} (hr : GuideNetends x0 x1 = some r) :
  Calls Tryd.prog 70 [.agg [.slice a0_0 x0.Day.Trains.length c0_0, .slice a0_1 x0.Day.Turns.length c0_1, vi x0.least].toArray, .slice a1 x1.length c1].toArray w (fun e w => ∃ (bs0 : List Nat) (t : Sg), e = .returned (.agg (mcells 4 bs0).toArray) ∧ s.Le t ∧ bs0.length = 4 ∧ St w t (mapsV keyGuidePlace.f Value.bool bs0 r :: R)) := by
 refine enter Tryd.func70 rfl rfl rfl fun a hE => ?_
 rw [GuideNetends] at hr
 refine W.seq (W.region ?_)
 refine WL.box hE hS (runs_plain rfl) rfl rfl rfl ?_; clear hE hS a w; intro b51 a w hE hS
 refine WL.alloc hE hS (runs_plain rfl) zr119 rfl ?_; clear hE hS a w; intro b52 a w hE hS
 replace hS : St w s (pc b52 (mcells 4 []).toArray 119 :: pc b51 #[.slice a0_0 x0.Day.Trains.length c0_0, .slice a0_1 x0.Day.Turns.length c0_1, vi x0.least] 94 :: R) := hS
 refine WL.nil ?_
 refine W.seq (W.region ?_)
 refine WL.alloc hE hS (runs_plain rfl) zr119 rfl ?_; clear hE hS a w; intro b53 a w hE hS
 replace hS := hS.mapsNil (fk := keyGuidePlace.f) (fv := Value.bool)
 replace hS : St w s (mapsV keyGuidePlace.f Value.bool [] [] :: pc b53 (mcells 4 []).toArray 119 :: pc b52 (mcells 4 []).toArray 119 :: pc b51 #[.slice a0_0 x0.Day.Trains.length c0_0, .slice a0_1 x0.Day.Turns.length c0_1, vi x0.least] 94 :: R) := hS
 refine WL.nil ?_
 refine W.seq (W.region (v2 hS hE rfl rfl rfl rfl fun a hE => WL.nil ?_))
 refine W.seq ?_
 refine W.seq (W.region (vp hS hE rfl rfl fun a hE => WL.nil ?_))
 obtain ⟨q55, hq54, hr⟩ := bindS hr
 refine W.cut (fun a w => ∃ (q65 : List GuideRide), ∃ (q69 : List (List (GuidePlace × Bool))), ∃ (a66 : Option Addr), ∃ (c67 : Nat), ∃ (bs70 : List Nat), ∃ (s63 : Sg), s.Le s63 ∧ (q65, q69) = q55 ∧ Sl 3 RGuideRide s63 a66 c67 q65 ∧ Rep a 48 [(4, pp b52), (5, pp b53)] ∧ St w s63 (mapsV keyGuidePlace.f Value.bool bs70 q69 :: pc b53 (mcells 4 bs70).toArray 119 :: pc b52 (mcells 4 []).toArray 119 :: pc b51 #[.slice a0_0 x0.Day.Trains.length c0_0, .slice a0_1 x0.Day.Turns.length c0_1, vi x0.least] 94 :: R)) ?_ ?_
 ·refine W.block ?_
  refine W.loop (fun m a w => ∃ (rest58 : Nat) (k56 : Nat), ∃ (q65 : List GuideRide), ∃ (q69 : List (List (GuidePlace × Bool))), ∃ (a66 : Option Addr), ∃ (c67 : Nat), ∃ (bs70 : List Nat), ∃ (s63 : Sg), rest58 = m ∧ k56 + rest58 = 4 ∧ s.Le s63 ∧ GuideNetends.loop1 x0 rest58 k56 q65 q69 = some q55 ∧ Sl 3 RGuideRide s63 a66 c67 q65 ∧ Rep a 48 [(2, pp b51), (4, pp b52), (5, pp b53), (6, .slice a66 q65.length c67), (13, vi ((k56 : Nat) : Int))] ∧ St w s63 (mapsV keyGuidePlace.f Value.bool bs70 q69 :: pc b53 (mcells 4 bs70).toArray 119 :: pc b52 (mcells 4 []).toArray 119 :: pc b51 #[.slice a0_0 x0.Day.Trains.length c0_0, .slice a0_1 x0.Day.Turns.length c0_1, vi x0.least] 94 :: R)) (m := 4) ⟨4, 0, x1, [], a1, c1, [], s, rfl, by omega, (Sg.Le.refl _), hq54, h1, hE.pick _ ⟨rfl, rfl, rfl, rfl, rfl, trivial⟩, hS⟩ ?_
  clear hE hS a w hq54; rintro m62 a w ⟨rest58, k56, q65, q69, a66, c67, bs70, s63, rfl, hd59, hle64, hq54, h68, hE, hS⟩
  refine W.gen fun K71 hK71 => ?_
  replace h0_0 := Sl.mono RApiTrain.mono hle64 h0_0
  replace h0_1 := Sl.mono (RL.mono RI.mono) hle64 h0_1
  replace h1 := Sl.mono RGuideRide.mono hle64 h1
  rcases rest58 with _ | rest58
  ·skip
   refine W.seq (W.region (vp hS hE rfl rfl fun a hE => WL.nil ?_))
   refine W.seq ?_
   refine W.condF hE rfl (decide_eq_false (by omega)) ?_
   subst hK71
   refine W.exit rfl ?_
   exact ⟨q65, q69, a66, c67, bs70, s63, hle64, Option.some.inj hq54, h68, hE.pick _ ⟨rfl, rfl, trivial⟩, hS⟩
  have hlt60 : k56 < 4 := by omega
  rw [GuideNetends.loop1] at hq54
  refine W.seq (W.region (vp hS hE rfl rfl fun a hE => WL.nil ?_))
  refine W.seq ?_
  refine W.condT hE rfl (decide_eq_true (by omega)) ?_
  refine W.skip ?_
  refine W.seq ?_
  refine W.block ?_
  refine W.seq (W.region (v2 hS hE rfl rfl rfl rfl fun a hE => WL.nil ?_))
  refine W.seq (W.region (vp hS hE rfl rfl fun a hE => ?_))
  refine WL.mkMap (fk := keyGuidePlace.f) (fv := Value.bool) hE hS (runs_plain rfl) rfl ?_; clear hE hS a w; intro b72 a w hE hS
  obtain ⟨_, hx73, hq54⟩ := bindS hq54
  obtain ⟨h74, h75⟩ := mst_some hx73
  have hl76 := hS.mapsLen 1 rfl
  refine vP hS hE (Gives.idxA hE (bs70).length rfl rfl ar119 (by rw [hl76]; exact h74) (by rw [hl76]; exact h75) ⟨_, _, rfl⟩) rfl fun a hE => ?_
  refine WL.storeM hE hS 2 rfl (runs_plain rfl) rfl rfl ty118 (by rw [hl76]; exact h75) rfl ?_; clear hE hS a w; intro a w hE hS
  replace hS := hS.mapsSnoc 1 0 rfl rfl
  refine WL.nil ?_
  refine W.seq (W.region ?_)
  replace hS := hS.vecNil 47 3
  refine vp hS hE rfl rfl fun a hE => WL.nil ?_
  refine W.seq ?_
  refine W.seq (W.region (vp hS hE rfl rfl fun a hE => ?_))
  refine vP hS hE (Gives.len hE rfl sl26) rfl fun a hE => ?_
  refine vp hS hE rfl rfl fun a hE => WL.nil ?_
  obtain ⟨q79, hq78, hq54⟩ := bindS hq54
  refine W.cut (fun a w => ∃ (q89 : List GuideRide), ∃ (q96 : List (List (GuidePlace × Bool))), ∃ (a90 : Option Addr), ∃ (c91 : Nat), ∃ (n93 : Nat), ∃ (cs94 : List Value), ∃ (bs97 : List Nat), ∃ (s87 : Sg), s63.Le s87 ∧ (q89, q96) = q79 ∧ Ev 3 RGuideRide s87 cs94 q89 ∧ q89.length = n93 ∧ Rep a 48 [(2, pp b51), (4, pp b52), (5, pp b53), (8, .slice a90 n93 c91), (13, vi ((k56 : Nat) : Int))] ∧ St w s87 (vecC 47 3 a90 c91 n93 cs94 :: mapsV keyGuidePlace.f Value.bool bs97 q96 :: pc b53 (mcells 4 bs97).toArray 119 :: pc b52 (mcells 4 []).toArray 119 :: pc b51 #[.slice a0_0 x0.Day.Trains.length c0_0, .slice a0_1 x0.Day.Turns.length c0_1, vi x0.least] 94 :: R)) ?_ ?_
  ·refine W.block ?_
   refine W.loop (fun m a w => ∃ (rest82 : List GuideRide) (k80 : Nat), ∃ (q89 : List GuideRide), ∃ (q96 : List (List (GuidePlace × Bool))), ∃ (a90 : Option Addr), ∃ (c91 : Nat), ∃ (n93 : Nat), ∃ (cs94 : List Value), ∃ (bs97 : List Nat), ∃ (s87 : Sg), rest82.length = m ∧ q65.drop k80 = rest82 ∧ s63.Le s87 ∧ GuideNetends.loop2 x0 k56 rest82 q89 q96 = some q79 ∧ Ev 3 RGuideRide s87 cs94 q89 ∧ q89.length = n93 ∧ Rep a 48 [(2, pp b51), (4, pp b52), (5, pp b53), (7, vi ((k56 : Nat) : Int)), (8, .slice a90 n93 c91), (13, vi ((k56 : Nat) : Int)), (19, .slice a66 q65.length c67), (20, vi ((q65).length : Int)), (21, vi ((k80 : Nat) : Int))] ∧ St w s87 (vecC 47 3 a90 c91 n93 cs94 :: mapsV keyGuidePlace.f Value.bool bs97 q96 :: pc b53 (mcells 4 bs97).toArray 119 :: pc b52 (mcells 4 []).toArray 119 :: pc b51 #[.slice a0_0 x0.Day.Trains.length c0_0, .slice a0_1 x0.Day.Turns.length c0_1, vi x0.least] 94 :: R)) (m := q65.length) ⟨q65, 0, [], (q69 ++ [[]]), none, 0, 0, [], (bs70 ++ [b72]), s63, rfl, rfl, (Sg.Le.refl _), hq78, (Ev.nil), (rfl), hE.pick _ ⟨rfl, rfl, rfl, rfl, rfl, rfl, rfl, rfl, rfl, trivial⟩, hS⟩ ?_
   clear hE hS a w hq78; rintro m86 a w ⟨rest82, k80, q89, q96, a90, c91, n93, cs94, bs97, s87, rfl, hd83, hle88, hq78, h92, rfl, hE, hS⟩
   refine W.gen fun K98 hK98 => ?_
   replace h68 := Sl.mono RGuideRide.mono hle88 h68
   replace h0_0 := Sl.mono RApiTrain.mono hle88 h0_0
   replace h0_1 := Sl.mono (RL.mono RI.mono) hle88 h0_1
   rcases rest82 with _ | ⟨x81, rest82⟩
   ·have hlt84 := drop_nil hd83
    refine W.seq (W.region (vp hS hE rfl rfl fun a hE => WL.nil ?_))
    refine W.seq ?_
    refine W.condF hE rfl (decide_eq_false (by omega)) ?_
    subst hK98
    refine W.exit rfl ?_
    exact ⟨q89, q96, a90, c91, q89.length, cs94, bs97, s87, hle88, Option.some.inj hq78, h92, rfl, hE.pick _ ⟨rfl, rfl, rfl, rfl, rfl, trivial⟩, hS⟩
   obtain ⟨hlt84, hx85, hd83⟩ := drop_cons hd83
   rw [GuideNetends.loop2] at hq78
   refine W.seq (W.region (vp hS hE rfl rfl fun a hE => WL.nil ?_))
   refine W.seq ?_
   refine W.condT hE rfl (decide_eq_true (by omega)) ?_
   refine W.skip ?_
   refine W.seq ?_
   refine W.block ?_
   refine W.seq (W.region ?_)
   obtain ⟨cs99, hl100, hR101, hat102⟩ := h68.at hx85
   subst hR101
   refine vP hS hE (Gives.idx hE k80 rfl rfl sl26 rfl hlt84 (h68.aok hlt84)) rfl fun a hE => ?_
   refine vP hS hE (Gives.loadA hE rfl (fun w h => hat102 w _ h) ty47) rfl fun a hE => ?_
   refine WL.alloc hE hS (runs_plain rfl) zr47 rfl ?_; clear hE hS a w; intro b103 a w hE hS
   refine WL.storeI hE hS 0 rfl (GuideRide.cells x81) (runs_plain rfl) rfl rfl rfl ty47 rfl rfl rfl rfl ?_; clear hE hS a w; intro a w hE hS
   refine WL.nil ?_
   refine W.seq (W.region (vP hS hE (Gives.fld hE rfl fl47_0) rfl fun a hE => ?_))
   refine vP hS hE (Gives.loadB hE 0 rfl rfl rfl ty3) rfl fun a hE => ?_
   refine vP hS hE (Gives.fld hE rfl fl47_2) rfl fun a hE => ?_
   refine vP hS hE (Gives.loadB hE 0 rfl rfl rfl ty3) rfl fun a hE => ?_
   refine vP hS hE (Gives.build hE (vs := [(0, vi x81.Train), (1, vi x81.Off)]) [vi x81.Train, vi x81.Off] rfl (by kernel_rfl)) rfl fun a hE => ?_
   refine WL.alloc hE hS (runs_plain rfl) zr126 rfl ?_; clear hE hS a w; intro b104 a w hE hS
   refine WL.storeI hE hS 0 rfl [vi x81.Train, vi x81.Off] (runs_plain rfl) rfl rfl rfl ty126 rfl rfl rfl rfl ?_; clear hE hS a w; intro a w hE hS
   refine WL.nil ?_
   refine W.seq ?_
   refine W.seq ?_
   refine W.regionQ (C := fun w => St w s87 (pc b104 #[vi x81.Train, vi x81.Off] 126 :: pc b103 (GuideRide.cells x81).toArray 47 :: vecC 47 3 a90 c91 q89.length cs94 :: mapsV keyGuidePlace.f Value.bool bs97 q96 :: pc b53 (mcells 4 bs97).toArray 119 :: pc b52 (mcells 4 []).toArray 119 :: pc b51 #[.slice a0_0 x0.Day.Trains.length c0_0, .slice a0_1 x0.Day.Turns.length c0_1, vi x0.least] 94 :: R)) mixed (by kernel_rfl) hS.drew ?_
   refine qP hE (Gives.p hE rfl) rfl fun a hE => ?_
   obtain ⟨x105, hx106, hq78⟩ := bindS hq78
   obtain ⟨hi107, hlt108, hy109⟩ := mgx_some hx106
   obtain ⟨b110, hb111⟩ := hS.mapsAt 3 rfl hy109
   refine qP hE (Gives.idxA hE ((((k56 : Nat) : Int)).toNat) rfl rfl ar119 hi107 hlt108 ⟨_, _, rfl⟩) rfl fun a hE => ?_
   refine qP hE (Gives.load1 hE rfl (fun w h => St.mapsSees h 4 rfl hb111) ty118) rfl fun a hE => ?_
   refine qP hE (Gives.loadBA hE 0 rfl rfl ty126) rfl fun a hE => ?_
   refine qP hE (Gives.mapsGetS keyGuidePlace hE 3 (k := (GuidePlace.mk x81.Train x81.Off)) (z := false) hb111 hy109 rfl rfl rfl mp118 zm4) rfl fun a hE => ?_
   refine QL.nil ?_; clear hS w; intro w hS
   refine W.cond hE rfl (fun hc112 => ?_) (fun hc112 => ?_)
   ·replace hq78 := iteT hc112 hq78
    refine W.exit rfl ?_
    refine W.region ?_
    refine vP hS hE (Gives.inc hE rfl (by have := h68.small; omega)) rfl fun a hE => ?_
    refine vp hS hE rfl rfl fun a hE => WL.nil ?_
    replace hS := hS.tail
    replace hS := hS.tail
    subst hK98
    exact ⟨rest82.length, Nat.lt_succ_self _, rest82, k80 + 1, q89, q96, a90, c91, q89.length, cs94, bs97, s87, rfl, hd83, hle88, hq78, h92, rfl, hE.pick _ ⟨rfl, rfl, rfl, rfl, rfl, rfl, rfl, rfl, rfl, trivial⟩, hS⟩
   replace hq78 := iteF hc112 hq78
   refine W.skip ?_
   refine W.seq ?_
   refine W.gen fun K113 hK113 => ?_
   refine W.regionE (sel (fun w => St w s87 (pc b104 #[vi x81.Train, vi x81.Off] 126 :: pc b103 (GuideRide.cells x81).toArray 47 :: vecC 47 3 a90 c91 q89.length cs94 :: mapsV keyGuidePlace.f Value.bool bs97 q96 :: pc b53 (mcells 4 bs97).toArray 119 :: pc b52 (mcells 4 []).toArray 119 :: pc b51 #[.slice a0_0 x0.Day.Trains.length c0_0, .slice a0_1 x0.Day.Turns.length c0_1, vi x0.least] 94 :: R)) (fun w => St w s87 (pc b104 #[vi x81.Train, vi x81.Off] 126 :: pc b103 (GuideRide.cells x81).toArray 47 :: vecC 47 3 a90 c91 q89.length cs94 :: pc b52 (mcells 4 []).toArray 119 :: pc b51 #[.slice a0_0 x0.Day.Trains.length c0_0, .slice a0_1 x0.Day.Turns.length c0_1, vi x0.least] 94 :: R))) (fun b i => cond b ([0, 1, 2, 3].contains i) ([0, 1, 2, 3, 4].contains i)) mixed ?_
   replace hS := hS.drew
   refine tP (i := 0) hE rfl (by kernel_rfl) (Gives.p hE rfl) rfl hS ((hS.dropAt 3).dropAt 3) fun a hE => ?_
   obtain ⟨x114, hx115, hq78⟩ := bindS hq78
   obtain ⟨hi116, hlt117, hy118⟩ := mgx_some hx115
   obtain ⟨b119, hb120⟩ := hS.mapsAt 3 rfl hy118
   refine tP (i := 1) hE rfl (by kernel_rfl) (Gives.idxA hE ((((k56 : Nat) : Int)).toNat) rfl rfl ar119 hi116 hlt117 ⟨_, _, rfl⟩) rfl hS ((hS.dropAt 3).dropAt 3) fun a hE => ?_
   refine tT (i := 2) true rfl hE rfl (by kernel_rfl) (Gives.load1 hE rfl (fun w h => St.mapsSees h 4 rfl hb120) ty118) rfl hS ((hS.dropAt 3).dropAt 3) fun a hE => ?_
   have hT := tw_sel (A := fun w => St w s87 _) (B := fun w => St w s87 _) (w := _) (x := true) (y := true) (fun _ => hS) (fun _ => ((hS.dropAt 3).dropAt 3))
   have hF := hS; replace hS := hS
   refine Rg.take (i := 3) true rfl hE rfl (by kernel_rfl) (runs_plain rfl) (Gives.loadBA hE 0 rfl rfl ty126) rfl hT fun a hE => ?_
   replace hS := hF; clear hF hT
   refine Rg.one (i := 4) false true rfl (by kernel_rfl) (by kernel_rfl) (by kernel_rfl) ?_
   refine WL.mapsSetS keyGuidePlace hE hS 3 (k := (GuidePlace.mk x81.Train x81.Off)) (v := true) (.inl rfl) hb120 hy118 (runs_plain rfl) rfl rfl rfl rfl mp118 rfl ?_; clear hE hS a w; intro a w hE hS
   refine WL.nil ?_
   refine ⟨⟨fun h => absurd h (by decide), fun _ => ((hS.dropAt 3).dropAt 3)⟩, ?_⟩
   refine Rg.done (by kernel_rfl) ?_
   subst hK113
   refine W.region ?_
   refine vp hS hE rfl rfl fun a hE => ?_
   refine vP hS hE (Gives.loadBA hE 6 rfl rfl ty94) rfl fun a hE => ?_
   refine vP hS hE (Gives.loadBA hE 1 rfl rfl ty47) rfl fun a hE => ?_
   obtain ⟨q121, hq122, hq78⟩ := bindS hq78
   have hc_ := GuideNetbehind_ok hS h0_0 h0_1 hq122
   refine WL.fnq hE (hc_) (runs_plain rfl) bd78 rfl rfl rfl ?_
   clear hE hS hc_; rintro e w ⟨lb123, s125, rfl, hle126, h124, hS⟩; refine ⟨_, rfl, ?_⟩; clear a; intro a hE
   replace h68 := Sl.mono RGuideRide.mono hle126 h68
   replace h0_0 := Sl.mono RApiTrain.mono hle126 h0_0
   replace h0_1 := Sl.mono (RL.mono RI.mono) hle126 h0_1
   replace h92 := Ev.mono RGuideRide.mono hle126 h92
   obtain ⟨q127, hq128, hq78⟩ := bindS hq78
   replace hS := hS.front 2 rfl
   have hc_ := SlicesAppendSeqLguideRide_v1_ok hS h92 rfl h124 hq128
   refine WL.fnq hE (hc_) (runs_plain rfl) bd112 rfl rfl rfl ?_
   clear hE hS hc_; rintro e w ⟨a129, c130, n131, cs132, s135, rfl, hle136, h133, rfl, hS⟩; refine ⟨_, rfl, ?_⟩; clear a; intro a hE
   replace h68 := Sl.mono RGuideRide.mono hle136 h68
   replace h0_0 := Sl.mono RApiTrain.mono hle136 h0_0
   replace h0_1 := Sl.mono (RL.mono RI.mono) hle136 h0_1
   replace h124 := Iter.mono hle136 h124
   replace h92 := Ev.mono RGuideRide.mono hle136 h92
   refine vp hS hE rfl rfl fun a hE => WL.nil ?_
   refine W.region ?_
   refine vP hS hE (Gives.inc hE rfl (by have := h68.small; omega)) rfl fun a hE => ?_
   refine vp hS hE rfl rfl fun a hE => WL.nil ?_
   replace hS := hS.dropAt 1
   replace hS := hS.dropAt 1
   subst hK98
   exact ⟨rest82.length, Nat.lt_succ_self _, rest82, k80 + 1, q127, (q96.set ((((k56 : Nat) : Int)).toNat) (mput x114 (GuidePlace.mk x81.Train x81.Off) true)), a129, c130, q127.length, cs132, bs97, s135, rfl, hd83, (Sg.Le.trans (Sg.Le.trans hle88 hle126) hle136), hq78, h133, rfl, hE.pick _ ⟨rfl, rfl, rfl, rfl, rfl, rfl, rfl, rfl, rfl, trivial⟩, hS⟩
  clear hE hS a w; rintro a w ⟨q89, q96, a90, c91, n93, cs94, bs97, s87, hle88, rfl, h92, rfl, hE, hS⟩
  dsimp only at hq54
  replace h68 := Sl.mono RGuideRide.mono hle88 h68
  replace h0_0 := Sl.mono RApiTrain.mono hle88 h0_0
  replace h0_1 := Sl.mono (RL.mono RI.mono) hle88 h0_1
  refine W.region ?_
  refine v2 hS hE rfl rfl rfl rfl fun a hE => WL.nil ?_
  refine W.region ?_
  refine vP hS hE (Gives.inc hE rfl (by omega)) rfl fun a hE => ?_
  refine vp hS hE rfl rfl fun a hE => WL.nil ?_
  have hF := hS.fixD RGuideRide.mono 0 rfl h92 rfl; clear hS; obtain ⟨s137, hle138, hS, h139⟩ := hF
  replace h0_0 := Sl.mono RApiTrain.mono hle138 h0_0
  replace h0_1 := Sl.mono (RL.mono RI.mono) hle138 h0_1
  subst hK71
  exact ⟨rest58, Nat.lt_succ_self _, rest58, k56 + 1, q89, q96, a90, c91, bs97, s137, rfl, (by omega), (Sg.Le.trans (Sg.Le.trans hle64 hle88) hle138), hq54, h139, hE.pick _ ⟨rfl, rfl, rfl, rfl, rfl, trivial⟩, hS⟩
 clear hE hS a w; rintro a w ⟨q65, q69, a66, c67, bs70, s63, hle64, rfl, h68, hE, hS⟩
 dsimp only at hr
 replace h0_0 := Sl.mono RApiTrain.mono hle64 h0_0
 replace h0_1 := Sl.mono (RL.mono RI.mono) hle64 h0_1
 replace h1 := Sl.mono RGuideRide.mono hle64 h1
 refine W.seq (W.region ?_)
 obtain ⟨_, hx140, hr⟩ := bindS hr
 have hl141 : (bs70).length = 4 := (hS.mapsLen 0 rfl).trans (mall_some hx140)
 refine vP hS hE (Gives.loadBA hE 1 rfl rfl (by rw [mcells_len (by omega)]; exact ty119)) rfl fun a hE => ?_
 refine WL.storeMA hE hS 2 rfl (runs_plain rfl) rfl rfl ty119 (by decide) (by omega) rfl ?_; clear hE hS a w; intro a w hE hS
 refine WL.nil ?_
 refine W.ret ?_
 refine finG (fn := Tryd.f70) (rs := [.cell 4 119]) (vs := [_]) hE rfl ⟨⟨_, rfl, .inl ⟨_, rfl, hS.seesAt 2 rfl, (by rw [mcells_len (by omega)]; exact ty119)⟩⟩, trivial⟩ ?_
 obtain rfl := Option.some.inj hr
 replace hS := hS.dropAt 1
 replace hS := hS.dropAt 1
 replace hS := hS.dropAt 1
 exact ⟨bs70, s63, rfl, hle64, hl141, hS⟩
set_option maxHeartbeats 8000000 in
theorem CmpisNaNint_ok  {w : World} {s : Sg} {R : List HP} {x0 : Int} (hS : St w s (R))  {r : Bool} (hr : CmpisNaNint x0 = r) :
  Calls Tryd.prog 101 [vi x0].toArray w (fun e w => e = .returned (.bool r) ∧ St w s (R)) := by
 refine enter Tryd.func101 rfl rfl rfl fun a hE => ?_
 rw [CmpisNaNint] at hr
 refine W.seq (W.region (vp hS hE rfl rfl fun a hE => WL.nil ?_))
 refine W.seq (W.region (v2 hS hE rfl rfl rfl rfl fun a hE => ?_))
 refine v2 hS hE rfl rfl rfl rfl fun a hE => WL.nil ?_
 refine W.ret ?_
 refine finG (fn := Tryd.f101) (rs := [.tmp 2]) (vs := [_]) hE rfl ⟨rfl, trivial⟩ ?_
 subst hr
 exact ⟨rfl, hS⟩
set_option maxHeartbeats 8000000 in
theorem CmpCompareint_ok  {w : World} {s : Sg} {R : List HP} {x0 : Int} {x1 : Int} (hS : St w s (R))  {r : Int} (hr : CmpCompareint x0 x1 = r) :
  Calls Tryd.prog 54 [vi x0, vi x1].toArray w (fun e w => e = .returned (vi r) ∧ St w s (R)) := by
 refine enter Tryd.func54 rfl rfl rfl fun a hE => ?_
 rw [CmpCompareint] at hr
 refine W.seq (W.region (vp hS hE rfl rfl fun a hE => WL.nil ?_))
 refine W.seq (W.region (vp hS hE rfl rfl fun a hE => ?_))
 refine WL.fnq hE (CmpisNaNint_ok hS  rfl (r := CmpisNaNint x0)) (runs_plain rfl) bd101 rfl rfl rfl ?_
 clear hE hS; rintro e w ⟨rfl, hS⟩; refine ⟨_, rfl, ?_⟩; clear a; intro a hE
 refine vp hS hE rfl rfl fun a hE => WL.nil ?_
 refine W.seq (W.region (vp hS hE rfl rfl fun a hE => ?_))
 refine WL.fnq hE (CmpisNaNint_ok hS  rfl (r := CmpisNaNint x1)) (runs_plain rfl) bd101 rfl rfl rfl ?_
 clear hE hS; rintro e w ⟨rfl, hS⟩; refine ⟨_, rfl, ?_⟩; clear a; intro a hE
 refine vp hS hE rfl rfl fun a hE => WL.nil ?_
 refine W.seq ?_
 refine W.seq (W.region (vp hS hE rfl rfl fun a hE => WL.nil ?_))
 refine W.cond hE rfl (fun hc51 => ?_) (fun hc51 => ?_)
 ·replace hr := iteT hc51 hr
  refine W.seq ?_
  refine W.seq (W.region (vp hS hE rfl rfl fun a hE => WL.nil ?_))
  refine W.cond hE rfl (fun hc52 => ?_) (fun hc52 => ?_)
  ·replace hr := iteT hc52 hr
   refine W.seq (W.region (vp hS hE rfl rfl fun a hE => WL.nil ?_))
   refine W.ret ?_
   refine finG (fn := Tryd.f54) (rs := [.tmp 4]) (vs := [_]) hE rfl ⟨rfl, trivial⟩ ?_
   subst hr
   exact ⟨rfl, hS⟩
  replace hr := iteF hc52 hr
  refine W.skip ?_
  refine W.seq (W.region (vp hS hE rfl rfl fun a hE => WL.nil ?_))
  refine W.ret ?_
  refine finG (fn := Tryd.f54) (rs := [.tmp 4]) (vs := [_]) hE rfl ⟨rfl, trivial⟩ ?_
  subst hr
  exact ⟨rfl, hS⟩
 replace hr := iteF hc51 hr
 refine W.skip ?_
 refine W.seq ?_
 refine W.seq (W.region (vp hS hE rfl rfl fun a hE => WL.nil ?_))
 refine W.cond hE rfl (fun hc53 => ?_) (fun hc53 => ?_)
 ·replace hr := iteT hc53 hr
  refine W.seq (W.region (vp hS hE rfl rfl fun a hE => WL.nil ?_))
  refine W.ret ?_
  refine finG (fn := Tryd.f54) (rs := [.tmp 4]) (vs := [_]) hE rfl ⟨rfl, trivial⟩ ?_
  subst hr
  exact ⟨rfl, hS⟩
 replace hr := iteF hc53 hr
 refine W.skip ?_
 refine W.seq ?_
 refine W.seq (W.region (v2 hS hE rfl rfl rfl rfl fun a hE => ?_))
 refine vp hS hE rfl rfl fun a hE => WL.nil ?_
 refine W.cond hE rfl (fun hc54 => ?_) (fun hc54 => ?_)
 ·replace hr := iteT hc54 hr
  refine W.seq (W.region (vp hS hE rfl rfl fun a hE => WL.nil ?_))
  refine W.ret ?_
  refine finG (fn := Tryd.f54) (rs := [.tmp 4]) (vs := [_]) hE rfl ⟨rfl, trivial⟩ ?_
  subst hr
  exact ⟨rfl, hS⟩
 replace hr := iteF hc54 hr
 refine W.skip ?_
 refine W.seq ?_
 refine W.seq (W.region (v2 hS hE rfl rfl rfl rfl fun a hE => ?_))
 refine vp hS hE rfl rfl fun a hE => WL.nil ?_
 refine W.cond hE rfl (fun hc55 => ?_) (fun hc55 => ?_)
 ·replace hr := iteT hc55 hr
  refine W.seq (W.region (vp hS hE rfl rfl fun a hE => WL.nil ?_))
  refine W.ret ?_
  refine finG (fn := Tryd.f54) (rs := [.tmp 4]) (vs := [_]) hE rfl ⟨rfl, trivial⟩ ?_
  subst hr
  exact ⟨rfl, hS⟩
 replace hr := iteF hc55 hr
 refine W.skip ?_
 refine W.seq (W.region (vp hS hE rfl rfl fun a hE => WL.nil ?_))
 refine W.ret ?_
 refine finG (fn := Tryd.f54) (rs := [.tmp 4]) (vs := [_]) hE rfl ⟨rfl, trivial⟩ ?_
 subst hr
 exact ⟨rfl, hS⟩
end Go.Proofs.YtpcebngchmgckaaDoor
