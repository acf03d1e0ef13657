/- The walks of the functions that PlanMisses reaches: each call comes to what its mirror says. The conditions are those of each contract. -/
import Derived.Test.YtffleanbfkjfiaaDoorProg
import Derived.Test.YtffleanbfkjfiaaDoorPlanMissesM
import Derived.Test.YtffleanbfkjfiaaDoorFpSb
namespace Go.Proofs.YtffleanbfkjfiaaDoor
open Go Go.Fp
theorem ap33 : apOk Tryd.prog 33 3 1 = true := by kernel_rfl
theorem ar89 : arOk Tryd.prog 89 65 = true := by kernel_rfl
theorem bd12 : bodied Tryd.prog 12 = true := by kernel_rfl
theorem bd13 : bodied Tryd.prog 13 = true := by kernel_rfl
theorem bd14 : bodied Tryd.prog 14 = true := by kernel_rfl
theorem bd15 : bodied Tryd.prog 15 = true := by kernel_rfl
theorem bd16 : bodied Tryd.prog 16 = true := by kernel_rfl
theorem bd25 : bodied Tryd.prog 25 = true := by kernel_rfl
theorem bd26 : bodied Tryd.prog 26 = true := by kernel_rfl
theorem bd27 : bodied Tryd.prog 27 = true := by kernel_rfl
theorem bd28 : bodied Tryd.prog 28 = true := by kernel_rfl
theorem bd29 : bodied Tryd.prog 29 = true := by kernel_rfl
theorem bd35 : bodied Tryd.prog 35 = true := by kernel_rfl
theorem bd37 : bodied Tryd.prog 37 = true := by kernel_rfl
theorem bd38 : bodied Tryd.prog 38 = true := by kernel_rfl
theorem bd39 : bodied Tryd.prog 39 = true := by kernel_rfl
theorem bd43 : bodied Tryd.prog 43 = true := by kernel_rfl
theorem bd44 : bodied Tryd.prog 44 = true := by kernel_rfl
theorem bd46 : bodied Tryd.prog 46 = true := by kernel_rfl
theorem bd47 : bodied Tryd.prog 47 = true := by kernel_rfl
theorem bd5 : bodied Tryd.prog 5 = true := by kernel_rfl
theorem bd6 : bodied Tryd.prog 6 = true := by kernel_rfl
theorem bd7 : bodied Tryd.prog 7 = true := by kernel_rfl
theorem bd8 : bodied Tryd.prog 8 = true := by kernel_rfl
theorem fl25_0 : fldOk Tryd.prog 25 0 0 = true := by kernel_rfl
theorem fl25_1 : fldOk Tryd.prog 25 1 1 = true := by kernel_rfl
theorem fl29_0 : fldOk Tryd.prog 29 0 0 = true := by kernel_rfl
theorem fl29_1 : fldOk Tryd.prog 29 1 1 = true := by kernel_rfl
theorem fl29_2 : fldOk Tryd.prog 29 2 2 = true := by kernel_rfl
theorem fl29_3 : fldOk Tryd.prog 29 3 3 = true := by kernel_rfl
theorem fl31_0 : fldOk Tryd.prog 31 0 0 = true := by kernel_rfl
theorem fl31_1 : fldOk Tryd.prog 31 1 1 = true := by kernel_rfl
theorem fl31_2 : fldOk Tryd.prog 31 2 2 = true := by kernel_rfl
theorem fl31_3 : fldOk Tryd.prog 31 3 3 = true := by kernel_rfl
theorem fl46_0 : fldOk Tryd.prog 46 0 0 = true := by kernel_rfl
theorem fl46_1 : fldOk Tryd.prog 46 1 1 = true := by kernel_rfl
theorem fl46_2 : fldOk Tryd.prog 46 2 2 = true := by kernel_rfl
theorem fl46_3 : fldOk Tryd.prog 46 3 3 = true := by kernel_rfl
theorem fl46_4 : fldOk Tryd.prog 46 4 4 = true := by kernel_rfl
theorem hu2 : (Tryd.prog.underlying 2).isSome = true := by kernel_rfl
theorem hu3 : (Tryd.prog.underlying 3).isSome = true := by kernel_rfl
theorem hu5 : (Tryd.prog.underlying 5).isSome = true := by kernel_rfl
theorem hu81 : (Tryd.prog.underlying 81).isSome = true := by kernel_rfl
theorem mixed : Tryd.prog.follows .mixedOrders = true := by kernel_rfl
theorem sl22 : slOk Tryd.prog 22 29 4 = true := by kernel_rfl
theorem sl23 : slOk Tryd.prog 23 33 1 = true := by kernel_rfl
theorem sl26 : slOk Tryd.prog 26 46 5 = true := by kernel_rfl
theorem sl27 : slOk Tryd.prog 27 31 4 = true := by kernel_rfl
theorem sl33 : slOk Tryd.prog 33 3 1 = true := by kernel_rfl
theorem st9 : stOk Tryd.prog 9 = true := by kernel_rfl
theorem ty22 : tyOk Tryd.prog 22 false 1 = true := by kernel_rfl
theorem ty23 : tyOk Tryd.prog 23 false 1 = true := by kernel_rfl
theorem ty25 : tyOk Tryd.prog 25 true 2 = true := by kernel_rfl
theorem ty27 : tyOk Tryd.prog 27 false 1 = true := by kernel_rfl
theorem ty29 : tyOk Tryd.prog 29 true 4 = true := by kernel_rfl
theorem ty3 : tyOk Tryd.prog 3 false 1 = true := by kernel_rfl
theorem ty31 : tyOk Tryd.prog 31 true 4 = true := by kernel_rfl
theorem ty33 : tyOk Tryd.prog 33 false 1 = true := by kernel_rfl
theorem ty4 : tyOk Tryd.prog 4 false 1 = true := by kernel_rfl
theorem ty46 : tyOk Tryd.prog 46 true 5 = true := by kernel_rfl
theorem ty5 : tyOk Tryd.prog 5 false 1 = true := by kernel_rfl
theorem ui3 : Tryd.prog.underlying 3 = some (.int .i64) := by kernel_rfl
theorem ui5 : Tryd.prog.underlying 5 = some (.int .u8) := by kernel_rfl
theorem ui81 : Tryd.prog.underlying 81 = some (.int .u64) := by kernel_rfl
theorem ui91 : Tryd.prog.underlying 91 = some (.int .u64) := by kernel_rfl
theorem zr29 : (Tryd.prog.info? 29).bind (fun i => i.zero.map fun z => z.cells.toList) = some [.int .i64 0, .int .i64 0, .slice none 0 0, .slice none 0 0] := by kernel_rfl
theorem zr31 : (Tryd.prog.info? 31).bind (fun i => i.zero.map fun z => z.cells.toList) = some [.int .i64 0, .int .i64 0, .int .i64 0, .int .i64 0] := by kernel_rfl
theorem zr4 : (Tryd.prog.info? 4).bind (fun i => i.zero.map fun z => z.cells.toList) = some [.bool false] := by kernel_rfl
theorem zr46 : (Tryd.prog.info? 46).bind (fun i => i.zero.map fun z => z.cells.toList) = some [.int .i64 0, .int .i64 0, .int .i64 0, .int .i64 0, .int .i64 0] := by kernel_rfl
theorem zr63 : (Tryd.prog.info? 63).bind (fun i => i.zero.map fun z => z.cells.toList) = some [.pointer none, .slice none 0 0] := by kernel_rfl
theorem zr80 : (Tryd.prog.info? 80).bind (fun i => i.zero.map fun z => z.cells.toList) = some [.int .u8 0, .int .u8 0, .int .u8 0, .int .u8 0, .int .u8 0, .int .u8 0, .int .u8 0, .int .u8 0, .int .u8 0, .int .u8 0, .int .u8 0, .int .u8 0, .int .u8 0, .int .u8 0, .int .u8 0, .int .u8 0, .int .u8 0, .int .u8 0, .int .u8 0, .int .u8 0, .int .u8 0, .int .u8 0, .int .u8 0, .int .u8 0] := by kernel_rfl
theorem zr89 : (Tryd.prog.info? 89).bind (fun i => i.zero.map fun z => z.cells.toList) = some [.int .u8 0, .int .u8 0, .int .u8 0, .int .u8 0, .int .u8 0, .int .u8 0, .int .u8 0, .int .u8 0, .int .u8 0, .int .u8 0, .int .u8 0, .int .u8 0, .int .u8 0, .int .u8 0, .int .u8 0, .int .u8 0, .int .u8 0, .int .u8 0, .int .u8 0, .int .u8 0, .int .u8 0, .int .u8 0, .int .u8 0, .int .u8 0, .int .u8 0, .int .u8 0, .int .u8 0, .int .u8 0, .int .u8 0, .int .u8 0, .int .u8 0, .int .u8 0, .int .u8 0, .int .u8 0, .int .u8 0, .int .u8 0, .int .u8 0, .int .u8 0, .int .u8 0, .int .u8 0, .int .u8 0, .int .u8 0, .int .u8 0, .int .u8 0, .int .u8 0, .int .u8 0, .int .u8 0, .int .u8 0, .int .u8 0, .int .u8 0, .int .u8 0, .int .u8 0, .int .u8 0, .int .u8 0, .int .u8 0, .int .u8 0, .int .u8 0, .int .u8 0, .int .u8 0, .int .u8 0, .int .u8 0, .int .u8 0, .int .u8 0, .int .u8 0, .int .u8 0] := by kernel_rfl
theorem sbmixed : Tryd.prog.follows .mixedOrders = true := by kernel_rfl
theorem sbty60 : tyOk Tryd.prog 60 false 1 = true := by kernel_rfl
theorem sbty61 : tyOk Tryd.prog 61 false 1 = true := by kernel_rfl
theorem sbfl0 : fldOk Tryd.prog 63 0 0 = true := by kernel_rfl
theorem sbfl1 : fldOk Tryd.prog 63 1 1 = true := by kernel_rfl
theorem sbap : apOk Tryd.prog 61 5 1 = true := by kernel_rfl
theorem sbsl : slOk Tryd.prog 61 5 1 = true := by kernel_rfl
theorem sbpt : ptOk Tryd.prog 60 63 = true := by kernel_rfl
theorem sbu60 : Tryd.prog.underlying 60 = some (.pointer 63) := by kernel_rfl
theorem sbu77 : Tryd.prog.underlying 77 = some .unsafePointer := by kernel_rfl
theorem sbu76 : Tryd.prog.underlying 76 = some (.pointer 5) := by kernel_rfl
theorem sbu9 : Tryd.prog.underlying 9 = some .string := by kernel_rfl
theorem sbst : stOk Tryd.prog 9 = true := by kernel_rfl
theorem sbc : Tryd.prog.cellsOf 63 = 2 := by kernel_rfl
theorem sbc5 : Tryd.prog.cellsOf 5 = 1 := by kernel_rfl
theorem sbi0 : (Tryd.prog.info? 63).map (·.size) = some 2 := by kernel_rfl
theorem sbi : ∃ j, Tryd.prog.info? 63 = some j ∧ j.size ≠ 0 := by
  have h := sbi0
  rw [Option.map_eq_some_iff] at h
  obtain ⟨j, h1, h2⟩ := h
  exact ⟨j, h1, by omega⟩
theorem sbsame : sameOk Tryd.prog 36 := ⟨_, rfl, by kernel_rfl, by kernel_rfl, by kernel_rfl, by kernel_rfl⟩
theorem sbbd : bodied Tryd.prog 34 = true := by kernel_rfl
section
variable {w : World} {s : Sg} {R : List HP} {b : Nat} {y : ByteArray}
theorem sbCheck_ok {f a : Option Addr} {c : Nat} (hf : f = none ∨ f = some ⟨b, 0, none⟩) (hS : St w s (pt b (.cells [.pointer f, .slice a y.size c].toArray 63 (0, 0)) :: R)) :
    Calls Tryd.prog 34 [.pointer (some ⟨b, 0, none⟩)].toArray w (fun e w => e = .returned (.tuple #[]) ∧ St w s (pt b (.cells [.pointer (some ⟨b, 0, none⟩), .slice a y.size c].toArray 63 (0, 0)) :: R)) := by
  obtain ⟨j, hj1, hj2⟩ := sbi
  refine enter Tryd.func34 rfl rfl rfl fun a hE => ?_
  refine W.seq ?_
  refine W.region ?_
  refine WL.vS hS hE (runs_plain rfl) (Gives.p hE rfl) rfl ?_; clear hE a; intro a hE
  refine WL.vS hS hE (runs_plain rfl) (Gives.nilOk hE rfl) rfl ?_; clear hE a; intro a hE
  refine WL.vS hS hE (runs_plain rfl) (Gives.fld hE rfl sbfl0) rfl ?_; clear hE a; intro a hE
  refine WL.vS hS hE (runs_plain rfl) (Gives.loadB hE 0 rfl rfl rfl sbty60) rfl ?_; clear hE a; intro a hE
  refine WL.vS hS hE (runs_plain rfl) (Gives.isNilP hE rfl rfl sbpt) rfl ?_; clear hE a; intro a hE
  refine WL.nil ?_
  refine W.cond hE rfl (fun hc => ?_) (fun hc => ?_)
  · refine W.region ?_
    refine WL.vS hS hE (runs_plain rfl) (Gives.p hE rfl) rfl ?_; clear hE a; intro a hE
    refine WL.vS hS hE (runs_plain rfl) (Gives.p hE rfl) rfl ?_; clear hE a; intro a hE
    refine WL.vS hS hE (runs_plain rfl) (Gives.toUnsafe hE 0 rfl rfl rfl sbu60 sbu77 hj1 hj2) rfl ?_; clear hE a; intro a hE
    refine WL.same hE sbsame (runs_plain rfl) rfl rfl ?_; clear hE a; intro a hE
    refine WL.vS hS hE (runs_plain rfl) (Gives.fromUnsafe hE 0 rfl rfl sbu77 sbu60 hj1 sbc rfl) rfl ?_; clear hE a; intro a hE
    refine WL.vS hS hE (runs_plain rfl) (Gives.nilOk hE rfl) rfl ?_; clear hE a; intro a hE
    refine WL.vS hS hE (runs_plain rfl) (Gives.fld hE rfl sbfl0) rfl ?_; clear hE a; intro a hE
    refine WL.storeI hE hS 0 rfl _ (runs_plain rfl) rfl rfl rfl sbty60 rfl rfl rfl rfl ?_; clear hE hS a; intro a w hE hS
    refine WL.nil ?_
    refine fin0 hE rfl ?_
    exact ⟨rfl, hS⟩
  · have hf' : f = some ⟨b, 0, none⟩ := by
      rcases hf with rfl | h
      · cases hc
      · exact h
    subst hf'
    refine W.seq ?_
    refine W.region ?_
    refine WL.vS hS hE (runs_plain rfl) (Gives.p hE rfl) rfl ?_; clear hE a; intro a hE
    refine WL.vS hS hE (runs_plain rfl) (Gives.nilOk hE rfl) rfl ?_; clear hE a; intro a hE
    refine WL.vS hS hE (runs_plain rfl) (Gives.fld hE rfl sbfl0) rfl ?_; clear hE a; intro a hE
    refine WL.vS hS hE (runs_plain rfl) (Gives.loadB hE 0 rfl rfl rfl sbty60) rfl ?_; clear hE a; intro a hE
    refine WL.vS hS hE (runs_plain rfl) (Gives.p hE rfl) rfl ?_; clear hE a; intro a hE
    refine WL.vS hS hE (runs_plain rfl) (Gives.neqSame hE rfl rfl sbu60 hj1) rfl ?_; clear hE a; intro a hE
    refine WL.nil ?_
    refine W.condF hE rfl rfl ?_
    refine W.skip ?_
    refine fin0 hE rfl ?_
    exact ⟨rfl, hS⟩

theorem sbWrite_ok {x r : ByteArray} (hS : St w s (sbC 63 5 b y :: R)) (hr : sbw y x = some r) :
    Calls Tryd.prog 27 [.pointer (some ⟨b, 0, none⟩), .string x].toArray w (fun e w => e = .returned (.tuple #[.int .i64 x.size, .nilIface]) ∧ St w s (sbC 63 5 b r :: R)) := by
  obtain ⟨h1, h2, rfl⟩ := sbw_some hr
  obtain ⟨f, sa, c, hf, ha, hS⟩ := hS.sbOpen
  refine enter Tryd.func27 rfl rfl rfl fun a hE => ?_
  refine W.seq ?_
  refine W.region ?_
  refine WL.vS hS hE (runs_plain rfl) (Gives.p hE rfl) rfl ?_; clear hE a; intro a hE
  refine WL.vS hS hE (runs_plain rfl) (Gives.p hE rfl) rfl ?_; clear hE a; intro a hE
  refine WL.nil ?_
  refine W.seq ?_
  refine W.region ?_
  refine WL.vS hS hE (runs_plain rfl) (Gives.p hE rfl) rfl ?_; clear hE a; intro a hE
  refine WL.fnq hE (sbCheck_ok hf hS) (runs_plain rfl) sbbd rfl rfl rfl ?_
  clear hE hS; rintro e w ⟨rfl, hS⟩; refine ⟨_, rfl, ?_⟩; clear a; intro a hE
  refine WL.nil ?_
  refine W.seq ?_
  refine W.region ?_
  refine WL.vS hS hE (runs_plain rfl) (Gives.p hE rfl) rfl ?_; clear hE a; intro a hE
  refine WL.vS hS hE (runs_plain rfl) (Gives.p hE rfl) rfl ?_; clear hE a; intro a hE
  refine WL.vS hS hE (runs_plain rfl) (Gives.nilOk hE rfl) rfl ?_; clear hE a; intro a hE
  refine WL.vS hS hE (runs_plain rfl) (Gives.fld hE rfl sbfl1) rfl ?_; clear hE a; intro a hE
  refine WL.vS hS hE (runs_plain rfl) (Gives.loadB hE 0 rfl rfl rfl sbty61) rfl ?_; clear hE a; intro a hE
  refine WL.vS hS hE (runs_plain rfl) (Gives.p hE rfl) rfl ?_; clear hE a; intro a hE
  refine WL.appStr hE hS 1 (runs_plain rfl) rfl rfl rfl sbap sbu9 h1 h2 ha.1 rfl ?_; clear hE hS a ha; intro sa2 c2 a w ha hE hS
  refine WL.vS hS hE (runs_plain rfl) (Gives.nilOk hE rfl) rfl ?_; clear hE a; intro a hE
  refine WL.vS hS hE (runs_plain rfl) (Gives.fld hE rfl sbfl1) rfl ?_; clear hE a; intro a hE
  refine WL.storeI hE hS 0 rfl _ (runs_plain rfl) rfl rfl rfl sbty61 rfl rfl rfl rfl ?_; clear hE hS a; intro a w hE hS
  refine WL.nil ?_
  refine W.seq ?_
  refine W.region ?_
  refine WL.vS hS hE (runs_plain rfl) (Gives.p hE rfl) rfl ?_; clear hE a; intro a hE
  refine WL.vS hS hE (runs_plain rfl) (Gives.lenS hE rfl sbst) rfl ?_; clear hE a; intro a hE
  refine WL.vS hS hE (runs_plain rfl) (Gives.p hE rfl) rfl ?_; clear hE a; intro a hE
  refine WL.vS hS hE (runs_plain rfl) (Gives.p hE rfl) rfl ?_; clear hE a; intro a hE
  refine WL.nil ?_
  refine W.ret ?_
  refine finG (fn := Tryd.f27) (rs := [.tmp 4, .tmp 5]) (vs := [_, _]) hE rfl ⟨rfl, rfl, trivial⟩ ?_
  refine ⟨rfl, St.sbClose (f := some ⟨b, 0, none⟩) (a := sa2) (c := c2) (.inr rfl) ha ?_⟩
  rw [ByteArray.size_append, byteCells_app]
  exact hS

theorem sbString_ok (hS : St w s (sbC 63 5 b y :: R)) :
    Calls Tryd.prog 29 [.pointer (some ⟨b, 0, none⟩)].toArray w (fun e w => e = .returned (.string y) ∧ St w s R) := by
  obtain ⟨f, sa, c, hf, ha, hS⟩ := hS.sbOpen
  refine enter Tryd.func29 rfl rfl rfl fun a hE => ?_
  refine W.seq ?_
  refine W.region ?_
  refine WL.vS hS hE (runs_plain rfl) (Gives.p hE rfl) rfl ?_; clear hE a; intro a hE
  refine WL.nil ?_
  refine W.seq ?_
  refine W.regionE (sel (fun w => St w s (pt b (.cells [.pointer f, .slice sa y.size c].toArray 63 (0, 0)) :: vecC 5 1 sa c y.size (byteCells y) :: R)) (fun w => St w s R)) (fun b i => cond b (!(i == 10)) true) sbmixed ?_
  replace hS := hS.drew
  refine Rg.takeP (i := 0) hE rfl (by kernel_rfl) (runs_plain rfl) (Gives.p hE rfl) rfl (tw_sel (fun _ => hS) (fun _ => hS.tail.tail)) ?_; clear hE a; intro a hE
  refine Rg.takeP (i := 5) hE rfl (by kernel_rfl) (runs_plain rfl) (Gives.p hE rfl) rfl (tw_sel (fun _ => hS) (fun _ => hS.tail.tail)) ?_; clear hE a; intro a hE
  refine Rg.takeP (i := 1) hE rfl (by kernel_rfl) (runs_plain rfl) (Gives.nilOk hE rfl) rfl (tw_sel (fun _ => hS) (fun _ => hS.tail.tail)) ?_; clear hE a; intro a hE
  refine Rg.takeP (i := 6) hE rfl (by kernel_rfl) (runs_plain rfl) (Gives.nilOk hE rfl) rfl (tw_sel (fun _ => hS) (fun _ => hS.tail.tail)) ?_; clear hE a; intro a hE
  refine Rg.takeP (i := 2) hE rfl (by kernel_rfl) (runs_plain rfl) (Gives.fld hE rfl sbfl1) rfl (tw_sel (fun _ => hS) (fun _ => hS.tail.tail)) ?_; clear hE a; intro a hE
  refine Rg.takeP (i := 7) hE rfl (by kernel_rfl) (runs_plain rfl) (Gives.fld hE rfl sbfl1) rfl (tw_sel (fun _ => hS) (fun _ => hS.tail.tail)) ?_; clear hE a; intro a hE
  refine Rg.two (i := 3) (j := 8) true true true true rfl rfl (by kernel_rfl) (by kernel_rfl) (by kernel_rfl) (by kernel_rfl) (by kernel_rfl) ?_ ?_
  · refine WL.vS hS hE (runs_plain rfl) (Gives.loadB hE 0 rfl rfl rfl sbty61) rfl ?_; clear hE a; intro a hE
    refine WL.nil ?_
    refine ⟨⟨fun _ => hS, fun _ => hS.tail.tail⟩, ?_⟩
    refine Rg.takeP (i := 4) hE rfl (by kernel_rfl) (runs_plain rfl) (Gives.sliceData hE rfl ha.2) rfl (tw_sel (fun _ => hS) (fun _ => hS.tail.tail)) ?_; clear hE a; intro a hE
    refine Rg.one (i := 8) true true rfl (by kernel_rfl) (by kernel_rfl) (by kernel_rfl) ?_
    refine WL.vS hS hE (runs_plain rfl) (Gives.loadB hE 0 rfl rfl rfl sbty61) rfl ?_; clear hE a; intro a hE
    refine WL.nil ?_
    refine ⟨⟨fun _ => hS, fun _ => hS.tail.tail⟩, ?_⟩
    refine Rg.takeP (i := 9) hE rfl (by kernel_rfl) (runs_plain rfl) (Gives.len hE rfl sbsl) rfl (tw_sel (fun _ => hS) (fun _ => hS.tail.tail)) ?_; clear hE a; intro a hE
    refine Rg.one (i := 10) false true rfl (by kernel_rfl) (by kernel_rfl) (by kernel_rfl) ?_
    refine WL.sbString hE hS 1 (runs_plain rfl) rfl rfl rfl ha.1 sbu76 sbc5 rfl ?_; clear hE hS a; intro a w hE hS
    refine WL.nil ?_
    refine ⟨⟨fun h => absurd h (by decide), fun _ => hS.tail⟩, ?_⟩
    refine Rg.takeP (i := 11) hE rfl (by kernel_rfl) (runs_plain rfl) (Gives.p hE rfl) rfl (tw_sel (fun h => absurd h (by decide)) (fun _ => hS.tail)) ?_; clear hE a; intro a hE
    refine Rg.done (by kernel_rfl) ?_
    refine W.ret ?_
    refine finG (fn := Tryd.f29) (rs := [.tmp 2]) (vs := [_]) hE rfl ⟨rfl, trivial⟩ ?_
    exact ⟨rfl, hS.tail⟩
  · refine WL.vS hS hE (runs_plain rfl) (Gives.loadB hE 0 rfl rfl rfl sbty61) rfl ?_; clear hE a; intro a hE
    refine WL.nil ?_
    refine ⟨⟨fun _ => hS, fun _ => hS.tail.tail⟩, ?_⟩
    refine Rg.takeP (i := 9) hE rfl (by kernel_rfl) (runs_plain rfl) (Gives.len hE rfl sbsl) rfl (tw_sel (fun _ => hS) (fun _ => hS.tail.tail)) ?_; clear hE a; intro a hE
    refine Rg.one (i := 3) true true rfl (by kernel_rfl) (by kernel_rfl) (by kernel_rfl) ?_
    refine WL.vS hS hE (runs_plain rfl) (Gives.loadB hE 0 rfl rfl rfl sbty61) rfl ?_; clear hE a; intro a hE
    refine WL.nil ?_
    refine ⟨⟨fun _ => hS, fun _ => hS.tail.tail⟩, ?_⟩
    refine Rg.takeP (i := 4) hE rfl (by kernel_rfl) (runs_plain rfl) (Gives.sliceData hE rfl ha.2) rfl (tw_sel (fun _ => hS) (fun _ => hS.tail.tail)) ?_; clear hE a; intro a hE
    refine Rg.one (i := 10) false true rfl (by kernel_rfl) (by kernel_rfl) (by kernel_rfl) ?_
    refine WL.sbString hE hS 1 (runs_plain rfl) rfl rfl rfl ha.1 sbu76 sbc5 rfl ?_; clear hE hS a; intro a w hE hS
    refine WL.nil ?_
    refine ⟨⟨fun h => absurd h (by decide), fun _ => hS.tail⟩, ?_⟩
    refine Rg.takeP (i := 11) hE rfl (by kernel_rfl) (runs_plain rfl) (Gives.p hE rfl) rfl (tw_sel (fun h => absurd h (by decide)) (fun _ => hS.tail)) ?_; clear hE a; intro a hE
    refine Rg.done (by kernel_rfl) ?_
    refine W.ret ?_
    refine finG (fn := Tryd.f29) (rs := [.tmp 2]) (vs := [_]) hE rfl ⟨rfl, trivial⟩ ?_
    exact ⟨rfl, hS.tail⟩
end
set_option maxHeartbeats 8000000 in
theorem Planform_ok  {w : World} {s : Sg} {R : List HP} {x0 : ApiDay} {a0_0 : Option Addr} {c0_0 : Nat} {a0_1 : Option Addr} {c0_1 : Nat} (hS : St w s (R)) (h0_0 : Sl 4 RApiTrain s a0_0 c0_0 x0.Trains) (h0_1 : Sl 1 (RL 1 (RI .i64)) s a0_1 c0_1 x0.Turns) {r : Int} (hr : Planform x0 = r) :
    Calls Tryd.prog 25 [.agg [.slice a0_0 x0.Trains.length c0_0, .slice a0_1 x0.Turns.length c0_1].toArray].toArray w (fun e w => e = .returned (.int .i64 r) ∧ St w s (R)) := by
  refine enter Tryd.func25 rfl rfl rfl fun a hE => ?_
  rw [Planform] at hr
  refine W.seq ?_
  refine W.region ?_
  refine WL.box hE hS (runs_plain rfl) rfl rfl rfl ?_; clear hE hS a w; intro b51 a w hE hS
  refine WL.vS hS hE (runs_plain rfl) (Gives.p hE rfl) rfl ?_; clear hE a; intro a hE
  refine WL.nil ?_
  refine W.seq ?_
  refine W.seq ?_
  obtain ⟨q53, hq52, hr⟩ := bndS hr
  refine W.cut (fun a w => ∃ (q56 : Bool), q56 = q53 ∧ Rep a 85 [(1, .pointer (some ⟨b51, 0, none⟩)), (20, .bool q56)] ∧ St w s (pt b51 (.cells #[.slice a0_0 x0.Trains.length c0_0, .slice a0_1 x0.Turns.length c0_1] 25 (0, 0)) :: R)) ?_ ?_
  · refine W.gen fun K57 hK57 => ?_
    refine W.region ?_
    refine WL.vS hS hE (runs_plain rfl) (Gives.fld hE rfl fl25_0) rfl ?_; clear hE a; intro a hE
    refine WL.vS hS hE (runs_plain rfl) (Gives.loadB hE 0 rfl rfl rfl ty22) rfl ?_; clear hE a; intro a hE
    refine WL.vS hS hE (runs_plain rfl) (Gives.len hE rfl sl22) rfl ?_; clear hE a; intro a hE
    refine WL.vS hS hE (runs_plain rfl) (Gives.p hE rfl) rfl ?_; clear hE a; intro a hE
    refine WL.vS hS hE (runs_plain rfl) (Gives.p hE rfl) rfl ?_; clear hE a; intro a hE
    rcases Bool.eq_false_or_eq_true (decide (((x0.Trains).length : Int) > 12)) with hg58 | hg58
    · replace hq52 := iteT hg58 hq52
      refine WL.no hE (runs_not hE rfl rfl rfl (by rw [hg58]; decide)) rfl ?_; clear hE a; intro a hE
      refine WL.no hE (runs_not hE rfl rfl rfl (by rw [hg58]; decide)) rfl ?_; clear hE a; intro a hE
      refine WL.no hE (runs_not hE rfl rfl rfl (by rw [hg58]; decide)) rfl ?_; clear hE a; intro a hE
      refine WL.no hE (runs_not hE rfl rfl rfl (by rw [hg58]; decide)) rfl ?_; clear hE a; intro a hE
      refine WL.vS hS hE (runs_plain rfl) (Gives.pickT hE rfl hg58 rfl) rfl ?_; clear hE a; intro a hE
      refine WL.nil ?_
      subst hK57
      exact ⟨true, hq52, hE.pick _ ⟨rfl, rfl, trivial⟩, hS⟩
    · replace hq52 := iteF hg58 hq52
      refine WL.vS hS hE (runs_if hE rfl rfl rfl hg58) (Gives.fld hE rfl fl25_1) rfl ?_; clear hE a; intro a hE
      refine WL.vS hS hE (runs_if hE rfl rfl rfl hg58) (Gives.loadB hE 0 rfl rfl rfl ty23) rfl ?_; clear hE a; intro a hE
      refine WL.vS hS hE (runs_if hE rfl rfl rfl hg58) (Gives.len hE rfl sl23) rfl ?_; clear hE a; intro a hE
      refine WL.vS hS hE (runs_if hE rfl rfl rfl hg58) (Gives.p hE rfl) rfl ?_; clear hE a; intro a hE
      refine WL.vS hS hE (runs_plain rfl) (Gives.pickF hE rfl hg58 rfl) rfl ?_; clear hE a; intro a hE
      refine WL.nil ?_
      subst hK57
      exact ⟨decide (((x0.Turns).length : Int) > 8), hq52, hE.pick _ ⟨rfl, rfl, trivial⟩, hS⟩
  · clear hE hS a w; rintro a w ⟨q56, rfl, hE, hS⟩
    refine W.cond hE rfl (fun hc59 => ?_) (fun hc59 => ?_)
    · replace hr := iteT hc59 hr
      refine W.seq ?_
      refine W.region ?_
      refine WL.vS hS hE (runs_plain rfl) (Gives.p hE rfl) rfl ?_; clear hE a; intro a hE
      refine WL.nil ?_
      refine W.ret ?_
      refine finG (fn := Tryd.f25) (rs := [.tmp 2]) (vs := [_]) hE rfl ⟨rfl, trivial⟩ ?_
      subst hr
      replace hS := hS.tail
      exact ⟨rfl, hS⟩
    · replace hr := iteF hc59 hr
      refine W.skip ?_
      refine W.seq ?_
      refine W.seq ?_
      refine W.region ?_
      refine WL.vS hS hE (runs_plain rfl) (Gives.fld hE rfl fl25_0) rfl ?_; clear hE a; intro a hE
      refine WL.vS hS hE (runs_plain rfl) (Gives.loadB hE 0 rfl rfl rfl ty22) rfl ?_; clear hE a; intro a hE
      refine WL.vS hS hE (runs_plain rfl) (Gives.len hE rfl sl22) rfl ?_; clear hE a; intro a hE
      refine WL.vS hS hE (runs_plain rfl) (Gives.p hE rfl) rfl ?_; clear hE a; intro a hE
      refine WL.nil ?_
      obtain ⟨q61, hq60, hr⟩ := bndS hr
      refine W.cut (fun a w => (.next ()) = q61 ∧ Rep a 85 [(1, .pointer (some ⟨b51, 0, none⟩))] ∧ St w s (pt b51 (.cells #[.slice a0_0 x0.Trains.length c0_0, .slice a0_1 x0.Turns.length c0_1] 25 (0, 0)) :: R)) ?_ ?_
      · refine W.block ?_
        refine W.loop (fun m a w => ∃ (rest64 : List ApiTrain) (k62 : Nat), rest64.length = m ∧ x0.Trains.drop k62 = rest64 ∧ Planform.loop1 rest64 = q61 ∧ Rep a 85 [(1, .pointer (some ⟨b51, 0, none⟩)), (22, .slice a0_0 x0.Trains.length c0_0), (23, .int .i64 ((x0.Trains).length : Int)), (24, .int .i64 ((k62 : Nat) : Int))] ∧ St w s (pt b51 (.cells #[.slice a0_0 x0.Trains.length c0_0, .slice a0_1 x0.Turns.length c0_1] 25 (0, 0)) :: R)) (m := x0.Trains.length) ⟨x0.Trains, 0, rfl, rfl, hq60, hE.pick _ ⟨rfl, rfl, rfl, rfl, trivial⟩, hS⟩ ?_
        clear hE hS a w hq60; rintro m68 a w ⟨rest64, k62, rfl, hd65, hq60, hE, hS⟩
        refine W.gen fun K71 hK71 => ?_
        rcases rest64 with _ | ⟨x63, rest64⟩
        · have hlt66 := drop_nil hd65
          refine W.seq ?_
          refine W.region ?_
          refine WL.vS hS hE (runs_plain rfl) (Gives.p hE rfl) rfl ?_; clear hE a; intro a hE
          refine WL.nil ?_
          refine W.seq ?_
          refine W.condF hE rfl (decide_eq_false (by omega)) ?_
          subst hK71
          refine W.exit rfl ?_
          exact ⟨hq60, hE.pick _ ⟨rfl, trivial⟩, hS⟩
        · obtain ⟨hlt66, hx67, hd65⟩ := drop_cons hd65
          rw [Planform.loop1] at hq60
          refine W.seq ?_
          refine W.region ?_
          refine WL.vS hS hE (runs_plain rfl) (Gives.p hE rfl) rfl ?_; clear hE a; intro a hE
          refine WL.nil ?_
          refine W.seq ?_
          refine W.condT hE rfl (decide_eq_true (by omega)) ?_
          refine W.skip ?_
          refine W.seq ?_
          refine W.block ?_
          refine W.seq ?_
          refine W.region ?_
          obtain ⟨cs72, hl73, hR74, hat75⟩ := h0_0.at hx67
          obtain ⟨a76, c77, a79, c80, rfl, h78, h81⟩ := hR74
          refine WL.vS hS hE (runs_plain rfl) (Gives.idx hE k62 rfl rfl sl22 rfl hlt66 (h0_0.aok hlt66)) rfl ?_; clear hE a; intro a hE
          refine WL.vS hS hE (runs_plain rfl) (Gives.loadA hE rfl (fun w h => hat75 w _ h) ty29) rfl ?_; clear hE a; intro a hE
          refine WL.alloc hE hS (runs_plain rfl) zr29 rfl ?_; clear hE hS a w; intro b82 a w hE hS
          refine WL.storeI hE hS 0 rfl [.int .i64 x63.No, .int .i64 x63.Stock, .slice a76 x63.Stops.length c77, .slice a79 x63.Legs.length c80] (runs_plain rfl) rfl rfl rfl ty29 rfl rfl rfl rfl ?_; clear hE hS a w; intro a w hE hS
          refine WL.nil ?_
          refine W.seq ?_
          refine W.seq ?_
          obtain ⟨q84, hq83, hq60⟩ := bndS hq60
          refine W.cut (fun a w => ∃ (q87 : Bool), q87 = q84 ∧ Rep a 85 [(1, .pointer (some ⟨b51, 0, none⟩)), (4, .pointer (some ⟨b82, 0, none⟩)), (22, .slice a0_0 x0.Trains.length c0_0), (23, .int .i64 ((x0.Trains).length : Int)), (24, .int .i64 ((k62 : Nat) : Int)), (41, .bool q87)] ∧ St w s (pt b82 (.cells #[.int .i64 x63.No, .int .i64 x63.Stock, .slice a76 x63.Stops.length c77, .slice a79 x63.Legs.length c80] 29 (0, 0)) :: pt b51 (.cells #[.slice a0_0 x0.Trains.length c0_0, .slice a0_1 x0.Turns.length c0_1] 25 (0, 0)) :: R)) ?_ ?_
          · refine W.gen fun K88 hK88 => ?_
            refine W.region ?_
            refine WL.vS hS hE (runs_plain rfl) (Gives.fld hE rfl fl29_2) rfl ?_; clear hE a; intro a hE
            refine WL.vS hS hE (runs_plain rfl) (Gives.loadB hE 0 rfl rfl rfl ty27) rfl ?_; clear hE a; intro a hE
            refine WL.vS hS hE (runs_plain rfl) (Gives.len hE rfl sl27) rfl ?_; clear hE a; intro a hE
            refine WL.vS hS hE (runs_plain rfl) (Gives.p hE rfl) rfl ?_; clear hE a; intro a hE
            refine WL.vS hS hE (runs_plain rfl) (Gives.p hE rfl) rfl ?_; clear hE a; intro a hE
            rcases Bool.eq_false_or_eq_true (((x63.Stops).length : Int) == 0) with hg89 | hg89
            · replace hq83 := iteT hg89 hq83
              refine WL.no hE (runs_not hE rfl rfl rfl (by rw [hg89]; decide)) rfl ?_; clear hE a; intro a hE
              refine WL.no hE (runs_not hE rfl rfl rfl (by rw [hg89]; decide)) rfl ?_; clear hE a; intro a hE
              refine WL.no hE (runs_not hE rfl rfl rfl (by rw [hg89]; decide)) rfl ?_; clear hE a; intro a hE
              refine WL.no hE (runs_not hE rfl rfl rfl (by rw [hg89]; decide)) rfl ?_; clear hE a; intro a hE
              refine WL.no hE (runs_not hE rfl rfl rfl (by rw [hg89]; decide)) rfl ?_; clear hE a; intro a hE
              refine WL.no hE (runs_not hE rfl rfl rfl (by rw [hg89]; decide)) rfl ?_; clear hE a; intro a hE
              refine WL.no hE (runs_not hE rfl rfl rfl (by rw [hg89]; decide)) rfl ?_; clear hE a; intro a hE
              refine WL.no hE (runs_not hE rfl rfl rfl (by rw [hg89]; decide)) rfl ?_; clear hE a; intro a hE
              refine WL.vS hS hE (runs_plain rfl) (Gives.pickT hE rfl hg89 rfl) rfl ?_; clear hE a; intro a hE
              refine WL.nil ?_
              subst hK88
              exact ⟨true, hq83, hE.pick _ ⟨rfl, rfl, rfl, rfl, rfl, rfl, trivial⟩, hS⟩
            · replace hq83 := iteF hg89 hq83
              refine WL.vS hS hE (runs_if hE rfl rfl rfl hg89) (Gives.fld hE rfl fl29_3) rfl ?_; clear hE a; intro a hE
              refine WL.vS hS hE (runs_if hE rfl rfl rfl hg89) (Gives.loadB hE 0 rfl rfl rfl ty23) rfl ?_; clear hE a; intro a hE
              refine WL.vS hS hE (runs_if hE rfl rfl rfl hg89) (Gives.len hE rfl sl23) rfl ?_; clear hE a; intro a hE
              refine WL.vS hS hE (runs_if hE rfl rfl rfl hg89) (Gives.fld hE rfl fl29_2) rfl ?_; clear hE a; intro a hE
              refine WL.vS hS hE (runs_if hE rfl rfl rfl hg89) (Gives.loadB hE 0 rfl rfl rfl ty27) rfl ?_; clear hE a; intro a hE
              refine WL.vS hS hE (runs_if hE rfl rfl rfl hg89) (Gives.len hE rfl sl27) rfl ?_; clear hE a; intro a hE
              refine WL.vS hS hE (runs_if hE rfl rfl rfl hg89) (Gives.p hE rfl) rfl ?_; clear hE a; intro a hE
              refine WL.vS hS hE (runs_if hE rfl rfl rfl hg89) (Gives.p hE rfl) rfl ?_; clear hE a; intro a hE
              refine WL.vS hS hE (runs_plain rfl) (Gives.pickF hE rfl hg89 rfl) rfl ?_; clear hE a; intro a hE
              refine WL.nil ?_
              subst hK88
              exact ⟨(((x63.Legs).length : Int) != (w64 (((x63.Stops).length : Int) - 1))), hq83, hE.pick _ ⟨rfl, rfl, rfl, rfl, rfl, rfl, trivial⟩, hS⟩
          · clear hE hS a w; rintro a w ⟨q87, rfl, hE, hS⟩
            refine W.cond hE rfl (fun hc90 => ?_) (fun hc90 => ?_)
            · replace hq60 := iteT hc90 hq60
              refine W.seq ?_
              refine W.region ?_
              refine WL.vS hS hE (runs_plain rfl) (Gives.p hE rfl) rfl ?_; clear hE a; intro a hE
              refine WL.nil ?_
              refine W.ret ?_
              subst hK71
              rw [← hq60] at hr
              dsimp only at hr
              refine finG (fn := Tryd.f25) (rs := [.tmp 2]) (vs := [_]) hE rfl ⟨rfl, trivial⟩ ?_
              subst hr
              replace hS := hS.tail
              replace hS := hS.tail
              exact ⟨rfl, hS⟩
            · replace hq60 := iteF hc90 hq60
              refine W.skip ?_
              refine W.seq ?_
              refine W.seq ?_
              refine W.region ?_
              refine WL.vS hS hE (runs_plain rfl) (Gives.fld hE rfl fl29_3) rfl ?_; clear hE a; intro a hE
              refine WL.vS hS hE (runs_plain rfl) (Gives.loadB hE 0 rfl rfl rfl ty23) rfl ?_; clear hE a; intro a hE
              refine WL.vS hS hE (runs_plain rfl) (Gives.len hE rfl sl23) rfl ?_; clear hE a; intro a hE
              refine WL.vS hS hE (runs_plain rfl) (Gives.p hE rfl) rfl ?_; clear hE a; intro a hE
              refine WL.nil ?_
              obtain ⟨q92, hq91, hq60⟩ := bndS hq60
              refine W.cut (fun a w => (.next ()) = q92 ∧ Rep a 85 [(1, .pointer (some ⟨b51, 0, none⟩)), (4, .pointer (some ⟨b82, 0, none⟩)), (22, .slice a0_0 x0.Trains.length c0_0), (23, .int .i64 ((x0.Trains).length : Int)), (24, .int .i64 ((k62 : Nat) : Int))] ∧ St w s (pt b82 (.cells #[.int .i64 x63.No, .int .i64 x63.Stock, .slice a76 x63.Stops.length c77, .slice a79 x63.Legs.length c80] 29 (0, 0)) :: pt b51 (.cells #[.slice a0_0 x0.Trains.length c0_0, .slice a0_1 x0.Turns.length c0_1] 25 (0, 0)) :: R)) ?_ ?_
              · refine W.block ?_
                refine W.loop (fun m a w => ∃ (rest95 : List (List Int)) (k93 : Nat), rest95.length = m ∧ x63.Legs.drop k93 = rest95 ∧ Planform.loop2 rest95 = q92 ∧ Rep a 85 [(1, .pointer (some ⟨b51, 0, none⟩)), (4, .pointer (some ⟨b82, 0, none⟩)), (22, .slice a0_0 x0.Trains.length c0_0), (23, .int .i64 ((x0.Trains).length : Int)), (24, .int .i64 ((k62 : Nat) : Int)), (43, .slice a79 x63.Legs.length c80), (44, .int .i64 ((x63.Legs).length : Int)), (45, .int .i64 ((k93 : Nat) : Int))] ∧ St w s (pt b82 (.cells #[.int .i64 x63.No, .int .i64 x63.Stock, .slice a76 x63.Stops.length c77, .slice a79 x63.Legs.length c80] 29 (0, 0)) :: pt b51 (.cells #[.slice a0_0 x0.Trains.length c0_0, .slice a0_1 x0.Turns.length c0_1] 25 (0, 0)) :: R)) (m := x63.Legs.length) ⟨x63.Legs, 0, rfl, rfl, hq91, hE.pick _ ⟨rfl, rfl, rfl, rfl, rfl, rfl, rfl, rfl, trivial⟩, hS⟩ ?_
                clear hE hS a w hq91; rintro m99 a w ⟨rest95, k93, rfl, hd96, hq91, hE, hS⟩
                refine W.gen fun K102 hK102 => ?_
                rcases rest95 with _ | ⟨x94, rest95⟩
                · have hlt97 := drop_nil hd96
                  refine W.seq ?_
                  refine W.region ?_
                  refine WL.vS hS hE (runs_plain rfl) (Gives.p hE rfl) rfl ?_; clear hE a; intro a hE
                  refine WL.nil ?_
                  refine W.seq ?_
                  refine W.condF hE rfl (decide_eq_false (by omega)) ?_
                  subst hK102
                  refine W.exit rfl ?_
                  exact ⟨hq91, hE.pick _ ⟨rfl, rfl, rfl, rfl, rfl, trivial⟩, hS⟩
                · obtain ⟨hlt97, hx98, hd96⟩ := drop_cons hd96
                  rw [Planform.loop2] at hq91
                  refine W.seq ?_
                  refine W.region ?_
                  refine WL.vS hS hE (runs_plain rfl) (Gives.p hE rfl) rfl ?_; clear hE a; intro a hE
                  refine WL.nil ?_
                  refine W.seq ?_
                  refine W.condT hE rfl (decide_eq_true (by omega)) ?_
                  refine W.skip ?_
                  refine W.seq ?_
                  refine W.block ?_
                  refine W.seq ?_
                  refine W.region ?_
                  obtain ⟨cs103, hl104, hR105, hat106⟩ := h81.at hx98
                  obtain ⟨a107, c108, rfl, h109⟩ := hR105
                  refine WL.vS hS hE (runs_plain rfl) (Gives.idx hE k93 rfl rfl sl23 rfl hlt97 (h81.aok hlt97)) rfl ?_; clear hE a; intro a hE
                  refine WL.vS hS hE (runs_plain rfl) (Gives.load1 hE rfl (fun w h => hat106 w _ h) ty33) rfl ?_; clear hE a; intro a hE
                  refine WL.vS hS hE (runs_plain rfl) (Gives.p hE rfl) rfl ?_; clear hE a; intro a hE
                  refine WL.nil ?_
                  refine W.seq ?_
                  refine W.region ?_
                  refine WL.vS hS hE (runs_plain rfl) (Gives.p hE rfl) rfl ?_; clear hE a; intro a hE
                  refine WL.vS hS hE (runs_plain rfl) (Gives.len hE rfl sl33) rfl ?_; clear hE a; intro a hE
                  refine WL.vS hS hE (runs_plain rfl) (Gives.p hE rfl) rfl ?_; clear hE a; intro a hE
                  refine WL.nil ?_
                  refine W.cond hE rfl (fun hc110 => ?_) (fun hc110 => ?_)
                  · replace hq91 := iteT hc110 hq91
                    refine W.seq ?_
                    refine W.region ?_
                    refine WL.vS hS hE (runs_plain rfl) (Gives.p hE rfl) rfl ?_; clear hE a; intro a hE
                    refine WL.nil ?_
                    refine W.ret ?_
                    subst hK102
                    subst hK71
                    rw [← hq91] at hq60
                    dsimp only at hq60
                    rw [← hq60] at hr
                    dsimp only at hr
                    refine finG (fn := Tryd.f25) (rs := [.tmp 2]) (vs := [_]) hE rfl ⟨rfl, trivial⟩ ?_
                    subst hr
                    replace hS := hS.tail
                    replace hS := hS.tail
                    exact ⟨rfl, hS⟩
                  · replace hq91 := iteF hc110 hq91
                    refine W.skip ?_
                    refine W.region ?_
                    refine WL.vS hS hE (runs_plain rfl) (Gives.inc hE rfl (by have := h81.small; omega)) rfl ?_; clear hE a; intro a hE
                    refine WL.vS hS hE (runs_plain rfl) (Gives.p hE rfl) rfl ?_; clear hE a; intro a hE
                    refine WL.nil ?_
                    subst hK102
                    exact ⟨rest95.length, Nat.lt_succ_self _, rest95, k93 + 1, rfl, hd96, hq91, hE.pick _ ⟨rfl, rfl, rfl, rfl, rfl, rfl, rfl, rfl, trivial⟩, hS⟩
              · clear hE hS a w; rintro a w ⟨rfl, hE, hS⟩
                dsimp only at hq60
                refine W.seq ?_
                refine W.seq ?_
                refine W.region ?_
                refine WL.vS hS hE (runs_plain rfl) (Gives.fld hE rfl fl29_2) rfl ?_; clear hE a; intro a hE
                refine WL.vS hS hE (runs_plain rfl) (Gives.loadB hE 0 rfl rfl rfl ty27) rfl ?_; clear hE a; intro a hE
                refine WL.vS hS hE (runs_plain rfl) (Gives.len hE rfl sl27) rfl ?_; clear hE a; intro a hE
                refine WL.vS hS hE (runs_plain rfl) (Gives.p hE rfl) rfl ?_; clear hE a; intro a hE
                refine WL.nil ?_
                refine W.cond hE rfl (fun hc111 => ?_) (fun hc111 => ?_)
                · replace hq60 := iteT hc111 hq60
                  refine W.seq ?_
                  refine W.region ?_
                  refine WL.vS hS hE (runs_plain rfl) (Gives.p hE rfl) rfl ?_; clear hE a; intro a hE
                  refine WL.nil ?_
                  refine W.ret ?_
                  subst hK71
                  rw [← hq60] at hr
                  dsimp only at hr
                  refine finG (fn := Tryd.f25) (rs := [.tmp 2]) (vs := [_]) hE rfl ⟨rfl, trivial⟩ ?_
                  subst hr
                  replace hS := hS.tail
                  replace hS := hS.tail
                  exact ⟨rfl, hS⟩
                · replace hq60 := iteF hc111 hq60
                  refine W.skip ?_
                  refine W.seq ?_
                  refine W.region ?_
                  refine WL.vS hS hE (runs_plain rfl) (Gives.fld hE rfl fl29_3) rfl ?_; clear hE a; intro a hE
                  refine WL.vS hS hE (runs_plain rfl) (Gives.loadB hE 0 rfl rfl rfl ty23) rfl ?_; clear hE a; intro a hE
                  refine WL.vS hS hE (runs_plain rfl) (Gives.len hE rfl sl23) rfl ?_; clear hE a; intro a hE
                  refine WL.vS hS hE (runs_plain rfl) (Gives.p hE rfl) rfl ?_; clear hE a; intro a hE
                  refine WL.nil ?_
                  obtain ⟨q113, hq112, hq60⟩ := bndS hq60
                  refine W.cut (fun a w => (.next ()) = q113 ∧ Rep a 85 [(1, .pointer (some ⟨b51, 0, none⟩)), (22, .slice a0_0 x0.Trains.length c0_0), (23, .int .i64 ((x0.Trains).length : Int)), (24, .int .i64 ((k62 : Nat) : Int))] ∧ St w s (pt b82 (.cells #[.int .i64 x63.No, .int .i64 x63.Stock, .slice a76 x63.Stops.length c77, .slice a79 x63.Legs.length c80] 29 (0, 0)) :: pt b51 (.cells #[.slice a0_0 x0.Trains.length c0_0, .slice a0_1 x0.Turns.length c0_1] 25 (0, 0)) :: R)) ?_ ?_
                  · refine W.block ?_
                    refine W.loop (fun m a w => ∃ (rest116 : List (List Int)) (k114 : Nat), rest116.length = m ∧ x63.Legs.drop k114 = rest116 ∧ Planform.loop3 rest116 = q113 ∧ Rep a 85 [(1, .pointer (some ⟨b51, 0, none⟩)), (22, .slice a0_0 x0.Trains.length c0_0), (23, .int .i64 ((x0.Trains).length : Int)), (24, .int .i64 ((k62 : Nat) : Int)), (58, .slice a79 x63.Legs.length c80), (59, .int .i64 ((x63.Legs).length : Int)), (60, .int .i64 ((k114 : Nat) : Int))] ∧ St w s (pt b82 (.cells #[.int .i64 x63.No, .int .i64 x63.Stock, .slice a76 x63.Stops.length c77, .slice a79 x63.Legs.length c80] 29 (0, 0)) :: pt b51 (.cells #[.slice a0_0 x0.Trains.length c0_0, .slice a0_1 x0.Turns.length c0_1] 25 (0, 0)) :: R)) (m := x63.Legs.length) ⟨x63.Legs, 0, rfl, rfl, hq112, hE.pick _ ⟨rfl, rfl, rfl, rfl, rfl, rfl, rfl, trivial⟩, hS⟩ ?_
                    clear hE hS a w hq112; rintro m120 a w ⟨rest116, k114, rfl, hd117, hq112, hE, hS⟩
                    refine W.gen fun K123 hK123 => ?_
                    rcases rest116 with _ | ⟨x115, rest116⟩
                    · have hlt118 := drop_nil hd117
                      refine W.seq ?_
                      refine W.region ?_
                      refine WL.vS hS hE (runs_plain rfl) (Gives.p hE rfl) rfl ?_; clear hE a; intro a hE
                      refine WL.nil ?_
                      refine W.seq ?_
                      refine W.condF hE rfl (decide_eq_false (by omega)) ?_
                      subst hK123
                      refine W.exit rfl ?_
                      exact ⟨hq112, hE.pick _ ⟨rfl, rfl, rfl, rfl, trivial⟩, hS⟩
                    · obtain ⟨hlt118, hx119, hd117⟩ := drop_cons hd117
                      rw [Planform.loop3] at hq112
                      refine W.seq ?_
                      refine W.region ?_
                      refine WL.vS hS hE (runs_plain rfl) (Gives.p hE rfl) rfl ?_; clear hE a; intro a hE
                      refine WL.nil ?_
                      refine W.seq ?_
                      refine W.condT hE rfl (decide_eq_true (by omega)) ?_
                      refine W.skip ?_
                      refine W.seq ?_
                      refine W.block ?_
                      refine W.seq ?_
                      refine W.region ?_
                      obtain ⟨cs124, hl125, hR126, hat127⟩ := h81.at hx119
                      obtain ⟨a128, c129, rfl, h130⟩ := hR126
                      refine WL.vS hS hE (runs_plain rfl) (Gives.idx hE k114 rfl rfl sl23 rfl hlt118 (h81.aok hlt118)) rfl ?_; clear hE a; intro a hE
                      refine WL.vS hS hE (runs_plain rfl) (Gives.load1 hE rfl (fun w h => hat127 w _ h) ty33) rfl ?_; clear hE a; intro a hE
                      refine WL.vS hS hE (runs_plain rfl) (Gives.p hE rfl) rfl ?_; clear hE a; intro a hE
                      refine WL.nil ?_
                      refine W.seq ?_
                      refine W.region ?_
                      refine WL.vS hS hE (runs_plain rfl) (Gives.p hE rfl) rfl ?_; clear hE a; intro a hE
                      refine WL.vS hS hE (runs_plain rfl) (Gives.len hE rfl sl33) rfl ?_; clear hE a; intro a hE
                      refine WL.vS hS hE (runs_plain rfl) (Gives.p hE rfl) rfl ?_; clear hE a; intro a hE
                      refine WL.nil ?_
                      refine W.cond hE rfl (fun hc131 => ?_) (fun hc131 => ?_)
                      · replace hq112 := iteT hc131 hq112
                        refine W.seq ?_
                        refine W.region ?_
                        refine WL.vS hS hE (runs_plain rfl) (Gives.p hE rfl) rfl ?_; clear hE a; intro a hE
                        refine WL.nil ?_
                        refine W.ret ?_
                        subst hK123
                        subst hK71
                        rw [← hq112] at hq60
                        dsimp only at hq60
                        rw [← hq60] at hr
                        dsimp only at hr
                        refine finG (fn := Tryd.f25) (rs := [.tmp 2]) (vs := [_]) hE rfl ⟨rfl, trivial⟩ ?_
                        subst hr
                        replace hS := hS.tail
                        replace hS := hS.tail
                        exact ⟨rfl, hS⟩
                      · replace hq112 := iteF hc131 hq112
                        refine W.skip ?_
                        refine W.region ?_
                        refine WL.vS hS hE (runs_plain rfl) (Gives.inc hE rfl (by have := h81.small; omega)) rfl ?_; clear hE a; intro a hE
                        refine WL.vS hS hE (runs_plain rfl) (Gives.p hE rfl) rfl ?_; clear hE a; intro a hE
                        refine WL.nil ?_
                        subst hK123
                        exact ⟨rest116.length, Nat.lt_succ_self _, rest116, k114 + 1, rfl, hd117, hq112, hE.pick _ ⟨rfl, rfl, rfl, rfl, rfl, rfl, rfl, trivial⟩, hS⟩
                  · clear hE hS a w; rintro a w ⟨rfl, hE, hS⟩
                    dsimp only at hq60
                    refine W.region ?_
                    refine WL.vS hS hE (runs_plain rfl) (Gives.inc hE rfl (by have := h0_0.small; omega)) rfl ?_; clear hE a; intro a hE
                    refine WL.vS hS hE (runs_plain rfl) (Gives.p hE rfl) rfl ?_; clear hE a; intro a hE
                    refine WL.nil ?_
                    replace hS := hS.tail
                    subst hK71
                    exact ⟨rest64.length, Nat.lt_succ_self _, rest64, k62 + 1, rfl, hd65, hq60, hE.pick _ ⟨rfl, rfl, rfl, rfl, trivial⟩, hS⟩
      · clear hE hS a w; rintro a w ⟨rfl, hE, hS⟩
        dsimp only at hr
        refine W.seq ?_
        refine W.seq ?_
        refine W.region ?_
        refine WL.vS hS hE (runs_plain rfl) (Gives.fld hE rfl fl25_1) rfl ?_; clear hE a; intro a hE
        refine WL.vS hS hE (runs_plain rfl) (Gives.loadB hE 0 rfl rfl rfl ty23) rfl ?_; clear hE a; intro a hE
        refine WL.vS hS hE (runs_plain rfl) (Gives.len hE rfl sl23) rfl ?_; clear hE a; intro a hE
        refine WL.vS hS hE (runs_plain rfl) (Gives.p hE rfl) rfl ?_; clear hE a; intro a hE
        refine WL.nil ?_
        obtain ⟨q133, hq132, hr⟩ := bndS hr
        refine W.cut (fun a w => (.next ()) = q133 ∧ Rep a 85 [] ∧ St w s (pt b51 (.cells #[.slice a0_0 x0.Trains.length c0_0, .slice a0_1 x0.Turns.length c0_1] 25 (0, 0)) :: R)) ?_ ?_
        · refine W.block ?_
          refine W.loop (fun m a w => ∃ (rest136 : List (List Int)) (k134 : Nat), rest136.length = m ∧ x0.Turns.drop k134 = rest136 ∧ Planform.loop4 rest136 = q133 ∧ Rep a 85 [(70, .slice a0_1 x0.Turns.length c0_1), (71, .int .i64 ((x0.Turns).length : Int)), (72, .int .i64 ((k134 : Nat) : Int))] ∧ St w s (pt b51 (.cells #[.slice a0_0 x0.Trains.length c0_0, .slice a0_1 x0.Turns.length c0_1] 25 (0, 0)) :: R)) (m := x0.Turns.length) ⟨x0.Turns, 0, rfl, rfl, hq132, hE.pick _ ⟨rfl, rfl, rfl, trivial⟩, hS⟩ ?_
          clear hE hS a w hq132; rintro m140 a w ⟨rest136, k134, rfl, hd137, hq132, hE, hS⟩
          refine W.gen fun K143 hK143 => ?_
          rcases rest136 with _ | ⟨x135, rest136⟩
          · have hlt138 := drop_nil hd137
            refine W.seq ?_
            refine W.region ?_
            refine WL.vS hS hE (runs_plain rfl) (Gives.p hE rfl) rfl ?_; clear hE a; intro a hE
            refine WL.nil ?_
            refine W.seq ?_
            refine W.condF hE rfl (decide_eq_false (by omega)) ?_
            subst hK143
            refine W.exit rfl ?_
            exact ⟨hq132, hE.pick _ trivial, hS⟩
          · obtain ⟨hlt138, hx139, hd137⟩ := drop_cons hd137
            rw [Planform.loop4] at hq132
            refine W.seq ?_
            refine W.region ?_
            refine WL.vS hS hE (runs_plain rfl) (Gives.p hE rfl) rfl ?_; clear hE a; intro a hE
            refine WL.nil ?_
            refine W.seq ?_
            refine W.condT hE rfl (decide_eq_true (by omega)) ?_
            refine W.skip ?_
            refine W.seq ?_
            refine W.block ?_
            refine W.seq ?_
            refine W.region ?_
            obtain ⟨cs144, hl145, hR146, hat147⟩ := h0_1.at hx139
            obtain ⟨a148, c149, rfl, h150⟩ := hR146
            refine WL.vS hS hE (runs_plain rfl) (Gives.idx hE k134 rfl rfl sl23 rfl hlt138 (h0_1.aok hlt138)) rfl ?_; clear hE a; intro a hE
            refine WL.vS hS hE (runs_plain rfl) (Gives.load1 hE rfl (fun w h => hat147 w _ h) ty33) rfl ?_; clear hE a; intro a hE
            refine WL.vS hS hE (runs_plain rfl) (Gives.p hE rfl) rfl ?_; clear hE a; intro a hE
            refine WL.nil ?_
            refine W.block ?_
            refine W.seq ?_
            refine W.region ?_
            refine WL.vS hS hE (runs_plain rfl) (Gives.p hE rfl) rfl ?_; clear hE a; intro a hE
            refine WL.vS hS hE (runs_plain rfl) (Gives.len hE rfl sl33) rfl ?_; clear hE a; intro a hE
            refine WL.vS hS hE (runs_plain rfl) (Gives.p hE rfl) rfl ?_; clear hE a; intro a hE
            refine WL.vS hS hE (runs_plain rfl) (Gives.p hE rfl) rfl ?_; clear hE a; intro a hE
            refine WL.nil ?_
            refine W.cond hE rfl (fun hc151 => ?_) (fun hc151 => ?_)
            · replace hq132 := iteT hc151 hq132
              refine W.seq ?_
              refine W.region ?_
              refine WL.vS hS hE (runs_plain rfl) (Gives.p hE rfl) rfl ?_; clear hE a; intro a hE
              refine WL.nil ?_
              refine W.ret ?_
              subst hK143
              rw [← hq132] at hr
              dsimp only at hr
              refine finG (fn := Tryd.f25) (rs := [.tmp 2]) (vs := [_]) hE rfl ⟨rfl, trivial⟩ ?_
              subst hr
              replace hS := hS.tail
              exact ⟨rfl, hS⟩
            · replace hq132 := iteF hc151 hq132
              refine W.seq ?_
              refine W.region ?_
              refine WL.vS hS hE (runs_plain rfl) (Gives.p hE rfl) rfl ?_; clear hE a; intro a hE
              refine WL.vS hS hE (runs_plain rfl) (Gives.len hE rfl sl33) rfl ?_; clear hE a; intro a hE
              refine WL.vS hS hE (runs_plain rfl) (Gives.p hE rfl) rfl ?_; clear hE a; intro a hE
              refine WL.vS hS hE (runs_plain rfl) (Gives.p hE rfl) rfl ?_; clear hE a; intro a hE
              refine WL.nil ?_
              refine W.cond hE rfl (fun hc152 => ?_) (fun hc152 => ?_)
              · replace hq132 := iteT hc152 hq132
                refine W.seq ?_
                refine W.region ?_
                refine WL.vS hS hE (runs_plain rfl) (Gives.p hE rfl) rfl ?_; clear hE a; intro a hE
                refine WL.nil ?_
                refine W.ret ?_
                subst hK143
                rw [← hq132] at hr
                dsimp only at hr
                refine finG (fn := Tryd.f25) (rs := [.tmp 2]) (vs := [_]) hE rfl ⟨rfl, trivial⟩ ?_
                subst hr
                replace hS := hS.tail
                exact ⟨rfl, hS⟩
              · replace hq132 := iteF hc152 hq132
                refine W.skip ?_
                refine W.region ?_
                refine WL.vS hS hE (runs_plain rfl) (Gives.inc hE rfl (by have := h0_1.small; omega)) rfl ?_; clear hE a; intro a hE
                refine WL.vS hS hE (runs_plain rfl) (Gives.p hE rfl) rfl ?_; clear hE a; intro a hE
                refine WL.nil ?_
                subst hK143
                exact ⟨rest136.length, Nat.lt_succ_self _, rest136, k134 + 1, rfl, hd137, hq132, hE.pick _ ⟨rfl, rfl, rfl, trivial⟩, hS⟩
        · clear hE hS a w; rintro a w ⟨rfl, hE, hS⟩
          dsimp only at hr
          refine W.seq ?_
          refine W.region ?_
          refine WL.vS hS hE (runs_plain rfl) (Gives.p hE rfl) rfl ?_; clear hE a; intro a hE
          refine WL.nil ?_
          refine W.ret ?_
          refine finG (fn := Tryd.f25) (rs := [.tmp 2]) (vs := [_]) hE rfl ⟨rfl, trivial⟩ ?_
          subst hr
          replace hS := hS.tail
          exact ⟨rfl, hS⟩
set_option maxHeartbeats 8000000 in
theorem Planwithin_ok  {w : World} {s : Sg} {R : List HP} {x0 : Int} {x1 : Int} {x2 : Int} (hS : St w s (R))  {r : Bool} (hr : Planwithin x0 x1 x2 = r) :
    Calls Tryd.prog 14 [.int .i64 x0, .int .i64 x1, .int .i64 x2].toArray w (fun e w => e = .returned (.bool r) ∧ St w s (R)) := by
  refine enter Tryd.func14 rfl rfl rfl fun a hE => ?_
  rw [Planwithin] at hr
  refine W.seq ?_
  refine W.region ?_
  refine WL.vS hS hE (runs_plain rfl) (Gives.p hE rfl) rfl ?_; clear hE a; intro a hE
  refine WL.nil ?_
  refine W.seq ?_
  obtain ⟨q52, hq51, hr⟩ := bndS hr
  refine W.cut (fun a w => ∃ (q55 : Bool), q55 = q52 ∧ Rep a 15 [(6, .bool q55)] ∧ St w s (R)) ?_ ?_
  · refine W.gen fun K56 hK56 => ?_
    refine W.region ?_
    refine WL.vS hS hE (runs_plain rfl) (Gives.p hE rfl) rfl ?_; clear hE a; intro a hE
    refine WL.vS hS hE (runs_plain rfl) (Gives.p hE rfl) rfl ?_; clear hE a; intro a hE
    refine WL.vS hS hE (runs_plain rfl) (Gives.p hE rfl) rfl ?_; clear hE a; intro a hE
    refine WL.vS hS hE (runs_plain rfl) (Gives.p hE rfl) rfl ?_; clear hE a; intro a hE
    rcases Bool.eq_false_or_eq_true (decide (x0 ≥ x1)) with hg57 | hg57
    · replace hq51 := iteT hg57 hq51
      refine WL.vS hS hE (runs_if hE rfl rfl rfl hg57) (Gives.p hE rfl) rfl ?_; clear hE a; intro a hE
      refine WL.vS hS hE (runs_if hE rfl rfl rfl hg57) (Gives.p hE rfl) rfl ?_; clear hE a; intro a hE
      refine WL.vS hS hE (runs_if hE rfl rfl rfl hg57) (Gives.p hE rfl) rfl ?_; clear hE a; intro a hE
      refine WL.vS hS hE (runs_plain rfl) (Gives.pickT hE rfl hg57 rfl) rfl ?_; clear hE a; intro a hE
      refine WL.vS hS hE (runs_plain rfl) (Gives.p hE rfl) rfl ?_; clear hE a; intro a hE
      refine WL.nil ?_
      subst hK56
      exact ⟨decide (x0 ≤ x2), hq51, hE.pick _ ⟨rfl, trivial⟩, hS⟩
    · replace hq51 := iteF hg57 hq51
      refine WL.no hE (runs_not hE rfl rfl rfl (by rw [hg57]; decide)) rfl ?_; clear hE a; intro a hE
      refine WL.no hE (runs_not hE rfl rfl rfl (by rw [hg57]; decide)) rfl ?_; clear hE a; intro a hE
      refine WL.no hE (runs_not hE rfl rfl rfl (by rw [hg57]; decide)) rfl ?_; clear hE a; intro a hE
      refine WL.vS hS hE (runs_plain rfl) (Gives.pickF hE rfl hg57 rfl) rfl ?_; clear hE a; intro a hE
      refine WL.vS hS hE (runs_plain rfl) (Gives.p hE rfl) rfl ?_; clear hE a; intro a hE
      refine WL.nil ?_
      subst hK56
      exact ⟨false, hq51, hE.pick _ ⟨rfl, trivial⟩, hS⟩
  · clear hE hS a w; rintro a w ⟨q55, rfl, hE, hS⟩
    refine W.ret ?_
    refine finG (fn := Tryd.f14) (rs := [.tmp 6]) (vs := [_]) hE rfl ⟨rfl, trivial⟩ ?_
    subst hr
    exact ⟨rfl, hS⟩
set_option maxHeartbeats 8000000 in
theorem InternalStrconvsmall_ok  {w : World} {s : Sg} {R : List HP} {x0 : Int} (hS : St w s (R))  {r : ByteArray} (hr : InternalStrconvsmall x0 = some r) :
    Calls Tryd.prog 39 [.int .i64 x0].toArray w (fun e w => e = .returned (.string r) ∧ St w s (R)) := by
  refine enter Tryd.func39 rfl rfl rfl fun a hE => ?_
  rw [InternalStrconvsmall] at hr
  refine W.seq ?_
  refine W.region ?_
  refine WL.vS hS hE (runs_plain rfl) (Gives.p hE rfl) rfl ?_; clear hE a; intro a hE
  refine WL.nil ?_
  refine W.seq ?_
  refine W.seq ?_
  refine W.region ?_
  refine WL.vS hS hE (runs_plain rfl) (Gives.p hE rfl) rfl ?_; clear hE a; intro a hE
  refine WL.vS hS hE (runs_plain rfl) (Gives.p hE rfl) rfl ?_; clear hE a; intro a hE
  refine WL.nil ?_
  refine W.cond hE rfl (fun hc51 => ?_) (fun hc51 => ?_)
  · replace hr := iteT hc51 hr
    refine W.seq ?_
    refine W.region ?_
    refine WL.vS hS hE (runs_plain rfl) (Gives.p hE rfl) rfl ?_; clear hE a; intro a hE
    refine WL.vS hS hE (runs_plain rfl) (Gives.p hE rfl) rfl ?_; clear hE a; intro a hE
    refine WL.vS hS hE (runs_plain rfl) (Gives.p hE rfl) rfl ?_; clear hE a; intro a hE
    obtain ⟨x52, hx53, hr⟩ := bindS hr
    refine WL.vS hS hE (runs_plain rfl) (Gives.cutS hE st9 rfl rfl rfl hx53) rfl ?_; clear hE a; intro a hE
    refine WL.vS hS hE (runs_plain rfl) (Gives.p hE rfl) rfl ?_; clear hE a; intro a hE
    refine WL.nil ?_
    refine W.ret ?_
    refine finG (fn := Tryd.f39) (rs := [.tmp 2]) (vs := [_]) hE rfl ⟨rfl, trivial⟩ ?_
    obtain rfl := Option.some.inj hr
    exact ⟨rfl, hS⟩
  · replace hr := iteF hc51 hr
    refine W.skip ?_
    refine W.seq ?_
    refine W.region ?_
    refine WL.vS hS hE (runs_plain rfl) (Gives.p hE rfl) rfl ?_; clear hE a; intro a hE
    refine WL.vS hS hE (runs_plain rfl) (Gives.p hE rfl) rfl ?_; clear hE a; intro a hE
    refine WL.vS hS hE (runs_plain rfl) (Gives.p hE rfl) rfl ?_; clear hE a; intro a hE
    refine WL.vS hS hE (runs_plain rfl) (Gives.p hE rfl) rfl ?_; clear hE a; intro a hE
    refine WL.vS hS hE (runs_plain rfl) (Gives.p hE rfl) rfl ?_; clear hE a; intro a hE
    obtain ⟨x54, hx55, hr⟩ := bindS hr
    refine WL.vS hS hE (runs_plain rfl) (Gives.cutS hE st9 rfl rfl rfl hx55) rfl ?_; clear hE a; intro a hE
    refine WL.vS hS hE (runs_plain rfl) (Gives.p hE rfl) rfl ?_; clear hE a; intro a hE
    refine WL.nil ?_
    refine W.ret ?_
    refine finG (fn := Tryd.f39) (rs := [.tmp 2]) (vs := [_]) hE rfl ⟨rfl, trivial⟩ ?_
    obtain rfl := Option.some.inj hr
    exact ⟨rfl, hS⟩
set_option maxHeartbeats 8000000 in
theorem MathBitsLen64_ok  {w : World} {s : Sg} {R : List HP} {x0 : Int} (hS : St w s (R))  {r : Int} (hr : MathBitsLen64 x0 = some r) :
    Calls Tryd.prog 44 [.int .u64 x0].toArray w (fun e w => e = .returned (.int .i64 r) ∧ St w s (R)) := by
  refine enter Tryd.func44 rfl rfl rfl fun a hE => ?_
  rw [MathBitsLen64] at hr
  refine W.seq ?_
  refine W.region ?_
  refine WL.vS hS hE (runs_plain rfl) (Gives.p hE rfl) rfl ?_; clear hE a; intro a hE
  refine WL.nil ?_
  refine W.seq ?_
  refine W.seq ?_
  refine W.region ?_
  refine WL.vS hS hE (runs_plain rfl) (Gives.p hE rfl) rfl ?_; clear hE a; intro a hE
  refine WL.vS hS hE (runs_plain rfl) (Gives.p hE rfl) rfl ?_; clear hE a; intro a hE
  refine WL.nil ?_
  obtain ⟨q52, hq51, hr⟩ := bndS hr
  refine W.cut (fun a w => ∃ (q55 : Int), ∃ (q56 : Int), (q55, q56) = q52 ∧ Rep a 25 [(0, .int .u64 q55), (2, .int .i64 q56)] ∧ St w s (R)) ?_ ?_
  · refine W.gen fun K57 hK57 => ?_
    refine W.cond hE rfl (fun hc58 => ?_) (fun hc58 => ?_)
    · replace hq51 := iteT hc58 hq51
      refine W.seq ?_
      refine W.region ?_
      refine WL.vS hS hE (runs_plain rfl) (Gives.p hE rfl) rfl ?_; clear hE a; intro a hE
      refine WL.vS hS hE (runs_plain rfl) (Gives.shr hE rfl rfl (by decide)) rfl ?_; clear hE a; intro a hE
      refine WL.vS hS hE (runs_plain rfl) (Gives.p hE rfl) rfl ?_; clear hE a; intro a hE
      refine WL.nil ?_
      refine W.region ?_
      refine WL.vS hS hE (runs_plain rfl) (Gives.p hE rfl) rfl ?_; clear hE a; intro a hE
      refine WL.nil ?_
      subst hK57
      exact ⟨Int.fdiv x0 (2 ^ (min (Int.toNat 32) (IntKind.bits .u64))), 32, hq51, hE.pick _ ⟨rfl, rfl, trivial⟩, hS⟩
    · replace hq51 := iteF hc58 hq51
      refine W.skip ?_
      subst hK57
      exact ⟨x0, 0, hq51, hE.pick _ ⟨rfl, rfl, trivial⟩, hS⟩
  · clear hE hS a w; rintro a w ⟨q55, q56, rfl, hE, hS⟩
    dsimp only at hr
    refine W.seq ?_
    refine W.seq ?_
    refine W.region ?_
    refine WL.vS hS hE (runs_plain rfl) (Gives.p hE rfl) rfl ?_; clear hE a; intro a hE
    refine WL.vS hS hE (runs_plain rfl) (Gives.p hE rfl) rfl ?_; clear hE a; intro a hE
    refine WL.nil ?_
    obtain ⟨q60, hq59, hr⟩ := bndS hr
    refine W.cut (fun a w => ∃ (q63 : Int), ∃ (q64 : Int), (q63, q64) = q60 ∧ Rep a 25 [(0, .int .u64 q63), (2, .int .i64 q64)] ∧ St w s (R)) ?_ ?_
    · refine W.gen fun K65 hK65 => ?_
      refine W.cond hE rfl (fun hc66 => ?_) (fun hc66 => ?_)
      · replace hq59 := iteT hc66 hq59
        refine W.seq ?_
        refine W.region ?_
        refine WL.vS hS hE (runs_plain rfl) (Gives.p hE rfl) rfl ?_; clear hE a; intro a hE
        refine WL.vS hS hE (runs_plain rfl) (Gives.shr hE rfl rfl (by decide)) rfl ?_; clear hE a; intro a hE
        refine WL.vS hS hE (runs_plain rfl) (Gives.p hE rfl) rfl ?_; clear hE a; intro a hE
        refine WL.nil ?_
        refine W.region ?_
        refine WL.vS hS hE (runs_plain rfl) (Gives.p hE rfl) rfl ?_; clear hE a; intro a hE
        refine WL.vS hS hE (runs_plain rfl) (Gives.p hE rfl) rfl ?_; clear hE a; intro a hE
        refine WL.vS hS hE (runs_plain rfl) (Gives.p hE rfl) rfl ?_; clear hE a; intro a hE
        refine WL.nil ?_
        subst hK65
        exact ⟨Int.fdiv q55 (2 ^ (min (Int.toNat 16) (IntKind.bits .u64))), w64 (q56 + 16), hq59, hE.pick _ ⟨rfl, rfl, trivial⟩, hS⟩
      · replace hq59 := iteF hc66 hq59
        refine W.skip ?_
        subst hK65
        exact ⟨q55, q56, hq59, hE.pick _ ⟨rfl, rfl, trivial⟩, hS⟩
    · clear hE hS a w; rintro a w ⟨q63, q64, rfl, hE, hS⟩
      dsimp only at hr
      refine W.seq ?_
      refine W.seq ?_
      refine W.region ?_
      refine WL.vS hS hE (runs_plain rfl) (Gives.p hE rfl) rfl ?_; clear hE a; intro a hE
      refine WL.vS hS hE (runs_plain rfl) (Gives.p hE rfl) rfl ?_; clear hE a; intro a hE
      refine WL.nil ?_
      obtain ⟨q68, hq67, hr⟩ := bndS hr
      refine W.cut (fun a w => ∃ (q71 : Int), ∃ (q72 : Int), (q71, q72) = q68 ∧ Rep a 25 [(0, .int .u64 q71), (2, .int .i64 q72)] ∧ St w s (R)) ?_ ?_
      · refine W.gen fun K73 hK73 => ?_
        refine W.cond hE rfl (fun hc74 => ?_) (fun hc74 => ?_)
        · replace hq67 := iteT hc74 hq67
          refine W.seq ?_
          refine W.region ?_
          refine WL.vS hS hE (runs_plain rfl) (Gives.p hE rfl) rfl ?_; clear hE a; intro a hE
          refine WL.vS hS hE (runs_plain rfl) (Gives.shr hE rfl rfl (by decide)) rfl ?_; clear hE a; intro a hE
          refine WL.vS hS hE (runs_plain rfl) (Gives.p hE rfl) rfl ?_; clear hE a; intro a hE
          refine WL.nil ?_
          refine W.region ?_
          refine WL.vS hS hE (runs_plain rfl) (Gives.p hE rfl) rfl ?_; clear hE a; intro a hE
          refine WL.vS hS hE (runs_plain rfl) (Gives.p hE rfl) rfl ?_; clear hE a; intro a hE
          refine WL.vS hS hE (runs_plain rfl) (Gives.p hE rfl) rfl ?_; clear hE a; intro a hE
          refine WL.nil ?_
          subst hK73
          exact ⟨Int.fdiv q63 (2 ^ (min (Int.toNat 8) (IntKind.bits .u64))), w64 (q64 + 8), hq67, hE.pick _ ⟨rfl, rfl, trivial⟩, hS⟩
        · replace hq67 := iteF hc74 hq67
          refine W.skip ?_
          subst hK73
          exact ⟨q63, q64, hq67, hE.pick _ ⟨rfl, rfl, trivial⟩, hS⟩
      · clear hE hS a w; rintro a w ⟨q71, q72, rfl, hE, hS⟩
        dsimp only at hr
        refine W.seq ?_
        refine W.region ?_
        refine WL.vS hS hE (runs_plain rfl) (Gives.p hE rfl) rfl ?_; clear hE a; intro a hE
        refine WL.vS hS hE (runs_plain rfl) (Gives.p hE rfl) rfl ?_; clear hE a; intro a hE
        refine WL.vS hS hE (runs_plain rfl) (Gives.conv hE rfl hu81 ui5) rfl ?_; clear hE a; intro a hE
        obtain ⟨x75, hx76, hr⟩ := bindS hr
        refine WL.vS hS hE (runs_plain rfl) (Gives.idxS hE st9 rfl rfl hx76) rfl ?_; clear hE a; intro a hE
        refine WL.vS hS hE (runs_plain rfl) (Gives.conv hE rfl hu5 ui3) rfl ?_; clear hE a; intro a hE
        refine WL.vS hS hE (runs_plain rfl) (Gives.p hE rfl) rfl ?_; clear hE a; intro a hE
        refine WL.vS hS hE (runs_plain rfl) (Gives.p hE rfl) rfl ?_; clear hE a; intro a hE
        refine WL.nil ?_
        refine W.ret ?_
        refine finG (fn := Tryd.f44) (rs := [.tmp 2]) (vs := [_]) hE rfl ⟨rfl, trivial⟩ ?_
        obtain rfl := Option.some.inj hr
        exact ⟨rfl, hS⟩
set_option maxHeartbeats 8000000 in
theorem InternalStrconvlog10Pow2_ok  {w : World} {s : Sg} {R : List HP} {x0 : Int} (hS : St w s (R))  {r : Int} (hr : InternalStrconvlog10Pow2 x0 = r) :
    Calls Tryd.prog 43 [.int .i64 x0].toArray w (fun e w => e = .returned (.int .i64 r) ∧ St w s (R)) := by
  refine enter Tryd.func43 rfl rfl rfl fun a hE => ?_
  rw [InternalStrconvlog10Pow2] at hr
  refine W.seq ?_
  refine W.region ?_
  refine WL.vS hS hE (runs_plain rfl) (Gives.p hE rfl) rfl ?_; clear hE a; intro a hE
  refine WL.nil ?_
  refine W.seq ?_
  refine W.region ?_
  refine WL.vS hS hE (runs_plain rfl) (Gives.p hE rfl) rfl ?_; clear hE a; intro a hE
  refine WL.vS hS hE (runs_plain rfl) (Gives.p hE rfl) rfl ?_; clear hE a; intro a hE
  refine WL.vS hS hE (runs_plain rfl) (Gives.shr hE rfl rfl (by decide)) rfl ?_; clear hE a; intro a hE
  refine WL.vS hS hE (runs_plain rfl) (Gives.p hE rfl) rfl ?_; clear hE a; intro a hE
  refine WL.nil ?_
  refine W.ret ?_
  refine finG (fn := Tryd.f43) (rs := [.tmp 2]) (vs := [_]) hE rfl ⟨rfl, trivial⟩ ?_
  subst hr
  exact ⟨rfl, hS⟩
set_option maxHeartbeats 8000000 in
theorem InternalStrconvisPowerOfTwo_ok  {w : World} {s : Sg} {R : List HP} {x0 : Int} (hS : St w s (R))  {r : Bool} (hr : InternalStrconvisPowerOfTwo x0 = r) :
    Calls Tryd.prog 46 [.int .i64 x0].toArray w (fun e w => e = .returned (.bool r) ∧ St w s (R)) := by
  refine enter Tryd.func46 rfl rfl rfl fun a hE => ?_
  rw [InternalStrconvisPowerOfTwo] at hr
  refine W.seq ?_
  refine W.region ?_
  refine WL.vS hS hE (runs_plain rfl) (Gives.p hE rfl) rfl ?_; clear hE a; intro a hE
  refine WL.nil ?_
  refine W.seq ?_
  refine W.region ?_
  refine WL.vS hS hE (runs_plain rfl) (Gives.p hE rfl) rfl ?_; clear hE a; intro a hE
  refine WL.vS hS hE (runs_plain rfl) (Gives.p hE rfl) rfl ?_; clear hE a; intro a hE
  refine WL.vS hS hE (runs_plain rfl) (Gives.p hE rfl) rfl ?_; clear hE a; intro a hE
  refine WL.vS hS hE (runs_plain rfl) (Gives.p hE rfl) rfl ?_; clear hE a; intro a hE
  refine WL.vS hS hE (runs_plain rfl) (Gives.p hE rfl) rfl ?_; clear hE a; intro a hE
  refine WL.vS hS hE (runs_plain rfl) (Gives.p hE rfl) rfl ?_; clear hE a; intro a hE
  refine WL.nil ?_
  refine W.ret ?_
  refine finG (fn := Tryd.f46) (rs := [.tmp 2]) (vs := [_]) hE rfl ⟨rfl, trivial⟩ ?_
  subst hr
  exact ⟨rfl, hS⟩
set_option maxHeartbeats 8000000 in
theorem MathBitsTrailingZeros_ok  {w : World} {s : Sg} {R : List HP} {x0 : Int} (hS : St w s (R))  {r : Int} (hr : MathBitsTrailingZeros x0 = some r) :
    Calls Tryd.prog 47 [.int .u64 x0].toArray w (fun e w => e = .returned (.int .i64 r) ∧ St w s (R)) := by
  refine enter Tryd.func47 rfl rfl rfl fun a hE => ?_
  rw [MathBitsTrailingZeros] at hr
  refine W.seq ?_
  refine W.region ?_
  refine WL.vS hS hE (runs_plain rfl) (Gives.p hE rfl) rfl ?_; clear hE a; intro a hE
  refine WL.nil ?_
  refine W.seq ?_
  refine W.condF hE rfl rfl ?_
  refine W.skip ?_
  refine W.seq ?_
  refine W.region ?_
  refine WL.vS hS hE (runs_plain rfl) (Gives.p hE rfl) rfl ?_; clear hE a; intro a hE
  exact absurd hr (by simp)
set_option maxHeartbeats 8000000 in
theorem InternalStrconvFormatInt_ok  {w : World} {s : Sg} {R : List HP} {x0 : Int} {x1 : Int} (hS : St w s (R))  {r : ByteArray} (hr : InternalStrconvFormatInt x0 x1 = some r) :
    Calls Tryd.prog 38 [.int .i64 x0, .int .i64 x1].toArray w (fun e w => e = .returned (.string r) ∧ St w s (R)) := by
  refine enter Tryd.func38 rfl rfl rfl fun a hE => ?_
  rw [InternalStrconvFormatInt] at hr
  refine W.seq ?_
  refine W.region ?_
  refine WL.vS hS hE (runs_plain rfl) (Gives.p hE rfl) rfl ?_; clear hE a; intro a hE
  refine WL.nil ?_
  refine W.seq ?_
  refine W.seq ?_
  refine W.region ?_
  refine WL.vS hS hE (runs_plain rfl) (Gives.p hE rfl) rfl ?_; clear hE a; intro a hE
  refine WL.vS hS hE (runs_plain rfl) (Gives.p hE rfl) rfl ?_; clear hE a; intro a hE
  refine WL.nil ?_
  refine W.cond hE rfl (fun hc51 => ?_) (fun hc51 => ?_)
  · replace hr := iteT hc51 hr
    refine W.seq ?_
    refine W.seq ?_
    obtain ⟨q53, hq52, hr⟩ := bndS hr
    refine W.cut (fun a w => ∃ (q56 : Bool), q56 = q53 ∧ Rep a 54 [(0, .int .i64 x0), (17, .bool q56)] ∧ St w s (R)) ?_ ?_
    · refine W.gen fun K57 hK57 => ?_
      refine W.region ?_
      refine WL.vS hS hE (runs_plain rfl) (Gives.p hE rfl) rfl ?_; clear hE a; intro a hE
      refine WL.vS hS hE (runs_plain rfl) (Gives.p hE rfl) rfl ?_; clear hE a; intro a hE
      refine WL.vS hS hE (runs_plain rfl) (Gives.p hE rfl) rfl ?_; clear hE a; intro a hE
      rcases Bool.eq_false_or_eq_true (decide (0 ≤ x0)) with hg58 | hg58
      · replace hq52 := iteT hg58 hq52
        refine WL.vS hS hE (runs_if hE rfl rfl rfl hg58) (Gives.p hE rfl) rfl ?_; clear hE a; intro a hE
        refine WL.vS hS hE (runs_if hE rfl rfl rfl hg58) (Gives.p hE rfl) rfl ?_; clear hE a; intro a hE
        refine WL.vS hS hE (runs_plain rfl) (Gives.pickT hE rfl hg58 rfl) rfl ?_; clear hE a; intro a hE
        refine WL.nil ?_
        subst hK57
        exact ⟨decide (x0 < 100), hq52, hE.pick _ ⟨rfl, rfl, trivial⟩, hS⟩
      · replace hq52 := iteF hg58 hq52
        refine WL.no hE (runs_not hE rfl rfl rfl (by rw [hg58]; decide)) rfl ?_; clear hE a; intro a hE
        refine WL.no hE (runs_not hE rfl rfl rfl (by rw [hg58]; decide)) rfl ?_; clear hE a; intro a hE
        refine WL.vS hS hE (runs_plain rfl) (Gives.pickF hE rfl hg58 rfl) rfl ?_; clear hE a; intro a hE
        refine WL.nil ?_
        subst hK57
        exact ⟨false, hq52, hE.pick _ ⟨rfl, rfl, trivial⟩, hS⟩
    · clear hE hS a w; rintro a w ⟨q56, rfl, hE, hS⟩
      refine W.cond hE rfl (fun hc59 => ?_) (fun hc59 => ?_)
      · replace hr := iteT hc59 hr
        refine W.seq ?_
        refine W.region ?_
        refine WL.vS hS hE (runs_plain rfl) (Gives.p hE rfl) rfl ?_; clear hE a; intro a hE
        obtain ⟨q60, hq61, hr⟩ := bindS hr
        have hc_ := InternalStrconvsmall_ok hS  hq61
        refine WL.fnq hE (hc_) (runs_plain rfl) bd39 rfl rfl rfl ?_
        clear hE hS hc_; rintro e w ⟨rfl, hS⟩; refine ⟨_, rfl, ?_⟩; clear a; intro a hE
        refine WL.vS hS hE (runs_plain rfl) (Gives.p hE rfl) rfl ?_; clear hE a; intro a hE
        refine WL.nil ?_
        refine W.ret ?_
        refine finG (fn := Tryd.f38) (rs := [.tmp 4]) (vs := [_]) hE rfl ⟨rfl, trivial⟩ ?_
        obtain rfl := Option.some.inj hr
        exact ⟨rfl, hS⟩
      · replace hr := iteF hc59 hr
        refine W.skip ?_
        refine W.seq ?_
        refine W.region ?_
        refine WL.alloc hE hS (runs_plain rfl) zr80 rfl ?_; clear hE hS a w; intro b62 a w hE hS
        replace hS := hS.ptVec (es := 1) (m := 24) rfl (by decide)
        have h63 : Ev 1 (RI .u8) s [.int .u8 0, .int .u8 0, .int .u8 0, .int .u8 0, .int .u8 0, .int .u8 0, .int .u8 0, .int .u8 0, .int .u8 0, .int .u8 0, .int .u8 0, .int .u8 0, .int .u8 0, .int .u8 0, .int .u8 0, .int .u8 0, .int .u8 0, .int .u8 0, .int .u8 0, .int .u8 0, .int .u8 0, .int .u8 0, .int .u8 0, .int .u8 0] (List.replicate 24 (0 : Int)) := (Ev.ofMap (k := .u8) (List.replicate 24 (0 : Int)))
        refine WL.nil ?_
        refine W.seq ?_
        refine W.region ?_
        refine WL.vS hS hE (runs_plain rfl) (Gives.p hE rfl) rfl ?_; clear hE a; intro a hE
        refine WL.vS hS hE (runs_plain rfl) (Gives.conv hE rfl hu2 ui81) rfl ?_; clear hE a; intro a hE
        refine WL.vS hS hE (runs_plain rfl) (Gives.p hE rfl) rfl ?_; clear hE a; intro a hE
        refine WL.nil ?_
        refine W.seq ?_
        refine W.seq ?_
        refine W.region ?_
        refine WL.vS hS hE (runs_plain rfl) (Gives.p hE rfl) rfl ?_; clear hE a; intro a hE
        refine WL.vS hS hE (runs_plain rfl) (Gives.p hE rfl) rfl ?_; clear hE a; intro a hE
        refine WL.nil ?_
        obtain ⟨q66, hq65, hr⟩ := bndS hr
        refine W.cut (fun a w => ∃ (q69 : Int), q69 = q66 ∧ Rep a 54 [(0, .int .i64 x0), (5, .pointer (some ⟨b62, 0, none⟩)), (6, .int .u64 q69)] ∧ St w s (vecC 80 1 (some ⟨b62, 0, none⟩) 24 24 [.int .u8 0, .int .u8 0, .int .u8 0, .int .u8 0, .int .u8 0, .int .u8 0, .int .u8 0, .int .u8 0, .int .u8 0, .int .u8 0, .int .u8 0, .int .u8 0, .int .u8 0, .int .u8 0, .int .u8 0, .int .u8 0, .int .u8 0, .int .u8 0, .int .u8 0, .int .u8 0, .int .u8 0, .int .u8 0, .int .u8 0, .int .u8 0] :: R)) ?_ ?_
        · refine W.gen fun K70 hK70 => ?_
          refine W.cond hE rfl (fun hc71 => ?_) (fun hc71 => ?_)
          · replace hq65 := iteT hc71 hq65
            refine W.region ?_
            refine WL.vS hS hE (runs_plain rfl) (Gives.p hE rfl) rfl ?_; clear hE a; intro a hE
            refine WL.vS hS hE (runs_plain rfl) (Gives.p hE rfl) rfl ?_; clear hE a; intro a hE
            refine WL.vS hS hE (runs_plain rfl) (Gives.p hE rfl) rfl ?_; clear hE a; intro a hE
            refine WL.nil ?_
            subst hK70
            exact ⟨IntKind.wrap .u64 (0 - (IntKind.wrap .u64 x0)), hq65, hE.pick _ ⟨rfl, rfl, rfl, trivial⟩, hS⟩
          · replace hq65 := iteF hc71 hq65
            refine W.skip ?_
            subst hK70
            exact ⟨IntKind.wrap .u64 x0, hq65, hE.pick _ ⟨rfl, rfl, rfl, trivial⟩, hS⟩
        · clear hE hS a w; rintro a w ⟨q69, rfl, hE, hS⟩
          refine W.seq ?_
          refine W.region ?_
          refine WL.vS hS hE (runs_plain rfl) (Gives.p hE rfl) rfl ?_; clear hE a; intro a hE
          exact absurd hr (by simp)
  · replace hr := iteF hc51 hr
    refine W.skip ?_
    refine W.seq ?_
    refine W.region ?_
    refine WL.vS hS hE (runs_plain rfl) (Gives.p hE rfl) rfl ?_; clear hE a; intro a hE
    refine WL.vS hS hE (runs_plain rfl) (Gives.conv hE rfl hu2 ui81) rfl ?_; clear hE a; intro a hE
    refine WL.vS hS hE (runs_plain rfl) (Gives.p hE rfl) rfl ?_; clear hE a; intro a hE
    refine WL.vS hS hE (runs_plain rfl) (Gives.p hE rfl) rfl ?_; clear hE a; intro a hE
    refine WL.vS hS hE (runs_plain rfl) (Gives.p hE rfl) rfl ?_; clear hE a; intro a hE
    exact absurd hr (by simp)
set_option maxHeartbeats 8000000 in
theorem InternalStrconvItoa_ok  {w : World} {s : Sg} {R : List HP} {x0 : Int} (hS : St w s (R))  {r : ByteArray} (hr : InternalStrconvItoa x0 = some r) :
    Calls Tryd.prog 37 [.int .i64 x0].toArray w (fun e w => e = .returned (.string r) ∧ St w s (R)) := by
  refine enter Tryd.func37 rfl rfl rfl fun a hE => ?_
  rw [InternalStrconvItoa] at hr
  refine W.seq ?_
  refine W.region ?_
  refine WL.vS hS hE (runs_plain rfl) (Gives.p hE rfl) rfl ?_; clear hE a; intro a hE
  refine WL.nil ?_
  refine W.seq ?_
  refine W.region ?_
  refine WL.vS hS hE (runs_plain rfl) (Gives.p hE rfl) rfl ?_; clear hE a; intro a hE
  obtain ⟨q51, hq52, hr⟩ := bindS hr
  have hc_ := InternalStrconvFormatInt_ok hS  hq52
  refine WL.fnq hE (hc_) (runs_plain rfl) bd38 rfl rfl rfl ?_
  clear hE hS hc_; rintro e w ⟨rfl, hS⟩; refine ⟨_, rfl, ?_⟩; clear a; intro a hE
  refine WL.vS hS hE (runs_plain rfl) (Gives.p hE rfl) rfl ?_; clear hE a; intro a hE
  refine WL.nil ?_
  refine W.ret ?_
  refine finG (fn := Tryd.f37) (rs := [.tmp 2]) (vs := [_]) hE rfl ⟨rfl, trivial⟩ ?_
  obtain rfl := Option.some.inj hr
  exact ⟨rfl, hS⟩
set_option maxHeartbeats 8000000 in
theorem StrconvItoa_ok  {w : World} {s : Sg} {R : List HP} {x0 : Int} (hS : St w s (R))  {r : ByteArray} (hr : StrconvItoa x0 = some r) :
    Calls Tryd.prog 35 [.int .i64 x0].toArray w (fun e w => e = .returned (.string r) ∧ St w s (R)) := by
  refine enter Tryd.func35 rfl rfl rfl fun a hE => ?_
  rw [StrconvItoa] at hr
  refine W.seq ?_
  refine W.region ?_
  refine WL.vS hS hE (runs_plain rfl) (Gives.p hE rfl) rfl ?_; clear hE a; intro a hE
  refine WL.nil ?_
  refine W.seq ?_
  refine W.region ?_
  refine WL.vS hS hE (runs_plain rfl) (Gives.p hE rfl) rfl ?_; clear hE a; intro a hE
  obtain ⟨q51, hq52, hr⟩ := bindS hr
  have hc_ := InternalStrconvItoa_ok hS  hq52
  refine WL.fnq hE (hc_) (runs_plain rfl) bd37 rfl rfl rfl ?_
  clear hE hS hc_; rintro e w ⟨rfl, hS⟩; refine ⟨_, rfl, ?_⟩; clear a; intro a hE
  refine WL.vS hS hE (runs_plain rfl) (Gives.p hE rfl) rfl ?_; clear hE a; intro a hE
  refine WL.nil ?_
  refine W.ret ?_
  refine finG (fn := Tryd.f35) (rs := [.tmp 2]) (vs := [_]) hE rfl ⟨rfl, trivial⟩ ?_
  obtain rfl := Option.some.inj hr
  exact ⟨rfl, hS⟩
set_option maxHeartbeats 8000000 in
theorem Plansentence_ok  {w : World} {s : Sg} {R : List HP} {x0 : ByteArray} {x1 : List Int} {a1 : Option Addr} {c1 : Nat} (hS : St w s (R)) (h1 : Sl 1 (RI .i64) s a1 c1 x1) {r : ByteArray} (hr : Plansentence x0 x1 = some r) :
    Calls Tryd.prog 28 [.string x0, .slice a1 x1.length c1].toArray w (fun e w => e = .returned (.string r) ∧ St w s (R)) := by
  refine enter Tryd.func28 rfl rfl rfl fun a hE => ?_
  rw [Plansentence] at hr
  refine W.seq ?_
  refine W.region ?_
  refine WL.vS hS hE (runs_plain rfl) (Gives.p hE rfl) rfl ?_; clear hE a; intro a hE
  refine WL.nil ?_
  refine W.seq ?_
  refine W.seq ?_
  refine W.region ?_
  refine WL.vS hS hE (runs_plain rfl) (Gives.p hE rfl) rfl ?_; clear hE a; intro a hE
  refine WL.vS hS hE (runs_plain rfl) (Gives.len hE rfl sl33) rfl ?_; clear hE a; intro a hE
  refine WL.vS hS hE (runs_plain rfl) (Gives.p hE rfl) rfl ?_; clear hE a; intro a hE
  refine WL.nil ?_
  obtain ⟨q52, hq51, hr⟩ := bindS hr
  refine W.cut (fun a w => ∃ (q62 : ByteArray), q62 = q52 ∧ Rep a 21 [(0, .string q62)] ∧ St w s (R)) ?_ ?_
  · refine W.block ?_
    refine W.loop (fun m a w => ∃ (rest55 : List Int) (k53 : Nat), ∃ (q62 : ByteArray), rest55.length = m ∧ x1.drop k53 = rest55 ∧ Plansentence.loop1 rest55 q62 = some q52 ∧ Rep a 21 [(0, .string q62), (7, .slice a1 x1.length c1), (8, .int .i64 ((x1).length : Int)), (9, .int .i64 ((k53 : Nat) : Int))] ∧ St w s (R)) (m := x1.length) ⟨x1, 0, x0, rfl, rfl, hq51, hE.pick _ ⟨rfl, rfl, rfl, rfl, trivial⟩, hS⟩ ?_
    clear hE hS a w hq51; rintro m59 a w ⟨rest55, k53, q62, rfl, hd56, hq51, hE, hS⟩
    refine W.gen fun K63 hK63 => ?_
    rcases rest55 with _ | ⟨x54, rest55⟩
    · have hlt57 := drop_nil hd56
      refine W.seq ?_
      refine W.region ?_
      refine WL.vS hS hE (runs_plain rfl) (Gives.p hE rfl) rfl ?_; clear hE a; intro a hE
      refine WL.nil ?_
      refine W.seq ?_
      refine W.condF hE rfl (decide_eq_false (by omega)) ?_
      subst hK63
      refine W.exit rfl ?_
      exact ⟨q62, Option.some.inj hq51, hE.pick _ ⟨rfl, trivial⟩, hS⟩
    · obtain ⟨hlt57, hx58, hd56⟩ := drop_cons hd56
      rw [Plansentence.loop1] at hq51
      refine W.seq ?_
      refine W.region ?_
      refine WL.vS hS hE (runs_plain rfl) (Gives.p hE rfl) rfl ?_; clear hE a; intro a hE
      refine WL.nil ?_
      refine W.seq ?_
      refine W.condT hE rfl (decide_eq_true (by omega)) ?_
      refine W.skip ?_
      refine W.seq ?_
      refine W.block ?_
      refine W.seq ?_
      refine W.region ?_
      obtain ⟨cs64, hl65, hR66, hat67⟩ := h1.at hx58
      subst hR66
      refine WL.vS hS hE (runs_plain rfl) (Gives.idx hE k53 rfl rfl sl33 rfl hlt57 (h1.aok hlt57)) rfl ?_; clear hE a; intro a hE
      refine WL.vS hS hE (runs_plain rfl) (Gives.load1 hE rfl (fun w h => hat67 w _ h) ty3) rfl ?_; clear hE a; intro a hE
      refine WL.vS hS hE (runs_plain rfl) (Gives.p hE rfl) rfl ?_; clear hE a; intro a hE
      refine WL.nil ?_
      refine W.region ?_
      refine WL.vS hS hE (runs_plain rfl) (Gives.p hE rfl) rfl ?_; clear hE a; intro a hE
      refine WL.vS hS hE (runs_plain rfl) (Gives.p hE rfl) rfl ?_; clear hE a; intro a hE
      obtain ⟨q68, hq69, hq51⟩ := bindS hq51
      have hc_ := StrconvItoa_ok hS  hq69
      refine WL.fnq hE (hc_) (runs_plain rfl) bd35 rfl rfl rfl ?_
      clear hE hS hc_; rintro e w ⟨rfl, hS⟩; refine ⟨_, rfl, ?_⟩; clear a; intro a hE
      obtain ⟨x70, hx71, hq51⟩ := bindS hq51
      refine WL.vS hS hE (runs_plain rfl) (Gives.catS hE rfl rfl hx71) rfl ?_; clear hE a; intro a hE
      obtain ⟨x72, hx73, hq51⟩ := bindS hq51
      refine WL.vS hS hE (runs_plain rfl) (Gives.catS hE rfl rfl hx73) rfl ?_; clear hE a; intro a hE
      refine WL.vS hS hE (runs_plain rfl) (Gives.p hE rfl) rfl ?_; clear hE a; intro a hE
      refine WL.nil ?_
      refine W.region ?_
      refine WL.vS hS hE (runs_plain rfl) (Gives.inc hE rfl (by have := h1.small; omega)) rfl ?_; clear hE a; intro a hE
      refine WL.vS hS hE (runs_plain rfl) (Gives.p hE rfl) rfl ?_; clear hE a; intro a hE
      refine WL.nil ?_
      subst hK63
      exact ⟨rest55.length, Nat.lt_succ_self _, rest55, k53 + 1, x72, rfl, hd56, hq51, hE.pick _ ⟨rfl, rfl, rfl, rfl, trivial⟩, hS⟩
  · clear hE hS a w; rintro a w ⟨q62, rfl, hE, hS⟩
    refine W.seq ?_
    refine W.region ?_
    refine WL.vS hS hE (runs_plain rfl) (Gives.p hE rfl) rfl ?_; clear hE a; intro a hE
    obtain ⟨x74, hx75, hr⟩ := bindS hr
    refine WL.vS hS hE (runs_plain rfl) (Gives.catS hE rfl rfl hx75) rfl ?_; clear hE a; intro a hE
    refine WL.vS hS hE (runs_plain rfl) (Gives.p hE rfl) rfl ?_; clear hE a; intro a hE
    refine WL.nil ?_
    refine W.ret ?_
    refine finG (fn := Tryd.f28) (rs := [.tmp 4]) (vs := [_]) hE rfl ⟨rfl, trivial⟩ ?_
    obtain rfl := Option.some.inj hr
    exact ⟨rfl, hS⟩
set_option maxHeartbeats 8000000 in
theorem PlanText_1_v1_ok  {w : World} {s : Sg} {R : List HP} {pb0 : Nat} {pb1 : Nat} {x0 : ByteArray} {x1 : List Int} {a1 : Option Addr} {c1 : Nat} {y0 : Bool} {y1_0 : ByteArray} (hS : St w s (pt pb0 (.cells #[.bool y0] 4 (0, 0)) :: sbC 63 5 pb1 y1_0 :: R)) (h1 : Sl 1 (RI .i64) s a1 c1 x1) {r : Bool × ByteArray} (hr : PlanText_1_v1 x0 x1 y0 y1_0 = some r) :
    Calls Tryd.prog 26 [.string x0, .slice a1 x1.length c1, .pointer (some ⟨pb0, 0, none⟩), .pointer (some ⟨pb1, 0, none⟩)].toArray w (fun e w => e = .returned (.tuple #[]) ∧ St w s (pt pb0 (.cells #[.bool r.1] 4 (0, 0)) :: sbC 63 5 pb1 r.2 :: R)) := by
  refine enter Tryd.func26 rfl rfl rfl fun a hE => ?_
  rw [PlanText_1_v1] at hr
  refine W.seq ?_
  refine W.seq ?_
  refine W.region ?_
  refine WL.vS hS hE (runs_plain rfl) (Gives.p hE rfl) rfl ?_; clear hE a; intro a hE
  refine WL.vS hS hE (runs_plain rfl) (Gives.len hE rfl sl33) rfl ?_; clear hE a; intro a hE
  refine WL.vS hS hE (runs_plain rfl) (Gives.p hE rfl) rfl ?_; clear hE a; intro a hE
  refine WL.nil ?_
  obtain ⟨q54, hq53, hr⟩ := bndS hr
  refine W.cut (fun a w => ∃ (q64 : Bool), q64 = q54 ∧ Rep a 24 [(0, .string x0), (1, .slice a1 x1.length c1), (3, .pointer (some ⟨pb1, 0, none⟩))] ∧ St w s (pt pb0 (.cells #[.bool q64] 4 (0, 0)) :: sbC 63 5 pb1 y1_0 :: R)) ?_ ?_
  · refine W.block ?_
    refine W.loop (fun m a w => ∃ (rest57 : List Int) (k55 : Nat), ∃ (q64 : Bool), rest57.length = m ∧ x1.drop k55 = rest57 ∧ PlanText_1_v1.loop1 rest57 q64 = q54 ∧ Rep a 24 [(0, .string x0), (1, .slice a1 x1.length c1), (2, .pointer (some ⟨pb0, 0, none⟩)), (3, .pointer (some ⟨pb1, 0, none⟩)), (8, .slice a1 x1.length c1), (9, .int .i64 ((x1).length : Int)), (10, .int .i64 ((k55 : Nat) : Int))] ∧ St w s (pt pb0 (.cells #[.bool q64] 4 (0, 0)) :: sbC 63 5 pb1 y1_0 :: R)) (m := x1.length) ⟨x1, 0, y0, rfl, rfl, hq53, hE.pick _ ⟨rfl, rfl, rfl, rfl, rfl, rfl, rfl, trivial⟩, hS⟩ ?_
    clear hE hS a w hq53; rintro m61 a w ⟨rest57, k55, q64, rfl, hd58, hq53, hE, hS⟩
    refine W.gen fun K65 hK65 => ?_
    rcases rest57 with _ | ⟨x56, rest57⟩
    · have hlt59 := drop_nil hd58
      refine W.seq ?_
      refine W.region ?_
      refine WL.vS hS hE (runs_plain rfl) (Gives.p hE rfl) rfl ?_; clear hE a; intro a hE
      refine WL.nil ?_
      refine W.seq ?_
      refine W.condF hE rfl (decide_eq_false (by omega)) ?_
      subst hK65
      refine W.exit rfl ?_
      exact ⟨q64, hq53, hE.pick _ ⟨rfl, rfl, rfl, trivial⟩, hS⟩
    · obtain ⟨hlt59, hx60, hd58⟩ := drop_cons hd58
      rw [PlanText_1_v1.loop1] at hq53
      refine W.seq ?_
      refine W.region ?_
      refine WL.vS hS hE (runs_plain rfl) (Gives.p hE rfl) rfl ?_; clear hE a; intro a hE
      refine WL.nil ?_
      refine W.seq ?_
      refine W.condT hE rfl (decide_eq_true (by omega)) ?_
      refine W.skip ?_
      refine W.seq ?_
      refine W.block ?_
      refine W.seq ?_
      refine W.region ?_
      obtain ⟨cs66, hl67, hR68, hat69⟩ := h1.at hx60
      subst hR68
      refine WL.vS hS hE (runs_plain rfl) (Gives.idx hE k55 rfl rfl sl33 rfl hlt59 (h1.aok hlt59)) rfl ?_; clear hE a; intro a hE
      refine WL.vS hS hE (runs_plain rfl) (Gives.load1 hE rfl (fun w h => hat69 w _ h) ty3) rfl ?_; clear hE a; intro a hE
      refine WL.vS hS hE (runs_plain rfl) (Gives.p hE rfl) rfl ?_; clear hE a; intro a hE
      refine WL.nil ?_
      obtain ⟨q71, hq70, hq53⟩ := bndS hq53
      refine W.cut (fun a w => ∃ (q74 : Bool), q74 = q71 ∧ Rep a 24 [(0, .string x0), (1, .slice a1 x1.length c1), (2, .pointer (some ⟨pb0, 0, none⟩)), (3, .pointer (some ⟨pb1, 0, none⟩)), (8, .slice a1 x1.length c1), (9, .int .i64 ((x1).length : Int)), (10, .int .i64 ((k55 : Nat) : Int))] ∧ St w s (pt pb0 (.cells #[.bool q74] 4 (0, 0)) :: sbC 63 5 pb1 y1_0 :: R)) ?_ ?_
      · refine W.gen fun K75 hK75 => ?_
        refine W.region ?_
        refine WL.vS hS hE (runs_plain rfl) (Gives.loadB hE 0 rfl rfl rfl ty4) rfl ?_; clear hE a; intro a hE
        refine WL.vS hS hE (runs_plain rfl) (Gives.p hE rfl) rfl ?_; clear hE a; intro a hE
        rcases Bool.eq_false_or_eq_true q64 with hg76 | hg76
        · replace hq70 := iteT hg76 hq70
          refine WL.vS hS hE (runs_if hE rfl rfl rfl hg76) (Gives.p hE rfl) rfl ?_; clear hE a; intro a hE
          refine WL.fnq hE (Planwithin_ok hS  rfl (r := Planwithin x56 0 999999)) (runs_if hE rfl rfl rfl hg76) bd14 rfl rfl rfl ?_
          clear hE hS; rintro e w ⟨rfl, hS⟩; refine ⟨_, rfl, ?_⟩; clear a; intro a hE
          refine WL.vS hS hE (runs_plain rfl) (Gives.pickT hE rfl hg76 rfl) rfl ?_; clear hE a; intro a hE
          refine WL.storeI hE hS 0 rfl [.bool (Planwithin x56 0 999999)] (runs_plain rfl) rfl rfl rfl ty4 rfl rfl rfl rfl ?_; clear hE hS a w; intro a w hE hS
          refine WL.nil ?_
          subst hK75
          exact ⟨(Planwithin x56 0 999999), hq70, hE.pick _ ⟨rfl, rfl, rfl, rfl, rfl, rfl, rfl, trivial⟩, hS⟩
        · replace hq70 := iteF hg76 hq70
          refine WL.no hE (runs_not hE rfl rfl rfl (by rw [hg76]; decide)) rfl ?_; clear hE a; intro a hE
          refine WL.no hE (runs_not hE rfl rfl rfl (by rw [hg76]; decide)) rfl ?_; clear hE a; intro a hE
          refine WL.vS hS hE (runs_plain rfl) (Gives.pickF hE rfl hg76 rfl) rfl ?_; clear hE a; intro a hE
          refine WL.storeI hE hS 0 rfl [.bool false] (runs_plain rfl) rfl rfl rfl ty4 rfl rfl rfl rfl ?_; clear hE hS a w; intro a w hE hS
          refine WL.nil ?_
          subst hK75
          exact ⟨false, hq70, hE.pick _ ⟨rfl, rfl, rfl, rfl, rfl, rfl, rfl, trivial⟩, hS⟩
      · clear hE hS a w; rintro a w ⟨q74, rfl, hE, hS⟩
        refine W.region ?_
        refine WL.vS hS hE (runs_plain rfl) (Gives.inc hE rfl (by have := h1.small; omega)) rfl ?_; clear hE a; intro a hE
        refine WL.vS hS hE (runs_plain rfl) (Gives.p hE rfl) rfl ?_; clear hE a; intro a hE
        refine WL.nil ?_
        subst hK65
        exact ⟨rest57.length, Nat.lt_succ_self _, rest57, k55 + 1, q74, rfl, hd58, hq53, hE.pick _ ⟨rfl, rfl, rfl, rfl, rfl, rfl, rfl, trivial⟩, hS⟩
  · clear hE hS a w; rintro a w ⟨q64, rfl, hE, hS⟩
    refine W.region ?_
    refine WL.vS hS hE (runs_plain rfl) (Gives.p hE rfl) rfl ?_; clear hE a; intro a hE
    refine WL.vS hS hE (runs_plain rfl) (Gives.p hE rfl) rfl ?_; clear hE a; intro a hE
    obtain ⟨q77, hq78, hr⟩ := bindS hr
    have hc_ := Plansentence_ok hS h1 hq78
    refine WL.fnq hE (hc_) (runs_plain rfl) bd28 rfl rfl rfl ?_
    clear hE hS hc_; rintro e w ⟨rfl, hS⟩; refine ⟨_, rfl, ?_⟩; clear a; intro a hE
    replace hS := hS.front 1 rfl
    obtain ⟨q79, hq80, hr⟩ := bindS hr
    refine WL.fnq hE (sbWrite_ok hS hq80) (runs_plain rfl) bd27 rfl rfl rfl ?_
    clear hE hS; rintro e w ⟨rfl, hS⟩; refine ⟨_, rfl, ?_⟩; clear a; intro a hE
    refine WL.nil ?_
    refine finG (fn := Tryd.f26) (rs := []) (vs := []) hE rfl trivial ?_
    obtain rfl := Option.some.inj hr
    replace hS := hS.front 1 rfl
    exact ⟨rfl, hS⟩
set_option maxHeartbeats 8000000 in
theorem PlanText_ok  {w : World} {s : Sg} {R : List HP} {x0 : ApiDay} {a0_0 : Option Addr} {c0_0 : Nat} {a0_1 : Option Addr} {c0_1 : Nat} (hS : St w s (R)) (h0_0 : Sl 4 RApiTrain s a0_0 c0_0 x0.Trains) (h0_1 : Sl 1 (RL 1 (RI .i64)) s a0_1 c0_1 x0.Turns) {r : ByteArray × Int} (hr : PlanText x0 = some r) :
    Calls Tryd.prog 12 [.agg [.slice a0_0 x0.Trains.length c0_0, .slice a0_1 x0.Turns.length c0_1].toArray].toArray w (fun e w => e = .returned (.tuple #[.string r.1, .int .i64 r.2]) ∧ St w s (R)) := by
  refine enter Tryd.func12 rfl rfl rfl fun a hE => ?_
  rw [PlanText] at hr
  refine W.seq ?_
  refine W.region ?_
  refine WL.box hE hS (runs_plain rfl) rfl rfl rfl ?_; clear hE hS a w; intro b51 a w hE hS
  refine WL.vS hS hE (runs_plain rfl) (Gives.p hE rfl) rfl ?_; clear hE a; intro a hE
  refine WL.vS hS hE (runs_plain rfl) (Gives.p hE rfl) rfl ?_; clear hE a; intro a hE
  refine WL.nil ?_
  refine W.seq ?_
  refine W.seq ?_
  refine W.region ?_
  refine WL.vS hS hE (runs_plain rfl) (Gives.loadBA hE 0 rfl rfl ty25) rfl ?_; clear hE a; intro a hE
  refine WL.fnq hE (Planform_ok hS h0_0 h0_1 rfl (r := Planform x0)) (runs_plain rfl) bd25 rfl rfl rfl ?_
  clear hE hS; rintro e w ⟨rfl, hS⟩; refine ⟨_, rfl, ?_⟩; clear a; intro a hE
  refine WL.vS hS hE (runs_plain rfl) (Gives.p hE rfl) rfl ?_; clear hE a; intro a hE
  refine WL.nil ?_
  refine W.seq ?_
  refine W.region ?_
  refine WL.vS hS hE (runs_plain rfl) (Gives.p hE rfl) rfl ?_; clear hE a; intro a hE
  refine WL.vS hS hE (runs_plain rfl) (Gives.p hE rfl) rfl ?_; clear hE a; intro a hE
  refine WL.nil ?_
  refine W.cond hE rfl (fun hc52 => ?_) (fun hc52 => ?_)
  · replace hr := iteT hc52 hr
    refine W.seq ?_
    refine W.region ?_
    refine WL.vS hS hE (runs_plain rfl) (Gives.p hE rfl) rfl ?_; clear hE a; intro a hE
    refine WL.vS hS hE (runs_plain rfl) (Gives.p hE rfl) rfl ?_; clear hE a; intro a hE
    refine WL.vS hS hE (runs_plain rfl) (Gives.p hE rfl) rfl ?_; clear hE a; intro a hE
    refine WL.nil ?_
    refine W.ret ?_
    refine finG (fn := Tryd.f12) (rs := [.tmp 2, .tmp 3]) (vs := [_, _]) hE rfl ⟨rfl, rfl, trivial⟩ ?_
    obtain rfl := Option.some.inj hr
    replace hS := hS.tail
    exact ⟨rfl, hS⟩
  · replace hr := iteF hc52 hr
    refine W.skip ?_
    refine W.seq ?_
    refine W.region ?_
    refine WL.alloc hE hS (runs_plain rfl) zr63 rfl ?_; clear hE hS a w; intro b53 a w hE hS
    replace hS := hS.sbNew 5
    refine WL.nil ?_
    refine W.seq ?_
    refine W.region ?_
    refine WL.alloc hE hS (runs_plain rfl) zr4 rfl ?_; clear hE hS a w; intro b54 a w hE hS
    refine WL.storeI hE hS 0 rfl [.bool true] (runs_plain rfl) rfl rfl rfl ty4 rfl rfl rfl rfl ?_; clear hE hS a w; intro a w hE hS
    refine WL.nil ?_
    refine W.seq ?_
    refine W.region ?_
    refine WL.vS hS hE (runs_plain rfl) (Gives.mkfn hE (vs := [.pointer (some ⟨b54, 0, none⟩), .pointer (some ⟨b53, 0, none⟩)]) rfl) rfl ?_; clear hE a; intro a hE
    refine WL.vS hS hE (runs_plain rfl) (Gives.p hE rfl) rfl ?_; clear hE a; intro a hE
    refine WL.nil ?_
    refine W.seq ?_
    refine W.seq ?_
    refine W.region ?_
    refine WL.vS hS hE (runs_plain rfl) (Gives.fld hE rfl fl25_0) rfl ?_; clear hE a; intro a hE
    refine WL.vS hS hE (runs_plain rfl) (Gives.loadB hE 2 rfl rfl rfl ty22) rfl ?_; clear hE a; intro a hE
    refine WL.vS hS hE (runs_plain rfl) (Gives.len hE rfl sl22) rfl ?_; clear hE a; intro a hE
    refine WL.vS hS hE (runs_plain rfl) (Gives.p hE rfl) rfl ?_; clear hE a; intro a hE
    refine WL.nil ?_
    obtain ⟨q56, hq55, hr⟩ := bindS hr
    refine W.cut (fun a w => ∃ (q66 : ByteArray), ∃ (q67 : Bool), ∃ (s64 : Sg), s.Le s64 ∧ (q66, q67) = q56 ∧ Rep a 81 [(1, .pointer (some ⟨b51, 0, none⟩)), (5, .pointer (some ⟨b53, 0, none⟩)), (6, .pointer (some ⟨b54, 0, none⟩)), (7, .func (.func 26) #[] #[.pointer (some ⟨b54, 0, none⟩), .pointer (some ⟨b53, 0, none⟩)])] ∧ St w s64 (pt b54 (.cells #[.bool q67] 4 (0, 0)) :: sbC 63 5 b53 q66 :: pt b51 (.cells #[.slice a0_0 x0.Trains.length c0_0, .slice a0_1 x0.Turns.length c0_1] 25 (0, 0)) :: R)) ?_ ?_
    · refine W.block ?_
      refine W.loop (fun m a w => ∃ (rest59 : List ApiTrain) (k57 : Nat), ∃ (q66 : ByteArray), ∃ (q67 : Bool), ∃ (s64 : Sg), rest59.length = m ∧ x0.Trains.drop k57 = rest59 ∧ s.Le s64 ∧ PlanText.loop1 rest59 q66 q67 = some q56 ∧ Rep a 81 [(1, .pointer (some ⟨b51, 0, none⟩)), (5, .pointer (some ⟨b53, 0, none⟩)), (6, .pointer (some ⟨b54, 0, none⟩)), (7, .func (.func 26) #[] #[.pointer (some ⟨b54, 0, none⟩), .pointer (some ⟨b53, 0, none⟩)]), (23, .slice a0_0 x0.Trains.length c0_0), (24, .int .i64 ((x0.Trains).length : Int)), (25, .int .i64 ((k57 : Nat) : Int))] ∧ St w s64 (pt b54 (.cells #[.bool q67] 4 (0, 0)) :: sbC 63 5 b53 q66 :: pt b51 (.cells #[.slice a0_0 x0.Trains.length c0_0, .slice a0_1 x0.Turns.length c0_1] 25 (0, 0)) :: R)) (m := x0.Trains.length) ⟨x0.Trains, 0, ByteArray.empty, true, s, rfl, rfl, (Sg.Le.refl _), hq55, hE.pick _ ⟨rfl, rfl, rfl, rfl, rfl, rfl, rfl, trivial⟩, hS⟩ ?_
      clear hE hS a w hq55; rintro m63 a w ⟨rest59, k57, q66, q67, s64, rfl, hd60, hle65, hq55, hE, hS⟩
      refine W.gen fun K68 hK68 => ?_
      replace h0_0 := Sl.mono RApiTrain.mono hle65 h0_0
      replace h0_1 := Sl.mono (RL.mono RI.mono) hle65 h0_1
      rcases rest59 with _ | ⟨x58, rest59⟩
      · have hlt61 := drop_nil hd60
        refine W.seq ?_
        refine W.region ?_
        refine WL.vS hS hE (runs_plain rfl) (Gives.p hE rfl) rfl ?_; clear hE a; intro a hE
        refine WL.nil ?_
        refine W.seq ?_
        refine W.condF hE rfl (decide_eq_false (by omega)) ?_
        subst hK68
        refine W.exit rfl ?_
        exact ⟨q66, q67, s64, hle65, Option.some.inj hq55, hE.pick _ ⟨rfl, rfl, rfl, rfl, trivial⟩, hS⟩
      · obtain ⟨hlt61, hx62, hd60⟩ := drop_cons hd60
        rw [PlanText.loop1] at hq55
        refine W.seq ?_
        refine W.region ?_
        refine WL.vS hS hE (runs_plain rfl) (Gives.p hE rfl) rfl ?_; clear hE a; intro a hE
        refine WL.nil ?_
        refine W.seq ?_
        refine W.condT hE rfl (decide_eq_true (by omega)) ?_
        refine W.skip ?_
        refine W.seq ?_
        refine W.block ?_
        refine W.seq ?_
        refine W.region ?_
        obtain ⟨cs69, hl70, hR71, hat72⟩ := h0_0.at hx62
        obtain ⟨a73, c74, a76, c77, rfl, h75, h78⟩ := hR71
        refine WL.vS hS hE (runs_plain rfl) (Gives.idx hE k57 rfl rfl sl22 rfl hlt61 (h0_0.aok hlt61)) rfl ?_; clear hE a; intro a hE
        refine WL.vS hS hE (runs_plain rfl) (Gives.loadA hE rfl (fun w h => hat72 w _ h) ty29) rfl ?_; clear hE a; intro a hE
        refine WL.alloc hE hS (runs_plain rfl) zr29 rfl ?_; clear hE hS a w; intro b79 a w hE hS
        refine WL.storeI hE hS 0 rfl [.int .i64 x58.No, .int .i64 x58.Stock, .slice a73 x58.Stops.length c74, .slice a76 x58.Legs.length c77] (runs_plain rfl) rfl rfl rfl ty29 rfl rfl rfl rfl ?_; clear hE hS a w; intro a w hE hS
        refine WL.nil ?_
        refine W.seq ?_
        refine W.region ?_
        refine WL.vS hS hE (runs_plain rfl) (Gives.p hE rfl) rfl ?_; clear hE a; intro a hE
        refine WL.vS hS hE (runs_plain rfl) (Gives.fld hE rfl fl29_0) rfl ?_; clear hE a; intro a hE
        refine WL.vS hS hE (runs_plain rfl) (Gives.loadB hE 0 rfl rfl rfl ty3) rfl ?_; clear hE a; intro a hE
        refine WL.vS hS hE (runs_plain rfl) (Gives.fld hE rfl fl29_1) rfl ?_; clear hE a; intro a hE
        refine WL.vS hS hE (runs_plain rfl) (Gives.loadB hE 0 rfl rfl rfl ty3) rfl ?_; clear hE a; intro a hE
        refine WL.lit hE hS (e := 3) (es := 1) (vs := [(0, .int .i64 x58.No), (1, .int .i64 x58.Stock)]) (cs := [.int .i64 x58.No, .int .i64 x58.Stock]) (runs_plain rfl) rfl (by kernel_rfl) rfl ?_; clear hE hS a w; intro b80 a w hE hS
        replace hS := hS.ptVec (es := 1) (m := 2) rfl (by decide)
        have h82 : Ev 1 (RI .i64) s64 [.int .i64 x58.No, .int .i64 x58.Stock] [x58.No, x58.Stock] := (Ev.cons (c1 := [.int .i64 x58.No]) rfl rfl (Ev.cons (c1 := [.int .i64 x58.Stock]) rfl rfl (Ev.nil)))
        have hF := hS.fixD RI.mono 0 rfl h82 (rfl); clear hS; obtain ⟨s83, hle84, hS, h85⟩ := hF
        replace h0_0 := Sl.mono RApiTrain.mono hle84 h0_0
        replace h75 := Sl.mono RApiStop.mono hle84 h75
        replace h78 := Sl.mono (RL.mono RI.mono) hle84 h78
        replace h0_1 := Sl.mono (RL.mono RI.mono) hle84 h0_1
        obtain ⟨q86, hq87, hq55⟩ := bindS hq55
        replace hS := hS.front 2 rfl
        replace hS := hS.front 2 rfl
        have hc_ := PlanText_1_v1_ok hS h85 hq87
        refine WL.fnw hE (hc_) rfl (runs_plain rfl) bd26 rfl rfl rfl ?_
        clear hE hS hc_; rintro e w ⟨rfl, hS⟩; refine ⟨_, rfl, ?_⟩; clear a; intro a hE
        refine WL.nil ?_
        refine W.seq ?_
        refine W.seq ?_
        refine W.region ?_
        refine WL.vS hS hE (runs_plain rfl) (Gives.fld hE rfl fl29_2) rfl ?_; clear hE a; intro a hE
        refine WL.vS hS hE (runs_plain rfl) (Gives.loadB hE 2 rfl rfl rfl ty27) rfl ?_; clear hE a; intro a hE
        refine WL.vS hS hE (runs_plain rfl) (Gives.len hE rfl sl27) rfl ?_; clear hE a; intro a hE
        refine WL.vS hS hE (runs_plain rfl) (Gives.p hE rfl) rfl ?_; clear hE a; intro a hE
        refine WL.nil ?_
        obtain ⟨q89, hq88, hq55⟩ := bindS hq55
        refine W.cut (fun a w => ∃ (q99 : ByteArray), ∃ (q100 : Bool), ∃ (s97 : Sg), s83.Le s97 ∧ (q99, q100) = q89 ∧ Rep a 81 [(1, .pointer (some ⟨b51, 0, none⟩)), (5, .pointer (some ⟨b53, 0, none⟩)), (6, .pointer (some ⟨b54, 0, none⟩)), (7, .func (.func 26) #[] #[.pointer (some ⟨b54, 0, none⟩), .pointer (some ⟨b53, 0, none⟩)]), (9, .pointer (some ⟨b79, 0, none⟩)), (23, .slice a0_0 x0.Trains.length c0_0), (24, .int .i64 ((x0.Trains).length : Int)), (25, .int .i64 ((k57 : Nat) : Int))] ∧ St w s97 (pt b54 (.cells #[.bool q100] 4 (0, 0)) :: sbC 63 5 b53 q99 :: pt b79 (.cells #[.int .i64 x58.No, .int .i64 x58.Stock, .slice a73 x58.Stops.length c74, .slice a76 x58.Legs.length c77] 29 (0, 0)) :: pt b51 (.cells #[.slice a0_0 x0.Trains.length c0_0, .slice a0_1 x0.Turns.length c0_1] 25 (0, 0)) :: R)) ?_ ?_
        · refine W.block ?_
          refine W.loop (fun m a w => ∃ (rest92 : List ApiStop) (k90 : Nat), ∃ (q99 : ByteArray), ∃ (q100 : Bool), ∃ (s97 : Sg), rest92.length = m ∧ x58.Stops.drop k90 = rest92 ∧ s83.Le s97 ∧ PlanText.loop2 rest92 q99 q100 = some q89 ∧ Rep a 81 [(1, .pointer (some ⟨b51, 0, none⟩)), (5, .pointer (some ⟨b53, 0, none⟩)), (6, .pointer (some ⟨b54, 0, none⟩)), (7, .func (.func 26) #[] #[.pointer (some ⟨b54, 0, none⟩), .pointer (some ⟨b53, 0, none⟩)]), (9, .pointer (some ⟨b79, 0, none⟩)), (23, .slice a0_0 x0.Trains.length c0_0), (24, .int .i64 ((x0.Trains).length : Int)), (25, .int .i64 ((k57 : Nat) : Int)), (37, .slice a73 x58.Stops.length c74), (38, .int .i64 ((x58.Stops).length : Int)), (39, .int .i64 ((k90 : Nat) : Int))] ∧ St w s97 (pt b54 (.cells #[.bool q100] 4 (0, 0)) :: sbC 63 5 b53 q99 :: pt b79 (.cells #[.int .i64 x58.No, .int .i64 x58.Stock, .slice a73 x58.Stops.length c74, .slice a76 x58.Legs.length c77] 29 (0, 0)) :: pt b51 (.cells #[.slice a0_0 x0.Trains.length c0_0, .slice a0_1 x0.Turns.length c0_1] 25 (0, 0)) :: R)) (m := x58.Stops.length) ⟨x58.Stops, 0, q86.2, q86.1, s83, rfl, rfl, (Sg.Le.refl _), hq88, hE.pick _ ⟨rfl, rfl, rfl, rfl, rfl, rfl, rfl, rfl, rfl, rfl, rfl, trivial⟩, hS⟩ ?_
          clear hE hS a w hq88; rintro m96 a w ⟨rest92, k90, q99, q100, s97, rfl, hd93, hle98, hq88, hE, hS⟩
          refine W.gen fun K101 hK101 => ?_
          replace h0_0 := Sl.mono RApiTrain.mono hle98 h0_0
          replace h75 := Sl.mono RApiStop.mono hle98 h75
          replace h78 := Sl.mono (RL.mono RI.mono) hle98 h78
          replace h85 := Sl.mono RI.mono hle98 h85
          replace h0_1 := Sl.mono (RL.mono RI.mono) hle98 h0_1
          rcases rest92 with _ | ⟨x91, rest92⟩
          · have hlt94 := drop_nil hd93
            refine W.seq ?_
            refine W.region ?_
            refine WL.vS hS hE (runs_plain rfl) (Gives.p hE rfl) rfl ?_; clear hE a; intro a hE
            refine WL.nil ?_
            refine W.seq ?_
            refine W.condF hE rfl (decide_eq_false (by omega)) ?_
            subst hK101
            refine W.exit rfl ?_
            exact ⟨q99, q100, s97, hle98, Option.some.inj hq88, hE.pick _ ⟨rfl, rfl, rfl, rfl, rfl, rfl, rfl, rfl, trivial⟩, hS⟩
          · obtain ⟨hlt94, hx95, hd93⟩ := drop_cons hd93
            rw [PlanText.loop2] at hq88
            refine W.seq ?_
            refine W.region ?_
            refine WL.vS hS hE (runs_plain rfl) (Gives.p hE rfl) rfl ?_; clear hE a; intro a hE
            refine WL.nil ?_
            refine W.seq ?_
            refine W.condT hE rfl (decide_eq_true (by omega)) ?_
            refine W.skip ?_
            refine W.seq ?_
            refine W.block ?_
            refine W.seq ?_
            refine W.region ?_
            obtain ⟨cs102, hl103, hR104, hat105⟩ := h75.at hx95
            subst hR104
            refine WL.vS hS hE (runs_plain rfl) (Gives.idx hE k90 rfl rfl sl27 rfl hlt94 (h75.aok hlt94)) rfl ?_; clear hE a; intro a hE
            refine WL.vS hS hE (runs_plain rfl) (Gives.loadA hE rfl (fun w h => hat105 w _ h) ty31) rfl ?_; clear hE a; intro a hE
            refine WL.alloc hE hS (runs_plain rfl) zr31 rfl ?_; clear hE hS a w; intro b106 a w hE hS
            refine WL.storeI hE hS 0 rfl (ApiStop.cells x91) (runs_plain rfl) rfl rfl rfl ty31 rfl rfl rfl rfl ?_; clear hE hS a w; intro a w hE hS
            refine WL.nil ?_
            refine W.region ?_
            refine WL.vS hS hE (runs_plain rfl) (Gives.p hE rfl) rfl ?_; clear hE a; intro a hE
            refine WL.vS hS hE (runs_plain rfl) (Gives.fld hE rfl fl31_0) rfl ?_; clear hE a; intro a hE
            refine WL.vS hS hE (runs_plain rfl) (Gives.loadB hE 0 rfl rfl rfl ty3) rfl ?_; clear hE a; intro a hE
            refine WL.vS hS hE (runs_plain rfl) (Gives.fld hE rfl fl31_1) rfl ?_; clear hE a; intro a hE
            refine WL.vS hS hE (runs_plain rfl) (Gives.loadB hE 0 rfl rfl rfl ty3) rfl ?_; clear hE a; intro a hE
            refine WL.vS hS hE (runs_plain rfl) (Gives.fld hE rfl fl31_2) rfl ?_; clear hE a; intro a hE
            refine WL.vS hS hE (runs_plain rfl) (Gives.loadB hE 0 rfl rfl rfl ty3) rfl ?_; clear hE a; intro a hE
            refine WL.vS hS hE (runs_plain rfl) (Gives.fld hE rfl fl31_3) rfl ?_; clear hE a; intro a hE
            refine WL.vS hS hE (runs_plain rfl) (Gives.loadB hE 0 rfl rfl rfl ty3) rfl ?_; clear hE a; intro a hE
            refine WL.lit hE hS (e := 3) (es := 1) (vs := [(0, .int .i64 x91.Station), (1, .int .i64 x91.Track), (2, .int .i64 x91.Arr), (3, .int .i64 x91.Dep)]) (cs := [.int .i64 x91.Station, .int .i64 x91.Track, .int .i64 x91.Arr, .int .i64 x91.Dep]) (runs_plain rfl) rfl (by kernel_rfl) rfl ?_; clear hE hS a w; intro b107 a w hE hS
            replace hS := hS.ptVec (es := 1) (m := 4) rfl (by decide)
            have h109 : Ev 1 (RI .i64) s97 [.int .i64 x91.Station, .int .i64 x91.Track, .int .i64 x91.Arr, .int .i64 x91.Dep] [x91.Station, x91.Track, x91.Arr, x91.Dep] := (Ev.cons (c1 := [.int .i64 x91.Station]) rfl rfl (Ev.cons (c1 := [.int .i64 x91.Track]) rfl rfl (Ev.cons (c1 := [.int .i64 x91.Arr]) rfl rfl (Ev.cons (c1 := [.int .i64 x91.Dep]) rfl rfl (Ev.nil)))))
            have hF := hS.fixD RI.mono 0 rfl h109 (rfl); clear hS; obtain ⟨s110, hle111, hS, h112⟩ := hF
            replace h0_0 := Sl.mono RApiTrain.mono hle111 h0_0
            replace h75 := Sl.mono RApiStop.mono hle111 h75
            replace h78 := Sl.mono (RL.mono RI.mono) hle111 h78
            replace h0_1 := Sl.mono (RL.mono RI.mono) hle111 h0_1
            obtain ⟨q113, hq114, hq88⟩ := bindS hq88
            replace hS := hS.front 2 rfl
            replace hS := hS.front 2 rfl
            have hc_ := PlanText_1_v1_ok hS h112 hq114
            refine WL.fnw hE (hc_) rfl (runs_plain rfl) bd26 rfl rfl rfl ?_
            clear hE hS hc_; rintro e w ⟨rfl, hS⟩; refine ⟨_, rfl, ?_⟩; clear a; intro a hE
            refine WL.nil ?_
            refine W.region ?_
            refine WL.vS hS hE (runs_plain rfl) (Gives.inc hE rfl (by have := h75.small; omega)) rfl ?_; clear hE a; intro a hE
            refine WL.vS hS hE (runs_plain rfl) (Gives.p hE rfl) rfl ?_; clear hE a; intro a hE
            refine WL.nil ?_
            replace hS := hS.dropAt 2
            subst hK101
            exact ⟨rest92.length, Nat.lt_succ_self _, rest92, k90 + 1, q113.2, q113.1, s110, rfl, hd93, (Sg.Le.trans hle98 hle111), hq88, hE.pick _ ⟨rfl, rfl, rfl, rfl, rfl, rfl, rfl, rfl, rfl, rfl, rfl, trivial⟩, hS⟩
        · clear hE hS a w; rintro a w ⟨q99, q100, s97, hle98, rfl, hE, hS⟩
          dsimp only at hq55
          replace h0_0 := Sl.mono RApiTrain.mono hle98 h0_0
          replace h75 := Sl.mono RApiStop.mono hle98 h75
          replace h78 := Sl.mono (RL.mono RI.mono) hle98 h78
          replace h85 := Sl.mono RI.mono hle98 h85
          replace h0_1 := Sl.mono (RL.mono RI.mono) hle98 h0_1
          refine W.seq ?_
          refine W.region ?_
          refine WL.vS hS hE (runs_plain rfl) (Gives.fld hE rfl fl29_3) rfl ?_; clear hE a; intro a hE
          refine WL.vS hS hE (runs_plain rfl) (Gives.loadB hE 2 rfl rfl rfl ty23) rfl ?_; clear hE a; intro a hE
          refine WL.vS hS hE (runs_plain rfl) (Gives.len hE rfl sl23) rfl ?_; clear hE a; intro a hE
          refine WL.vS hS hE (runs_plain rfl) (Gives.p hE rfl) rfl ?_; clear hE a; intro a hE
          refine WL.nil ?_
          obtain ⟨q116, hq115, hq55⟩ := bindS hq55
          refine W.cut (fun a w => ∃ (q126 : ByteArray), ∃ (q127 : Bool), (q126, q127) = q116 ∧ Rep a 81 [(1, .pointer (some ⟨b51, 0, none⟩)), (5, .pointer (some ⟨b53, 0, none⟩)), (6, .pointer (some ⟨b54, 0, none⟩)), (7, .func (.func 26) #[] #[.pointer (some ⟨b54, 0, none⟩), .pointer (some ⟨b53, 0, none⟩)]), (23, .slice a0_0 x0.Trains.length c0_0), (24, .int .i64 ((x0.Trains).length : Int)), (25, .int .i64 ((k57 : Nat) : Int))] ∧ St w s97 (pt b54 (.cells #[.bool q127] 4 (0, 0)) :: sbC 63 5 b53 q126 :: pt b79 (.cells #[.int .i64 x58.No, .int .i64 x58.Stock, .slice a73 x58.Stops.length c74, .slice a76 x58.Legs.length c77] 29 (0, 0)) :: pt b51 (.cells #[.slice a0_0 x0.Trains.length c0_0, .slice a0_1 x0.Turns.length c0_1] 25 (0, 0)) :: R)) ?_ ?_
          · refine W.block ?_
            refine W.loop (fun m a w => ∃ (rest119 : List (List Int)) (k117 : Nat), ∃ (q126 : ByteArray), ∃ (q127 : Bool), rest119.length = m ∧ x58.Legs.drop k117 = rest119 ∧ PlanText.loop3 rest119 q126 q127 = some q116 ∧ Rep a 81 [(1, .pointer (some ⟨b51, 0, none⟩)), (5, .pointer (some ⟨b53, 0, none⟩)), (6, .pointer (some ⟨b54, 0, none⟩)), (7, .func (.func 26) #[] #[.pointer (some ⟨b54, 0, none⟩), .pointer (some ⟨b53, 0, none⟩)]), (23, .slice a0_0 x0.Trains.length c0_0), (24, .int .i64 ((x0.Trains).length : Int)), (25, .int .i64 ((k57 : Nat) : Int)), (56, .slice a76 x58.Legs.length c77), (57, .int .i64 ((x58.Legs).length : Int)), (58, .int .i64 ((k117 : Nat) : Int))] ∧ St w s97 (pt b54 (.cells #[.bool q127] 4 (0, 0)) :: sbC 63 5 b53 q126 :: pt b79 (.cells #[.int .i64 x58.No, .int .i64 x58.Stock, .slice a73 x58.Stops.length c74, .slice a76 x58.Legs.length c77] 29 (0, 0)) :: pt b51 (.cells #[.slice a0_0 x0.Trains.length c0_0, .slice a0_1 x0.Turns.length c0_1] 25 (0, 0)) :: R)) (m := x58.Legs.length) ⟨x58.Legs, 0, q99, q100, rfl, rfl, hq115, hE.pick _ ⟨rfl, rfl, rfl, rfl, rfl, rfl, rfl, rfl, rfl, rfl, trivial⟩, hS⟩ ?_
            clear hE hS a w hq115; rintro m123 a w ⟨rest119, k117, q126, q127, rfl, hd120, hq115, hE, hS⟩
            refine W.gen fun K128 hK128 => ?_
            rcases rest119 with _ | ⟨x118, rest119⟩
            · have hlt121 := drop_nil hd120
              refine W.seq ?_
              refine W.region ?_
              refine WL.vS hS hE (runs_plain rfl) (Gives.p hE rfl) rfl ?_; clear hE a; intro a hE
              refine WL.nil ?_
              refine W.seq ?_
              refine W.condF hE rfl (decide_eq_false (by omega)) ?_
              subst hK128
              refine W.exit rfl ?_
              exact ⟨q126, q127, Option.some.inj hq115, hE.pick _ ⟨rfl, rfl, rfl, rfl, rfl, rfl, rfl, trivial⟩, hS⟩
            · obtain ⟨hlt121, hx122, hd120⟩ := drop_cons hd120
              rw [PlanText.loop3] at hq115
              refine W.seq ?_
              refine W.region ?_
              refine WL.vS hS hE (runs_plain rfl) (Gives.p hE rfl) rfl ?_; clear hE a; intro a hE
              refine WL.nil ?_
              refine W.seq ?_
              refine W.condT hE rfl (decide_eq_true (by omega)) ?_
              refine W.skip ?_
              refine W.seq ?_
              refine W.block ?_
              refine W.seq ?_
              refine W.region ?_
              obtain ⟨cs129, hl130, hR131, hat132⟩ := h78.at hx122
              obtain ⟨a133, c134, rfl, h135⟩ := hR131
              refine WL.vS hS hE (runs_plain rfl) (Gives.idx hE k117 rfl rfl sl23 rfl hlt121 (h78.aok hlt121)) rfl ?_; clear hE a; intro a hE
              refine WL.vS hS hE (runs_plain rfl) (Gives.load1 hE rfl (fun w h => hat132 w _ h) ty33) rfl ?_; clear hE a; intro a hE
              refine WL.vS hS hE (runs_plain rfl) (Gives.p hE rfl) rfl ?_; clear hE a; intro a hE
              refine WL.nil ?_
              refine W.region ?_
              refine WL.vS hS hE (runs_plain rfl) (Gives.p hE rfl) rfl ?_; clear hE a; intro a hE
              refine WL.vS hS hE (runs_plain rfl) (Gives.p hE rfl) rfl ?_; clear hE a; intro a hE
              obtain ⟨q136, hq137, hq115⟩ := bindS hq115
              have hc_ := PlanText_1_v1_ok hS h135 hq137
              refine WL.fnw hE (hc_) rfl (runs_plain rfl) bd26 rfl rfl rfl ?_
              clear hE hS hc_; rintro e w ⟨rfl, hS⟩; refine ⟨_, rfl, ?_⟩; clear a; intro a hE
              refine WL.nil ?_
              refine W.region ?_
              refine WL.vS hS hE (runs_plain rfl) (Gives.inc hE rfl (by have := h78.small; omega)) rfl ?_; clear hE a; intro a hE
              refine WL.vS hS hE (runs_plain rfl) (Gives.p hE rfl) rfl ?_; clear hE a; intro a hE
              refine WL.nil ?_
              subst hK128
              exact ⟨rest119.length, Nat.lt_succ_self _, rest119, k117 + 1, q136.2, q136.1, rfl, hd120, hq115, hE.pick _ ⟨rfl, rfl, rfl, rfl, rfl, rfl, rfl, rfl, rfl, rfl, trivial⟩, hS⟩
          · clear hE hS a w; rintro a w ⟨q126, q127, rfl, hE, hS⟩
            dsimp only at hq55
            refine W.region ?_
            refine WL.vS hS hE (runs_plain rfl) (Gives.inc hE rfl (by have := h0_0.small; omega)) rfl ?_; clear hE a; intro a hE
            refine WL.vS hS hE (runs_plain rfl) (Gives.p hE rfl) rfl ?_; clear hE a; intro a hE
            refine WL.nil ?_
            replace hS := hS.dropAt 2
            subst hK68
            exact ⟨rest59.length, Nat.lt_succ_self _, rest59, k57 + 1, q126, q127, s97, rfl, hd60, (Sg.Le.trans (Sg.Le.trans hle65 hle84) hle98), hq55, hE.pick _ ⟨rfl, rfl, rfl, rfl, rfl, rfl, rfl, trivial⟩, hS⟩
    · clear hE hS a w; rintro a w ⟨q66, q67, s64, hle65, rfl, hE, hS⟩
      dsimp only at hr
      replace h0_0 := Sl.mono RApiTrain.mono hle65 h0_0
      replace h0_1 := Sl.mono (RL.mono RI.mono) hle65 h0_1
      refine W.seq ?_
      refine W.seq ?_
      refine W.region ?_
      refine WL.vS hS hE (runs_plain rfl) (Gives.fld hE rfl fl25_1) rfl ?_; clear hE a; intro a hE
      refine WL.vS hS hE (runs_plain rfl) (Gives.loadB hE 2 rfl rfl rfl ty23) rfl ?_; clear hE a; intro a hE
      refine WL.vS hS hE (runs_plain rfl) (Gives.len hE rfl sl23) rfl ?_; clear hE a; intro a hE
      refine WL.vS hS hE (runs_plain rfl) (Gives.p hE rfl) rfl ?_; clear hE a; intro a hE
      refine WL.nil ?_
      obtain ⟨q139, hq138, hr⟩ := bindS hr
      refine W.cut (fun a w => ∃ (q149 : ByteArray), ∃ (q150 : Bool), (q149, q150) = q139 ∧ Rep a 81 [(5, .pointer (some ⟨b53, 0, none⟩)), (6, .pointer (some ⟨b54, 0, none⟩))] ∧ St w s64 (pt b54 (.cells #[.bool q150] 4 (0, 0)) :: sbC 63 5 b53 q149 :: pt b51 (.cells #[.slice a0_0 x0.Trains.length c0_0, .slice a0_1 x0.Turns.length c0_1] 25 (0, 0)) :: R)) ?_ ?_
      · refine W.block ?_
        refine W.loop (fun m a w => ∃ (rest142 : List (List Int)) (k140 : Nat), ∃ (q149 : ByteArray), ∃ (q150 : Bool), rest142.length = m ∧ x0.Turns.drop k140 = rest142 ∧ PlanText.loop4 rest142 q149 q150 = some q139 ∧ Rep a 81 [(5, .pointer (some ⟨b53, 0, none⟩)), (6, .pointer (some ⟨b54, 0, none⟩)), (7, .func (.func 26) #[] #[.pointer (some ⟨b54, 0, none⟩), .pointer (some ⟨b53, 0, none⟩)]), (68, .slice a0_1 x0.Turns.length c0_1), (69, .int .i64 ((x0.Turns).length : Int)), (70, .int .i64 ((k140 : Nat) : Int))] ∧ St w s64 (pt b54 (.cells #[.bool q150] 4 (0, 0)) :: sbC 63 5 b53 q149 :: pt b51 (.cells #[.slice a0_0 x0.Trains.length c0_0, .slice a0_1 x0.Turns.length c0_1] 25 (0, 0)) :: R)) (m := x0.Turns.length) ⟨x0.Turns, 0, q66, q67, rfl, rfl, hq138, hE.pick _ ⟨rfl, rfl, rfl, rfl, rfl, rfl, trivial⟩, hS⟩ ?_
        clear hE hS a w hq138; rintro m146 a w ⟨rest142, k140, q149, q150, rfl, hd143, hq138, hE, hS⟩
        refine W.gen fun K151 hK151 => ?_
        rcases rest142 with _ | ⟨x141, rest142⟩
        · have hlt144 := drop_nil hd143
          refine W.seq ?_
          refine W.region ?_
          refine WL.vS hS hE (runs_plain rfl) (Gives.p hE rfl) rfl ?_; clear hE a; intro a hE
          refine WL.nil ?_
          refine W.seq ?_
          refine W.condF hE rfl (decide_eq_false (by omega)) ?_
          subst hK151
          refine W.exit rfl ?_
          exact ⟨q149, q150, Option.some.inj hq138, hE.pick _ ⟨rfl, rfl, trivial⟩, hS⟩
        · obtain ⟨hlt144, hx145, hd143⟩ := drop_cons hd143
          rw [PlanText.loop4] at hq138
          refine W.seq ?_
          refine W.region ?_
          refine WL.vS hS hE (runs_plain rfl) (Gives.p hE rfl) rfl ?_; clear hE a; intro a hE
          refine WL.nil ?_
          refine W.seq ?_
          refine W.condT hE rfl (decide_eq_true (by omega)) ?_
          refine W.skip ?_
          refine W.seq ?_
          refine W.block ?_
          refine W.seq ?_
          refine W.region ?_
          obtain ⟨cs152, hl153, hR154, hat155⟩ := h0_1.at hx145
          obtain ⟨a156, c157, rfl, h158⟩ := hR154
          refine WL.vS hS hE (runs_plain rfl) (Gives.idx hE k140 rfl rfl sl23 rfl hlt144 (h0_1.aok hlt144)) rfl ?_; clear hE a; intro a hE
          refine WL.vS hS hE (runs_plain rfl) (Gives.load1 hE rfl (fun w h => hat155 w _ h) ty33) rfl ?_; clear hE a; intro a hE
          refine WL.vS hS hE (runs_plain rfl) (Gives.p hE rfl) rfl ?_; clear hE a; intro a hE
          refine WL.nil ?_
          refine W.region ?_
          refine WL.vS hS hE (runs_plain rfl) (Gives.p hE rfl) rfl ?_; clear hE a; intro a hE
          refine WL.vS hS hE (runs_plain rfl) (Gives.p hE rfl) rfl ?_; clear hE a; intro a hE
          obtain ⟨q159, hq160, hq138⟩ := bindS hq138
          have hc_ := PlanText_1_v1_ok hS h158 hq160
          refine WL.fnw hE (hc_) rfl (runs_plain rfl) bd26 rfl rfl rfl ?_
          clear hE hS hc_; rintro e w ⟨rfl, hS⟩; refine ⟨_, rfl, ?_⟩; clear a; intro a hE
          refine WL.nil ?_
          refine W.region ?_
          refine WL.vS hS hE (runs_plain rfl) (Gives.inc hE rfl (by have := h0_1.small; omega)) rfl ?_; clear hE a; intro a hE
          refine WL.vS hS hE (runs_plain rfl) (Gives.p hE rfl) rfl ?_; clear hE a; intro a hE
          refine WL.nil ?_
          subst hK151
          exact ⟨rest142.length, Nat.lt_succ_self _, rest142, k140 + 1, q159.2, q159.1, rfl, hd143, hq138, hE.pick _ ⟨rfl, rfl, rfl, rfl, rfl, rfl, trivial⟩, hS⟩
      · clear hE hS a w; rintro a w ⟨q149, q150, rfl, hE, hS⟩
        dsimp only at hr
        refine W.seq ?_
        refine W.seq ?_
        refine W.region ?_
        refine WL.vS hS hE (runs_plain rfl) (Gives.loadB hE 0 rfl rfl rfl ty4) rfl ?_; clear hE a; intro a hE
        refine WL.vS hS hE (runs_plain rfl) (Gives.p hE rfl) rfl ?_; clear hE a; intro a hE
        refine WL.nil ?_
        refine W.cond hE rfl (fun hc161 => ?_) (fun hc161 => ?_)
        · replace hr := iteT hc161 hr
          refine W.seq ?_
          refine W.region ?_
          refine WL.vS hS hE (runs_plain rfl) (Gives.p hE rfl) rfl ?_; clear hE a; intro a hE
          refine WL.vS hS hE (runs_plain rfl) (Gives.p hE rfl) rfl ?_; clear hE a; intro a hE
          refine WL.nil ?_
          refine W.ret ?_
          refine finG (fn := Tryd.f12) (rs := [.tmp 2, .tmp 3]) (vs := [_, _]) hE rfl ⟨rfl, rfl, trivial⟩ ?_
          obtain rfl := Option.some.inj hr
          replace hS := hS.tail
          replace hS := hS.tail
          replace hS := hS.tail
          exact ⟨rfl, (hS.down hle65)⟩
        · replace hr := iteF hc161 hr
          refine W.skip ?_
          refine W.seq ?_
          refine W.region ?_
          replace hS := hS.front 1 rfl
          refine WL.fnq hE (sbString_ok hS) (runs_plain rfl) bd29 rfl rfl rfl ?_
          clear hE hS; rintro e w ⟨rfl, hS⟩; refine ⟨_, rfl, ?_⟩; clear a; intro a hE
          refine WL.vS hS hE (runs_plain rfl) (Gives.p hE rfl) rfl ?_; clear hE a; intro a hE
          refine WL.vS hS hE (runs_plain rfl) (Gives.p hE rfl) rfl ?_; clear hE a; intro a hE
          refine WL.nil ?_
          refine W.ret ?_
          refine finG (fn := Tryd.f12) (rs := [.tmp 2, .tmp 3]) (vs := [_, _]) hE rfl ⟨rfl, rfl, trivial⟩ ?_
          obtain rfl := Option.some.inj hr
          replace hS := hS.tail
          replace hS := hS.tail
          exact ⟨rfl, (hS.down hle65)⟩
set_option maxHeartbeats 8000000 in
theorem Fishlaw2plans_ok  {w : World} {s : Sg} {R : List HP}  (hS : St w s (R))  {r : Bool} (hr : Fishlaw2plans = some r) :
    Calls Tryd.prog 5 [].toArray w (fun e w => e = .returned (.bool r) ∧ St w s (R)) := by
  refine enter Tryd.func5 rfl rfl rfl fun a hE => ?_
  rw [Fishlaw2plans] at hr
  refine W.seq ?_
  refine W.region ?_
  refine WL.vS hS hE (runs_plain rfl) (Gives.p hE rfl) rfl ?_; clear hE a; intro a hE
  refine WL.nil ?_
  refine W.seq ?_
  refine W.region ?_
  refine WL.vS hS hE (runs_plain rfl) (Gives.build hE (vs := [(3, .int .i64 3)]) [.int .i64 0, .int .i64 0, .int .i64 0, .int .i64 3] rfl (by kernel_rfl)) rfl ?_; clear hE a; intro a hE
  refine WL.vS hS hE (runs_plain rfl) (Gives.build hE (vs := [(0, .int .i64 1), (1, .int .i64 5), (2, .int .i64 9), (3, .int .i64 9)]) [.int .i64 1, .int .i64 5, .int .i64 9, .int .i64 9] rfl (by kernel_rfl)) rfl ?_; clear hE a; intro a hE
  refine WL.lit hE hS (e := 31) (es := 4) (vs := [(0, .agg [.int .i64 0, .int .i64 0, .int .i64 0, .int .i64 3].toArray), (1, .agg [.int .i64 1, .int .i64 5, .int .i64 9, .int .i64 9].toArray)]) (cs := [.int .i64 0, .int .i64 0, .int .i64 0, .int .i64 3, .int .i64 1, .int .i64 5, .int .i64 9, .int .i64 9]) (runs_plain rfl) rfl (by kernel_rfl) rfl ?_; clear hE hS a w; intro b51 a w hE hS
  replace hS := hS.ptVec (es := 4) (m := 2) rfl (by decide)
  have h53 : Ev 4 RApiStop s [.int .i64 0, .int .i64 0, .int .i64 0, .int .i64 3, .int .i64 1, .int .i64 5, .int .i64 9, .int .i64 9] [(ApiStop.mk 0 0 0 3), (ApiStop.mk 1 5 9 9)] := (Ev.cons (c1 := [.int .i64 0, .int .i64 0, .int .i64 0, .int .i64 3]) rfl rfl (Ev.cons (c1 := [.int .i64 1, .int .i64 5, .int .i64 9, .int .i64 9]) rfl rfl (Ev.nil)))
  have hF := hS.fixD RApiStop.mono 0 rfl h53 (rfl); clear hS; obtain ⟨s54, hle55, hS, h56⟩ := hF
  refine WL.lit hE hS (e := 3) (es := 1) (vs := [(0, .int .i64 0), (1, .int .i64 3)]) (cs := [.int .i64 0, .int .i64 3]) (runs_plain rfl) rfl (by kernel_rfl) rfl ?_; clear hE hS a w; intro b57 a w hE hS
  replace hS := hS.ptVec (es := 1) (m := 2) rfl (by decide)
  have h59 : Ev 1 (RI .i64) s54 [.int .i64 0, .int .i64 3] [0, 3] := (Ev.cons (c1 := [.int .i64 0]) rfl rfl (Ev.cons (c1 := [.int .i64 3]) rfl rfl (Ev.nil)))
  have hF := hS.fixD RI.mono 0 rfl h59 (rfl); clear hS; obtain ⟨s60, hle61, hS, h62⟩ := hF
  replace h56 := Sl.mono RApiStop.mono hle61 h56
  refine WL.lit hE hS (e := 33) (es := 1) (vs := [(0, .slice (some ⟨b57, 0, none⟩) 2 2)]) (cs := [.slice (some ⟨b57, 0, none⟩) 2 2]) (runs_plain rfl) rfl (by kernel_rfl) rfl ?_; clear hE hS a w; intro b63 a w hE hS
  replace hS := hS.ptVec (es := 1) (m := 1) rfl (by decide)
  have h65 : Ev 1 (RL 1 (RI .i64)) s60 [.slice (some ⟨b57, 0, none⟩) 2 2] [[0, 3]] := (Ev.cons (c1 := [.slice (some ⟨b57, 0, none⟩) 2 2]) ⟨_, _, rfl, h62⟩ rfl (Ev.nil))
  have hF := hS.fixD (RL.mono RI.mono) 0 rfl h65 (rfl); clear hS; obtain ⟨s66, hle67, hS, h68⟩ := hF
  replace h56 := Sl.mono RApiStop.mono hle67 h56
  replace h62 := Sl.mono RI.mono hle67 h62
  refine WL.vS hS hE (runs_plain rfl) (Gives.build hE (vs := [(0, .int .i64 7), (2, .slice (some ⟨b51, 0, none⟩) 2 2), (3, .slice (some ⟨b63, 0, none⟩) 1 1)]) [.int .i64 7, .int .i64 0, .slice (some ⟨b51, 0, none⟩) 2 2, .slice (some ⟨b63, 0, none⟩) 1 1] rfl (by kernel_rfl)) rfl ?_; clear hE a; intro a hE
  refine WL.lit hE hS (e := 29) (es := 4) (vs := [(0, .agg [.int .i64 7, .int .i64 0, .slice (some ⟨b51, 0, none⟩) 2 2, .slice (some ⟨b63, 0, none⟩) 1 1].toArray)]) (cs := [.int .i64 7, .int .i64 0, .slice (some ⟨b51, 0, none⟩) 2 2, .slice (some ⟨b63, 0, none⟩) 1 1]) (runs_plain rfl) rfl (by kernel_rfl) rfl ?_; clear hE hS a w; intro b69 a w hE hS
  replace hS := hS.ptVec (es := 4) (m := 1) rfl (by decide)
  have h71 : Ev 4 RApiTrain s66 [.int .i64 7, .int .i64 0, .slice (some ⟨b51, 0, none⟩) 2 2, .slice (some ⟨b63, 0, none⟩) 1 1] [(ApiTrain.mk 7 0 [(ApiStop.mk 0 0 0 3), (ApiStop.mk 1 5 9 9)] [[0, 3]])] := (Ev.cons (c1 := [.int .i64 7, .int .i64 0, .slice (some ⟨b51, 0, none⟩) 2 2, .slice (some ⟨b63, 0, none⟩) 1 1]) ⟨_, _, _, _, rfl, h56, h68⟩ rfl (Ev.nil))
  have hF := hS.fixD RApiTrain.mono 0 rfl h71 (rfl); clear hS; obtain ⟨s72, hle73, hS, h74⟩ := hF
  replace h56 := Sl.mono RApiStop.mono hle73 h56
  replace h62 := Sl.mono RI.mono hle73 h62
  replace h68 := Sl.mono (RL.mono RI.mono) hle73 h68
  refine WL.lit hE hS (e := 3) (es := 1) (vs := [(0, .int .i64 0)]) (cs := [.int .i64 0]) (runs_plain rfl) rfl (by kernel_rfl) rfl ?_; clear hE hS a w; intro b75 a w hE hS
  replace hS := hS.ptVec (es := 1) (m := 1) rfl (by decide)
  have h77 : Ev 1 (RI .i64) s72 [.int .i64 0] [0] := (Ev.cons (c1 := [.int .i64 0]) rfl rfl (Ev.nil))
  have hF := hS.fixD RI.mono 0 rfl h77 (rfl); clear hS; obtain ⟨s78, hle79, hS, h80⟩ := hF
  replace h56 := Sl.mono RApiStop.mono hle79 h56
  replace h62 := Sl.mono RI.mono hle79 h62
  replace h68 := Sl.mono (RL.mono RI.mono) hle79 h68
  replace h74 := Sl.mono RApiTrain.mono hle79 h74
  refine WL.lit hE hS (e := 33) (es := 1) (vs := [(0, .slice (some ⟨b75, 0, none⟩) 1 1)]) (cs := [.slice (some ⟨b75, 0, none⟩) 1 1]) (runs_plain rfl) rfl (by kernel_rfl) rfl ?_; clear hE hS a w; intro b81 a w hE hS
  replace hS := hS.ptVec (es := 1) (m := 1) rfl (by decide)
  have h83 : Ev 1 (RL 1 (RI .i64)) s78 [.slice (some ⟨b75, 0, none⟩) 1 1] [[0]] := (Ev.cons (c1 := [.slice (some ⟨b75, 0, none⟩) 1 1]) ⟨_, _, rfl, h80⟩ rfl (Ev.nil))
  have hF := hS.fixD (RL.mono RI.mono) 0 rfl h83 (rfl); clear hS; obtain ⟨s84, hle85, hS, h86⟩ := hF
  replace h56 := Sl.mono RApiStop.mono hle85 h56
  replace h62 := Sl.mono RI.mono hle85 h62
  replace h68 := Sl.mono (RL.mono RI.mono) hle85 h68
  replace h74 := Sl.mono RApiTrain.mono hle85 h74
  replace h80 := Sl.mono RI.mono hle85 h80
  refine WL.vS hS hE (runs_plain rfl) (Gives.build hE (vs := [(0, .slice (some ⟨b69, 0, none⟩) 1 1), (1, .slice (some ⟨b81, 0, none⟩) 1 1)]) [.slice (some ⟨b69, 0, none⟩) 1 1, .slice (some ⟨b81, 0, none⟩) 1 1] rfl (by kernel_rfl)) rfl ?_; clear hE a; intro a hE
  obtain ⟨q87, hq88, hr⟩ := bindS hr
  have hc_ := PlanText_ok hS h74 h86 hq88
  refine WL.fnq hE (hc_) (runs_plain rfl) bd12 rfl rfl rfl ?_
  clear hE hS hc_; rintro e w ⟨rfl, hS⟩; refine ⟨_, rfl, ?_⟩; clear a; intro a hE
  refine WL.vS hS hE (runs_plain rfl) (Gives.p hE rfl) rfl ?_; clear hE a; intro a hE
  refine WL.vS hS hE (runs_plain rfl) (Gives.p hE rfl) rfl ?_; clear hE a; intro a hE
  refine WL.vS hS hE (runs_plain rfl) (Gives.p hE rfl) rfl ?_; clear hE a; intro a hE
  refine WL.vS hS hE (runs_plain rfl) (Gives.p hE rfl) rfl ?_; clear hE a; intro a hE
  refine WL.vS hS hE (runs_plain rfl) (Gives.p hE rfl) rfl ?_; clear hE a; intro a hE
  refine WL.nil ?_
  refine W.seq ?_
  obtain ⟨q90, hq89, hr⟩ := bndS hr
  refine W.cut (fun a w => ∃ (q93 : Bool), q93 = q90 ∧ Rep a 23 [(0, .bool q93)] ∧ St w s84 (R)) ?_ ?_
  · refine W.gen fun K94 hK94 => ?_
    refine W.region ?_
    refine WL.vS hS hE (runs_plain rfl) (Gives.p hE rfl) rfl ?_; clear hE a; intro a hE
    refine WL.vS hS hE (runs_plain rfl) (Gives.p hE rfl) rfl ?_; clear hE a; intro a hE
    refine WL.vS hS hE (runs_plain rfl) (Gives.p hE rfl) rfl ?_; clear hE a; intro a hE
    rcases Bool.eq_false_or_eq_true (q87.2 == 0) with hg95 | hg95
    · replace hq89 := iteT hg95 hq89
      refine WL.vS hS hE (runs_if hE rfl rfl rfl hg95) (Gives.p hE rfl) rfl ?_; clear hE a; intro a hE
      refine WL.vS hS hE (runs_if hE rfl rfl rfl hg95) (Gives.eqSt hE rfl rfl) rfl ?_; clear hE a; intro a hE
      refine WL.vS hS hE (runs_plain rfl) (Gives.pickT hE rfl hg95 rfl) rfl ?_; clear hE a; intro a hE
      refine WL.vS hS hE (runs_plain rfl) (Gives.p hE rfl) rfl ?_; clear hE a; intro a hE
      refine WL.nil ?_
      subst hK94
      exact ⟨(seq q87.1 (str [116, 114, 97, 105, 110, 32, 55, 32, 48, 10, 115, 116, 111, 112, 32, 48, 32, 48, 32, 48, 32, 51, 10, 115, 116, 111, 112, 32, 49, 32, 53, 32, 57, 32, 57, 10, 108, 101, 103, 32, 48, 32, 51, 10, 116, 117, 114, 110, 32, 48, 10])), hq89, hE.pick _ ⟨rfl, trivial⟩, hS⟩
    · replace hq89 := iteF hg95 hq89
      refine WL.no hE (runs_not hE rfl rfl rfl (by rw [hg95]; decide)) rfl ?_; clear hE a; intro a hE
      refine WL.no hE (runs_not hE rfl rfl rfl (by rw [hg95]; decide)) rfl ?_; clear hE a; intro a hE
      refine WL.vS hS hE (runs_plain rfl) (Gives.pickF hE rfl hg95 rfl) rfl ?_; clear hE a; intro a hE
      refine WL.vS hS hE (runs_plain rfl) (Gives.p hE rfl) rfl ?_; clear hE a; intro a hE
      refine WL.nil ?_
      subst hK94
      exact ⟨false, hq89, hE.pick _ ⟨rfl, trivial⟩, hS⟩
  · clear hE hS a w; rintro a w ⟨q93, rfl, hE, hS⟩
    refine W.ret ?_
    refine finG (fn := Tryd.f5) (rs := [.tmp 0]) (vs := [_]) hE rfl ⟨rfl, trivial⟩ ?_
    obtain rfl := Option.some.inj hr
    exact ⟨rfl, (hS.down (Sg.Le.trans (Sg.Le.trans (Sg.Le.trans (Sg.Le.trans (Sg.Le.trans hle55 hle61) hle67) hle73) hle79) hle85))⟩
set_option maxHeartbeats 8000000 in
theorem PlanhasStop_ok  {w : World} {s : Sg} {R : List HP} {x0 : ApiDay} {a0_0 : Option Addr} {c0_0 : Nat} {a0_1 : Option Addr} {c0_1 : Nat} {x1 : Int} {x2 : Int} (hS : St w s (R)) (h0_0 : Sl 4 RApiTrain s a0_0 c0_0 x0.Trains) (_h0_1 : Sl 1 (RL 1 (RI .i64)) s a0_1 c0_1 x0.Turns) {r : Bool} (hr : PlanhasStop x0 x1 x2 = some r) :
    Calls Tryd.prog 13 [.agg [.slice a0_0 x0.Trains.length c0_0, .slice a0_1 x0.Turns.length c0_1].toArray, .int .i64 x1, .int .i64 x2].toArray w (fun e w => e = .returned (.bool r) ∧ St w s (R)) := by
  refine enter Tryd.func13 rfl rfl rfl fun a hE => ?_
  rw [PlanhasStop] at hr
  refine W.seq ?_
  refine W.region ?_
  refine WL.box hE hS (runs_plain rfl) rfl rfl rfl ?_; clear hE hS a w; intro b51 a w hE hS
  refine WL.vS hS hE (runs_plain rfl) (Gives.p hE rfl) rfl ?_; clear hE a; intro a hE
  refine WL.nil ?_
  refine W.seq ?_
  obtain ⟨q53, hq52, hr⟩ := bindS hr
  refine W.cut (fun a w => ∃ (q56 : Bool), q56 = q53 ∧ Rep a 25 [(6, .bool q56)] ∧ St w s (pt b51 (.cells #[.slice a0_0 x0.Trains.length c0_0, .slice a0_1 x0.Turns.length c0_1] 25 (0, 0)) :: R)) ?_ ?_
  · refine W.gen fun K57 hK57 => ?_
    refine W.region ?_
    refine WL.vS hS hE (runs_plain rfl) (Gives.p hE rfl) rfl ?_; clear hE a; intro a hE
    refine WL.vS hS hE (runs_plain rfl) (Gives.fld hE rfl fl25_0) rfl ?_; clear hE a; intro a hE
    refine WL.vS hS hE (runs_plain rfl) (Gives.loadB hE 0 rfl rfl rfl ty22) rfl ?_; clear hE a; intro a hE
    refine WL.vS hS hE (runs_plain rfl) (Gives.len hE rfl sl22) rfl ?_; clear hE a; intro a hE
    refine WL.vS hS hE (runs_plain rfl) (Gives.p hE rfl) rfl ?_; clear hE a; intro a hE
    refine WL.fnq hE (Planwithin_ok hS  rfl (r := Planwithin x1 0 (w64 (((x0.Trains).length : Int) - 1)))) (runs_plain rfl) bd14 rfl rfl rfl ?_
    clear hE hS; rintro e w ⟨rfl, hS⟩; refine ⟨_, rfl, ?_⟩; clear a; intro a hE
    refine WL.vS hS hE (runs_plain rfl) (Gives.p hE rfl) rfl ?_; clear hE a; intro a hE
    rcases Bool.eq_false_or_eq_true (Planwithin x1 0 (w64 (((x0.Trains).length : Int) - 1))) with hg58 | hg58
    · replace hq52 := iteT hg58 hq52
      refine WL.vS hS hE (runs_if hE rfl rfl rfl hg58) (Gives.p hE rfl) rfl ?_; clear hE a; intro a hE
      refine WL.vS hS hE (runs_if hE rfl rfl rfl hg58) (Gives.fld hE rfl fl25_0) rfl ?_; clear hE a; intro a hE
      refine WL.vS hS hE (runs_if hE rfl rfl rfl hg58) (Gives.loadB hE 0 rfl rfl rfl ty22) rfl ?_; clear hE a; intro a hE
      refine WL.vS hS hE (runs_if hE rfl rfl rfl hg58) (Gives.p hE rfl) rfl ?_; clear hE a; intro a hE
      obtain ⟨x59, hx60, hq52⟩ := bindS hq52
      obtain ⟨hi61, hlt62, hy63⟩ := gx_some hx60
      obtain ⟨cs64, hl65, hR66, hat67⟩ := h0_0.at hy63
      obtain ⟨a68, c69, a71, c72, rfl, h70, h73⟩ := hR66
      refine WL.vS hS hE (runs_if hE rfl rfl rfl hg58) (Gives.idx hE (x1).toNat rfl rfl sl22 hi61 hlt62 (h0_0.aok hlt62)) rfl ?_; clear hE a; intro a hE
      refine WL.vS hS hE (runs_if hE rfl rfl rfl hg58) (Gives.fld hE rfl fl29_2) rfl ?_; clear hE a; intro a hE
      refine WL.vS hS hE (runs_if hE rfl rfl rfl hg58) (Gives.load1 hE rfl (fun w h => (hat67 w _ h).one rfl) ty27) rfl ?_; clear hE a; intro a hE
      refine WL.vS hS hE (runs_if hE rfl rfl rfl hg58) (Gives.len hE rfl sl27) rfl ?_; clear hE a; intro a hE
      refine WL.vS hS hE (runs_if hE rfl rfl rfl hg58) (Gives.p hE rfl) rfl ?_; clear hE a; intro a hE
      refine WL.fnq hE (Planwithin_ok hS  rfl (r := Planwithin x2 0 (w64 (((x59.Stops).length : Int) - 1)))) (runs_if hE rfl rfl rfl hg58) bd14 rfl rfl rfl ?_
      clear hE hS; rintro e w ⟨rfl, hS⟩; refine ⟨_, rfl, ?_⟩; clear a; intro a hE
      refine WL.vS hS hE (runs_plain rfl) (Gives.pickT hE rfl hg58 rfl) rfl ?_; clear hE a; intro a hE
      refine WL.vS hS hE (runs_plain rfl) (Gives.p hE rfl) rfl ?_; clear hE a; intro a hE
      refine WL.nil ?_
      subst hK57
      exact ⟨(Planwithin x2 0 (w64 (((x59.Stops).length : Int) - 1))), Option.some.inj hq52, hE.pick _ ⟨rfl, trivial⟩, hS⟩
    · replace hq52 := iteF hg58 hq52
      refine WL.no hE (runs_not hE rfl rfl rfl (by rw [hg58]; decide)) rfl ?_; clear hE a; intro a hE
      refine WL.no hE (runs_not hE rfl rfl rfl (by rw [hg58]; decide)) rfl ?_; clear hE a; intro a hE
      refine WL.no hE (runs_not hE rfl rfl rfl (by rw [hg58]; decide)) rfl ?_; clear hE a; intro a hE
      refine WL.no hE (runs_not hE rfl rfl rfl (by rw [hg58]; decide)) rfl ?_; clear hE a; intro a hE
      refine WL.no hE (runs_not hE rfl rfl rfl (by rw [hg58]; decide)) rfl ?_; clear hE a; intro a hE
      refine WL.no hE (runs_not hE rfl rfl rfl (by rw [hg58]; decide)) rfl ?_; clear hE a; intro a hE
      refine WL.no hE (runs_not hE rfl rfl rfl (by rw [hg58]; decide)) rfl ?_; clear hE a; intro a hE
      refine WL.no hE (runs_not hE rfl rfl rfl (by rw [hg58]; decide)) rfl ?_; clear hE a; intro a hE
      refine WL.no hE (runs_not hE rfl rfl rfl (by rw [hg58]; decide)) rfl ?_; clear hE a; intro a hE
      refine WL.no hE (runs_not hE rfl rfl rfl (by rw [hg58]; decide)) rfl ?_; clear hE a; intro a hE
      refine WL.vS hS hE (runs_plain rfl) (Gives.pickF hE rfl hg58 rfl) rfl ?_; clear hE a; intro a hE
      refine WL.vS hS hE (runs_plain rfl) (Gives.p hE rfl) rfl ?_; clear hE a; intro a hE
      refine WL.nil ?_
      subst hK57
      exact ⟨false, Option.some.inj hq52, hE.pick _ ⟨rfl, trivial⟩, hS⟩
  · clear hE hS a w; rintro a w ⟨q56, rfl, hE, hS⟩
    refine W.ret ?_
    refine finG (fn := Tryd.f13) (rs := [.tmp 6]) (vs := [_]) hE rfl ⟨rfl, trivial⟩ ?_
    obtain rfl := Option.some.inj hr
    replace hS := hS.tail
    exact ⟨rfl, hS⟩
set_option maxHeartbeats 8000000 in
theorem PlanMissed_ok  {w : World} {s : Sg} {R : List HP} {x0 : ApiDay} {a0_0 : Option Addr} {c0_0 : Nat} {a0_1 : Option Addr} {c0_1 : Nat} {x1 : List PlanMeet} {a1 : Option Addr} {c1 : Nat} (hS : St w s (R)) (h0_0 : Sl 4 RApiTrain s a0_0 c0_0 x0.Trains) (h0_1 : Sl 1 (RL 1 (RI .i64)) s a0_1 c0_1 x0.Turns) (h1 : Sl 5 RPlanMeet s a1 c1 x1) {r : (List Int) × Int} (hr : PlanMissed x0 x1 = some r) :
    Calls Tryd.prog 6 [.agg [.slice a0_0 x0.Trains.length c0_0, .slice a0_1 x0.Turns.length c0_1].toArray, .slice a1 x1.length c1].toArray w (fun e w => ∃ (a0 : Option Addr) (c0 n0 : Nat) (cs0 : List Value), e = .returned (.tuple #[.slice a0 n0 c0, .int .i64 r.2]) ∧ Ev 1 (RI .i64) s cs0 r.1 ∧ r.1.length = n0 ∧ St w s (vecC 3 1 a0 c0 n0 cs0 :: R)) := by
  refine enter Tryd.func6 rfl rfl rfl fun a hE => ?_
  rw [PlanMissed] at hr
  refine W.seq ?_
  refine W.region ?_
  refine WL.box hE hS (runs_plain rfl) rfl rfl rfl ?_; clear hE hS a w; intro b51 a w hE hS
  refine WL.vS hS hE (runs_plain rfl) (Gives.p hE rfl) rfl ?_; clear hE a; intro a hE
  refine WL.vS hS hE (runs_plain rfl) (Gives.p hE rfl) rfl ?_; clear hE a; intro a hE
  refine WL.nil ?_
  refine W.seq ?_
  refine W.seq ?_
  refine W.region ?_
  refine WL.vS hS hE (runs_plain rfl) (Gives.p hE rfl) rfl ?_; clear hE a; intro a hE
  refine WL.vS hS hE (runs_plain rfl) (Gives.len hE rfl sl26) rfl ?_; clear hE a; intro a hE
  refine WL.vS hS hE (runs_plain rfl) (Gives.p hE rfl) rfl ?_; clear hE a; intro a hE
  refine WL.nil ?_
  refine W.cond hE rfl (fun hc52 => ?_) (fun hc52 => ?_)
  · replace hr := iteT hc52 hr
    refine W.seq ?_
    refine W.region ?_
    refine WL.vS hS hE (runs_plain rfl) (Gives.p hE rfl) rfl ?_; clear hE a; intro a hE
    refine WL.vS hS hE (runs_plain rfl) (Gives.p hE rfl) rfl ?_; clear hE a; intro a hE
    refine WL.nil ?_
    refine W.ret ?_
    replace hS := hS.vecNil 3 1
    refine finG (fn := Tryd.f6) (rs := [.tmp 4, .tmp 5]) (vs := [_, _]) hE rfl ⟨rfl, rfl, trivial⟩ ?_
    obtain rfl := Option.some.inj hr
    replace hS := hS.dropAt 1
    exact ⟨none, 0, 0, [], rfl, (Ev.nil), (rfl), hS⟩
  · replace hr := iteF hc52 hr
    refine W.skip ?_
    refine W.seq ?_
    refine W.seq ?_
    refine W.region ?_
    refine WL.vS hS hE (runs_plain rfl) (Gives.p hE rfl) rfl ?_; clear hE a; intro a hE
    refine WL.vS hS hE (runs_plain rfl) (Gives.len hE rfl sl26) rfl ?_; clear hE a; intro a hE
    refine WL.vS hS hE (runs_plain rfl) (Gives.p hE rfl) rfl ?_; clear hE a; intro a hE
    refine WL.nil ?_
    obtain ⟨q55, hq54, hr⟩ := bindS hr
    refine W.cut (fun a w => (.next ()) = q55 ∧ Rep a 102 [(1, .slice a1 x1.length c1), (2, .pointer (some ⟨b51, 0, none⟩))] ∧ St w s (pt b51 (.cells #[.slice a0_0 x0.Trains.length c0_0, .slice a0_1 x0.Turns.length c0_1] 25 (0, 0)) :: R)) ?_ ?_
    · refine W.block ?_
      refine W.loop (fun m a w => ∃ (rest58 : List PlanMeet) (k56 : Nat), rest58.length = m ∧ x1.drop k56 = rest58 ∧ PlanMissed.loop1 x0 rest58 = some q55 ∧ Rep a 102 [(1, .slice a1 x1.length c1), (2, .pointer (some ⟨b51, 0, none⟩)), (14, .slice a1 x1.length c1), (15, .int .i64 ((x1).length : Int)), (16, .int .i64 ((k56 : Nat) : Int))] ∧ St w s (pt b51 (.cells #[.slice a0_0 x0.Trains.length c0_0, .slice a0_1 x0.Turns.length c0_1] 25 (0, 0)) :: R)) (m := x1.length) ⟨x1, 0, rfl, rfl, hq54, hE.pick _ ⟨rfl, rfl, rfl, rfl, rfl, trivial⟩, hS⟩ ?_
      clear hE hS a w hq54; rintro m62 a w ⟨rest58, k56, rfl, hd59, hq54, hE, hS⟩
      refine W.gen fun K65 hK65 => ?_
      rcases rest58 with _ | ⟨x57, rest58⟩
      · have hlt60 := drop_nil hd59
        refine W.seq ?_
        refine W.region ?_
        refine WL.vS hS hE (runs_plain rfl) (Gives.p hE rfl) rfl ?_; clear hE a; intro a hE
        refine WL.nil ?_
        refine W.seq ?_
        refine W.condF hE rfl (decide_eq_false (by omega)) ?_
        subst hK65
        refine W.exit rfl ?_
        exact ⟨Option.some.inj hq54, hE.pick _ ⟨rfl, rfl, trivial⟩, hS⟩
      · obtain ⟨hlt60, hx61, hd59⟩ := drop_cons hd59
        rw [PlanMissed.loop1] at hq54
        refine W.seq ?_
        refine W.region ?_
        refine WL.vS hS hE (runs_plain rfl) (Gives.p hE rfl) rfl ?_; clear hE a; intro a hE
        refine WL.nil ?_
        refine W.seq ?_
        refine W.condT hE rfl (decide_eq_true (by omega)) ?_
        refine W.skip ?_
        refine W.seq ?_
        refine W.block ?_
        refine W.seq ?_
        refine W.region ?_
        obtain ⟨cs66, hl67, hR68, hat69⟩ := h1.at hx61
        subst hR68
        refine WL.vS hS hE (runs_plain rfl) (Gives.idx hE k56 rfl rfl sl26 rfl hlt60 (h1.aok hlt60)) rfl ?_; clear hE a; intro a hE
        refine WL.vS hS hE (runs_plain rfl) (Gives.loadA hE rfl (fun w h => hat69 w _ h) ty46) rfl ?_; clear hE a; intro a hE
        refine WL.alloc hE hS (runs_plain rfl) zr46 rfl ?_; clear hE hS a w; intro b70 a w hE hS
        refine WL.storeI hE hS 0 rfl (PlanMeet.cells x57) (runs_plain rfl) rfl rfl rfl ty46 rfl rfl rfl rfl ?_; clear hE hS a w; intro a w hE hS
        refine WL.nil ?_
        refine W.block ?_
        refine W.seq ?_
        obtain ⟨q72, hq71, hq54⟩ := bindS hq54
        refine W.cut (fun a w => ∃ (q75 : Bool), q75 = q72 ∧ Rep a 102 [(1, .slice a1 x1.length c1), (2, .pointer (some ⟨b51, 0, none⟩)), (7, .pointer (some ⟨b70, 0, none⟩)), (14, .slice a1 x1.length c1), (15, .int .i64 ((x1).length : Int)), (16, .int .i64 ((k56 : Nat) : Int)), (20, .bool q75)] ∧ St w s (pt b70 (.cells (PlanMeet.cells x57).toArray 46 (0, 0)) :: pt b51 (.cells #[.slice a0_0 x0.Trains.length c0_0, .slice a0_1 x0.Turns.length c0_1] 25 (0, 0)) :: R)) ?_ ?_
        · refine W.gen fun K76 hK76 => ?_
          refine W.region ?_
          refine WL.vS hS hE (runs_plain rfl) (Gives.loadBA hE 1 rfl rfl ty25) rfl ?_; clear hE a; intro a hE
          refine WL.vS hS hE (runs_plain rfl) (Gives.fld hE rfl fl46_0) rfl ?_; clear hE a; intro a hE
          refine WL.vS hS hE (runs_plain rfl) (Gives.loadB hE 0 rfl rfl rfl ty3) rfl ?_; clear hE a; intro a hE
          refine WL.vS hS hE (runs_plain rfl) (Gives.fld hE rfl fl46_1) rfl ?_; clear hE a; intro a hE
          refine WL.vS hS hE (runs_plain rfl) (Gives.loadB hE 0 rfl rfl rfl ty3) rfl ?_; clear hE a; intro a hE
          obtain ⟨q77, hq78, hq71⟩ := bindS hq71
          have hc_ := PlanhasStop_ok hS h0_0 h0_1 hq78
          refine WL.fnq hE (hc_) (runs_plain rfl) bd13 rfl rfl rfl ?_
          clear hE hS hc_; rintro e w ⟨rfl, hS⟩; refine ⟨_, rfl, ?_⟩; clear a; intro a hE
          refine WL.vS hS hE (runs_plain rfl) (Gives.p hE rfl) rfl ?_; clear hE a; intro a hE
          refine WL.vS hS hE (runs_plain rfl) (Gives.p hE rfl) rfl ?_; clear hE a; intro a hE
          rcases Bool.eq_false_or_eq_true !q77 with hg79 | hg79
          · replace hq71 := iteT hg79 hq71
            refine WL.no hE (runs_not hE rfl rfl rfl (by rw [hg79]; decide)) rfl ?_; clear hE a; intro a hE
            refine WL.no hE (runs_not hE rfl rfl rfl (by rw [hg79]; decide)) rfl ?_; clear hE a; intro a hE
            refine WL.no hE (runs_not hE rfl rfl rfl (by rw [hg79]; decide)) rfl ?_; clear hE a; intro a hE
            refine WL.no hE (runs_not hE rfl rfl rfl (by rw [hg79]; decide)) rfl ?_; clear hE a; intro a hE
            refine WL.no hE (runs_not hE rfl rfl rfl (by rw [hg79]; decide)) rfl ?_; clear hE a; intro a hE
            refine WL.no hE (runs_not hE rfl rfl rfl (by rw [hg79]; decide)) rfl ?_; clear hE a; intro a hE
            refine WL.no hE (runs_not hE rfl rfl rfl (by rw [hg79]; decide)) rfl ?_; clear hE a; intro a hE
            refine WL.vS hS hE (runs_plain rfl) (Gives.pickT hE rfl hg79 rfl) rfl ?_; clear hE a; intro a hE
            refine WL.vS hS hE (runs_plain rfl) (Gives.p hE rfl) rfl ?_; clear hE a; intro a hE
            refine WL.nil ?_
            subst hK76
            exact ⟨true, Option.some.inj hq71, hE.pick _ ⟨rfl, rfl, rfl, rfl, rfl, rfl, rfl, trivial⟩, hS⟩
          · replace hq71 := iteF hg79 hq71
            refine WL.vS hS hE (runs_if hE rfl rfl rfl hg79) (Gives.loadBA hE 1 rfl rfl ty25) rfl ?_; clear hE a; intro a hE
            refine WL.vS hS hE (runs_if hE rfl rfl rfl hg79) (Gives.fld hE rfl fl46_2) rfl ?_; clear hE a; intro a hE
            refine WL.vS hS hE (runs_if hE rfl rfl rfl hg79) (Gives.loadB hE 0 rfl rfl rfl ty3) rfl ?_; clear hE a; intro a hE
            refine WL.vS hS hE (runs_if hE rfl rfl rfl hg79) (Gives.fld hE rfl fl46_3) rfl ?_; clear hE a; intro a hE
            refine WL.vS hS hE (runs_if hE rfl rfl rfl hg79) (Gives.loadB hE 0 rfl rfl rfl ty3) rfl ?_; clear hE a; intro a hE
            obtain ⟨q80, hq81, hq71⟩ := bindS hq71
            have hc_ := PlanhasStop_ok hS h0_0 h0_1 hq81
            refine WL.fnq hE (hc_) (runs_if hE rfl rfl rfl hg79) bd13 rfl rfl rfl ?_
            clear hE hS hc_; rintro e w ⟨rfl, hS⟩; refine ⟨_, rfl, ?_⟩; clear a; intro a hE
            refine WL.vS hS hE (runs_if hE rfl rfl rfl hg79) (Gives.p hE rfl) rfl ?_; clear hE a; intro a hE
            refine WL.vS hS hE (runs_plain rfl) (Gives.pickF hE rfl hg79 rfl) rfl ?_; clear hE a; intro a hE
            refine WL.vS hS hE (runs_plain rfl) (Gives.p hE rfl) rfl ?_; clear hE a; intro a hE
            refine WL.nil ?_
            subst hK76
            exact ⟨!q80, Option.some.inj hq71, hE.pick _ ⟨rfl, rfl, rfl, rfl, rfl, rfl, rfl, trivial⟩, hS⟩
        · clear hE hS a w; rintro a w ⟨q75, rfl, hE, hS⟩
          refine W.cond hE rfl (fun hc82 => ?_) (fun hc82 => ?_)
          · replace hq54 := iteT hc82 hq54
            refine W.seq ?_
            refine W.region ?_
            refine WL.vS hS hE (runs_plain rfl) (Gives.p hE rfl) rfl ?_; clear hE a; intro a hE
            refine WL.vS hS hE (runs_plain rfl) (Gives.p hE rfl) rfl ?_; clear hE a; intro a hE
            refine WL.nil ?_
            refine W.ret ?_
            subst hK65
            rw [← Option.some.inj hq54] at hr
            dsimp only at hr
            replace hS := hS.vecNil 3 1
            refine finG (fn := Tryd.f6) (rs := [.tmp 4, .tmp 5]) (vs := [_, _]) hE rfl ⟨rfl, rfl, trivial⟩ ?_
            obtain rfl := Option.some.inj hr
            replace hS := hS.dropAt 1
            replace hS := hS.dropAt 1
            exact ⟨none, 0, 0, [], rfl, (Ev.nil), (rfl), hS⟩
          · replace hq54 := iteF hc82 hq54
            refine W.seq ?_
            obtain ⟨q85, hq84, hq54⟩ := bindS hq54
            refine W.cut (fun a w => ∃ (q88 : Bool), q88 = q85 ∧ Rep a 102 [(1, .slice a1 x1.length c1), (2, .pointer (some ⟨b51, 0, none⟩)), (7, .pointer (some ⟨b70, 0, none⟩)), (14, .slice a1 x1.length c1), (15, .int .i64 ((x1).length : Int)), (16, .int .i64 ((k56 : Nat) : Int)), (37, .bool q88)] ∧ St w s (pt b70 (.cells (PlanMeet.cells x57).toArray 46 (0, 0)) :: pt b51 (.cells #[.slice a0_0 x0.Trains.length c0_0, .slice a0_1 x0.Turns.length c0_1] 25 (0, 0)) :: R)) ?_ ?_
            · refine W.gen fun K89 hK89 => ?_
              refine W.regionQ (C := fun w => St w s (pt b70 (.cells (PlanMeet.cells x57).toArray 46 (0, 0)) :: pt b51 (.cells #[.slice a0_0 x0.Trains.length c0_0, .slice a0_1 x0.Turns.length c0_1] 25 (0, 0)) :: R)) mixed (by kernel_rfl) hS.drew ?_
              refine QL.v hE (runs_plain rfl) (Gives.fld hE rfl fl46_1) rfl ?_; clear hE a; intro a hE
              refine QL.v hE (runs_plain rfl) (Gives.loadB hE 0 rfl rfl rfl ty3) rfl ?_; clear hE a; intro a hE
              refine QL.v hE (runs_plain rfl) (Gives.p hE rfl) rfl ?_; clear hE a; intro a hE
              refine QL.v hE (runs_plain rfl) (Gives.p hE rfl) rfl ?_; clear hE a; intro a hE
              rcases Bool.eq_false_or_eq_true (x57.FromStop == 0) with hg90 | hg90
              · replace hq84 := iteT hg90 hq84
                refine QL.no hE (runs_not hE rfl rfl rfl (by rw [hg90]; decide)) rfl ?_; clear hE a; intro a hE
                refine QL.no hE (runs_not hE rfl rfl rfl (by rw [hg90]; decide)) rfl ?_; clear hE a; intro a hE
                refine QL.no hE (runs_not hE rfl rfl rfl (by rw [hg90]; decide)) rfl ?_; clear hE a; intro a hE
                refine QL.no hE (runs_not hE rfl rfl rfl (by rw [hg90]; decide)) rfl ?_; clear hE a; intro a hE
                refine QL.no hE (runs_not hE rfl rfl rfl (by rw [hg90]; decide)) rfl ?_; clear hE a; intro a hE
                refine QL.no hE (runs_not hE rfl rfl rfl (by rw [hg90]; decide)) rfl ?_; clear hE a; intro a hE
                refine QL.no hE (runs_not hE rfl rfl rfl (by rw [hg90]; decide)) rfl ?_; clear hE a; intro a hE
                refine QL.no hE (runs_not hE rfl rfl rfl (by rw [hg90]; decide)) rfl ?_; clear hE a; intro a hE
                refine QL.no hE (runs_not hE rfl rfl rfl (by rw [hg90]; decide)) rfl ?_; clear hE a; intro a hE
                refine QL.no hE (runs_not hE rfl rfl rfl (by rw [hg90]; decide)) rfl ?_; clear hE a; intro a hE
                refine QL.no hE (runs_not hE rfl rfl rfl (by rw [hg90]; decide)) rfl ?_; clear hE a; intro a hE
                refine QL.no hE (runs_not hE rfl rfl rfl (by rw [hg90]; decide)) rfl ?_; clear hE a; intro a hE
                refine QL.v hE (runs_plain rfl) (Gives.pickT hE rfl hg90 rfl) rfl ?_; clear hE a; intro a hE
                refine QL.v hE (runs_plain rfl) (Gives.p hE rfl) rfl ?_; clear hE a; intro a hE
                refine QL.nil ?_; clear hS w; intro w hS
                subst hK89
                exact ⟨true, Option.some.inj hq84, hE.pick _ ⟨rfl, rfl, rfl, rfl, rfl, rfl, rfl, trivial⟩, hS⟩
              · replace hq84 := iteF hg90 hq84
                refine QL.v hE (runs_if hE rfl rfl rfl hg90) (Gives.fld hE rfl fl46_3) rfl ?_; clear hE a; intro a hE
                refine QL.v hE (runs_if hE rfl rfl rfl hg90) (Gives.loadB hE 0 rfl rfl rfl ty3) rfl ?_; clear hE a; intro a hE
                refine QL.v hE (runs_if hE rfl rfl rfl hg90) (Gives.fld hE rfl fl25_0) rfl ?_; clear hE a; intro a hE
                refine QL.v hE (runs_if hE rfl rfl rfl hg90) (Gives.loadB hE 1 rfl rfl rfl ty22) rfl ?_; clear hE a; intro a hE
                refine QL.v hE (runs_if hE rfl rfl rfl hg90) (Gives.fld hE rfl fl46_2) rfl ?_; clear hE a; intro a hE
                refine QL.v hE (runs_if hE rfl rfl rfl hg90) (Gives.loadB hE 0 rfl rfl rfl ty3) rfl ?_; clear hE a; intro a hE
                obtain ⟨x91, hx92, hq84⟩ := bindS hq84
                obtain ⟨hi93, hlt94, hy95⟩ := gx_some hx92
                obtain ⟨cs96, hl97, hR98, hat99⟩ := h0_0.at hy95
                obtain ⟨a100, c101, a103, c104, rfl, h102, h105⟩ := hR98
                refine QL.v hE (runs_if hE rfl rfl rfl hg90) (Gives.idx hE (x57.To).toNat rfl rfl sl22 hi93 hlt94 (h0_0.aok hlt94)) rfl ?_; clear hE a; intro a hE
                refine QL.v hE (runs_if hE rfl rfl rfl hg90) (Gives.fld hE rfl fl29_2) rfl ?_; clear hE a; intro a hE
                refine QL.v hE (runs_if hE rfl rfl rfl hg90) (Gives.load1 hE rfl (fun w h => (hat99 w _ h).one rfl) ty27) rfl ?_; clear hE a; intro a hE
                refine QL.v hE (runs_if hE rfl rfl rfl hg90) (Gives.len hE rfl sl27) rfl ?_; clear hE a; intro a hE
                refine QL.v hE (runs_if hE rfl rfl rfl hg90) (Gives.p hE rfl) rfl ?_; clear hE a; intro a hE
                refine QL.v hE (runs_if hE rfl rfl rfl hg90) (Gives.p hE rfl) rfl ?_; clear hE a; intro a hE
                refine QL.v hE (runs_plain rfl) (Gives.pickF hE rfl hg90 rfl) rfl ?_; clear hE a; intro a hE
                refine QL.v hE (runs_plain rfl) (Gives.p hE rfl) rfl ?_; clear hE a; intro a hE
                refine QL.nil ?_; clear hS w; intro w hS
                subst hK89
                exact ⟨(x57.ToStop == (w64 (((x91.Stops).length : Int) - 1))), Option.some.inj hq84, hE.pick _ ⟨rfl, rfl, rfl, rfl, rfl, rfl, rfl, trivial⟩, hS⟩
            · clear hE hS a w; rintro a w ⟨q88, rfl, hE, hS⟩
              refine W.cond hE rfl (fun hc106 => ?_) (fun hc106 => ?_)
              · replace hq54 := iteT hc106 hq54
                refine W.seq ?_
                refine W.region ?_
                refine WL.vS hS hE (runs_plain rfl) (Gives.p hE rfl) rfl ?_; clear hE a; intro a hE
                refine WL.vS hS hE (runs_plain rfl) (Gives.p hE rfl) rfl ?_; clear hE a; intro a hE
                refine WL.nil ?_
                refine W.ret ?_
                subst hK65
                rw [← Option.some.inj hq54] at hr
                dsimp only at hr
                replace hS := hS.vecNil 3 1
                refine finG (fn := Tryd.f6) (rs := [.tmp 4, .tmp 5]) (vs := [_, _]) hE rfl ⟨rfl, rfl, trivial⟩ ?_
                obtain rfl := Option.some.inj hr
                replace hS := hS.dropAt 1
                replace hS := hS.dropAt 1
                exact ⟨none, 0, 0, [], rfl, (Ev.nil), (rfl), hS⟩
              · replace hq54 := iteF hc106 hq54
                refine W.seq ?_
                refine W.region ?_
                refine WL.vS hS hE (runs_plain rfl) (Gives.fld hE rfl fl46_4) rfl ?_; clear hE a; intro a hE
                refine WL.vS hS hE (runs_plain rfl) (Gives.loadB hE 0 rfl rfl rfl ty3) rfl ?_; clear hE a; intro a hE
                refine WL.fnq hE (Planwithin_ok hS  rfl (r := Planwithin x57.Least 0 28800)) (runs_plain rfl) bd14 rfl rfl rfl ?_
                clear hE hS; rintro e w ⟨rfl, hS⟩; refine ⟨_, rfl, ?_⟩; clear a; intro a hE
                refine WL.vS hS hE (runs_plain rfl) (Gives.p hE rfl) rfl ?_; clear hE a; intro a hE
                refine WL.vS hS hE (runs_plain rfl) (Gives.p hE rfl) rfl ?_; clear hE a; intro a hE
                refine WL.nil ?_
                refine W.cond hE rfl (fun hc108 => ?_) (fun hc108 => ?_)
                · replace hq54 := iteT hc108 hq54
                  refine W.seq ?_
                  refine W.region ?_
                  refine WL.vS hS hE (runs_plain rfl) (Gives.p hE rfl) rfl ?_; clear hE a; intro a hE
                  refine WL.vS hS hE (runs_plain rfl) (Gives.p hE rfl) rfl ?_; clear hE a; intro a hE
                  refine WL.nil ?_
                  refine W.ret ?_
                  subst hK65
                  rw [← Option.some.inj hq54] at hr
                  dsimp only at hr
                  replace hS := hS.vecNil 3 1
                  refine finG (fn := Tryd.f6) (rs := [.tmp 4, .tmp 5]) (vs := [_, _]) hE rfl ⟨rfl, rfl, trivial⟩ ?_
                  obtain rfl := Option.some.inj hr
                  replace hS := hS.dropAt 1
                  replace hS := hS.dropAt 1
                  exact ⟨none, 0, 0, [], rfl, (Ev.nil), (rfl), hS⟩
                · replace hq54 := iteF hc108 hq54
                  refine W.skip ?_
                  refine W.region ?_
                  refine WL.vS hS hE (runs_plain rfl) (Gives.inc hE rfl (by have := h1.small; omega)) rfl ?_; clear hE a; intro a hE
                  refine WL.vS hS hE (runs_plain rfl) (Gives.p hE rfl) rfl ?_; clear hE a; intro a hE
                  refine WL.nil ?_
                  replace hS := hS.tail
                  subst hK65
                  exact ⟨rest58.length, Nat.lt_succ_self _, rest58, k56 + 1, rfl, hd59, hq54, hE.pick _ ⟨rfl, rfl, rfl, rfl, rfl, trivial⟩, hS⟩
    · clear hE hS a w; rintro a w ⟨rfl, hE, hS⟩
      dsimp only at hr
      refine W.seq ?_
      refine W.region ?_
      replace hS := hS.vecNil 3 1
      refine WL.vS hS hE (runs_plain rfl) (Gives.p hE rfl) rfl ?_; clear hE a; intro a hE
      refine WL.nil ?_
      refine W.seq ?_
      refine W.seq ?_
      refine W.region ?_
      refine WL.vS hS hE (runs_plain rfl) (Gives.p hE rfl) rfl ?_; clear hE a; intro a hE
      refine WL.vS hS hE (runs_plain rfl) (Gives.len hE rfl sl26) rfl ?_; clear hE a; intro a hE
      refine WL.vS hS hE (runs_plain rfl) (Gives.p hE rfl) rfl ?_; clear hE a; intro a hE
      refine WL.nil ?_
      obtain ⟨q112, hq111, hr⟩ := bindS hr
      refine W.cut (fun a w => ∃ (q122 : List Int), ∃ (a123 : Option Addr), ∃ (c124 : Nat), ∃ (n126 : Nat), ∃ (cs127 : List Value), q122 = q112 ∧ Ev 1 (RI .i64) s cs127 q122 ∧ q122.length = n126 ∧ Rep a 102 [(8, .slice a123 n126 c124)] ∧ St w s (vecC 3 1 a123 c124 n126 cs127 :: pt b51 (.cells #[.slice a0_0 x0.Trains.length c0_0, .slice a0_1 x0.Turns.length c0_1] 25 (0, 0)) :: R)) ?_ ?_
      · refine W.block ?_
        refine W.loop (fun m a w => ∃ (rest115 : List PlanMeet) (k113 : Nat), ∃ (q122 : List Int), ∃ (a123 : Option Addr), ∃ (c124 : Nat), ∃ (n126 : Nat), ∃ (cs127 : List Value), rest115.length = m ∧ x1.drop k113 = rest115 ∧ PlanMissed.loop2 x0 rest115 k113 q122 = some q112 ∧ Ev 1 (RI .i64) s cs127 q122 ∧ q122.length = n126 ∧ Rep a 102 [(2, .pointer (some ⟨b51, 0, none⟩)), (8, .slice a123 n126 c124), (61, .slice a1 x1.length c1), (62, .int .i64 ((x1).length : Int)), (63, .int .i64 ((k113 : Nat) : Int))] ∧ St w s (vecC 3 1 a123 c124 n126 cs127 :: pt b51 (.cells #[.slice a0_0 x0.Trains.length c0_0, .slice a0_1 x0.Turns.length c0_1] 25 (0, 0)) :: R)) (m := x1.length) ⟨x1, 0, [], none, 0, 0, [], rfl, rfl, hq111, (Ev.nil), (rfl), hE.pick _ ⟨rfl, rfl, rfl, rfl, rfl, trivial⟩, hS⟩ ?_
        clear hE hS a w hq111; rintro m119 a w ⟨rest115, k113, q122, a123, c124, n126, cs127, rfl, hd116, hq111, h125, rfl, hE, hS⟩
        refine W.gen fun K129 hK129 => ?_
        rcases rest115 with _ | ⟨x114, rest115⟩
        · have hlt117 := drop_nil hd116
          refine W.seq ?_
          refine W.region ?_
          refine WL.vS hS hE (runs_plain rfl) (Gives.p hE rfl) rfl ?_; clear hE a; intro a hE
          refine WL.nil ?_
          refine W.seq ?_
          refine W.condF hE rfl (decide_eq_false (by omega)) ?_
          subst hK129
          refine W.exit rfl ?_
          exact ⟨q122, a123, c124, q122.length, cs127, Option.some.inj hq111, h125, rfl, hE.pick _ ⟨rfl, trivial⟩, hS⟩
        · obtain ⟨hlt117, hx118, hd116⟩ := drop_cons hd116
          rw [PlanMissed.loop2] at hq111
          refine W.seq ?_
          refine W.region ?_
          refine WL.vS hS hE (runs_plain rfl) (Gives.p hE rfl) rfl ?_; clear hE a; intro a hE
          refine WL.nil ?_
          refine W.seq ?_
          refine W.condT hE rfl (decide_eq_true (by omega)) ?_
          refine W.skip ?_
          refine W.seq ?_
          refine W.block ?_
          refine W.seq ?_
          refine W.region ?_
          refine WL.vS hS hE (runs_plain rfl) (Gives.p hE rfl) rfl ?_; clear hE a; intro a hE
          obtain ⟨cs130, hl131, hR132, hat133⟩ := h1.at hx118
          subst hR132
          refine WL.vS hS hE (runs_plain rfl) (Gives.idx hE k113 rfl rfl sl26 rfl hlt117 (h1.aok hlt117)) rfl ?_; clear hE a; intro a hE
          refine WL.vS hS hE (runs_plain rfl) (Gives.loadA hE rfl (fun w h => hat133 w _ h) ty46) rfl ?_; clear hE a; intro a hE
          refine WL.alloc hE hS (runs_plain rfl) zr46 rfl ?_; clear hE hS a w; intro b134 a w hE hS
          refine WL.vS hS hE (runs_plain rfl) (Gives.p hE rfl) rfl ?_; clear hE a; intro a hE
          refine WL.storeI hE hS 0 rfl (PlanMeet.cells x114) (runs_plain rfl) rfl rfl rfl ty46 rfl rfl rfl rfl ?_; clear hE hS a w; intro a w hE hS
          refine WL.nil ?_
          refine W.seq ?_
          refine W.regionQ (C := fun w => St w s (pt b134 (.cells (PlanMeet.cells x114).toArray 46 (0, 0)) :: vecC 3 1 a123 c124 q122.length cs127 :: pt b51 (.cells #[.slice a0_0 x0.Trains.length c0_0, .slice a0_1 x0.Turns.length c0_1] 25 (0, 0)) :: R)) mixed (by kernel_rfl) hS.drew ?_
          refine QL.v hE (runs_plain rfl) (Gives.fld hE rfl fl25_0) rfl ?_; clear hE a; intro a hE
          refine QL.v hE (runs_plain rfl) (Gives.loadB hE 2 rfl rfl rfl ty22) rfl ?_; clear hE a; intro a hE
          refine QL.v hE (runs_plain rfl) (Gives.fld hE rfl fl46_2) rfl ?_; clear hE a; intro a hE
          refine QL.v hE (runs_plain rfl) (Gives.loadB hE 0 rfl rfl rfl ty3) rfl ?_; clear hE a; intro a hE
          obtain ⟨x135, hx136, hq111⟩ := bindS hq111
          obtain ⟨hi137, hlt138, hy139⟩ := gx_some hx136
          obtain ⟨cs140, hl141, hR142, hat143⟩ := h0_0.at hy139
          obtain ⟨a144, c145, a147, c148, rfl, h146, h149⟩ := hR142
          refine QL.v hE (runs_plain rfl) (Gives.idx hE (x114.To).toNat rfl rfl sl22 hi137 hlt138 (h0_0.aok hlt138)) rfl ?_; clear hE a; intro a hE
          refine QL.v hE (runs_plain rfl) (Gives.fld hE rfl fl29_2) rfl ?_; clear hE a; intro a hE
          refine QL.v hE (runs_plain rfl) (Gives.load1 hE rfl (fun w h => (hat143 w _ h).one rfl) ty27) rfl ?_; clear hE a; intro a hE
          refine QL.v hE (runs_plain rfl) (Gives.fld hE rfl fl46_3) rfl ?_; clear hE a; intro a hE
          refine QL.v hE (runs_plain rfl) (Gives.loadB hE 0 rfl rfl rfl ty3) rfl ?_; clear hE a; intro a hE
          obtain ⟨x150, hx151, hq111⟩ := bindS hq111
          obtain ⟨hi152, hlt153, hy154⟩ := gx_some hx151
          obtain ⟨cs155, hl156, hR157, hat158⟩ := h146.at hy154
          subst hR157
          refine QL.v hE (runs_plain rfl) (Gives.idx hE (x114.ToStop).toNat rfl rfl sl27 hi152 hlt153 (h146.aok hlt153)) rfl ?_; clear hE a; intro a hE
          refine QL.v hE (runs_plain rfl) (Gives.fld hE rfl fl31_3) rfl ?_; clear hE a; intro a hE
          refine QL.v hE (runs_plain rfl) (Gives.load1 hE rfl (fun w h => (hat158 w _ h).one rfl) ty3) rfl ?_; clear hE a; intro a hE
          refine QL.v hE (runs_plain rfl) (Gives.fld hE rfl fl25_0) rfl ?_; clear hE a; intro a hE
          refine QL.v hE (runs_plain rfl) (Gives.loadB hE 2 rfl rfl rfl ty22) rfl ?_; clear hE a; intro a hE
          refine QL.v hE (runs_plain rfl) (Gives.fld hE rfl fl46_0) rfl ?_; clear hE a; intro a hE
          refine QL.v hE (runs_plain rfl) (Gives.loadB hE 0 rfl rfl rfl ty3) rfl ?_; clear hE a; intro a hE
          obtain ⟨x159, hx160, hq111⟩ := bindS hq111
          obtain ⟨hi161, hlt162, hy163⟩ := gx_some hx160
          obtain ⟨cs164, hl165, hR166, hat167⟩ := h0_0.at hy163
          obtain ⟨a168, c169, a171, c172, rfl, h170, h173⟩ := hR166
          refine QL.v hE (runs_plain rfl) (Gives.idx hE (x114.From).toNat rfl rfl sl22 hi161 hlt162 (h0_0.aok hlt162)) rfl ?_; clear hE a; intro a hE
          refine QL.v hE (runs_plain rfl) (Gives.fld hE rfl fl29_2) rfl ?_; clear hE a; intro a hE
          refine QL.v hE (runs_plain rfl) (Gives.load1 hE rfl (fun w h => (hat167 w _ h).one rfl) ty27) rfl ?_; clear hE a; intro a hE
          refine QL.v hE (runs_plain rfl) (Gives.fld hE rfl fl46_1) rfl ?_; clear hE a; intro a hE
          refine QL.v hE (runs_plain rfl) (Gives.loadB hE 0 rfl rfl rfl ty3) rfl ?_; clear hE a; intro a hE
          obtain ⟨x174, hx175, hq111⟩ := bindS hq111
          obtain ⟨hi176, hlt177, hy178⟩ := gx_some hx175
          obtain ⟨cs179, hl180, hR181, hat182⟩ := h170.at hy178
          subst hR181
          refine QL.v hE (runs_plain rfl) (Gives.idx hE (x114.FromStop).toNat rfl rfl sl27 hi176 hlt177 (h170.aok hlt177)) rfl ?_; clear hE a; intro a hE
          refine QL.v hE (runs_plain rfl) (Gives.fld hE rfl fl31_2) rfl ?_; clear hE a; intro a hE
          refine QL.v hE (runs_plain rfl) (Gives.load1 hE rfl (fun w h => (hat182 w _ h).one rfl) ty3) rfl ?_; clear hE a; intro a hE
          refine QL.v hE (runs_plain rfl) (Gives.p hE rfl) rfl ?_; clear hE a; intro a hE
          refine QL.v hE (runs_plain rfl) (Gives.fld hE rfl fl46_4) rfl ?_; clear hE a; intro a hE
          refine QL.v hE (runs_plain rfl) (Gives.loadB hE 0 rfl rfl rfl ty3) rfl ?_; clear hE a; intro a hE
          refine QL.v hE (runs_plain rfl) (Gives.p hE rfl) rfl ?_; clear hE a; intro a hE
          refine QL.nil ?_; clear hS w; intro w hS
          obtain ⟨q184, hq183, hq111⟩ := bindS hq111
          refine W.cut (fun a w => ∃ (q187 : List Int), ∃ (a188 : Option Addr), ∃ (c189 : Nat), ∃ (n191 : Nat), ∃ (cs192 : List Value), q187 = q184 ∧ Ev 1 (RI .i64) s cs192 q187 ∧ q187.length = n191 ∧ Rep a 102 [(2, .pointer (some ⟨b51, 0, none⟩)), (8, .slice a188 n191 c189), (61, .slice a1 x1.length c1), (62, .int .i64 ((x1).length : Int)), (63, .int .i64 ((k113 : Nat) : Int))] ∧ St w s (pt b134 (.cells (PlanMeet.cells x114).toArray 46 (0, 0)) :: vecC 3 1 a188 c189 n191 cs192 :: pt b51 (.cells #[.slice a0_0 x0.Trains.length c0_0, .slice a0_1 x0.Turns.length c0_1] 25 (0, 0)) :: R)) ?_ ?_
          · refine W.gen fun K194 hK194 => ?_
            refine W.cond hE rfl (fun hc195 => ?_) (fun hc195 => ?_)
            · replace hq183 := iteT hc195 hq183
              refine W.region ?_
              refine WL.vS hS hE (runs_plain rfl) (Gives.p hE rfl) rfl ?_; clear hE a; intro a hE
              refine WL.vS hS hE (runs_plain rfl) (Gives.p hE rfl) rfl ?_; clear hE a; intro a hE
              refine WL.lit hE hS (e := 3) (es := 1) (vs := [(0, .int .i64 ((k113 : Nat) : Int))]) (cs := [.int .i64 ((k113 : Nat) : Int)]) (runs_plain rfl) rfl (by kernel_rfl) rfl ?_; clear hE hS a w; intro b196 a w hE hS
              obtain ⟨x197, hx198, hq183⟩ := bindS hq183
              refine WL.appD hE hS 1 (m := 1) (runs_plain rfl) rfl rfl rfl ap33 rfl h125 rfl (xs := [((k113 : Nat) : Int)]) (Ev.cons (c1 := [.int .i64 ((k113 : Nat) : Int)]) rfl rfl (Ev.nil)) rfl rfl hx198 rfl ?_; clear hE hS a w; intro a199 c200 cs201 a w h202 hE hS
              refine WL.vS hS hE (runs_plain rfl) (Gives.p hE rfl) rfl ?_; clear hE a; intro a hE
              refine WL.nil ?_
              subst hK194
              exact ⟨x197, a199, c200, x197.length, cs201, Option.some.inj hq183, h202, (rfl), hE.pick _ ⟨rfl, rfl, rfl, rfl, rfl, trivial⟩, hS⟩
            · replace hq183 := iteF hc195 hq183
              refine W.skip ?_
              subst hK194
              exact ⟨q122, a123, c124, q122.length, cs127, Option.some.inj hq183, h125, rfl, hE.pick _ ⟨rfl, rfl, rfl, rfl, rfl, trivial⟩, hS⟩
          · clear hE hS a w; rintro a w ⟨q187, a188, c189, n191, cs192, rfl, h190, rfl, hE, hS⟩
            refine W.region ?_
            refine WL.vS hS hE (runs_plain rfl) (Gives.inc hE rfl (by have := h1.small; omega)) rfl ?_; clear hE a; intro a hE
            refine WL.vS hS hE (runs_plain rfl) (Gives.p hE rfl) rfl ?_; clear hE a; intro a hE
            refine WL.nil ?_
            replace hS := hS.tail
            subst hK129
            exact ⟨rest115.length, Nat.lt_succ_self _, rest115, k113 + 1, q187, a188, c189, q187.length, cs192, rfl, hd116, hq111, h190, rfl, hE.pick _ ⟨rfl, rfl, rfl, rfl, rfl, trivial⟩, hS⟩
      · clear hE hS a w; rintro a w ⟨q122, a123, c124, n126, cs127, rfl, h125, rfl, hE, hS⟩
        refine W.seq ?_
        refine W.region ?_
        refine WL.vS hS hE (runs_plain rfl) (Gives.p hE rfl) rfl ?_; clear hE a; intro a hE
        refine WL.vS hS hE (runs_plain rfl) (Gives.p hE rfl) rfl ?_; clear hE a; intro a hE
        refine WL.vS hS hE (runs_plain rfl) (Gives.p hE rfl) rfl ?_; clear hE a; intro a hE
        refine WL.nil ?_
        refine W.ret ?_
        refine finG (fn := Tryd.f6) (rs := [.tmp 4, .tmp 5]) (vs := [_, _]) hE rfl ⟨rfl, rfl, trivial⟩ ?_
        obtain rfl := Option.some.inj hr
        replace hS := hS.dropAt 1
        exact ⟨a123, c124, q122.length, cs127, rfl, h125, rfl, hS⟩
set_option maxHeartbeats 8000000 in
theorem Fishref2MissedOf_1_v1_ok  {w : World} {s : Sg} {R : List HP} {pb0 : Nat} {x0 : Int} {y0 : ApiDay} {a_y0_0 : Option Addr} {c_y0_0 : Nat} {a_y0_1 : Option Addr} {c_y0_1 : Nat} (hS : St w s (pt pb0 (.cells #[.slice a_y0_0 y0.Trains.length c_y0_0, .slice a_y0_1 y0.Turns.length c_y0_1] 25 (0, 0)) :: R)) (h_y0_0 : Sl 4 RApiTrain s a_y0_0 c_y0_0 y0.Trains) (_h_y0_1 : Sl 1 (RL 1 (RI .i64)) s a_y0_1 c_y0_1 y0.Turns) {r : Int} (hr : Fishref2MissedOf_1_v1 x0 y0 = some r) :
    Calls Tryd.prog 15 [.int .i64 x0, .pointer (some ⟨pb0, 0, none⟩)].toArray w (fun e w => e = .returned (.int .i64 r) ∧ St w s (pt pb0 (.cells #[.slice a_y0_0 y0.Trains.length c_y0_0, .slice a_y0_1 y0.Turns.length c_y0_1] 25 (0, 0)) :: R)) := by
  refine enter Tryd.func15 rfl rfl rfl fun a hE => ?_
  rw [Fishref2MissedOf_1_v1] at hr
  refine W.seq ?_
  refine W.region ?_
  refine WL.vS hS hE (runs_plain rfl) (Gives.p hE rfl) rfl ?_; clear hE a; intro a hE
  refine WL.nil ?_
  refine W.seq ?_
  refine W.seq ?_
  obtain ⟨q52, hq51, hr⟩ := bndS hr
  refine W.cut (fun a w => ∃ (q55 : Bool), q55 = q52 ∧ Rep a 20 [(0, .int .i64 x0), (1, .pointer (some ⟨pb0, 0, none⟩)), (12, .bool q55)] ∧ St w s (pt pb0 (.cells #[.slice a_y0_0 y0.Trains.length c_y0_0, .slice a_y0_1 y0.Turns.length c_y0_1] 25 (0, 0)) :: R)) ?_ ?_
  · refine W.gen fun K56 hK56 => ?_
    refine W.region ?_
    refine WL.vS hS hE (runs_plain rfl) (Gives.p hE rfl) rfl ?_; clear hE a; intro a hE
    refine WL.vS hS hE (runs_plain rfl) (Gives.p hE rfl) rfl ?_; clear hE a; intro a hE
    refine WL.vS hS hE (runs_plain rfl) (Gives.p hE rfl) rfl ?_; clear hE a; intro a hE
    rcases Bool.eq_false_or_eq_true (decide (x0 < 0)) with hg57 | hg57
    · replace hq51 := iteT hg57 hq51
      refine WL.no hE (runs_not hE rfl rfl rfl (by rw [hg57]; decide)) rfl ?_; clear hE a; intro a hE
      refine WL.no hE (runs_not hE rfl rfl rfl (by rw [hg57]; decide)) rfl ?_; clear hE a; intro a hE
      refine WL.no hE (runs_not hE rfl rfl rfl (by rw [hg57]; decide)) rfl ?_; clear hE a; intro a hE
      refine WL.no hE (runs_not hE rfl rfl rfl (by rw [hg57]; decide)) rfl ?_; clear hE a; intro a hE
      refine WL.no hE (runs_not hE rfl rfl rfl (by rw [hg57]; decide)) rfl ?_; clear hE a; intro a hE
      refine WL.vS hS hE (runs_plain rfl) (Gives.pickT hE rfl hg57 rfl) rfl ?_; clear hE a; intro a hE
      refine WL.nil ?_
      subst hK56
      exact ⟨true, hq51, hE.pick _ ⟨rfl, rfl, rfl, trivial⟩, hS⟩
    · replace hq51 := iteF hg57 hq51
      refine WL.vS hS hE (runs_if hE rfl rfl rfl hg57) (Gives.p hE rfl) rfl ?_; clear hE a; intro a hE
      refine WL.vS hS hE (runs_if hE rfl rfl rfl hg57) (Gives.fld hE rfl fl25_0) rfl ?_; clear hE a; intro a hE
      refine WL.vS hS hE (runs_if hE rfl rfl rfl hg57) (Gives.loadB hE 0 rfl rfl rfl ty22) rfl ?_; clear hE a; intro a hE
      refine WL.vS hS hE (runs_if hE rfl rfl rfl hg57) (Gives.len hE rfl sl22) rfl ?_; clear hE a; intro a hE
      refine WL.vS hS hE (runs_if hE rfl rfl rfl hg57) (Gives.p hE rfl) rfl ?_; clear hE a; intro a hE
      refine WL.vS hS hE (runs_plain rfl) (Gives.pickF hE rfl hg57 rfl) rfl ?_; clear hE a; intro a hE
      refine WL.nil ?_
      subst hK56
      exact ⟨decide (x0 ≥ ((y0.Trains).length : Int)), hq51, hE.pick _ ⟨rfl, rfl, rfl, trivial⟩, hS⟩
  · clear hE hS a w; rintro a w ⟨q55, rfl, hE, hS⟩
    refine W.cond hE rfl (fun hc58 => ?_) (fun hc58 => ?_)
    · replace hr := iteT hc58 hr
      refine W.seq ?_
      refine W.region ?_
      refine WL.vS hS hE (runs_plain rfl) (Gives.p hE rfl) rfl ?_; clear hE a; intro a hE
      refine WL.nil ?_
      refine W.ret ?_
      refine finG (fn := Tryd.f15) (rs := [.tmp 3]) (vs := [_]) hE rfl ⟨rfl, trivial⟩ ?_
      obtain rfl := Option.some.inj hr
      exact ⟨rfl, hS⟩
    · replace hr := iteF hc58 hr
      refine W.skip ?_
      refine W.seq ?_
      refine W.region ?_
      refine WL.vS hS hE (runs_plain rfl) (Gives.fld hE rfl fl25_0) rfl ?_; clear hE a; intro a hE
      refine WL.vS hS hE (runs_plain rfl) (Gives.loadB hE 0 rfl rfl rfl ty22) rfl ?_; clear hE a; intro a hE
      refine WL.vS hS hE (runs_plain rfl) (Gives.p hE rfl) rfl ?_; clear hE a; intro a hE
      obtain ⟨x59, hx60, hr⟩ := bindS hr
      obtain ⟨hi61, hlt62, hy63⟩ := gx_some hx60
      obtain ⟨cs64, hl65, hR66, hat67⟩ := h_y0_0.at hy63
      obtain ⟨a68, c69, a71, c72, rfl, h70, h73⟩ := hR66
      refine WL.vS hS hE (runs_plain rfl) (Gives.idx hE (x0).toNat rfl rfl sl22 hi61 hlt62 (h_y0_0.aok hlt62)) rfl ?_; clear hE a; intro a hE
      refine WL.vS hS hE (runs_plain rfl) (Gives.fld hE rfl fl29_2) rfl ?_; clear hE a; intro a hE
      refine WL.vS hS hE (runs_plain rfl) (Gives.load1 hE rfl (fun w h => (hat67 w _ h).one rfl) ty27) rfl ?_; clear hE a; intro a hE
      refine WL.vS hS hE (runs_plain rfl) (Gives.len hE rfl sl27) rfl ?_; clear hE a; intro a hE
      refine WL.vS hS hE (runs_plain rfl) (Gives.p hE rfl) rfl ?_; clear hE a; intro a hE
      refine WL.nil ?_
      refine W.ret ?_
      refine finG (fn := Tryd.f15) (rs := [.tmp 3]) (vs := [_]) hE rfl ⟨rfl, trivial⟩ ?_
      obtain rfl := Option.some.inj hr
      exact ⟨rfl, hS⟩
set_option maxHeartbeats 8000000 in
theorem Fishref2within_ok  {w : World} {s : Sg} {R : List HP} {x0 : Int} {x1 : Int} {x2 : Int} (hS : St w s (R))  {r : Bool} (hr : Fishref2within x0 x1 x2 = r) :
    Calls Tryd.prog 16 [.int .i64 x0, .int .i64 x1, .int .i64 x2].toArray w (fun e w => e = .returned (.bool r) ∧ St w s (R)) := by
  refine enter Tryd.func16 rfl rfl rfl fun a hE => ?_
  rw [Fishref2within] at hr
  refine W.seq ?_
  refine W.region ?_
  refine WL.vS hS hE (runs_plain rfl) (Gives.p hE rfl) rfl ?_; clear hE a; intro a hE
  refine WL.nil ?_
  refine W.seq ?_
  obtain ⟨q52, hq51, hr⟩ := bndS hr
  refine W.cut (fun a w => ∃ (q55 : Bool), q55 = q52 ∧ Rep a 15 [(6, .bool q55)] ∧ St w s (R)) ?_ ?_
  · refine W.gen fun K56 hK56 => ?_
    refine W.region ?_
    refine WL.vS hS hE (runs_plain rfl) (Gives.p hE rfl) rfl ?_; clear hE a; intro a hE
    refine WL.vS hS hE (runs_plain rfl) (Gives.p hE rfl) rfl ?_; clear hE a; intro a hE
    refine WL.vS hS hE (runs_plain rfl) (Gives.p hE rfl) rfl ?_; clear hE a; intro a hE
    refine WL.vS hS hE (runs_plain rfl) (Gives.p hE rfl) rfl ?_; clear hE a; intro a hE
    rcases Bool.eq_false_or_eq_true (decide (x0 ≥ x1)) with hg57 | hg57
    · replace hq51 := iteT hg57 hq51
      refine WL.vS hS hE (runs_if hE rfl rfl rfl hg57) (Gives.p hE rfl) rfl ?_; clear hE a; intro a hE
      refine WL.vS hS hE (runs_if hE rfl rfl rfl hg57) (Gives.p hE rfl) rfl ?_; clear hE a; intro a hE
      refine WL.vS hS hE (runs_if hE rfl rfl rfl hg57) (Gives.p hE rfl) rfl ?_; clear hE a; intro a hE
      refine WL.vS hS hE (runs_plain rfl) (Gives.pickT hE rfl hg57 rfl) rfl ?_; clear hE a; intro a hE
      refine WL.vS hS hE (runs_plain rfl) (Gives.p hE rfl) rfl ?_; clear hE a; intro a hE
      refine WL.nil ?_
      subst hK56
      exact ⟨decide (x0 ≤ x2), hq51, hE.pick _ ⟨rfl, trivial⟩, hS⟩
    · replace hq51 := iteF hg57 hq51
      refine WL.no hE (runs_not hE rfl rfl rfl (by rw [hg57]; decide)) rfl ?_; clear hE a; intro a hE
      refine WL.no hE (runs_not hE rfl rfl rfl (by rw [hg57]; decide)) rfl ?_; clear hE a; intro a hE
      refine WL.no hE (runs_not hE rfl rfl rfl (by rw [hg57]; decide)) rfl ?_; clear hE a; intro a hE
      refine WL.vS hS hE (runs_plain rfl) (Gives.pickF hE rfl hg57 rfl) rfl ?_; clear hE a; intro a hE
      refine WL.vS hS hE (runs_plain rfl) (Gives.p hE rfl) rfl ?_; clear hE a; intro a hE
      refine WL.nil ?_
      subst hK56
      exact ⟨false, hq51, hE.pick _ ⟨rfl, trivial⟩, hS⟩
  · clear hE hS a w; rintro a w ⟨q55, rfl, hE, hS⟩
    refine W.ret ?_
    refine finG (fn := Tryd.f16) (rs := [.tmp 6]) (vs := [_]) hE rfl ⟨rfl, trivial⟩ ?_
    subst hr
    exact ⟨rfl, hS⟩
set_option maxHeartbeats 8000000 in
theorem Fishref2MissedOf_ok  {w : World} {s : Sg} {R : List HP} {x0 : ApiDay} {a0_0 : Option Addr} {c0_0 : Nat} {a0_1 : Option Addr} {c0_1 : Nat} {x1 : List PlanMeet} {a1 : Option Addr} {c1 : Nat} (hS : St w s (R)) (h0_0 : Sl 4 RApiTrain s a0_0 c0_0 x0.Trains) (h0_1 : Sl 1 (RL 1 (RI .i64)) s a0_1 c0_1 x0.Turns) (h1 : Sl 5 RPlanMeet s a1 c1 x1) {r : (List Int) × Int} (hr : Fishref2MissedOf x0 x1 = some r) :
    Calls Tryd.prog 7 [.agg [.slice a0_0 x0.Trains.length c0_0, .slice a0_1 x0.Turns.length c0_1].toArray, .slice a1 x1.length c1].toArray w (fun e w => ∃ (a0 : Option Addr) (c0 n0 : Nat) (cs0 : List Value), e = .returned (.tuple #[.slice a0 n0 c0, .int .i64 r.2]) ∧ Ev 1 (RI .i64) s cs0 r.1 ∧ r.1.length = n0 ∧ St w s (vecC 3 1 a0 c0 n0 cs0 :: R)) := by
  refine enter Tryd.func7 rfl rfl rfl fun a hE => ?_
  rw [Fishref2MissedOf] at hr
  refine W.seq ?_
  refine W.region ?_
  refine WL.box hE hS (runs_plain rfl) rfl rfl rfl ?_; clear hE hS a w; intro b51 a w hE hS
  refine WL.vS hS hE (runs_plain rfl) (Gives.p hE rfl) rfl ?_; clear hE a; intro a hE
  refine WL.vS hS hE (runs_plain rfl) (Gives.p hE rfl) rfl ?_; clear hE a; intro a hE
  refine WL.nil ?_
  refine W.seq ?_
  refine W.seq ?_
  refine W.region ?_
  refine WL.vS hS hE (runs_plain rfl) (Gives.p hE rfl) rfl ?_; clear hE a; intro a hE
  refine WL.vS hS hE (runs_plain rfl) (Gives.len hE rfl sl26) rfl ?_; clear hE a; intro a hE
  refine WL.vS hS hE (runs_plain rfl) (Gives.p hE rfl) rfl ?_; clear hE a; intro a hE
  refine WL.nil ?_
  refine W.cond hE rfl (fun hc52 => ?_) (fun hc52 => ?_)
  · replace hr := iteT hc52 hr
    refine W.seq ?_
    refine W.region ?_
    refine WL.vS hS hE (runs_plain rfl) (Gives.p hE rfl) rfl ?_; clear hE a; intro a hE
    refine WL.vS hS hE (runs_plain rfl) (Gives.p hE rfl) rfl ?_; clear hE a; intro a hE
    refine WL.nil ?_
    refine W.ret ?_
    replace hS := hS.vecNil 3 1
    refine finG (fn := Tryd.f7) (rs := [.tmp 4, .tmp 5]) (vs := [_, _]) hE rfl ⟨rfl, rfl, trivial⟩ ?_
    obtain rfl := Option.some.inj hr
    replace hS := hS.dropAt 1
    exact ⟨none, 0, 0, [], rfl, (Ev.nil), (rfl), hS⟩
  · replace hr := iteF hc52 hr
    refine W.skip ?_
    refine W.seq ?_
    refine W.region ?_
    refine WL.vS hS hE (runs_plain rfl) (Gives.mkfn hE (vs := [.pointer (some ⟨b51, 0, none⟩)]) rfl) rfl ?_; clear hE a; intro a hE
    refine WL.vS hS hE (runs_plain rfl) (Gives.p hE rfl) rfl ?_; clear hE a; intro a hE
    refine WL.nil ?_
    refine W.seq ?_
    refine W.seq ?_
    refine W.region ?_
    refine WL.vS hS hE (runs_plain rfl) (Gives.p hE rfl) rfl ?_; clear hE a; intro a hE
    refine WL.vS hS hE (runs_plain rfl) (Gives.len hE rfl sl26) rfl ?_; clear hE a; intro a hE
    refine WL.vS hS hE (runs_plain rfl) (Gives.p hE rfl) rfl ?_; clear hE a; intro a hE
    refine WL.nil ?_
    obtain ⟨q55, hq54, hr⟩ := bindS hr
    refine W.cut (fun a w => (.next ()) = q55 ∧ Rep a 110 [(1, .slice a1 x1.length c1), (2, .pointer (some ⟨b51, 0, none⟩))] ∧ St w s (pt b51 (.cells #[.slice a0_0 x0.Trains.length c0_0, .slice a0_1 x0.Turns.length c0_1] 25 (0, 0)) :: R)) ?_ ?_
    · refine W.block ?_
      refine W.loop (fun m a w => ∃ (rest58 : List PlanMeet) (k56 : Nat), rest58.length = m ∧ x1.drop k56 = rest58 ∧ Fishref2MissedOf.loop1 x0 rest58 = some q55 ∧ Rep a 110 [(1, .slice a1 x1.length c1), (2, .pointer (some ⟨b51, 0, none⟩)), (6, .func (.func 15) #[] #[.pointer (some ⟨b51, 0, none⟩)]), (16, .slice a1 x1.length c1), (17, .int .i64 ((x1).length : Int)), (18, .int .i64 ((k56 : Nat) : Int))] ∧ St w s (pt b51 (.cells #[.slice a0_0 x0.Trains.length c0_0, .slice a0_1 x0.Turns.length c0_1] 25 (0, 0)) :: R)) (m := x1.length) ⟨x1, 0, rfl, rfl, hq54, hE.pick _ ⟨rfl, rfl, rfl, rfl, rfl, rfl, trivial⟩, hS⟩ ?_
      clear hE hS a w hq54; rintro m62 a w ⟨rest58, k56, rfl, hd59, hq54, hE, hS⟩
      refine W.gen fun K65 hK65 => ?_
      rcases rest58 with _ | ⟨x57, rest58⟩
      · have hlt60 := drop_nil hd59
        refine W.seq ?_
        refine W.region ?_
        refine WL.vS hS hE (runs_plain rfl) (Gives.p hE rfl) rfl ?_; clear hE a; intro a hE
        refine WL.nil ?_
        refine W.seq ?_
        refine W.condF hE rfl (decide_eq_false (by omega)) ?_
        subst hK65
        refine W.exit rfl ?_
        exact ⟨Option.some.inj hq54, hE.pick _ ⟨rfl, rfl, trivial⟩, hS⟩
      · obtain ⟨hlt60, hx61, hd59⟩ := drop_cons hd59
        rw [Fishref2MissedOf.loop1] at hq54
        refine W.seq ?_
        refine W.region ?_
        refine WL.vS hS hE (runs_plain rfl) (Gives.p hE rfl) rfl ?_; clear hE a; intro a hE
        refine WL.nil ?_
        refine W.seq ?_
        refine W.condT hE rfl (decide_eq_true (by omega)) ?_
        refine W.skip ?_
        refine W.seq ?_
        refine W.block ?_
        refine W.seq ?_
        refine W.region ?_
        obtain ⟨cs66, hl67, hR68, hat69⟩ := h1.at hx61
        subst hR68
        refine WL.vS hS hE (runs_plain rfl) (Gives.idx hE k56 rfl rfl sl26 rfl hlt60 (h1.aok hlt60)) rfl ?_; clear hE a; intro a hE
        refine WL.vS hS hE (runs_plain rfl) (Gives.loadA hE rfl (fun w h => hat69 w _ h) ty46) rfl ?_; clear hE a; intro a hE
        refine WL.alloc hE hS (runs_plain rfl) zr46 rfl ?_; clear hE hS a w; intro b70 a w hE hS
        refine WL.storeI hE hS 0 rfl (PlanMeet.cells x57) (runs_plain rfl) rfl rfl rfl ty46 rfl rfl rfl rfl ?_; clear hE hS a w; intro a w hE hS
        refine WL.nil ?_
        refine W.block ?_
        refine W.seq ?_
        obtain ⟨q72, hq71, hq54⟩ := bindS hq54
        refine W.cut (fun a w => ∃ (q75 : Bool), q75 = q72 ∧ Rep a 110 [(1, .slice a1 x1.length c1), (2, .pointer (some ⟨b51, 0, none⟩)), (6, .func (.func 15) #[] #[.pointer (some ⟨b51, 0, none⟩)]), (8, .pointer (some ⟨b70, 0, none⟩)), (16, .slice a1 x1.length c1), (17, .int .i64 ((x1).length : Int)), (18, .int .i64 ((k56 : Nat) : Int)), (22, .bool q75)] ∧ St w s (pt b70 (.cells (PlanMeet.cells x57).toArray 46 (0, 0)) :: pt b51 (.cells #[.slice a0_0 x0.Trains.length c0_0, .slice a0_1 x0.Turns.length c0_1] 25 (0, 0)) :: R)) ?_ ?_
        · refine W.gen fun K76 hK76 => ?_
          refine W.regionQ (C := fun w => St w s (pt b70 (.cells (PlanMeet.cells x57).toArray 46 (0, 0)) :: pt b51 (.cells #[.slice a0_0 x0.Trains.length c0_0, .slice a0_1 x0.Turns.length c0_1] 25 (0, 0)) :: R)) mixed (by kernel_rfl) hS.drew ?_
          refine QL.v hE (runs_plain rfl) (Gives.fld hE rfl fl46_1) rfl ?_; clear hE a; intro a hE
          refine QL.v hE (runs_plain rfl) (Gives.loadB hE 0 rfl rfl rfl ty3) rfl ?_; clear hE a; intro a hE
          refine QL.v hE (runs_plain rfl) (Gives.p hE rfl) rfl ?_; clear hE a; intro a hE
          refine QL.v hE (runs_plain rfl) (Gives.p hE rfl) rfl ?_; clear hE a; intro a hE
          rcases Bool.eq_false_or_eq_true (decide (x57.FromStop < 0)) with hg77 | hg77
          · replace hq71 := iteT hg77 hq71
            refine QL.no hE (runs_not hE rfl rfl rfl (by rw [hg77]; decide)) rfl ?_; clear hE a; intro a hE
            refine QL.no hE (runs_not hE rfl rfl rfl (by rw [hg77]; decide)) rfl ?_; clear hE a; intro a hE
            refine QL.no hE (runs_not hE rfl rfl rfl (by rw [hg77]; decide)) rfl ?_; clear hE a; intro a hE
            refine QL.no hE (runs_not hE rfl rfl rfl (by rw [hg77]; decide)) rfl ?_; clear hE a; intro a hE
            refine QL.no hE (runs_not hE rfl rfl rfl (by rw [hg77]; decide)) rfl ?_; clear hE a; intro a hE
            refine QL.no hE (runs_not hE rfl rfl rfl (by rw [hg77]; decide)) rfl ?_; clear hE a; intro a hE
            refine QL.no hE (runs_not hE rfl rfl rfl (by rw [hg77]; decide)) rfl ?_; clear hE a; intro a hE
            refine QL.v hE (runs_plain rfl) (Gives.pickT hE rfl hg77 rfl) rfl ?_; clear hE a; intro a hE
            refine QL.v hE (runs_plain rfl) (Gives.p hE rfl) rfl ?_; clear hE a; intro a hE
            refine QL.no hE (runs_not hE rfl rfl rfl (by decide)) rfl ?_; clear hE a; intro a hE
            refine QL.no hE (runs_not hE rfl rfl rfl (by decide)) rfl ?_; clear hE a; intro a hE
            refine QL.no hE (runs_not hE rfl rfl rfl (by decide)) rfl ?_; clear hE a; intro a hE
            refine QL.v hE (runs_plain rfl) (Gives.pickT hE rfl rfl rfl) rfl ?_; clear hE a; intro a hE
            refine QL.v hE (runs_plain rfl) (Gives.p hE rfl) rfl ?_; clear hE a; intro a hE
            refine QL.no hE (runs_not hE rfl rfl rfl (by decide)) rfl ?_; clear hE a; intro a hE
            refine QL.no hE (runs_not hE rfl rfl rfl (by decide)) rfl ?_; clear hE a; intro a hE
            refine QL.no hE (runs_not hE rfl rfl rfl (by decide)) rfl ?_; clear hE a; intro a hE
            refine QL.no hE (runs_not hE rfl rfl rfl (by decide)) rfl ?_; clear hE a; intro a hE
            refine QL.no hE (runs_not hE rfl rfl rfl (by decide)) rfl ?_; clear hE a; intro a hE
            refine QL.no hE (runs_not hE rfl rfl rfl (by decide)) rfl ?_; clear hE a; intro a hE
            refine QL.no hE (runs_not hE rfl rfl rfl (by decide)) rfl ?_; clear hE a; intro a hE
            refine QL.v hE (runs_plain rfl) (Gives.pickT hE rfl rfl rfl) rfl ?_; clear hE a; intro a hE
            refine QL.v hE (runs_plain rfl) (Gives.p hE rfl) rfl ?_; clear hE a; intro a hE
            refine QL.nil ?_; clear hS w; intro w hS
            subst hK76
            exact ⟨true, Option.some.inj hq71, hE.pick _ ⟨rfl, rfl, rfl, rfl, rfl, rfl, rfl, rfl, trivial⟩, hS⟩
          · replace hq71 := iteF hg77 hq71
            refine QL.v hE (runs_if hE rfl rfl rfl hg77) (Gives.fld hE rfl fl46_1) rfl ?_; clear hE a; intro a hE
            refine QL.v hE (runs_if hE rfl rfl rfl hg77) (Gives.loadB hE 0 rfl rfl rfl ty3) rfl ?_; clear hE a; intro a hE
            refine QL.v hE (runs_if hE rfl rfl rfl hg77) (Gives.p hE rfl) rfl ?_; clear hE a; intro a hE
            refine QL.v hE (runs_if hE rfl rfl rfl hg77) (Gives.fld hE rfl fl46_0) rfl ?_; clear hE a; intro a hE
            refine QL.v hE (runs_if hE rfl rfl rfl hg77) (Gives.loadB hE 0 rfl rfl rfl ty3) rfl ?_; clear hE a; intro a hE
            obtain ⟨q78, hq79, hq71⟩ := bindS hq71
            refine QL.fnw hE (fun w hS => (Fishref2MissedOf_1_v1_ok (y0 := x0) (St.front hS 1 rfl) h0_0 h0_1 hq79).mono fun _ _ ⟨he, hq⟩ => ⟨he, (St.unfront 1 rfl hq)⟩) rfl (runs_if hE rfl rfl rfl hg77) bd15 rfl rfl rfl ?_; clear hE a; intro a hE
            refine QL.v hE (runs_if hE rfl rfl rfl hg77) (Gives.p hE rfl) rfl ?_; clear hE a; intro a hE
            refine QL.v hE (runs_plain rfl) (Gives.pickF hE rfl hg77 rfl) rfl ?_; clear hE a; intro a hE
            refine QL.v hE (runs_plain rfl) (Gives.p hE rfl) rfl ?_; clear hE a; intro a hE
            rcases Bool.eq_false_or_eq_true (decide (x57.FromStop ≥ q78)) with hg80 | hg80
            · replace hq71 := iteT hg80 hq71
              refine QL.no hE (runs_not hE rfl rfl rfl (by rw [hg80]; decide)) rfl ?_; clear hE a; intro a hE
              refine QL.no hE (runs_not hE rfl rfl rfl (by rw [hg80]; decide)) rfl ?_; clear hE a; intro a hE
              refine QL.no hE (runs_not hE rfl rfl rfl (by rw [hg80]; decide)) rfl ?_; clear hE a; intro a hE
              refine QL.v hE (runs_plain rfl) (Gives.pickT hE rfl hg80 rfl) rfl ?_; clear hE a; intro a hE
              refine QL.v hE (runs_plain rfl) (Gives.p hE rfl) rfl ?_; clear hE a; intro a hE
              refine QL.no hE (runs_not hE rfl rfl rfl (by decide)) rfl ?_; clear hE a; intro a hE
              refine QL.no hE (runs_not hE rfl rfl rfl (by decide)) rfl ?_; clear hE a; intro a hE
              refine QL.no hE (runs_not hE rfl rfl rfl (by decide)) rfl ?_; clear hE a; intro a hE
              refine QL.no hE (runs_not hE rfl rfl rfl (by decide)) rfl ?_; clear hE a; intro a hE
              refine QL.no hE (runs_not hE rfl rfl rfl (by decide)) rfl ?_; clear hE a; intro a hE
              refine QL.no hE (runs_not hE rfl rfl rfl (by decide)) rfl ?_; clear hE a; intro a hE
              refine QL.no hE (runs_not hE rfl rfl rfl (by decide)) rfl ?_; clear hE a; intro a hE
              refine QL.v hE (runs_plain rfl) (Gives.pickT hE rfl rfl rfl) rfl ?_; clear hE a; intro a hE
              refine QL.v hE (runs_plain rfl) (Gives.p hE rfl) rfl ?_; clear hE a; intro a hE
              refine QL.nil ?_; clear hS w; intro w hS
              subst hK76
              exact ⟨true, Option.some.inj hq71, hE.pick _ ⟨rfl, rfl, rfl, rfl, rfl, rfl, rfl, rfl, trivial⟩, hS⟩
            · replace hq71 := iteF hg80 hq71
              refine QL.v hE (runs_if hE rfl rfl rfl hg80) (Gives.fld hE rfl fl46_3) rfl ?_; clear hE a; intro a hE
              refine QL.v hE (runs_if hE rfl rfl rfl hg80) (Gives.loadB hE 0 rfl rfl rfl ty3) rfl ?_; clear hE a; intro a hE
              refine QL.v hE (runs_if hE rfl rfl rfl hg80) (Gives.p hE rfl) rfl ?_; clear hE a; intro a hE
              refine QL.v hE (runs_plain rfl) (Gives.pickF hE rfl hg80 rfl) rfl ?_; clear hE a; intro a hE
              refine QL.v hE (runs_plain rfl) (Gives.p hE rfl) rfl ?_; clear hE a; intro a hE
              rcases Bool.eq_false_or_eq_true (decide (x57.ToStop < 0)) with hg81 | hg81
              · replace hq71 := iteT hg81 hq71
                refine QL.no hE (runs_not hE rfl rfl rfl (by rw [hg81]; decide)) rfl ?_; clear hE a; intro a hE
                refine QL.no hE (runs_not hE rfl rfl rfl (by rw [hg81]; decide)) rfl ?_; clear hE a; intro a hE
                refine QL.no hE (runs_not hE rfl rfl rfl (by rw [hg81]; decide)) rfl ?_; clear hE a; intro a hE
                refine QL.no hE (runs_not hE rfl rfl rfl (by rw [hg81]; decide)) rfl ?_; clear hE a; intro a hE
                refine QL.no hE (runs_not hE rfl rfl rfl (by rw [hg81]; decide)) rfl ?_; clear hE a; intro a hE
                refine QL.no hE (runs_not hE rfl rfl rfl (by rw [hg81]; decide)) rfl ?_; clear hE a; intro a hE
                refine QL.no hE (runs_not hE rfl rfl rfl (by rw [hg81]; decide)) rfl ?_; clear hE a; intro a hE
                refine QL.v hE (runs_plain rfl) (Gives.pickT hE rfl hg81 rfl) rfl ?_; clear hE a; intro a hE
                refine QL.v hE (runs_plain rfl) (Gives.p hE rfl) rfl ?_; clear hE a; intro a hE
                refine QL.nil ?_; clear hS w; intro w hS
                subst hK76
                exact ⟨true, Option.some.inj hq71, hE.pick _ ⟨rfl, rfl, rfl, rfl, rfl, rfl, rfl, rfl, trivial⟩, hS⟩
              · replace hq71 := iteF hg81 hq71
                refine QL.v hE (runs_if hE rfl rfl rfl hg81) (Gives.fld hE rfl fl46_3) rfl ?_; clear hE a; intro a hE
                refine QL.v hE (runs_if hE rfl rfl rfl hg81) (Gives.loadB hE 0 rfl rfl rfl ty3) rfl ?_; clear hE a; intro a hE
                refine QL.v hE (runs_if hE rfl rfl rfl hg81) (Gives.p hE rfl) rfl ?_; clear hE a; intro a hE
                refine QL.v hE (runs_if hE rfl rfl rfl hg81) (Gives.fld hE rfl fl46_2) rfl ?_; clear hE a; intro a hE
                refine QL.v hE (runs_if hE rfl rfl rfl hg81) (Gives.loadB hE 0 rfl rfl rfl ty3) rfl ?_; clear hE a; intro a hE
                obtain ⟨q82, hq83, hq71⟩ := bindS hq71
                refine QL.fnw hE (fun w hS => (Fishref2MissedOf_1_v1_ok (y0 := x0) (St.front hS 1 rfl) h0_0 h0_1 hq83).mono fun _ _ ⟨he, hq⟩ => ⟨he, (St.unfront 1 rfl hq)⟩) rfl (runs_if hE rfl rfl rfl hg81) bd15 rfl rfl rfl ?_; clear hE a; intro a hE
                refine QL.v hE (runs_if hE rfl rfl rfl hg81) (Gives.p hE rfl) rfl ?_; clear hE a; intro a hE
                refine QL.v hE (runs_plain rfl) (Gives.pickF hE rfl hg81 rfl) rfl ?_; clear hE a; intro a hE
                refine QL.v hE (runs_plain rfl) (Gives.p hE rfl) rfl ?_; clear hE a; intro a hE
                refine QL.nil ?_; clear hS w; intro w hS
                subst hK76
                exact ⟨decide (x57.ToStop ≥ q82), Option.some.inj hq71, hE.pick _ ⟨rfl, rfl, rfl, rfl, rfl, rfl, rfl, rfl, trivial⟩, hS⟩
        · clear hE hS a w; rintro a w ⟨q75, rfl, hE, hS⟩
          refine W.cond hE rfl (fun hc84 => ?_) (fun hc84 => ?_)
          · replace hq54 := iteT hc84 hq54
            refine W.seq ?_
            refine W.region ?_
            refine WL.vS hS hE (runs_plain rfl) (Gives.p hE rfl) rfl ?_; clear hE a; intro a hE
            refine WL.vS hS hE (runs_plain rfl) (Gives.p hE rfl) rfl ?_; clear hE a; intro a hE
            refine WL.nil ?_
            refine W.ret ?_
            subst hK65
            rw [← Option.some.inj hq54] at hr
            dsimp only at hr
            replace hS := hS.vecNil 3 1
            refine finG (fn := Tryd.f7) (rs := [.tmp 4, .tmp 5]) (vs := [_, _]) hE rfl ⟨rfl, rfl, trivial⟩ ?_
            obtain rfl := Option.some.inj hr
            replace hS := hS.dropAt 1
            replace hS := hS.dropAt 1
            exact ⟨none, 0, 0, [], rfl, (Ev.nil), (rfl), hS⟩
          · replace hq54 := iteF hc84 hq54
            refine W.seq ?_
            obtain ⟨q87, hq86, hq54⟩ := bindS hq54
            refine W.cut (fun a w => ∃ (q90 : Bool), q90 = q87 ∧ Rep a 110 [(1, .slice a1 x1.length c1), (2, .pointer (some ⟨b51, 0, none⟩)), (6, .func (.func 15) #[] #[.pointer (some ⟨b51, 0, none⟩)]), (8, .pointer (some ⟨b70, 0, none⟩)), (16, .slice a1 x1.length c1), (17, .int .i64 ((x1).length : Int)), (18, .int .i64 ((k56 : Nat) : Int)), (49, .bool q90)] ∧ St w s (pt b70 (.cells (PlanMeet.cells x57).toArray 46 (0, 0)) :: pt b51 (.cells #[.slice a0_0 x0.Trains.length c0_0, .slice a0_1 x0.Turns.length c0_1] 25 (0, 0)) :: R)) ?_ ?_
            · refine W.gen fun K91 hK91 => ?_
              refine W.regionQ (C := fun w => St w s (pt b70 (.cells (PlanMeet.cells x57).toArray 46 (0, 0)) :: pt b51 (.cells #[.slice a0_0 x0.Trains.length c0_0, .slice a0_1 x0.Turns.length c0_1] 25 (0, 0)) :: R)) mixed (by kernel_rfl) hS.drew ?_
              refine QL.v hE (runs_plain rfl) (Gives.fld hE rfl fl46_1) rfl ?_; clear hE a; intro a hE
              refine QL.v hE (runs_plain rfl) (Gives.loadB hE 0 rfl rfl rfl ty3) rfl ?_; clear hE a; intro a hE
              refine QL.v hE (runs_plain rfl) (Gives.p hE rfl) rfl ?_; clear hE a; intro a hE
              refine QL.v hE (runs_plain rfl) (Gives.p hE rfl) rfl ?_; clear hE a; intro a hE
              rcases Bool.eq_false_or_eq_true (x57.FromStop == 0) with hg92 | hg92
              · replace hq86 := iteT hg92 hq86
                refine QL.no hE (runs_not hE rfl rfl rfl (by rw [hg92]; decide)) rfl ?_; clear hE a; intro a hE
                refine QL.no hE (runs_not hE rfl rfl rfl (by rw [hg92]; decide)) rfl ?_; clear hE a; intro a hE
                refine QL.no hE (runs_not hE rfl rfl rfl (by rw [hg92]; decide)) rfl ?_; clear hE a; intro a hE
                refine QL.no hE (runs_not hE rfl rfl rfl (by rw [hg92]; decide)) rfl ?_; clear hE a; intro a hE
                refine QL.no hE (runs_not hE rfl rfl rfl (by rw [hg92]; decide)) rfl ?_; clear hE a; intro a hE
                refine QL.no hE (runs_not hE rfl rfl rfl (by rw [hg92]; decide)) rfl ?_; clear hE a; intro a hE
                refine QL.no hE (runs_not hE rfl rfl rfl (by rw [hg92]; decide)) rfl ?_; clear hE a; intro a hE
                refine QL.no hE (runs_not hE rfl rfl rfl (by rw [hg92]; decide)) rfl ?_; clear hE a; intro a hE
                refine QL.v hE (runs_plain rfl) (Gives.pickT hE rfl hg92 rfl) rfl ?_; clear hE a; intro a hE
                refine QL.v hE (runs_plain rfl) (Gives.p hE rfl) rfl ?_; clear hE a; intro a hE
                refine QL.nil ?_; clear hS w; intro w hS
                subst hK91
                exact ⟨true, Option.some.inj hq86, hE.pick _ ⟨rfl, rfl, rfl, rfl, rfl, rfl, rfl, rfl, trivial⟩, hS⟩
              · replace hq86 := iteF hg92 hq86
                refine QL.v hE (runs_if hE rfl rfl rfl hg92) (Gives.fld hE rfl fl46_3) rfl ?_; clear hE a; intro a hE
                refine QL.v hE (runs_if hE rfl rfl rfl hg92) (Gives.loadB hE 0 rfl rfl rfl ty3) rfl ?_; clear hE a; intro a hE
                refine QL.v hE (runs_if hE rfl rfl rfl hg92) (Gives.p hE rfl) rfl ?_; clear hE a; intro a hE
                refine QL.v hE (runs_if hE rfl rfl rfl hg92) (Gives.fld hE rfl fl46_2) rfl ?_; clear hE a; intro a hE
                refine QL.v hE (runs_if hE rfl rfl rfl hg92) (Gives.loadB hE 0 rfl rfl rfl ty3) rfl ?_; clear hE a; intro a hE
                obtain ⟨q93, hq94, hq86⟩ := bindS hq86
                refine QL.fnw hE (fun w hS => (Fishref2MissedOf_1_v1_ok (y0 := x0) (St.front hS 1 rfl) h0_0 h0_1 hq94).mono fun _ _ ⟨he, hq⟩ => ⟨he, (St.unfront 1 rfl hq)⟩) rfl (runs_if hE rfl rfl rfl hg92) bd15 rfl rfl rfl ?_; clear hE a; intro a hE
                refine QL.v hE (runs_if hE rfl rfl rfl hg92) (Gives.p hE rfl) rfl ?_; clear hE a; intro a hE
                refine QL.v hE (runs_if hE rfl rfl rfl hg92) (Gives.p hE rfl) rfl ?_; clear hE a; intro a hE
                refine QL.v hE (runs_plain rfl) (Gives.pickF hE rfl hg92 rfl) rfl ?_; clear hE a; intro a hE
                refine QL.v hE (runs_plain rfl) (Gives.p hE rfl) rfl ?_; clear hE a; intro a hE
                refine QL.nil ?_; clear hS w; intro w hS
                subst hK91
                exact ⟨(x57.ToStop == (w64 (q93 - 1))), Option.some.inj hq86, hE.pick _ ⟨rfl, rfl, rfl, rfl, rfl, rfl, rfl, rfl, trivial⟩, hS⟩
            · clear hE hS a w; rintro a w ⟨q90, rfl, hE, hS⟩
              refine W.cond hE rfl (fun hc95 => ?_) (fun hc95 => ?_)
              · replace hq54 := iteT hc95 hq54
                refine W.seq ?_
                refine W.region ?_
                refine WL.vS hS hE (runs_plain rfl) (Gives.p hE rfl) rfl ?_; clear hE a; intro a hE
                refine WL.vS hS hE (runs_plain rfl) (Gives.p hE rfl) rfl ?_; clear hE a; intro a hE
                refine WL.nil ?_
                refine W.ret ?_
                subst hK65
                rw [← Option.some.inj hq54] at hr
                dsimp only at hr
                replace hS := hS.vecNil 3 1
                refine finG (fn := Tryd.f7) (rs := [.tmp 4, .tmp 5]) (vs := [_, _]) hE rfl ⟨rfl, rfl, trivial⟩ ?_
                obtain rfl := Option.some.inj hr
                replace hS := hS.dropAt 1
                replace hS := hS.dropAt 1
                exact ⟨none, 0, 0, [], rfl, (Ev.nil), (rfl), hS⟩
              · replace hq54 := iteF hc95 hq54
                refine W.seq ?_
                refine W.region ?_
                refine WL.vS hS hE (runs_plain rfl) (Gives.fld hE rfl fl46_4) rfl ?_; clear hE a; intro a hE
                refine WL.vS hS hE (runs_plain rfl) (Gives.loadB hE 0 rfl rfl rfl ty3) rfl ?_; clear hE a; intro a hE
                refine WL.fnq hE (Fishref2within_ok hS  rfl (r := Fishref2within x57.Least 0 28800)) (runs_plain rfl) bd16 rfl rfl rfl ?_
                clear hE hS; rintro e w ⟨rfl, hS⟩; refine ⟨_, rfl, ?_⟩; clear a; intro a hE
                refine WL.vS hS hE (runs_plain rfl) (Gives.p hE rfl) rfl ?_; clear hE a; intro a hE
                refine WL.vS hS hE (runs_plain rfl) (Gives.p hE rfl) rfl ?_; clear hE a; intro a hE
                refine WL.nil ?_
                refine W.cond hE rfl (fun hc97 => ?_) (fun hc97 => ?_)
                · replace hq54 := iteT hc97 hq54
                  refine W.seq ?_
                  refine W.region ?_
                  refine WL.vS hS hE (runs_plain rfl) (Gives.p hE rfl) rfl ?_; clear hE a; intro a hE
                  refine WL.vS hS hE (runs_plain rfl) (Gives.p hE rfl) rfl ?_; clear hE a; intro a hE
                  refine WL.nil ?_
                  refine W.ret ?_
                  subst hK65
                  rw [← Option.some.inj hq54] at hr
                  dsimp only at hr
                  replace hS := hS.vecNil 3 1
                  refine finG (fn := Tryd.f7) (rs := [.tmp 4, .tmp 5]) (vs := [_, _]) hE rfl ⟨rfl, rfl, trivial⟩ ?_
                  obtain rfl := Option.some.inj hr
                  replace hS := hS.dropAt 1
                  replace hS := hS.dropAt 1
                  exact ⟨none, 0, 0, [], rfl, (Ev.nil), (rfl), hS⟩
                · replace hq54 := iteF hc97 hq54
                  refine W.skip ?_
                  refine W.region ?_
                  refine WL.vS hS hE (runs_plain rfl) (Gives.inc hE rfl (by have := h1.small; omega)) rfl ?_; clear hE a; intro a hE
                  refine WL.vS hS hE (runs_plain rfl) (Gives.p hE rfl) rfl ?_; clear hE a; intro a hE
                  refine WL.nil ?_
                  replace hS := hS.tail
                  subst hK65
                  exact ⟨rest58.length, Nat.lt_succ_self _, rest58, k56 + 1, rfl, hd59, hq54, hE.pick _ ⟨rfl, rfl, rfl, rfl, rfl, rfl, trivial⟩, hS⟩
    · clear hE hS a w; rintro a w ⟨rfl, hE, hS⟩
      dsimp only at hr
      refine W.seq ?_
      refine W.region ?_
      replace hS := hS.vecNil 3 1
      refine WL.vS hS hE (runs_plain rfl) (Gives.p hE rfl) rfl ?_; clear hE a; intro a hE
      refine WL.nil ?_
      refine W.seq ?_
      refine W.seq ?_
      refine W.region ?_
      refine WL.vS hS hE (runs_plain rfl) (Gives.p hE rfl) rfl ?_; clear hE a; intro a hE
      refine WL.vS hS hE (runs_plain rfl) (Gives.len hE rfl sl26) rfl ?_; clear hE a; intro a hE
      refine WL.vS hS hE (runs_plain rfl) (Gives.p hE rfl) rfl ?_; clear hE a; intro a hE
      refine WL.nil ?_
      obtain ⟨q101, hq100, hr⟩ := bindS hr
      refine W.cut (fun a w => ∃ (q111 : List Int), ∃ (a112 : Option Addr), ∃ (c113 : Nat), ∃ (n115 : Nat), ∃ (cs116 : List Value), q111 = q101 ∧ Ev 1 (RI .i64) s cs116 q111 ∧ q111.length = n115 ∧ Rep a 110 [(9, .slice a112 n115 c113)] ∧ St w s (vecC 3 1 a112 c113 n115 cs116 :: pt b51 (.cells #[.slice a0_0 x0.Trains.length c0_0, .slice a0_1 x0.Turns.length c0_1] 25 (0, 0)) :: R)) ?_ ?_
      · refine W.block ?_
        refine W.loop (fun m a w => ∃ (rest104 : List PlanMeet) (k102 : Nat), ∃ (q111 : List Int), ∃ (a112 : Option Addr), ∃ (c113 : Nat), ∃ (n115 : Nat), ∃ (cs116 : List Value), rest104.length = m ∧ x1.drop k102 = rest104 ∧ Fishref2MissedOf.loop2 x0 rest104 k102 q111 = some q101 ∧ Ev 1 (RI .i64) s cs116 q111 ∧ q111.length = n115 ∧ Rep a 110 [(2, .pointer (some ⟨b51, 0, none⟩)), (9, .slice a112 n115 c113), (69, .slice a1 x1.length c1), (70, .int .i64 ((x1).length : Int)), (71, .int .i64 ((k102 : Nat) : Int))] ∧ St w s (vecC 3 1 a112 c113 n115 cs116 :: pt b51 (.cells #[.slice a0_0 x0.Trains.length c0_0, .slice a0_1 x0.Turns.length c0_1] 25 (0, 0)) :: R)) (m := x1.length) ⟨x1, 0, [], none, 0, 0, [], rfl, rfl, hq100, (Ev.nil), (rfl), hE.pick _ ⟨rfl, rfl, rfl, rfl, rfl, trivial⟩, hS⟩ ?_
        clear hE hS a w hq100; rintro m108 a w ⟨rest104, k102, q111, a112, c113, n115, cs116, rfl, hd105, hq100, h114, rfl, hE, hS⟩
        refine W.gen fun K118 hK118 => ?_
        rcases rest104 with _ | ⟨x103, rest104⟩
        · have hlt106 := drop_nil hd105
          refine W.seq ?_
          refine W.region ?_
          refine WL.vS hS hE (runs_plain rfl) (Gives.p hE rfl) rfl ?_; clear hE a; intro a hE
          refine WL.nil ?_
          refine W.seq ?_
          refine W.condF hE rfl (decide_eq_false (by omega)) ?_
          subst hK118
          refine W.exit rfl ?_
          exact ⟨q111, a112, c113, q111.length, cs116, Option.some.inj hq100, h114, rfl, hE.pick _ ⟨rfl, trivial⟩, hS⟩
        · obtain ⟨hlt106, hx107, hd105⟩ := drop_cons hd105
          rw [Fishref2MissedOf.loop2] at hq100
          refine W.seq ?_
          refine W.region ?_
          refine WL.vS hS hE (runs_plain rfl) (Gives.p hE rfl) rfl ?_; clear hE a; intro a hE
          refine WL.nil ?_
          refine W.seq ?_
          refine W.condT hE rfl (decide_eq_true (by omega)) ?_
          refine W.skip ?_
          refine W.seq ?_
          refine W.block ?_
          refine W.seq ?_
          refine W.region ?_
          refine WL.vS hS hE (runs_plain rfl) (Gives.p hE rfl) rfl ?_; clear hE a; intro a hE
          obtain ⟨cs119, hl120, hR121, hat122⟩ := h1.at hx107
          subst hR121
          refine WL.vS hS hE (runs_plain rfl) (Gives.idx hE k102 rfl rfl sl26 rfl hlt106 (h1.aok hlt106)) rfl ?_; clear hE a; intro a hE
          refine WL.vS hS hE (runs_plain rfl) (Gives.loadA hE rfl (fun w h => hat122 w _ h) ty46) rfl ?_; clear hE a; intro a hE
          refine WL.alloc hE hS (runs_plain rfl) zr46 rfl ?_; clear hE hS a w; intro b123 a w hE hS
          refine WL.vS hS hE (runs_plain rfl) (Gives.p hE rfl) rfl ?_; clear hE a; intro a hE
          refine WL.storeI hE hS 0 rfl (PlanMeet.cells x103) (runs_plain rfl) rfl rfl rfl ty46 rfl rfl rfl rfl ?_; clear hE hS a w; intro a w hE hS
          refine WL.nil ?_
          refine W.seq ?_
          refine W.regionQ (C := fun w => St w s (pt b123 (.cells (PlanMeet.cells x103).toArray 46 (0, 0)) :: vecC 3 1 a112 c113 q111.length cs116 :: pt b51 (.cells #[.slice a0_0 x0.Trains.length c0_0, .slice a0_1 x0.Turns.length c0_1] 25 (0, 0)) :: R)) mixed (by kernel_rfl) hS.drew ?_
          refine QL.v hE (runs_plain rfl) (Gives.fld hE rfl fl25_0) rfl ?_; clear hE a; intro a hE
          refine QL.v hE (runs_plain rfl) (Gives.loadB hE 2 rfl rfl rfl ty22) rfl ?_; clear hE a; intro a hE
          refine QL.v hE (runs_plain rfl) (Gives.fld hE rfl fl46_2) rfl ?_; clear hE a; intro a hE
          refine QL.v hE (runs_plain rfl) (Gives.loadB hE 0 rfl rfl rfl ty3) rfl ?_; clear hE a; intro a hE
          obtain ⟨x124, hx125, hq100⟩ := bindS hq100
          obtain ⟨hi126, hlt127, hy128⟩ := gx_some hx125
          obtain ⟨cs129, hl130, hR131, hat132⟩ := h0_0.at hy128
          obtain ⟨a133, c134, a136, c137, rfl, h135, h138⟩ := hR131
          refine QL.v hE (runs_plain rfl) (Gives.idx hE (x103.To).toNat rfl rfl sl22 hi126 hlt127 (h0_0.aok hlt127)) rfl ?_; clear hE a; intro a hE
          refine QL.v hE (runs_plain rfl) (Gives.fld hE rfl fl29_2) rfl ?_; clear hE a; intro a hE
          refine QL.v hE (runs_plain rfl) (Gives.load1 hE rfl (fun w h => (hat132 w _ h).one rfl) ty27) rfl ?_; clear hE a; intro a hE
          refine QL.v hE (runs_plain rfl) (Gives.fld hE rfl fl46_3) rfl ?_; clear hE a; intro a hE
          refine QL.v hE (runs_plain rfl) (Gives.loadB hE 0 rfl rfl rfl ty3) rfl ?_; clear hE a; intro a hE
          obtain ⟨x139, hx140, hq100⟩ := bindS hq100
          obtain ⟨hi141, hlt142, hy143⟩ := gx_some hx140
          obtain ⟨cs144, hl145, hR146, hat147⟩ := h135.at hy143
          subst hR146
          refine QL.v hE (runs_plain rfl) (Gives.idx hE (x103.ToStop).toNat rfl rfl sl27 hi141 hlt142 (h135.aok hlt142)) rfl ?_; clear hE a; intro a hE
          refine QL.v hE (runs_plain rfl) (Gives.fld hE rfl fl31_3) rfl ?_; clear hE a; intro a hE
          refine QL.v hE (runs_plain rfl) (Gives.load1 hE rfl (fun w h => (hat147 w _ h).one rfl) ty3) rfl ?_; clear hE a; intro a hE
          refine QL.v hE (runs_plain rfl) (Gives.fld hE rfl fl25_0) rfl ?_; clear hE a; intro a hE
          refine QL.v hE (runs_plain rfl) (Gives.loadB hE 2 rfl rfl rfl ty22) rfl ?_; clear hE a; intro a hE
          refine QL.v hE (runs_plain rfl) (Gives.fld hE rfl fl46_0) rfl ?_; clear hE a; intro a hE
          refine QL.v hE (runs_plain rfl) (Gives.loadB hE 0 rfl rfl rfl ty3) rfl ?_; clear hE a; intro a hE
          obtain ⟨x148, hx149, hq100⟩ := bindS hq100
          obtain ⟨hi150, hlt151, hy152⟩ := gx_some hx149
          obtain ⟨cs153, hl154, hR155, hat156⟩ := h0_0.at hy152
          obtain ⟨a157, c158, a160, c161, rfl, h159, h162⟩ := hR155
          refine QL.v hE (runs_plain rfl) (Gives.idx hE (x103.From).toNat rfl rfl sl22 hi150 hlt151 (h0_0.aok hlt151)) rfl ?_; clear hE a; intro a hE
          refine QL.v hE (runs_plain rfl) (Gives.fld hE rfl fl29_2) rfl ?_; clear hE a; intro a hE
          refine QL.v hE (runs_plain rfl) (Gives.load1 hE rfl (fun w h => (hat156 w _ h).one rfl) ty27) rfl ?_; clear hE a; intro a hE
          refine QL.v hE (runs_plain rfl) (Gives.fld hE rfl fl46_1) rfl ?_; clear hE a; intro a hE
          refine QL.v hE (runs_plain rfl) (Gives.loadB hE 0 rfl rfl rfl ty3) rfl ?_; clear hE a; intro a hE
          obtain ⟨x163, hx164, hq100⟩ := bindS hq100
          obtain ⟨hi165, hlt166, hy167⟩ := gx_some hx164
          obtain ⟨cs168, hl169, hR170, hat171⟩ := h159.at hy167
          subst hR170
          refine QL.v hE (runs_plain rfl) (Gives.idx hE (x103.FromStop).toNat rfl rfl sl27 hi165 hlt166 (h159.aok hlt166)) rfl ?_; clear hE a; intro a hE
          refine QL.v hE (runs_plain rfl) (Gives.fld hE rfl fl31_2) rfl ?_; clear hE a; intro a hE
          refine QL.v hE (runs_plain rfl) (Gives.load1 hE rfl (fun w h => (hat171 w _ h).one rfl) ty3) rfl ?_; clear hE a; intro a hE
          refine QL.v hE (runs_plain rfl) (Gives.p hE rfl) rfl ?_; clear hE a; intro a hE
          refine QL.v hE (runs_plain rfl) (Gives.fld hE rfl fl46_4) rfl ?_; clear hE a; intro a hE
          refine QL.v hE (runs_plain rfl) (Gives.loadB hE 0 rfl rfl rfl ty3) rfl ?_; clear hE a; intro a hE
          refine QL.v hE (runs_plain rfl) (Gives.p hE rfl) rfl ?_; clear hE a; intro a hE
          refine QL.nil ?_; clear hS w; intro w hS
          obtain ⟨q173, hq172, hq100⟩ := bindS hq100
          refine W.cut (fun a w => ∃ (q176 : List Int), ∃ (a177 : Option Addr), ∃ (c178 : Nat), ∃ (n180 : Nat), ∃ (cs181 : List Value), q176 = q173 ∧ Ev 1 (RI .i64) s cs181 q176 ∧ q176.length = n180 ∧ Rep a 110 [(2, .pointer (some ⟨b51, 0, none⟩)), (9, .slice a177 n180 c178), (69, .slice a1 x1.length c1), (70, .int .i64 ((x1).length : Int)), (71, .int .i64 ((k102 : Nat) : Int))] ∧ St w s (pt b123 (.cells (PlanMeet.cells x103).toArray 46 (0, 0)) :: vecC 3 1 a177 c178 n180 cs181 :: pt b51 (.cells #[.slice a0_0 x0.Trains.length c0_0, .slice a0_1 x0.Turns.length c0_1] 25 (0, 0)) :: R)) ?_ ?_
          · refine W.gen fun K183 hK183 => ?_
            refine W.cond hE rfl (fun hc184 => ?_) (fun hc184 => ?_)
            · replace hq172 := iteT hc184 hq172
              refine W.region ?_
              refine WL.vS hS hE (runs_plain rfl) (Gives.p hE rfl) rfl ?_; clear hE a; intro a hE
              refine WL.vS hS hE (runs_plain rfl) (Gives.p hE rfl) rfl ?_; clear hE a; intro a hE
              refine WL.lit hE hS (e := 3) (es := 1) (vs := [(0, .int .i64 ((k102 : Nat) : Int))]) (cs := [.int .i64 ((k102 : Nat) : Int)]) (runs_plain rfl) rfl (by kernel_rfl) rfl ?_; clear hE hS a w; intro b185 a w hE hS
              obtain ⟨x186, hx187, hq172⟩ := bindS hq172
              refine WL.appD hE hS 1 (m := 1) (runs_plain rfl) rfl rfl rfl ap33 rfl h114 rfl (xs := [((k102 : Nat) : Int)]) (Ev.cons (c1 := [.int .i64 ((k102 : Nat) : Int)]) rfl rfl (Ev.nil)) rfl rfl hx187 rfl ?_; clear hE hS a w; intro a188 c189 cs190 a w h191 hE hS
              refine WL.vS hS hE (runs_plain rfl) (Gives.p hE rfl) rfl ?_; clear hE a; intro a hE
              refine WL.nil ?_
              subst hK183
              exact ⟨x186, a188, c189, x186.length, cs190, Option.some.inj hq172, h191, (rfl), hE.pick _ ⟨rfl, rfl, rfl, rfl, rfl, trivial⟩, hS⟩
            · replace hq172 := iteF hc184 hq172
              refine W.skip ?_
              subst hK183
              exact ⟨q111, a112, c113, q111.length, cs116, Option.some.inj hq172, h114, rfl, hE.pick _ ⟨rfl, rfl, rfl, rfl, rfl, trivial⟩, hS⟩
          · clear hE hS a w; rintro a w ⟨q176, a177, c178, n180, cs181, rfl, h179, rfl, hE, hS⟩
            refine W.region ?_
            refine WL.vS hS hE (runs_plain rfl) (Gives.inc hE rfl (by have := h1.small; omega)) rfl ?_; clear hE a; intro a hE
            refine WL.vS hS hE (runs_plain rfl) (Gives.p hE rfl) rfl ?_; clear hE a; intro a hE
            refine WL.nil ?_
            replace hS := hS.tail
            subst hK118
            exact ⟨rest104.length, Nat.lt_succ_self _, rest104, k102 + 1, q176, a177, c178, q176.length, cs181, rfl, hd105, hq100, h179, rfl, hE.pick _ ⟨rfl, rfl, rfl, rfl, rfl, trivial⟩, hS⟩
      · clear hE hS a w; rintro a w ⟨q111, a112, c113, n115, cs116, rfl, h114, rfl, hE, hS⟩
        refine W.seq ?_
        refine W.region ?_
        refine WL.vS hS hE (runs_plain rfl) (Gives.p hE rfl) rfl ?_; clear hE a; intro a hE
        refine WL.vS hS hE (runs_plain rfl) (Gives.p hE rfl) rfl ?_; clear hE a; intro a hE
        refine WL.vS hS hE (runs_plain rfl) (Gives.p hE rfl) rfl ?_; clear hE a; intro a hE
        refine WL.nil ?_
        refine W.ret ?_
        refine finG (fn := Tryd.f7) (rs := [.tmp 4, .tmp 5]) (vs := [_, _]) hE rfl ⟨rfl, rfl, trivial⟩ ?_
        obtain rfl := Option.some.inj hr
        replace hS := hS.dropAt 1
        exact ⟨a112, c113, q111.length, cs116, rfl, h114, rfl, hS⟩
set_option maxHeartbeats 8000000 in
theorem SlicesEqualLint_ok  {w : World} {s : Sg} {R : List HP} {x0 : List Int} {a0 : Option Addr} {c0 : Nat} {x1 : List Int} {a1 : Option Addr} {c1 : Nat} (hS : St w s (R)) (h0 : Sl 1 (RI .i64) s a0 c0 x0) (h1 : Sl 1 (RI .i64) s a1 c1 x1) {r : Bool} (hr : SlicesEqualLint x0 x1 = some r) :
    Calls Tryd.prog 8 [.slice a0 x0.length c0, .slice a1 x1.length c1].toArray w (fun e w => e = .returned (.bool r) ∧ St w s (R)) := by
  refine enter Tryd.func8 rfl rfl rfl fun a hE => ?_
  rw [SlicesEqualLint] at hr
  refine W.seq ?_
  refine W.region ?_
  refine WL.vS hS hE (runs_plain rfl) (Gives.p hE rfl) rfl ?_; clear hE a; intro a hE
  refine WL.nil ?_
  refine W.seq ?_
  refine W.seq ?_
  refine W.region ?_
  refine WL.vS hS hE (runs_plain rfl) (Gives.p hE rfl) rfl ?_; clear hE a; intro a hE
  refine WL.vS hS hE (runs_plain rfl) (Gives.len hE rfl sl33) rfl ?_; clear hE a; intro a hE
  refine WL.vS hS hE (runs_plain rfl) (Gives.p hE rfl) rfl ?_; clear hE a; intro a hE
  refine WL.vS hS hE (runs_plain rfl) (Gives.len hE rfl sl33) rfl ?_; clear hE a; intro a hE
  refine WL.vS hS hE (runs_plain rfl) (Gives.p hE rfl) rfl ?_; clear hE a; intro a hE
  refine WL.nil ?_
  refine W.cond hE rfl (fun hc51 => ?_) (fun hc51 => ?_)
  · replace hr := iteT hc51 hr
    refine W.seq ?_
    refine W.region ?_
    refine WL.vS hS hE (runs_plain rfl) (Gives.p hE rfl) rfl ?_; clear hE a; intro a hE
    refine WL.nil ?_
    refine W.ret ?_
    refine finG (fn := Tryd.f8) (rs := [.tmp 4]) (vs := [_]) hE rfl ⟨rfl, trivial⟩ ?_
    obtain rfl := Option.some.inj hr
    exact ⟨rfl, hS⟩
  · replace hr := iteF hc51 hr
    refine W.skip ?_
    refine W.seq ?_
    refine W.seq ?_
    refine W.region ?_
    refine WL.vS hS hE (runs_plain rfl) (Gives.p hE rfl) rfl ?_; clear hE a; intro a hE
    refine WL.vS hS hE (runs_plain rfl) (Gives.len hE rfl sl33) rfl ?_; clear hE a; intro a hE
    refine WL.vS hS hE (runs_plain rfl) (Gives.p hE rfl) rfl ?_; clear hE a; intro a hE
    refine WL.nil ?_
    obtain ⟨q53, hq52, hr⟩ := bindS hr
    refine W.cut (fun a w => (.next ()) = q53 ∧ Rep a 26 [] ∧ St w s (R)) ?_ ?_
    · refine W.block ?_
      refine W.loop (fun m a w => ∃ (rest56 : List Int) (k54 : Nat), rest56.length = m ∧ x0.drop k54 = rest56 ∧ SlicesEqualLint.loop1 x1 rest56 k54 = some q53 ∧ Rep a 26 [(0, .slice a0 x0.length c0), (1, .slice a1 x1.length c1), (12, .int .i64 ((x0).length : Int)), (13, .int .i64 ((k54 : Nat) : Int))] ∧ St w s (R)) (m := x0.length) ⟨x0, 0, rfl, rfl, hq52, hE.pick _ ⟨rfl, rfl, rfl, rfl, trivial⟩, hS⟩ ?_
      clear hE hS a w hq52; rintro m60 a w ⟨rest56, k54, rfl, hd57, hq52, hE, hS⟩
      refine W.gen fun K63 hK63 => ?_
      rcases rest56 with _ | ⟨x55, rest56⟩
      · have hlt58 := drop_nil hd57
        refine W.seq ?_
        refine W.region ?_
        refine WL.vS hS hE (runs_plain rfl) (Gives.p hE rfl) rfl ?_; clear hE a; intro a hE
        refine WL.nil ?_
        refine W.seq ?_
        refine W.condF hE rfl (decide_eq_false (by omega)) ?_
        subst hK63
        refine W.exit rfl ?_
        exact ⟨Option.some.inj hq52, hE.pick _ trivial, hS⟩
      · obtain ⟨hlt58, hx59, hd57⟩ := drop_cons hd57
        rw [SlicesEqualLint.loop1] at hq52
        refine W.seq ?_
        refine W.region ?_
        refine WL.vS hS hE (runs_plain rfl) (Gives.p hE rfl) rfl ?_; clear hE a; intro a hE
        refine WL.nil ?_
        refine W.seq ?_
        refine W.condT hE rfl (decide_eq_true (by omega)) ?_
        refine W.skip ?_
        refine W.seq ?_
        refine W.block ?_
        refine W.seq ?_
        refine W.region ?_
        refine WL.vS hS hE (runs_plain rfl) (Gives.p hE rfl) rfl ?_; clear hE a; intro a hE
        refine WL.vS hS hE (runs_plain rfl) (Gives.p hE rfl) rfl ?_; clear hE a; intro a hE
        refine WL.nil ?_
        refine W.seq ?_
        refine W.regionQ (C := fun w => St w s (R)) mixed (by kernel_rfl) hS.drew ?_
        refine QL.v hE (runs_plain rfl) (Gives.p hE rfl) rfl ?_; clear hE a; intro a hE
        refine QL.v hE (runs_plain rfl) (Gives.p hE rfl) rfl ?_; clear hE a; intro a hE
        obtain ⟨cs64, hl65, hR66, hat67⟩ := h0.at hx59
        subst hR66
        refine QL.v hE (runs_plain rfl) (Gives.idx hE k54 rfl rfl sl33 rfl hlt58 (h0.aok hlt58)) rfl ?_; clear hE a; intro a hE
        refine QL.v hE (runs_plain rfl) (Gives.load1 hE rfl (fun w h => hat67 w _ h) ty3) rfl ?_; clear hE a; intro a hE
        refine QL.v hE (runs_plain rfl) (Gives.p hE rfl) rfl ?_; clear hE a; intro a hE
        refine QL.v hE (runs_plain rfl) (Gives.p hE rfl) rfl ?_; clear hE a; intro a hE
        obtain ⟨x68, hx69, hq52⟩ := bindS hq52
        obtain ⟨hi70, hlt71, hy72⟩ := gx_some hx69
        obtain ⟨cs73, hl74, hR75, hat76⟩ := h1.at hy72
        subst hR75
        refine QL.v hE (runs_plain rfl) (Gives.idx hE (((k54 : Nat) : Int)).toNat rfl rfl sl33 hi70 hlt71 (h1.aok hlt71)) rfl ?_; clear hE a; intro a hE
        refine QL.v hE (runs_plain rfl) (Gives.load1 hE rfl (fun w h => hat76 w _ h) ty3) rfl ?_; clear hE a; intro a hE
        refine QL.v hE (runs_plain rfl) (Gives.p hE rfl) rfl ?_; clear hE a; intro a hE
        refine QL.nil ?_; clear hS w; intro w hS
        refine W.cond hE rfl (fun hc77 => ?_) (fun hc77 => ?_)
        · replace hq52 := iteT hc77 hq52
          refine W.seq ?_
          refine W.region ?_
          refine WL.vS hS hE (runs_plain rfl) (Gives.p hE rfl) rfl ?_; clear hE a; intro a hE
          refine WL.nil ?_
          refine W.ret ?_
          subst hK63
          rw [← Option.some.inj hq52] at hr
          dsimp only at hr
          refine finG (fn := Tryd.f8) (rs := [.tmp 4]) (vs := [_]) hE rfl ⟨rfl, trivial⟩ ?_
          obtain rfl := Option.some.inj hr
          exact ⟨rfl, hS⟩
        · replace hq52 := iteF hc77 hq52
          refine W.skip ?_
          refine W.region ?_
          refine WL.vS hS hE (runs_plain rfl) (Gives.inc hE rfl (by have := h0.small; omega)) rfl ?_; clear hE a; intro a hE
          refine WL.vS hS hE (runs_plain rfl) (Gives.p hE rfl) rfl ?_; clear hE a; intro a hE
          refine WL.nil ?_
          subst hK63
          exact ⟨rest56.length, Nat.lt_succ_self _, rest56, k54 + 1, rfl, hd57, hq52, hE.pick _ ⟨rfl, rfl, rfl, rfl, trivial⟩, hS⟩
    · clear hE hS a w; rintro a w ⟨rfl, hE, hS⟩
      dsimp only at hr
      refine W.seq ?_
      refine W.region ?_
      refine WL.vS hS hE (runs_plain rfl) (Gives.p hE rfl) rfl ?_; clear hE a; intro a hE
      refine WL.nil ?_
      refine W.ret ?_
      refine finG (fn := Tryd.f8) (rs := [.tmp 4]) (vs := [_]) hE rfl ⟨rfl, trivial⟩ ?_
      obtain rfl := Option.some.inj hr
      exact ⟨rfl, hS⟩
set_option maxHeartbeats 8000000 in
theorem Fishlaw2PlanMisses_ok  {w : World} {s : Sg} {R : List HP} {x0 : ApiDay} {a0_0 : Option Addr} {c0_0 : Nat} {a0_1 : Option Addr} {c0_1 : Nat} {x1 : List PlanMeet} {a1 : Option Addr} {c1 : Nat} (hS : St w s (R)) (h0_0 : Sl 4 RApiTrain s a0_0 c0_0 x0.Trains) (h0_1 : Sl 1 (RL 1 (RI .i64)) s a0_1 c0_1 x0.Turns) (h1 : Sl 5 RPlanMeet s a1 c1 x1) {r : Bool} (hr : Fishlaw2PlanMisses x0 x1 = some r) :
    Calls Tryd.prog 3 [.agg [.slice a0_0 x0.Trains.length c0_0, .slice a0_1 x0.Turns.length c0_1].toArray, .slice a1 x1.length c1].toArray w (fun e w => e = .returned (.bool r) ∧ St w s (R)) := by
  refine enter Tryd.func3 rfl rfl rfl fun a hE => ?_
  rw [Fishlaw2PlanMisses] at hr
  refine W.seq ?_
  refine W.region ?_
  refine WL.box hE hS (runs_plain rfl) rfl rfl rfl ?_; clear hE hS a w; intro b51 a w hE hS
  refine WL.vS hS hE (runs_plain rfl) (Gives.p hE rfl) rfl ?_; clear hE a; intro a hE
  refine WL.nil ?_
  refine W.seq ?_
  refine W.seq ?_
  refine W.region ?_
  refine WL.vS hS hE (runs_plain rfl) (Gives.fld hE rfl fl25_0) rfl ?_; clear hE a; intro a hE
  refine WL.vS hS hE (runs_plain rfl) (Gives.loadB hE 0 rfl rfl rfl ty22) rfl ?_; clear hE a; intro a hE
  refine WL.vS hS hE (runs_plain rfl) (Gives.len hE rfl sl22) rfl ?_; clear hE a; intro a hE
  refine WL.vS hS hE (runs_plain rfl) (Gives.p hE rfl) rfl ?_; clear hE a; intro a hE
  refine WL.nil ?_
  obtain ⟨q53, hq52, hr⟩ := bindS hr
  refine W.cut (fun a w => (.next ()) = q53 ∧ Rep a 67 [(1, .slice a1 x1.length c1), (2, .pointer (some ⟨b51, 0, none⟩))] ∧ St w s (pt b51 (.cells #[.slice a0_0 x0.Trains.length c0_0, .slice a0_1 x0.Turns.length c0_1] 25 (0, 0)) :: R)) ?_ ?_
  · refine W.block ?_
    refine W.loop (fun m a w => ∃ (rest56 : List ApiTrain) (k54 : Nat), rest56.length = m ∧ x0.Trains.drop k54 = rest56 ∧ Fishlaw2PlanMisses.loop1 rest56 = some q53 ∧ Rep a 67 [(1, .slice a1 x1.length c1), (2, .pointer (some ⟨b51, 0, none⟩)), (14, .slice a0_0 x0.Trains.length c0_0), (15, .int .i64 ((x0.Trains).length : Int)), (16, .int .i64 ((k54 : Nat) : Int))] ∧ St w s (pt b51 (.cells #[.slice a0_0 x0.Trains.length c0_0, .slice a0_1 x0.Turns.length c0_1] 25 (0, 0)) :: R)) (m := x0.Trains.length) ⟨x0.Trains, 0, rfl, rfl, hq52, hE.pick _ ⟨rfl, rfl, rfl, rfl, rfl, trivial⟩, hS⟩ ?_
    clear hE hS a w hq52; rintro m60 a w ⟨rest56, k54, rfl, hd57, hq52, hE, hS⟩
    refine W.gen fun K63 hK63 => ?_
    rcases rest56 with _ | ⟨x55, rest56⟩
    · have hlt58 := drop_nil hd57
      refine W.seq ?_
      refine W.region ?_
      refine WL.vS hS hE (runs_plain rfl) (Gives.p hE rfl) rfl ?_; clear hE a; intro a hE
      refine WL.nil ?_
      refine W.seq ?_
      refine W.condF hE rfl (decide_eq_false (by omega)) ?_
      subst hK63
      refine W.exit rfl ?_
      exact ⟨Option.some.inj hq52, hE.pick _ ⟨rfl, rfl, trivial⟩, hS⟩
    · obtain ⟨hlt58, hx59, hd57⟩ := drop_cons hd57
      rw [Fishlaw2PlanMisses.loop1] at hq52
      refine W.seq ?_
      refine W.region ?_
      refine WL.vS hS hE (runs_plain rfl) (Gives.p hE rfl) rfl ?_; clear hE a; intro a hE
      refine WL.nil ?_
      refine W.seq ?_
      refine W.condT hE rfl (decide_eq_true (by omega)) ?_
      refine W.skip ?_
      refine W.seq ?_
      refine W.block ?_
      refine W.seq ?_
      refine W.region ?_
      obtain ⟨cs64, hl65, hR66, hat67⟩ := h0_0.at hx59
      obtain ⟨a68, c69, a71, c72, rfl, h70, h73⟩ := hR66
      refine WL.vS hS hE (runs_plain rfl) (Gives.idx hE k54 rfl rfl sl22 rfl hlt58 (h0_0.aok hlt58)) rfl ?_; clear hE a; intro a hE
      refine WL.vS hS hE (runs_plain rfl) (Gives.loadA hE rfl (fun w h => hat67 w _ h) ty29) rfl ?_; clear hE a; intro a hE
      refine WL.alloc hE hS (runs_plain rfl) zr29 rfl ?_; clear hE hS a w; intro b74 a w hE hS
      refine WL.storeI hE hS 0 rfl [.int .i64 x55.No, .int .i64 x55.Stock, .slice a68 x55.Stops.length c69, .slice a71 x55.Legs.length c72] (runs_plain rfl) rfl rfl rfl ty29 rfl rfl rfl rfl ?_; clear hE hS a w; intro a w hE hS
      refine WL.nil ?_
      refine W.seq ?_
      refine W.region ?_
      refine WL.vS hS hE (runs_plain rfl) (Gives.fld hE rfl fl29_2) rfl ?_; clear hE a; intro a hE
      refine WL.vS hS hE (runs_plain rfl) (Gives.loadB hE 0 rfl rfl rfl ty27) rfl ?_; clear hE a; intro a hE
      refine WL.vS hS hE (runs_plain rfl) (Gives.len hE rfl sl27) rfl ?_; clear hE a; intro a hE
      refine WL.vS hS hE (runs_plain rfl) (Gives.p hE rfl) rfl ?_; clear hE a; intro a hE
      refine WL.nil ?_
      obtain ⟨q76, hq75, hq52⟩ := bindS hq52
      refine W.cut (fun a w => (.next ()) = q76 ∧ Rep a 67 [(1, .slice a1 x1.length c1), (2, .pointer (some ⟨b51, 0, none⟩)), (14, .slice a0_0 x0.Trains.length c0_0), (15, .int .i64 ((x0.Trains).length : Int)), (16, .int .i64 ((k54 : Nat) : Int))] ∧ St w s (pt b74 (.cells #[.int .i64 x55.No, .int .i64 x55.Stock, .slice a68 x55.Stops.length c69, .slice a71 x55.Legs.length c72] 29 (0, 0)) :: pt b51 (.cells #[.slice a0_0 x0.Trains.length c0_0, .slice a0_1 x0.Turns.length c0_1] 25 (0, 0)) :: R)) ?_ ?_
      · refine W.block ?_
        refine W.loop (fun m a w => ∃ (rest79 : List ApiStop) (k77 : Nat), rest79.length = m ∧ x55.Stops.drop k77 = rest79 ∧ Fishlaw2PlanMisses.loop2 rest79 = some q76 ∧ Rep a 67 [(1, .slice a1 x1.length c1), (2, .pointer (some ⟨b51, 0, none⟩)), (14, .slice a0_0 x0.Trains.length c0_0), (15, .int .i64 ((x0.Trains).length : Int)), (16, .int .i64 ((k54 : Nat) : Int)), (21, .slice a68 x55.Stops.length c69), (22, .int .i64 ((x55.Stops).length : Int)), (23, .int .i64 ((k77 : Nat) : Int))] ∧ St w s (pt b74 (.cells #[.int .i64 x55.No, .int .i64 x55.Stock, .slice a68 x55.Stops.length c69, .slice a71 x55.Legs.length c72] 29 (0, 0)) :: pt b51 (.cells #[.slice a0_0 x0.Trains.length c0_0, .slice a0_1 x0.Turns.length c0_1] 25 (0, 0)) :: R)) (m := x55.Stops.length) ⟨x55.Stops, 0, rfl, rfl, hq75, hE.pick _ ⟨rfl, rfl, rfl, rfl, rfl, rfl, rfl, rfl, trivial⟩, hS⟩ ?_
        clear hE hS a w hq75; rintro m83 a w ⟨rest79, k77, rfl, hd80, hq75, hE, hS⟩
        refine W.gen fun K86 hK86 => ?_
        rcases rest79 with _ | ⟨x78, rest79⟩
        · have hlt81 := drop_nil hd80
          refine W.seq ?_
          refine W.region ?_
          refine WL.vS hS hE (runs_plain rfl) (Gives.p hE rfl) rfl ?_; clear hE a; intro a hE
          refine WL.nil ?_
          refine W.seq ?_
          refine W.condF hE rfl (decide_eq_false (by omega)) ?_
          subst hK86
          refine W.exit rfl ?_
          exact ⟨Option.some.inj hq75, hE.pick _ ⟨rfl, rfl, rfl, rfl, rfl, trivial⟩, hS⟩
        · obtain ⟨hlt81, hx82, hd80⟩ := drop_cons hd80
          rw [Fishlaw2PlanMisses.loop2] at hq75
          refine W.seq ?_
          refine W.region ?_
          refine WL.vS hS hE (runs_plain rfl) (Gives.p hE rfl) rfl ?_; clear hE a; intro a hE
          refine WL.nil ?_
          refine W.seq ?_
          refine W.condT hE rfl (decide_eq_true (by omega)) ?_
          refine W.skip ?_
          refine W.seq ?_
          refine W.block ?_
          refine W.seq ?_
          refine W.region ?_
          obtain ⟨cs87, hl88, hR89, hat90⟩ := h70.at hx82
          subst hR89
          refine WL.vS hS hE (runs_plain rfl) (Gives.idx hE k77 rfl rfl sl27 rfl hlt81 (h70.aok hlt81)) rfl ?_; clear hE a; intro a hE
          refine WL.vS hS hE (runs_plain rfl) (Gives.loadA hE rfl (fun w h => hat90 w _ h) ty31) rfl ?_; clear hE a; intro a hE
          refine WL.alloc hE hS (runs_plain rfl) zr31 rfl ?_; clear hE hS a w; intro b91 a w hE hS
          refine WL.storeI hE hS 0 rfl (ApiStop.cells x78) (runs_plain rfl) rfl rfl rfl ty31 rfl rfl rfl rfl ?_; clear hE hS a w; intro a w hE hS
          refine WL.nil ?_
          refine W.seq ?_
          obtain ⟨q93, hq92, hq75⟩ := bndS hq75
          refine W.cut (fun a w => ∃ (q96 : Bool), q96 = q93 ∧ Rep a 67 [(1, .slice a1 x1.length c1), (2, .pointer (some ⟨b51, 0, none⟩)), (14, .slice a0_0 x0.Trains.length c0_0), (15, .int .i64 ((x0.Trains).length : Int)), (16, .int .i64 ((k54 : Nat) : Int)), (21, .slice a68 x55.Stops.length c69), (22, .int .i64 ((x55.Stops).length : Int)), (23, .int .i64 ((k77 : Nat) : Int)), (40, .bool q96)] ∧ St w s (pt b91 (.cells (ApiStop.cells x78).toArray 31 (0, 0)) :: pt b74 (.cells #[.int .i64 x55.No, .int .i64 x55.Stock, .slice a68 x55.Stops.length c69, .slice a71 x55.Legs.length c72] 29 (0, 0)) :: pt b51 (.cells #[.slice a0_0 x0.Trains.length c0_0, .slice a0_1 x0.Turns.length c0_1] 25 (0, 0)) :: R)) ?_ ?_
          · refine W.gen fun K97 hK97 => ?_
            refine W.region ?_
            refine WL.vS hS hE (runs_plain rfl) (Gives.fld hE rfl fl31_2) rfl ?_; clear hE a; intro a hE
            refine WL.vS hS hE (runs_plain rfl) (Gives.loadB hE 0 rfl rfl rfl ty3) rfl ?_; clear hE a; intro a hE
            refine WL.vS hS hE (runs_plain rfl) (Gives.fld hE rfl fl31_3) rfl ?_; clear hE a; intro a hE
            refine WL.vS hS hE (runs_plain rfl) (Gives.loadB hE 0 rfl rfl rfl ty3) rfl ?_; clear hE a; intro a hE
            refine WL.vS hS hE (runs_plain rfl) (Gives.max2 hE rfl rfl) rfl ?_; clear hE a; intro a hE
            refine WL.vS hS hE (runs_plain rfl) (Gives.p hE rfl) rfl ?_; clear hE a; intro a hE
            refine WL.vS hS hE (runs_plain rfl) (Gives.p hE rfl) rfl ?_; clear hE a; intro a hE
            rcases Bool.eq_false_or_eq_true (decide ((mx x78.Arr x78.Dep) > 1099511627776)) with hg98 | hg98
            · replace hq92 := iteT hg98 hq92
              refine WL.no hE (runs_not hE rfl rfl rfl (by rw [hg98]; decide)) rfl ?_; clear hE a; intro a hE
              refine WL.no hE (runs_not hE rfl rfl rfl (by rw [hg98]; decide)) rfl ?_; clear hE a; intro a hE
              refine WL.no hE (runs_not hE rfl rfl rfl (by rw [hg98]; decide)) rfl ?_; clear hE a; intro a hE
              refine WL.no hE (runs_not hE rfl rfl rfl (by rw [hg98]; decide)) rfl ?_; clear hE a; intro a hE
              refine WL.no hE (runs_not hE rfl rfl rfl (by rw [hg98]; decide)) rfl ?_; clear hE a; intro a hE
              refine WL.no hE (runs_not hE rfl rfl rfl (by rw [hg98]; decide)) rfl ?_; clear hE a; intro a hE
              refine WL.vS hS hE (runs_plain rfl) (Gives.pickT hE rfl hg98 rfl) rfl ?_; clear hE a; intro a hE
              refine WL.nil ?_
              subst hK97
              exact ⟨true, hq92, hE.pick _ ⟨rfl, rfl, rfl, rfl, rfl, rfl, rfl, rfl, rfl, trivial⟩, hS⟩
            · replace hq92 := iteF hg98 hq92
              refine WL.vS hS hE (runs_if hE rfl rfl rfl hg98) (Gives.fld hE rfl fl31_2) rfl ?_; clear hE a; intro a hE
              refine WL.vS hS hE (runs_if hE rfl rfl rfl hg98) (Gives.loadB hE 0 rfl rfl rfl ty3) rfl ?_; clear hE a; intro a hE
              refine WL.vS hS hE (runs_if hE rfl rfl rfl hg98) (Gives.fld hE rfl fl31_3) rfl ?_; clear hE a; intro a hE
              refine WL.vS hS hE (runs_if hE rfl rfl rfl hg98) (Gives.loadB hE 0 rfl rfl rfl ty3) rfl ?_; clear hE a; intro a hE
              refine WL.vS hS hE (runs_if hE rfl rfl rfl hg98) (Gives.min2 hE rfl rfl) rfl ?_; clear hE a; intro a hE
              refine WL.vS hS hE (runs_if hE rfl rfl rfl hg98) (Gives.p hE rfl) rfl ?_; clear hE a; intro a hE
              refine WL.vS hS hE (runs_plain rfl) (Gives.pickF hE rfl hg98 rfl) rfl ?_; clear hE a; intro a hE
              refine WL.nil ?_
              subst hK97
              exact ⟨decide ((mn x78.Arr x78.Dep) < (-1099511627776)), hq92, hE.pick _ ⟨rfl, rfl, rfl, rfl, rfl, rfl, rfl, rfl, rfl, trivial⟩, hS⟩
          · clear hE hS a w; rintro a w ⟨q96, rfl, hE, hS⟩
            refine W.cond hE rfl (fun hc99 => ?_) (fun hc99 => ?_)
            · replace hq75 := iteT hc99 hq75
              refine W.seq ?_
              refine W.region ?_
              obtain ⟨q100, hq101, hq75⟩ := bindS hq75
              have hc_ := Fishlaw2plans_ok hS  hq101
              refine WL.fnq hE (hc_) (runs_plain rfl) bd5 rfl rfl rfl ?_
              clear hE hS hc_; rintro e w ⟨rfl, hS⟩; refine ⟨_, rfl, ?_⟩; clear a; intro a hE
              refine WL.vS hS hE (runs_plain rfl) (Gives.p hE rfl) rfl ?_; clear hE a; intro a hE
              refine WL.nil ?_
              refine W.ret ?_
              subst hK86
              subst hK63
              rw [← Option.some.inj hq75] at hq52
              dsimp only at hq52
              rw [← Option.some.inj hq52] at hr
              dsimp only at hr
              refine finG (fn := Tryd.f3) (rs := [.tmp 4]) (vs := [_]) hE rfl ⟨rfl, trivial⟩ ?_
              obtain rfl := Option.some.inj hr
              replace hS := hS.tail
              replace hS := hS.tail
              replace hS := hS.tail
              exact ⟨rfl, hS⟩
            · replace hq75 := iteF hc99 hq75
              refine W.skip ?_
              refine W.region ?_
              refine WL.vS hS hE (runs_plain rfl) (Gives.inc hE rfl (by have := h70.small; omega)) rfl ?_; clear hE a; intro a hE
              refine WL.vS hS hE (runs_plain rfl) (Gives.p hE rfl) rfl ?_; clear hE a; intro a hE
              refine WL.nil ?_
              replace hS := hS.tail
              subst hK86
              exact ⟨rest79.length, Nat.lt_succ_self _, rest79, k77 + 1, rfl, hd80, hq75, hE.pick _ ⟨rfl, rfl, rfl, rfl, rfl, rfl, rfl, rfl, trivial⟩, hS⟩
      · clear hE hS a w; rintro a w ⟨rfl, hE, hS⟩
        dsimp only at hq52
        refine W.region ?_
        refine WL.vS hS hE (runs_plain rfl) (Gives.inc hE rfl (by have := h0_0.small; omega)) rfl ?_; clear hE a; intro a hE
        refine WL.vS hS hE (runs_plain rfl) (Gives.p hE rfl) rfl ?_; clear hE a; intro a hE
        refine WL.nil ?_
        replace hS := hS.tail
        subst hK63
        exact ⟨rest56.length, Nat.lt_succ_self _, rest56, k54 + 1, rfl, hd57, hq52, hE.pick _ ⟨rfl, rfl, rfl, rfl, rfl, trivial⟩, hS⟩
  · clear hE hS a w; rintro a w ⟨rfl, hE, hS⟩
    dsimp only at hr
    refine W.seq ?_
    refine W.region ?_
    refine WL.vS hS hE (runs_plain rfl) (Gives.loadBA hE 0 rfl rfl ty25) rfl ?_; clear hE a; intro a hE
    refine WL.vS hS hE (runs_plain rfl) (Gives.p hE rfl) rfl ?_; clear hE a; intro a hE
    obtain ⟨q102, hq103, hr⟩ := bindS hr
    have hc_ := PlanMissed_ok hS h0_0 h0_1 h1 hq103
    refine WL.fnq hE (hc_) (runs_plain rfl) bd6 rfl rfl rfl ?_
    clear hE hS hc_; rintro e w ⟨a104, c105, n106, cs107, rfl, h108, rfl, hS⟩; refine ⟨_, rfl, ?_⟩; clear a; intro a hE
    refine WL.vS hS hE (runs_plain rfl) (Gives.p hE rfl) rfl ?_; clear hE a; intro a hE
    refine WL.vS hS hE (runs_plain rfl) (Gives.p hE rfl) rfl ?_; clear hE a; intro a hE
    refine WL.vS hS hE (runs_plain rfl) (Gives.p hE rfl) rfl ?_; clear hE a; intro a hE
    refine WL.vS hS hE (runs_plain rfl) (Gives.p hE rfl) rfl ?_; clear hE a; intro a hE
    refine WL.vS hS hE (runs_plain rfl) (Gives.p hE rfl) rfl ?_; clear hE a; intro a hE
    refine WL.nil ?_
    refine W.seq ?_
    refine W.region ?_
    refine WL.vS hS hE (runs_plain rfl) (Gives.loadBA hE 1 rfl rfl ty25) rfl ?_; clear hE a; intro a hE
    refine WL.vS hS hE (runs_plain rfl) (Gives.p hE rfl) rfl ?_; clear hE a; intro a hE
    obtain ⟨q110, hq111, hr⟩ := bindS hr
    have hc_ := Fishref2MissedOf_ok hS h0_0 h0_1 h1 hq111
    refine WL.fnq hE (hc_) (runs_plain rfl) bd7 rfl rfl rfl ?_
    clear hE hS hc_; rintro e w ⟨a112, c113, n114, cs115, rfl, h116, rfl, hS⟩; refine ⟨_, rfl, ?_⟩; clear a; intro a hE
    refine WL.vS hS hE (runs_plain rfl) (Gives.p hE rfl) rfl ?_; clear hE a; intro a hE
    refine WL.vS hS hE (runs_plain rfl) (Gives.p hE rfl) rfl ?_; clear hE a; intro a hE
    refine WL.vS hS hE (runs_plain rfl) (Gives.p hE rfl) rfl ?_; clear hE a; intro a hE
    refine WL.vS hS hE (runs_plain rfl) (Gives.p hE rfl) rfl ?_; clear hE a; intro a hE
    refine WL.vS hS hE (runs_plain rfl) (Gives.p hE rfl) rfl ?_; clear hE a; intro a hE
    refine WL.nil ?_
    refine W.seq ?_
    obtain ⟨q119, hq118, hr⟩ := bindS hr
    refine W.cut (fun a w => ∃ (q122 : Bool), q122 = q119 ∧ Rep a 67 [(4, .bool q122)] ∧ St w s (pt b51 (.cells #[.slice a0_0 x0.Trains.length c0_0, .slice a0_1 x0.Turns.length c0_1] 25 (0, 0)) :: R)) ?_ ?_
    · refine W.gen fun K123 hK123 => ?_
      refine W.region ?_
      obtain ⟨q124, hq125, hq118⟩ := bindS hq118
      have hc_ := Fishlaw2plans_ok hS  hq125
      refine WL.fnq hE (hc_) (runs_plain rfl) bd5 rfl rfl rfl ?_
      clear hE hS hc_; rintro e w ⟨rfl, hS⟩; refine ⟨_, rfl, ?_⟩; clear a; intro a hE
      refine WL.vS hS hE (runs_plain rfl) (Gives.p hE rfl) rfl ?_; clear hE a; intro a hE
      rcases Bool.eq_false_or_eq_true q124 with hg126 | hg126
      · replace hq118 := iteT hg126 hq118
        refine WL.vS hS hE (runs_if hE rfl rfl rfl hg126) (Gives.p hE rfl) rfl ?_; clear hE a; intro a hE
        refine WL.vS hS hE (runs_if hE rfl rfl rfl hg126) (Gives.p hE rfl) rfl ?_; clear hE a; intro a hE
        refine WL.vS hS hE (runs_if hE rfl rfl rfl hg126) (Gives.p hE rfl) rfl ?_; clear hE a; intro a hE
        refine WL.vS hS hE (runs_plain rfl) (Gives.pickT hE rfl hg126 rfl) rfl ?_; clear hE a; intro a hE
        refine WL.vS hS hE (runs_plain rfl) (Gives.p hE rfl) rfl ?_; clear hE a; intro a hE
        rcases Bool.eq_false_or_eq_true (q102.2 == q110.2) with hg127 | hg127
        · replace hq118 := iteT hg127 hq118
          refine WL.vS hS hE (runs_if hE rfl rfl rfl hg127) (Gives.p hE rfl) rfl ?_; clear hE a; intro a hE
          refine WL.vS hS hE (runs_if hE rfl rfl rfl hg127) (Gives.p hE rfl) rfl ?_; clear hE a; intro a hE
          obtain ⟨q128, hq129, hq118⟩ := bindS hq118
          have hF := hS.lendV RI.mono 1 rfl h108 rfl; clear hS; obtain ⟨t130, hle131, hS, hs132, bk133⟩ := hF
          have hF := hS.lendV RI.mono 0 rfl (Ev.mono RI.mono hle131 h116) rfl; clear hS; obtain ⟨t134, hle135, hS, hs136, bk137⟩ := hF
          have hc_ := SlicesEqualLint_ok hS (Sl.mono RI.mono hle135 hs132) hs136 hq129
          refine WL.fnq hE (hc_) (runs_if hE rfl rfl rfl hg127) bd8 rfl rfl rfl ?_
          clear hE hS hc_; rintro e w ⟨rfl, hS⟩; refine ⟨_, rfl, ?_⟩; clear a; intro a hE
          replace hS := bk137 _ _ hS
          replace hS := bk133 _ _ hS
          refine WL.vS hS hE (runs_plain rfl) (Gives.pickT hE rfl hg127 rfl) rfl ?_; clear hE a; intro a hE
          refine WL.vS hS hE (runs_plain rfl) (Gives.p hE rfl) rfl ?_; clear hE a; intro a hE
          refine WL.nil ?_
          replace hS := hS.tail
          replace hS := hS.tail
          subst hK123
          exact ⟨q128, Option.some.inj hq118, hE.pick _ ⟨rfl, trivial⟩, hS⟩
        · replace hq118 := iteF hg127 hq118
          refine WL.no hE (runs_not hE rfl rfl rfl (by rw [hg127]; decide)) rfl ?_; clear hE a; intro a hE
          refine WL.no hE (runs_not hE rfl rfl rfl (by rw [hg127]; decide)) rfl ?_; clear hE a; intro a hE
          refine WL.no hE (runs_not hE rfl rfl rfl (by rw [hg127]; decide)) rfl ?_; clear hE a; intro a hE
          refine WL.vS hS hE (runs_plain rfl) (Gives.pickF hE rfl hg127 rfl) rfl ?_; clear hE a; intro a hE
          refine WL.vS hS hE (runs_plain rfl) (Gives.p hE rfl) rfl ?_; clear hE a; intro a hE
          refine WL.nil ?_
          replace hS := hS.tail
          replace hS := hS.tail
          subst hK123
          exact ⟨false, Option.some.inj hq118, hE.pick _ ⟨rfl, trivial⟩, hS⟩
      · replace hq118 := iteF hg126 hq118
        refine WL.no hE (runs_not hE rfl rfl rfl (by rw [hg126]; decide)) rfl ?_; clear hE a; intro a hE
        refine WL.no hE (runs_not hE rfl rfl rfl (by rw [hg126]; decide)) rfl ?_; clear hE a; intro a hE
        refine WL.no hE (runs_not hE rfl rfl rfl (by rw [hg126]; decide)) rfl ?_; clear hE a; intro a hE
        refine WL.vS hS hE (runs_plain rfl) (Gives.pickF hE rfl hg126 rfl) rfl ?_; clear hE a; intro a hE
        refine WL.vS hS hE (runs_plain rfl) (Gives.p hE rfl) rfl ?_; clear hE a; intro a hE
        refine WL.no hE (runs_not hE rfl rfl rfl (by decide)) rfl ?_; clear hE a; intro a hE
        refine WL.no hE (runs_not hE rfl rfl rfl (by decide)) rfl ?_; clear hE a; intro a hE
        refine WL.no hE (runs_not hE rfl rfl rfl (by decide)) rfl ?_; clear hE a; intro a hE
        refine WL.vS hS hE (runs_plain rfl) (Gives.pickF hE rfl rfl rfl) rfl ?_; clear hE a; intro a hE
        refine WL.vS hS hE (runs_plain rfl) (Gives.p hE rfl) rfl ?_; clear hE a; intro a hE
        refine WL.nil ?_
        replace hS := hS.tail
        replace hS := hS.tail
        subst hK123
        exact ⟨false, Option.some.inj hq118, hE.pick _ ⟨rfl, trivial⟩, hS⟩
    · clear hE hS a w; rintro a w ⟨q122, rfl, hE, hS⟩
      refine W.ret ?_
      refine finG (fn := Tryd.f3) (rs := [.tmp 4]) (vs := [_]) hE rfl ⟨rfl, trivial⟩ ?_
      obtain rfl := Option.some.inj hr
      replace hS := hS.tail
      exact ⟨rfl, hS⟩
end Go.Proofs.YtffleanbfkjfiaaDoor
