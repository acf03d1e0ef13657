/- The walks of the functions that PlanShifts reaches: each call comes to what its mirror says. The conditions are those of each contract. -/
import Derived.Test.YtkagiigknockbaaDoorProg
import Derived.Test.YtkagiigknockbaaDoorPlanShiftsM
import Derived.Test.YtkagiigknockbaaDoorFpAll
import Derived.Test.YtkagiigknockbaaDoorFpRgn
set_option maxRecDepth 10000
namespace Go.Proofs.YtkagiigknockbaaDoor
open Go Go.Fp
theorem ap22 : apOk Tryd.prog 22 37 4 = true := by kernel_rfl
theorem aw22 : apOkW Tryd.prog 22 37 4 64 = true := by kernel_rfl
theorem ap23 : apOk Tryd.prog 23 47 1 = true := by kernel_rfl
theorem aw23 : apOkW Tryd.prog 23 47 1 24 = true := by kernel_rfl
theorem ap35 : apOk Tryd.prog 35 41 4 = true := by kernel_rfl
theorem aw35 : apOkW Tryd.prog 35 41 4 32 = true := by kernel_rfl
theorem ap47 : apOk Tryd.prog 47 3 1 = true := by kernel_rfl
theorem aw47 : apOkW Tryd.prog 47 3 1 8 = true := by kernel_rfl
theorem ar83 : arOk Tryd.prog 83 65 = true := by kernel_rfl
theorem bd10 : bodied Tryd.prog 10 = true := by kernel_rfl
theorem bd11 : bodied Tryd.prog 11 = true := by kernel_rfl
theorem bd12 : bodied Tryd.prog 12 = true := by kernel_rfl
theorem bd13 : bodied Tryd.prog 13 = true := by kernel_rfl
theorem bd14 : bodied Tryd.prog 14 = true := by kernel_rfl
theorem bd15 : bodied Tryd.prog 15 = true := by kernel_rfl
theorem bd16 : bodied Tryd.prog 16 = true := by kernel_rfl
theorem bd17 : bodied Tryd.prog 17 = true := by kernel_rfl
theorem bd18 : bodied Tryd.prog 18 = true := by kernel_rfl
theorem bd19 : bodied Tryd.prog 19 = true := by kernel_rfl
theorem bd20 : bodied Tryd.prog 20 = true := by kernel_rfl
theorem bd21 : bodied Tryd.prog 21 = true := by kernel_rfl
theorem bd22 : bodied Tryd.prog 22 = true := by kernel_rfl
theorem bd23 : bodied Tryd.prog 23 = true := by kernel_rfl
theorem bd24 : bodied Tryd.prog 24 = true := by kernel_rfl
theorem bd25 : bodied Tryd.prog 25 = true := by kernel_rfl
theorem bd26 : bodied Tryd.prog 26 = true := by kernel_rfl
theorem bd27 : bodied Tryd.prog 27 = true := by kernel_rfl
theorem bd28 : bodied Tryd.prog 28 = true := by kernel_rfl
theorem bd29 : bodied Tryd.prog 29 = true := by kernel_rfl
theorem bd31 : bodied Tryd.prog 31 = true := by kernel_rfl
theorem bd33 : bodied Tryd.prog 33 = true := by kernel_rfl
theorem bd34 : bodied Tryd.prog 34 = true := by kernel_rfl
theorem bd35 : bodied Tryd.prog 35 = true := by kernel_rfl
theorem bd39 : bodied Tryd.prog 39 = true := by kernel_rfl
theorem bd4 : bodied Tryd.prog 4 = true := by kernel_rfl
theorem bd40 : bodied Tryd.prog 40 = true := by kernel_rfl
theorem bd42 : bodied Tryd.prog 42 = true := by kernel_rfl
theorem bd43 : bodied Tryd.prog 43 = true := by kernel_rfl
theorem bd5 : bodied Tryd.prog 5 = true := by kernel_rfl
theorem bd6 : bodied Tryd.prog 6 = true := by kernel_rfl
theorem bd7 : bodied Tryd.prog 7 = true := by kernel_rfl
theorem bd8 : bodied Tryd.prog 8 = true := by kernel_rfl
theorem bd9 : bodied Tryd.prog 9 = true := by kernel_rfl
theorem fl25_0 : fldOk Tryd.prog 25 0 0 = true := by kernel_rfl
theorem fl25_1 : fldOk Tryd.prog 25 1 1 = true := by kernel_rfl
theorem fl37_0 : fldOk Tryd.prog 37 0 0 = true := by kernel_rfl
theorem fl37_1 : fldOk Tryd.prog 37 1 1 = true := by kernel_rfl
theorem fl37_2 : fldOk Tryd.prog 37 2 2 = true := by kernel_rfl
theorem fl37_3 : fldOk Tryd.prog 37 3 3 = true := by kernel_rfl
theorem fl41_0 : fldOk Tryd.prog 41 0 0 = true := by kernel_rfl
theorem fl41_1 : fldOk Tryd.prog 41 1 1 = true := by kernel_rfl
theorem fl41_2 : fldOk Tryd.prog 41 2 2 = true := by kernel_rfl
theorem fl41_3 : fldOk Tryd.prog 41 3 3 = true := by kernel_rfl
theorem hu2 : (Tryd.prog.underlying 2).isSome = true := by kernel_rfl
theorem hu3 : (Tryd.prog.underlying 3).isSome = true := by kernel_rfl
theorem hu5 : (Tryd.prog.underlying 5).isSome = true := by kernel_rfl
theorem hu74 : (Tryd.prog.underlying 74).isSome = true := by kernel_rfl
theorem isl22 : isSl Tryd.prog 22 = true := by kernel_rfl
theorem isl23 : isSl Tryd.prog 23 = true := by kernel_rfl
theorem isl35 : isSl Tryd.prog 35 = true := by kernel_rfl
theorem isl47 : isSl Tryd.prog 47 = true := by kernel_rfl
theorem mixed : Tryd.prog.follows .mixedOrders = true := by kernel_rfl
theorem se41 : stEqB Tryd.prog 41 [.i .i64, .i .i64, .i .i64, .i .i64] = true := by kernel_rfl
theorem sl22 : slOk Tryd.prog 22 37 4 = true := by kernel_rfl
theorem sl23 : slOk Tryd.prog 23 47 1 = true := by kernel_rfl
theorem sl35 : slOk Tryd.prog 35 41 4 = true := by kernel_rfl
theorem sl47 : slOk Tryd.prog 47 3 1 = true := by kernel_rfl
theorem st9 : stOk Tryd.prog 9 = true := by kernel_rfl
theorem ty22 : tyOk Tryd.prog 22 false 1 = true := by kernel_rfl
theorem ty23 : tyOk Tryd.prog 23 false 1 = true := by kernel_rfl
theorem ty25 : tyOk Tryd.prog 25 true 2 = true := by kernel_rfl
theorem ty3 : tyOk Tryd.prog 3 false 1 = true := by kernel_rfl
theorem ty35 : tyOk Tryd.prog 35 false 1 = true := by kernel_rfl
theorem ty37 : tyOk Tryd.prog 37 true 4 = true := by kernel_rfl
theorem ty4 : tyOk Tryd.prog 4 false 1 = true := by kernel_rfl
theorem ty41 : tyOk Tryd.prog 41 true 4 = true := by kernel_rfl
theorem ty47 : tyOk Tryd.prog 47 false 1 = true := by kernel_rfl
theorem ty5 : tyOk Tryd.prog 5 false 1 = true := by kernel_rfl
theorem ui3 : Tryd.prog.underlying 3 = some (.int .i64) := by kernel_rfl
theorem ui5 : Tryd.prog.underlying 5 = some (.int .u8) := by kernel_rfl
theorem ui74 : Tryd.prog.underlying 74 = some (.int .u64) := by kernel_rfl
theorem ui85 : Tryd.prog.underlying 85 = some (.int .u64) := by kernel_rfl
theorem zr25 : (Tryd.prog.info? 25).bind (fun i => i.zero.map fun z => z.cells.toList) = some [.slice none 0 0, .slice none 0 0] := by kernel_rfl
theorem zr37 : (Tryd.prog.info? 37).bind (fun i => i.zero.map fun z => z.cells.toList) = some [.int .i64 0, .int .i64 0, .slice none 0 0, .slice none 0 0] := by kernel_rfl
theorem zr4 : (Tryd.prog.info? 4).bind (fun i => i.zero.map fun z => z.cells.toList) = some [.bool false] := by kernel_rfl
theorem zr41 : (Tryd.prog.info? 41).bind (fun i => i.zero.map fun z => z.cells.toList) = some [.int .i64 0, .int .i64 0, .int .i64 0, .int .i64 0] := by kernel_rfl
theorem zr59 : (Tryd.prog.info? 59).bind (fun i => i.zero.map fun z => z.cells.toList) = some [.pointer none, .slice none 0 0] := by kernel_rfl
theorem zr73 : (Tryd.prog.info? 73).bind (fun i => i.zero.map fun z => z.cells.toList) = some [.int .u8 0, .int .u8 0, .int .u8 0, .int .u8 0, .int .u8 0, .int .u8 0, .int .u8 0, .int .u8 0, .int .u8 0, .int .u8 0, .int .u8 0, .int .u8 0, .int .u8 0, .int .u8 0, .int .u8 0, .int .u8 0, .int .u8 0, .int .u8 0, .int .u8 0, .int .u8 0, .int .u8 0, .int .u8 0, .int .u8 0, .int .u8 0] := by kernel_rfl
theorem zr83 : (Tryd.prog.info? 83).bind (fun i => i.zero.map fun z => z.cells.toList) = some [.int .u8 0, .int .u8 0, .int .u8 0, .int .u8 0, .int .u8 0, .int .u8 0, .int .u8 0, .int .u8 0, .int .u8 0, .int .u8 0, .int .u8 0, .int .u8 0, .int .u8 0, .int .u8 0, .int .u8 0, .int .u8 0, .int .u8 0, .int .u8 0, .int .u8 0, .int .u8 0, .int .u8 0, .int .u8 0, .int .u8 0, .int .u8 0, .int .u8 0, .int .u8 0, .int .u8 0, .int .u8 0, .int .u8 0, .int .u8 0, .int .u8 0, .int .u8 0, .int .u8 0, .int .u8 0, .int .u8 0, .int .u8 0, .int .u8 0, .int .u8 0, .int .u8 0, .int .u8 0, .int .u8 0, .int .u8 0, .int .u8 0, .int .u8 0, .int .u8 0, .int .u8 0, .int .u8 0, .int .u8 0, .int .u8 0, .int .u8 0, .int .u8 0, .int .u8 0, .int .u8 0, .int .u8 0, .int .u8 0, .int .u8 0, .int .u8 0, .int .u8 0, .int .u8 0, .int .u8 0, .int .u8 0, .int .u8 0, .int .u8 0, .int .u8 0, .int .u8 0] := by kernel_rfl
theorem sbmixed : Tryd.prog.follows .mixedOrders = true := by kernel_rfl
theorem sbty60 : tyOk Tryd.prog 56 false 1 = true := by kernel_rfl
theorem sbty61 : tyOk Tryd.prog 57 false 1 = true := by kernel_rfl
theorem sbfl0 : fldOk Tryd.prog 59 0 0 = true := by kernel_rfl
theorem sbfl1 : fldOk Tryd.prog 59 1 1 = true := by kernel_rfl
theorem sbap : apOk Tryd.prog 57 5 1 = true := by kernel_rfl
theorem sbsl : slOk Tryd.prog 57 5 1 = true := by kernel_rfl
theorem sbpt : ptOk Tryd.prog 56 59 = true := by kernel_rfl
theorem sbu60 : Tryd.prog.underlying 56 = some (.pointer 59) := by kernel_rfl
theorem sbu77 : Tryd.prog.underlying 70 = some .unsafePointer := by kernel_rfl
theorem sbu76 : Tryd.prog.underlying 69 = some (.pointer 5) := by kernel_rfl
theorem sbu9 : Tryd.prog.underlying 9 = some .string := by kernel_rfl
theorem sbst : stOk Tryd.prog 9 = true := by kernel_rfl
theorem sbc : Tryd.prog.cellsOf 59 = 2 := by kernel_rfl
theorem sbc5 : Tryd.prog.cellsOf 5 = 1 := by kernel_rfl
theorem sbi0 : (Tryd.prog.info? 59).map (·.size) = some 2 := by kernel_rfl
theorem sbi : ∃ j, Tryd.prog.info? 59 = some j ∧ j.size ≠ 0 := by
  have h := sbi0
  rw [Option.map_eq_some_iff] at h
  obtain ⟨j, h1, h2⟩ := h
  exact ⟨j, h1, by omega⟩
theorem sbsame : sameOk Tryd.prog 32 := ⟨_, rfl, by kernel_rfl, by kernel_rfl, by kernel_rfl, by kernel_rfl⟩
theorem sbbd : bodied Tryd.prog 30 = true := by kernel_rfl
section
variable {w : World} {s : Sg} {R : List HP} {b : Nat} {y : ByteArray}
theorem sbCheck_ok {f a : Option Addr} {c : Nat} (hf : f = none ∨ f = some ⟨b, 0, none⟩) (hS : St w s (pt b (.cells [.pointer f, .slice a y.size c].toArray 59 (0, 0)) :: R)) :
    Calls Tryd.prog 30 [.pointer (some ⟨b, 0, none⟩)].toArray w (fun e w => e = .returned (.tuple #[]) ∧ St w s (pt b (.cells [.pointer (some ⟨b, 0, none⟩), .slice a y.size c].toArray 59 (0, 0)) :: R)) := by
  obtain ⟨j, hj1, hj2⟩ := sbi
  refine enter Tryd.func30 rfl rfl rfl fun a hE => ?_
  refine W.seq ?_
  refine W.region ?_
  refine WL.vS hS hE (runs_plain rfl) (Gives.p hE rfl) rfl ?_; clear hE a; intro a hE
  refine WL.vS hS hE (runs_plain rfl) (Gives.nilOk hE rfl) rfl ?_; clear hE a; intro a hE
  refine WL.vS hS hE (runs_plain rfl) (Gives.fld hE rfl sbfl0) rfl ?_; clear hE a; intro a hE
  refine WL.vS hS hE (runs_plain rfl) (Gives.loadB hE 0 rfl rfl rfl sbty60) rfl ?_; clear hE a; intro a hE
  refine WL.vS hS hE (runs_plain rfl) (Gives.isNilP hE rfl rfl sbpt) rfl ?_; clear hE a; intro a hE
  refine WL.nil ?_
  refine W.cond hE rfl (fun hc => ?_) (fun hc => ?_)
  · refine W.region ?_
    refine WL.vS hS hE (runs_plain rfl) (Gives.p hE rfl) rfl ?_; clear hE a; intro a hE
    refine WL.vS hS hE (runs_plain rfl) (Gives.p hE rfl) rfl ?_; clear hE a; intro a hE
    refine WL.vS hS hE (runs_plain rfl) (Gives.toUnsafe hE 0 rfl rfl rfl sbu60 sbu77 hj1 hj2) rfl ?_; clear hE a; intro a hE
    refine WL.same hE sbsame (runs_plain rfl) rfl rfl ?_; clear hE a; intro a hE
    refine WL.vS hS hE (runs_plain rfl) (Gives.fromUnsafe hE 0 rfl rfl sbu77 sbu60 hj1 sbc rfl) rfl ?_; clear hE a; intro a hE
    refine WL.vS hS hE (runs_plain rfl) (Gives.nilOk hE rfl) rfl ?_; clear hE a; intro a hE
    refine WL.vS hS hE (runs_plain rfl) (Gives.fld hE rfl sbfl0) rfl ?_; clear hE a; intro a hE
    refine WL.storeI hE hS 0 rfl _ (runs_plain rfl) rfl rfl rfl sbty60 rfl rfl rfl rfl ?_; clear hE hS a; intro a w hE hS
    refine WL.nil ?_
    refine fin0 hE rfl ?_
    exact ⟨rfl, hS⟩
  · have hf' : f = some ⟨b, 0, none⟩ := by
      rcases hf with rfl | h
      · cases hc
      · exact h
    subst hf'
    refine W.seq ?_
    refine W.region ?_
    refine WL.vS hS hE (runs_plain rfl) (Gives.p hE rfl) rfl ?_; clear hE a; intro a hE
    refine WL.vS hS hE (runs_plain rfl) (Gives.nilOk hE rfl) rfl ?_; clear hE a; intro a hE
    refine WL.vS hS hE (runs_plain rfl) (Gives.fld hE rfl sbfl0) rfl ?_; clear hE a; intro a hE
    refine WL.vS hS hE (runs_plain rfl) (Gives.loadB hE 0 rfl rfl rfl sbty60) rfl ?_; clear hE a; intro a hE
    refine WL.vS hS hE (runs_plain rfl) (Gives.p hE rfl) rfl ?_; clear hE a; intro a hE
    refine WL.vS hS hE (runs_plain rfl) (Gives.neqSame hE rfl rfl sbu60 hj1) rfl ?_; clear hE a; intro a hE
    refine WL.nil ?_
    refine W.condF hE rfl rfl ?_
    refine W.skip ?_
    refine fin0 hE rfl ?_
    exact ⟨rfl, hS⟩

theorem sbWrite_ok {x r : ByteArray} (hS : St w s (sbC 59 5 b y :: R)) (hr : sbw y x = some r) :
    Calls Tryd.prog 26 [.pointer (some ⟨b, 0, none⟩), .string x].toArray w (fun e w => e = .returned (.tuple #[.int .i64 x.size, .nilIface]) ∧ St w s (sbC 59 5 b r :: R)) := by
  obtain ⟨h1, h2, rfl⟩ := sbw_some hr
  obtain ⟨f, sa, c, hf, ha, hS⟩ := hS.sbOpen
  refine enter Tryd.func26 rfl rfl rfl fun a hE => ?_
  refine W.seq ?_
  refine W.region ?_
  refine WL.vS hS hE (runs_plain rfl) (Gives.p hE rfl) rfl ?_; clear hE a; intro a hE
  refine WL.vS hS hE (runs_plain rfl) (Gives.p hE rfl) rfl ?_; clear hE a; intro a hE
  refine WL.nil ?_
  refine W.seq ?_
  refine W.region ?_
  refine WL.vS hS hE (runs_plain rfl) (Gives.p hE rfl) rfl ?_; clear hE a; intro a hE
  refine WL.fnq hE (sbCheck_ok hf hS) (runs_plain rfl) sbbd rfl rfl rfl ?_
  clear hE hS; rintro e w ⟨rfl, hS⟩; refine ⟨_, rfl, ?_⟩; clear a; intro a hE
  refine WL.nil ?_
  refine W.seq ?_
  refine W.region ?_
  refine WL.vS hS hE (runs_plain rfl) (Gives.p hE rfl) rfl ?_; clear hE a; intro a hE
  refine WL.vS hS hE (runs_plain rfl) (Gives.p hE rfl) rfl ?_; clear hE a; intro a hE
  refine WL.vS hS hE (runs_plain rfl) (Gives.nilOk hE rfl) rfl ?_; clear hE a; intro a hE
  refine WL.vS hS hE (runs_plain rfl) (Gives.fld hE rfl sbfl1) rfl ?_; clear hE a; intro a hE
  refine WL.vS hS hE (runs_plain rfl) (Gives.loadB hE 0 rfl rfl rfl sbty61) rfl ?_; clear hE a; intro a hE
  refine WL.vS hS hE (runs_plain rfl) (Gives.p hE rfl) rfl ?_; clear hE a; intro a hE
  refine WL.appStr hE hS 1 (runs_plain rfl) rfl rfl rfl sbap sbu9 h1 h2 ha.1 rfl ?_; clear hE hS a ha; intro sa2 c2 a w ha hE hS
  refine WL.vS hS hE (runs_plain rfl) (Gives.nilOk hE rfl) rfl ?_; clear hE a; intro a hE
  refine WL.vS hS hE (runs_plain rfl) (Gives.fld hE rfl sbfl1) rfl ?_; clear hE a; intro a hE
  refine WL.storeI hE hS 0 rfl _ (runs_plain rfl) rfl rfl rfl sbty61 rfl rfl rfl rfl ?_; clear hE hS a; intro a w hE hS
  refine WL.nil ?_
  refine W.seq ?_
  refine W.region ?_
  refine WL.vS hS hE (runs_plain rfl) (Gives.p hE rfl) rfl ?_; clear hE a; intro a hE
  refine WL.vS hS hE (runs_plain rfl) (Gives.lenS hE rfl sbst) rfl ?_; clear hE a; intro a hE
  refine WL.vS hS hE (runs_plain rfl) (Gives.p hE rfl) rfl ?_; clear hE a; intro a hE
  refine WL.vS hS hE (runs_plain rfl) (Gives.p hE rfl) rfl ?_; clear hE a; intro a hE
  refine WL.nil ?_
  refine W.ret ?_
  refine finG (fn := Tryd.f26) (rs := [.tmp 4, .tmp 5]) (vs := [_, _]) hE rfl ⟨rfl, rfl, trivial⟩ ?_
  refine ⟨rfl, St.sbClose (f := some ⟨b, 0, none⟩) (a := sa2) (c := c2) (.inr rfl) ha ?_⟩
  rw [ByteArray.size_append, byteCells_app]
  exact hS

theorem sbString_ok (hS : St w s (sbC 59 5 b y :: R)) :
    Calls Tryd.prog 28 [.pointer (some ⟨b, 0, none⟩)].toArray w (fun e w => e = .returned (.string y) ∧ St w s R) := by
  obtain ⟨f, sa, c, hf, ha, hS⟩ := hS.sbOpen
  refine enter Tryd.func28 rfl rfl rfl fun a hE => ?_
  refine W.seq ?_
  refine W.region ?_
  refine WL.vS hS hE (runs_plain rfl) (Gives.p hE rfl) rfl ?_; clear hE a; intro a hE
  refine WL.nil ?_
  refine W.seq ?_
  refine W.regionE (sel (fun w => St w s (pt b (.cells [.pointer f, .slice sa y.size c].toArray 59 (0, 0)) :: vecC 5 1 sa c y.size (byteCells y) :: R)) (fun w => St w s R)) (fun b i => cond b (!(i == 10)) true) sbmixed ?_
  replace hS := hS.drew
  refine Rg.takeP (i := 0) hE rfl (by kernel_rfl) (runs_plain rfl) (Gives.p hE rfl) rfl (tw_sel (fun _ => hS) (fun _ => hS.tail.tail)) ?_; clear hE a; intro a hE
  refine Rg.takeP (i := 5) hE rfl (by kernel_rfl) (runs_plain rfl) (Gives.p hE rfl) rfl (tw_sel (fun _ => hS) (fun _ => hS.tail.tail)) ?_; clear hE a; intro a hE
  refine Rg.takeP (i := 1) hE rfl (by kernel_rfl) (runs_plain rfl) (Gives.nilOk hE rfl) rfl (tw_sel (fun _ => hS) (fun _ => hS.tail.tail)) ?_; clear hE a; intro a hE
  refine Rg.takeP (i := 6) hE rfl (by kernel_rfl) (runs_plain rfl) (Gives.nilOk hE rfl) rfl (tw_sel (fun _ => hS) (fun _ => hS.tail.tail)) ?_; clear hE a; intro a hE
  refine Rg.takeP (i := 2) hE rfl (by kernel_rfl) (runs_plain rfl) (Gives.fld hE rfl sbfl1) rfl (tw_sel (fun _ => hS) (fun _ => hS.tail.tail)) ?_; clear hE a; intro a hE
  refine Rg.takeP (i := 7) hE rfl (by kernel_rfl) (runs_plain rfl) (Gives.fld hE rfl sbfl1) rfl (tw_sel (fun _ => hS) (fun _ => hS.tail.tail)) ?_; clear hE a; intro a hE
  refine Rg.two (i := 3) (j := 8) true true true true rfl rfl (by kernel_rfl) (by kernel_rfl) (by kernel_rfl) (by kernel_rfl) (by kernel_rfl) ?_ ?_
  · refine WL.vS hS hE (runs_plain rfl) (Gives.loadB hE 0 rfl rfl rfl sbty61) rfl ?_; clear hE a; intro a hE
    refine WL.nil ?_
    refine ⟨⟨fun _ => hS, fun _ => hS.tail.tail⟩, ?_⟩
    refine Rg.takeP (i := 4) hE rfl (by kernel_rfl) (runs_plain rfl) (Gives.sliceData hE rfl ha.2) rfl (tw_sel (fun _ => hS) (fun _ => hS.tail.tail)) ?_; clear hE a; intro a hE
    refine Rg.one (i := 8) true true rfl (by kernel_rfl) (by kernel_rfl) (by kernel_rfl) ?_
    refine WL.vS hS hE (runs_plain rfl) (Gives.loadB hE 0 rfl rfl rfl sbty61) rfl ?_; clear hE a; intro a hE
    refine WL.nil ?_
    refine ⟨⟨fun _ => hS, fun _ => hS.tail.tail⟩, ?_⟩
    refine Rg.takeP (i := 9) hE rfl (by kernel_rfl) (runs_plain rfl) (Gives.len hE rfl sbsl) rfl (tw_sel (fun _ => hS) (fun _ => hS.tail.tail)) ?_; clear hE a; intro a hE
    refine Rg.one (i := 10) false true rfl (by kernel_rfl) (by kernel_rfl) (by kernel_rfl) ?_
    refine WL.sbString hE hS 1 (runs_plain rfl) rfl rfl rfl ha.1 sbu76 sbc5 rfl ?_; clear hE hS a; intro a w hE hS
    refine WL.nil ?_
    refine ⟨⟨fun h => absurd h (by decide), fun _ => hS.tail⟩, ?_⟩
    refine Rg.takeP (i := 11) hE rfl (by kernel_rfl) (runs_plain rfl) (Gives.p hE rfl) rfl (tw_sel (fun h => absurd h (by decide)) (fun _ => hS.tail)) ?_; clear hE a; intro a hE
    refine Rg.done (by kernel_rfl) ?_
    refine W.ret ?_
    refine finG (fn := Tryd.f28) (rs := [.tmp 2]) (vs := [_]) hE rfl ⟨rfl, trivial⟩ ?_
    exact ⟨rfl, hS.tail⟩
  · refine WL.vS hS hE (runs_plain rfl) (Gives.loadB hE 0 rfl rfl rfl sbty61) rfl ?_; clear hE a; intro a hE
    refine WL.nil ?_
    refine ⟨⟨fun _ => hS, fun _ => hS.tail.tail⟩, ?_⟩
    refine Rg.takeP (i := 9) hE rfl (by kernel_rfl) (runs_plain rfl) (Gives.len hE rfl sbsl) rfl (tw_sel (fun _ => hS) (fun _ => hS.tail.tail)) ?_; clear hE a; intro a hE
    refine Rg.one (i := 3) true true rfl (by kernel_rfl) (by kernel_rfl) (by kernel_rfl) ?_
    refine WL.vS hS hE (runs_plain rfl) (Gives.loadB hE 0 rfl rfl rfl sbty61) rfl ?_; clear hE a; intro a hE
    refine WL.nil ?_
    refine ⟨⟨fun _ => hS, fun _ => hS.tail.tail⟩, ?_⟩
    refine Rg.takeP (i := 4) hE rfl (by kernel_rfl) (runs_plain rfl) (Gives.sliceData hE rfl ha.2) rfl (tw_sel (fun _ => hS) (fun _ => hS.tail.tail)) ?_; clear hE a; intro a hE
    refine Rg.one (i := 10) false true rfl (by kernel_rfl) (by kernel_rfl) (by kernel_rfl) ?_
    refine WL.sbString hE hS 1 (runs_plain rfl) rfl rfl rfl ha.1 sbu76 sbc5 rfl ?_; clear hE hS a; intro a w hE hS
    refine WL.nil ?_
    refine ⟨⟨fun h => absurd h (by decide), fun _ => hS.tail⟩, ?_⟩
    refine Rg.takeP (i := 11) hE rfl (by kernel_rfl) (runs_plain rfl) (Gives.p hE rfl) rfl (tw_sel (fun h => absurd h (by decide)) (fun _ => hS.tail)) ?_; clear hE a; intro a hE
    refine Rg.done (by kernel_rfl) ?_
    refine W.ret ?_
    refine finG (fn := Tryd.f28) (rs := [.tmp 2]) (vs := [_]) hE rfl ⟨rfl, trivial⟩ ?_
    exact ⟨rfl, hS.tail⟩
end
set_option maxHeartbeats 8000000 in
theorem Planwithin_ok  {w : World} {s : Sg} {R : List HP} {x0 : Int} {x1 : Int} {x2 : Int} (hS : St w s (R))  {r : Bool} (hr : Planwithin x0 x1 x2 = r) :
    Calls Tryd.prog 9 [.int .i64 x0, .int .i64 x1, .int .i64 x2].toArray w (fun e w => e = .returned (.bool r) ∧ St w s (R)) := by
  refine enter Tryd.func9 rfl rfl rfl fun a hE => ?_
  rw [Planwithin] at hr
  refine W.seq ?_
  refine W.region ?_
  refine WL.vS hS hE (runs_plain rfl) (Gives.p hE rfl) rfl ?_; clear hE a; intro a hE
  refine WL.nil ?_
  refine W.seq ?_
  obtain ⟨q52, hq51, hr⟩ := bndS hr
  refine W.cut (fun a w => ∃ (q55 : Bool), q55 = q52 ∧ Rep a 15 [(6, .bool q55)] ∧ St w s (R)) ?_ ?_
  · refine W.gen fun K56 hK56 => ?_
    refine W.region ?_
    refine WL.vS hS hE (runs_plain rfl) (Gives.p hE rfl) rfl ?_; clear hE a; intro a hE
    refine WL.vS hS hE (runs_plain rfl) (Gives.p hE rfl) rfl ?_; clear hE a; intro a hE
    refine WL.vS hS hE (runs_plain rfl) (Gives.p hE rfl) rfl ?_; clear hE a; intro a hE
    refine WL.vS hS hE (runs_plain rfl) (Gives.p hE rfl) rfl ?_; clear hE a; intro a hE
    rcases Bool.eq_false_or_eq_true (decide (x0 ≥ x1)) with hg57 | hg57
    · replace hq51 := iteT hg57 hq51
      refine WL.vS hS hE (runs_if hE rfl rfl rfl hg57) (Gives.p hE rfl) rfl ?_; clear hE a; intro a hE
      refine WL.vS hS hE (runs_if hE rfl rfl rfl hg57) (Gives.p hE rfl) rfl ?_; clear hE a; intro a hE
      refine WL.vS hS hE (runs_if hE rfl rfl rfl hg57) (Gives.p hE rfl) rfl ?_; clear hE a; intro a hE
      refine WL.vS hS hE (runs_plain rfl) (Gives.pickT hE rfl hg57 rfl) rfl ?_; clear hE a; intro a hE
      refine WL.vS hS hE (runs_plain rfl) (Gives.p hE rfl) rfl ?_; clear hE a; intro a hE
      refine WL.nil ?_
      subst hK56
      exact ⟨decide (x0 ≤ x2), hq51, hE.pick _ ⟨rfl, trivial⟩, hS⟩
    · replace hq51 := iteF hg57 hq51
      refine WL.no hE (runs_not hE rfl rfl rfl (by rw [hg57]; decide)) rfl ?_; clear hE a; intro a hE
      refine WL.no hE (runs_not hE rfl rfl rfl (by rw [hg57]; decide)) rfl ?_; clear hE a; intro a hE
      refine WL.no hE (runs_not hE rfl rfl rfl (by rw [hg57]; decide)) rfl ?_; clear hE a; intro a hE
      refine WL.vS hS hE (runs_plain rfl) (Gives.pickF hE rfl hg57 rfl) rfl ?_; clear hE a; intro a hE
      refine WL.vS hS hE (runs_plain rfl) (Gives.p hE rfl) rfl ?_; clear hE a; intro a hE
      refine WL.nil ?_
      subst hK56
      exact ⟨false, hq51, hE.pick _ ⟨rfl, trivial⟩, hS⟩
  · clear hE hS a w; rintro a w ⟨q55, rfl, hE, hS⟩
    refine W.ret ?_
    refine finG (fn := Tryd.f9) (rs := [.tmp 6]) (vs := [_]) hE rfl ⟨rfl, trivial⟩ ?_
    subst hr
    exact ⟨rfl, hS⟩
set_option maxHeartbeats 8000000 in
theorem PlanhasStop_ok  {w : World} {s : Sg} {R : List HP} {x0 : ApiDay} {a0_0 : Option Addr} {c0_0 : Nat} {a0_1 : Option Addr} {c0_1 : Nat} {x1 : Int} {x2 : Int} (hS : St w s (R)) (h0_0 : Sl 4 RApiTrain s a0_0 c0_0 x0.Trains) (_h0_1 : Sl 1 (RL 1 (RI .i64)) s a0_1 c0_1 x0.Turns) {r : Bool} (hr : PlanhasStop x0 x1 x2 = some r) :
    Calls Tryd.prog 8 [.agg (List.toArray [.slice a0_0 x0.Trains.length c0_0, .slice a0_1 x0.Turns.length c0_1]), .int .i64 x1, .int .i64 x2].toArray w (fun e w => e = .returned (.bool r) ∧ St w s (R)) := by
  refine enter Tryd.func8 rfl rfl rfl fun a hE => ?_
  rw [PlanhasStop] at hr
  refine W.seq ?_
  refine W.region ?_
  refine WL.box hE hS (runs_plain rfl) rfl rfl rfl ?_; clear hE hS a w; intro b51 a w hE hS
  refine WL.vS hS hE (runs_plain rfl) (Gives.p hE rfl) rfl ?_; clear hE a; intro a hE
  refine WL.nil ?_
  refine W.seq ?_
  obtain ⟨q53, hq52, hr⟩ := bindS hr
  refine W.cut (fun a w => ∃ (q56 : Bool), q56 = q53 ∧ Rep a 25 [(6, .bool q56)] ∧ St w s (pt b51 (.cells #[.slice a0_0 x0.Trains.length c0_0, .slice a0_1 x0.Turns.length c0_1] 25 (0, 0)) :: R)) ?_ ?_
  · refine W.gen fun K57 hK57 => ?_
    refine W.region ?_
    refine WL.vS hS hE (runs_plain rfl) (Gives.p hE rfl) rfl ?_; clear hE a; intro a hE
    refine WL.vS hS hE (runs_plain rfl) (Gives.fld hE rfl fl25_0) rfl ?_; clear hE a; intro a hE
    refine WL.vS hS hE (runs_plain rfl) (Gives.loadB hE 0 rfl rfl rfl ty22) rfl ?_; clear hE a; intro a hE
    refine WL.vS hS hE (runs_plain rfl) (Gives.len hE rfl sl22) rfl ?_; clear hE a; intro a hE
    refine WL.vS hS hE (runs_plain rfl) (Gives.p hE rfl) rfl ?_; clear hE a; intro a hE
    refine WL.fnq hE (Planwithin_ok hS  rfl (r := Planwithin x1 0 (w64 (((x0.Trains).length : Int) - 1)))) (runs_plain rfl) bd9 rfl rfl rfl ?_
    clear hE hS; rintro e w ⟨rfl, hS⟩; refine ⟨_, rfl, ?_⟩; clear a; intro a hE
    refine WL.vS hS hE (runs_plain rfl) (Gives.p hE rfl) rfl ?_; clear hE a; intro a hE
    rcases Bool.eq_false_or_eq_true (Planwithin x1 0 (w64 (((x0.Trains).length : Int) - 1))) with hg58 | hg58
    · replace hq52 := iteT hg58 hq52
      refine WL.vS hS hE (runs_if hE rfl rfl rfl hg58) (Gives.p hE rfl) rfl ?_; clear hE a; intro a hE
      refine WL.vS hS hE (runs_if hE rfl rfl rfl hg58) (Gives.fld hE rfl fl25_0) rfl ?_; clear hE a; intro a hE
      refine WL.vS hS hE (runs_if hE rfl rfl rfl hg58) (Gives.loadB hE 0 rfl rfl rfl ty22) rfl ?_; clear hE a; intro a hE
      refine WL.vS hS hE (runs_if hE rfl rfl rfl hg58) (Gives.p hE rfl) rfl ?_; clear hE a; intro a hE
      obtain ⟨x59, hx60, hq52⟩ := bindS hq52
      obtain ⟨hi61, hlt62, hy63⟩ := gx_some hx60
      obtain ⟨cs64, hl65, hR66, hat67⟩ := h0_0.at hy63
      obtain ⟨a68, c69, a71, c72, rfl, h70, h73⟩ := hR66
      refine WL.vS hS hE (runs_if hE rfl rfl rfl hg58) (Gives.idx hE (x1).toNat rfl rfl sl22 hi61 hlt62 (h0_0.aok hlt62)) rfl ?_; clear hE a; intro a hE
      refine WL.vS hS hE (runs_if hE rfl rfl rfl hg58) (Gives.fld hE rfl fl37_2) rfl ?_; clear hE a; intro a hE
      refine WL.vS hS hE (runs_if hE rfl rfl rfl hg58) (Gives.load1 hE rfl (fun w h => (hat67 w _ h).one rfl) ty35) rfl ?_; clear hE a; intro a hE
      refine WL.vS hS hE (runs_if hE rfl rfl rfl hg58) (Gives.len hE rfl sl35) rfl ?_; clear hE a; intro a hE
      refine WL.vS hS hE (runs_if hE rfl rfl rfl hg58) (Gives.p hE rfl) rfl ?_; clear hE a; intro a hE
      refine WL.fnq hE (Planwithin_ok hS  rfl (r := Planwithin x2 0 (w64 (((x59.Stops).length : Int) - 1)))) (runs_if hE rfl rfl rfl hg58) bd9 rfl rfl rfl ?_
      clear hE hS; rintro e w ⟨rfl, hS⟩; refine ⟨_, rfl, ?_⟩; clear a; intro a hE
      refine WL.vS hS hE (runs_plain rfl) (Gives.pickT hE rfl hg58 rfl) rfl ?_; clear hE a; intro a hE
      refine WL.vS hS hE (runs_plain rfl) (Gives.p hE rfl) rfl ?_; clear hE a; intro a hE
      refine WL.nil ?_
      subst hK57
      exact ⟨(Planwithin x2 0 (w64 (((x59.Stops).length : Int) - 1))), Option.some.inj hq52, hE.pick _ ⟨rfl, trivial⟩, hS⟩
    · replace hq52 := iteF hg58 hq52
      refine WL.no hE (runs_not hE rfl rfl rfl (by rw [hg58]; decide)) rfl ?_; clear hE a; intro a hE
      refine WL.no hE (runs_not hE rfl rfl rfl (by rw [hg58]; decide)) rfl ?_; clear hE a; intro a hE
      refine WL.no hE (runs_not hE rfl rfl rfl (by rw [hg58]; decide)) rfl ?_; clear hE a; intro a hE
      refine WL.no hE (runs_not hE rfl rfl rfl (by rw [hg58]; decide)) rfl ?_; clear hE a; intro a hE
      refine WL.no hE (runs_not hE rfl rfl rfl (by rw [hg58]; decide)) rfl ?_; clear hE a; intro a hE
      refine WL.no hE (runs_not hE rfl rfl rfl (by rw [hg58]; decide)) rfl ?_; clear hE a; intro a hE
      refine WL.no hE (runs_not hE rfl rfl rfl (by rw [hg58]; decide)) rfl ?_; clear hE a; intro a hE
      refine WL.no hE (runs_not hE rfl rfl rfl (by rw [hg58]; decide)) rfl ?_; clear hE a; intro a hE
      refine WL.no hE (runs_not hE rfl rfl rfl (by rw [hg58]; decide)) rfl ?_; clear hE a; intro a hE
      refine WL.no hE (runs_not hE rfl rfl rfl (by rw [hg58]; decide)) rfl ?_; clear hE a; intro a hE
      refine WL.vS hS hE (runs_plain rfl) (Gives.pickF hE rfl hg58 rfl) rfl ?_; clear hE a; intro a hE
      refine WL.vS hS hE (runs_plain rfl) (Gives.p hE rfl) rfl ?_; clear hE a; intro a hE
      refine WL.nil ?_
      subst hK57
      exact ⟨false, Option.some.inj hq52, hE.pick _ ⟨rfl, trivial⟩, hS⟩
  · clear hE hS a w; rintro a w ⟨q56, rfl, hE, hS⟩
    refine W.ret ?_
    refine finG (fn := Tryd.f8) (rs := [.tmp 6]) (vs := [_]) hE rfl ⟨rfl, trivial⟩ ?_
    obtain rfl := Option.some.inj hr
    replace hS := hS.tail
    exact ⟨rfl, hS⟩
set_option maxHeartbeats 8000000 in
theorem SlicesCloneLapiTrain_ok  {w : World} {s : Sg} {R : List HP} {x0 : List ApiTrain} {a0 : Option Addr} {c0 : Nat} (hS : St w s (R)) (h0 : Sl 4 RApiTrain s a0 c0 x0) {r : (List ApiTrain)} (hr : SlicesCloneLapiTrain x0 = some r) :
    Calls Tryd.prog 15 [.slice a0 x0.length c0].toArray w (fun e w => ∃ (a0 : Option Addr) (c0 n0 : Nat) (cs0 : List Value), e = .returned (.slice a0 n0 c0) ∧ Ev 4 RApiTrain s cs0 r ∧ r.length = n0 ∧ St w s (vecC 37 4 a0 c0 n0 cs0 :: R)) := by
  refine enter Tryd.func15 rfl rfl rfl fun a hE => ?_
  rw [SlicesCloneLapiTrain] at hr
  refine W.seq ?_
  refine W.region ?_
  refine WL.vS hS hE (runs_plain rfl) (Gives.p hE rfl) rfl ?_; clear hE a; intro a hE
  refine WL.nil ?_
  refine W.seq ?_
  refine W.seq ?_
  refine W.region ?_
  refine WL.vS hS hE (runs_plain rfl) (Gives.p hE rfl) rfl ?_; clear hE a; intro a hE
  refine WL.vS hS hE (runs_plain rfl) (Gives.isNil hE rfl rfl isl22) rfl ?_; clear hE a; intro a hE
  refine WL.nil ?_
  rcases a0 with _ | g51
  · obtain rfl := h0.none_nil
    replace hr : some [] = _ := hr
    refine W.condT hE rfl rfl ?_
    refine W.seq ?_
    refine W.region ?_
    refine WL.vS hS hE (runs_plain rfl) (Gives.p hE rfl) rfl ?_; clear hE a; intro a hE
    refine WL.nil ?_
    refine W.ret ?_
    replace hS := hS.vecNil 37 4
    refine finG (fn := Tryd.f15) (rs := [.tmp 2]) (vs := [_]) hE rfl ⟨rfl, trivial⟩ ?_
    obtain rfl := Option.some.inj hr
    exact ⟨none, 0, 0, [], rfl, (Ev.nil), (rfl), hS⟩
  · skip
    refine W.condF hE rfl rfl ?_
    refine W.skip ?_
    refine W.seq ?_
    refine W.region ?_
    refine WL.lit hE hS (e := 37) (es := 4) (vs := []) (cs := []) (runs_plain rfl) rfl (by kernel_rfl) rfl ?_; clear hE hS a w; intro b53 a w hE hS
    replace hS := hS.ptVec (es := 4) (m := 0) rfl (by decide)
    have h55 : Ev 4 RApiTrain s [] [] := (Ev.nil)
    refine WL.vS hS hE (runs_plain rfl) (Gives.p hE rfl) rfl ?_; clear hE a; intro a hE
    obtain ⟨x56, hx57, hr⟩ := bindS hr
    refine WL.appSW (kk := 64) hE hS 0 (runs_plain rfl) rfl rfl (xs := x0) rfl rfl aw22 RApiTrain.one h55 (rfl) h0 hx57 rfl ?_; clear hE hS a w; intro a58 c59 cs60 a w h61 hE hS
    refine WL.vS hS hE (runs_plain rfl) (Gives.p hE rfl) rfl ?_; clear hE a; intro a hE
    refine WL.nil ?_
    refine W.ret ?_
    refine finG (fn := Tryd.f15) (rs := [.tmp 2]) (vs := [_]) hE rfl ⟨rfl, trivial⟩ ?_
    obtain rfl := Option.some.inj hr
    exact ⟨a58, c59, x56.length, cs60, rfl, h61, (rfl), hS⟩
set_option maxHeartbeats 8000000 in
theorem SlicesCloneLLint_ok  {w : World} {s : Sg} {R : List HP} {x0 : List (List Int)} {a0 : Option Addr} {c0 : Nat} (hS : St w s (R)) (h0 : Sl 1 (RL 1 (RI .i64)) s a0 c0 x0) {r : (List (List Int))} (hr : SlicesCloneLLint x0 = some r) :
    Calls Tryd.prog 21 [.slice a0 x0.length c0].toArray w (fun e w => ∃ (a0 : Option Addr) (c0 n0 : Nat) (cs0 : List Value), e = .returned (.slice a0 n0 c0) ∧ Ev 1 (RL 1 (RI .i64)) s cs0 r ∧ r.length = n0 ∧ St w s (vecC 47 1 a0 c0 n0 cs0 :: R)) := by
  refine enter Tryd.func21 rfl rfl rfl fun a hE => ?_
  rw [SlicesCloneLLint] at hr
  refine W.seq ?_
  refine W.region ?_
  refine WL.vS hS hE (runs_plain rfl) (Gives.p hE rfl) rfl ?_; clear hE a; intro a hE
  refine WL.nil ?_
  refine W.seq ?_
  refine W.seq ?_
  refine W.region ?_
  refine WL.vS hS hE (runs_plain rfl) (Gives.p hE rfl) rfl ?_; clear hE a; intro a hE
  refine WL.vS hS hE (runs_plain rfl) (Gives.isNil hE rfl rfl isl23) rfl ?_; clear hE a; intro a hE
  refine WL.nil ?_
  rcases a0 with _ | g51
  · obtain rfl := h0.none_nil
    replace hr : some [] = _ := hr
    refine W.condT hE rfl rfl ?_
    refine W.seq ?_
    refine W.region ?_
    refine WL.vS hS hE (runs_plain rfl) (Gives.p hE rfl) rfl ?_; clear hE a; intro a hE
    refine WL.nil ?_
    refine W.ret ?_
    replace hS := hS.vecNil 47 1
    refine finG (fn := Tryd.f21) (rs := [.tmp 2]) (vs := [_]) hE rfl ⟨rfl, trivial⟩ ?_
    obtain rfl := Option.some.inj hr
    exact ⟨none, 0, 0, [], rfl, (Ev.nil), (rfl), hS⟩
  · skip
    refine W.condF hE rfl rfl ?_
    refine W.skip ?_
    refine W.seq ?_
    refine W.region ?_
    refine WL.lit hE hS (e := 47) (es := 1) (vs := []) (cs := []) (runs_plain rfl) rfl (by kernel_rfl) rfl ?_; clear hE hS a w; intro b53 a w hE hS
    replace hS := hS.ptVec (es := 1) (m := 0) rfl (by decide)
    have h55 : Ev 1 (RL 1 (RI .i64)) s [] [] := (Ev.nil)
    refine WL.vS hS hE (runs_plain rfl) (Gives.p hE rfl) rfl ?_; clear hE a; intro a hE
    obtain ⟨x56, hx57, hr⟩ := bindS hr
    refine WL.appSW (kk := 24) hE hS 0 (runs_plain rfl) rfl rfl (xs := x0) rfl rfl aw23 RL.one h55 (rfl) h0 hx57 rfl ?_; clear hE hS a w; intro a58 c59 cs60 a w h61 hE hS
    refine WL.vS hS hE (runs_plain rfl) (Gives.p hE rfl) rfl ?_; clear hE a; intro a hE
    refine WL.nil ?_
    refine W.ret ?_
    refine finG (fn := Tryd.f21) (rs := [.tmp 2]) (vs := [_]) hE rfl ⟨rfl, trivial⟩ ?_
    obtain rfl := Option.some.inj hr
    exact ⟨a58, c59, x56.length, cs60, rfl, h61, (rfl), hS⟩
set_option maxHeartbeats 8000000 in
theorem SlicesCloneLapiStop_ok  {w : World} {s : Sg} {R : List HP} {x0 : List ApiStop} {a0 : Option Addr} {c0 : Nat} (hS : St w s (R)) (h0 : Sl 4 RApiStop s a0 c0 x0) {r : (List ApiStop)} (hr : SlicesCloneLapiStop x0 = some r) :
    Calls Tryd.prog 13 [.slice a0 x0.length c0].toArray w (fun e w => ∃ (a0 : Option Addr) (c0 n0 : Nat) (cs0 : List Value), e = .returned (.slice a0 n0 c0) ∧ Ev 4 RApiStop s cs0 r ∧ r.length = n0 ∧ St w s (vecC 41 4 a0 c0 n0 cs0 :: R)) := by
  refine enter Tryd.func13 rfl rfl rfl fun a hE => ?_
  rw [SlicesCloneLapiStop] at hr
  refine W.seq ?_
  refine W.region ?_
  refine WL.vS hS hE (runs_plain rfl) (Gives.p hE rfl) rfl ?_; clear hE a; intro a hE
  refine WL.nil ?_
  refine W.seq ?_
  refine W.seq ?_
  refine W.region ?_
  refine WL.vS hS hE (runs_plain rfl) (Gives.p hE rfl) rfl ?_; clear hE a; intro a hE
  refine WL.vS hS hE (runs_plain rfl) (Gives.isNil hE rfl rfl isl35) rfl ?_; clear hE a; intro a hE
  refine WL.nil ?_
  rcases a0 with _ | g51
  · obtain rfl := h0.none_nil
    replace hr : some [] = _ := hr
    refine W.condT hE rfl rfl ?_
    refine W.seq ?_
    refine W.region ?_
    refine WL.vS hS hE (runs_plain rfl) (Gives.p hE rfl) rfl ?_; clear hE a; intro a hE
    refine WL.nil ?_
    refine W.ret ?_
    replace hS := hS.vecNil 41 4
    refine finG (fn := Tryd.f13) (rs := [.tmp 2]) (vs := [_]) hE rfl ⟨rfl, trivial⟩ ?_
    obtain rfl := Option.some.inj hr
    exact ⟨none, 0, 0, [], rfl, (Ev.nil), (rfl), hS⟩
  · skip
    refine W.condF hE rfl rfl ?_
    refine W.skip ?_
    refine W.seq ?_
    refine W.region ?_
    refine WL.lit hE hS (e := 41) (es := 4) (vs := []) (cs := []) (runs_plain rfl) rfl (by kernel_rfl) rfl ?_; clear hE hS a w; intro b53 a w hE hS
    replace hS := hS.ptVec (es := 4) (m := 0) rfl (by decide)
    have h55 : Ev 4 RApiStop s [] [] := (Ev.nil)
    refine WL.vS hS hE (runs_plain rfl) (Gives.p hE rfl) rfl ?_; clear hE a; intro a hE
    obtain ⟨x56, hx57, hr⟩ := bindS hr
    refine WL.appSW (kk := 32) hE hS 0 (runs_plain rfl) rfl rfl (xs := x0) rfl rfl aw35 RApiStop.one h55 (rfl) h0 hx57 rfl ?_; clear hE hS a w; intro a58 c59 cs60 a w h61 hE hS
    refine WL.vS hS hE (runs_plain rfl) (Gives.p hE rfl) rfl ?_; clear hE a; intro a hE
    refine WL.nil ?_
    refine W.ret ?_
    refine finG (fn := Tryd.f13) (rs := [.tmp 2]) (vs := [_]) hE rfl ⟨rfl, trivial⟩ ?_
    obtain rfl := Option.some.inj hr
    exact ⟨a58, c59, x56.length, cs60, rfl, h61, (rfl), hS⟩
set_option maxHeartbeats 8000000 in
theorem SlicesCloneLint_ok  {w : World} {s : Sg} {R : List HP} {x0 : List Int} {a0 : Option Addr} {c0 : Nat} (hS : St w s (R)) (h0 : Sl 1 (RI .i64) s a0 c0 x0) {r : (List Int)} (hr : SlicesCloneLint x0 = some r) :
    Calls Tryd.prog 23 [.slice a0 x0.length c0].toArray w (fun e w => ∃ (a0 : Option Addr) (c0 n0 : Nat) (cs0 : List Value), e = .returned (.slice a0 n0 c0) ∧ Ev 1 (RI .i64) s cs0 r ∧ r.length = n0 ∧ St w s (vecC 3 1 a0 c0 n0 cs0 :: R)) := by
  refine enter Tryd.func23 rfl rfl rfl fun a hE => ?_
  rw [SlicesCloneLint] at hr
  refine W.seq ?_
  refine W.region ?_
  refine WL.vS hS hE (runs_plain rfl) (Gives.p hE rfl) rfl ?_; clear hE a; intro a hE
  refine WL.nil ?_
  refine W.seq ?_
  refine W.seq ?_
  refine W.region ?_
  refine WL.vS hS hE (runs_plain rfl) (Gives.p hE rfl) rfl ?_; clear hE a; intro a hE
  refine WL.vS hS hE (runs_plain rfl) (Gives.isNil hE rfl rfl isl47) rfl ?_; clear hE a; intro a hE
  refine WL.nil ?_
  rcases a0 with _ | g51
  · obtain rfl := h0.none_nil
    replace hr : some [] = _ := hr
    refine W.condT hE rfl rfl ?_
    refine W.seq ?_
    refine W.region ?_
    refine WL.vS hS hE (runs_plain rfl) (Gives.p hE rfl) rfl ?_; clear hE a; intro a hE
    refine WL.nil ?_
    refine W.ret ?_
    replace hS := hS.vecNil 3 1
    refine finG (fn := Tryd.f23) (rs := [.tmp 2]) (vs := [_]) hE rfl ⟨rfl, trivial⟩ ?_
    obtain rfl := Option.some.inj hr
    exact ⟨none, 0, 0, [], rfl, (Ev.nil), (rfl), hS⟩
  · skip
    refine W.condF hE rfl rfl ?_
    refine W.skip ?_
    refine W.seq ?_
    refine W.region ?_
    refine WL.lit hE hS (e := 3) (es := 1) (vs := []) (cs := []) (runs_plain rfl) rfl (by kernel_rfl) rfl ?_; clear hE hS a w; intro b53 a w hE hS
    replace hS := hS.ptVec (es := 1) (m := 0) rfl (by decide)
    have h55 : Ev 1 (RI .i64) s [] [] := (Ev.nil)
    refine WL.vS hS hE (runs_plain rfl) (Gives.p hE rfl) rfl ?_; clear hE a; intro a hE
    obtain ⟨x56, hx57, hr⟩ := bindS hr
    refine WL.appSW (kk := 8) hE hS 0 (runs_plain rfl) rfl rfl (xs := x0) rfl rfl aw47 RI.one h55 (rfl) h0 hx57 rfl ?_; clear hE hS a w; intro a58 c59 cs60 a w h61 hE hS
    refine WL.vS hS hE (runs_plain rfl) (Gives.p hE rfl) rfl ?_; clear hE a; intro a hE
    refine WL.nil ?_
    refine W.ret ?_
    refine finG (fn := Tryd.f23) (rs := [.tmp 2]) (vs := [_]) hE rfl ⟨rfl, trivial⟩ ?_
    obtain rfl := Option.some.inj hr
    exact ⟨a58, c59, x56.length, cs60, rfl, h61, (rfl), hS⟩
set_option maxHeartbeats 8000000 in
theorem Plancopied_ok  {w : World} {s : Sg} {R : List HP} {x0 : ApiTrain} {a0_0 : Option Addr} {c0_0 : Nat} {a0_1 : Option Addr} {c0_1 : Nat} (hS : St w s (R)) (h0_0 : Sl 4 RApiStop s a0_0 c0_0 x0.Stops) (h0_1 : Sl 1 (RL 1 (RI .i64)) s a0_1 c0_1 x0.Legs) {r : ApiTrain} (hr : Plancopied x0 = some r) :
    Calls Tryd.prog 22 [.agg (List.toArray [.int .i64 x0.No, .int .i64 x0.Stock, .slice a0_0 x0.Stops.length c0_0, .slice a0_1 x0.Legs.length c0_1])].toArray w (fun e w => ∃ (cs0 : List Value) (t : Sg), e = .returned (.agg cs0.toArray) ∧ s.Le t ∧ RApiTrain t cs0 r ∧ St w t (R)) := by
  refine enter Tryd.func22 rfl rfl rfl fun a hE => ?_
  rw [Plancopied] at hr
  refine W.seq ?_
  refine W.region ?_
  refine WL.box hE hS (runs_plain rfl) rfl rfl rfl ?_; clear hE hS a w; intro b51 a w hE hS
  refine WL.alloc hE hS (runs_plain rfl) zr37 rfl ?_; clear hE hS a w; intro b52 a w hE hS
  refine WL.nil ?_
  refine W.seq ?_
  refine W.gen fun K53 hK53 => ?_
  refine rE hS [] [1] [0, 1, 2, 3, 4, 5, 6, 8] [0, 1, 2, 3, 4, 5, 6, 7, 8, 9] mixed ?_
  replace hS := hS.drew
  refine Rg.takeP (i := 0) hE rfl (by kernel_rfl) (runs_plain rfl) (Gives.fld hE rfl fl37_2) rfl (tw_sel (fun _ => hS) (fun _ => (hS.dropAt 1))) ?_; clear hE a; intro a hE
  refine Rg.take (i := 1) true rfl hE rfl (by kernel_rfl) (runs_plain rfl) (Gives.loadB hE 1 rfl rfl rfl ty35) rfl (tw_sel (fun _ => hS) (fun _ => (hS.dropAt 1))) ?_; clear hE a; intro a hE
  refine Rg.takeP (i := 3) hE rfl (by kernel_rfl) (runs_plain rfl) (Gives.fld hE rfl fl37_3) rfl (tw_sel (fun _ => hS) (fun _ => (hS.dropAt 1))) ?_; clear hE a; intro a hE
  refine Rg.take (i := 4) true rfl hE rfl (by kernel_rfl) (runs_plain rfl) (Gives.loadB hE 1 rfl rfl rfl ty23) rfl (tw_sel (fun _ => hS) (fun _ => (hS.dropAt 1))) ?_; clear hE a; intro a hE
  refine Rg.one (i := 2) true true rfl (by kernel_rfl) (by kernel_rfl) (by kernel_rfl) ?_
  obtain ⟨q54, hq55, hr⟩ := bindS hr
  have hc_ := SlicesCloneLapiStop_ok hS h0_0 hq55
  refine WL.fnq hE (hc_) (runs_plain rfl) bd13 rfl rfl rfl ?_
  clear hE hS hc_; rintro e w ⟨a56, c57, n58, cs59, rfl, h60, rfl, hS⟩; refine ⟨_, rfl, ?_⟩; clear a; intro a hE
  refine WL.nil ?_
  refine ⟨⟨fun _ => (hS.tail), fun _ => ((hS.tail).dropAt 1)⟩, ?_⟩
  refine Rg.takeP (i := 6) hE rfl (by kernel_rfl) (runs_plain rfl) (Gives.fld hE rfl fl37_2) rfl (tw_sel (fun _ => (hS.tail)) (fun _ => ((hS.tail).dropAt 1))) ?_; clear hE a; intro a hE
  refine Rg.one (i := 5) true true rfl (by kernel_rfl) (by kernel_rfl) (by kernel_rfl) ?_
  obtain ⟨q62, hq63, hr⟩ := bindS hr
  have hc_ := SlicesCloneLLint_ok hS h0_1 hq63
  refine WL.fnq hE (hc_) (runs_plain rfl) bd21 rfl rfl rfl ?_
  clear hE hS hc_; rintro e w ⟨a64, c65, n66, cs67, rfl, h68, rfl, hS⟩; refine ⟨_, rfl, ?_⟩; clear a; intro a hE
  refine WL.nil ?_
  refine ⟨⟨fun _ => ((hS.tail).tail), fun _ => (((hS.tail).tail).dropAt 1)⟩, ?_⟩
  refine Rg.one (i := 7) false true rfl (by kernel_rfl) (by kernel_rfl) (by kernel_rfl) ?_
  refine WL.storeI hE hS 3 rfl [.int .i64 x0.No, .int .i64 x0.Stock, .slice a56 q54.length c57, .slice a0_1 x0.Legs.length c0_1] (runs_plain rfl) rfl rfl rfl ty35 rfl rfl rfl rfl ?_; clear hE hS a w; intro a w hE hS
  refine WL.nil ?_
  refine ⟨⟨fun h => absurd h (by decide), fun _ => (((hS.tail).tail).dropAt 1)⟩, ?_⟩
  refine Rg.takeP (i := 8) hE rfl (by kernel_rfl) (runs_plain rfl) (Gives.fld hE rfl fl37_3) rfl (tw_sel (fun h => absurd h (by decide)) (fun _ => (((hS.tail).tail).dropAt 1))) ?_; clear hE a; intro a hE
  refine Rg.one (i := 9) false true rfl (by kernel_rfl) (by kernel_rfl) (by kernel_rfl) ?_
  refine WL.storeI hE hS 3 rfl [.int .i64 x0.No, .int .i64 x0.Stock, .slice a56 q54.length c57, .slice a64 q62.length c65] (runs_plain rfl) rfl rfl rfl ty23 rfl rfl rfl rfl ?_; clear hE hS a w; intro a w hE hS
  refine WL.nil ?_
  refine ⟨⟨fun h => absurd h (by decide), fun _ => (((hS.tail).tail).dropAt 1)⟩, ?_⟩
  refine Rg.done (by kernel_rfl) ?_
  subst hK53
  refine W.seq ?_
  refine W.seq ?_
  refine W.region ?_
  refine WL.vS hS hE (runs_plain rfl) (Gives.fld hE rfl fl37_3) rfl ?_; clear hE a; intro a hE
  refine WL.vS hS hE (runs_plain rfl) (Gives.loadB hE 3 rfl rfl rfl ty23) rfl ?_; clear hE a; intro a hE
  refine WL.vS hS hE (runs_plain rfl) (Gives.len hE rfl sl23) rfl ?_; clear hE a; intro a hE
  refine WL.vS hS hE (runs_plain rfl) (Gives.p hE rfl) rfl ?_; clear hE a; intro a hE
  refine WL.nil ?_
  have hb81 : q62.length ≤ 9223372036854775807 := by have := hS.vecCap 0 rfl; unfold maxLen at this; omega
  obtain ⟨q71, hq70, hr⟩ := bindS hr
  refine W.cut (fun a w => ∃ (q82 : List (List Int)), ∃ (cs86 : List Value), ∃ (s79 : Sg), s.Le s79 ∧ q82 = q71 ∧ Ev 1 (RL 1 (RI .i64)) s79 cs86 q82 ∧ q82.length = q62.length ∧ Rep a 30 [(1, .pointer (some ⟨b51, 0, none⟩)), (2, .pointer (some ⟨b52, 0, none⟩))] ∧ St w s79 (vecC 47 1 a64 c65 q62.length cs86 :: vecC 41 4 a56 c57 q54.length cs59 :: pt b52 (.cells #[.int .i64 0, .int .i64 0, .slice none 0 0, .slice none 0 0] 37 (0, 0)) :: pt b51 (.cells #[.int .i64 x0.No, .int .i64 x0.Stock, .slice a56 q54.length c57, .slice a64 q62.length c65] 37 (0, 0)) :: R)) ?_ ?_
  · refine W.block ?_
    refine W.loop (fun m a w => ∃ (rest74 : Nat) (k72 : Nat), ∃ (q82 : List (List Int)), ∃ (cs86 : List Value), ∃ (s79 : Sg), rest74 = m ∧ k72 + rest74 = q62.length ∧ s.Le s79 ∧ Plancopied.loop1 rest74 k72 q82 = some q71 ∧ Ev 1 (RL 1 (RI .i64)) s79 cs86 q82 ∧ q82.length = q62.length ∧ Rep a 30 [(1, .pointer (some ⟨b51, 0, none⟩)), (2, .pointer (some ⟨b52, 0, none⟩)), (14, .int .i64 ((q62.length : Nat) : Int)), (15, .int .i64 ((k72 : Nat) : Int))] ∧ St w s79 (vecC 47 1 a64 c65 q62.length cs86 :: vecC 41 4 a56 c57 q54.length cs59 :: pt b52 (.cells #[.int .i64 0, .int .i64 0, .slice none 0 0, .slice none 0 0] 37 (0, 0)) :: pt b51 (.cells #[.int .i64 x0.No, .int .i64 x0.Stock, .slice a56 q54.length c57, .slice a64 q62.length c65] 37 (0, 0)) :: R)) (m := q62.length) ⟨q62.length, 0, q62, cs67, s, rfl, by omega, (Sg.Le.refl _), hq70, h68, rfl, hE.pick _ ⟨rfl, rfl, rfl, rfl, trivial⟩, hS⟩ ?_
    clear hE hS a w hq70; rintro m78 a w ⟨rest74, k72, q82, cs86, s79, rfl, hd75, hle80, hq70, h85, hn87, hE, hS⟩
    refine W.gen fun K88 hK88 => ?_
    replace h0_0 := Sl.mono RApiStop.mono hle80 h0_0
    replace h0_1 := Sl.mono (RL.mono RI.mono) hle80 h0_1
    replace h68 := Ev.mono (RL.mono RI.mono) hle80 h68
    replace h60 := Ev.mono RApiStop.mono hle80 h60
    rcases rest74 with _ | rest74
    · skip
      refine W.seq ?_
      refine W.region ?_
      refine WL.vS hS hE (runs_plain rfl) (Gives.p hE rfl) rfl ?_; clear hE a; intro a hE
      refine WL.nil ?_
      refine W.seq ?_
      refine W.condF hE rfl (decide_eq_false (by omega)) ?_
      subst hK88
      refine W.exit rfl ?_
      exact ⟨q82, cs86, s79, hle80, Option.some.inj hq70, h85, hn87, hE.pick _ ⟨rfl, rfl, trivial⟩, hS⟩
    · have hlt76 : k72 < q62.length := by omega
      rw [Plancopied.loop1] at hq70
      refine W.seq ?_
      refine W.region ?_
      refine WL.vS hS hE (runs_plain rfl) (Gives.p hE rfl) rfl ?_; clear hE a; intro a hE
      refine WL.nil ?_
      refine W.seq ?_
      refine W.condT hE rfl (decide_eq_true (by omega)) ?_
      refine W.skip ?_
      refine W.seq ?_
      refine W.block ?_
      refine W.seq ?_
      refine W.region ?_
      refine WL.vS hS hE (runs_plain rfl) (Gives.p hE rfl) rfl ?_; clear hE a; intro a hE
      refine WL.vS hS hE (runs_plain rfl) (Gives.p hE rfl) rfl ?_; clear hE a; intro a hE
      refine WL.nil ?_
      refine W.gen fun K89 hK89 => ?_
      refine rE hS [] [0] [0, 1, 2, 3, 4, 5, 6, 7, 8, 9] [0, 1, 2, 3, 4, 5, 6, 7, 8, 9, 10] mixed ?_
      replace hS := hS.drew
      refine Rg.takeP (i := 0) hE rfl (by kernel_rfl) (runs_plain rfl) (Gives.fld hE rfl fl37_3) rfl (tw_sel (fun _ => hS) (fun _ => (hS.tail))) ?_; clear hE a; intro a hE
      refine Rg.take (i := 1) true rfl hE rfl (by kernel_rfl) (runs_plain rfl) (Gives.loadB hE 3 rfl rfl rfl ty23) rfl (tw_sel (fun _ => hS) (fun _ => (hS.tail))) ?_; clear hE a; intro a hE
      refine Rg.takeP (i := 2) hE rfl (by kernel_rfl) (runs_plain rfl) (Gives.p hE rfl) rfl (tw_sel (fun _ => hS) (fun _ => (hS.tail))) ?_; clear hE a; intro a hE
      refine Rg.takeP (i := 3) hE rfl (by kernel_rfl) (runs_plain rfl) (Gives.fld hE rfl fl37_3) rfl (tw_sel (fun _ => hS) (fun _ => (hS.tail))) ?_; clear hE a; intro a hE
      refine Rg.take (i := 4) true rfl hE rfl (by kernel_rfl) (runs_plain rfl) (Gives.loadB hE 3 rfl rfl rfl ty23) rfl (tw_sel (fun _ => hS) (fun _ => (hS.tail))) ?_; clear hE a; intro a hE
      refine Rg.takeP (i := 5) hE rfl (by kernel_rfl) (runs_plain rfl) (Gives.p hE rfl) rfl (tw_sel (fun _ => hS) (fun _ => (hS.tail))) ?_; clear hE a; intro a hE
      obtain ⟨x90, hx91, hq70⟩ := bindS hq70
      obtain ⟨hi92, hlt93, hy94⟩ := gx_some hx91
      obtain ⟨vs95, hl96, hR97, hd98, hget99⟩ := h85.at hy94
      obtain ⟨a100, c101, rfl, h102⟩ := hR97
      refine Rg.takeP (i := 6) hE rfl (by kernel_rfl) (runs_plain rfl) (Gives.idx hE ((((k72 : Nat) : Int)).toNat) rfl rfl sl23 hi92 (by have := hn87; omega) (hS.vecAok 0 rfl (by have := hn87; omega : (((k72 : Nat) : Int)).toNat < q62.length))) rfl (tw_sel (fun _ => hS) (fun _ => (hS.tail))) ?_; clear hE a; intro a hE
      refine Rg.take (i := 7) true rfl hE rfl (by kernel_rfl) (runs_plain rfl) (Gives.load1 hE rfl (fun w h => St.vecSees h 0 rfl ((((k72 : Nat) : Int)).toNat * 1) _ hget99) ty47) rfl (tw_sel (fun _ => hS) (fun _ => (hS.tail))) ?_; clear hE a; intro a hE
      refine Rg.one (i := 8) true true rfl (by kernel_rfl) (by kernel_rfl) (by kernel_rfl) ?_
      obtain ⟨q103, hq104, hq70⟩ := bindS hq70
      have hc_ := SlicesCloneLint_ok hS h102 hq104
      refine WL.fnq hE (hc_) (runs_plain rfl) bd23 rfl rfl rfl ?_
      clear hE hS hc_; rintro e w ⟨a105, c106, n107, cs108, rfl, h109, rfl, hS⟩; refine ⟨_, rfl, ?_⟩; clear a; intro a hE
      refine WL.nil ?_
      refine ⟨⟨fun _ => (hS.tail), fun _ => ((hS.tail).tail)⟩, ?_⟩
      obtain ⟨_, hx112, hq70⟩ := bindS hq70
      obtain ⟨h113, h114⟩ := ix_some hx112
      refine Rg.takeP (i := 9) hE rfl (by kernel_rfl) (runs_plain rfl) (Gives.idx hE ((((k72 : Nat) : Int)).toNat) rfl rfl sl23 h113 (by have := hn87; omega) (hS.vecAok 1 rfl (by have := hn87; omega : (((k72 : Nat) : Int)).toNat < q62.length))) rfl (tw_sel (fun _ => (hS.tail)) (fun _ => ((hS.tail).tail))) ?_; clear hE a; intro a hE
      refine Rg.one (i := 10) false true rfl (by kernel_rfl) (by kernel_rfl) (by kernel_rfl) ?_
      have hF := hS.fixD RI.mono 0 rfl h109 rfl; clear hS; obtain ⟨s116, hle117, hS, h118⟩ := hF
      replace h102 := Sl.mono RI.mono hle117 h102
      replace h85 := Ev.mono (RL.mono RI.mono) hle117 h85
      replace h60 := Ev.mono RApiStop.mono hle117 h60
      obtain ⟨x119, hx120, hq70⟩ := bindS hq70
      refine WL.setD hE hS 0 rfl (runs_plain rfl) rfl rfl (vs := [.slice a105 q103.length c106]) rfl ty47 rfl rfl rfl h85 hn87 (sx_some hx120).1 hx120 ⟨_, _, rfl, h118⟩ rfl ?_; clear hE hS a w; intro cs121 a w h122 hn123 hE hS
      refine WL.nil ?_
      refine ⟨⟨fun h => absurd h (by decide), fun _ => (St.down hle117 (hS.tail))⟩, ?_⟩
      refine Rg.done (by kernel_rfl) ?_
      subst hK89
      refine W.region ?_
      refine WL.vS hS hE (runs_plain rfl) (Gives.inc hE rfl (by omega)) rfl ?_; clear hE a; intro a hE
      refine WL.vS hS hE (runs_plain rfl) (Gives.p hE rfl) rfl ?_; clear hE a; intro a hE
      refine WL.nil ?_
      subst hK88
      exact ⟨rest74, Nat.lt_succ_self _, rest74, k72 + 1, x119, cs121, s116, rfl, (by omega), (Sg.Le.trans hle80 hle117), hq70, h122, hn123, hE.pick _ ⟨rfl, rfl, rfl, rfl, trivial⟩, hS⟩
  · clear hE hS a w; rintro a w ⟨q82, cs86, s79, hle80, rfl, h85, hn87, hE, hS⟩
    replace h0_0 := Sl.mono RApiStop.mono hle80 h0_0
    replace h0_1 := Sl.mono (RL.mono RI.mono) hle80 h0_1
    replace h68 := Ev.mono (RL.mono RI.mono) hle80 h68
    replace h60 := Ev.mono RApiStop.mono hle80 h60
    refine W.seq ?_
    refine W.region ?_
    refine WL.vS hS hE (runs_plain rfl) (Gives.loadBA hE 3 rfl rfl ty37) rfl ?_; clear hE a; intro a hE
    refine WL.storeI hE hS 2 rfl [.int .i64 x0.No, .int .i64 x0.Stock, .slice a56 q54.length c57, .slice a64 q62.length c65] (runs_plain rfl) rfl rfl rfl ty37 rfl rfl rfl rfl ?_; clear hE hS a w; intro a w hE hS
    refine WL.nil ?_
    refine W.ret ?_
    have hF := hS.fixD RApiStop.mono 1 rfl h60 rfl; clear hS; obtain ⟨s124, hle125, hS, h126⟩ := hF
    replace h85 := Ev.mono (RL.mono RI.mono) hle125 h85
    have hF := hS.fixD (RL.mono RI.mono) 0 rfl h85 hn87; clear hS; obtain ⟨s127, hle128, hS, h129⟩ := hF
    (try rw [← hn87] at hE)
    (try rw [← hn87] at hS)
    replace h126 := Sl.mono RApiStop.mono hle128 h126
    refine finG (fn := Tryd.f22) (rs := [.cell 2 37]) (vs := [_]) hE rfl ⟨⟨_, rfl, .inl ⟨_, rfl, hS.seesAt 0 rfl, ty37⟩⟩, trivial⟩ ?_
    obtain rfl := Option.some.inj hr
    replace hS := hS.tail
    replace hS := hS.tail
    exact ⟨_, s127, rfl, (Sg.Le.trans (Sg.Le.trans hle80 hle125) hle128), ⟨_, _, _, _, rfl, h126, h129⟩, hS⟩
set_option maxHeartbeats 8000000 in
theorem Planown_ok  {w : World} {s : Sg} {R : List HP} {x0 : ApiDay} {a0_0 : Option Addr} {c0_0 : Nat} {a0_1 : Option Addr} {c0_1 : Nat} (hS : St w s (R)) (h0_0 : Sl 4 RApiTrain s a0_0 c0_0 x0.Trains) (h0_1 : Sl 1 (RL 1 (RI .i64)) s a0_1 c0_1 x0.Turns) {r : ApiDay} (hr : Planown x0 = some r) :
    Calls Tryd.prog 10 [.agg (List.toArray [.slice a0_0 x0.Trains.length c0_0, .slice a0_1 x0.Turns.length c0_1])].toArray w (fun e w => ∃ (cs0 : List Value) (t : Sg), e = .returned (.agg cs0.toArray) ∧ s.Le t ∧ RApiDay t cs0 r ∧ St w t (R)) := by
  refine enter Tryd.func10 rfl rfl rfl fun a hE => ?_
  rw [Planown] at hr
  refine W.seq ?_
  refine W.region ?_
  refine WL.box hE hS (runs_plain rfl) rfl rfl rfl ?_; clear hE hS a w; intro b51 a w hE hS
  refine WL.alloc hE hS (runs_plain rfl) zr25 rfl ?_; clear hE hS a w; intro b52 a w hE hS
  refine WL.nil ?_
  refine W.seq ?_
  refine W.gen fun K53 hK53 => ?_
  refine rE hS [] [1] [0, 1, 2, 3, 4, 5, 6, 8] [0, 1, 2, 3, 4, 5, 6, 7, 8, 9] mixed ?_
  replace hS := hS.drew
  refine Rg.takeP (i := 0) hE rfl (by kernel_rfl) (runs_plain rfl) (Gives.fld hE rfl fl25_0) rfl (tw_sel (fun _ => hS) (fun _ => (hS.dropAt 1))) ?_; clear hE a; intro a hE
  refine Rg.take (i := 1) true rfl hE rfl (by kernel_rfl) (runs_plain rfl) (Gives.loadB hE 1 rfl rfl rfl ty22) rfl (tw_sel (fun _ => hS) (fun _ => (hS.dropAt 1))) ?_; clear hE a; intro a hE
  refine Rg.takeP (i := 3) hE rfl (by kernel_rfl) (runs_plain rfl) (Gives.fld hE rfl fl25_1) rfl (tw_sel (fun _ => hS) (fun _ => (hS.dropAt 1))) ?_; clear hE a; intro a hE
  refine Rg.take (i := 4) true rfl hE rfl (by kernel_rfl) (runs_plain rfl) (Gives.loadB hE 1 rfl rfl rfl ty23) rfl (tw_sel (fun _ => hS) (fun _ => (hS.dropAt 1))) ?_; clear hE a; intro a hE
  refine Rg.one (i := 2) true true rfl (by kernel_rfl) (by kernel_rfl) (by kernel_rfl) ?_
  obtain ⟨q54, hq55, hr⟩ := bindS hr
  have hc_ := SlicesCloneLapiTrain_ok hS h0_0 hq55
  refine WL.fnq hE (hc_) (runs_plain rfl) bd15 rfl rfl rfl ?_
  clear hE hS hc_; rintro e w ⟨a56, c57, n58, cs59, rfl, h60, rfl, hS⟩; refine ⟨_, rfl, ?_⟩; clear a; intro a hE
  refine WL.nil ?_
  refine ⟨⟨fun _ => (hS.tail), fun _ => ((hS.tail).dropAt 1)⟩, ?_⟩
  refine Rg.takeP (i := 6) hE rfl (by kernel_rfl) (runs_plain rfl) (Gives.fld hE rfl fl25_0) rfl (tw_sel (fun _ => (hS.tail)) (fun _ => ((hS.tail).dropAt 1))) ?_; clear hE a; intro a hE
  refine Rg.one (i := 5) true true rfl (by kernel_rfl) (by kernel_rfl) (by kernel_rfl) ?_
  obtain ⟨q62, hq63, hr⟩ := bindS hr
  have hc_ := SlicesCloneLLint_ok hS h0_1 hq63
  refine WL.fnq hE (hc_) (runs_plain rfl) bd21 rfl rfl rfl ?_
  clear hE hS hc_; rintro e w ⟨a64, c65, n66, cs67, rfl, h68, rfl, hS⟩; refine ⟨_, rfl, ?_⟩; clear a; intro a hE
  refine WL.nil ?_
  refine ⟨⟨fun _ => ((hS.tail).tail), fun _ => (((hS.tail).tail).dropAt 1)⟩, ?_⟩
  refine Rg.one (i := 7) false true rfl (by kernel_rfl) (by kernel_rfl) (by kernel_rfl) ?_
  refine WL.storeI hE hS 3 rfl [.slice a56 q54.length c57, .slice a0_1 x0.Turns.length c0_1] (runs_plain rfl) rfl rfl rfl ty22 rfl rfl rfl rfl ?_; clear hE hS a w; intro a w hE hS
  refine WL.nil ?_
  refine ⟨⟨fun h => absurd h (by decide), fun _ => (((hS.tail).tail).dropAt 1)⟩, ?_⟩
  refine Rg.takeP (i := 8) hE rfl (by kernel_rfl) (runs_plain rfl) (Gives.fld hE rfl fl25_1) rfl (tw_sel (fun h => absurd h (by decide)) (fun _ => (((hS.tail).tail).dropAt 1))) ?_; clear hE a; intro a hE
  refine Rg.one (i := 9) false true rfl (by kernel_rfl) (by kernel_rfl) (by kernel_rfl) ?_
  refine WL.storeI hE hS 3 rfl [.slice a56 q54.length c57, .slice a64 q62.length c65] (runs_plain rfl) rfl rfl rfl ty23 rfl rfl rfl rfl ?_; clear hE hS a w; intro a w hE hS
  refine WL.nil ?_
  refine ⟨⟨fun h => absurd h (by decide), fun _ => (((hS.tail).tail).dropAt 1)⟩, ?_⟩
  refine Rg.done (by kernel_rfl) ?_
  subst hK53
  refine W.seq ?_
  refine W.seq ?_
  refine W.region ?_
  refine WL.vS hS hE (runs_plain rfl) (Gives.fld hE rfl fl25_0) rfl ?_; clear hE a; intro a hE
  refine WL.vS hS hE (runs_plain rfl) (Gives.loadB hE 3 rfl rfl rfl ty22) rfl ?_; clear hE a; intro a hE
  refine WL.vS hS hE (runs_plain rfl) (Gives.len hE rfl sl22) rfl ?_; clear hE a; intro a hE
  refine WL.vS hS hE (runs_plain rfl) (Gives.p hE rfl) rfl ?_; clear hE a; intro a hE
  refine WL.nil ?_
  have hb81 : q54.length ≤ 9223372036854775807 := by have := hS.vecCap 1 rfl; unfold maxLen at this; omega
  obtain ⟨q71, hq70, hr⟩ := bindS hr
  refine W.cut (fun a w => ∃ (q82 : List ApiTrain), ∃ (cs86 : List Value), ∃ (s79 : Sg), s.Le s79 ∧ q82 = q71 ∧ Ev 4 RApiTrain s79 cs86 q82 ∧ q82.length = q54.length ∧ Rep a 48 [(1, .pointer (some ⟨b51, 0, none⟩)), (2, .pointer (some ⟨b52, 0, none⟩))] ∧ St w s79 (vecC 47 1 a64 c65 q62.length cs67 :: vecC 37 4 a56 c57 q54.length cs86 :: pt b52 (.cells #[.slice none 0 0, .slice none 0 0] 25 (0, 0)) :: pt b51 (.cells #[.slice a56 q54.length c57, .slice a64 q62.length c65] 25 (0, 0)) :: R)) ?_ ?_
  · refine W.block ?_
    refine W.loop (fun m a w => ∃ (rest74 : Nat) (k72 : Nat), ∃ (q82 : List ApiTrain), ∃ (cs86 : List Value), ∃ (s79 : Sg), rest74 = m ∧ k72 + rest74 = q54.length ∧ s.Le s79 ∧ Planown.loop1 rest74 k72 q82 = some q71 ∧ Ev 4 RApiTrain s79 cs86 q82 ∧ q82.length = q54.length ∧ Rep a 48 [(1, .pointer (some ⟨b51, 0, none⟩)), (2, .pointer (some ⟨b52, 0, none⟩)), (15, .int .i64 ((q54.length : Nat) : Int)), (16, .int .i64 ((k72 : Nat) : Int))] ∧ St w s79 (vecC 47 1 a64 c65 q62.length cs67 :: vecC 37 4 a56 c57 q54.length cs86 :: pt b52 (.cells #[.slice none 0 0, .slice none 0 0] 25 (0, 0)) :: pt b51 (.cells #[.slice a56 q54.length c57, .slice a64 q62.length c65] 25 (0, 0)) :: R)) (m := q54.length) ⟨q54.length, 0, q54, cs59, s, rfl, by omega, (Sg.Le.refl _), hq70, h60, rfl, hE.pick _ ⟨rfl, rfl, rfl, rfl, trivial⟩, hS⟩ ?_
    clear hE hS a w hq70; rintro m78 a w ⟨rest74, k72, q82, cs86, s79, rfl, hd75, hle80, hq70, h85, hn87, hE, hS⟩
    refine W.gen fun K88 hK88 => ?_
    replace h0_0 := Sl.mono RApiTrain.mono hle80 h0_0
    replace h0_1 := Sl.mono (RL.mono RI.mono) hle80 h0_1
    replace h68 := Ev.mono (RL.mono RI.mono) hle80 h68
    replace h60 := Ev.mono RApiTrain.mono hle80 h60
    rcases rest74 with _ | rest74
    · skip
      refine W.seq ?_
      refine W.region ?_
      refine WL.vS hS hE (runs_plain rfl) (Gives.p hE rfl) rfl ?_; clear hE a; intro a hE
      refine WL.nil ?_
      refine W.seq ?_
      refine W.condF hE rfl (decide_eq_false (by omega)) ?_
      subst hK88
      refine W.exit rfl ?_
      exact ⟨q82, cs86, s79, hle80, Option.some.inj hq70, h85, hn87, hE.pick _ ⟨rfl, rfl, trivial⟩, hS⟩
    · have hlt76 : k72 < q54.length := by omega
      rw [Planown.loop1] at hq70
      refine W.seq ?_
      refine W.region ?_
      refine WL.vS hS hE (runs_plain rfl) (Gives.p hE rfl) rfl ?_; clear hE a; intro a hE
      refine WL.nil ?_
      refine W.seq ?_
      refine W.condT hE rfl (decide_eq_true (by omega)) ?_
      refine W.skip ?_
      refine W.seq ?_
      refine W.block ?_
      refine W.seq ?_
      refine W.region ?_
      refine WL.vS hS hE (runs_plain rfl) (Gives.p hE rfl) rfl ?_; clear hE a; intro a hE
      refine WL.vS hS hE (runs_plain rfl) (Gives.p hE rfl) rfl ?_; clear hE a; intro a hE
      refine WL.nil ?_
      refine W.gen fun K89 hK89 => ?_
      refine rE hS [] [1] [0, 1, 2, 3, 4, 5, 6, 7, 8, 9] [0, 1, 2, 3, 4, 5, 6, 7, 8, 9, 10] mixed ?_
      replace hS := hS.drew
      refine Rg.takeP (i := 0) hE rfl (by kernel_rfl) (runs_plain rfl) (Gives.fld hE rfl fl25_0) rfl (tw_sel (fun _ => hS) (fun _ => (hS.dropAt 1))) ?_; clear hE a; intro a hE
      refine Rg.take (i := 1) true rfl hE rfl (by kernel_rfl) (runs_plain rfl) (Gives.loadB hE 3 rfl rfl rfl ty22) rfl (tw_sel (fun _ => hS) (fun _ => (hS.dropAt 1))) ?_; clear hE a; intro a hE
      refine Rg.takeP (i := 2) hE rfl (by kernel_rfl) (runs_plain rfl) (Gives.p hE rfl) rfl (tw_sel (fun _ => hS) (fun _ => (hS.dropAt 1))) ?_; clear hE a; intro a hE
      refine Rg.takeP (i := 3) hE rfl (by kernel_rfl) (runs_plain rfl) (Gives.fld hE rfl fl25_0) rfl (tw_sel (fun _ => hS) (fun _ => (hS.dropAt 1))) ?_; clear hE a; intro a hE
      refine Rg.take (i := 4) true rfl hE rfl (by kernel_rfl) (runs_plain rfl) (Gives.loadB hE 3 rfl rfl rfl ty22) rfl (tw_sel (fun _ => hS) (fun _ => (hS.dropAt 1))) ?_; clear hE a; intro a hE
      refine Rg.takeP (i := 5) hE rfl (by kernel_rfl) (runs_plain rfl) (Gives.p hE rfl) rfl (tw_sel (fun _ => hS) (fun _ => (hS.dropAt 1))) ?_; clear hE a; intro a hE
      obtain ⟨x90, hx91, hq70⟩ := bindS hq70
      obtain ⟨hi92, hlt93, hy94⟩ := gx_some hx91
      obtain ⟨vs95, hl96, hR97, hd98, hget99⟩ := h85.at hy94
      obtain ⟨a100, c101, a103, c104, rfl, h102, h105⟩ := hR97
      refine Rg.takeP (i := 6) hE rfl (by kernel_rfl) (runs_plain rfl) (Gives.idx hE ((((k72 : Nat) : Int)).toNat) rfl rfl sl22 hi92 (by have := hn87; omega) (hS.vecAok 1 rfl (by have := hn87; omega : (((k72 : Nat) : Int)).toNat < q54.length))) rfl (tw_sel (fun _ => hS) (fun _ => (hS.dropAt 1))) ?_; clear hE a; intro a hE
      refine Rg.take (i := 7) true rfl hE rfl (by kernel_rfl) (runs_plain rfl) (Gives.loadA hE rfl (fun w h => St.vecSees h 1 rfl ((((k72 : Nat) : Int)).toNat * 4) _ hget99) ty37) rfl (tw_sel (fun _ => hS) (fun _ => (hS.dropAt 1))) ?_; clear hE a; intro a hE
      refine Rg.one (i := 8) true true rfl (by kernel_rfl) (by kernel_rfl) (by kernel_rfl) ?_
      obtain ⟨q106, hq107, hq70⟩ := bindS hq70
      have hc_ := Plancopied_ok hS h102 h105 hq107
      refine WL.fnq hE (hc_) (runs_plain rfl) bd22 rfl rfl rfl ?_
      clear hE hS hc_; rintro e w ⟨cs108, s110, rfl, hle111, h109, hS⟩; refine ⟨_, rfl, ?_⟩; clear a; intro a hE
      replace h102 := Sl.mono RApiStop.mono hle111 h102
      replace h105 := Sl.mono (RL.mono RI.mono) hle111 h105
      replace h68 := Ev.mono (RL.mono RI.mono) hle111 h68
      replace h85 := Ev.mono RApiTrain.mono hle111 h85
      obtain ⟨a112, c113, a115, c116, rfl, h114, h117⟩ := h109
      refine WL.nil ?_
      refine ⟨⟨fun _ => (St.down hle111 hS), fun _ => (St.down hle111 (hS.dropAt 1))⟩, ?_⟩
      obtain ⟨_, hx119, hq70⟩ := bindS hq70
      obtain ⟨h120, h121⟩ := ix_some hx119
      refine Rg.takeP (i := 9) hE rfl (by kernel_rfl) (runs_plain rfl) (Gives.idx hE ((((k72 : Nat) : Int)).toNat) rfl rfl sl22 h120 (by have := hn87; omega) (hS.vecAok 1 rfl (by have := hn87; omega : (((k72 : Nat) : Int)).toNat < q54.length))) rfl (tw_sel (fun _ => (St.down hle111 hS)) (fun _ => (St.down hle111 (hS.dropAt 1)))) ?_; clear hE a; intro a hE
      refine Rg.one (i := 10) false true rfl (by kernel_rfl) (by kernel_rfl) (by kernel_rfl) ?_
      obtain ⟨x123, hx124, hq70⟩ := bindS hq70
      refine WL.setD hE hS 1 rfl (runs_plain rfl) rfl rfl (vs := [.int .i64 q106.No, .int .i64 q106.Stock, .slice a112 q106.Stops.length c113, .slice a115 q106.Legs.length c116]) rfl ty37 rfl rfl rfl h85 hn87 (sx_some hx124).1 hx124 ⟨_, _, _, _, rfl, h114, h117⟩ rfl ?_; clear hE hS a w; intro cs125 a w h126 hn127 hE hS
      refine WL.nil ?_
      refine ⟨⟨fun h => absurd h (by decide), fun _ => (St.down hle111 (hS.dropAt 1))⟩, ?_⟩
      refine Rg.done (by kernel_rfl) ?_
      subst hK89
      refine W.region ?_
      refine WL.vS hS hE (runs_plain rfl) (Gives.inc hE rfl (by omega)) rfl ?_; clear hE a; intro a hE
      refine WL.vS hS hE (runs_plain rfl) (Gives.p hE rfl) rfl ?_; clear hE a; intro a hE
      refine WL.nil ?_
      subst hK88
      exact ⟨rest74, Nat.lt_succ_self _, rest74, k72 + 1, x123, cs125, s110, rfl, (by omega), (Sg.Le.trans hle80 hle111), hq70, h126, hn127, hE.pick _ ⟨rfl, rfl, rfl, rfl, trivial⟩, hS⟩
  · clear hE hS a w; rintro a w ⟨q82, cs86, s79, hle80, rfl, h85, hn87, hE, hS⟩
    replace h0_0 := Sl.mono RApiTrain.mono hle80 h0_0
    replace h0_1 := Sl.mono (RL.mono RI.mono) hle80 h0_1
    replace h68 := Ev.mono (RL.mono RI.mono) hle80 h68
    replace h60 := Ev.mono RApiTrain.mono hle80 h60
    refine W.seq ?_
    refine W.seq ?_
    refine W.region ?_
    refine WL.vS hS hE (runs_plain rfl) (Gives.fld hE rfl fl25_1) rfl ?_; clear hE a; intro a hE
    refine WL.vS hS hE (runs_plain rfl) (Gives.loadB hE 3 rfl rfl rfl ty23) rfl ?_; clear hE a; intro a hE
    refine WL.vS hS hE (runs_plain rfl) (Gives.len hE rfl sl23) rfl ?_; clear hE a; intro a hE
    refine WL.vS hS hE (runs_plain rfl) (Gives.p hE rfl) rfl ?_; clear hE a; intro a hE
    refine WL.nil ?_
    have hb139 : q62.length ≤ 9223372036854775807 := by have := hS.vecCap 0 rfl; unfold maxLen at this; omega
    obtain ⟨q129, hq128, hr⟩ := bindS hr
    refine W.cut (fun a w => ∃ (q140 : List (List Int)), ∃ (cs144 : List Value), ∃ (s137 : Sg), s79.Le s137 ∧ q140 = q129 ∧ Ev 1 (RL 1 (RI .i64)) s137 cs144 q140 ∧ q140.length = q62.length ∧ Rep a 48 [(1, .pointer (some ⟨b51, 0, none⟩)), (2, .pointer (some ⟨b52, 0, none⟩))] ∧ St w s137 (vecC 47 1 a64 c65 q62.length cs144 :: vecC 37 4 a56 c57 q54.length cs86 :: pt b52 (.cells #[.slice none 0 0, .slice none 0 0] 25 (0, 0)) :: pt b51 (.cells #[.slice a56 q54.length c57, .slice a64 q62.length c65] 25 (0, 0)) :: R)) ?_ ?_
    · refine W.block ?_
      refine W.loop (fun m a w => ∃ (rest132 : Nat) (k130 : Nat), ∃ (q140 : List (List Int)), ∃ (cs144 : List Value), ∃ (s137 : Sg), rest132 = m ∧ k130 + rest132 = q62.length ∧ s79.Le s137 ∧ Planown.loop2 rest132 k130 q140 = some q129 ∧ Ev 1 (RL 1 (RI .i64)) s137 cs144 q140 ∧ q140.length = q62.length ∧ Rep a 48 [(1, .pointer (some ⟨b51, 0, none⟩)), (2, .pointer (some ⟨b52, 0, none⟩)), (32, .int .i64 ((q62.length : Nat) : Int)), (33, .int .i64 ((k130 : Nat) : Int))] ∧ St w s137 (vecC 47 1 a64 c65 q62.length cs144 :: vecC 37 4 a56 c57 q54.length cs86 :: pt b52 (.cells #[.slice none 0 0, .slice none 0 0] 25 (0, 0)) :: pt b51 (.cells #[.slice a56 q54.length c57, .slice a64 q62.length c65] 25 (0, 0)) :: R)) (m := q62.length) ⟨q62.length, 0, q62, cs67, s79, rfl, by omega, (Sg.Le.refl _), hq128, h68, rfl, hE.pick _ ⟨rfl, rfl, rfl, rfl, trivial⟩, hS⟩ ?_
      clear hE hS a w hq128; rintro m136 a w ⟨rest132, k130, q140, cs144, s137, rfl, hd133, hle138, hq128, h143, hn145, hE, hS⟩
      refine W.gen fun K146 hK146 => ?_
      replace h68 := Ev.mono (RL.mono RI.mono) hle138 h68
      replace h85 := Ev.mono RApiTrain.mono hle138 h85
      rcases rest132 with _ | rest132
      · skip
        refine W.seq ?_
        refine W.region ?_
        refine WL.vS hS hE (runs_plain rfl) (Gives.p hE rfl) rfl ?_; clear hE a; intro a hE
        refine WL.nil ?_
        refine W.seq ?_
        refine W.condF hE rfl (decide_eq_false (by omega)) ?_
        subst hK146
        refine W.exit rfl ?_
        exact ⟨q140, cs144, s137, hle138, Option.some.inj hq128, h143, hn145, hE.pick _ ⟨rfl, rfl, trivial⟩, hS⟩
      · have hlt134 : k130 < q62.length := by omega
        rw [Planown.loop2] at hq128
        refine W.seq ?_
        refine W.region ?_
        refine WL.vS hS hE (runs_plain rfl) (Gives.p hE rfl) rfl ?_; clear hE a; intro a hE
        refine WL.nil ?_
        refine W.seq ?_
        refine W.condT hE rfl (decide_eq_true (by omega)) ?_
        refine W.skip ?_
        refine W.seq ?_
        refine W.block ?_
        refine W.seq ?_
        refine W.region ?_
        refine WL.vS hS hE (runs_plain rfl) (Gives.p hE rfl) rfl ?_; clear hE a; intro a hE
        refine WL.vS hS hE (runs_plain rfl) (Gives.p hE rfl) rfl ?_; clear hE a; intro a hE
        refine WL.nil ?_
        refine W.gen fun K147 hK147 => ?_
        refine rE hS [] [0] [0, 1, 2, 3, 4, 5, 6, 7, 8, 9] [0, 1, 2, 3, 4, 5, 6, 7, 8, 9, 10] mixed ?_
        replace hS := hS.drew
        refine Rg.takeP (i := 0) hE rfl (by kernel_rfl) (runs_plain rfl) (Gives.fld hE rfl fl25_1) rfl (tw_sel (fun _ => hS) (fun _ => (hS.tail))) ?_; clear hE a; intro a hE
        refine Rg.take (i := 1) true rfl hE rfl (by kernel_rfl) (runs_plain rfl) (Gives.loadB hE 3 rfl rfl rfl ty23) rfl (tw_sel (fun _ => hS) (fun _ => (hS.tail))) ?_; clear hE a; intro a hE
        refine Rg.takeP (i := 2) hE rfl (by kernel_rfl) (runs_plain rfl) (Gives.p hE rfl) rfl (tw_sel (fun _ => hS) (fun _ => (hS.tail))) ?_; clear hE a; intro a hE
        refine Rg.takeP (i := 3) hE rfl (by kernel_rfl) (runs_plain rfl) (Gives.fld hE rfl fl25_1) rfl (tw_sel (fun _ => hS) (fun _ => (hS.tail))) ?_; clear hE a; intro a hE
        refine Rg.take (i := 4) true rfl hE rfl (by kernel_rfl) (runs_plain rfl) (Gives.loadB hE 3 rfl rfl rfl ty23) rfl (tw_sel (fun _ => hS) (fun _ => (hS.tail))) ?_; clear hE a; intro a hE
        refine Rg.takeP (i := 5) hE rfl (by kernel_rfl) (runs_plain rfl) (Gives.p hE rfl) rfl (tw_sel (fun _ => hS) (fun _ => (hS.tail))) ?_; clear hE a; intro a hE
        obtain ⟨x148, hx149, hq128⟩ := bindS hq128
        obtain ⟨hi150, hlt151, hy152⟩ := gx_some hx149
        obtain ⟨vs153, hl154, hR155, hd156, hget157⟩ := h143.at hy152
        obtain ⟨a158, c159, rfl, h160⟩ := hR155
        refine Rg.takeP (i := 6) hE rfl (by kernel_rfl) (runs_plain rfl) (Gives.idx hE ((((k130 : Nat) : Int)).toNat) rfl rfl sl23 hi150 (by have := hn145; omega) (hS.vecAok 0 rfl (by have := hn145; omega : (((k130 : Nat) : Int)).toNat < q62.length))) rfl (tw_sel (fun _ => hS) (fun _ => (hS.tail))) ?_; clear hE a; intro a hE
        refine Rg.take (i := 7) true rfl hE rfl (by kernel_rfl) (runs_plain rfl) (Gives.load1 hE rfl (fun w h => St.vecSees h 0 rfl ((((k130 : Nat) : Int)).toNat * 1) _ hget157) ty47) rfl (tw_sel (fun _ => hS) (fun _ => (hS.tail))) ?_; clear hE a; intro a hE
        refine Rg.one (i := 8) true true rfl (by kernel_rfl) (by kernel_rfl) (by kernel_rfl) ?_
        obtain ⟨q161, hq162, hq128⟩ := bindS hq128
        have hc_ := SlicesCloneLint_ok hS h160 hq162
        refine WL.fnq hE (hc_) (runs_plain rfl) bd23 rfl rfl rfl ?_
        clear hE hS hc_; rintro e w ⟨a163, c164, n165, cs166, rfl, h167, rfl, hS⟩; refine ⟨_, rfl, ?_⟩; clear a; intro a hE
        refine WL.nil ?_
        refine ⟨⟨fun _ => (hS.tail), fun _ => ((hS.tail).tail)⟩, ?_⟩
        obtain ⟨_, hx170, hq128⟩ := bindS hq128
        obtain ⟨h171, h172⟩ := ix_some hx170
        refine Rg.takeP (i := 9) hE rfl (by kernel_rfl) (runs_plain rfl) (Gives.idx hE ((((k130 : Nat) : Int)).toNat) rfl rfl sl23 h171 (by have := hn145; omega) (hS.vecAok 1 rfl (by have := hn145; omega : (((k130 : Nat) : Int)).toNat < q62.length))) rfl (tw_sel (fun _ => (hS.tail)) (fun _ => ((hS.tail).tail))) ?_; clear hE a; intro a hE
        refine Rg.one (i := 10) false true rfl (by kernel_rfl) (by kernel_rfl) (by kernel_rfl) ?_
        have hF := hS.fixD RI.mono 0 rfl h167 rfl; clear hS; obtain ⟨s174, hle175, hS, h176⟩ := hF
        replace h160 := Sl.mono RI.mono hle175 h160
        replace h143 := Ev.mono (RL.mono RI.mono) hle175 h143
        replace h85 := Ev.mono RApiTrain.mono hle175 h85
        obtain ⟨x177, hx178, hq128⟩ := bindS hq128
        refine WL.setD hE hS 0 rfl (runs_plain rfl) rfl rfl (vs := [.slice a163 q161.length c164]) rfl ty47 rfl rfl rfl h143 hn145 (sx_some hx178).1 hx178 ⟨_, _, rfl, h176⟩ rfl ?_; clear hE hS a w; intro cs179 a w h180 hn181 hE hS
        refine WL.nil ?_
        refine ⟨⟨fun h => absurd h (by decide), fun _ => (St.down hle175 (hS.tail))⟩, ?_⟩
        refine Rg.done (by kernel_rfl) ?_
        subst hK147
        refine W.region ?_
        refine WL.vS hS hE (runs_plain rfl) (Gives.inc hE rfl (by omega)) rfl ?_; clear hE a; intro a hE
        refine WL.vS hS hE (runs_plain rfl) (Gives.p hE rfl) rfl ?_; clear hE a; intro a hE
        refine WL.nil ?_
        subst hK146
        exact ⟨rest132, Nat.lt_succ_self _, rest132, k130 + 1, x177, cs179, s174, rfl, (by omega), (Sg.Le.trans hle138 hle175), hq128, h180, hn181, hE.pick _ ⟨rfl, rfl, rfl, rfl, trivial⟩, hS⟩
    · clear hE hS a w; rintro a w ⟨q140, cs144, s137, hle138, rfl, h143, hn145, hE, hS⟩
      replace h68 := Ev.mono (RL.mono RI.mono) hle138 h68
      replace h85 := Ev.mono RApiTrain.mono hle138 h85
      refine W.seq ?_
      refine W.region ?_
      refine WL.vS hS hE (runs_plain rfl) (Gives.loadBA hE 3 rfl rfl ty25) rfl ?_; clear hE a; intro a hE
      refine WL.storeI hE hS 2 rfl [.slice a56 q54.length c57, .slice a64 q62.length c65] (runs_plain rfl) rfl rfl rfl ty25 rfl rfl rfl rfl ?_; clear hE hS a w; intro a w hE hS
      refine WL.nil ?_
      refine W.ret ?_
      have hF := hS.fixD RApiTrain.mono 1 rfl h85 hn87; clear hS; obtain ⟨s182, hle183, hS, h184⟩ := hF
      (try rw [← hn87] at hE)
      (try rw [← hn87] at hS)
      replace h143 := Ev.mono (RL.mono RI.mono) hle183 h143
      have hF := hS.fixD (RL.mono RI.mono) 0 rfl h143 hn145; clear hS; obtain ⟨s185, hle186, hS, h187⟩ := hF
      (try rw [← hn145] at hE)
      (try rw [← hn145] at hS)
      replace h184 := Sl.mono RApiTrain.mono hle186 h184
      refine finG (fn := Tryd.f10) (rs := [.cell 2 25]) (vs := [_]) hE rfl ⟨⟨_, rfl, .inl ⟨_, rfl, hS.seesAt 0 rfl, ty25⟩⟩, trivial⟩ ?_
      obtain rfl := Option.some.inj hr
      replace hS := hS.tail
      replace hS := hS.tail
      exact ⟨_, s185, rfl, (Sg.Le.trans (Sg.Le.trans (Sg.Le.trans hle80 hle138) hle183) hle186), ⟨_, _, _, _, rfl, h184, h187⟩, hS⟩
theorem Sl.conv {α β : Type} {es : Nat} {R : Rd α} {R2 : Rd β} {s : Sg} {a : Option Addr} {c : Nat} {l : List α} {l2 : List β} (hl : l.length = l2.length)
    (hc : ∀ (i : Nat) (p : α) (q : β) (cs : List Value), l[i]? = some p → l2[i]? = some q → R s cs p → R2 s cs q) (q : Sl es R s a c l) : Sl es R2 s a c l2 := by
  refine ⟨by rw [← hl]; exact q.len, q.cap, q.ok, fun k x hk => ?_⟩
  have hk1 : k < l.length := by rw [hl]; exact (List.getElem?_eq_some_iff.1 hk).1
  obtain ⟨cs, h1, h2, h3⟩ := q.el k _ (List.getElem?_eq_getElem hk1)
  exact ⟨cs, h1, h2, hc k _ _ cs (List.getElem?_eq_getElem hk1) hk h3⟩
/-- a train, told whole, or with hd for its stops -/
def RHole (hd : Value) : Rd (ApiTrain × Bool) := fun s cs y =>
  (y.2 = false ∧ RApiTrain s cs y.1) ∨ (y.2 = true ∧ ∃ a1 c1, cs = [.int .i64 y.1.No, .int .i64 y.1.Stock, hd, .slice a1 y.1.Legs.length c1] ∧ Sl 1 (RL 1 (RI .i64)) s a1 c1 y.1.Legs)
theorem RHole.mono {hd : Value} : Rmono (RHole hd) := by
  rintro s t h cs y (⟨h1, h2⟩ | ⟨h1, a1, c1, h2, h3⟩)
  · exact .inl ⟨h1, RApiTrain.mono _ _ h _ _ h2⟩
  · exact .inr ⟨h1, a1, c1, h2, h3.mono (RL.mono RI.mono) h⟩
theorem RHole.plain {hd : Value} {s : Sg} {cs : List Value} {z : ApiTrain × Bool} (hz : z.2 = false) (h : RHole hd s cs z) : RApiTrain s cs z.1 := by
  rcases h with ⟨_, h2⟩ | ⟨h1, _⟩
  · exact h2
  · rw [hz] at h1; cases h1
theorem RHole.whole {hd : Value} {s : Sg} {cs : List Value} {x : ApiTrain} (h : RApiTrain s cs x) : RHole hd s cs (x, false) := .inl ⟨rfl, h⟩
theorem RHole.holed {hd : Value} {s : Sg} {x : ApiTrain} {a1 : Option Addr} {c1 : Nat} (h : Sl 1 (RL 1 (RI .i64)) s a1 c1 x.Legs) :
    RHole hd s [.int .i64 x.No, .int .i64 x.Stock, hd, .slice a1 x.Legs.length c1] (x, true) := .inr ⟨rfl, _, _, rfl, h⟩
theorem fst_mk (l : List ApiTrain) : (l.map (fun x => (x, false))).map Prod.fst = l := by
  rw [List.map_map]; exact List.map_id l
theorem map_at {l : List (ApiTrain × Bool)} {k : Nat} {x : ApiTrain} (h : (l.map Prod.fst)[k]? = some x) : ∃ z, l[k]? = some z ∧ z.1 = x := by
  rw [List.getElem?_map] at h
  cases hz : l[k]? with
  | none => rw [hz] at h; cases h
  | some z => rw [hz] at h; exact ⟨z, rfl, Option.some.inj h⟩
theorem Ev.hole {s : Sg} {cs : List Value} {l : List ApiTrain} {hd : Value} (q : Ev 4 RApiTrain s cs l) : Ev 4 (RHole hd) s cs (l.map (fun x => (x, false))) := by
  refine ⟨by rw [List.length_map]; exact q.len, fun k z hz => ?_⟩
  rw [List.getElem?_map] at hz
  cases hx : l[k]? with
  | none => rw [hx] at hz; cases hz
  | some x => rw [hx] at hz; cases hz; exact RHole.whole (q.el k x hx)
theorem Ev.newHole {s : Sg} {cs : List Value} {l : List (ApiTrain × Bool)} {hd hd2 : Value} (hf : ∀ (i : Nat) (z : ApiTrain × Bool), l[i]? = some z → z.2 = false) (q : Ev 4 (RHole hd) s cs l) : Ev 4 (RHole hd2) s cs l :=
  ⟨q.len, fun k z hz => .inl ⟨hf k z hz, RHole.plain (hf k z hz) (q.el k z hz)⟩⟩
theorem sx_map {l : List (ApiTrain × Bool)} {k : Nat} {z : ApiTrain × Bool} {r : List ApiTrain} (h : sx (l.map Prod.fst) ((k : Nat) : Int) z.1 = some r) :
    ∃ l2, sx l ((k : Nat) : Int) z = some l2 ∧ l2.map Prod.fst = r ∧ l2 = l.set k z := by
  obtain ⟨h1, h2, h3⟩ := sx_some h
  rw [List.length_map] at h2
  refine ⟨l.set k z, ?_, ?_, rfl⟩
  · unfold sx
    simp only [Int.toNat_natCast] at h2 ⊢
    rw [if_pos ⟨by omega, by omega⟩]
  · rw [List.map_set]; simpa using h3.symm
def Marked (y : List (ApiTrain × Bool)) (kT : Nat) : Prop := ∀ (i : Nat) (z : ApiTrain × Bool), y[i]? = some z → (z.2 = true ↔ i = kT)
structure OwnF (R : List HP) (s : Sg) (kT k : Nat) (y : List (ApiTrain × Bool)) (hd : Value) (F : List HP) : Prop where
  mark : ∀ (i : Nat) (z : ApiTrain × Bool), y[i]? = some z → (z.2 = true ↔ i = kT ∧ kT < k)
  fr : (k ≤ kT ∧ F = R) ∨ (kT < k ∧ ∃ aS cS csS st, hd = .slice aS (List.length (α := ApiStop) st) cS ∧ F = vecC 41 4 aS cS st.length csS :: R ∧ Ev 4 RApiStop s csS st ∧ ∃ z, y[kT]? = some z ∧ z.1.Stops = st)
theorem OwnF.start {R : List HP} {s : Sg} {kT : Nat} {l : List ApiTrain} {hd : Value} : OwnF R s kT 0 (l.map (fun x => (x, false))) hd R := by
  refine ⟨fun i z hz => ?_, .inl ⟨Nat.zero_le _, rfl⟩⟩
  rw [List.getElem?_map] at hz
  cases hx : l[i]? with
  | none => rw [hx] at hz; cases hz
  | some x => rw [hx] at hz; cases hz; simp
theorem OwnF.flat {R F : List HP} {s : Sg} {kT k : Nat} {y : List (ApiTrain × Bool)} {hd : Value} (q : OwnF R s kT k y hd F) {i : Nat} {z : ApiTrain × Bool} (hi : k ≤ i) (hz : y[((i : Nat) : Int).toNat]? = some z) : z.2 = false := by
  rw [Int.toNat_natCast] at hz
  cases hb : z.2 with
  | false => rfl
  | true => have := (q.mark i z hz).1 hb; omega
theorem OwnF.flat0 {R F : List HP} {s : Sg} {kT k : Nat} {y : List (ApiTrain × Bool)} {hd : Value} (q : OwnF R s kT k y hd F) {i : Nat} {z : ApiTrain × Bool} (hi : k ≤ kT) (hz : y[i]? = some z) : z.2 = false := by
  cases hb : z.2 with
  | false => rfl
  | true => have := (q.mark i z hz).1 hb; omega
theorem OwnF.next {R F : List HP} {s t : Sg} {kT k : Nat} {y y2 : List (ApiTrain × Bool)} {hd : Value} {x : ApiTrain} (q : OwnF R s kT k y hd F) (hk : ¬ k = kT) (hle : s.Le t) (hy : y2 = y.set k (x, false)) : OwnF R t kT (k + 1) y2 hd F := by
  subst hy
  refine ⟨fun i z hz => ?_, ?_⟩
  · by_cases hi : k = i
    · subst hi
      rw [List.getElem?_set_self'] at hz
      cases hy : y[k]? with
      | none => rw [hy] at hz; cases hz
      | some z0 => rw [hy] at hz; cases hz; simp; omega
    · rw [List.getElem?_set_ne hi] at hz
      rw [q.mark i z hz]; omega
  · rcases q.fr with ⟨h1, h2⟩ | ⟨h1, aS, cS, csS, st, h2, h3, h4, z, h5, h6⟩
    · exact .inl ⟨by omega, h2⟩
    · exact .inr ⟨by omega, aS, cS, csS, st, h2, h3, h4.mono RApiStop.mono hle, z, by rw [List.getElem?_set_ne hk]; exact h5, h6⟩
theorem OwnF.take {R F : List HP} {s t : Sg} {kT k : Nat} {y y2 : List (ApiTrain × Bool)} {hd : Value} {x : ApiTrain} {aS : Option Addr} {cS : Nat} {csS : List Value} (q : OwnF R s kT k y hd F) (hk : k = kT) (_hle : s.Le t) (hl : k < y.length) (hy : y2 = y.set k (x, true))
    (hE : Ev 4 RApiStop t csS x.Stops) : OwnF R t kT (k + 1) y2 (.slice aS x.Stops.length cS) (vecC 41 4 aS cS x.Stops.length csS :: F) := by
  subst hy; subst hk
  refine ⟨fun i z hz => ?_, ?_⟩
  · by_cases hi : k = i
    · subst hi
      rw [List.getElem?_set_self hl] at hz
      cases hz; simp
    · rw [List.getElem?_set_ne hi] at hz
      rw [q.mark i z hz]; omega
  · rcases q.fr with ⟨h1, h2⟩ | ⟨h1, _⟩
    · exact .inr ⟨by omega, aS, cS, csS, _, rfl, by rw [h2], hE, _, List.getElem?_set_self hl, rfl⟩
    · omega
theorem OwnF.done {R F : List HP} {s : Sg} {kT k : Nat} {y : List (ApiTrain × Bool)} {hd : Value} (q : OwnF R s kT k y hd F) (hk : kT < k) :
    ∃ aS cS csS st, hd = .slice aS (List.length (α := ApiStop) st) cS ∧ F = vecC 41 4 aS cS st.length csS :: R ∧ Ev 4 RApiStop s csS st ∧ ∃ z, y[kT]? = some z ∧ z.1.Stops = st := by
  rcases q.fr with ⟨h1, _⟩ | ⟨_, h2⟩
  · omega
  · exact h2
theorem OwnF.marked {R F : List HP} {s : Sg} {kT k : Nat} {y : List (ApiTrain × Bool)} {hd : Value} (q : OwnF R s kT k y hd F) (hk : kT < k) : Marked y kT := fun i z hz => (q.mark i z hz).trans ⟨fun h => h.1, fun h => ⟨h, hk⟩⟩
theorem perm4 (r a b c d : HP) (R : List HP) : (r :: a :: b :: c :: d :: R).Perm (a :: b :: c :: d :: r :: R) :=
  (List.Perm.swap a r _).trans (((List.Perm.swap b r _).trans (((List.Perm.swap c r _).trans ((List.Perm.swap d r _).cons c)).cons b)).cons a)
theorem RHole.hole {hd : Value} {s : Sg} {cs : List Value} {y : List (ApiTrain × Bool)} {k : Nat} {z : ApiTrain × Bool} (hm : Marked y k) (hz : y[k]? = some z) (h : RHole hd s cs z) :
    ∃ a1 c1, cs = [.int .i64 z.1.No, .int .i64 z.1.Stock, hd, .slice a1 z.1.Legs.length c1] ∧ Sl 1 (RL 1 (RI .i64)) s a1 c1 z.1.Legs := by
  rcases h with ⟨h1, _⟩ | ⟨_, h2⟩
  · rw [(hm k z hz).2 rfl] at h1; cases h1
  · exact h2
theorem own_stops {y : List (ApiTrain × Bool)} {l : List ApiTrain} {k : Nat} {z : ApiTrain × Bool} {x : ApiTrain} {st : List ApiStop} (hm : y.map Prod.fst = l) (hz : y[k]? = some z) (hs : z.1.Stops = st) (hx : l[k]? = some x) : st = x.Stops := by
  subst hm
  rw [List.getElem?_map, hz] at hx
  cases hx; exact hs.symm
theorem RHole.fill {y : List (ApiTrain × Bool)} {tr : List ApiTrain} {k : Nat} {z : ApiTrain × Bool} {aS : Option Addr} {cS n : Nat} {t : Sg} {a0 : Option Addr} {c0 : Nat} {u : List ApiStop} (hm : Marked y k) (hz : y[k]? = some z) (hmap : y.map Prod.fst = tr)
    (h : Sl 4 (RHole (.slice aS n cS)) t a0 c0 y) (hst : Sl 4 RApiStop t aS cS u) (hn : u.length = n) : Sl 4 RApiTrain t a0 c0 (putStops tr k u) ∧ y.length = (putStops tr k u).length := by
  subst hmap; subst hn
  have hlen : y.length = (putStops (y.map Prod.fst) k u).length := by
    unfold putStops; rw [List.getElem?_map, hz]; simp
  refine ⟨Sl.conv hlen (fun i p q cs hp hq hR => ?_) h, hlen⟩
  have hq2 : q = if i = k then { z.1 with Stops := u } else p.1 := by
    unfold putStops at hq; rw [List.getElem?_map, hz] at hq
    simp only [Option.map_some] at hq
    by_cases hi : i = k
    · subst hi
      have hl : i < (y.map Prod.fst).length := by rw [List.length_map]; exact (List.getElem?_eq_some_iff.1 hz).1
      rw [List.getElem?_set_self hl] at hq
      rw [if_pos rfl]; exact (Option.some.inj hq).symm
    · rw [List.getElem?_set_ne (fun h => hi h.symm), List.getElem?_map, hp] at hq
      rw [if_neg hi]; exact (Option.some.inj hq).symm
  by_cases hi : i = k
  · subst hi
    obtain rfl : z = p := by rw [hz] at hp; exact Option.some.inj hp
    rw [if_pos rfl] at hq2; subst hq2
    obtain ⟨a1, c1, rfl, h1⟩ := RHole.hole hm hz hR
    exact ⟨aS, cS, a1, c1, rfl, hst, h1⟩
  · rw [if_neg hi] at hq2; subst hq2
    exact RHole.plain (by cases hb : p.2 with | false => rfl | true => exact absurd ((hm i p hp).1 hb) hi) hR
set_option maxHeartbeats 8000000 in
theorem Plancopied_okX  {w : World} {s : Sg} {R : List HP} {x0 : ApiTrain} {a0_0 : Option Addr} {c0_0 : Nat} {a0_1 : Option Addr} {c0_1 : Nat} (hS : St w s (R)) (h0_0 : Sl 4 RApiStop s a0_0 c0_0 x0.Stops) (h0_1 : Sl 1 (RL 1 (RI .i64)) s a0_1 c0_1 x0.Legs) {r : ApiTrain} (hr : Plancopied x0 = some r) :
    Calls Tryd.prog 22 [.agg (List.toArray [.int .i64 x0.No, .int .i64 x0.Stock, .slice a0_0 x0.Stops.length c0_0, .slice a0_1 x0.Legs.length c0_1])].toArray w (fun e w => ∃ (aS : Option Addr) (cS : Nat) (csS : List Value) (a1 : Option Addr) (c1 : Nat) (t : Sg), e = .returned (.agg [.int .i64 r.No, .int .i64 r.Stock, .slice aS r.Stops.length cS, .slice a1 r.Legs.length c1].toArray) ∧ s.Le t ∧ Ev 4 RApiStop t csS r.Stops ∧ Sl 1 (RL 1 (RI .i64)) t a1 c1 r.Legs ∧ St w t (vecC 41 4 aS cS r.Stops.length csS :: R)) := by
  refine enter Tryd.func22 rfl rfl rfl fun a hE => ?_
  rw [Plancopied] at hr
  refine W.seq ?_
  refine W.region ?_
  refine WL.box hE hS (runs_plain rfl) rfl rfl rfl ?_; clear hE hS a w; intro b51 a w hE hS
  refine WL.alloc hE hS (runs_plain rfl) zr37 rfl ?_; clear hE hS a w; intro b52 a w hE hS
  refine WL.nil ?_
  refine W.seq ?_
  refine W.gen fun K53 hK53 => ?_
  refine rE hS [] [1] [0, 1, 2, 3, 4, 5, 6, 8] [0, 1, 2, 3, 4, 5, 6, 7, 8, 9] mixed ?_
  replace hS := hS.drew
  refine Rg.takeP (i := 0) hE rfl (by kernel_rfl) (runs_plain rfl) (Gives.fld hE rfl fl37_2) rfl (tw_sel (fun _ => hS) (fun _ => (hS.dropAt 1))) ?_; clear hE a; intro a hE
  refine Rg.take (i := 1) true rfl hE rfl (by kernel_rfl) (runs_plain rfl) (Gives.loadB hE 1 rfl rfl rfl ty35) rfl (tw_sel (fun _ => hS) (fun _ => (hS.dropAt 1))) ?_; clear hE a; intro a hE
  refine Rg.takeP (i := 3) hE rfl (by kernel_rfl) (runs_plain rfl) (Gives.fld hE rfl fl37_3) rfl (tw_sel (fun _ => hS) (fun _ => (hS.dropAt 1))) ?_; clear hE a; intro a hE
  refine Rg.take (i := 4) true rfl hE rfl (by kernel_rfl) (runs_plain rfl) (Gives.loadB hE 1 rfl rfl rfl ty23) rfl (tw_sel (fun _ => hS) (fun _ => (hS.dropAt 1))) ?_; clear hE a; intro a hE
  refine Rg.one (i := 2) true true rfl (by kernel_rfl) (by kernel_rfl) (by kernel_rfl) ?_
  obtain ⟨q54, hq55, hr⟩ := bindS hr
  have hc_ := SlicesCloneLapiStop_ok hS h0_0 hq55
  refine WL.fnq hE (hc_) (runs_plain rfl) bd13 rfl rfl rfl ?_
  clear hE hS hc_; rintro e w ⟨a56, c57, n58, cs59, rfl, h60, rfl, hS⟩; refine ⟨_, rfl, ?_⟩; clear a; intro a hE
  refine WL.nil ?_
  refine ⟨⟨fun _ => (hS.tail), fun _ => ((hS.tail).dropAt 1)⟩, ?_⟩
  refine Rg.takeP (i := 6) hE rfl (by kernel_rfl) (runs_plain rfl) (Gives.fld hE rfl fl37_2) rfl (tw_sel (fun _ => (hS.tail)) (fun _ => ((hS.tail).dropAt 1))) ?_; clear hE a; intro a hE
  refine Rg.one (i := 5) true true rfl (by kernel_rfl) (by kernel_rfl) (by kernel_rfl) ?_
  obtain ⟨q62, hq63, hr⟩ := bindS hr
  have hc_ := SlicesCloneLLint_ok hS h0_1 hq63
  refine WL.fnq hE (hc_) (runs_plain rfl) bd21 rfl rfl rfl ?_
  clear hE hS hc_; rintro e w ⟨a64, c65, n66, cs67, rfl, h68, rfl, hS⟩; refine ⟨_, rfl, ?_⟩; clear a; intro a hE
  refine WL.nil ?_
  refine ⟨⟨fun _ => ((hS.tail).tail), fun _ => (((hS.tail).tail).dropAt 1)⟩, ?_⟩
  refine Rg.one (i := 7) false true rfl (by kernel_rfl) (by kernel_rfl) (by kernel_rfl) ?_
  refine WL.storeI hE hS 3 rfl [.int .i64 x0.No, .int .i64 x0.Stock, .slice a56 q54.length c57, .slice a0_1 x0.Legs.length c0_1] (runs_plain rfl) rfl rfl rfl ty35 rfl rfl rfl rfl ?_; clear hE hS a w; intro a w hE hS
  refine WL.nil ?_
  refine ⟨⟨fun h => absurd h (by decide), fun _ => (((hS.tail).tail).dropAt 1)⟩, ?_⟩
  refine Rg.takeP (i := 8) hE rfl (by kernel_rfl) (runs_plain rfl) (Gives.fld hE rfl fl37_3) rfl (tw_sel (fun h => absurd h (by decide)) (fun _ => (((hS.tail).tail).dropAt 1))) ?_; clear hE a; intro a hE
  refine Rg.one (i := 9) false true rfl (by kernel_rfl) (by kernel_rfl) (by kernel_rfl) ?_
  refine WL.storeI hE hS 3 rfl [.int .i64 x0.No, .int .i64 x0.Stock, .slice a56 q54.length c57, .slice a64 q62.length c65] (runs_plain rfl) rfl rfl rfl ty23 rfl rfl rfl rfl ?_; clear hE hS a w; intro a w hE hS
  refine WL.nil ?_
  refine ⟨⟨fun h => absurd h (by decide), fun _ => (((hS.tail).tail).dropAt 1)⟩, ?_⟩
  refine Rg.done (by kernel_rfl) ?_
  subst hK53
  refine W.seq ?_
  refine W.seq ?_
  refine W.region ?_
  refine WL.vS hS hE (runs_plain rfl) (Gives.fld hE rfl fl37_3) rfl ?_; clear hE a; intro a hE
  refine WL.vS hS hE (runs_plain rfl) (Gives.loadB hE 3 rfl rfl rfl ty23) rfl ?_; clear hE a; intro a hE
  refine WL.vS hS hE (runs_plain rfl) (Gives.len hE rfl sl23) rfl ?_; clear hE a; intro a hE
  refine WL.vS hS hE (runs_plain rfl) (Gives.p hE rfl) rfl ?_; clear hE a; intro a hE
  refine WL.nil ?_
  have hb81 : q62.length ≤ 9223372036854775807 := by have := hS.vecCap 0 rfl; unfold maxLen at this; omega
  obtain ⟨q71, hq70, hr⟩ := bindS hr
  refine W.cut (fun a w => ∃ (q82 : List (List Int)), ∃ (cs86 : List Value), ∃ (s79 : Sg), s.Le s79 ∧ q82 = q71 ∧ Ev 1 (RL 1 (RI .i64)) s79 cs86 q82 ∧ q82.length = q62.length ∧ Rep a 30 [(1, .pointer (some ⟨b51, 0, none⟩)), (2, .pointer (some ⟨b52, 0, none⟩))] ∧ St w s79 (vecC 47 1 a64 c65 q62.length cs86 :: vecC 41 4 a56 c57 q54.length cs59 :: pt b52 (.cells #[.int .i64 0, .int .i64 0, .slice none 0 0, .slice none 0 0] 37 (0, 0)) :: pt b51 (.cells #[.int .i64 x0.No, .int .i64 x0.Stock, .slice a56 q54.length c57, .slice a64 q62.length c65] 37 (0, 0)) :: R)) ?_ ?_
  · refine W.block ?_
    refine W.loop (fun m a w => ∃ (rest74 : Nat) (k72 : Nat), ∃ (q82 : List (List Int)), ∃ (cs86 : List Value), ∃ (s79 : Sg), rest74 = m ∧ k72 + rest74 = q62.length ∧ s.Le s79 ∧ Plancopied.loop1 rest74 k72 q82 = some q71 ∧ Ev 1 (RL 1 (RI .i64)) s79 cs86 q82 ∧ q82.length = q62.length ∧ Rep a 30 [(1, .pointer (some ⟨b51, 0, none⟩)), (2, .pointer (some ⟨b52, 0, none⟩)), (14, .int .i64 ((q62.length : Nat) : Int)), (15, .int .i64 ((k72 : Nat) : Int))] ∧ St w s79 (vecC 47 1 a64 c65 q62.length cs86 :: vecC 41 4 a56 c57 q54.length cs59 :: pt b52 (.cells #[.int .i64 0, .int .i64 0, .slice none 0 0, .slice none 0 0] 37 (0, 0)) :: pt b51 (.cells #[.int .i64 x0.No, .int .i64 x0.Stock, .slice a56 q54.length c57, .slice a64 q62.length c65] 37 (0, 0)) :: R)) (m := q62.length) ⟨q62.length, 0, q62, cs67, s, rfl, by omega, (Sg.Le.refl _), hq70, h68, rfl, hE.pick _ ⟨rfl, rfl, rfl, rfl, trivial⟩, hS⟩ ?_
    clear hE hS a w hq70; rintro m78 a w ⟨rest74, k72, q82, cs86, s79, rfl, hd75, hle80, hq70, h85, hn87, hE, hS⟩
    refine W.gen fun K88 hK88 => ?_
    replace h0_0 := Sl.mono RApiStop.mono hle80 h0_0
    replace h0_1 := Sl.mono (RL.mono RI.mono) hle80 h0_1
    replace h68 := Ev.mono (RL.mono RI.mono) hle80 h68
    replace h60 := Ev.mono RApiStop.mono hle80 h60
    rcases rest74 with _ | rest74
    · skip
      refine W.seq ?_
      refine W.region ?_
      refine WL.vS hS hE (runs_plain rfl) (Gives.p hE rfl) rfl ?_; clear hE a; intro a hE
      refine WL.nil ?_
      refine W.seq ?_
      refine W.condF hE rfl (decide_eq_false (by omega)) ?_
      subst hK88
      refine W.exit rfl ?_
      exact ⟨q82, cs86, s79, hle80, Option.some.inj hq70, h85, hn87, hE.pick _ ⟨rfl, rfl, trivial⟩, hS⟩
    · have hlt76 : k72 < q62.length := by omega
      rw [Plancopied.loop1] at hq70
      refine W.seq ?_
      refine W.region ?_
      refine WL.vS hS hE (runs_plain rfl) (Gives.p hE rfl) rfl ?_; clear hE a; intro a hE
      refine WL.nil ?_
      refine W.seq ?_
      refine W.condT hE rfl (decide_eq_true (by omega)) ?_
      refine W.skip ?_
      refine W.seq ?_
      refine W.block ?_
      refine W.seq ?_
      refine W.region ?_
      refine WL.vS hS hE (runs_plain rfl) (Gives.p hE rfl) rfl ?_; clear hE a; intro a hE
      refine WL.vS hS hE (runs_plain rfl) (Gives.p hE rfl) rfl ?_; clear hE a; intro a hE
      refine WL.nil ?_
      refine W.gen fun K89 hK89 => ?_
      refine rE hS [] [0] [0, 1, 2, 3, 4, 5, 6, 7, 8, 9] [0, 1, 2, 3, 4, 5, 6, 7, 8, 9, 10] mixed ?_
      replace hS := hS.drew
      refine Rg.takeP (i := 0) hE rfl (by kernel_rfl) (runs_plain rfl) (Gives.fld hE rfl fl37_3) rfl (tw_sel (fun _ => hS) (fun _ => (hS.tail))) ?_; clear hE a; intro a hE
      refine Rg.take (i := 1) true rfl hE rfl (by kernel_rfl) (runs_plain rfl) (Gives.loadB hE 3 rfl rfl rfl ty23) rfl (tw_sel (fun _ => hS) (fun _ => (hS.tail))) ?_; clear hE a; intro a hE
      refine Rg.takeP (i := 2) hE rfl (by kernel_rfl) (runs_plain rfl) (Gives.p hE rfl) rfl (tw_sel (fun _ => hS) (fun _ => (hS.tail))) ?_; clear hE a; intro a hE
      refine Rg.takeP (i := 3) hE rfl (by kernel_rfl) (runs_plain rfl) (Gives.fld hE rfl fl37_3) rfl (tw_sel (fun _ => hS) (fun _ => (hS.tail))) ?_; clear hE a; intro a hE
      refine Rg.take (i := 4) true rfl hE rfl (by kernel_rfl) (runs_plain rfl) (Gives.loadB hE 3 rfl rfl rfl ty23) rfl (tw_sel (fun _ => hS) (fun _ => (hS.tail))) ?_; clear hE a; intro a hE
      refine Rg.takeP (i := 5) hE rfl (by kernel_rfl) (runs_plain rfl) (Gives.p hE rfl) rfl (tw_sel (fun _ => hS) (fun _ => (hS.tail))) ?_; clear hE a; intro a hE
      obtain ⟨x90, hx91, hq70⟩ := bindS hq70
      obtain ⟨hi92, hlt93, hy94⟩ := gx_some hx91
      obtain ⟨vs95, hl96, hR97, hd98, hget99⟩ := h85.at hy94
      obtain ⟨a100, c101, rfl, h102⟩ := hR97
      refine Rg.takeP (i := 6) hE rfl (by kernel_rfl) (runs_plain rfl) (Gives.idx hE ((((k72 : Nat) : Int)).toNat) rfl rfl sl23 hi92 (by have := hn87; omega) (hS.vecAok 0 rfl (by have := hn87; omega : (((k72 : Nat) : Int)).toNat < q62.length))) rfl (tw_sel (fun _ => hS) (fun _ => (hS.tail))) ?_; clear hE a; intro a hE
      refine Rg.take (i := 7) true rfl hE rfl (by kernel_rfl) (runs_plain rfl) (Gives.load1 hE rfl (fun w h => St.vecSees h 0 rfl ((((k72 : Nat) : Int)).toNat * 1) _ hget99) ty47) rfl (tw_sel (fun _ => hS) (fun _ => (hS.tail))) ?_; clear hE a; intro a hE
      refine Rg.one (i := 8) true true rfl (by kernel_rfl) (by kernel_rfl) (by kernel_rfl) ?_
      obtain ⟨q103, hq104, hq70⟩ := bindS hq70
      have hc_ := SlicesCloneLint_ok hS h102 hq104
      refine WL.fnq hE (hc_) (runs_plain rfl) bd23 rfl rfl rfl ?_
      clear hE hS hc_; rintro e w ⟨a105, c106, n107, cs108, rfl, h109, rfl, hS⟩; refine ⟨_, rfl, ?_⟩; clear a; intro a hE
      refine WL.nil ?_
      refine ⟨⟨fun _ => (hS.tail), fun _ => ((hS.tail).tail)⟩, ?_⟩
      obtain ⟨_, hx112, hq70⟩ := bindS hq70
      obtain ⟨h113, h114⟩ := ix_some hx112
      refine Rg.takeP (i := 9) hE rfl (by kernel_rfl) (runs_plain rfl) (Gives.idx hE ((((k72 : Nat) : Int)).toNat) rfl rfl sl23 h113 (by have := hn87; omega) (hS.vecAok 1 rfl (by have := hn87; omega : (((k72 : Nat) : Int)).toNat < q62.length))) rfl (tw_sel (fun _ => (hS.tail)) (fun _ => ((hS.tail).tail))) ?_; clear hE a; intro a hE
      refine Rg.one (i := 10) false true rfl (by kernel_rfl) (by kernel_rfl) (by kernel_rfl) ?_
      have hF := hS.fixD RI.mono 0 rfl h109 rfl; clear hS; obtain ⟨s116, hle117, hS, h118⟩ := hF
      replace h102 := Sl.mono RI.mono hle117 h102
      replace h85 := Ev.mono (RL.mono RI.mono) hle117 h85
      replace h60 := Ev.mono RApiStop.mono hle117 h60
      obtain ⟨x119, hx120, hq70⟩ := bindS hq70
      refine WL.setD hE hS 0 rfl (runs_plain rfl) rfl rfl (vs := [.slice a105 q103.length c106]) rfl ty47 rfl rfl rfl h85 hn87 (sx_some hx120).1 hx120 ⟨_, _, rfl, h118⟩ rfl ?_; clear hE hS a w; intro cs121 a w h122 hn123 hE hS
      refine WL.nil ?_
      refine ⟨⟨fun h => absurd h (by decide), fun _ => (St.down hle117 (hS.tail))⟩, ?_⟩
      refine Rg.done (by kernel_rfl) ?_
      subst hK89
      refine W.region ?_
      refine WL.vS hS hE (runs_plain rfl) (Gives.inc hE rfl (by omega)) rfl ?_; clear hE a; intro a hE
      refine WL.vS hS hE (runs_plain rfl) (Gives.p hE rfl) rfl ?_; clear hE a; intro a hE
      refine WL.nil ?_
      subst hK88
      exact ⟨rest74, Nat.lt_succ_self _, rest74, k72 + 1, x119, cs121, s116, rfl, (by omega), (Sg.Le.trans hle80 hle117), hq70, h122, hn123, hE.pick _ ⟨rfl, rfl, rfl, rfl, trivial⟩, hS⟩
  · clear hE hS a w; rintro a w ⟨q82, cs86, s79, hle80, rfl, h85, hn87, hE, hS⟩
    replace h0_0 := Sl.mono RApiStop.mono hle80 h0_0
    replace h0_1 := Sl.mono (RL.mono RI.mono) hle80 h0_1
    replace h68 := Ev.mono (RL.mono RI.mono) hle80 h68
    replace h60 := Ev.mono RApiStop.mono hle80 h60
    refine W.seq ?_
    refine W.region ?_
    refine WL.vS hS hE (runs_plain rfl) (Gives.loadBA hE 3 rfl rfl ty37) rfl ?_; clear hE a; intro a hE
    refine WL.storeI hE hS 2 rfl [.int .i64 x0.No, .int .i64 x0.Stock, .slice a56 q54.length c57, .slice a64 q62.length c65] (runs_plain rfl) rfl rfl rfl ty37 rfl rfl rfl rfl ?_; clear hE hS a w; intro a w hE hS
    refine WL.nil ?_
    refine W.ret ?_
    have hF := hS.fixD (RL.mono RI.mono) 0 rfl h85 hn87; clear hS; obtain ⟨s127, hle128, hS, h129⟩ := hF
    (try rw [← hn87] at hE)
    (try rw [← hn87] at hS)
    replace h60 := Ev.mono RApiStop.mono hle128 h60
    refine finG (fn := Tryd.f22) (rs := [.cell 2 37]) (vs := [_]) hE rfl ⟨⟨_, rfl, .inl ⟨_, rfl, hS.seesAt 1 rfl, ty37⟩⟩, trivial⟩ ?_
    obtain rfl := Option.some.inj hr
    replace hS := hS.dropAt 1
    replace hS := hS.dropAt 1
    exact ⟨_, _, _, _, _, s127, rfl, Sg.Le.trans hle80 hle128, h60, h129, hS⟩

set_option maxHeartbeats 8000000 in
theorem Planown_okX  {w : World} {s : Sg} {R : List HP} {x0 : ApiDay} {a0_0 : Option Addr} {c0_0 : Nat} {a0_1 : Option Addr} {c0_1 : Nat} (hS : St w s (R)) (h0_0 : Sl 4 RApiTrain s a0_0 c0_0 x0.Trains) (h0_1 : Sl 1 (RL 1 (RI .i64)) s a0_1 c0_1 x0.Turns) {r : ApiDay} (hr : Planown x0 = some r) {kT : Nat} (hkT : kT < r.Trains.length) :
    Calls Tryd.prog 10 [.agg (List.toArray [.slice a0_0 x0.Trains.length c0_0, .slice a0_1 x0.Turns.length c0_1])].toArray w (fun e w => ∃ (aS : Option Addr) (cS : Nat) (csS : List Value) (st : List ApiStop) (a0 : Option Addr) (c0 : Nat) (a1 : Option Addr) (c1 : Nat) (y : List (ApiTrain × Bool)) (t : Sg), e = .returned (.agg [.slice a0 y.length c0, .slice a1 r.Turns.length c1].toArray) ∧ s.Le t ∧ y.map Prod.fst = r.Trains ∧ Marked y kT ∧ (∃ z, y[kT]? = some z ∧ z.1.Stops = st) ∧ Sl 4 (RHole (.slice aS st.length cS)) t a0 c0 y ∧ Sl 1 (RL 1 (RI .i64)) t a1 c1 r.Turns ∧ Ev 4 RApiStop t csS st ∧ St w t (vecC 41 4 aS cS st.length csS :: R)) := by
  refine enter Tryd.func10 rfl rfl rfl fun a hE => ?_
  rw [Planown] at hr
  refine W.seq ?_
  refine W.region ?_
  refine WL.box hE hS (runs_plain rfl) rfl rfl rfl ?_; clear hE hS a w; intro b51 a w hE hS
  refine WL.alloc hE hS (runs_plain rfl) zr25 rfl ?_; clear hE hS a w; intro b52 a w hE hS
  refine WL.nil ?_
  refine W.seq ?_
  refine W.gen fun K53 hK53 => ?_
  refine rE hS [] [1] [0, 1, 2, 3, 4, 5, 6, 8] [0, 1, 2, 3, 4, 5, 6, 7, 8, 9] mixed ?_
  replace hS := hS.drew
  refine Rg.takeP (i := 0) hE rfl (by kernel_rfl) (runs_plain rfl) (Gives.fld hE rfl fl25_0) rfl (tw_sel (fun _ => hS) (fun _ => (hS.dropAt 1))) ?_; clear hE a; intro a hE
  refine Rg.take (i := 1) true rfl hE rfl (by kernel_rfl) (runs_plain rfl) (Gives.loadB hE 1 rfl rfl rfl ty22) rfl (tw_sel (fun _ => hS) (fun _ => (hS.dropAt 1))) ?_; clear hE a; intro a hE
  refine Rg.takeP (i := 3) hE rfl (by kernel_rfl) (runs_plain rfl) (Gives.fld hE rfl fl25_1) rfl (tw_sel (fun _ => hS) (fun _ => (hS.dropAt 1))) ?_; clear hE a; intro a hE
  refine Rg.take (i := 4) true rfl hE rfl (by kernel_rfl) (runs_plain rfl) (Gives.loadB hE 1 rfl rfl rfl ty23) rfl (tw_sel (fun _ => hS) (fun _ => (hS.dropAt 1))) ?_; clear hE a; intro a hE
  refine Rg.one (i := 2) true true rfl (by kernel_rfl) (by kernel_rfl) (by kernel_rfl) ?_
  obtain ⟨q54, hq55, hr⟩ := bindS hr
  have hc_ := SlicesCloneLapiTrain_ok hS h0_0 hq55
  refine WL.fnq hE (hc_) (runs_plain rfl) bd15 rfl rfl rfl ?_
  clear hE hS hc_; rintro e w ⟨a56, c57, n58, cs59, rfl, h60, rfl, hS⟩; refine ⟨_, rfl, ?_⟩; clear a; intro a hE
  refine WL.nil ?_
  refine ⟨⟨fun _ => (hS.tail), fun _ => ((hS.tail).dropAt 1)⟩, ?_⟩
  refine Rg.takeP (i := 6) hE rfl (by kernel_rfl) (runs_plain rfl) (Gives.fld hE rfl fl25_0) rfl (tw_sel (fun _ => (hS.tail)) (fun _ => ((hS.tail).dropAt 1))) ?_; clear hE a; intro a hE
  refine Rg.one (i := 5) true true rfl (by kernel_rfl) (by kernel_rfl) (by kernel_rfl) ?_
  obtain ⟨q62, hq63, hr⟩ := bindS hr
  have hc_ := SlicesCloneLLint_ok hS h0_1 hq63
  refine WL.fnq hE (hc_) (runs_plain rfl) bd21 rfl rfl rfl ?_
  clear hE hS hc_; rintro e w ⟨a64, c65, n66, cs67, rfl, h68, rfl, hS⟩; refine ⟨_, rfl, ?_⟩; clear a; intro a hE
  refine WL.nil ?_
  refine ⟨⟨fun _ => ((hS.tail).tail), fun _ => (((hS.tail).tail).dropAt 1)⟩, ?_⟩
  refine Rg.one (i := 7) false true rfl (by kernel_rfl) (by kernel_rfl) (by kernel_rfl) ?_
  refine WL.storeI hE hS 3 rfl [.slice a56 q54.length c57, .slice a0_1 x0.Turns.length c0_1] (runs_plain rfl) rfl rfl rfl ty22 rfl rfl rfl rfl ?_; clear hE hS a w; intro a w hE hS
  refine WL.nil ?_
  refine ⟨⟨fun h => absurd h (by decide), fun _ => (((hS.tail).tail).dropAt 1)⟩, ?_⟩
  refine Rg.takeP (i := 8) hE rfl (by kernel_rfl) (runs_plain rfl) (Gives.fld hE rfl fl25_1) rfl (tw_sel (fun h => absurd h (by decide)) (fun _ => (((hS.tail).tail).dropAt 1))) ?_; clear hE a; intro a hE
  refine Rg.one (i := 9) false true rfl (by kernel_rfl) (by kernel_rfl) (by kernel_rfl) ?_
  refine WL.storeI hE hS 3 rfl [.slice a56 q54.length c57, .slice a64 q62.length c65] (runs_plain rfl) rfl rfl rfl ty23 rfl rfl rfl rfl ?_; clear hE hS a w; intro a w hE hS
  refine WL.nil ?_
  refine ⟨⟨fun h => absurd h (by decide), fun _ => (((hS.tail).tail).dropAt 1)⟩, ?_⟩
  refine Rg.done (by kernel_rfl) ?_
  subst hK53
  refine W.seq ?_
  refine W.seq ?_
  refine W.region ?_
  refine WL.vS hS hE (runs_plain rfl) (Gives.fld hE rfl fl25_0) rfl ?_; clear hE a; intro a hE
  refine WL.vS hS hE (runs_plain rfl) (Gives.loadB hE 3 rfl rfl rfl ty22) rfl ?_; clear hE a; intro a hE
  refine WL.vS hS hE (runs_plain rfl) (Gives.len hE rfl sl22) rfl ?_; clear hE a; intro a hE
  refine WL.vS hS hE (runs_plain rfl) (Gives.p hE rfl) rfl ?_; clear hE a; intro a hE
  refine WL.nil ?_
  have hb81 : q54.length ≤ 9223372036854775807 := by have := hS.vecCap 1 rfl; unfold maxLen at this; omega
  obtain ⟨q71, hq70, hr⟩ := bindS hr
  refine W.cut (fun a w => ∃ (q82 : List (ApiTrain × Bool)), ∃ (cs86 : List Value), ∃ (s79 : Sg), ∃ (hd : Value) (F : List HP), s.Le s79 ∧ q82.map Prod.fst = q71 ∧ OwnF R s79 kT q54.length q82 hd F ∧ Ev 4 (RHole hd) s79 cs86 q82 ∧ q82.length = q54.length ∧ Rep a 48 [(1, .pointer (some ⟨b51, 0, none⟩)), (2, .pointer (some ⟨b52, 0, none⟩))] ∧ St w s79 (vecC 47 1 a64 c65 q62.length cs67 :: vecC 37 4 a56 c57 q54.length cs86 :: pt b52 (.cells #[.slice none 0 0, .slice none 0 0] 25 (0, 0)) :: pt b51 (.cells #[.slice a56 q54.length c57, .slice a64 q62.length c65] 25 (0, 0)) :: F)) ?_ ?_
  · refine W.block ?_
    refine W.loop (fun m a w => ∃ (rest74 : Nat) (k72 : Nat), ∃ (q82 : List (ApiTrain × Bool)), ∃ (cs86 : List Value), ∃ (s79 : Sg), ∃ (hd : Value) (F : List HP), rest74 = m ∧ k72 + rest74 = q54.length ∧ s.Le s79 ∧ Planown.loop1 rest74 k72 (q82.map Prod.fst) = some q71 ∧ OwnF R s79 kT k72 q82 hd F ∧ Ev 4 (RHole hd) s79 cs86 q82 ∧ q82.length = q54.length ∧ Rep a 48 [(1, .pointer (some ⟨b51, 0, none⟩)), (2, .pointer (some ⟨b52, 0, none⟩)), (15, .int .i64 ((q54.length : Nat) : Int)), (16, .int .i64 ((k72 : Nat) : Int))] ∧ St w s79 (vecC 47 1 a64 c65 q62.length cs67 :: vecC 37 4 a56 c57 q54.length cs86 :: pt b52 (.cells #[.slice none 0 0, .slice none 0 0] 25 (0, 0)) :: pt b51 (.cells #[.slice a56 q54.length c57, .slice a64 q62.length c65] 25 (0, 0)) :: F)) (m := q54.length) ⟨q54.length, 0, q54.map (·, false), cs59, s, .int .i64 0, R, rfl, by omega, (Sg.Le.refl _), by rw [fst_mk]; exact hq70, OwnF.start, Ev.hole h60, by simp, hE.pick _ ⟨rfl, rfl, rfl, rfl, trivial⟩, hS⟩ ?_
    clear hE hS a w hq70; rintro m78 a w ⟨rest74, k72, q82, cs86, s79, hdv, F, rfl, hd75, hle80, hq70, hOF, h85, hn87, hE, hS⟩
    refine W.gen fun K88 hK88 => ?_
    replace h0_0 := Sl.mono RApiTrain.mono hle80 h0_0
    replace h0_1 := Sl.mono (RL.mono RI.mono) hle80 h0_1
    replace h68 := Ev.mono (RL.mono RI.mono) hle80 h68
    replace h60 := Ev.mono RApiTrain.mono hle80 h60
    rcases rest74 with _ | rest74
    · skip
      refine W.seq ?_
      refine W.region ?_
      refine WL.vS hS hE (runs_plain rfl) (Gives.p hE rfl) rfl ?_; clear hE a; intro a hE
      refine WL.nil ?_
      refine W.seq ?_
      refine W.condF hE rfl (decide_eq_false (by omega)) ?_
      subst hK88
      refine W.exit rfl ?_
      exact ⟨q82, cs86, s79, hdv, F, hle80, Option.some.inj hq70, (by rw [show k72 = q54.length by omega] at hOF; exact hOF), h85, hn87, hE.pick _ ⟨rfl, rfl, trivial⟩, hS⟩
    · have hlt76 : k72 < q54.length := by omega
      rw [Planown.loop1] at hq70
      refine W.seq ?_
      refine W.region ?_
      refine WL.vS hS hE (runs_plain rfl) (Gives.p hE rfl) rfl ?_; clear hE a; intro a hE
      refine WL.nil ?_
      refine W.seq ?_
      refine W.condT hE rfl (decide_eq_true (by omega)) ?_
      refine W.skip ?_
      refine W.seq ?_
      refine W.block ?_
      refine W.seq ?_
      refine W.region ?_
      refine WL.vS hS hE (runs_plain rfl) (Gives.p hE rfl) rfl ?_; clear hE a; intro a hE
      refine WL.vS hS hE (runs_plain rfl) (Gives.p hE rfl) rfl ?_; clear hE a; intro a hE
      refine WL.nil ?_
      refine W.gen fun K89 hK89 => ?_
      refine rE hS [] [1] [0, 1, 2, 3, 4, 5, 6, 7, 8, 9] [0, 1, 2, 3, 4, 5, 6, 7, 8, 9, 10] mixed ?_
      replace hS := hS.drew
      refine Rg.takeP (i := 0) hE rfl (by kernel_rfl) (runs_plain rfl) (Gives.fld hE rfl fl25_0) rfl (tw_sel (fun _ => hS) (fun _ => (hS.dropAt 1))) ?_; clear hE a; intro a hE
      refine Rg.take (i := 1) true rfl hE rfl (by kernel_rfl) (runs_plain rfl) (Gives.loadB hE 3 rfl rfl rfl ty22) rfl (tw_sel (fun _ => hS) (fun _ => (hS.dropAt 1))) ?_; clear hE a; intro a hE
      refine Rg.takeP (i := 2) hE rfl (by kernel_rfl) (runs_plain rfl) (Gives.p hE rfl) rfl (tw_sel (fun _ => hS) (fun _ => (hS.dropAt 1))) ?_; clear hE a; intro a hE
      refine Rg.takeP (i := 3) hE rfl (by kernel_rfl) (runs_plain rfl) (Gives.fld hE rfl fl25_0) rfl (tw_sel (fun _ => hS) (fun _ => (hS.dropAt 1))) ?_; clear hE a; intro a hE
      refine Rg.take (i := 4) true rfl hE rfl (by kernel_rfl) (runs_plain rfl) (Gives.loadB hE 3 rfl rfl rfl ty22) rfl (tw_sel (fun _ => hS) (fun _ => (hS.dropAt 1))) ?_; clear hE a; intro a hE
      refine Rg.takeP (i := 5) hE rfl (by kernel_rfl) (runs_plain rfl) (Gives.p hE rfl) rfl (tw_sel (fun _ => hS) (fun _ => (hS.dropAt 1))) ?_; clear hE a; intro a hE
      obtain ⟨x90, hx91, hq70⟩ := bindS hq70
      obtain ⟨hi92, hlt93, hy94⟩ := gx_some hx91
      obtain ⟨z90, hz90, rfl⟩ := map_at hy94
      obtain ⟨vs95, hl96, hR97, hd98, hget99⟩ := h85.at hz90
      replace hR97 := RHole.plain (hOF.flat (by omega : k72 ≤ k72) hz90) hR97
      obtain ⟨a100, c101, a103, c104, rfl, h102, h105⟩ := hR97
      refine Rg.takeP (i := 6) hE rfl (by kernel_rfl) (runs_plain rfl) (Gives.idx hE ((((k72 : Nat) : Int)).toNat) rfl rfl sl22 hi92 (by have := hn87; omega) (hS.vecAok 1 rfl (by have := hn87; omega : (((k72 : Nat) : Int)).toNat < q54.length))) rfl (tw_sel (fun _ => hS) (fun _ => (hS.dropAt 1))) ?_; clear hE a; intro a hE
      refine Rg.take (i := 7) true rfl hE rfl (by kernel_rfl) (runs_plain rfl) (Gives.loadA hE rfl (fun w h => St.vecSees h 1 rfl ((((k72 : Nat) : Int)).toNat * 4) _ hget99) ty37) rfl (tw_sel (fun _ => hS) (fun _ => (hS.dropAt 1))) ?_; clear hE a; intro a hE
      refine Rg.one (i := 8) true true rfl (by kernel_rfl) (by kernel_rfl) (by kernel_rfl) ?_
      obtain ⟨q106, hq107, hq70⟩ := bindS hq70
      by_cases hkk : k72 = kT
      · have hc_ := Plancopied_okX hS h102 h105 hq107
        refine WL.fnq hE (hc_) (runs_plain rfl) bd22 rfl rfl rfl ?_
        clear hE hS hc_; rintro e w ⟨a112, c113, csS, a115, c116, s110, rfl, hle111, hEvS, h117, hS⟩; refine ⟨_, rfl, ?_⟩; clear a; intro a hE
        replace h102 := Sl.mono RApiStop.mono hle111 h102
        replace h105 := Sl.mono (RL.mono RI.mono) hle111 h105
        replace h68 := Ev.mono (RL.mono RI.mono) hle111 h68
        replace h85 := Ev.mono (RHole.mono) hle111 h85
        replace h85 := Ev.newHole (hd2 := .slice a112 q106.Stops.length c113) (fun i z hz => hOF.flat0 (by omega) hz) h85
        refine WL.nil ?_
        refine ⟨⟨fun _ => (St.down hle111 hS.tail), fun _ => (St.down hle111 (hS.tail.dropAt 1))⟩, ?_⟩
        replace hS := hS.perm (perm4 _ _ _ _ _ _)
        obtain ⟨_, hx119, hq70⟩ := bindS hq70
        obtain ⟨h120, h121⟩ := ix_some hx119
        refine Rg.takeP (i := 9) hE rfl (by kernel_rfl) (runs_plain rfl) (Gives.idx hE ((((k72 : Nat) : Int)).toNat) rfl rfl sl22 h120 (by have := hn87; omega) (hS.vecAok 1 rfl (by have := hn87; omega : (((k72 : Nat) : Int)).toNat < q54.length))) rfl (tw_sel (fun _ => (St.down hle111 (hS.dropAt 4))) (fun _ => (St.down hle111 ((hS.dropAt 4).dropAt 1)))) ?_; clear hE a; intro a hE
        refine Rg.one (i := 10) false true rfl (by kernel_rfl) (by kernel_rfl) (by kernel_rfl) ?_
        obtain ⟨x123, hx124, hq70⟩ := bindS hq70
        obtain ⟨y123, hy124, rfl, hyset⟩ := sx_map (z := (q106, true)) hx124
        refine WL.setD hE hS 1 rfl (runs_plain rfl) rfl rfl (vs := [.int .i64 q106.No, .int .i64 q106.Stock, .slice a112 q106.Stops.length c113, .slice a115 q106.Legs.length c116]) rfl ty37 rfl rfl rfl h85 hn87 (sx_some hy124).1 hy124 (RHole.holed h117) rfl ?_; clear hE hS a w; intro cs125 a w h126 hn127 hE hS
        refine WL.nil ?_
        refine ⟨⟨fun h => absurd h (by decide), fun _ => (St.down hle111 ((hS.dropAt 4).dropAt 1))⟩, ?_⟩
        refine Rg.done (by kernel_rfl) ?_
        subst hK89
        refine W.region ?_
        refine WL.vS hS hE (runs_plain rfl) (Gives.inc hE rfl (by omega)) rfl ?_; clear hE a; intro a hE
        refine WL.vS hS hE (runs_plain rfl) (Gives.p hE rfl) rfl ?_; clear hE a; intro a hE
        refine WL.nil ?_
        subst hK88
        exact ⟨rest74, Nat.lt_succ_self _, rest74, k72 + 1, y123, cs125, s110, _, _, rfl, (by omega), (Sg.Le.trans hle80 hle111), hq70, hOF.take hkk hle111 (by omega) hyset hEvS, h126, hn127, hE.pick _ ⟨rfl, rfl, rfl, rfl, trivial⟩, hS⟩
      · have hc_ := Plancopied_ok hS h102 h105 hq107
        refine WL.fnq hE (hc_) (runs_plain rfl) bd22 rfl rfl rfl ?_
        clear hE hS hc_; rintro e w ⟨cs108, s110, rfl, hle111, h109, hS⟩; refine ⟨_, rfl, ?_⟩; clear a; intro a hE
        replace h102 := Sl.mono RApiStop.mono hle111 h102
        replace h105 := Sl.mono (RL.mono RI.mono) hle111 h105
        replace h68 := Ev.mono (RL.mono RI.mono) hle111 h68
        replace h85 := Ev.mono (RHole.mono) hle111 h85
        obtain ⟨a112, c113, a115, c116, rfl, h114, h117⟩ := h109
        refine WL.nil ?_
        refine ⟨⟨fun _ => (St.down hle111 hS), fun _ => (St.down hle111 (hS.dropAt 1))⟩, ?_⟩
        obtain ⟨_, hx119, hq70⟩ := bindS hq70
        obtain ⟨h120, h121⟩ := ix_some hx119
        refine Rg.takeP (i := 9) hE rfl (by kernel_rfl) (runs_plain rfl) (Gives.idx hE ((((k72 : Nat) : Int)).toNat) rfl rfl sl22 h120 (by have := hn87; omega) (hS.vecAok 1 rfl (by have := hn87; omega : (((k72 : Nat) : Int)).toNat < q54.length))) rfl (tw_sel (fun _ => (St.down hle111 hS)) (fun _ => (St.down hle111 (hS.dropAt 1)))) ?_; clear hE a; intro a hE
        refine Rg.one (i := 10) false true rfl (by kernel_rfl) (by kernel_rfl) (by kernel_rfl) ?_
        obtain ⟨x123, hx124, hq70⟩ := bindS hq70
        obtain ⟨y123, hy124, rfl, hyset⟩ := sx_map (z := (q106, false)) hx124
        refine WL.setD hE hS 1 rfl (runs_plain rfl) rfl rfl (vs := [.int .i64 q106.No, .int .i64 q106.Stock, .slice a112 q106.Stops.length c113, .slice a115 q106.Legs.length c116]) rfl ty37 rfl rfl rfl h85 hn87 (sx_some hy124).1 hy124 (RHole.whole ⟨_, _, _, _, rfl, h114, h117⟩) rfl ?_; clear hE hS a w; intro cs125 a w h126 hn127 hE hS
        refine WL.nil ?_
        refine ⟨⟨fun h => absurd h (by decide), fun _ => (St.down hle111 (hS.dropAt 1))⟩, ?_⟩
        refine Rg.done (by kernel_rfl) ?_
        subst hK89
        refine W.region ?_
        refine WL.vS hS hE (runs_plain rfl) (Gives.inc hE rfl (by omega)) rfl ?_; clear hE a; intro a hE
        refine WL.vS hS hE (runs_plain rfl) (Gives.p hE rfl) rfl ?_; clear hE a; intro a hE
        refine WL.nil ?_
        subst hK88
        exact ⟨rest74, Nat.lt_succ_self _, rest74, k72 + 1, y123, cs125, s110, hdv, F, rfl, (by omega), (Sg.Le.trans hle80 hle111), hq70, hOF.next hkk hle111 hyset, h126, hn127, hE.pick _ ⟨rfl, rfl, rfl, rfl, trivial⟩, hS⟩
  · clear hE hS a w; rintro a w ⟨q82, cs86, s79, hdv, F, hle80, rfl, hOF, h85, hn87, hE, hS⟩
    replace h0_0 := Sl.mono RApiTrain.mono hle80 h0_0
    replace h0_1 := Sl.mono (RL.mono RI.mono) hle80 h0_1
    replace h68 := Ev.mono (RL.mono RI.mono) hle80 h68
    replace h60 := Ev.mono RApiTrain.mono hle80 h60
    refine W.seq ?_
    refine W.seq ?_
    refine W.region ?_
    refine WL.vS hS hE (runs_plain rfl) (Gives.fld hE rfl fl25_1) rfl ?_; clear hE a; intro a hE
    refine WL.vS hS hE (runs_plain rfl) (Gives.loadB hE 3 rfl rfl rfl ty23) rfl ?_; clear hE a; intro a hE
    refine WL.vS hS hE (runs_plain rfl) (Gives.len hE rfl sl23) rfl ?_; clear hE a; intro a hE
    refine WL.vS hS hE (runs_plain rfl) (Gives.p hE rfl) rfl ?_; clear hE a; intro a hE
    refine WL.nil ?_
    have hb139 : q62.length ≤ 9223372036854775807 := by have := hS.vecCap 0 rfl; unfold maxLen at this; omega
    obtain ⟨q129, hq128, hr⟩ := bindS hr
    refine W.cut (fun a w => ∃ (q140 : List (List Int)), ∃ (cs144 : List Value), ∃ (s137 : Sg), s79.Le s137 ∧ q140 = q129 ∧ Ev 1 (RL 1 (RI .i64)) s137 cs144 q140 ∧ q140.length = q62.length ∧ Rep a 48 [(1, .pointer (some ⟨b51, 0, none⟩)), (2, .pointer (some ⟨b52, 0, none⟩))] ∧ St w s137 (vecC 47 1 a64 c65 q62.length cs144 :: vecC 37 4 a56 c57 q54.length cs86 :: pt b52 (.cells #[.slice none 0 0, .slice none 0 0] 25 (0, 0)) :: pt b51 (.cells #[.slice a56 q54.length c57, .slice a64 q62.length c65] 25 (0, 0)) :: F)) ?_ ?_
    · refine W.block ?_
      refine W.loop (fun m a w => ∃ (rest132 : Nat) (k130 : Nat), ∃ (q140 : List (List Int)), ∃ (cs144 : List Value), ∃ (s137 : Sg), rest132 = m ∧ k130 + rest132 = q62.length ∧ s79.Le s137 ∧ Planown.loop2 rest132 k130 q140 = some q129 ∧ Ev 1 (RL 1 (RI .i64)) s137 cs144 q140 ∧ q140.length = q62.length ∧ Rep a 48 [(1, .pointer (some ⟨b51, 0, none⟩)), (2, .pointer (some ⟨b52, 0, none⟩)), (32, .int .i64 ((q62.length : Nat) : Int)), (33, .int .i64 ((k130 : Nat) : Int))] ∧ St w s137 (vecC 47 1 a64 c65 q62.length cs144 :: vecC 37 4 a56 c57 q54.length cs86 :: pt b52 (.cells #[.slice none 0 0, .slice none 0 0] 25 (0, 0)) :: pt b51 (.cells #[.slice a56 q54.length c57, .slice a64 q62.length c65] 25 (0, 0)) :: F)) (m := q62.length) ⟨q62.length, 0, q62, cs67, s79, rfl, by omega, (Sg.Le.refl _), hq128, h68, rfl, hE.pick _ ⟨rfl, rfl, rfl, rfl, trivial⟩, hS⟩ ?_
      clear hE hS a w hq128; rintro m136 a w ⟨rest132, k130, q140, cs144, s137, rfl, hd133, hle138, hq128, h143, hn145, hE, hS⟩
      refine W.gen fun K146 hK146 => ?_
      replace h68 := Ev.mono (RL.mono RI.mono) hle138 h68
      replace h85 := Ev.mono RHole.mono hle138 h85
      rcases rest132 with _ | rest132
      · skip
        refine W.seq ?_
        refine W.region ?_
        refine WL.vS hS hE (runs_plain rfl) (Gives.p hE rfl) rfl ?_; clear hE a; intro a hE
        refine WL.nil ?_
        refine W.seq ?_
        refine W.condF hE rfl (decide_eq_false (by omega)) ?_
        subst hK146
        refine W.exit rfl ?_
        exact ⟨q140, cs144, s137, hle138, Option.some.inj hq128, h143, hn145, hE.pick _ ⟨rfl, rfl, trivial⟩, hS⟩
      · have hlt134 : k130 < q62.length := by omega
        rw [Planown.loop2] at hq128
        refine W.seq ?_
        refine W.region ?_
        refine WL.vS hS hE (runs_plain rfl) (Gives.p hE rfl) rfl ?_; clear hE a; intro a hE
        refine WL.nil ?_
        refine W.seq ?_
        refine W.condT hE rfl (decide_eq_true (by omega)) ?_
        refine W.skip ?_
        refine W.seq ?_
        refine W.block ?_
        refine W.seq ?_
        refine W.region ?_
        refine WL.vS hS hE (runs_plain rfl) (Gives.p hE rfl) rfl ?_; clear hE a; intro a hE
        refine WL.vS hS hE (runs_plain rfl) (Gives.p hE rfl) rfl ?_; clear hE a; intro a hE
        refine WL.nil ?_
        refine W.gen fun K147 hK147 => ?_
        refine rE hS [] [0] [0, 1, 2, 3, 4, 5, 6, 7, 8, 9] [0, 1, 2, 3, 4, 5, 6, 7, 8, 9, 10] mixed ?_
        replace hS := hS.drew
        refine Rg.takeP (i := 0) hE rfl (by kernel_rfl) (runs_plain rfl) (Gives.fld hE rfl fl25_1) rfl (tw_sel (fun _ => hS) (fun _ => (hS.tail))) ?_; clear hE a; intro a hE
        refine Rg.take (i := 1) true rfl hE rfl (by kernel_rfl) (runs_plain rfl) (Gives.loadB hE 3 rfl rfl rfl ty23) rfl (tw_sel (fun _ => hS) (fun _ => (hS.tail))) ?_; clear hE a; intro a hE
        refine Rg.takeP (i := 2) hE rfl (by kernel_rfl) (runs_plain rfl) (Gives.p hE rfl) rfl (tw_sel (fun _ => hS) (fun _ => (hS.tail))) ?_; clear hE a; intro a hE
        refine Rg.takeP (i := 3) hE rfl (by kernel_rfl) (runs_plain rfl) (Gives.fld hE rfl fl25_1) rfl (tw_sel (fun _ => hS) (fun _ => (hS.tail))) ?_; clear hE a; intro a hE
        refine Rg.take (i := 4) true rfl hE rfl (by kernel_rfl) (runs_plain rfl) (Gives.loadB hE 3 rfl rfl rfl ty23) rfl (tw_sel (fun _ => hS) (fun _ => (hS.tail))) ?_; clear hE a; intro a hE
        refine Rg.takeP (i := 5) hE rfl (by kernel_rfl) (runs_plain rfl) (Gives.p hE rfl) rfl (tw_sel (fun _ => hS) (fun _ => (hS.tail))) ?_; clear hE a; intro a hE
        obtain ⟨x148, hx149, hq128⟩ := bindS hq128
        obtain ⟨hi150, hlt151, hy152⟩ := gx_some hx149
        obtain ⟨vs153, hl154, hR155, hd156, hget157⟩ := h143.at hy152
        obtain ⟨a158, c159, rfl, h160⟩ := hR155
        refine Rg.takeP (i := 6) hE rfl (by kernel_rfl) (runs_plain rfl) (Gives.idx hE ((((k130 : Nat) : Int)).toNat) rfl rfl sl23 hi150 (by have := hn145; omega) (hS.vecAok 0 rfl (by have := hn145; omega : (((k130 : Nat) : Int)).toNat < q62.length))) rfl (tw_sel (fun _ => hS) (fun _ => (hS.tail))) ?_; clear hE a; intro a hE
        refine Rg.take (i := 7) true rfl hE rfl (by kernel_rfl) (runs_plain rfl) (Gives.load1 hE rfl (fun w h => St.vecSees h 0 rfl ((((k130 : Nat) : Int)).toNat * 1) _ hget157) ty47) rfl (tw_sel (fun _ => hS) (fun _ => (hS.tail))) ?_; clear hE a; intro a hE
        refine Rg.one (i := 8) true true rfl (by kernel_rfl) (by kernel_rfl) (by kernel_rfl) ?_
        obtain ⟨q161, hq162, hq128⟩ := bindS hq128
        have hc_ := SlicesCloneLint_ok hS h160 hq162
        refine WL.fnq hE (hc_) (runs_plain rfl) bd23 rfl rfl rfl ?_
        clear hE hS hc_; rintro e w ⟨a163, c164, n165, cs166, rfl, h167, rfl, hS⟩; refine ⟨_, rfl, ?_⟩; clear a; intro a hE
        refine WL.nil ?_
        refine ⟨⟨fun _ => (hS.tail), fun _ => ((hS.tail).tail)⟩, ?_⟩
        obtain ⟨_, hx170, hq128⟩ := bindS hq128
        obtain ⟨h171, h172⟩ := ix_some hx170
        refine Rg.takeP (i := 9) hE rfl (by kernel_rfl) (runs_plain rfl) (Gives.idx hE ((((k130 : Nat) : Int)).toNat) rfl rfl sl23 h171 (by have := hn145; omega) (hS.vecAok 1 rfl (by have := hn145; omega : (((k130 : Nat) : Int)).toNat < q62.length))) rfl (tw_sel (fun _ => (hS.tail)) (fun _ => ((hS.tail).tail))) ?_; clear hE a; intro a hE
        refine Rg.one (i := 10) false true rfl (by kernel_rfl) (by kernel_rfl) (by kernel_rfl) ?_
        have hF := hS.fixD RI.mono 0 rfl h167 rfl; clear hS; obtain ⟨s174, hle175, hS, h176⟩ := hF
        replace h160 := Sl.mono RI.mono hle175 h160
        replace h143 := Ev.mono (RL.mono RI.mono) hle175 h143
        replace h85 := Ev.mono RHole.mono hle175 h85
        obtain ⟨x177, hx178, hq128⟩ := bindS hq128
        refine WL.setD hE hS 0 rfl (runs_plain rfl) rfl rfl (vs := [.slice a163 q161.length c164]) rfl ty47 rfl rfl rfl h143 hn145 (sx_some hx178).1 hx178 ⟨_, _, rfl, h176⟩ rfl ?_; clear hE hS a w; intro cs179 a w h180 hn181 hE hS
        refine WL.nil ?_
        refine ⟨⟨fun h => absurd h (by decide), fun _ => (St.down hle175 (hS.tail))⟩, ?_⟩
        refine Rg.done (by kernel_rfl) ?_
        subst hK147
        refine W.region ?_
        refine WL.vS hS hE (runs_plain rfl) (Gives.inc hE rfl (by omega)) rfl ?_; clear hE a; intro a hE
        refine WL.vS hS hE (runs_plain rfl) (Gives.p hE rfl) rfl ?_; clear hE a; intro a hE
        refine WL.nil ?_
        subst hK146
        exact ⟨rest132, Nat.lt_succ_self _, rest132, k130 + 1, x177, cs179, s174, rfl, (by omega), (Sg.Le.trans hle138 hle175), hq128, h180, hn181, hE.pick _ ⟨rfl, rfl, rfl, rfl, trivial⟩, hS⟩
    · clear hE hS a w; rintro a w ⟨q140, cs144, s137, hle138, rfl, h143, hn145, hE, hS⟩
      replace h68 := Ev.mono (RL.mono RI.mono) hle138 h68
      replace h85 := Ev.mono RHole.mono hle138 h85
      refine W.seq ?_
      refine W.region ?_
      refine WL.vS hS hE (runs_plain rfl) (Gives.loadBA hE 3 rfl rfl ty25) rfl ?_; clear hE a; intro a hE
      refine WL.storeI hE hS 2 rfl [.slice a56 q54.length c57, .slice a64 q62.length c65] (runs_plain rfl) rfl rfl rfl ty25 rfl rfl rfl rfl ?_; clear hE hS a w; intro a w hE hS
      refine WL.nil ?_
      refine W.ret ?_
      have hF := hS.fixD RHole.mono 1 rfl h85 hn87; clear hS; obtain ⟨s182, hle183, hS, h184⟩ := hF
      (try rw [← hn87] at hE)
      (try rw [← hn87] at hS)
      replace h143 := Ev.mono (RL.mono RI.mono) hle183 h143
      have hF := hS.fixD (RL.mono RI.mono) 0 rfl h143 hn145; clear hS; obtain ⟨s185, hle186, hS, h187⟩ := hF
      (try rw [← hn145] at hE)
      (try rw [← hn145] at hS)
      replace h184 := Sl.mono RHole.mono hle186 h184
      refine finG (fn := Tryd.f10) (rs := [.cell 2 25]) (vs := [_]) hE rfl ⟨⟨_, rfl, .inl ⟨_, rfl, hS.seesAt 0 rfl, ty25⟩⟩, trivial⟩ ?_
      obtain rfl := Option.some.inj hr
      replace hS := hS.tail
      replace hS := hS.tail
      obtain ⟨aS, cS, csS, st, rfl, rfl, hSt, hz⟩ := hOF.done (by simp only [List.length_map] at hkT; omega)
      have hle9 := Sg.Le.trans (Sg.Le.trans hle138 hle183) hle186
      exact ⟨aS, cS, csS, st, _, _, _, _, q82, s185, rfl, Sg.Le.trans hle80 hle9, rfl, hOF.marked (by simp only [List.length_map] at hkT; omega), hz, h184, h187, Ev.mono RApiStop.mono hle9 hSt, hS⟩

set_option maxHeartbeats 8000000 in
theorem PlanShift_1_v1_ok  {w : World} {s : Sg} {R : List HP} {zb0 zo0 : Nat} {Z0 : Value → HP} {pb1 : Nat} {y0 : Int} {y1 : Int} (hS : St w s (Z0 (.int .i64 y0) :: pt pb1 (.cells #[.int .i64 y1] 3 (0, 0)) :: R)) (hZ0 : Go.Fp.Place zb0 zo0 Z0) {r : Bool × Int} (hr : PlanShift_1_v1 y0 y1 = r) :
    Calls Tryd.prog 11 [.pointer (some ⟨zb0, zo0, none⟩), .pointer (some ⟨pb1, 0, none⟩)].toArray w (fun e w => e = .returned (.bool r.1) ∧ St w s (Z0 (.int .i64 r.2) :: pt pb1 (.cells #[.int .i64 y1] 3 (0, 0)) :: R)) := by
  refine enter Tryd.func11 rfl rfl rfl fun a hE => ?_
  rw [PlanShift_1_v1] at hr
  refine W.seq ?_
  refine W.region ?_
  refine WL.vS hS hE (runs_plain rfl) (Gives.p hE rfl) rfl ?_; clear hE a; intro a hE
  refine WL.nil ?_
  refine W.seq ?_
  refine W.seq ?_
  refine W.region ?_
  refine WL.vS hS hE (runs_plain rfl) (Gives.p hE rfl) rfl ?_; clear hE a; intro a hE
  refine WL.vS hS hE (runs_plain rfl) (Gives.nilOk hE rfl) rfl ?_; clear hE a; intro a hE
  refine WL.vS hS hE (runs_plain rfl) (Gives.loadZ hZ0 hE 0 rfl rfl ty3) rfl ?_; clear hE a; intro a hE
  refine WL.fnq hE (Planwithin_ok hS  rfl (r := Planwithin y0 (-3600) 32400)) (runs_plain rfl) bd9 rfl rfl rfl ?_
  clear hE hS; rintro e w ⟨rfl, hS⟩; refine ⟨_, rfl, ?_⟩; clear a; intro a hE
  refine WL.vS hS hE (runs_plain rfl) (Gives.p hE rfl) rfl ?_; clear hE a; intro a hE
  refine WL.nil ?_
  refine W.cond hE rfl (fun hc52 => ?_) (fun hc52 => ?_)
  · replace hr := iteT hc52 hr
    refine W.seq ?_
    refine W.region ?_
    refine WL.vS hS hE (runs_plain rfl) (Gives.p hE rfl) rfl ?_; clear hE a; intro a hE
    refine WL.nil ?_
    refine W.ret ?_
    refine finG (fn := Tryd.f11) (rs := [.tmp 3]) (vs := [_]) hE rfl ⟨rfl, trivial⟩ ?_
    subst hr
    exact ⟨rfl, hS⟩
  · replace hr := iteF hc52 hr
    refine W.skip ?_
    refine W.seq ?_
    refine W.gen fun K53 hK53 => ?_
    refine rE hS [] [0] [0, 1, 2, 3, 4, 5] [0, 1, 2, 3, 4, 5, 6] mixed ?_
    replace hS := hS.drew
    refine Rg.takeP (i := 0) hE rfl (by kernel_rfl) (runs_plain rfl) (Gives.p hE rfl) rfl (tw_sel (fun _ => hS) (fun _ => (hS.tail))) ?_; clear hE a; intro a hE
    refine Rg.take (i := 1) true rfl hE rfl (by kernel_rfl) (runs_plain rfl) (Gives.nilOk hE rfl) rfl (tw_sel (fun _ => hS) (fun _ => (hS.tail))) ?_; clear hE a; intro a hE
    refine Rg.take (i := 2) true rfl hE rfl (by kernel_rfl) (runs_plain rfl) (Gives.loadZ hZ0 hE 0 rfl rfl ty3) rfl (tw_sel (fun _ => hS) (fun _ => (hS.tail))) ?_; clear hE a; intro a hE
    refine Rg.take (i := 3) true rfl hE rfl (by kernel_rfl) (runs_plain rfl) (Gives.loadB hE 1 rfl rfl rfl ty3) rfl (tw_sel (fun _ => hS) (fun _ => (hS.tail))) ?_; clear hE a; intro a hE
    refine Rg.takeP (i := 4) hE rfl (by kernel_rfl) (runs_plain rfl) (Gives.p hE rfl) rfl (tw_sel (fun _ => hS) (fun _ => (hS.tail))) ?_; clear hE a; intro a hE
    refine Rg.take (i := 5) true rfl hE rfl (by kernel_rfl) (runs_plain rfl) (Gives.nilOk hE rfl) rfl (tw_sel (fun _ => hS) (fun _ => (hS.tail))) ?_; clear hE a; intro a hE
    refine Rg.one (i := 6) false true rfl (by kernel_rfl) (by kernel_rfl) (by kernel_rfl) ?_
    refine WL.storeZ hZ0 hE hS 0 rfl (runs_plain rfl) rfl rfl rfl ty3 rfl rfl ?_; clear hE hS a w; intro a w hE hS
    refine WL.nil ?_
    refine ⟨⟨fun h => absurd h (by decide), fun _ => (hS.tail)⟩, ?_⟩
    refine Rg.done (by kernel_rfl) ?_
    subst hK53
    refine W.seq ?_
    refine W.region ?_
    refine WL.vS hS hE (runs_plain rfl) (Gives.p hE rfl) rfl ?_; clear hE a; intro a hE
    refine WL.vS hS hE (runs_plain rfl) (Gives.nilOk hE rfl) rfl ?_; clear hE a; intro a hE
    refine WL.vS hS hE (runs_plain rfl) (Gives.loadZ hZ0 hE 0 rfl rfl ty3) rfl ?_; clear hE a; intro a hE
    refine WL.fnq hE (Planwithin_ok hS  rfl (r := Planwithin (w64 (y0 + y1)) 0 28800)) (runs_plain rfl) bd9 rfl rfl rfl ?_
    clear hE hS; rintro e w ⟨rfl, hS⟩; refine ⟨_, rfl, ?_⟩; clear a; intro a hE
    refine WL.vS hS hE (runs_plain rfl) (Gives.p hE rfl) rfl ?_; clear hE a; intro a hE
    refine WL.nil ?_
    refine W.ret ?_
    refine finG (fn := Tryd.f11) (rs := [.tmp 3]) (vs := [_]) hE rfl ⟨rfl, trivial⟩ ?_
    subst hr
    exact ⟨rfl, hS⟩
set_option maxHeartbeats 8000000 in
theorem PlanShift_ok {fu : Nat}  {w : World} {s : Sg} {R : List HP} {x0 : ApiDay} {a0_0 : Option Addr} {c0_0 : Nat} {a0_1 : Option Addr} {c0_1 : Nat} {x1 : Int} {x2 : Int} {x3 : Int} (hS : St w s (R)) (h0_0 : Sl 4 RApiTrain s a0_0 c0_0 x0.Trains) (h0_1 : Sl 1 (RL 1 (RI .i64)) s a0_1 c0_1 x0.Turns) {r : ApiDay × Int} (hr : PlanShift fu x0 x1 x2 x3 = some r) :
    Calls Tryd.prog 4 [.agg (List.toArray [.slice a0_0 x0.Trains.length c0_0, .slice a0_1 x0.Turns.length c0_1]), .int .i64 x1, .int .i64 x2, .int .i64 x3].toArray w (fun e w => ∃ (cs0 : List Value) (t : Sg), e = .returned (.tuple #[.agg cs0.toArray, .int .i64 r.2]) ∧ s.Le t ∧ RApiDay t cs0 r.1 ∧ St w t (R)) := by
  refine enter Tryd.func4 rfl rfl rfl fun a hE => ?_
  rw [PlanShift] at hr
  refine W.seq ?_
  refine W.region ?_
  refine WL.box hE hS (runs_plain rfl) rfl rfl rfl ?_; clear hE hS a w; intro b51 a w hE hS
  refine WL.box hE hS (runs_plain rfl) rfl rfl rfl ?_; clear hE hS a w; intro b52 a w hE hS
  refine WL.alloc hE hS (runs_plain rfl) zr25 rfl ?_; clear hE hS a w; intro b53 a w hE hS
  refine WL.vS hS hE (runs_plain rfl) (Gives.p hE rfl) rfl ?_; clear hE a; intro a hE
  refine WL.nil ?_
  refine W.seq ?_
  refine W.seq ?_
  refine W.region ?_
  refine WL.vS hS hE (runs_plain rfl) (Gives.loadBA hE 2 rfl rfl ty25) rfl ?_; clear hE a; intro a hE
  refine WL.vS hS hE (runs_plain rfl) (Gives.p hE rfl) rfl ?_; clear hE a; intro a hE
  refine WL.vS hS hE (runs_plain rfl) (Gives.p hE rfl) rfl ?_; clear hE a; intro a hE
  obtain ⟨q54, hq55, hr⟩ := bindS hr
  have hc_ := PlanhasStop_ok hS h0_0 h0_1 hq55
  refine WL.fnq hE (hc_) (runs_plain rfl) bd8 rfl rfl rfl ?_
  clear hE hS hc_; rintro e w ⟨rfl, hS⟩; refine ⟨_, rfl, ?_⟩; clear a; intro a hE
  refine WL.vS hS hE (runs_plain rfl) (Gives.p hE rfl) rfl ?_; clear hE a; intro a hE
  refine WL.nil ?_
  refine W.cond hE rfl (fun hc56 => ?_) (fun hc56 => ?_)
  · replace hr := iteT hc56 hr
    refine W.seq ?_
    refine W.region ?_
    refine WL.vS hS hE (runs_plain rfl) (Gives.build hE (vs := []) [.slice none 0 0, .slice none 0 0] rfl (by kernel_rfl)) rfl ?_; clear hE a; intro a hE
    refine WL.storeI hE hS 0 rfl [.slice none 0 0, .slice none 0 0] (runs_plain rfl) rfl rfl rfl ty25 rfl rfl rfl rfl ?_; clear hE hS a w; intro a w hE hS
    refine WL.vS hS hE (runs_plain rfl) (Gives.p hE rfl) rfl ?_; clear hE a; intro a hE
    refine WL.nil ?_
    refine W.ret ?_
    refine finG (fn := Tryd.f4) (rs := [.cell 8 25, .tmp 9]) (vs := [_, _]) hE rfl ⟨⟨_, rfl, .inl ⟨_, rfl, hS.seesAt 0 rfl, ty25⟩⟩, rfl, trivial⟩ ?_
    obtain rfl := Option.some.inj hr
    replace hS := hS.tail
    replace hS := hS.tail
    replace hS := hS.tail
    exact ⟨_, s, rfl, (Sg.Le.refl _), ⟨_, _, _, _, rfl, Sl.nil, Sl.nil⟩, hS⟩
  · replace hr := iteF hc56 hr
    refine W.skip ?_
    refine W.seq ?_
    refine W.seq ?_
    refine W.region ?_
    refine WL.vS hS hE (runs_plain rfl) (Gives.loadB hE 1 rfl rfl rfl ty3) rfl ?_; clear hE a; intro a hE
    refine WL.fnq hE (Planwithin_ok hS  rfl (r := Planwithin x3 (-3600) 3600)) (runs_plain rfl) bd9 rfl rfl rfl ?_
    clear hE hS; rintro e w ⟨rfl, hS⟩; refine ⟨_, rfl, ?_⟩; clear a; intro a hE
    refine WL.vS hS hE (runs_plain rfl) (Gives.p hE rfl) rfl ?_; clear hE a; intro a hE
    refine WL.nil ?_
    refine W.cond hE rfl (fun hc57 => ?_) (fun hc57 => ?_)
    · replace hr := iteT hc57 hr
      refine W.seq ?_
      refine W.region ?_
      refine WL.vS hS hE (runs_plain rfl) (Gives.build hE (vs := []) [.slice none 0 0, .slice none 0 0] rfl (by kernel_rfl)) rfl ?_; clear hE a; intro a hE
      refine WL.storeI hE hS 0 rfl [.slice none 0 0, .slice none 0 0] (runs_plain rfl) rfl rfl rfl ty25 rfl rfl rfl rfl ?_; clear hE hS a w; intro a w hE hS
      refine WL.vS hS hE (runs_plain rfl) (Gives.p hE rfl) rfl ?_; clear hE a; intro a hE
      refine WL.nil ?_
      refine W.ret ?_
      refine finG (fn := Tryd.f4) (rs := [.cell 8 25, .tmp 9]) (vs := [_, _]) hE rfl ⟨⟨_, rfl, .inl ⟨_, rfl, hS.seesAt 0 rfl, ty25⟩⟩, rfl, trivial⟩ ?_
      obtain rfl := Option.some.inj hr
      replace hS := hS.tail
      replace hS := hS.tail
      replace hS := hS.tail
      exact ⟨_, s, rfl, (Sg.Le.refl _), ⟨_, _, _, _, rfl, Sl.nil, Sl.nil⟩, hS⟩
    · replace hr := iteF hc57 hr
      refine W.skip ?_
      refine W.seq ?_
      refine W.region ?_
      refine WL.vS hS hE (runs_plain rfl) (Gives.loadBA hE 2 rfl rfl ty25) rfl ?_; clear hE a; intro a hE
      obtain ⟨q58, hq59, hr⟩ := bindS hr
      obtain ⟨x60, hx61, hr⟩ := bindS hr
      obtain ⟨hi62, hlt63, hy64⟩ := gx_some hx61
      have hc_ := Planown_okX hS h0_0 h0_1 hq59 hlt63
      refine WL.fnq hE (hc_) (runs_plain rfl) bd10 rfl rfl rfl ?_
      clear hE hS hc_; rintro e w ⟨a65, c66, cs67, st68, a69, c70, a71, c72, y73, s74, rfl, hle75, hm76, hm77, ⟨z78, hz79, hz80⟩, h81, h82, h83, hS⟩; refine ⟨_, rfl, ?_⟩; clear a; intro a hE
      obtain rfl := own_stops hm76 hz79 hz80 hy64
      replace h0_0 := Sl.mono RApiTrain.mono hle75 h0_0
      replace h0_1 := Sl.mono (RL.mono RI.mono) hle75 h0_1
      refine WL.storeI hE hS 3 rfl [.slice a69 y73.length c70, .slice a71 q58.Turns.length c72] (runs_plain rfl) rfl rfl rfl ty25 rfl rfl rfl rfl ?_; clear hE hS a w; intro a w hE hS
      refine WL.nil ?_
      refine W.seq ?_
      refine W.region ?_
      refine WL.vS hS hE (runs_plain rfl) (Gives.fld hE rfl fl25_0) rfl ?_; clear hE a; intro a hE
      refine WL.vS hS hE (runs_plain rfl) (Gives.loadB hE 3 rfl rfl rfl ty22) rfl ?_; clear hE a; intro a hE
      refine WL.vS hS hE (runs_plain rfl) (Gives.p hE rfl) rfl ?_; clear hE a; intro a hE
      obtain ⟨cs85, hl86, hR87, hat88⟩ := h81.at hz79
      obtain ⟨a89, c90, rfl, h91⟩ := RHole.hole hm77 hz79 hR87
      refine WL.vS hS hE (runs_plain rfl) (Gives.idx hE (x1).toNat rfl rfl sl22 hi62 (List.getElem?_eq_some_iff.1 hz79).1 (h81.aok (List.getElem?_eq_some_iff.1 hz79).1)) rfl ?_; clear hE a; intro a hE
      refine WL.vS hS hE (runs_plain rfl) (Gives.fld hE rfl fl37_2) rfl ?_; clear hE a; intro a hE
      refine WL.vS hS hE (runs_plain rfl) (Gives.load1 hE rfl (fun w h => (hat88 w _ h).one rfl) ty35) rfl ?_; clear hE a; intro a hE
      refine WL.vS hS hE (runs_plain rfl) (Gives.p hE rfl) rfl ?_; clear hE a; intro a hE
      refine WL.nil ?_
      refine W.seq ?_
      refine W.region ?_
      refine WL.vS hS hE (runs_plain rfl) (Gives.mkfn hE (vs := [.pointer (some ⟨b52, 0, none⟩)]) rfl) rfl ?_; clear hE a; intro a hE
      refine WL.vS hS hE (runs_plain rfl) (Gives.p hE rfl) rfl ?_; clear hE a; intro a hE
      refine WL.nil ?_
      refine W.seq ?_
      refine W.seq ?_
      refine W.region ?_
      refine WL.vS hS hE (runs_plain rfl) (Gives.p hE rfl) rfl ?_; clear hE a; intro a hE
      refine WL.vS hS hE (runs_plain rfl) (Gives.p hE rfl) rfl ?_; clear hE a; intro a hE
      refine WL.nil ?_
      obtain ⟨q93, hq92, hr⟩ := bindS hr
      refine W.cut (fun a w => ∃ (q98 : Int), ∃ (q99 : List ApiStop), ∃ (q105 : List ApiTrain), ∃ (q109 : List (List Int)), ∃ (cs103 : List Value), ∃ (a106 : Option Addr), ∃ (c107 : Nat), ∃ (a110 : Option Addr), ∃ (c111 : Nat), (.next (q98, q99, q105, q109)) = q93 ∧ Ev 4 RApiStop s74 cs103 q99 ∧ q99.length = x60.Stops.length ∧ Sl 4 RApiTrain s74 a106 c107 q105 ∧ Sl 1 (RL 1 (RI .i64)) s74 a110 c111 q109 ∧ Rep a 75 [(4, .pointer (some ⟨b51, 0, none⟩)), (8, .pointer (some ⟨b53, 0, none⟩))] ∧ St w s74 (vecC 41 4 a65 c66 x60.Stops.length cs103 :: pt b53 (.cells #[.slice a106 q105.length c107, .slice a110 q109.length c111] 25 (0, 0)) :: pt b52 (.cells #[.int .i64 x3] 3 (0, 0)) :: pt b51 (.cells #[.slice a69 y73.length c70, .slice a71 q58.Turns.length c72] 25 (0, 0)) :: R)) ?_ ?_
      · refine W.block ?_
        refine W.loop (fun m a w => ∃ (n94 : Nat), ∃ (q98 : Int), ∃ (q99 : List ApiStop), ∃ (q105 : List ApiTrain), ∃ (q109 : List (List Int)), ∃ (cs103 : List Value), ∃ (a106 : Option Addr), ∃ (c107 : Nat), ∃ (a110 : Option Addr), ∃ (c111 : Nat), n94 = m ∧ PlanShift.loop1 x2 x3 x60 n94 q98 q99 q105 q109 = some q93 ∧ Ev 4 RApiStop s74 cs103 q99 ∧ q99.length = x60.Stops.length ∧ Sl 4 RApiTrain s74 a106 c107 q105 ∧ Sl 1 (RL 1 (RI .i64)) s74 a110 c111 q109 ∧ Rep a 75 [(2, .int .i64 x2), (4, .pointer (some ⟨b51, 0, none⟩)), (8, .pointer (some ⟨b53, 0, none⟩)), (10, .slice a65 x60.Stops.length c66), (11, .func (.func 11) #[] #[.pointer (some ⟨b52, 0, none⟩)]), (12, .int .i64 q98)] ∧ St w s74 (vecC 41 4 a65 c66 x60.Stops.length cs103 :: pt b53 (.cells #[.slice a106 q105.length c107, .slice a110 q109.length c111] 25 (0, 0)) :: pt b52 (.cells #[.int .i64 x3] 3 (0, 0)) :: pt b51 (.cells #[.slice a69 y73.length c70, .slice a71 q58.Turns.length c72] 25 (0, 0)) :: R)) (m := fu) ⟨fu, x2, x60.Stops, [], [], cs67, none, 0, none, 0, rfl, hq92, h83, (rfl), Sl.nil, Sl.nil, hE.pick _ ⟨rfl, rfl, rfl, rfl, rfl, rfl, trivial⟩, hS⟩ ?_
        clear hE hS a w hq92; rintro m95 a w ⟨n94, q98, q99, q105, q109, cs103, a106, c107, a110, c111, rfl, hq92, h102, hn104, h108, h112, hE, hS⟩
        refine W.gen fun K113 hK113 => ?_
        rcases n94 with _ | n94
        · rw [PlanShift.loop1] at hq92; exact absurd hq92 (by simp)
        rw [PlanShift.loop1] at hq92
        refine W.seq ?_
        refine W.seq ?_
        refine W.region ?_
        refine WL.vS hS hE (runs_plain rfl) (Gives.p hE rfl) rfl ?_; clear hE a; intro a hE
        refine WL.vS hS hE (runs_plain rfl) (Gives.p hE rfl) rfl ?_; clear hE a; intro a hE
        refine WL.vS hS hE (runs_plain rfl) (Gives.len hE rfl sl35) rfl ?_; clear hE a; intro a hE
        refine WL.vS hS hE (runs_plain rfl) (Gives.p hE rfl) rfl ?_; clear hE a; intro a hE
        refine WL.nil ?_
        refine W.cond hE rfl (fun hc114 => ?_) (fun hc114 => ?_)
        · replace hq92 := iteT hc114 hq92
          refine W.skip ?_
          refine W.seq ?_
          refine W.block ?_
          refine W.seq ?_
          obtain ⟨q116, hq115, hq92⟩ := bndS hq92
          refine W.cut (fun a w => ∃ (q119 : Bool), q119 = q116 ∧ Rep a 75 [(2, .int .i64 x2), (4, .pointer (some ⟨b51, 0, none⟩)), (8, .pointer (some ⟨b53, 0, none⟩)), (10, .slice a65 x60.Stops.length c66), (11, .func (.func 11) #[] #[.pointer (some ⟨b52, 0, none⟩)]), (12, .int .i64 q98), (13, .bool q119)] ∧ St w s74 (vecC 41 4 a65 c66 x60.Stops.length cs103 :: pt b53 (.cells #[.slice a106 q105.length c107, .slice a110 q109.length c111] 25 (0, 0)) :: pt b52 (.cells #[.int .i64 x3] 3 (0, 0)) :: pt b51 (.cells #[.slice a69 y73.length c70, .slice a71 q58.Turns.length c72] 25 (0, 0)) :: R)) ?_ ?_
          · refine W.gen fun K120 hK120 => ?_
            refine W.region ?_
            refine WL.vS hS hE (runs_plain rfl) (Gives.p hE rfl) rfl ?_; clear hE a; intro a hE
            refine WL.vS hS hE (runs_plain rfl) (Gives.p hE rfl) rfl ?_; clear hE a; intro a hE
            refine WL.vS hS hE (runs_plain rfl) (Gives.p hE rfl) rfl ?_; clear hE a; intro a hE
            rcases Bool.eq_false_or_eq_true (q98 == 0) with hg121 | hg121
            · replace hq115 := iteT hg121 hq115
              refine WL.no hE (runs_not hE rfl rfl rfl (by rw [hg121]; decide)) rfl ?_; clear hE a; intro a hE
              refine WL.no hE (runs_not hE rfl rfl rfl (by rw [hg121]; decide)) rfl ?_; clear hE a; intro a hE
              refine WL.no hE (runs_not hE rfl rfl rfl (by rw [hg121]; decide)) rfl ?_; clear hE a; intro a hE
              refine WL.no hE (runs_not hE rfl rfl rfl (by rw [hg121]; decide)) rfl ?_; clear hE a; intro a hE
              refine WL.no hE (runs_not hE rfl rfl rfl (by rw [hg121]; decide)) rfl ?_; clear hE a; intro a hE
              refine WL.vS hS hE (runs_plain rfl) (Gives.pickT hE rfl hg121 rfl) rfl ?_; clear hE a; intro a hE
              refine WL.vS hS hE (runs_plain rfl) (Gives.p hE rfl) rfl ?_; clear hE a; intro a hE
              refine WL.nil ?_
              subst hK120
              exact ⟨true, hq115, hE.pick _ ⟨rfl, rfl, rfl, rfl, rfl, rfl, rfl, trivial⟩, hS⟩
            · replace hq115 := iteF hg121 hq115
              refine WL.vS hS hE (runs_if hE rfl rfl rfl hg121) (Gives.p hE rfl) rfl ?_; clear hE a; intro a hE
              refine WL.vS hS hE (runs_if hE rfl rfl rfl hg121) (Gives.p hE rfl) rfl ?_; clear hE a; intro a hE
              refine WL.vS hS hE (runs_if hE rfl rfl rfl hg121) (Gives.len hE rfl sl35) rfl ?_; clear hE a; intro a hE
              refine WL.vS hS hE (runs_if hE rfl rfl rfl hg121) (Gives.p hE rfl) rfl ?_; clear hE a; intro a hE
              refine WL.vS hS hE (runs_if hE rfl rfl rfl hg121) (Gives.p hE rfl) rfl ?_; clear hE a; intro a hE
              refine WL.vS hS hE (runs_plain rfl) (Gives.pickF hE rfl hg121 rfl) rfl ?_; clear hE a; intro a hE
              refine WL.vS hS hE (runs_plain rfl) (Gives.p hE rfl) rfl ?_; clear hE a; intro a hE
              refine WL.nil ?_
              subst hK120
              exact ⟨(q98 == (w64 (((x60.Stops.length : Nat) : Int) - 1))), hq115, hE.pick _ ⟨rfl, rfl, rfl, rfl, rfl, rfl, rfl, trivial⟩, hS⟩
          · clear hE hS a w; rintro a w ⟨q119, rfl, hE, hS⟩
            refine W.seq ?_
            obtain ⟨q123, hq122, hq92⟩ := bindS hq92
            refine W.cut (fun a w => ∃ (q126 : Bool), ∃ (q127 : List ApiStop), ∃ (cs131 : List Value), (q126, q127) = q123 ∧ Ev 4 RApiStop s74 cs131 q127 ∧ q127.length = x60.Stops.length ∧ Rep a 75 [(2, .int .i64 x2), (4, .pointer (some ⟨b51, 0, none⟩)), (8, .pointer (some ⟨b53, 0, none⟩)), (10, .slice a65 x60.Stops.length c66), (11, .func (.func 11) #[] #[.pointer (some ⟨b52, 0, none⟩)]), (12, .int .i64 q98), (72, .bool q126)] ∧ St w s74 (vecC 41 4 a65 c66 x60.Stops.length cs131 :: pt b53 (.cells #[.slice a106 q105.length c107, .slice a110 q109.length c111] 25 (0, 0)) :: pt b52 (.cells #[.int .i64 x3] 3 (0, 0)) :: pt b51 (.cells #[.slice a69 y73.length c70, .slice a71 q58.Turns.length c72] 25 (0, 0)) :: R)) ?_ ?_
            · refine W.gen fun K133 hK133 => ?_
              refine W.region ?_
              refine WL.vS hS hE (runs_plain rfl) (Gives.p hE rfl) rfl ?_; clear hE a; intro a hE
              refine WL.vS hS hE (runs_plain rfl) (Gives.p hE rfl) rfl ?_; clear hE a; intro a hE
              refine WL.vS hS hE (runs_plain rfl) (Gives.p hE rfl) rfl ?_; clear hE a; intro a hE
              obtain ⟨x134, hx135, hq122⟩ := bindS hq122
              obtain ⟨hi136, hlt137, hy138⟩ := gx_some hx135
              obtain ⟨vs139, hl140, hR141, hd142, hget143⟩ := h102.at hy138
              subst hR141
              refine WL.vS hS hE (runs_plain rfl) (Gives.idx hE ((q98).toNat) rfl rfl sl35 hi136 (by have := hn104; omega) (hS.vecAok 0 rfl (by have := hn104; omega : (q98).toNat < x60.Stops.length))) rfl ?_; clear hE a; intro a hE
              refine WL.vS hS hE (runs_plain rfl) (Gives.fld hE rfl fl41_3) rfl ?_; clear hE a; intro a hE
              have hc144 : (cs103)[(q98).toNat * 4 + 3]? = some (.int .i64 x134.Dep) := hget143 3 _ rfl
              have hF := hS.plcOpen hc144; clear hS; obtain ⟨hS, hz145⟩ := hF
              obtain ⟨q147, hq148, hq122⟩ := bndS hq122
              replace hS := hS.front 2 rfl
              replace hS := hS.front 1 rfl
              have hc_ := PlanShift_1_v1_ok hS hz145 hq148
              refine WL.fnw hE (hc_) rfl (runs_plain rfl) bd11 rfl rfl rfl ?_
              clear hE hS hc_; rintro e w ⟨rfl, hS⟩; refine ⟨_, rfl, ?_⟩; clear a; intro a hE
              obtain ⟨q149, hq150, hq122⟩ := bndS hq122
              have hF := hS.plcClose (vs := [.int .i64 x134.Station, .int .i64 x134.Track, .int .i64 x134.Arr, .int .i64 x134.Dep]) (x := (ApiStop.mk x134.Station x134.Track x134.Arr q147.2)) h102 hn104 hget143 rfl rfl rfl; clear hS; rw [hq150] at hF; obtain ⟨cs151, hS, h152, hn153⟩ := hF
              refine WL.vS hS hE (runs_plain rfl) (Gives.p hE rfl) rfl ?_; clear hE a; intro a hE
              refine WL.vS hS hE (runs_plain rfl) (Gives.p hE rfl) rfl ?_; clear hE a; intro a hE
              rcases Bool.eq_false_or_eq_true !q147.1 with hg154 | hg154
              · replace hq122 := iteT hg154 hq122
                refine WL.no hE (runs_not hE rfl rfl rfl (by rw [hg154]; decide)) rfl ?_; clear hE a; intro a hE
                refine WL.no hE (runs_not hE rfl rfl rfl (by rw [hg154]; decide)) rfl ?_; clear hE a; intro a hE
                refine WL.no hE (runs_not hE rfl rfl rfl (by rw [hg154]; decide)) rfl ?_; clear hE a; intro a hE
                refine WL.no hE (runs_not hE rfl rfl rfl (by rw [hg154]; decide)) rfl ?_; clear hE a; intro a hE
                refine WL.no hE (runs_undef hE rfl rfl rfl) rfl ?_; clear hE a; intro a hE
                refine WL.no hE (runs_not hE rfl rfl rfl (by rw [hg154]; decide)) rfl ?_; clear hE a; intro a hE
                refine WL.no hE (runs_not hE rfl rfl rfl (by rw [hg154]; decide)) rfl ?_; clear hE a; intro a hE
                refine WL.no hE (runs_undef hE rfl rfl rfl) rfl ?_; clear hE a; intro a hE
                refine WL.no hE (runs_undef hE rfl rfl rfl) rfl ?_; clear hE a; intro a hE
                refine WL.no hE (runs_undef hE rfl rfl rfl) rfl ?_; clear hE a; intro a hE
                refine WL.no hE (runs_undef hE rfl rfl rfl) rfl ?_; clear hE a; intro a hE
                refine WL.no hE (runs_undef hE rfl rfl rfl) rfl ?_; clear hE a; intro a hE
                refine WL.no hE (runs_undef hE rfl rfl rfl) rfl ?_; clear hE a; intro a hE
                refine WL.no hE (runs_undef hE rfl rfl rfl) rfl ?_; clear hE a; intro a hE
                refine WL.no hE (runs_not hE rfl rfl rfl (by rw [hg154]; decide)) rfl ?_; clear hE a; intro a hE
                refine WL.vS hS hE (runs_plain rfl) (Gives.pickT hE rfl hg154 rfl) rfl ?_; clear hE a; intro a hE
                refine WL.nil ?_
                replace hS := hS.front 3 rfl
                replace hS := hS.front 2 rfl
                replace hS := hS.front 3 rfl
                replace hS := hS.front 3 rfl
                subst hK133
                exact ⟨true, q149, cs151, Option.some.inj hq122, h152, hn153, hE.pick _ ⟨rfl, rfl, rfl, rfl, rfl, rfl, rfl, trivial⟩, hS⟩
              · replace hq122 := iteF hg154 hq122
                refine WL.vS hS hE (runs_if hE rfl rfl rfl hg154) (Gives.p hE rfl) rfl ?_; clear hE a; intro a hE
                refine WL.vS hS hE (runs_if hE rfl rfl rfl hg154) (Gives.p hE rfl) rfl ?_; clear hE a; intro a hE
                refine WL.vS hS hE (runs_if hE rfl rfl rfl hg154) (Gives.p hE rfl) rfl ?_; clear hE a; intro a hE
                refine WL.vS hS hE (runs_if hE rfl rfl rfl hg154) (Gives.p hE rfl) rfl ?_; clear hE a; intro a hE
                rcases Bool.eq_false_or_eq_true (decide (q98 > x2)) with hg155 | hg155
                · replace hq122 := iteT hg155 hq122
                  refine WL.no hE (runs_not hE rfl rfl rfl (by rw [hg155]; decide)) rfl ?_; clear hE a; intro a hE
                  refine WL.vS hS hE (runs_if hE rfl rfl rfl hg154) (Gives.pickT hE rfl hg155 rfl) rfl ?_; clear hE a; intro a hE
                  refine WL.vS hS hE (runs_if hE rfl rfl rfl hg154) (Gives.p hE rfl) rfl ?_; clear hE a; intro a hE
                  refine WL.vS hS hE (runs_if hE rfl rfl rfl rfl) (Gives.p hE rfl) rfl ?_; clear hE a; intro a hE
                  refine WL.vS hS hE (runs_if hE rfl rfl rfl rfl) (Gives.p hE rfl) rfl ?_; clear hE a; intro a hE
                  refine WL.vS hS hE (runs_if hE rfl rfl rfl rfl) (Gives.p hE rfl) rfl ?_; clear hE a; intro a hE
                  obtain ⟨x156, hx157, hq122⟩ := bindS hq122
                  obtain ⟨hi158, hlt159, hy160⟩ := gx_some hx157
                  obtain ⟨vs161, hl162, hR163, hd164, hget165⟩ := h152.at hy160
                  subst hR163
                  refine WL.vS hS hE (runs_if hE rfl rfl rfl rfl) (Gives.idx hE ((q98).toNat) rfl rfl sl35 hi158 (by have := hn153; omega) (hS.vecAok 0 rfl (by have := hn153; omega : (q98).toNat < x60.Stops.length))) rfl ?_; clear hE a; intro a hE
                  refine WL.vS hS hE (runs_if hE rfl rfl rfl rfl) (Gives.fld hE rfl fl41_2) rfl ?_; clear hE a; intro a hE
                  have hc166 : (cs151)[(q98).toNat * 4 + 2]? = some (.int .i64 x156.Arr) := hget165 2 _ rfl
                  have hF := hS.plcOpen hc166; clear hS; obtain ⟨hS, hz167⟩ := hF
                  obtain ⟨q169, hq170, hq122⟩ := bndS hq122
                  have hc_ := PlanShift_1_v1_ok hS hz167 hq170
                  refine WL.fnw hE (hc_) rfl (runs_if hE rfl rfl rfl rfl) bd11 rfl rfl rfl ?_
                  clear hE hS hc_; rintro e w ⟨rfl, hS⟩; refine ⟨_, rfl, ?_⟩; clear a; intro a hE
                  obtain ⟨q171, hq172, hq122⟩ := bndS hq122
                  have hF := hS.plcClose (vs := [.int .i64 x156.Station, .int .i64 x156.Track, .int .i64 x156.Arr, .int .i64 x156.Dep]) (x := (ApiStop.mk x156.Station x156.Track q169.2 x156.Dep)) h152 hn153 hget165 rfl rfl rfl; clear hS; rw [hq172] at hF; obtain ⟨cs173, hS, h174, hn175⟩ := hF
                  refine WL.vS hS hE (runs_if hE rfl rfl rfl rfl) (Gives.p hE rfl) rfl ?_; clear hE a; intro a hE
                  refine WL.vS hS hE (runs_if hE rfl rfl rfl hg154) (Gives.pickT hE rfl rfl rfl) rfl ?_; clear hE a; intro a hE
                  refine WL.vS hS hE (runs_plain rfl) (Gives.pickF hE rfl hg154 rfl) rfl ?_; clear hE a; intro a hE
                  refine WL.nil ?_
                  replace hS := hS.front 3 rfl
                  replace hS := hS.front 2 rfl
                  replace hS := hS.front 3 rfl
                  replace hS := hS.front 3 rfl
                  subst hK133
                  exact ⟨!q169.1, q171, cs173, Option.some.inj hq122, h174, hn175, hE.pick _ ⟨rfl, rfl, rfl, rfl, rfl, rfl, rfl, trivial⟩, hS⟩
                · replace hq122 := iteF hg155 hq122
                  refine WL.vS hS hE (runs_if hE rfl rfl rfl hg155) (Gives.p hE rfl) rfl ?_; clear hE a; intro a hE
                  refine WL.vS hS hE (runs_if hE rfl rfl rfl hg154) (Gives.pickF hE rfl hg155 rfl) rfl ?_; clear hE a; intro a hE
                  refine WL.vS hS hE (runs_if hE rfl rfl rfl hg154) (Gives.p hE rfl) rfl ?_; clear hE a; intro a hE
                  rcases Bool.eq_false_or_eq_true q119 with hg176 | hg176
                  · replace hq122 := iteT hg176 hq122
                    refine WL.vS hS hE (runs_if hE rfl rfl rfl hg176) (Gives.p hE rfl) rfl ?_; clear hE a; intro a hE
                    refine WL.vS hS hE (runs_if hE rfl rfl rfl hg176) (Gives.p hE rfl) rfl ?_; clear hE a; intro a hE
                    refine WL.vS hS hE (runs_if hE rfl rfl rfl hg176) (Gives.p hE rfl) rfl ?_; clear hE a; intro a hE
                    obtain ⟨x177, hx178, hq122⟩ := bindS hq122
                    obtain ⟨hi179, hlt180, hy181⟩ := gx_some hx178
                    obtain ⟨vs182, hl183, hR184, hd185, hget186⟩ := h152.at hy181
                    subst hR184
                    refine WL.vS hS hE (runs_if hE rfl rfl rfl hg176) (Gives.idx hE ((q98).toNat) rfl rfl sl35 hi179 (by have := hn153; omega) (hS.vecAok 0 rfl (by have := hn153; omega : (q98).toNat < x60.Stops.length))) rfl ?_; clear hE a; intro a hE
                    refine WL.vS hS hE (runs_if hE rfl rfl rfl hg176) (Gives.fld hE rfl fl41_2) rfl ?_; clear hE a; intro a hE
                    have hc187 : (cs151)[(q98).toNat * 4 + 2]? = some (.int .i64 x177.Arr) := hget186 2 _ rfl
                    have hF := hS.plcOpen hc187; clear hS; obtain ⟨hS, hz188⟩ := hF
                    obtain ⟨q190, hq191, hq122⟩ := bndS hq122
                    have hc_ := PlanShift_1_v1_ok hS hz188 hq191
                    refine WL.fnw hE (hc_) rfl (runs_if hE rfl rfl rfl hg176) bd11 rfl rfl rfl ?_
                    clear hE hS hc_; rintro e w ⟨rfl, hS⟩; refine ⟨_, rfl, ?_⟩; clear a; intro a hE
                    obtain ⟨q192, hq193, hq122⟩ := bndS hq122
                    have hF := hS.plcClose (vs := [.int .i64 x177.Station, .int .i64 x177.Track, .int .i64 x177.Arr, .int .i64 x177.Dep]) (x := (ApiStop.mk x177.Station x177.Track q190.2 x177.Dep)) h152 hn153 hget186 rfl rfl rfl; clear hS; rw [hq193] at hF; obtain ⟨cs194, hS, h195, hn196⟩ := hF
                    refine WL.vS hS hE (runs_if hE rfl rfl rfl hg176) (Gives.p hE rfl) rfl ?_; clear hE a; intro a hE
                    refine WL.vS hS hE (runs_if hE rfl rfl rfl hg154) (Gives.pickT hE rfl hg176 rfl) rfl ?_; clear hE a; intro a hE
                    refine WL.vS hS hE (runs_plain rfl) (Gives.pickF hE rfl hg154 rfl) rfl ?_; clear hE a; intro a hE
                    refine WL.nil ?_
                    replace hS := hS.front 3 rfl
                    replace hS := hS.front 2 rfl
                    replace hS := hS.front 3 rfl
                    replace hS := hS.front 3 rfl
                    subst hK133
                    exact ⟨!q190.1, q192, cs194, Option.some.inj hq122, h195, hn196, hE.pick _ ⟨rfl, rfl, rfl, rfl, rfl, rfl, rfl, trivial⟩, hS⟩
                  · replace hq122 := iteF hg176 hq122
                    refine WL.no hE (runs_not hE rfl rfl rfl (by rw [hg176]; decide)) rfl ?_; clear hE a; intro a hE
                    refine WL.no hE (runs_not hE rfl rfl rfl (by rw [hg176]; decide)) rfl ?_; clear hE a; intro a hE
                    refine WL.no hE (runs_not hE rfl rfl rfl (by rw [hg176]; decide)) rfl ?_; clear hE a; intro a hE
                    refine WL.no hE (runs_not hE rfl rfl rfl (by rw [hg176]; decide)) rfl ?_; clear hE a; intro a hE
                    refine WL.no hE (runs_not hE rfl rfl rfl (by rw [hg176]; decide)) rfl ?_; clear hE a; intro a hE
                    refine WL.no hE (runs_not hE rfl rfl rfl (by rw [hg176]; decide)) rfl ?_; clear hE a; intro a hE
                    refine WL.no hE (runs_not hE rfl rfl rfl (by rw [hg176]; decide)) rfl ?_; clear hE a; intro a hE
                    refine WL.vS hS hE (runs_if hE rfl rfl rfl hg154) (Gives.pickF hE rfl hg176 rfl) rfl ?_; clear hE a; intro a hE
                    refine WL.vS hS hE (runs_plain rfl) (Gives.pickF hE rfl hg154 rfl) rfl ?_; clear hE a; intro a hE
                    refine WL.nil ?_
                    replace hS := hS.front 3 rfl
                    replace hS := hS.front 2 rfl
                    replace hS := hS.front 3 rfl
                    replace hS := hS.front 3 rfl
                    subst hK133
                    exact ⟨false, q149, cs151, Option.some.inj hq122, h152, hn153, hE.pick _ ⟨rfl, rfl, rfl, rfl, rfl, rfl, rfl, trivial⟩, hS⟩
            · clear hE hS a w; rintro a w ⟨q126, q127, cs131, rfl, h130, hn132, hE, hS⟩
              dsimp only at hq92
              refine W.cond hE rfl (fun hc197 => ?_) (fun hc197 => ?_)
              · replace hq92 := iteT hc197 hq92
                refine W.seq ?_
                refine W.region ?_
                refine WL.vS hS hE (runs_plain rfl) (Gives.build hE (vs := []) [.slice none 0 0, .slice none 0 0] rfl (by kernel_rfl)) rfl ?_; clear hE a; intro a hE
                refine WL.storeI hE hS 1 rfl [.slice none 0 0, .slice none 0 0] (runs_plain rfl) rfl rfl rfl ty25 rfl rfl rfl rfl ?_; clear hE hS a w; intro a w hE hS
                refine WL.vS hS hE (runs_plain rfl) (Gives.p hE rfl) rfl ?_; clear hE a; intro a hE
                refine WL.nil ?_
                refine W.ret ?_
                subst hK113
                rw [← Option.some.inj hq92] at hr
                dsimp only at hr
                refine finG (fn := Tryd.f4) (rs := [.cell 8 25, .tmp 9]) (vs := [_, _]) hE rfl ⟨⟨_, rfl, .inl ⟨_, rfl, hS.seesAt 1 rfl, ty25⟩⟩, rfl, trivial⟩ ?_
                obtain rfl := Option.some.inj hr
                replace hS := hS.tail
                replace hS := hS.tail
                replace hS := hS.tail
                replace hS := hS.tail
                exact ⟨_, s74, rfl, hle75, ⟨_, _, _, _, rfl, Sl.nil, Sl.nil⟩, hS⟩
              · replace hq92 := iteF hc197 hq92
                refine W.skip ?_
                refine W.region ?_
                refine WL.vS hS hE (runs_plain rfl) (Gives.p hE rfl) rfl ?_; clear hE a; intro a hE
                refine WL.vS hS hE (runs_plain rfl) (Gives.p hE rfl) rfl ?_; clear hE a; intro a hE
                refine WL.vS hS hE (runs_plain rfl) (Gives.p hE rfl) rfl ?_; clear hE a; intro a hE
                refine WL.nil ?_
                subst hK113
                exact ⟨n94, Nat.lt_succ_self _, n94, (w64 (q98 + 1)), q127, q105, q109, cs131, a106, c107, a110, c111, rfl, hq92, h130, hn132, h108, h112, hE.pick _ ⟨rfl, rfl, rfl, rfl, rfl, rfl, trivial⟩, hS⟩
        · replace hq92 := iteF hc114 hq92
          subst hK113
          refine W.exit rfl ?_
          exact ⟨q98, q99, q105, q109, cs103, a106, c107, a110, c111, Option.some.inj hq92, h102, hn104, h108, h112, hE.pick _ ⟨rfl, rfl, trivial⟩, hS⟩
      · clear hE hS a w; rintro a w ⟨q98, q99, q105, q109, cs103, a106, c107, a110, c111, rfl, h102, hn104, h108, h112, hE, hS⟩
        dsimp only at hr
        refine W.seq ?_
        refine W.region ?_
        refine WL.vS hS hE (runs_plain rfl) (Gives.loadBA hE 3 rfl rfl ty25) rfl ?_; clear hE a; intro a hE
        have hn198 : (q99).length = x60.Stops.length := hn104
        have hF := hS.fixD RApiStop.mono 0 rfl h102 hn104; clear hS; obtain ⟨s199, hle200, hS, h201⟩ := hF
        (try rw [← hn104] at hE)
        (try rw [← hn104] at hS)
        replace h81 := Sl.mono RHole.mono hle200 h81
        replace h82 := Sl.mono (RL.mono RI.mono) hle200 h82
        replace h108 := Sl.mono RApiTrain.mono hle200 h108
        replace h112 := Sl.mono (RL.mono RI.mono) hle200 h112
        obtain ⟨hf202, hlen203⟩ := RHole.fill hm77 hz79 hm76 h81 h201 hn198
        (try rw [hlen203] at hE)
        (try rw [hlen203] at hS)
        refine WL.storeI hE hS 0 rfl [.slice a69 (putStops q58.Trains (x1).toNat q99).length c70, .slice a71 q58.Turns.length c72] (runs_plain rfl) rfl rfl rfl ty25 rfl rfl rfl rfl ?_; clear hE hS a w; intro a w hE hS
        refine WL.vS hS hE (runs_plain rfl) (Gives.p hE rfl) rfl ?_; clear hE a; intro a hE
        refine WL.nil ?_
        refine W.ret ?_
        refine finG (fn := Tryd.f4) (rs := [.cell 8 25, .tmp 9]) (vs := [_, _]) hE rfl ⟨⟨_, rfl, .inl ⟨_, rfl, hS.seesAt 0 rfl, ty25⟩⟩, rfl, trivial⟩ ?_
        obtain rfl := Option.some.inj hr
        replace hS := hS.tail
        replace hS := hS.tail
        replace hS := hS.tail
        exact ⟨_, s199, rfl, (Sg.Le.trans hle75 hle200), ⟨_, _, _, _, rfl, hf202, h82⟩, hS⟩
set_option maxHeartbeats 8000000 in
theorem Fishref2within_ok  {w : World} {s : Sg} {R : List HP} {x0 : Int} {x1 : Int} {x2 : Int} (hS : St w s (R))  {r : Bool} (hr : Fishref2within x0 x1 x2 = r) :
    Calls Tryd.prog 12 [.int .i64 x0, .int .i64 x1, .int .i64 x2].toArray w (fun e w => e = .returned (.bool r) ∧ St w s (R)) := by
  refine enter Tryd.func12 rfl rfl rfl fun a hE => ?_
  rw [Fishref2within] at hr
  refine W.seq ?_
  refine W.region ?_
  refine WL.vS hS hE (runs_plain rfl) (Gives.p hE rfl) rfl ?_; clear hE a; intro a hE
  refine WL.nil ?_
  refine W.seq ?_
  obtain ⟨q52, hq51, hr⟩ := bndS hr
  refine W.cut (fun a w => ∃ (q55 : Bool), q55 = q52 ∧ Rep a 15 [(6, .bool q55)] ∧ St w s (R)) ?_ ?_
  · refine W.gen fun K56 hK56 => ?_
    refine W.region ?_
    refine WL.vS hS hE (runs_plain rfl) (Gives.p hE rfl) rfl ?_; clear hE a; intro a hE
    refine WL.vS hS hE (runs_plain rfl) (Gives.p hE rfl) rfl ?_; clear hE a; intro a hE
    refine WL.vS hS hE (runs_plain rfl) (Gives.p hE rfl) rfl ?_; clear hE a; intro a hE
    refine WL.vS hS hE (runs_plain rfl) (Gives.p hE rfl) rfl ?_; clear hE a; intro a hE
    rcases Bool.eq_false_or_eq_true (decide (x0 ≥ x1)) with hg57 | hg57
    · replace hq51 := iteT hg57 hq51
      refine WL.vS hS hE (runs_if hE rfl rfl rfl hg57) (Gives.p hE rfl) rfl ?_; clear hE a; intro a hE
      refine WL.vS hS hE (runs_if hE rfl rfl rfl hg57) (Gives.p hE rfl) rfl ?_; clear hE a; intro a hE
      refine WL.vS hS hE (runs_if hE rfl rfl rfl hg57) (Gives.p hE rfl) rfl ?_; clear hE a; intro a hE
      refine WL.vS hS hE (runs_plain rfl) (Gives.pickT hE rfl hg57 rfl) rfl ?_; clear hE a; intro a hE
      refine WL.vS hS hE (runs_plain rfl) (Gives.p hE rfl) rfl ?_; clear hE a; intro a hE
      refine WL.nil ?_
      subst hK56
      exact ⟨decide (x0 ≤ x2), hq51, hE.pick _ ⟨rfl, trivial⟩, hS⟩
    · replace hq51 := iteF hg57 hq51
      refine WL.no hE (runs_not hE rfl rfl rfl (by rw [hg57]; decide)) rfl ?_; clear hE a; intro a hE
      refine WL.no hE (runs_not hE rfl rfl rfl (by rw [hg57]; decide)) rfl ?_; clear hE a; intro a hE
      refine WL.no hE (runs_not hE rfl rfl rfl (by rw [hg57]; decide)) rfl ?_; clear hE a; intro a hE
      refine WL.vS hS hE (runs_plain rfl) (Gives.pickF hE rfl hg57 rfl) rfl ?_; clear hE a; intro a hE
      refine WL.vS hS hE (runs_plain rfl) (Gives.p hE rfl) rfl ?_; clear hE a; intro a hE
      refine WL.nil ?_
      subst hK56
      exact ⟨false, hq51, hE.pick _ ⟨rfl, trivial⟩, hS⟩
  · clear hE hS a w; rintro a w ⟨q55, rfl, hE, hS⟩
    refine W.ret ?_
    refine finG (fn := Tryd.f12) (rs := [.tmp 6]) (vs := [_]) hE rfl ⟨rfl, trivial⟩ ?_
    subst hr
    exact ⟨rfl, hS⟩
set_option maxHeartbeats 8000000 in
theorem Fishref2ShiftOf_1_v1_ok  {w : World} {s : Sg} {R : List HP} {zb0 zo0 : Nat} {Z0 : Value → HP} {pb1 : Nat} {pb2 : Nat} {y0 : Int} {y1 : Bool} {y2 : Int} (hS : St w s (Z0 (.int .i64 y0) :: pt pb1 (.cells #[.bool y1] 4 (0, 0)) :: pt pb2 (.cells #[.int .i64 y2] 3 (0, 0)) :: R)) (hZ0 : Go.Fp.Place zb0 zo0 Z0) {r : Int × Bool} (hr : Fishref2ShiftOf_1_v1 y0 y1 y2 = r) :
    Calls Tryd.prog 14 [.pointer (some ⟨zb0, zo0, none⟩), .pointer (some ⟨pb1, 0, none⟩), .pointer (some ⟨pb2, 0, none⟩)].toArray w (fun e w => e = .returned (.tuple #[]) ∧ St w s (Z0 (.int .i64 r.1) :: pt pb1 (.cells #[.bool r.2] 4 (0, 0)) :: pt pb2 (.cells #[.int .i64 y2] 3 (0, 0)) :: R)) := by
  refine enter Tryd.func14 rfl rfl rfl fun a hE => ?_
  rw [Fishref2ShiftOf_1_v1] at hr
  refine W.seq ?_
  obtain ⟨q54, hq53, hr⟩ := bndS hr
  refine W.cut (fun a w => ∃ (q57 : Bool), q57 = q54 ∧ Rep a 28 [(0, .pointer (some ⟨zb0, zo0, none⟩)), (1, .pointer (some ⟨pb1, 0, none⟩)), (2, .pointer (some ⟨pb2, 0, none⟩))] ∧ St w s (Z0 (.int .i64 y0) :: pt pb1 (.cells #[.bool q57] 4 (0, 0)) :: pt pb2 (.cells #[.int .i64 y2] 3 (0, 0)) :: R)) ?_ ?_
  · refine W.gen fun K58 hK58 => ?_
    refine W.gen fun K59 hK59 => ?_
    refine rE hS [] [1] [0, 1, 2, 3, 4, 5, 6, 7, 8, 9, 10, 11, 12, 13, 14, 15, 16] [0, 1, 2, 3, 4, 5, 6, 7, 8, 9, 10, 11, 12, 13, 14, 15, 16, 17] mixed ?_
    replace hS := hS.drew
    refine Rg.take (i := 0) true rfl hE rfl (by kernel_rfl) (runs_plain rfl) (Gives.loadB hE 1 rfl rfl rfl ty4) rfl (tw_sel (fun _ => hS) (fun _ => (hS.dropAt 1))) ?_; clear hE a; intro a hE
    refine Rg.takeP (i := 1) hE rfl (by kernel_rfl) (runs_plain rfl) (Gives.p hE rfl) rfl (tw_sel (fun _ => hS) (fun _ => (hS.dropAt 1))) ?_; clear hE a; intro a hE
    rcases Bool.eq_false_or_eq_true y1 with hg60 | hg60
    · replace hq53 := iteT hg60 hq53
      refine Rg.takeP (i := 2) hE rfl (by kernel_rfl) (runs_if hE rfl rfl rfl hg60) (Gives.p hE rfl) rfl (tw_sel (fun _ => hS) (fun _ => (hS.dropAt 1))) ?_; clear hE a; intro a hE
      refine Rg.take (i := 3) true rfl hE rfl (by kernel_rfl) (runs_if hE rfl rfl rfl hg60) (Gives.nilOk hE rfl) rfl (tw_sel (fun _ => hS) (fun _ => (hS.dropAt 1))) ?_; clear hE a; intro a hE
      refine Rg.take (i := 4) true rfl hE rfl (by kernel_rfl) (runs_if hE rfl rfl rfl hg60) (Gives.loadZ hZ0 hE 0 rfl rfl ty3) rfl (tw_sel (fun _ => hS) (fun _ => (hS.dropAt 1))) ?_; clear hE a; intro a hE
      refine Rg.take (i := 5) true rfl hE rfl (by kernel_rfl) (runs_if hE rfl rfl rfl hg60) (Gives.loadB hE 2 rfl rfl rfl ty3) rfl (tw_sel (fun _ => hS) (fun _ => (hS.dropAt 1))) ?_; clear hE a; intro a hE
      refine Rg.takeP (i := 6) hE rfl (by kernel_rfl) (runs_if hE rfl rfl rfl hg60) (Gives.p hE rfl) rfl (tw_sel (fun _ => hS) (fun _ => (hS.dropAt 1))) ?_; clear hE a; intro a hE
      refine Rg.takeP (i := 7) hE rfl (by kernel_rfl) (runs_if hE rfl rfl rfl hg60) (Gives.p hE rfl) rfl (tw_sel (fun _ => hS) (fun _ => (hS.dropAt 1))) ?_; clear hE a; intro a hE
      refine Rg.takeP (i := 8) hE rfl (by kernel_rfl) (runs_plain rfl) (Gives.pickT hE rfl hg60 rfl) rfl (tw_sel (fun _ => hS) (fun _ => (hS.dropAt 1))) ?_; clear hE a; intro a hE
      refine Rg.takeP (i := 9) hE rfl (by kernel_rfl) (runs_plain rfl) (Gives.p hE rfl) rfl (tw_sel (fun _ => hS) (fun _ => (hS.dropAt 1))) ?_; clear hE a; intro a hE
      rcases Bool.eq_false_or_eq_true (decide (y0 ≥ (w64 (0 - y2)))) with hg61 | hg61
      · replace hq53 := iteT hg61 hq53
        refine Rg.takeP (i := 10) hE rfl (by kernel_rfl) (runs_if hE rfl rfl rfl hg61) (Gives.p hE rfl) rfl (tw_sel (fun _ => hS) (fun _ => (hS.dropAt 1))) ?_; clear hE a; intro a hE
        refine Rg.take (i := 11) true rfl hE rfl (by kernel_rfl) (runs_if hE rfl rfl rfl hg61) (Gives.nilOk hE rfl) rfl (tw_sel (fun _ => hS) (fun _ => (hS.dropAt 1))) ?_; clear hE a; intro a hE
        refine Rg.take (i := 12) true rfl hE rfl (by kernel_rfl) (runs_if hE rfl rfl rfl hg61) (Gives.loadZ hZ0 hE 0 rfl rfl ty3) rfl (tw_sel (fun _ => hS) (fun _ => (hS.dropAt 1))) ?_; clear hE a; intro a hE
        refine Rg.take (i := 13) true rfl hE rfl (by kernel_rfl) (runs_if hE rfl rfl rfl hg61) (Gives.loadB hE 2 rfl rfl rfl ty3) rfl (tw_sel (fun _ => hS) (fun _ => (hS.dropAt 1))) ?_; clear hE a; intro a hE
        refine Rg.takeP (i := 14) hE rfl (by kernel_rfl) (runs_if hE rfl rfl rfl hg61) (Gives.p hE rfl) rfl (tw_sel (fun _ => hS) (fun _ => (hS.dropAt 1))) ?_; clear hE a; intro a hE
        refine Rg.takeP (i := 15) hE rfl (by kernel_rfl) (runs_if hE rfl rfl rfl hg61) (Gives.p hE rfl) rfl (tw_sel (fun _ => hS) (fun _ => (hS.dropAt 1))) ?_; clear hE a; intro a hE
        refine Rg.takeP (i := 16) hE rfl (by kernel_rfl) (runs_plain rfl) (Gives.pickT hE rfl hg61 rfl) rfl (tw_sel (fun _ => hS) (fun _ => (hS.dropAt 1))) ?_; clear hE a; intro a hE
        refine Rg.one (i := 17) false true rfl (by kernel_rfl) (by kernel_rfl) (by kernel_rfl) ?_
        refine WL.storeI hE hS 1 rfl [.bool (decide (y0 ≤ (w64 (28800 - y2))))] (runs_plain rfl) rfl rfl rfl ty4 rfl rfl rfl rfl ?_; clear hE hS a w; intro a w hE hS
        refine WL.nil ?_
        refine ⟨⟨fun h => absurd h (by decide), fun _ => (hS.dropAt 1)⟩, ?_⟩
        refine Rg.done (by kernel_rfl) ?_
        subst hK59
        subst hK58
        exact ⟨decide (y0 ≤ (w64 (28800 - y2))), hq53, hE.pick _ ⟨rfl, rfl, rfl, trivial⟩, hS⟩
      · replace hq53 := iteF hg61 hq53
        refine Rg.no (i := 10) hE rfl (by kernel_rfl) (runs_not hE rfl rfl rfl (by rw [hg61]; decide)) rfl (tw_sel (fun _ => hS) (fun _ => (hS.dropAt 1))) ?_; clear hE a; intro a hE
        refine Rg.no (i := 11) hE rfl (by kernel_rfl) (runs_not hE rfl rfl rfl (by rw [hg61]; decide)) rfl (tw_sel (fun _ => hS) (fun _ => (hS.dropAt 1))) ?_; clear hE a; intro a hE
        refine Rg.no (i := 12) hE rfl (by kernel_rfl) (runs_not hE rfl rfl rfl (by rw [hg61]; decide)) rfl (tw_sel (fun _ => hS) (fun _ => (hS.dropAt 1))) ?_; clear hE a; intro a hE
        refine Rg.no (i := 13) hE rfl (by kernel_rfl) (runs_not hE rfl rfl rfl (by rw [hg61]; decide)) rfl (tw_sel (fun _ => hS) (fun _ => (hS.dropAt 1))) ?_; clear hE a; intro a hE
        refine Rg.no (i := 14) hE rfl (by kernel_rfl) (runs_not hE rfl rfl rfl (by rw [hg61]; decide)) rfl (tw_sel (fun _ => hS) (fun _ => (hS.dropAt 1))) ?_; clear hE a; intro a hE
        refine Rg.no (i := 15) hE rfl (by kernel_rfl) (runs_not hE rfl rfl rfl (by rw [hg61]; decide)) rfl (tw_sel (fun _ => hS) (fun _ => (hS.dropAt 1))) ?_; clear hE a; intro a hE
        refine Rg.takeP (i := 16) hE rfl (by kernel_rfl) (runs_plain rfl) (Gives.pickF hE rfl hg61 rfl) rfl (tw_sel (fun _ => hS) (fun _ => (hS.dropAt 1))) ?_; clear hE a; intro a hE
        refine Rg.one (i := 17) false true rfl (by kernel_rfl) (by kernel_rfl) (by kernel_rfl) ?_
        refine WL.storeI hE hS 1 rfl [.bool false] (runs_plain rfl) rfl rfl rfl ty4 rfl rfl rfl rfl ?_; clear hE hS a w; intro a w hE hS
        refine WL.nil ?_
        refine ⟨⟨fun h => absurd h (by decide), fun _ => (hS.dropAt 1)⟩, ?_⟩
        refine Rg.done (by kernel_rfl) ?_
        subst hK59
        subst hK58
        exact ⟨false, hq53, hE.pick _ ⟨rfl, rfl, rfl, trivial⟩, hS⟩
    · replace hq53 := iteF hg60 hq53
      refine Rg.no (i := 2) hE rfl (by kernel_rfl) (runs_not hE rfl rfl rfl (by rw [hg60]; decide)) rfl (tw_sel (fun _ => hS) (fun _ => (hS.dropAt 1))) ?_; clear hE a; intro a hE
      refine Rg.no (i := 3) hE rfl (by kernel_rfl) (runs_not hE rfl rfl rfl (by rw [hg60]; decide)) rfl (tw_sel (fun _ => hS) (fun _ => (hS.dropAt 1))) ?_; clear hE a; intro a hE
      refine Rg.no (i := 4) hE rfl (by kernel_rfl) (runs_not hE rfl rfl rfl (by rw [hg60]; decide)) rfl (tw_sel (fun _ => hS) (fun _ => (hS.dropAt 1))) ?_; clear hE a; intro a hE
      refine Rg.no (i := 5) hE rfl (by kernel_rfl) (runs_not hE rfl rfl rfl (by rw [hg60]; decide)) rfl (tw_sel (fun _ => hS) (fun _ => (hS.dropAt 1))) ?_; clear hE a; intro a hE
      refine Rg.no (i := 6) hE rfl (by kernel_rfl) (runs_not hE rfl rfl rfl (by rw [hg60]; decide)) rfl (tw_sel (fun _ => hS) (fun _ => (hS.dropAt 1))) ?_; clear hE a; intro a hE
      refine Rg.no (i := 7) hE rfl (by kernel_rfl) (runs_not hE rfl rfl rfl (by rw [hg60]; decide)) rfl (tw_sel (fun _ => hS) (fun _ => (hS.dropAt 1))) ?_; clear hE a; intro a hE
      refine Rg.takeP (i := 8) hE rfl (by kernel_rfl) (runs_plain rfl) (Gives.pickF hE rfl hg60 rfl) rfl (tw_sel (fun _ => hS) (fun _ => (hS.dropAt 1))) ?_; clear hE a; intro a hE
      refine Rg.takeP (i := 9) hE rfl (by kernel_rfl) (runs_plain rfl) (Gives.p hE rfl) rfl (tw_sel (fun _ => hS) (fun _ => (hS.dropAt 1))) ?_; clear hE a; intro a hE
      refine Rg.no (i := 10) hE rfl (by kernel_rfl) (runs_not hE rfl rfl rfl (by decide)) rfl (tw_sel (fun _ => hS) (fun _ => (hS.dropAt 1))) ?_; clear hE a; intro a hE
      refine Rg.no (i := 11) hE rfl (by kernel_rfl) (runs_not hE rfl rfl rfl (by decide)) rfl (tw_sel (fun _ => hS) (fun _ => (hS.dropAt 1))) ?_; clear hE a; intro a hE
      refine Rg.no (i := 12) hE rfl (by kernel_rfl) (runs_not hE rfl rfl rfl (by decide)) rfl (tw_sel (fun _ => hS) (fun _ => (hS.dropAt 1))) ?_; clear hE a; intro a hE
      refine Rg.no (i := 13) hE rfl (by kernel_rfl) (runs_not hE rfl rfl rfl (by decide)) rfl (tw_sel (fun _ => hS) (fun _ => (hS.dropAt 1))) ?_; clear hE a; intro a hE
      refine Rg.no (i := 14) hE rfl (by kernel_rfl) (runs_not hE rfl rfl rfl (by decide)) rfl (tw_sel (fun _ => hS) (fun _ => (hS.dropAt 1))) ?_; clear hE a; intro a hE
      refine Rg.no (i := 15) hE rfl (by kernel_rfl) (runs_not hE rfl rfl rfl (by decide)) rfl (tw_sel (fun _ => hS) (fun _ => (hS.dropAt 1))) ?_; clear hE a; intro a hE
      refine Rg.takeP (i := 16) hE rfl (by kernel_rfl) (runs_plain rfl) (Gives.pickF hE rfl rfl rfl) rfl (tw_sel (fun _ => hS) (fun _ => (hS.dropAt 1))) ?_; clear hE a; intro a hE
      refine Rg.one (i := 17) false true rfl (by kernel_rfl) (by kernel_rfl) (by kernel_rfl) ?_
      refine WL.storeI hE hS 1 rfl [.bool false] (runs_plain rfl) rfl rfl rfl ty4 rfl rfl rfl rfl ?_; clear hE hS a w; intro a w hE hS
      refine WL.nil ?_
      refine ⟨⟨fun h => absurd h (by decide), fun _ => (hS.dropAt 1)⟩, ?_⟩
      refine Rg.done (by kernel_rfl) ?_
      subst hK59
      subst hK58
      exact ⟨false, hq53, hE.pick _ ⟨rfl, rfl, rfl, trivial⟩, hS⟩
  · clear hE hS a w; rintro a w ⟨q57, rfl, hE, hS⟩
    refine W.seq ?_
    refine W.region ?_
    refine WL.vS hS hE (runs_plain rfl) (Gives.loadB hE 1 rfl rfl rfl ty4) rfl ?_; clear hE a; intro a hE
    refine WL.nil ?_
    obtain ⟨q63, hq62, hr⟩ := bndS hr
    refine W.cut (fun a w => ∃ (q66 : Int), q66 = q63 ∧ Rep a 28 [] ∧ St w s (Z0 (.int .i64 q66) :: pt pb1 (.cells #[.bool q57] 4 (0, 0)) :: pt pb2 (.cells #[.int .i64 y2] 3 (0, 0)) :: R)) ?_ ?_
    · refine W.gen fun K67 hK67 => ?_
      refine W.cond hE rfl (fun hc68 => ?_) (fun hc68 => ?_)
      · replace hq62 := iteT hc68 hq62
        refine W.gen fun K69 hK69 => ?_
        refine rE hS [] [0] [0, 1, 2, 3, 4, 5] [0, 1, 2, 3, 4, 5, 6] mixed ?_
        replace hS := hS.drew
        refine Rg.takeP (i := 0) hE rfl (by kernel_rfl) (runs_plain rfl) (Gives.p hE rfl) rfl (tw_sel (fun _ => hS) (fun _ => (hS.tail))) ?_; clear hE a; intro a hE
        refine Rg.take (i := 1) true rfl hE rfl (by kernel_rfl) (runs_plain rfl) (Gives.nilOk hE rfl) rfl (tw_sel (fun _ => hS) (fun _ => (hS.tail))) ?_; clear hE a; intro a hE
        refine Rg.take (i := 2) true rfl hE rfl (by kernel_rfl) (runs_plain rfl) (Gives.loadZ hZ0 hE 0 rfl rfl ty3) rfl (tw_sel (fun _ => hS) (fun _ => (hS.tail))) ?_; clear hE a; intro a hE
        refine Rg.take (i := 3) true rfl hE rfl (by kernel_rfl) (runs_plain rfl) (Gives.loadB hE 2 rfl rfl rfl ty3) rfl (tw_sel (fun _ => hS) (fun _ => (hS.tail))) ?_; clear hE a; intro a hE
        refine Rg.takeP (i := 4) hE rfl (by kernel_rfl) (runs_plain rfl) (Gives.p hE rfl) rfl (tw_sel (fun _ => hS) (fun _ => (hS.tail))) ?_; clear hE a; intro a hE
        refine Rg.take (i := 5) true rfl hE rfl (by kernel_rfl) (runs_plain rfl) (Gives.nilOk hE rfl) rfl (tw_sel (fun _ => hS) (fun _ => (hS.tail))) ?_; clear hE a; intro a hE
        refine Rg.one (i := 6) false true rfl (by kernel_rfl) (by kernel_rfl) (by kernel_rfl) ?_
        refine WL.storeZ hZ0 hE hS 0 rfl (runs_plain rfl) rfl rfl rfl ty3 rfl rfl ?_; clear hE hS a w; intro a w hE hS
        refine WL.nil ?_
        refine ⟨⟨fun h => absurd h (by decide), fun _ => (hS.tail)⟩, ?_⟩
        refine Rg.done (by kernel_rfl) ?_
        subst hK69
        subst hK67
        exact ⟨w64 (y0 + y2), hq62, hE.pick _ trivial, hS⟩
      · replace hq62 := iteF hc68 hq62
        refine W.skip ?_
        subst hK67
        exact ⟨y0, hq62, hE.pick _ trivial, hS⟩
    · clear hE hS a w; rintro a w ⟨q66, rfl, hE, hS⟩
      refine finG (fn := Tryd.f14) (rs := []) (vs := []) hE rfl trivial ?_
      subst hr
      exact ⟨rfl, hS⟩
set_option maxHeartbeats 8000000 in
theorem Fishref2ShiftOf_ok {fu : Nat}  {w : World} {s : Sg} {R : List HP} {x0 : ApiDay} {a0_0 : Option Addr} {c0_0 : Nat} {a0_1 : Option Addr} {c0_1 : Nat} {x1 : Int} {x2 : Int} {x3 : Int} (hS : St w s (R)) (h0_0 : Sl 4 RApiTrain s a0_0 c0_0 x0.Trains) (h0_1 : Sl 1 (RL 1 (RI .i64)) s a0_1 c0_1 x0.Turns) {r : ApiDay × Int} (hr : Fishref2ShiftOf fu x0 x1 x2 x3 = some r) :
    Calls Tryd.prog 5 [.agg (List.toArray [.slice a0_0 x0.Trains.length c0_0, .slice a0_1 x0.Turns.length c0_1]), .int .i64 x1, .int .i64 x2, .int .i64 x3].toArray w (fun e w => ∃ (cs0 : List Value) (t : Sg), e = .returned (.tuple #[.agg cs0.toArray, .int .i64 r.2]) ∧ s.Le t ∧ RApiDay t cs0 r.1 ∧ St w t (R)) := by
  refine enter Tryd.func5 rfl rfl rfl fun a hE => ?_
  rw [Fishref2ShiftOf] at hr
  refine W.seq ?_
  refine W.region ?_
  refine WL.box hE hS (runs_plain rfl) rfl rfl rfl ?_; clear hE hS a w; intro b51 a w hE hS
  refine WL.box hE hS (runs_plain rfl) rfl rfl rfl ?_; clear hE hS a w; intro b52 a w hE hS
  refine WL.alloc hE hS (runs_plain rfl) zr25 rfl ?_; clear hE hS a w; intro b53 a w hE hS
  refine WL.vS hS hE (runs_plain rfl) (Gives.p hE rfl) rfl ?_; clear hE a; intro a hE
  refine WL.nil ?_
  refine W.seq ?_
  refine W.seq ?_
  obtain ⟨q55, hq54, hr⟩ := bindS hr
  refine W.cut (fun a w => ∃ (q58 : Bool), q58 = q55 ∧ Rep a 101 [(1, .int .i64 x1), (2, .int .i64 x2), (4, .pointer (some ⟨b51, 0, none⟩)), (7, .pointer (some ⟨b52, 0, none⟩)), (8, .pointer (some ⟨b53, 0, none⟩)), (38, .bool q58)] ∧ St w s (pt b53 (.cells #[.slice none 0 0, .slice none 0 0] 25 (0, 0)) :: pt b52 (.cells #[.int .i64 x3] 3 (0, 0)) :: pt b51 (.cells #[.slice a0_0 x0.Trains.length c0_0, .slice a0_1 x0.Turns.length c0_1] 25 (0, 0)) :: R)) ?_ ?_
  · refine W.gen fun K59 hK59 => ?_
    refine W.region ?_
    refine WL.vS hS hE (runs_plain rfl) (Gives.p hE rfl) rfl ?_; clear hE a; intro a hE
    refine WL.vS hS hE (runs_plain rfl) (Gives.p hE rfl) rfl ?_; clear hE a; intro a hE
    refine WL.vS hS hE (runs_plain rfl) (Gives.p hE rfl) rfl ?_; clear hE a; intro a hE
    rcases Bool.eq_false_or_eq_true (decide (x1 < 0)) with hg60 | hg60
    · replace hq54 := iteT hg60 hq54
      refine WL.no hE (runs_not hE rfl rfl rfl (by rw [hg60]; decide)) rfl ?_; clear hE a; intro a hE
      refine WL.no hE (runs_not hE rfl rfl rfl (by rw [hg60]; decide)) rfl ?_; clear hE a; intro a hE
      refine WL.no hE (runs_not hE rfl rfl rfl (by rw [hg60]; decide)) rfl ?_; clear hE a; intro a hE
      refine WL.no hE (runs_not hE rfl rfl rfl (by rw [hg60]; decide)) rfl ?_; clear hE a; intro a hE
      refine WL.no hE (runs_not hE rfl rfl rfl (by rw [hg60]; decide)) rfl ?_; clear hE a; intro a hE
      refine WL.vS hS hE (runs_plain rfl) (Gives.pickT hE rfl hg60 rfl) rfl ?_; clear hE a; intro a hE
      refine WL.vS hS hE (runs_plain rfl) (Gives.p hE rfl) rfl ?_; clear hE a; intro a hE
      refine WL.no hE (runs_not hE rfl rfl rfl (by decide)) rfl ?_; clear hE a; intro a hE
      refine WL.no hE (runs_not hE rfl rfl rfl (by decide)) rfl ?_; clear hE a; intro a hE
      refine WL.vS hS hE (runs_plain rfl) (Gives.pickT hE rfl rfl rfl) rfl ?_; clear hE a; intro a hE
      refine WL.vS hS hE (runs_plain rfl) (Gives.p hE rfl) rfl ?_; clear hE a; intro a hE
      refine WL.no hE (runs_not hE rfl rfl rfl (by decide)) rfl ?_; clear hE a; intro a hE
      refine WL.no hE (runs_not hE rfl rfl rfl (by decide)) rfl ?_; clear hE a; intro a hE
      refine WL.no hE (runs_not hE rfl rfl rfl (by decide)) rfl ?_; clear hE a; intro a hE
      refine WL.no hE (runs_not hE rfl rfl rfl (by decide)) rfl ?_; clear hE a; intro a hE
      refine WL.no hE (runs_not hE rfl rfl rfl (by decide)) rfl ?_; clear hE a; intro a hE
      refine WL.no hE (runs_not hE rfl rfl rfl (by decide)) rfl ?_; clear hE a; intro a hE
      refine WL.no hE (runs_not hE rfl rfl rfl (by decide)) rfl ?_; clear hE a; intro a hE
      refine WL.no hE (runs_not hE rfl rfl rfl (by decide)) rfl ?_; clear hE a; intro a hE
      refine WL.no hE (runs_not hE rfl rfl rfl (by decide)) rfl ?_; clear hE a; intro a hE
      refine WL.vS hS hE (runs_plain rfl) (Gives.pickT hE rfl rfl rfl) rfl ?_; clear hE a; intro a hE
      refine WL.nil ?_
      subst hK59
      exact ⟨true, Option.some.inj hq54, hE.pick _ ⟨rfl, rfl, rfl, rfl, rfl, rfl, trivial⟩, hS⟩
    · replace hq54 := iteF hg60 hq54
      refine WL.vS hS hE (runs_if hE rfl rfl rfl hg60) (Gives.p hE rfl) rfl ?_; clear hE a; intro a hE
      refine WL.vS hS hE (runs_if hE rfl rfl rfl hg60) (Gives.fld hE rfl fl25_0) rfl ?_; clear hE a; intro a hE
      refine WL.vS hS hE (runs_if hE rfl rfl rfl hg60) (Gives.loadB hE 2 rfl rfl rfl ty22) rfl ?_; clear hE a; intro a hE
      refine WL.vS hS hE (runs_if hE rfl rfl rfl hg60) (Gives.len hE rfl sl22) rfl ?_; clear hE a; intro a hE
      refine WL.vS hS hE (runs_if hE rfl rfl rfl hg60) (Gives.p hE rfl) rfl ?_; clear hE a; intro a hE
      refine WL.vS hS hE (runs_plain rfl) (Gives.pickF hE rfl hg60 rfl) rfl ?_; clear hE a; intro a hE
      refine WL.vS hS hE (runs_plain rfl) (Gives.p hE rfl) rfl ?_; clear hE a; intro a hE
      rcases Bool.eq_false_or_eq_true (decide (x1 ≥ ((x0.Trains).length : Int))) with hg61 | hg61
      · replace hq54 := iteT hg61 hq54
        refine WL.no hE (runs_not hE rfl rfl rfl (by rw [hg61]; decide)) rfl ?_; clear hE a; intro a hE
        refine WL.no hE (runs_not hE rfl rfl rfl (by rw [hg61]; decide)) rfl ?_; clear hE a; intro a hE
        refine WL.vS hS hE (runs_plain rfl) (Gives.pickT hE rfl hg61 rfl) rfl ?_; clear hE a; intro a hE
        refine WL.vS hS hE (runs_plain rfl) (Gives.p hE rfl) rfl ?_; clear hE a; intro a hE
        refine WL.no hE (runs_not hE rfl rfl rfl (by decide)) rfl ?_; clear hE a; intro a hE
        refine WL.no hE (runs_not hE rfl rfl rfl (by decide)) rfl ?_; clear hE a; intro a hE
        refine WL.no hE (runs_not hE rfl rfl rfl (by decide)) rfl ?_; clear hE a; intro a hE
        refine WL.no hE (runs_not hE rfl rfl rfl (by decide)) rfl ?_; clear hE a; intro a hE
        refine WL.no hE (runs_not hE rfl rfl rfl (by decide)) rfl ?_; clear hE a; intro a hE
        refine WL.no hE (runs_not hE rfl rfl rfl (by decide)) rfl ?_; clear hE a; intro a hE
        refine WL.no hE (runs_not hE rfl rfl rfl (by decide)) rfl ?_; clear hE a; intro a hE
        refine WL.no hE (runs_not hE rfl rfl rfl (by decide)) rfl ?_; clear hE a; intro a hE
        refine WL.no hE (runs_not hE rfl rfl rfl (by decide)) rfl ?_; clear hE a; intro a hE
        refine WL.vS hS hE (runs_plain rfl) (Gives.pickT hE rfl rfl rfl) rfl ?_; clear hE a; intro a hE
        refine WL.nil ?_
        subst hK59
        exact ⟨true, Option.some.inj hq54, hE.pick _ ⟨rfl, rfl, rfl, rfl, rfl, rfl, trivial⟩, hS⟩
      · replace hq54 := iteF hg61 hq54
        refine WL.vS hS hE (runs_if hE rfl rfl rfl hg61) (Gives.p hE rfl) rfl ?_; clear hE a; intro a hE
        refine WL.vS hS hE (runs_if hE rfl rfl rfl hg61) (Gives.p hE rfl) rfl ?_; clear hE a; intro a hE
        refine WL.vS hS hE (runs_plain rfl) (Gives.pickF hE rfl hg61 rfl) rfl ?_; clear hE a; intro a hE
        refine WL.vS hS hE (runs_plain rfl) (Gives.p hE rfl) rfl ?_; clear hE a; intro a hE
        rcases Bool.eq_false_or_eq_true (decide (x2 < 0)) with hg62 | hg62
        · replace hq54 := iteT hg62 hq54
          refine WL.no hE (runs_not hE rfl rfl rfl (by rw [hg62]; decide)) rfl ?_; clear hE a; intro a hE
          refine WL.no hE (runs_not hE rfl rfl rfl (by rw [hg62]; decide)) rfl ?_; clear hE a; intro a hE
          refine WL.no hE (runs_not hE rfl rfl rfl (by rw [hg62]; decide)) rfl ?_; clear hE a; intro a hE
          refine WL.no hE (runs_not hE rfl rfl rfl (by rw [hg62]; decide)) rfl ?_; clear hE a; intro a hE
          refine WL.no hE (runs_not hE rfl rfl rfl (by rw [hg62]; decide)) rfl ?_; clear hE a; intro a hE
          refine WL.no hE (runs_not hE rfl rfl rfl (by rw [hg62]; decide)) rfl ?_; clear hE a; intro a hE
          refine WL.no hE (runs_not hE rfl rfl rfl (by rw [hg62]; decide)) rfl ?_; clear hE a; intro a hE
          refine WL.no hE (runs_not hE rfl rfl rfl (by rw [hg62]; decide)) rfl ?_; clear hE a; intro a hE
          refine WL.no hE (runs_not hE rfl rfl rfl (by rw [hg62]; decide)) rfl ?_; clear hE a; intro a hE
          refine WL.vS hS hE (runs_plain rfl) (Gives.pickT hE rfl hg62 rfl) rfl ?_; clear hE a; intro a hE
          refine WL.nil ?_
          subst hK59
          exact ⟨true, Option.some.inj hq54, hE.pick _ ⟨rfl, rfl, rfl, rfl, rfl, rfl, trivial⟩, hS⟩
        · replace hq54 := iteF hg62 hq54
          refine WL.vS hS hE (runs_if hE rfl rfl rfl hg62) (Gives.p hE rfl) rfl ?_; clear hE a; intro a hE
          refine WL.vS hS hE (runs_if hE rfl rfl rfl hg62) (Gives.fld hE rfl fl25_0) rfl ?_; clear hE a; intro a hE
          refine WL.vS hS hE (runs_if hE rfl rfl rfl hg62) (Gives.loadB hE 2 rfl rfl rfl ty22) rfl ?_; clear hE a; intro a hE
          refine WL.vS hS hE (runs_if hE rfl rfl rfl hg62) (Gives.p hE rfl) rfl ?_; clear hE a; intro a hE
          obtain ⟨x63, hx64, hq54⟩ := bindS hq54
          obtain ⟨hi65, hlt66, hy67⟩ := gx_some hx64
          obtain ⟨cs68, hl69, hR70, hat71⟩ := h0_0.at hy67
          obtain ⟨a72, c73, a75, c76, rfl, h74, h77⟩ := hR70
          refine WL.vS hS hE (runs_if hE rfl rfl rfl hg62) (Gives.idx hE (x1).toNat rfl rfl sl22 hi65 hlt66 (h0_0.aok hlt66)) rfl ?_; clear hE a; intro a hE
          refine WL.vS hS hE (runs_if hE rfl rfl rfl hg62) (Gives.fld hE rfl fl37_2) rfl ?_; clear hE a; intro a hE
          refine WL.vS hS hE (runs_if hE rfl rfl rfl hg62) (Gives.load1 hE rfl (fun w h => (hat71 w _ h).one rfl) ty35) rfl ?_; clear hE a; intro a hE
          refine WL.vS hS hE (runs_if hE rfl rfl rfl hg62) (Gives.len hE rfl sl35) rfl ?_; clear hE a; intro a hE
          refine WL.vS hS hE (runs_if hE rfl rfl rfl hg62) (Gives.p hE rfl) rfl ?_; clear hE a; intro a hE
          refine WL.vS hS hE (runs_plain rfl) (Gives.pickF hE rfl hg62 rfl) rfl ?_; clear hE a; intro a hE
          refine WL.nil ?_
          subst hK59
          exact ⟨decide (x2 ≥ ((x63.Stops).length : Int)), Option.some.inj hq54, hE.pick _ ⟨rfl, rfl, rfl, rfl, rfl, rfl, trivial⟩, hS⟩
  · clear hE hS a w; rintro a w ⟨q58, rfl, hE, hS⟩
    refine W.cond hE rfl (fun hc78 => ?_) (fun hc78 => ?_)
    · replace hr := iteT hc78 hr
      refine W.seq ?_
      refine W.region ?_
      refine WL.vS hS hE (runs_plain rfl) (Gives.build hE (vs := []) [.slice none 0 0, .slice none 0 0] rfl (by kernel_rfl)) rfl ?_; clear hE a; intro a hE
      refine WL.storeI hE hS 0 rfl [.slice none 0 0, .slice none 0 0] (runs_plain rfl) rfl rfl rfl ty25 rfl rfl rfl rfl ?_; clear hE hS a w; intro a w hE hS
      refine WL.vS hS hE (runs_plain rfl) (Gives.p hE rfl) rfl ?_; clear hE a; intro a hE
      refine WL.nil ?_
      refine W.ret ?_
      refine finG (fn := Tryd.f5) (rs := [.cell 8 25, .tmp 9]) (vs := [_, _]) hE rfl ⟨⟨_, rfl, .inl ⟨_, rfl, hS.seesAt 0 rfl, ty25⟩⟩, rfl, trivial⟩ ?_
      obtain rfl := Option.some.inj hr
      replace hS := hS.tail
      replace hS := hS.tail
      replace hS := hS.tail
      exact ⟨_, s, rfl, (Sg.Le.refl _), ⟨_, _, _, _, rfl, Sl.nil, Sl.nil⟩, hS⟩
    · replace hr := iteF hc78 hr
      refine W.skip ?_
      refine W.seq ?_
      refine W.seq ?_
      refine W.region ?_
      refine WL.vS hS hE (runs_plain rfl) (Gives.loadB hE 1 rfl rfl rfl ty3) rfl ?_; clear hE a; intro a hE
      refine WL.fnq hE (Fishref2within_ok hS  rfl (r := Fishref2within x3 (-3600) 3600)) (runs_plain rfl) bd12 rfl rfl rfl ?_
      clear hE hS; rintro e w ⟨rfl, hS⟩; refine ⟨_, rfl, ?_⟩; clear a; intro a hE
      refine WL.vS hS hE (runs_plain rfl) (Gives.p hE rfl) rfl ?_; clear hE a; intro a hE
      refine WL.nil ?_
      refine W.cond hE rfl (fun hc79 => ?_) (fun hc79 => ?_)
      · replace hr := iteT hc79 hr
        refine W.seq ?_
        refine W.region ?_
        refine WL.vS hS hE (runs_plain rfl) (Gives.build hE (vs := []) [.slice none 0 0, .slice none 0 0] rfl (by kernel_rfl)) rfl ?_; clear hE a; intro a hE
        refine WL.storeI hE hS 0 rfl [.slice none 0 0, .slice none 0 0] (runs_plain rfl) rfl rfl rfl ty25 rfl rfl rfl rfl ?_; clear hE hS a w; intro a w hE hS
        refine WL.vS hS hE (runs_plain rfl) (Gives.p hE rfl) rfl ?_; clear hE a; intro a hE
        refine WL.nil ?_
        refine W.ret ?_
        refine finG (fn := Tryd.f5) (rs := [.cell 8 25, .tmp 9]) (vs := [_, _]) hE rfl ⟨⟨_, rfl, .inl ⟨_, rfl, hS.seesAt 0 rfl, ty25⟩⟩, rfl, trivial⟩ ?_
        obtain rfl := Option.some.inj hr
        replace hS := hS.tail
        replace hS := hS.tail
        replace hS := hS.tail
        exact ⟨_, s, rfl, (Sg.Le.refl _), ⟨_, _, _, _, rfl, Sl.nil, Sl.nil⟩, hS⟩
      · replace hr := iteF hc79 hr
        refine W.skip ?_
        refine W.seq ?_
        refine W.region ?_
        refine WL.vS hS hE (runs_plain rfl) (Gives.fld hE rfl fl25_0) rfl ?_; clear hE a; intro a hE
        refine WL.vS hS hE (runs_plain rfl) (Gives.loadB hE 2 rfl rfl rfl ty22) rfl ?_; clear hE a; intro a hE
        refine WL.vS hS hE (runs_plain rfl) (Gives.p hE rfl) rfl ?_; clear hE a; intro a hE
        obtain ⟨x80, hx81, hr⟩ := bindS hr
        obtain ⟨hi82, hlt83, hy84⟩ := gx_some hx81
        obtain ⟨cs85, hl86, hR87, hat88⟩ := h0_0.at hy84
        obtain ⟨a89, c90, a92, c93, rfl, h91, h94⟩ := hR87
        refine WL.vS hS hE (runs_plain rfl) (Gives.idx hE (x1).toNat rfl rfl sl22 hi82 hlt83 (h0_0.aok hlt83)) rfl ?_; clear hE a; intro a hE
        refine WL.vS hS hE (runs_plain rfl) (Gives.fld hE rfl fl37_2) rfl ?_; clear hE a; intro a hE
        refine WL.vS hS hE (runs_plain rfl) (Gives.load1 hE rfl (fun w h => (hat88 w _ h).one rfl) ty35) rfl ?_; clear hE a; intro a hE
        obtain ⟨q95, hq96, hr⟩ := bindS hr
        have hc_ := SlicesCloneLapiStop_ok hS h91 hq96
        refine WL.fnq hE (hc_) (runs_plain rfl) bd13 rfl rfl rfl ?_
        clear hE hS hc_; rintro e w ⟨a97, c98, n99, cs100, rfl, h101, rfl, hS⟩; refine ⟨_, rfl, ?_⟩; clear a; intro a hE
        refine WL.vS hS hE (runs_plain rfl) (Gives.p hE rfl) rfl ?_; clear hE a; intro a hE
        refine WL.nil ?_
        refine W.seq ?_
        refine W.region ?_
        refine WL.alloc hE hS (runs_plain rfl) zr4 rfl ?_; clear hE hS a w; intro b103 a w hE hS
        refine WL.storeI hE hS 0 rfl [.bool true] (runs_plain rfl) rfl rfl rfl ty4 rfl rfl rfl rfl ?_; clear hE hS a w; intro a w hE hS
        refine WL.nil ?_
        refine W.seq ?_
        refine W.region ?_
        refine WL.vS hS hE (runs_plain rfl) (Gives.mkfn hE (vs := [.pointer (some ⟨b103, 0, none⟩), .pointer (some ⟨b52, 0, none⟩)]) rfl) rfl ?_; clear hE a; intro a hE
        refine WL.vS hS hE (runs_plain rfl) (Gives.p hE rfl) rfl ?_; clear hE a; intro a hE
        refine WL.nil ?_
        refine W.seq ?_
        refine W.seq ?_
        refine W.region ?_
        refine WL.vS hS hE (runs_plain rfl) (Gives.p hE rfl) rfl ?_; clear hE a; intro a hE
        refine WL.vS hS hE (runs_plain rfl) (Gives.p hE rfl) rfl ?_; clear hE a; intro a hE
        refine WL.nil ?_
        obtain ⟨q105, hq104, hr⟩ := bindS hr
        refine W.cut (fun a w => ∃ (q110 : Int), ∃ (q111 : List ApiStop), ∃ (q117 : Bool), ∃ (cs115 : List Value), (q110, q111, q117) = q105 ∧ Ev 4 RApiStop s cs115 q111 ∧ q111.length = q95.length ∧ Rep a 101 [(1, .int .i64 x1), (4, .pointer (some ⟨b51, 0, none⟩)), (8, .pointer (some ⟨b53, 0, none⟩)), (10, .slice a97 q95.length c98), (11, .pointer (some ⟨b103, 0, none⟩))] ∧ St w s (pt b103 (.cells #[.bool q117] 4 (0, 0)) :: vecC 41 4 a97 c98 q95.length cs115 :: pt b53 (.cells #[.slice none 0 0, .slice none 0 0] 25 (0, 0)) :: pt b52 (.cells #[.int .i64 x3] 3 (0, 0)) :: pt b51 (.cells #[.slice a0_0 x0.Trains.length c0_0, .slice a0_1 x0.Turns.length c0_1] 25 (0, 0)) :: R)) ?_ ?_
        · refine W.block ?_
          refine W.loop (fun m a w => ∃ (n106 : Nat), ∃ (q110 : Int), ∃ (q111 : List ApiStop), ∃ (q117 : Bool), ∃ (cs115 : List Value), n106 = m ∧ Fishref2ShiftOf.loop1 x2 x3 q95 n106 q110 q111 q117 = some q105 ∧ Ev 4 RApiStop s cs115 q111 ∧ q111.length = q95.length ∧ Rep a 101 [(1, .int .i64 x1), (2, .int .i64 x2), (4, .pointer (some ⟨b51, 0, none⟩)), (8, .pointer (some ⟨b53, 0, none⟩)), (10, .slice a97 q95.length c98), (11, .pointer (some ⟨b103, 0, none⟩)), (12, .func (.func 14) #[] #[.pointer (some ⟨b103, 0, none⟩), .pointer (some ⟨b52, 0, none⟩)]), (13, .int .i64 q110)] ∧ St w s (pt b103 (.cells #[.bool q117] 4 (0, 0)) :: vecC 41 4 a97 c98 q95.length cs115 :: pt b53 (.cells #[.slice none 0 0, .slice none 0 0] 25 (0, 0)) :: pt b52 (.cells #[.int .i64 x3] 3 (0, 0)) :: pt b51 (.cells #[.slice a0_0 x0.Trains.length c0_0, .slice a0_1 x0.Turns.length c0_1] 25 (0, 0)) :: R)) (m := fu) ⟨fu, x2, q95, true, cs100, rfl, hq104, h101, rfl, hE.pick _ ⟨rfl, rfl, rfl, rfl, rfl, rfl, rfl, rfl, trivial⟩, hS⟩ ?_
          clear hE hS a w hq104; rintro m107 a w ⟨n106, q110, q111, q117, cs115, rfl, hq104, h114, hn116, hE, hS⟩
          refine W.gen fun K118 hK118 => ?_
          rcases n106 with _ | n106
          · rw [Fishref2ShiftOf.loop1] at hq104; exact absurd hq104 (by simp)
          rw [Fishref2ShiftOf.loop1] at hq104
          refine W.seq ?_
          refine W.seq ?_
          refine W.region ?_
          refine WL.vS hS hE (runs_plain rfl) (Gives.p hE rfl) rfl ?_; clear hE a; intro a hE
          refine WL.vS hS hE (runs_plain rfl) (Gives.p hE rfl) rfl ?_; clear hE a; intro a hE
          refine WL.vS hS hE (runs_plain rfl) (Gives.len hE rfl sl35) rfl ?_; clear hE a; intro a hE
          refine WL.vS hS hE (runs_plain rfl) (Gives.p hE rfl) rfl ?_; clear hE a; intro a hE
          refine WL.nil ?_
          refine W.cond hE rfl (fun hc119 => ?_) (fun hc119 => ?_)
          · replace hq104 := iteT hc119 hq104
            refine W.skip ?_
            refine W.seq ?_
            refine W.block ?_
            refine W.seq ?_
            refine W.seq ?_
            obtain ⟨q121, hq120, hq104⟩ := bndS hq104
            refine W.cut (fun a w => ∃ (q124 : Bool), q124 = q121 ∧ Rep a 101 [(1, .int .i64 x1), (2, .int .i64 x2), (4, .pointer (some ⟨b51, 0, none⟩)), (8, .pointer (some ⟨b53, 0, none⟩)), (10, .slice a97 q95.length c98), (11, .pointer (some ⟨b103, 0, none⟩)), (12, .func (.func 14) #[] #[.pointer (some ⟨b103, 0, none⟩), .pointer (some ⟨b52, 0, none⟩)]), (13, .int .i64 q110), (72, .bool q124)] ∧ St w s (pt b103 (.cells #[.bool q117] 4 (0, 0)) :: vecC 41 4 a97 c98 q95.length cs115 :: pt b53 (.cells #[.slice none 0 0, .slice none 0 0] 25 (0, 0)) :: pt b52 (.cells #[.int .i64 x3] 3 (0, 0)) :: pt b51 (.cells #[.slice a0_0 x0.Trains.length c0_0, .slice a0_1 x0.Turns.length c0_1] 25 (0, 0)) :: R)) ?_ ?_
            · refine W.gen fun K125 hK125 => ?_
              refine W.region ?_
              refine WL.vS hS hE (runs_plain rfl) (Gives.p hE rfl) rfl ?_; clear hE a; intro a hE
              refine WL.vS hS hE (runs_plain rfl) (Gives.p hE rfl) rfl ?_; clear hE a; intro a hE
              refine WL.vS hS hE (runs_plain rfl) (Gives.p hE rfl) rfl ?_; clear hE a; intro a hE
              refine WL.vS hS hE (runs_plain rfl) (Gives.p hE rfl) rfl ?_; clear hE a; intro a hE
              rcases Bool.eq_false_or_eq_true (decide (q110 > x2)) with hg126 | hg126
              · replace hq120 := iteT hg126 hq120
                refine WL.no hE (runs_not hE rfl rfl rfl (by rw [hg126]; decide)) rfl ?_; clear hE a; intro a hE
                refine WL.no hE (runs_not hE rfl rfl rfl (by rw [hg126]; decide)) rfl ?_; clear hE a; intro a hE
                refine WL.vS hS hE (runs_plain rfl) (Gives.pickT hE rfl hg126 rfl) rfl ?_; clear hE a; intro a hE
                refine WL.vS hS hE (runs_plain rfl) (Gives.p hE rfl) rfl ?_; clear hE a; intro a hE
                refine WL.no hE (runs_not hE rfl rfl rfl (by decide)) rfl ?_; clear hE a; intro a hE
                refine WL.no hE (runs_not hE rfl rfl rfl (by decide)) rfl ?_; clear hE a; intro a hE
                refine WL.no hE (runs_not hE rfl rfl rfl (by decide)) rfl ?_; clear hE a; intro a hE
                refine WL.no hE (runs_not hE rfl rfl rfl (by decide)) rfl ?_; clear hE a; intro a hE
                refine WL.no hE (runs_not hE rfl rfl rfl (by decide)) rfl ?_; clear hE a; intro a hE
                refine WL.vS hS hE (runs_plain rfl) (Gives.pickT hE rfl rfl rfl) rfl ?_; clear hE a; intro a hE
                refine WL.nil ?_
                subst hK125
                exact ⟨true, hq120, hE.pick _ ⟨rfl, rfl, rfl, rfl, rfl, rfl, rfl, rfl, rfl, trivial⟩, hS⟩
              · replace hq120 := iteF hg126 hq120
                refine WL.vS hS hE (runs_if hE rfl rfl rfl hg126) (Gives.p hE rfl) rfl ?_; clear hE a; intro a hE
                refine WL.vS hS hE (runs_if hE rfl rfl rfl hg126) (Gives.p hE rfl) rfl ?_; clear hE a; intro a hE
                refine WL.vS hS hE (runs_plain rfl) (Gives.pickF hE rfl hg126 rfl) rfl ?_; clear hE a; intro a hE
                refine WL.vS hS hE (runs_plain rfl) (Gives.p hE rfl) rfl ?_; clear hE a; intro a hE
                rcases Bool.eq_false_or_eq_true (q110 == 0) with hg127 | hg127
                · replace hq120 := iteT hg127 hq120
                  refine WL.no hE (runs_not hE rfl rfl rfl (by rw [hg127]; decide)) rfl ?_; clear hE a; intro a hE
                  refine WL.no hE (runs_not hE rfl rfl rfl (by rw [hg127]; decide)) rfl ?_; clear hE a; intro a hE
                  refine WL.no hE (runs_not hE rfl rfl rfl (by rw [hg127]; decide)) rfl ?_; clear hE a; intro a hE
                  refine WL.no hE (runs_not hE rfl rfl rfl (by rw [hg127]; decide)) rfl ?_; clear hE a; intro a hE
                  refine WL.no hE (runs_not hE rfl rfl rfl (by rw [hg127]; decide)) rfl ?_; clear hE a; intro a hE
                  refine WL.vS hS hE (runs_plain rfl) (Gives.pickT hE rfl hg127 rfl) rfl ?_; clear hE a; intro a hE
                  refine WL.nil ?_
                  subst hK125
                  exact ⟨true, hq120, hE.pick _ ⟨rfl, rfl, rfl, rfl, rfl, rfl, rfl, rfl, rfl, trivial⟩, hS⟩
                · replace hq120 := iteF hg127 hq120
                  refine WL.vS hS hE (runs_if hE rfl rfl rfl hg127) (Gives.p hE rfl) rfl ?_; clear hE a; intro a hE
                  refine WL.vS hS hE (runs_if hE rfl rfl rfl hg127) (Gives.p hE rfl) rfl ?_; clear hE a; intro a hE
                  refine WL.vS hS hE (runs_if hE rfl rfl rfl hg127) (Gives.len hE rfl sl35) rfl ?_; clear hE a; intro a hE
                  refine WL.vS hS hE (runs_if hE rfl rfl rfl hg127) (Gives.p hE rfl) rfl ?_; clear hE a; intro a hE
                  refine WL.vS hS hE (runs_if hE rfl rfl rfl hg127) (Gives.p hE rfl) rfl ?_; clear hE a; intro a hE
                  refine WL.vS hS hE (runs_plain rfl) (Gives.pickF hE rfl hg127 rfl) rfl ?_; clear hE a; intro a hE
                  refine WL.nil ?_
                  subst hK125
                  exact ⟨(q110 == (w64 (((q95.length : Nat) : Int) - 1))), hq120, hE.pick _ ⟨rfl, rfl, rfl, rfl, rfl, rfl, rfl, rfl, rfl, trivial⟩, hS⟩
            · clear hE hS a w; rintro a w ⟨q124, rfl, hE, hS⟩
              refine W.cond hE rfl (fun hc128 => ?_) (fun hc128 => ?_)
              · replace hq104 := iteT hc128 hq104
                refine W.region ?_
                refine WL.vS hS hE (runs_plain rfl) (Gives.p hE rfl) rfl ?_; clear hE a; intro a hE
                refine WL.vS hS hE (runs_plain rfl) (Gives.p hE rfl) rfl ?_; clear hE a; intro a hE
                refine WL.vS hS hE (runs_plain rfl) (Gives.p hE rfl) rfl ?_; clear hE a; intro a hE
                obtain ⟨x129, hx130, hq104⟩ := bindS hq104
                obtain ⟨hi131, hlt132, hy133⟩ := gx_some hx130
                obtain ⟨vs134, hl135, hR136, hd137, hget138⟩ := h114.at hy133
                subst hR136
                refine WL.vS hS hE (runs_plain rfl) (Gives.idx hE ((q110).toNat) rfl rfl sl35 hi131 (by have := hn116; omega) (hS.vecAok 1 rfl (by have := hn116; omega : (q110).toNat < q95.length))) rfl ?_; clear hE a; intro a hE
                refine WL.vS hS hE (runs_plain rfl) (Gives.fld hE rfl fl41_2) rfl ?_; clear hE a; intro a hE
                replace hS := hS.front 1 rfl
                have hc139 : (cs115)[(q110).toNat * 4 + 2]? = some (.int .i64 x129.Arr) := hget138 2 _ rfl
                have hF := hS.plcOpen hc139; clear hS; obtain ⟨hS, hz140⟩ := hF
                obtain ⟨q142, hq143, hq104⟩ := bndS hq104
                replace hS := hS.front 3 rfl
                replace hS := hS.front 2 rfl
                replace hS := hS.front 2 rfl
                have hc_ := Fishref2ShiftOf_1_v1_ok hS hz140 hq143
                refine WL.fnw hE (hc_) rfl (runs_plain rfl) bd14 rfl rfl rfl ?_
                clear hE hS hc_; rintro e w ⟨rfl, hS⟩; refine ⟨_, rfl, ?_⟩; clear a; intro a hE
                obtain ⟨q144, hq145, hq104⟩ := bndS hq104
                have hF := hS.plcClose (vs := [.int .i64 x129.Station, .int .i64 x129.Track, .int .i64 x129.Arr, .int .i64 x129.Dep]) (x := (ApiStop.mk x129.Station x129.Track q142.1 x129.Dep)) h114 hn116 hget138 rfl rfl rfl; clear hS; rw [hq145] at hF; obtain ⟨cs146, hS, h147, hn148⟩ := hF
                refine WL.nil ?_
                refine W.region ?_
                refine WL.vS hS hE (runs_plain rfl) (Gives.p hE rfl) rfl ?_; clear hE a; intro a hE
                refine WL.vS hS hE (runs_plain rfl) (Gives.p hE rfl) rfl ?_; clear hE a; intro a hE
                refine WL.vS hS hE (runs_plain rfl) (Gives.p hE rfl) rfl ?_; clear hE a; intro a hE
                obtain ⟨x149, hx150, hq104⟩ := bindS hq104
                obtain ⟨hi151, hlt152, hy153⟩ := gx_some hx150
                obtain ⟨vs154, hl155, hR156, hd157, hget158⟩ := h147.at hy153
                subst hR156
                refine WL.vS hS hE (runs_plain rfl) (Gives.idx hE ((q110).toNat) rfl rfl sl35 hi151 (by have := hn148; omega) (hS.vecAok 0 rfl (by have := hn148; omega : (q110).toNat < q95.length))) rfl ?_; clear hE a; intro a hE
                refine WL.vS hS hE (runs_plain rfl) (Gives.fld hE rfl fl41_3) rfl ?_; clear hE a; intro a hE
                have hc159 : (cs146)[(q110).toNat * 4 + 3]? = some (.int .i64 x149.Dep) := hget158 3 _ rfl
                have hF := hS.plcOpen hc159; clear hS; obtain ⟨hS, hz160⟩ := hF
                obtain ⟨q162, hq163, hq104⟩ := bndS hq104
                have hc_ := Fishref2ShiftOf_1_v1_ok hS hz160 hq163
                refine WL.fnw hE (hc_) rfl (runs_plain rfl) bd14 rfl rfl rfl ?_
                clear hE hS hc_; rintro e w ⟨rfl, hS⟩; refine ⟨_, rfl, ?_⟩; clear a; intro a hE
                obtain ⟨q164, hq165, hq104⟩ := bndS hq104
                have hF := hS.plcClose (vs := [.int .i64 x149.Station, .int .i64 x149.Track, .int .i64 x149.Arr, .int .i64 x149.Dep]) (x := (ApiStop.mk x149.Station x149.Track x149.Arr q162.1)) h147 hn148 hget158 rfl rfl rfl; clear hS; rw [hq165] at hF; obtain ⟨cs166, hS, h167, hn168⟩ := hF
                refine WL.nil ?_
                refine W.region ?_
                refine WL.vS hS hE (runs_plain rfl) (Gives.p hE rfl) rfl ?_; clear hE a; intro a hE
                refine WL.vS hS hE (runs_plain rfl) (Gives.p hE rfl) rfl ?_; clear hE a; intro a hE
                refine WL.vS hS hE (runs_plain rfl) (Gives.p hE rfl) rfl ?_; clear hE a; intro a hE
                refine WL.nil ?_
                replace hS := hS.front 4 rfl
                replace hS := hS.front 3 rfl
                replace hS := hS.front 4 rfl
                replace hS := hS.front 3 rfl
                replace hS := hS.front 4 rfl
                subst hK118
                exact ⟨n106, Nat.lt_succ_self _, n106, (w64 (q110 + 1)), q164, q162.2, cs166, rfl, hq104, h167, hn168, hE.pick _ ⟨rfl, rfl, rfl, rfl, rfl, rfl, rfl, rfl, trivial⟩, hS⟩
              · replace hq104 := iteF hc128 hq104
                refine W.skip ?_
                refine W.region ?_
                refine WL.vS hS hE (runs_plain rfl) (Gives.p hE rfl) rfl ?_; clear hE a; intro a hE
                refine WL.vS hS hE (runs_plain rfl) (Gives.p hE rfl) rfl ?_; clear hE a; intro a hE
                refine WL.vS hS hE (runs_plain rfl) (Gives.p hE rfl) rfl ?_; clear hE a; intro a hE
                obtain ⟨x169, hx170, hq104⟩ := bindS hq104
                obtain ⟨hi171, hlt172, hy173⟩ := gx_some hx170
                obtain ⟨vs174, hl175, hR176, hd177, hget178⟩ := h114.at hy173
                subst hR176
                refine WL.vS hS hE (runs_plain rfl) (Gives.idx hE ((q110).toNat) rfl rfl sl35 hi171 (by have := hn116; omega) (hS.vecAok 1 rfl (by have := hn116; omega : (q110).toNat < q95.length))) rfl ?_; clear hE a; intro a hE
                refine WL.vS hS hE (runs_plain rfl) (Gives.fld hE rfl fl41_3) rfl ?_; clear hE a; intro a hE
                replace hS := hS.front 1 rfl
                have hc179 : (cs115)[(q110).toNat * 4 + 3]? = some (.int .i64 x169.Dep) := hget178 3 _ rfl
                have hF := hS.plcOpen hc179; clear hS; obtain ⟨hS, hz180⟩ := hF
                obtain ⟨q182, hq183, hq104⟩ := bndS hq104
                replace hS := hS.front 3 rfl
                replace hS := hS.front 2 rfl
                replace hS := hS.front 2 rfl
                have hc_ := Fishref2ShiftOf_1_v1_ok hS hz180 hq183
                refine WL.fnw hE (hc_) rfl (runs_plain rfl) bd14 rfl rfl rfl ?_
                clear hE hS hc_; rintro e w ⟨rfl, hS⟩; refine ⟨_, rfl, ?_⟩; clear a; intro a hE
                obtain ⟨q184, hq185, hq104⟩ := bndS hq104
                have hF := hS.plcClose (vs := [.int .i64 x169.Station, .int .i64 x169.Track, .int .i64 x169.Arr, .int .i64 x169.Dep]) (x := (ApiStop.mk x169.Station x169.Track x169.Arr q182.1)) h114 hn116 hget178 rfl rfl rfl; clear hS; rw [hq185] at hF; obtain ⟨cs186, hS, h187, hn188⟩ := hF
                refine WL.nil ?_
                refine W.region ?_
                refine WL.vS hS hE (runs_plain rfl) (Gives.p hE rfl) rfl ?_; clear hE a; intro a hE
                refine WL.vS hS hE (runs_plain rfl) (Gives.p hE rfl) rfl ?_; clear hE a; intro a hE
                refine WL.vS hS hE (runs_plain rfl) (Gives.p hE rfl) rfl ?_; clear hE a; intro a hE
                refine WL.nil ?_
                replace hS := hS.front 4 rfl
                replace hS := hS.front 3 rfl
                replace hS := hS.front 4 rfl
                replace hS := hS.front 3 rfl
                replace hS := hS.front 4 rfl
                subst hK118
                exact ⟨n106, Nat.lt_succ_self _, n106, (w64 (q110 + 1)), q184, q182.2, cs186, rfl, hq104, h187, hn188, hE.pick _ ⟨rfl, rfl, rfl, rfl, rfl, rfl, rfl, rfl, trivial⟩, hS⟩
          · replace hq104 := iteF hc119 hq104
            subst hK118
            refine W.exit rfl ?_
            exact ⟨q110, q111, q117, cs115, Option.some.inj hq104, h114, hn116, hE.pick _ ⟨rfl, rfl, rfl, rfl, rfl, trivial⟩, hS⟩
        · clear hE hS a w; rintro a w ⟨q110, q111, q117, cs115, rfl, h114, hn116, hE, hS⟩
          dsimp only at hr
          refine W.seq ?_
          refine W.seq ?_
          refine W.region ?_
          refine WL.vS hS hE (runs_plain rfl) (Gives.loadB hE 0 rfl rfl rfl ty4) rfl ?_; clear hE a; intro a hE
          refine WL.vS hS hE (runs_plain rfl) (Gives.p hE rfl) rfl ?_; clear hE a; intro a hE
          refine WL.nil ?_
          refine W.cond hE rfl (fun hc189 => ?_) (fun hc189 => ?_)
          · replace hr := iteT hc189 hr
            refine W.seq ?_
            refine W.region ?_
            refine WL.vS hS hE (runs_plain rfl) (Gives.build hE (vs := []) [.slice none 0 0, .slice none 0 0] rfl (by kernel_rfl)) rfl ?_; clear hE a; intro a hE
            refine WL.storeI hE hS 2 rfl [.slice none 0 0, .slice none 0 0] (runs_plain rfl) rfl rfl rfl ty25 rfl rfl rfl rfl ?_; clear hE hS a w; intro a w hE hS
            refine WL.vS hS hE (runs_plain rfl) (Gives.p hE rfl) rfl ?_; clear hE a; intro a hE
            refine WL.nil ?_
            refine W.ret ?_
            refine finG (fn := Tryd.f5) (rs := [.cell 8 25, .tmp 9]) (vs := [_, _]) hE rfl ⟨⟨_, rfl, .inl ⟨_, rfl, hS.seesAt 2 rfl, ty25⟩⟩, rfl, trivial⟩ ?_
            obtain rfl := Option.some.inj hr
            replace hS := hS.tail
            replace hS := hS.tail
            replace hS := hS.tail
            replace hS := hS.tail
            replace hS := hS.tail
            exact ⟨_, s, rfl, (Sg.Le.refl _), ⟨_, _, _, _, rfl, Sl.nil, Sl.nil⟩, hS⟩
          · replace hr := iteF hc189 hr
            refine W.skip ?_
            refine W.seq ?_
            refine W.gen fun K190 hK190 => ?_
            refine rE hS [] [] [0, 1, 2, 3, 4, 5, 6, 7] [0, 1, 2, 3, 4, 5, 6, 7] mixed ?_
            replace hS := hS.drew
            refine Rg.takeP (i := 0) hE rfl (by kernel_rfl) (runs_plain rfl) (Gives.fld hE rfl fl25_0) rfl (tw_sel (fun _ => hS) (fun _ => hS)) ?_; clear hE a; intro a hE
            refine Rg.take (i := 1) true rfl hE rfl (by kernel_rfl) (runs_plain rfl) (Gives.loadB hE 4 rfl rfl rfl ty22) rfl (tw_sel (fun _ => hS) (fun _ => hS)) ?_; clear hE a; intro a hE
            refine Rg.takeP (i := 3) hE rfl (by kernel_rfl) (runs_plain rfl) (Gives.fld hE rfl fl25_1) rfl (tw_sel (fun _ => hS) (fun _ => hS)) ?_; clear hE a; intro a hE
            refine Rg.take (i := 4) true rfl hE rfl (by kernel_rfl) (runs_plain rfl) (Gives.loadB hE 4 rfl rfl rfl ty23) rfl (tw_sel (fun _ => hS) (fun _ => hS)) ?_; clear hE a; intro a hE
            obtain ⟨q191, hq192, hr⟩ := bindS hr
            suffices key : ∀ cs196 b199 a193 c194 (a : Act) (w : World), Sl 1 (RL 1 (RI .i64)) s a0_1 c0_1 x0.Turns → Ev 4 RApiTrain s cs196 q191 → Ev 4 RApiStop s cs115 q111 → (q111).length = q95.length → Sl 4 RApiTrain s a0_0 c0_0 x0.Trains → Rep a 101 [(1, .int .i64 x1), (8, .pointer (some ⟨b53, 0, none⟩)), (10, .slice a97 q95.length c98), (14, .pointer (some ⟨b199, 0, none⟩))] → St w s (pt b199 (.cells #[.slice a193 q191.length c194, .slice a0_1 x0.Turns.length c0_1] 25 (0, 0)) :: vecC 37 4 a193 c194 q191.length cs196 :: pt b103 (.cells #[.bool q117] 4 (0, 0)) :: vecC 41 4 a97 c98 q95.length cs115 :: pt b53 (.cells #[.slice none 0 0, .slice none 0 0] 25 (0, 0)) :: pt b52 (.cells #[.int .i64 x3] 3 (0, 0)) :: pt b51 (.cells #[.slice a0_0 x0.Trains.length c0_0, .slice a0_1 x0.Turns.length c0_1] 25 (0, 0)) :: R) → K190.nor a w by
              refine Rg.many 2 [6] (by kernel_rfl) ⟨?_, ?_, trivial⟩
              · refine Br.mk (i := 2) true true rfl (by kernel_rfl) (by kernel_rfl) ?_
                have hc_ := SlicesCloneLapiTrain_ok hS h0_0 hq192
                refine WL.fnq hE (hc_) (runs_plain rfl) bd15 rfl rfl rfl ?_
                clear hE hS hc_; rintro e w ⟨a193, c194, n195, cs196, rfl, h197, rfl, hS⟩; refine ⟨_, rfl, ?_⟩; clear a; intro a hE
                refine WL.nil ?_
                refine ⟨⟨fun _ => (hS.tail), fun _ => (hS.tail)⟩, ?_⟩
                refine Rg.takeP (i := 5) hE rfl (by kernel_rfl) (runs_plain rfl) (Gives.build hE (vs := [(0, .slice a193 q191.length c194), (1, .slice a0_1 x0.Turns.length c0_1)]) [.slice a193 q191.length c194, .slice a0_1 x0.Turns.length c0_1] rfl (by kernel_rfl)) rfl (tw_sel (fun _ => (hS.tail)) (fun _ => (hS.tail))) ?_; clear hE a; intro a hE
                refine Rg.one (i := 6) true true rfl (by kernel_rfl) (by kernel_rfl) (by kernel_rfl) ?_
                refine WL.alloc hE hS (runs_plain rfl) zr25 rfl ?_; clear hE hS a w; intro b199 a w hE hS
                refine WL.nil ?_
                refine ⟨⟨fun _ => ((hS.tail).tail), fun _ => ((hS.tail).tail)⟩, ?_⟩
                refine Rg.one (i := 7) true true rfl (by kernel_rfl) (by kernel_rfl) (by kernel_rfl) ?_
                refine WL.storeI hE hS 0 rfl [.slice a193 q191.length c194, .slice a0_1 x0.Turns.length c0_1] (runs_plain rfl) rfl rfl rfl ty25 rfl rfl rfl rfl ?_; clear hE hS a w; intro a w hE hS
                refine WL.nil ?_
                refine ⟨⟨fun _ => ((hS.tail).tail), fun _ => ((hS.tail).tail)⟩, ?_⟩
                refine Rg.done (by kernel_rfl) ?_
                exact key _ _ _ _ _ _ h0_1 h197 h114 hn116 h0_0 (hE.pick _ ⟨rfl, rfl, rfl, rfl, trivial⟩) hS
              · refine Br.mk (i := 6) true true rfl (by kernel_rfl) (by kernel_rfl) ?_
                refine WL.alloc hE hS (runs_plain rfl) zr25 rfl ?_; clear hE hS a w; intro b199 a w hE hS
                refine WL.nil ?_
                refine ⟨⟨fun _ => (hS.tail), fun _ => (hS.tail)⟩, ?_⟩
                refine Rg.one (i := 2) true true rfl (by kernel_rfl) (by kernel_rfl) (by kernel_rfl) ?_
                have hc_ := SlicesCloneLapiTrain_ok hS h0_0 hq192
                refine WL.fnq hE (hc_) (runs_plain rfl) bd15 rfl rfl rfl ?_
                clear hE hS hc_; rintro e w ⟨a193, c194, n195, cs196, rfl, h197, rfl, hS⟩; refine ⟨_, rfl, ?_⟩; clear a; intro a hE
                refine WL.nil ?_
                refine ⟨⟨fun _ => ((hS.tail).tail), fun _ => ((hS.tail).tail)⟩, ?_⟩
                refine Rg.takeP (i := 5) hE rfl (by kernel_rfl) (runs_plain rfl) (Gives.build hE (vs := [(0, .slice a193 q191.length c194), (1, .slice a0_1 x0.Turns.length c0_1)]) [.slice a193 q191.length c194, .slice a0_1 x0.Turns.length c0_1] rfl (by kernel_rfl)) rfl (tw_sel (fun _ => ((hS.tail).tail)) (fun _ => ((hS.tail).tail))) ?_; clear hE a; intro a hE
                refine Rg.one (i := 7) true true rfl (by kernel_rfl) (by kernel_rfl) (by kernel_rfl) ?_
                refine WL.storeI hE hS 1 rfl [.slice a193 q191.length c194, .slice a0_1 x0.Turns.length c0_1] (runs_plain rfl) rfl rfl rfl ty25 rfl rfl rfl rfl ?_; clear hE hS a w; intro a w hE hS
                refine WL.nil ?_
                refine ⟨⟨fun _ => ((hS.tail).tail), fun _ => ((hS.tail).tail)⟩, ?_⟩
                refine Rg.done (by kernel_rfl) ?_
                replace hS := hS.front 6 rfl
                replace hS := hS.front 6 rfl
                replace hS := hS.front 6 rfl
                replace hS := hS.front 6 rfl
                replace hS := hS.front 6 rfl
                replace hS := hS.front 5 rfl
                replace hS := hS.front 6 rfl
                exact key _ _ _ _ _ _ h0_1 h197 h114 hn116 h0_0 (hE.pick _ ⟨rfl, rfl, rfl, rfl, trivial⟩) hS
            clear hE hS a w; intro cs196 b199 a193 c194 a w h0_1 h197 h114 hn116 h0_0 hE hS
            subst hK190
            refine W.seq ?_
            refine W.region ?_
            refine WL.vS hS hE (runs_plain rfl) (Gives.fld hE rfl fl25_0) rfl ?_; clear hE a; intro a hE
            refine WL.vS hS hE (runs_plain rfl) (Gives.loadB hE 0 rfl rfl rfl ty22) rfl ?_; clear hE a; intro a hE
            refine WL.vS hS hE (runs_plain rfl) (Gives.p hE rfl) rfl ?_; clear hE a; intro a hE
            refine WL.vS hS hE (runs_plain rfl) (Gives.p hE rfl) rfl ?_; clear hE a; intro a hE
            obtain ⟨x201, hx202, hr⟩ := bindS hr
            obtain ⟨hi203, hlt204, hy205⟩ := gx_some hx202
            obtain ⟨vs206, hl207, hR208, hd209, hget210⟩ := h197.at hy205
            obtain ⟨a211, c212, a214, c215, rfl, h213, h216⟩ := hR208
            refine WL.vS hS hE (runs_plain rfl) (Gives.idx hE ((x1).toNat) rfl rfl sl22 hi203 (by omega) (hS.vecAok 1 rfl (by omega : (x1).toNat < q191.length))) rfl ?_; clear hE a; intro a hE
            refine WL.vS hS hE (runs_plain rfl) (Gives.fld hE rfl fl37_2) rfl ?_; clear hE a; intro a hE
            have hF := hS.fixD RApiStop.mono 3 rfl h114 hn116; clear hS; obtain ⟨s217, hle218, hS, h219⟩ := hF
            (try rw [← hn116] at hE)
            (try rw [← hn116] at hS)
            replace h0_1 := Sl.mono (RL.mono RI.mono) hle218 h0_1
            replace h197 := Ev.mono RApiTrain.mono hle218 h197
            replace h0_0 := Sl.mono RApiTrain.mono hle218 h0_0
            replace h213 := Sl.mono RApiStop.mono hle218 h213
            replace h216 := Sl.mono (RL.mono RI.mono) hle218 h216
            replace hS := hS.front 1 rfl
            have hc220 : (cs196)[(x1).toNat * 4 + 2]? = some (.slice a211 x201.Stops.length c212) := hget210 2 _ rfl
            have hF := hS.plcOpen hc220; clear hS; obtain ⟨hS, hz221⟩ := hF
            refine WL.storeZ hz221 hE hS 0 rfl (runs_plain rfl) rfl rfl rfl ty35 rfl rfl ?_; clear hE hS a w; intro a w hE hS
            obtain ⟨q223, hq224, hr⟩ := bndS hr
            have hF := hS.plcClose (vs := [.int .i64 x201.No, .int .i64 x201.Stock, .slice a211 x201.Stops.length c212, .slice a214 x201.Legs.length c215]) (x := (ApiTrain.mk x201.No x201.Stock q111 x201.Legs)) h197 rfl hget210 rfl rfl ⟨_, _, _, _, rfl, h219, h216⟩; clear hS; rw [hq224] at hF; obtain ⟨cs225, hS, h226, hn227⟩ := hF
            refine WL.nil ?_
            refine W.seq ?_
            refine W.region ?_
            refine WL.vS hS hE (runs_plain rfl) (Gives.loadBA hE 1 rfl rfl ty25) rfl ?_; clear hE a; intro a hE
            refine WL.storeI hE hS 3 rfl [.slice a193 q191.length c194, .slice a0_1 x0.Turns.length c0_1] (runs_plain rfl) rfl rfl rfl ty25 rfl rfl rfl rfl ?_; clear hE hS a w; intro a w hE hS
            refine WL.vS hS hE (runs_plain rfl) (Gives.p hE rfl) rfl ?_; clear hE a; intro a hE
            refine WL.nil ?_
            refine W.ret ?_
            have hF := hS.fixD RApiTrain.mono 0 rfl h226 hn227; clear hS; obtain ⟨s228, hle229, hS, h230⟩ := hF
            (try rw [← hn227] at hE)
            (try rw [← hn227] at hS)
            replace h219 := Sl.mono RApiStop.mono hle229 h219
            replace h0_1 := Sl.mono (RL.mono RI.mono) hle229 h0_1
            replace h0_0 := Sl.mono RApiTrain.mono hle229 h0_0
            refine finG (fn := Tryd.f5) (rs := [.cell 8 25, .tmp 9]) (vs := [_, _]) hE rfl ⟨⟨_, rfl, .inl ⟨_, rfl, hS.seesAt 2 rfl, ty25⟩⟩, rfl, trivial⟩ ?_
            obtain rfl := Option.some.inj hr
            replace hS := hS.tail
            replace hS := hS.tail
            replace hS := hS.tail
            replace hS := hS.tail
            replace hS := hS.tail
            exact ⟨_, s228, rfl, (Sg.Le.trans hle218 hle229), ⟨_, _, _, _, rfl, h230, h0_1⟩, hS⟩
set_option maxHeartbeats 8000000 in
theorem Planform_ok  {w : World} {s : Sg} {R : List HP} {x0 : ApiDay} {a0_0 : Option Addr} {c0_0 : Nat} {a0_1 : Option Addr} {c0_1 : Nat} (hS : St w s (R)) (h0_0 : Sl 4 RApiTrain s a0_0 c0_0 x0.Trains) (h0_1 : Sl 1 (RL 1 (RI .i64)) s a0_1 c0_1 x0.Turns) {r : Int} (hr : Planform x0 = r) :
    Calls Tryd.prog 24 [.agg (List.toArray [.slice a0_0 x0.Trains.length c0_0, .slice a0_1 x0.Turns.length c0_1])].toArray w (fun e w => e = .returned (.int .i64 r) ∧ St w s (R)) := by
  refine enter Tryd.func24 rfl rfl rfl fun a hE => ?_
  rw [Planform] at hr
  refine W.seq ?_
  refine W.region ?_
  refine WL.box hE hS (runs_plain rfl) rfl rfl rfl ?_; clear hE hS a w; intro b51 a w hE hS
  refine WL.vS hS hE (runs_plain rfl) (Gives.p hE rfl) rfl ?_; clear hE a; intro a hE
  refine WL.nil ?_
  refine W.seq ?_
  refine W.seq ?_
  obtain ⟨q53, hq52, hr⟩ := bndS hr
  refine W.cut (fun a w => ∃ (q56 : Bool), q56 = q53 ∧ Rep a 85 [(1, .pointer (some ⟨b51, 0, none⟩)), (20, .bool q56)] ∧ St w s (pt b51 (.cells #[.slice a0_0 x0.Trains.length c0_0, .slice a0_1 x0.Turns.length c0_1] 25 (0, 0)) :: R)) ?_ ?_
  · refine W.gen fun K57 hK57 => ?_
    refine W.region ?_
    refine WL.vS hS hE (runs_plain rfl) (Gives.fld hE rfl fl25_0) rfl ?_; clear hE a; intro a hE
    refine WL.vS hS hE (runs_plain rfl) (Gives.loadB hE 0 rfl rfl rfl ty22) rfl ?_; clear hE a; intro a hE
    refine WL.vS hS hE (runs_plain rfl) (Gives.len hE rfl sl22) rfl ?_; clear hE a; intro a hE
    refine WL.vS hS hE (runs_plain rfl) (Gives.p hE rfl) rfl ?_; clear hE a; intro a hE
    refine WL.vS hS hE (runs_plain rfl) (Gives.p hE rfl) rfl ?_; clear hE a; intro a hE
    rcases Bool.eq_false_or_eq_true (decide (((x0.Trains).length : Int) > 12)) with hg58 | hg58
    · replace hq52 := iteT hg58 hq52
      refine WL.no hE (runs_not hE rfl rfl rfl (by rw [hg58]; decide)) rfl ?_; clear hE a; intro a hE
      refine WL.no hE (runs_not hE rfl rfl rfl (by rw [hg58]; decide)) rfl ?_; clear hE a; intro a hE
      refine WL.no hE (runs_not hE rfl rfl rfl (by rw [hg58]; decide)) rfl ?_; clear hE a; intro a hE
      refine WL.no hE (runs_not hE rfl rfl rfl (by rw [hg58]; decide)) rfl ?_; clear hE a; intro a hE
      refine WL.vS hS hE (runs_plain rfl) (Gives.pickT hE rfl hg58 rfl) rfl ?_; clear hE a; intro a hE
      refine WL.nil ?_
      subst hK57
      exact ⟨true, hq52, hE.pick _ ⟨rfl, rfl, trivial⟩, hS⟩
    · replace hq52 := iteF hg58 hq52
      refine WL.vS hS hE (runs_if hE rfl rfl rfl hg58) (Gives.fld hE rfl fl25_1) rfl ?_; clear hE a; intro a hE
      refine WL.vS hS hE (runs_if hE rfl rfl rfl hg58) (Gives.loadB hE 0 rfl rfl rfl ty23) rfl ?_; clear hE a; intro a hE
      refine WL.vS hS hE (runs_if hE rfl rfl rfl hg58) (Gives.len hE rfl sl23) rfl ?_; clear hE a; intro a hE
      refine WL.vS hS hE (runs_if hE rfl rfl rfl hg58) (Gives.p hE rfl) rfl ?_; clear hE a; intro a hE
      refine WL.vS hS hE (runs_plain rfl) (Gives.pickF hE rfl hg58 rfl) rfl ?_; clear hE a; intro a hE
      refine WL.nil ?_
      subst hK57
      exact ⟨decide (((x0.Turns).length : Int) > 8), hq52, hE.pick _ ⟨rfl, rfl, trivial⟩, hS⟩
  · clear hE hS a w; rintro a w ⟨q56, rfl, hE, hS⟩
    refine W.cond hE rfl (fun hc59 => ?_) (fun hc59 => ?_)
    · replace hr := iteT hc59 hr
      refine W.seq ?_
      refine W.region ?_
      refine WL.vS hS hE (runs_plain rfl) (Gives.p hE rfl) rfl ?_; clear hE a; intro a hE
      refine WL.nil ?_
      refine W.ret ?_
      refine finG (fn := Tryd.f24) (rs := [.tmp 2]) (vs := [_]) hE rfl ⟨rfl, trivial⟩ ?_
      subst hr
      replace hS := hS.tail
      exact ⟨rfl, hS⟩
    · replace hr := iteF hc59 hr
      refine W.skip ?_
      refine W.seq ?_
      refine W.seq ?_
      refine W.region ?_
      refine WL.vS hS hE (runs_plain rfl) (Gives.fld hE rfl fl25_0) rfl ?_; clear hE a; intro a hE
      refine WL.vS hS hE (runs_plain rfl) (Gives.loadB hE 0 rfl rfl rfl ty22) rfl ?_; clear hE a; intro a hE
      refine WL.vS hS hE (runs_plain rfl) (Gives.len hE rfl sl22) rfl ?_; clear hE a; intro a hE
      refine WL.vS hS hE (runs_plain rfl) (Gives.p hE rfl) rfl ?_; clear hE a; intro a hE
      refine WL.nil ?_
      obtain ⟨q61, hq60, hr⟩ := bndS hr
      refine W.cut (fun a w => (.next ()) = q61 ∧ Rep a 85 [(1, .pointer (some ⟨b51, 0, none⟩))] ∧ St w s (pt b51 (.cells #[.slice a0_0 x0.Trains.length c0_0, .slice a0_1 x0.Turns.length c0_1] 25 (0, 0)) :: R)) ?_ ?_
      · refine W.block ?_
        refine W.loop (fun m a w => ∃ (rest64 : List ApiTrain) (k62 : Nat), rest64.length = m ∧ x0.Trains.drop k62 = rest64 ∧ Planform.loop1 rest64 = q61 ∧ Rep a 85 [(1, .pointer (some ⟨b51, 0, none⟩)), (22, .slice a0_0 x0.Trains.length c0_0), (23, .int .i64 ((x0.Trains).length : Int)), (24, .int .i64 ((k62 : Nat) : Int))] ∧ St w s (pt b51 (.cells #[.slice a0_0 x0.Trains.length c0_0, .slice a0_1 x0.Turns.length c0_1] 25 (0, 0)) :: R)) (m := x0.Trains.length) ⟨x0.Trains, 0, rfl, rfl, hq60, hE.pick _ ⟨rfl, rfl, rfl, rfl, trivial⟩, hS⟩ ?_
        clear hE hS a w hq60; rintro m68 a w ⟨rest64, k62, rfl, hd65, hq60, hE, hS⟩
        refine W.gen fun K71 hK71 => ?_
        rcases rest64 with _ | ⟨x63, rest64⟩
        · have hlt66 := drop_nil hd65
          refine W.seq ?_
          refine W.region ?_
          refine WL.vS hS hE (runs_plain rfl) (Gives.p hE rfl) rfl ?_; clear hE a; intro a hE
          refine WL.nil ?_
          refine W.seq ?_
          refine W.condF hE rfl (decide_eq_false (by omega)) ?_
          subst hK71
          refine W.exit rfl ?_
          exact ⟨hq60, hE.pick _ ⟨rfl, trivial⟩, hS⟩
        · obtain ⟨hlt66, hx67, hd65⟩ := drop_cons hd65
          rw [Planform.loop1] at hq60
          refine W.seq ?_
          refine W.region ?_
          refine WL.vS hS hE (runs_plain rfl) (Gives.p hE rfl) rfl ?_; clear hE a; intro a hE
          refine WL.nil ?_
          refine W.seq ?_
          refine W.condT hE rfl (decide_eq_true (by omega)) ?_
          refine W.skip ?_
          refine W.seq ?_
          refine W.block ?_
          refine W.seq ?_
          refine W.region ?_
          obtain ⟨cs72, hl73, hR74, hat75⟩ := h0_0.at hx67
          obtain ⟨a76, c77, a79, c80, rfl, h78, h81⟩ := hR74
          refine WL.vS hS hE (runs_plain rfl) (Gives.idx hE k62 rfl rfl sl22 rfl hlt66 (h0_0.aok hlt66)) rfl ?_; clear hE a; intro a hE
          refine WL.vS hS hE (runs_plain rfl) (Gives.loadA hE rfl (fun w h => hat75 w _ h) ty37) rfl ?_; clear hE a; intro a hE
          refine WL.alloc hE hS (runs_plain rfl) zr37 rfl ?_; clear hE hS a w; intro b82 a w hE hS
          refine WL.storeI hE hS 0 rfl [.int .i64 x63.No, .int .i64 x63.Stock, .slice a76 x63.Stops.length c77, .slice a79 x63.Legs.length c80] (runs_plain rfl) rfl rfl rfl ty37 rfl rfl rfl rfl ?_; clear hE hS a w; intro a w hE hS
          refine WL.nil ?_
          refine W.seq ?_
          refine W.seq ?_
          obtain ⟨q84, hq83, hq60⟩ := bndS hq60
          refine W.cut (fun a w => ∃ (q87 : Bool), q87 = q84 ∧ Rep a 85 [(1, .pointer (some ⟨b51, 0, none⟩)), (4, .pointer (some ⟨b82, 0, none⟩)), (22, .slice a0_0 x0.Trains.length c0_0), (23, .int .i64 ((x0.Trains).length : Int)), (24, .int .i64 ((k62 : Nat) : Int)), (41, .bool q87)] ∧ St w s (pt b82 (.cells #[.int .i64 x63.No, .int .i64 x63.Stock, .slice a76 x63.Stops.length c77, .slice a79 x63.Legs.length c80] 37 (0, 0)) :: pt b51 (.cells #[.slice a0_0 x0.Trains.length c0_0, .slice a0_1 x0.Turns.length c0_1] 25 (0, 0)) :: R)) ?_ ?_
          · refine W.gen fun K88 hK88 => ?_
            refine W.region ?_
            refine WL.vS hS hE (runs_plain rfl) (Gives.fld hE rfl fl37_2) rfl ?_; clear hE a; intro a hE
            refine WL.vS hS hE (runs_plain rfl) (Gives.loadB hE 0 rfl rfl rfl ty35) rfl ?_; clear hE a; intro a hE
            refine WL.vS hS hE (runs_plain rfl) (Gives.len hE rfl sl35) rfl ?_; clear hE a; intro a hE
            refine WL.vS hS hE (runs_plain rfl) (Gives.p hE rfl) rfl ?_; clear hE a; intro a hE
            refine WL.vS hS hE (runs_plain rfl) (Gives.p hE rfl) rfl ?_; clear hE a; intro a hE
            rcases Bool.eq_false_or_eq_true (((x63.Stops).length : Int) == 0) with hg89 | hg89
            · replace hq83 := iteT hg89 hq83
              refine WL.no hE (runs_not hE rfl rfl rfl (by rw [hg89]; decide)) rfl ?_; clear hE a; intro a hE
              refine WL.no hE (runs_not hE rfl rfl rfl (by rw [hg89]; decide)) rfl ?_; clear hE a; intro a hE
              refine WL.no hE (runs_not hE rfl rfl rfl (by rw [hg89]; decide)) rfl ?_; clear hE a; intro a hE
              refine WL.no hE (runs_not hE rfl rfl rfl (by rw [hg89]; decide)) rfl ?_; clear hE a; intro a hE
              refine WL.no hE (runs_not hE rfl rfl rfl (by rw [hg89]; decide)) rfl ?_; clear hE a; intro a hE
              refine WL.no hE (runs_not hE rfl rfl rfl (by rw [hg89]; decide)) rfl ?_; clear hE a; intro a hE
              refine WL.no hE (runs_not hE rfl rfl rfl (by rw [hg89]; decide)) rfl ?_; clear hE a; intro a hE
              refine WL.no hE (runs_not hE rfl rfl rfl (by rw [hg89]; decide)) rfl ?_; clear hE a; intro a hE
              refine WL.vS hS hE (runs_plain rfl) (Gives.pickT hE rfl hg89 rfl) rfl ?_; clear hE a; intro a hE
              refine WL.nil ?_
              subst hK88
              exact ⟨true, hq83, hE.pick _ ⟨rfl, rfl, rfl, rfl, rfl, rfl, trivial⟩, hS⟩
            · replace hq83 := iteF hg89 hq83
              refine WL.vS hS hE (runs_if hE rfl rfl rfl hg89) (Gives.fld hE rfl fl37_3) rfl ?_; clear hE a; intro a hE
              refine WL.vS hS hE (runs_if hE rfl rfl rfl hg89) (Gives.loadB hE 0 rfl rfl rfl ty23) rfl ?_; clear hE a; intro a hE
              refine WL.vS hS hE (runs_if hE rfl rfl rfl hg89) (Gives.len hE rfl sl23) rfl ?_; clear hE a; intro a hE
              refine WL.vS hS hE (runs_if hE rfl rfl rfl hg89) (Gives.fld hE rfl fl37_2) rfl ?_; clear hE a; intro a hE
              refine WL.vS hS hE (runs_if hE rfl rfl rfl hg89) (Gives.loadB hE 0 rfl rfl rfl ty35) rfl ?_; clear hE a; intro a hE
              refine WL.vS hS hE (runs_if hE rfl rfl rfl hg89) (Gives.len hE rfl sl35) rfl ?_; clear hE a; intro a hE
              refine WL.vS hS hE (runs_if hE rfl rfl rfl hg89) (Gives.p hE rfl) rfl ?_; clear hE a; intro a hE
              refine WL.vS hS hE (runs_if hE rfl rfl rfl hg89) (Gives.p hE rfl) rfl ?_; clear hE a; intro a hE
              refine WL.vS hS hE (runs_plain rfl) (Gives.pickF hE rfl hg89 rfl) rfl ?_; clear hE a; intro a hE
              refine WL.nil ?_
              subst hK88
              exact ⟨(((x63.Legs).length : Int) != (w64 (((x63.Stops).length : Int) - 1))), hq83, hE.pick _ ⟨rfl, rfl, rfl, rfl, rfl, rfl, trivial⟩, hS⟩
          · clear hE hS a w; rintro a w ⟨q87, rfl, hE, hS⟩
            refine W.cond hE rfl (fun hc90 => ?_) (fun hc90 => ?_)
            · replace hq60 := iteT hc90 hq60
              refine W.seq ?_
              refine W.region ?_
              refine WL.vS hS hE (runs_plain rfl) (Gives.p hE rfl) rfl ?_; clear hE a; intro a hE
              refine WL.nil ?_
              refine W.ret ?_
              subst hK71
              rw [← hq60] at hr
              dsimp only at hr
              refine finG (fn := Tryd.f24) (rs := [.tmp 2]) (vs := [_]) hE rfl ⟨rfl, trivial⟩ ?_
              subst hr
              replace hS := hS.tail
              replace hS := hS.tail
              exact ⟨rfl, hS⟩
            · replace hq60 := iteF hc90 hq60
              refine W.skip ?_
              refine W.seq ?_
              refine W.seq ?_
              refine W.region ?_
              refine WL.vS hS hE (runs_plain rfl) (Gives.fld hE rfl fl37_3) rfl ?_; clear hE a; intro a hE
              refine WL.vS hS hE (runs_plain rfl) (Gives.loadB hE 0 rfl rfl rfl ty23) rfl ?_; clear hE a; intro a hE
              refine WL.vS hS hE (runs_plain rfl) (Gives.len hE rfl sl23) rfl ?_; clear hE a; intro a hE
              refine WL.vS hS hE (runs_plain rfl) (Gives.p hE rfl) rfl ?_; clear hE a; intro a hE
              refine WL.nil ?_
              obtain ⟨q92, hq91, hq60⟩ := bndS hq60
              refine W.cut (fun a w => (.next ()) = q92 ∧ Rep a 85 [(1, .pointer (some ⟨b51, 0, none⟩)), (4, .pointer (some ⟨b82, 0, none⟩)), (22, .slice a0_0 x0.Trains.length c0_0), (23, .int .i64 ((x0.Trains).length : Int)), (24, .int .i64 ((k62 : Nat) : Int))] ∧ St w s (pt b82 (.cells #[.int .i64 x63.No, .int .i64 x63.Stock, .slice a76 x63.Stops.length c77, .slice a79 x63.Legs.length c80] 37 (0, 0)) :: pt b51 (.cells #[.slice a0_0 x0.Trains.length c0_0, .slice a0_1 x0.Turns.length c0_1] 25 (0, 0)) :: R)) ?_ ?_
              · refine W.block ?_
                refine W.loop (fun m a w => ∃ (rest95 : List (List Int)) (k93 : Nat), rest95.length = m ∧ x63.Legs.drop k93 = rest95 ∧ Planform.loop2 rest95 = q92 ∧ Rep a 85 [(1, .pointer (some ⟨b51, 0, none⟩)), (4, .pointer (some ⟨b82, 0, none⟩)), (22, .slice a0_0 x0.Trains.length c0_0), (23, .int .i64 ((x0.Trains).length : Int)), (24, .int .i64 ((k62 : Nat) : Int)), (43, .slice a79 x63.Legs.length c80), (44, .int .i64 ((x63.Legs).length : Int)), (45, .int .i64 ((k93 : Nat) : Int))] ∧ St w s (pt b82 (.cells #[.int .i64 x63.No, .int .i64 x63.Stock, .slice a76 x63.Stops.length c77, .slice a79 x63.Legs.length c80] 37 (0, 0)) :: pt b51 (.cells #[.slice a0_0 x0.Trains.length c0_0, .slice a0_1 x0.Turns.length c0_1] 25 (0, 0)) :: R)) (m := x63.Legs.length) ⟨x63.Legs, 0, rfl, rfl, hq91, hE.pick _ ⟨rfl, rfl, rfl, rfl, rfl, rfl, rfl, rfl, trivial⟩, hS⟩ ?_
                clear hE hS a w hq91; rintro m99 a w ⟨rest95, k93, rfl, hd96, hq91, hE, hS⟩
                refine W.gen fun K102 hK102 => ?_
                rcases rest95 with _ | ⟨x94, rest95⟩
                · have hlt97 := drop_nil hd96
                  refine W.seq ?_
                  refine W.region ?_
                  refine WL.vS hS hE (runs_plain rfl) (Gives.p hE rfl) rfl ?_; clear hE a; intro a hE
                  refine WL.nil ?_
                  refine W.seq ?_
                  refine W.condF hE rfl (decide_eq_false (by omega)) ?_
                  subst hK102
                  refine W.exit rfl ?_
                  exact ⟨hq91, hE.pick _ ⟨rfl, rfl, rfl, rfl, rfl, trivial⟩, hS⟩
                · obtain ⟨hlt97, hx98, hd96⟩ := drop_cons hd96
                  rw [Planform.loop2] at hq91
                  refine W.seq ?_
                  refine W.region ?_
                  refine WL.vS hS hE (runs_plain rfl) (Gives.p hE rfl) rfl ?_; clear hE a; intro a hE
                  refine WL.nil ?_
                  refine W.seq ?_
                  refine W.condT hE rfl (decide_eq_true (by omega)) ?_
                  refine W.skip ?_
                  refine W.seq ?_
                  refine W.block ?_
                  refine W.seq ?_
                  refine W.region ?_
                  obtain ⟨cs103, hl104, hR105, hat106⟩ := h81.at hx98
                  obtain ⟨a107, c108, rfl, h109⟩ := hR105
                  refine WL.vS hS hE (runs_plain rfl) (Gives.idx hE k93 rfl rfl sl23 rfl hlt97 (h81.aok hlt97)) rfl ?_; clear hE a; intro a hE
                  refine WL.vS hS hE (runs_plain rfl) (Gives.load1 hE rfl (fun w h => hat106 w _ h) ty47) rfl ?_; clear hE a; intro a hE
                  refine WL.vS hS hE (runs_plain rfl) (Gives.p hE rfl) rfl ?_; clear hE a; intro a hE
                  refine WL.nil ?_
                  refine W.seq ?_
                  refine W.region ?_
                  refine WL.vS hS hE (runs_plain rfl) (Gives.p hE rfl) rfl ?_; clear hE a; intro a hE
                  refine WL.vS hS hE (runs_plain rfl) (Gives.len hE rfl sl47) rfl ?_; clear hE a; intro a hE
                  refine WL.vS hS hE (runs_plain rfl) (Gives.p hE rfl) rfl ?_; clear hE a; intro a hE
                  refine WL.nil ?_
                  refine W.cond hE rfl (fun hc110 => ?_) (fun hc110 => ?_)
                  · replace hq91 := iteT hc110 hq91
                    refine W.seq ?_
                    refine W.region ?_
                    refine WL.vS hS hE (runs_plain rfl) (Gives.p hE rfl) rfl ?_; clear hE a; intro a hE
                    refine WL.nil ?_
                    refine W.ret ?_
                    subst hK102
                    subst hK71
                    rw [← hq91] at hq60
                    dsimp only at hq60
                    rw [← hq60] at hr
                    dsimp only at hr
                    refine finG (fn := Tryd.f24) (rs := [.tmp 2]) (vs := [_]) hE rfl ⟨rfl, trivial⟩ ?_
                    subst hr
                    replace hS := hS.tail
                    replace hS := hS.tail
                    exact ⟨rfl, hS⟩
                  · replace hq91 := iteF hc110 hq91
                    refine W.skip ?_
                    refine W.region ?_
                    refine WL.vS hS hE (runs_plain rfl) (Gives.inc hE rfl (by have := h81.small; omega)) rfl ?_; clear hE a; intro a hE
                    refine WL.vS hS hE (runs_plain rfl) (Gives.p hE rfl) rfl ?_; clear hE a; intro a hE
                    refine WL.nil ?_
                    subst hK102
                    exact ⟨rest95.length, Nat.lt_succ_self _, rest95, k93 + 1, rfl, hd96, hq91, hE.pick _ ⟨rfl, rfl, rfl, rfl, rfl, rfl, rfl, rfl, trivial⟩, hS⟩
              · clear hE hS a w; rintro a w ⟨rfl, hE, hS⟩
                dsimp only at hq60
                refine W.seq ?_
                refine W.seq ?_
                refine W.region ?_
                refine WL.vS hS hE (runs_plain rfl) (Gives.fld hE rfl fl37_2) rfl ?_; clear hE a; intro a hE
                refine WL.vS hS hE (runs_plain rfl) (Gives.loadB hE 0 rfl rfl rfl ty35) rfl ?_; clear hE a; intro a hE
                refine WL.vS hS hE (runs_plain rfl) (Gives.len hE rfl sl35) rfl ?_; clear hE a; intro a hE
                refine WL.vS hS hE (runs_plain rfl) (Gives.p hE rfl) rfl ?_; clear hE a; intro a hE
                refine WL.nil ?_
                refine W.cond hE rfl (fun hc111 => ?_) (fun hc111 => ?_)
                · replace hq60 := iteT hc111 hq60
                  refine W.seq ?_
                  refine W.region ?_
                  refine WL.vS hS hE (runs_plain rfl) (Gives.p hE rfl) rfl ?_; clear hE a; intro a hE
                  refine WL.nil ?_
                  refine W.ret ?_
                  subst hK71
                  rw [← hq60] at hr
                  dsimp only at hr
                  refine finG (fn := Tryd.f24) (rs := [.tmp 2]) (vs := [_]) hE rfl ⟨rfl, trivial⟩ ?_
                  subst hr
                  replace hS := hS.tail
                  replace hS := hS.tail
                  exact ⟨rfl, hS⟩
                · replace hq60 := iteF hc111 hq60
                  refine W.skip ?_
                  refine W.seq ?_
                  refine W.region ?_
                  refine WL.vS hS hE (runs_plain rfl) (Gives.fld hE rfl fl37_3) rfl ?_; clear hE a; intro a hE
                  refine WL.vS hS hE (runs_plain rfl) (Gives.loadB hE 0 rfl rfl rfl ty23) rfl ?_; clear hE a; intro a hE
                  refine WL.vS hS hE (runs_plain rfl) (Gives.len hE rfl sl23) rfl ?_; clear hE a; intro a hE
                  refine WL.vS hS hE (runs_plain rfl) (Gives.p hE rfl) rfl ?_; clear hE a; intro a hE
                  refine WL.nil ?_
                  obtain ⟨q113, hq112, hq60⟩ := bndS hq60
                  refine W.cut (fun a w => (.next ()) = q113 ∧ Rep a 85 [(1, .pointer (some ⟨b51, 0, none⟩)), (22, .slice a0_0 x0.Trains.length c0_0), (23, .int .i64 ((x0.Trains).length : Int)), (24, .int .i64 ((k62 : Nat) : Int))] ∧ St w s (pt b82 (.cells #[.int .i64 x63.No, .int .i64 x63.Stock, .slice a76 x63.Stops.length c77, .slice a79 x63.Legs.length c80] 37 (0, 0)) :: pt b51 (.cells #[.slice a0_0 x0.Trains.length c0_0, .slice a0_1 x0.Turns.length c0_1] 25 (0, 0)) :: R)) ?_ ?_
                  · refine W.block ?_
                    refine W.loop (fun m a w => ∃ (rest116 : List (List Int)) (k114 : Nat), rest116.length = m ∧ x63.Legs.drop k114 = rest116 ∧ Planform.loop3 rest116 = q113 ∧ Rep a 85 [(1, .pointer (some ⟨b51, 0, none⟩)), (22, .slice a0_0 x0.Trains.length c0_0), (23, .int .i64 ((x0.Trains).length : Int)), (24, .int .i64 ((k62 : Nat) : Int)), (58, .slice a79 x63.Legs.length c80), (59, .int .i64 ((x63.Legs).length : Int)), (60, .int .i64 ((k114 : Nat) : Int))] ∧ St w s (pt b82 (.cells #[.int .i64 x63.No, .int .i64 x63.Stock, .slice a76 x63.Stops.length c77, .slice a79 x63.Legs.length c80] 37 (0, 0)) :: pt b51 (.cells #[.slice a0_0 x0.Trains.length c0_0, .slice a0_1 x0.Turns.length c0_1] 25 (0, 0)) :: R)) (m := x63.Legs.length) ⟨x63.Legs, 0, rfl, rfl, hq112, hE.pick _ ⟨rfl, rfl, rfl, rfl, rfl, rfl, rfl, trivial⟩, hS⟩ ?_
                    clear hE hS a w hq112; rintro m120 a w ⟨rest116, k114, rfl, hd117, hq112, hE, hS⟩
                    refine W.gen fun K123 hK123 => ?_
                    rcases rest116 with _ | ⟨x115, rest116⟩
                    · have hlt118 := drop_nil hd117
                      refine W.seq ?_
                      refine W.region ?_
                      refine WL.vS hS hE (runs_plain rfl) (Gives.p hE rfl) rfl ?_; clear hE a; intro a hE
                      refine WL.nil ?_
                      refine W.seq ?_
                      refine W.condF hE rfl (decide_eq_false (by omega)) ?_
                      subst hK123
                      refine W.exit rfl ?_
                      exact ⟨hq112, hE.pick _ ⟨rfl, rfl, rfl, rfl, trivial⟩, hS⟩
                    · obtain ⟨hlt118, hx119, hd117⟩ := drop_cons hd117
                      rw [Planform.loop3] at hq112
                      refine W.seq ?_
                      refine W.region ?_
                      refine WL.vS hS hE (runs_plain rfl) (Gives.p hE rfl) rfl ?_; clear hE a; intro a hE
                      refine WL.nil ?_
                      refine W.seq ?_
                      refine W.condT hE rfl (decide_eq_true (by omega)) ?_
                      refine W.skip ?_
                      refine W.seq ?_
                      refine W.block ?_
                      refine W.seq ?_
                      refine W.region ?_
                      obtain ⟨cs124, hl125, hR126, hat127⟩ := h81.at hx119
                      obtain ⟨a128, c129, rfl, h130⟩ := hR126
                      refine WL.vS hS hE (runs_plain rfl) (Gives.idx hE k114 rfl rfl sl23 rfl hlt118 (h81.aok hlt118)) rfl ?_; clear hE a; intro a hE
                      refine WL.vS hS hE (runs_plain rfl) (Gives.load1 hE rfl (fun w h => hat127 w _ h) ty47) rfl ?_; clear hE a; intro a hE
                      refine WL.vS hS hE (runs_plain rfl) (Gives.p hE rfl) rfl ?_; clear hE a; intro a hE
                      refine WL.nil ?_
                      refine W.seq ?_
                      refine W.region ?_
                      refine WL.vS hS hE (runs_plain rfl) (Gives.p hE rfl) rfl ?_; clear hE a; intro a hE
                      refine WL.vS hS hE (runs_plain rfl) (Gives.len hE rfl sl47) rfl ?_; clear hE a; intro a hE
                      refine WL.vS hS hE (runs_plain rfl) (Gives.p hE rfl) rfl ?_; clear hE a; intro a hE
                      refine WL.nil ?_
                      refine W.cond hE rfl (fun hc131 => ?_) (fun hc131 => ?_)
                      · replace hq112 := iteT hc131 hq112
                        refine W.seq ?_
                        refine W.region ?_
                        refine WL.vS hS hE (runs_plain rfl) (Gives.p hE rfl) rfl ?_; clear hE a; intro a hE
                        refine WL.nil ?_
                        refine W.ret ?_
                        subst hK123
                        subst hK71
                        rw [← hq112] at hq60
                        dsimp only at hq60
                        rw [← hq60] at hr
                        dsimp only at hr
                        refine finG (fn := Tryd.f24) (rs := [.tmp 2]) (vs := [_]) hE rfl ⟨rfl, trivial⟩ ?_
                        subst hr
                        replace hS := hS.tail
                        replace hS := hS.tail
                        exact ⟨rfl, hS⟩
                      · replace hq112 := iteF hc131 hq112
                        refine W.skip ?_
                        refine W.region ?_
                        refine WL.vS hS hE (runs_plain rfl) (Gives.inc hE rfl (by have := h81.small; omega)) rfl ?_; clear hE a; intro a hE
                        refine WL.vS hS hE (runs_plain rfl) (Gives.p hE rfl) rfl ?_; clear hE a; intro a hE
                        refine WL.nil ?_
                        subst hK123
                        exact ⟨rest116.length, Nat.lt_succ_self _, rest116, k114 + 1, rfl, hd117, hq112, hE.pick _ ⟨rfl, rfl, rfl, rfl, rfl, rfl, rfl, trivial⟩, hS⟩
                  · clear hE hS a w; rintro a w ⟨rfl, hE, hS⟩
                    dsimp only at hq60
                    refine W.region ?_
                    refine WL.vS hS hE (runs_plain rfl) (Gives.inc hE rfl (by have := h0_0.small; omega)) rfl ?_; clear hE a; intro a hE
                    refine WL.vS hS hE (runs_plain rfl) (Gives.p hE rfl) rfl ?_; clear hE a; intro a hE
                    refine WL.nil ?_
                    replace hS := hS.tail
                    subst hK71
                    exact ⟨rest64.length, Nat.lt_succ_self _, rest64, k62 + 1, rfl, hd65, hq60, hE.pick _ ⟨rfl, rfl, rfl, rfl, trivial⟩, hS⟩
      · clear hE hS a w; rintro a w ⟨rfl, hE, hS⟩
        dsimp only at hr
        refine W.seq ?_
        refine W.seq ?_
        refine W.region ?_
        refine WL.vS hS hE (runs_plain rfl) (Gives.fld hE rfl fl25_1) rfl ?_; clear hE a; intro a hE
        refine WL.vS hS hE (runs_plain rfl) (Gives.loadB hE 0 rfl rfl rfl ty23) rfl ?_; clear hE a; intro a hE
        refine WL.vS hS hE (runs_plain rfl) (Gives.len hE rfl sl23) rfl ?_; clear hE a; intro a hE
        refine WL.vS hS hE (runs_plain rfl) (Gives.p hE rfl) rfl ?_; clear hE a; intro a hE
        refine WL.nil ?_
        obtain ⟨q133, hq132, hr⟩ := bndS hr
        refine W.cut (fun a w => (.next ()) = q133 ∧ Rep a 85 [] ∧ St w s (pt b51 (.cells #[.slice a0_0 x0.Trains.length c0_0, .slice a0_1 x0.Turns.length c0_1] 25 (0, 0)) :: R)) ?_ ?_
        · refine W.block ?_
          refine W.loop (fun m a w => ∃ (rest136 : List (List Int)) (k134 : Nat), rest136.length = m ∧ x0.Turns.drop k134 = rest136 ∧ Planform.loop4 rest136 = q133 ∧ Rep a 85 [(70, .slice a0_1 x0.Turns.length c0_1), (71, .int .i64 ((x0.Turns).length : Int)), (72, .int .i64 ((k134 : Nat) : Int))] ∧ St w s (pt b51 (.cells #[.slice a0_0 x0.Trains.length c0_0, .slice a0_1 x0.Turns.length c0_1] 25 (0, 0)) :: R)) (m := x0.Turns.length) ⟨x0.Turns, 0, rfl, rfl, hq132, hE.pick _ ⟨rfl, rfl, rfl, trivial⟩, hS⟩ ?_
          clear hE hS a w hq132; rintro m140 a w ⟨rest136, k134, rfl, hd137, hq132, hE, hS⟩
          refine W.gen fun K143 hK143 => ?_
          rcases rest136 with _ | ⟨x135, rest136⟩
          · have hlt138 := drop_nil hd137
            refine W.seq ?_
            refine W.region ?_
            refine WL.vS hS hE (runs_plain rfl) (Gives.p hE rfl) rfl ?_; clear hE a; intro a hE
            refine WL.nil ?_
            refine W.seq ?_
            refine W.condF hE rfl (decide_eq_false (by omega)) ?_
            subst hK143
            refine W.exit rfl ?_
            exact ⟨hq132, hE.pick _ trivial, hS⟩
          · obtain ⟨hlt138, hx139, hd137⟩ := drop_cons hd137
            rw [Planform.loop4] at hq132
            refine W.seq ?_
            refine W.region ?_
            refine WL.vS hS hE (runs_plain rfl) (Gives.p hE rfl) rfl ?_; clear hE a; intro a hE
            refine WL.nil ?_
            refine W.seq ?_
            refine W.condT hE rfl (decide_eq_true (by omega)) ?_
            refine W.skip ?_
            refine W.seq ?_
            refine W.block ?_
            refine W.seq ?_
            refine W.region ?_
            obtain ⟨cs144, hl145, hR146, hat147⟩ := h0_1.at hx139
            obtain ⟨a148, c149, rfl, h150⟩ := hR146
            refine WL.vS hS hE (runs_plain rfl) (Gives.idx hE k134 rfl rfl sl23 rfl hlt138 (h0_1.aok hlt138)) rfl ?_; clear hE a; intro a hE
            refine WL.vS hS hE (runs_plain rfl) (Gives.load1 hE rfl (fun w h => hat147 w _ h) ty47) rfl ?_; clear hE a; intro a hE
            refine WL.vS hS hE (runs_plain rfl) (Gives.p hE rfl) rfl ?_; clear hE a; intro a hE
            refine WL.nil ?_
            refine W.block ?_
            refine W.seq ?_
            refine W.region ?_
            refine WL.vS hS hE (runs_plain rfl) (Gives.p hE rfl) rfl ?_; clear hE a; intro a hE
            refine WL.vS hS hE (runs_plain rfl) (Gives.len hE rfl sl47) rfl ?_; clear hE a; intro a hE
            refine WL.vS hS hE (runs_plain rfl) (Gives.p hE rfl) rfl ?_; clear hE a; intro a hE
            refine WL.vS hS hE (runs_plain rfl) (Gives.p hE rfl) rfl ?_; clear hE a; intro a hE
            refine WL.nil ?_
            refine W.cond hE rfl (fun hc151 => ?_) (fun hc151 => ?_)
            · replace hq132 := iteT hc151 hq132
              refine W.seq ?_
              refine W.region ?_
              refine WL.vS hS hE (runs_plain rfl) (Gives.p hE rfl) rfl ?_; clear hE a; intro a hE
              refine WL.nil ?_
              refine W.ret ?_
              subst hK143
              rw [← hq132] at hr
              dsimp only at hr
              refine finG (fn := Tryd.f24) (rs := [.tmp 2]) (vs := [_]) hE rfl ⟨rfl, trivial⟩ ?_
              subst hr
              replace hS := hS.tail
              exact ⟨rfl, hS⟩
            · replace hq132 := iteF hc151 hq132
              refine W.seq ?_
              refine W.region ?_
              refine WL.vS hS hE (runs_plain rfl) (Gives.p hE rfl) rfl ?_; clear hE a; intro a hE
              refine WL.vS hS hE (runs_plain rfl) (Gives.len hE rfl sl47) rfl ?_; clear hE a; intro a hE
              refine WL.vS hS hE (runs_plain rfl) (Gives.p hE rfl) rfl ?_; clear hE a; intro a hE
              refine WL.vS hS hE (runs_plain rfl) (Gives.p hE rfl) rfl ?_; clear hE a; intro a hE
              refine WL.nil ?_
              refine W.cond hE rfl (fun hc152 => ?_) (fun hc152 => ?_)
              · replace hq132 := iteT hc152 hq132
                refine W.seq ?_
                refine W.region ?_
                refine WL.vS hS hE (runs_plain rfl) (Gives.p hE rfl) rfl ?_; clear hE a; intro a hE
                refine WL.nil ?_
                refine W.ret ?_
                subst hK143
                rw [← hq132] at hr
                dsimp only at hr
                refine finG (fn := Tryd.f24) (rs := [.tmp 2]) (vs := [_]) hE rfl ⟨rfl, trivial⟩ ?_
                subst hr
                replace hS := hS.tail
                exact ⟨rfl, hS⟩
              · replace hq132 := iteF hc152 hq132
                refine W.skip ?_
                refine W.region ?_
                refine WL.vS hS hE (runs_plain rfl) (Gives.inc hE rfl (by have := h0_1.small; omega)) rfl ?_; clear hE a; intro a hE
                refine WL.vS hS hE (runs_plain rfl) (Gives.p hE rfl) rfl ?_; clear hE a; intro a hE
                refine WL.nil ?_
                subst hK143
                exact ⟨rest136.length, Nat.lt_succ_self _, rest136, k134 + 1, rfl, hd137, hq132, hE.pick _ ⟨rfl, rfl, rfl, trivial⟩, hS⟩
        · clear hE hS a w; rintro a w ⟨rfl, hE, hS⟩
          dsimp only at hr
          refine W.seq ?_
          refine W.region ?_
          refine WL.vS hS hE (runs_plain rfl) (Gives.p hE rfl) rfl ?_; clear hE a; intro a hE
          refine WL.nil ?_
          refine W.ret ?_
          refine finG (fn := Tryd.f24) (rs := [.tmp 2]) (vs := [_]) hE rfl ⟨rfl, trivial⟩ ?_
          subst hr
          replace hS := hS.tail
          exact ⟨rfl, hS⟩
set_option maxHeartbeats 8000000 in
theorem InternalStrconvsmall_ok  {w : World} {s : Sg} {R : List HP} {x0 : Int} (hS : St w s (R))  {r : ByteArray} (hr : InternalStrconvsmall x0 = some r) :
    Calls Tryd.prog 35 [.int .i64 x0].toArray w (fun e w => e = .returned (.string r) ∧ St w s (R)) := by
  refine enter Tryd.func35 rfl rfl rfl fun a hE => ?_
  rw [InternalStrconvsmall] at hr
  refine W.seq ?_
  refine W.region ?_
  refine WL.vS hS hE (runs_plain rfl) (Gives.p hE rfl) rfl ?_; clear hE a; intro a hE
  refine WL.nil ?_
  refine W.seq ?_
  refine W.seq ?_
  refine W.region ?_
  refine WL.vS hS hE (runs_plain rfl) (Gives.p hE rfl) rfl ?_; clear hE a; intro a hE
  refine WL.vS hS hE (runs_plain rfl) (Gives.p hE rfl) rfl ?_; clear hE a; intro a hE
  refine WL.nil ?_
  refine W.cond hE rfl (fun hc51 => ?_) (fun hc51 => ?_)
  · replace hr := iteT hc51 hr
    refine W.seq ?_
    refine W.region ?_
    refine WL.vS hS hE (runs_plain rfl) (Gives.p hE rfl) rfl ?_; clear hE a; intro a hE
    refine WL.vS hS hE (runs_plain rfl) (Gives.p hE rfl) rfl ?_; clear hE a; intro a hE
    refine WL.vS hS hE (runs_plain rfl) (Gives.p hE rfl) rfl ?_; clear hE a; intro a hE
    obtain ⟨x52, hx53, hr⟩ := bindS hr
    refine WL.vS hS hE (runs_plain rfl) (Gives.cutS hE st9 rfl rfl rfl hx53) rfl ?_; clear hE a; intro a hE
    refine WL.vS hS hE (runs_plain rfl) (Gives.p hE rfl) rfl ?_; clear hE a; intro a hE
    refine WL.nil ?_
    refine W.ret ?_
    refine finG (fn := Tryd.f35) (rs := [.tmp 2]) (vs := [_]) hE rfl ⟨rfl, trivial⟩ ?_
    obtain rfl := Option.some.inj hr
    exact ⟨rfl, hS⟩
  · replace hr := iteF hc51 hr
    refine W.skip ?_
    refine W.seq ?_
    refine W.region ?_
    refine WL.vS hS hE (runs_plain rfl) (Gives.p hE rfl) rfl ?_; clear hE a; intro a hE
    refine WL.vS hS hE (runs_plain rfl) (Gives.p hE rfl) rfl ?_; clear hE a; intro a hE
    refine WL.vS hS hE (runs_plain rfl) (Gives.p hE rfl) rfl ?_; clear hE a; intro a hE
    refine WL.vS hS hE (runs_plain rfl) (Gives.p hE rfl) rfl ?_; clear hE a; intro a hE
    refine WL.vS hS hE (runs_plain rfl) (Gives.p hE rfl) rfl ?_; clear hE a; intro a hE
    obtain ⟨x54, hx55, hr⟩ := bindS hr
    refine WL.vS hS hE (runs_plain rfl) (Gives.cutS hE st9 rfl rfl rfl hx55) rfl ?_; clear hE a; intro a hE
    refine WL.vS hS hE (runs_plain rfl) (Gives.p hE rfl) rfl ?_; clear hE a; intro a hE
    refine WL.nil ?_
    refine W.ret ?_
    refine finG (fn := Tryd.f35) (rs := [.tmp 2]) (vs := [_]) hE rfl ⟨rfl, trivial⟩ ?_
    obtain rfl := Option.some.inj hr
    exact ⟨rfl, hS⟩
set_option maxHeartbeats 8000000 in
theorem MathBitsLen64_ok  {w : World} {s : Sg} {R : List HP} {x0 : Int} (hS : St w s (R))  {r : Int} (hr : MathBitsLen64 x0 = some r) :
    Calls Tryd.prog 40 [.int .u64 x0].toArray w (fun e w => e = .returned (.int .i64 r) ∧ St w s (R)) := by
  refine enter Tryd.func40 rfl rfl rfl fun a hE => ?_
  rw [MathBitsLen64] at hr
  refine W.seq ?_
  refine W.region ?_
  refine WL.vS hS hE (runs_plain rfl) (Gives.p hE rfl) rfl ?_; clear hE a; intro a hE
  refine WL.nil ?_
  refine W.seq ?_
  refine W.seq ?_
  refine W.region ?_
  refine WL.vS hS hE (runs_plain rfl) (Gives.p hE rfl) rfl ?_; clear hE a; intro a hE
  refine WL.vS hS hE (runs_plain rfl) (Gives.p hE rfl) rfl ?_; clear hE a; intro a hE
  refine WL.nil ?_
  obtain ⟨q52, hq51, hr⟩ := bndS hr
  refine W.cut (fun a w => ∃ (q55 : Int), ∃ (q56 : Int), (q55, q56) = q52 ∧ Rep a 25 [(0, .int .u64 q55), (2, .int .i64 q56)] ∧ St w s (R)) ?_ ?_
  · refine W.gen fun K57 hK57 => ?_
    refine W.cond hE rfl (fun hc58 => ?_) (fun hc58 => ?_)
    · replace hq51 := iteT hc58 hq51
      refine W.seq ?_
      refine W.region ?_
      refine WL.vS hS hE (runs_plain rfl) (Gives.p hE rfl) rfl ?_; clear hE a; intro a hE
      refine WL.vS hS hE (runs_plain rfl) (Gives.shr hE rfl rfl (by decide)) rfl ?_; clear hE a; intro a hE
      refine WL.vS hS hE (runs_plain rfl) (Gives.p hE rfl) rfl ?_; clear hE a; intro a hE
      refine WL.nil ?_
      refine W.region ?_
      refine WL.vS hS hE (runs_plain rfl) (Gives.p hE rfl) rfl ?_; clear hE a; intro a hE
      refine WL.nil ?_
      subst hK57
      exact ⟨Int.fdiv x0 (2 ^ (min (Int.toNat 32) (IntKind.bits .u64))), 32, hq51, hE.pick _ ⟨rfl, rfl, trivial⟩, hS⟩
    · replace hq51 := iteF hc58 hq51
      refine W.skip ?_
      subst hK57
      exact ⟨x0, 0, hq51, hE.pick _ ⟨rfl, rfl, trivial⟩, hS⟩
  · clear hE hS a w; rintro a w ⟨q55, q56, rfl, hE, hS⟩
    dsimp only at hr
    refine W.seq ?_
    refine W.seq ?_
    refine W.region ?_
    refine WL.vS hS hE (runs_plain rfl) (Gives.p hE rfl) rfl ?_; clear hE a; intro a hE
    refine WL.vS hS hE (runs_plain rfl) (Gives.p hE rfl) rfl ?_; clear hE a; intro a hE
    refine WL.nil ?_
    obtain ⟨q60, hq59, hr⟩ := bndS hr
    refine W.cut (fun a w => ∃ (q63 : Int), ∃ (q64 : Int), (q63, q64) = q60 ∧ Rep a 25 [(0, .int .u64 q63), (2, .int .i64 q64)] ∧ St w s (R)) ?_ ?_
    · refine W.gen fun K65 hK65 => ?_
      refine W.cond hE rfl (fun hc66 => ?_) (fun hc66 => ?_)
      · replace hq59 := iteT hc66 hq59
        refine W.seq ?_
        refine W.region ?_
        refine WL.vS hS hE (runs_plain rfl) (Gives.p hE rfl) rfl ?_; clear hE a; intro a hE
        refine WL.vS hS hE (runs_plain rfl) (Gives.shr hE rfl rfl (by decide)) rfl ?_; clear hE a; intro a hE
        refine WL.vS hS hE (runs_plain rfl) (Gives.p hE rfl) rfl ?_; clear hE a; intro a hE
        refine WL.nil ?_
        refine W.region ?_
        refine WL.vS hS hE (runs_plain rfl) (Gives.p hE rfl) rfl ?_; clear hE a; intro a hE
        refine WL.vS hS hE (runs_plain rfl) (Gives.p hE rfl) rfl ?_; clear hE a; intro a hE
        refine WL.vS hS hE (runs_plain rfl) (Gives.p hE rfl) rfl ?_; clear hE a; intro a hE
        refine WL.nil ?_
        subst hK65
        exact ⟨Int.fdiv q55 (2 ^ (min (Int.toNat 16) (IntKind.bits .u64))), w64 (q56 + 16), hq59, hE.pick _ ⟨rfl, rfl, trivial⟩, hS⟩
      · replace hq59 := iteF hc66 hq59
        refine W.skip ?_
        subst hK65
        exact ⟨q55, q56, hq59, hE.pick _ ⟨rfl, rfl, trivial⟩, hS⟩
    · clear hE hS a w; rintro a w ⟨q63, q64, rfl, hE, hS⟩
      dsimp only at hr
      refine W.seq ?_
      refine W.seq ?_
      refine W.region ?_
      refine WL.vS hS hE (runs_plain rfl) (Gives.p hE rfl) rfl ?_; clear hE a; intro a hE
      refine WL.vS hS hE (runs_plain rfl) (Gives.p hE rfl) rfl ?_; clear hE a; intro a hE
      refine WL.nil ?_
      obtain ⟨q68, hq67, hr⟩ := bndS hr
      refine W.cut (fun a w => ∃ (q71 : Int), ∃ (q72 : Int), (q71, q72) = q68 ∧ Rep a 25 [(0, .int .u64 q71), (2, .int .i64 q72)] ∧ St w s (R)) ?_ ?_
      · refine W.gen fun K73 hK73 => ?_
        refine W.cond hE rfl (fun hc74 => ?_) (fun hc74 => ?_)
        · replace hq67 := iteT hc74 hq67
          refine W.seq ?_
          refine W.region ?_
          refine WL.vS hS hE (runs_plain rfl) (Gives.p hE rfl) rfl ?_; clear hE a; intro a hE
          refine WL.vS hS hE (runs_plain rfl) (Gives.shr hE rfl rfl (by decide)) rfl ?_; clear hE a; intro a hE
          refine WL.vS hS hE (runs_plain rfl) (Gives.p hE rfl) rfl ?_; clear hE a; intro a hE
          refine WL.nil ?_
          refine W.region ?_
          refine WL.vS hS hE (runs_plain rfl) (Gives.p hE rfl) rfl ?_; clear hE a; intro a hE
          refine WL.vS hS hE (runs_plain rfl) (Gives.p hE rfl) rfl ?_; clear hE a; intro a hE
          refine WL.vS hS hE (runs_plain rfl) (Gives.p hE rfl) rfl ?_; clear hE a; intro a hE
          refine WL.nil ?_
          subst hK73
          exact ⟨Int.fdiv q63 (2 ^ (min (Int.toNat 8) (IntKind.bits .u64))), w64 (q64 + 8), hq67, hE.pick _ ⟨rfl, rfl, trivial⟩, hS⟩
        · replace hq67 := iteF hc74 hq67
          refine W.skip ?_
          subst hK73
          exact ⟨q63, q64, hq67, hE.pick _ ⟨rfl, rfl, trivial⟩, hS⟩
      · clear hE hS a w; rintro a w ⟨q71, q72, rfl, hE, hS⟩
        dsimp only at hr
        refine W.seq ?_
        refine W.region ?_
        refine WL.vS hS hE (runs_plain rfl) (Gives.p hE rfl) rfl ?_; clear hE a; intro a hE
        refine WL.vS hS hE (runs_plain rfl) (Gives.p hE rfl) rfl ?_; clear hE a; intro a hE
        refine WL.vS hS hE (runs_plain rfl) (Gives.conv hE rfl hu74 ui5) rfl ?_; clear hE a; intro a hE
        obtain ⟨x75, hx76, hr⟩ := bindS hr
        refine WL.vS hS hE (runs_plain rfl) (Gives.idxS hE st9 rfl rfl hx76) rfl ?_; clear hE a; intro a hE
        refine WL.vS hS hE (runs_plain rfl) (Gives.conv hE rfl hu5 ui3) rfl ?_; clear hE a; intro a hE
        refine WL.vS hS hE (runs_plain rfl) (Gives.p hE rfl) rfl ?_; clear hE a; intro a hE
        refine WL.vS hS hE (runs_plain rfl) (Gives.p hE rfl) rfl ?_; clear hE a; intro a hE
        refine WL.nil ?_
        refine W.ret ?_
        refine finG (fn := Tryd.f40) (rs := [.tmp 2]) (vs := [_]) hE rfl ⟨rfl, trivial⟩ ?_
        obtain rfl := Option.some.inj hr
        exact ⟨rfl, hS⟩
set_option maxHeartbeats 8000000 in
theorem InternalStrconvlog10Pow2_ok  {w : World} {s : Sg} {R : List HP} {x0 : Int} (hS : St w s (R))  {r : Int} (hr : InternalStrconvlog10Pow2 x0 = r) :
    Calls Tryd.prog 39 [.int .i64 x0].toArray w (fun e w => e = .returned (.int .i64 r) ∧ St w s (R)) := by
  refine enter Tryd.func39 rfl rfl rfl fun a hE => ?_
  rw [InternalStrconvlog10Pow2] at hr
  refine W.seq ?_
  refine W.region ?_
  refine WL.vS hS hE (runs_plain rfl) (Gives.p hE rfl) rfl ?_; clear hE a; intro a hE
  refine WL.nil ?_
  refine W.seq ?_
  refine W.region ?_
  refine WL.vS hS hE (runs_plain rfl) (Gives.p hE rfl) rfl ?_; clear hE a; intro a hE
  refine WL.vS hS hE (runs_plain rfl) (Gives.p hE rfl) rfl ?_; clear hE a; intro a hE
  refine WL.vS hS hE (runs_plain rfl) (Gives.shr hE rfl rfl (by decide)) rfl ?_; clear hE a; intro a hE
  refine WL.vS hS hE (runs_plain rfl) (Gives.p hE rfl) rfl ?_; clear hE a; intro a hE
  refine WL.nil ?_
  refine W.ret ?_
  refine finG (fn := Tryd.f39) (rs := [.tmp 2]) (vs := [_]) hE rfl ⟨rfl, trivial⟩ ?_
  subst hr
  exact ⟨rfl, hS⟩
set_option maxHeartbeats 8000000 in
theorem InternalStrconvisPowerOfTwo_ok  {w : World} {s : Sg} {R : List HP} {x0 : Int} (hS : St w s (R))  {r : Bool} (hr : InternalStrconvisPowerOfTwo x0 = r) :
    Calls Tryd.prog 42 [.int .i64 x0].toArray w (fun e w => e = .returned (.bool r) ∧ St w s (R)) := by
  refine enter Tryd.func42 rfl rfl rfl fun a hE => ?_
  rw [InternalStrconvisPowerOfTwo] at hr
  refine W.seq ?_
  refine W.region ?_
  refine WL.vS hS hE (runs_plain rfl) (Gives.p hE rfl) rfl ?_; clear hE a; intro a hE
  refine WL.nil ?_
  refine W.seq ?_
  refine W.region ?_
  refine WL.vS hS hE (runs_plain rfl) (Gives.p hE rfl) rfl ?_; clear hE a; intro a hE
  refine WL.vS hS hE (runs_plain rfl) (Gives.p hE rfl) rfl ?_; clear hE a; intro a hE
  refine WL.vS hS hE (runs_plain rfl) (Gives.p hE rfl) rfl ?_; clear hE a; intro a hE
  refine WL.vS hS hE (runs_plain rfl) (Gives.p hE rfl) rfl ?_; clear hE a; intro a hE
  refine WL.vS hS hE (runs_plain rfl) (Gives.p hE rfl) rfl ?_; clear hE a; intro a hE
  refine WL.vS hS hE (runs_plain rfl) (Gives.p hE rfl) rfl ?_; clear hE a; intro a hE
  refine WL.nil ?_
  refine W.ret ?_
  refine finG (fn := Tryd.f42) (rs := [.tmp 2]) (vs := [_]) hE rfl ⟨rfl, trivial⟩ ?_
  subst hr
  exact ⟨rfl, hS⟩
set_option maxHeartbeats 8000000 in
theorem MathBitsTrailingZeros_ok  {w : World} {s : Sg} {R : List HP} {x0 : Int} (hS : St w s (R))  {r : Int} (hr : MathBitsTrailingZeros x0 = some r) :
    Calls Tryd.prog 43 [.int .u64 x0].toArray w (fun e w => e = .returned (.int .i64 r) ∧ St w s (R)) := by
  refine enter Tryd.func43 rfl rfl rfl fun a hE => ?_
  rw [MathBitsTrailingZeros] at hr
  refine W.seq ?_
  refine W.region ?_
  refine WL.vS hS hE (runs_plain rfl) (Gives.p hE rfl) rfl ?_; clear hE a; intro a hE
  refine WL.nil ?_
  refine W.seq ?_
  refine W.condF hE rfl rfl ?_
  refine W.skip ?_
  refine W.seq ?_
  refine W.region ?_
  refine WL.vS hS hE (runs_plain rfl) (Gives.p hE rfl) rfl ?_; clear hE a; intro a hE
  exact absurd hr (by simp)
set_option maxHeartbeats 8000000 in
theorem InternalStrconvFormatInt_ok  {w : World} {s : Sg} {R : List HP} {x0 : Int} {x1 : Int} (hS : St w s (R))  {r : ByteArray} (hr : InternalStrconvFormatInt x0 x1 = some r) :
    Calls Tryd.prog 34 [.int .i64 x0, .int .i64 x1].toArray w (fun e w => e = .returned (.string r) ∧ St w s (R)) := by
  refine enter Tryd.func34 rfl rfl rfl fun a hE => ?_
  rw [InternalStrconvFormatInt] at hr
  refine W.seq ?_
  refine W.region ?_
  refine WL.vS hS hE (runs_plain rfl) (Gives.p hE rfl) rfl ?_; clear hE a; intro a hE
  refine WL.nil ?_
  refine W.seq ?_
  refine W.seq ?_
  refine W.region ?_
  refine WL.vS hS hE (runs_plain rfl) (Gives.p hE rfl) rfl ?_; clear hE a; intro a hE
  refine WL.vS hS hE (runs_plain rfl) (Gives.p hE rfl) rfl ?_; clear hE a; intro a hE
  refine WL.nil ?_
  refine W.cond hE rfl (fun hc51 => ?_) (fun hc51 => ?_)
  · replace hr := iteT hc51 hr
    refine W.seq ?_
    refine W.seq ?_
    obtain ⟨q53, hq52, hr⟩ := bndS hr
    refine W.cut (fun a w => ∃ (q56 : Bool), q56 = q53 ∧ Rep a 54 [(0, .int .i64 x0), (17, .bool q56)] ∧ St w s (R)) ?_ ?_
    · refine W.gen fun K57 hK57 => ?_
      refine W.region ?_
      refine WL.vS hS hE (runs_plain rfl) (Gives.p hE rfl) rfl ?_; clear hE a; intro a hE
      refine WL.vS hS hE (runs_plain rfl) (Gives.p hE rfl) rfl ?_; clear hE a; intro a hE
      refine WL.vS hS hE (runs_plain rfl) (Gives.p hE rfl) rfl ?_; clear hE a; intro a hE
      rcases Bool.eq_false_or_eq_true (decide (0 ≤ x0)) with hg58 | hg58
      · replace hq52 := iteT hg58 hq52
        refine WL.vS hS hE (runs_if hE rfl rfl rfl hg58) (Gives.p hE rfl) rfl ?_; clear hE a; intro a hE
        refine WL.vS hS hE (runs_if hE rfl rfl rfl hg58) (Gives.p hE rfl) rfl ?_; clear hE a; intro a hE
        refine WL.vS hS hE (runs_plain rfl) (Gives.pickT hE rfl hg58 rfl) rfl ?_; clear hE a; intro a hE
        refine WL.nil ?_
        subst hK57
        exact ⟨decide (x0 < 100), hq52, hE.pick _ ⟨rfl, rfl, trivial⟩, hS⟩
      · replace hq52 := iteF hg58 hq52
        refine WL.no hE (runs_not hE rfl rfl rfl (by rw [hg58]; decide)) rfl ?_; clear hE a; intro a hE
        refine WL.no hE (runs_not hE rfl rfl rfl (by rw [hg58]; decide)) rfl ?_; clear hE a; intro a hE
        refine WL.vS hS hE (runs_plain rfl) (Gives.pickF hE rfl hg58 rfl) rfl ?_; clear hE a; intro a hE
        refine WL.nil ?_
        subst hK57
        exact ⟨false, hq52, hE.pick _ ⟨rfl, rfl, trivial⟩, hS⟩
    · clear hE hS a w; rintro a w ⟨q56, rfl, hE, hS⟩
      refine W.cond hE rfl (fun hc59 => ?_) (fun hc59 => ?_)
      · replace hr := iteT hc59 hr
        refine W.seq ?_
        refine W.region ?_
        refine WL.vS hS hE (runs_plain rfl) (Gives.p hE rfl) rfl ?_; clear hE a; intro a hE
        obtain ⟨q60, hq61, hr⟩ := bindS hr
        have hc_ := InternalStrconvsmall_ok hS  hq61
        refine WL.fnq hE (hc_) (runs_plain rfl) bd35 rfl rfl rfl ?_
        clear hE hS hc_; rintro e w ⟨rfl, hS⟩; refine ⟨_, rfl, ?_⟩; clear a; intro a hE
        refine WL.vS hS hE (runs_plain rfl) (Gives.p hE rfl) rfl ?_; clear hE a; intro a hE
        refine WL.nil ?_
        refine W.ret ?_
        refine finG (fn := Tryd.f34) (rs := [.tmp 4]) (vs := [_]) hE rfl ⟨rfl, trivial⟩ ?_
        obtain rfl := Option.some.inj hr
        exact ⟨rfl, hS⟩
      · replace hr := iteF hc59 hr
        refine W.skip ?_
        refine W.seq ?_
        refine W.region ?_
        refine WL.alloc hE hS (runs_plain rfl) zr73 rfl ?_; clear hE hS a w; intro b62 a w hE hS
        replace hS := hS.ptVec (es := 1) (m := 24) rfl (by decide)
        have h63 : Ev 1 (RI .u8) s [.int .u8 0, .int .u8 0, .int .u8 0, .int .u8 0, .int .u8 0, .int .u8 0, .int .u8 0, .int .u8 0, .int .u8 0, .int .u8 0, .int .u8 0, .int .u8 0, .int .u8 0, .int .u8 0, .int .u8 0, .int .u8 0, .int .u8 0, .int .u8 0, .int .u8 0, .int .u8 0, .int .u8 0, .int .u8 0, .int .u8 0, .int .u8 0] (List.replicate 24 (0 : Int)) := (Ev.ofMap (k := .u8) (List.replicate 24 (0 : Int)))
        refine WL.nil ?_
        refine W.seq ?_
        refine W.region ?_
        refine WL.vS hS hE (runs_plain rfl) (Gives.p hE rfl) rfl ?_; clear hE a; intro a hE
        refine WL.vS hS hE (runs_plain rfl) (Gives.conv hE rfl hu2 ui74) rfl ?_; clear hE a; intro a hE
        refine WL.vS hS hE (runs_plain rfl) (Gives.p hE rfl) rfl ?_; clear hE a; intro a hE
        refine WL.nil ?_
        refine W.seq ?_
        refine W.seq ?_
        refine W.region ?_
        refine WL.vS hS hE (runs_plain rfl) (Gives.p hE rfl) rfl ?_; clear hE a; intro a hE
        refine WL.vS hS hE (runs_plain rfl) (Gives.p hE rfl) rfl ?_; clear hE a; intro a hE
        refine WL.nil ?_
        obtain ⟨q66, hq65, hr⟩ := bndS hr
        refine W.cut (fun a w => ∃ (q69 : Int), q69 = q66 ∧ Rep a 54 [(0, .int .i64 x0), (5, .pointer (some ⟨b62, 0, none⟩)), (6, .int .u64 q69)] ∧ St w s (vecC 73 1 (some ⟨b62, 0, none⟩) 24 24 [.int .u8 0, .int .u8 0, .int .u8 0, .int .u8 0, .int .u8 0, .int .u8 0, .int .u8 0, .int .u8 0, .int .u8 0, .int .u8 0, .int .u8 0, .int .u8 0, .int .u8 0, .int .u8 0, .int .u8 0, .int .u8 0, .int .u8 0, .int .u8 0, .int .u8 0, .int .u8 0, .int .u8 0, .int .u8 0, .int .u8 0, .int .u8 0] :: R)) ?_ ?_
        · refine W.gen fun K70 hK70 => ?_
          refine W.cond hE rfl (fun hc71 => ?_) (fun hc71 => ?_)
          · replace hq65 := iteT hc71 hq65
            refine W.region ?_
            refine WL.vS hS hE (runs_plain rfl) (Gives.p hE rfl) rfl ?_; clear hE a; intro a hE
            refine WL.vS hS hE (runs_plain rfl) (Gives.p hE rfl) rfl ?_; clear hE a; intro a hE
            refine WL.vS hS hE (runs_plain rfl) (Gives.p hE rfl) rfl ?_; clear hE a; intro a hE
            refine WL.nil ?_
            subst hK70
            exact ⟨IntKind.wrap .u64 (0 - (IntKind.wrap .u64 x0)), hq65, hE.pick _ ⟨rfl, rfl, rfl, trivial⟩, hS⟩
          · replace hq65 := iteF hc71 hq65
            refine W.skip ?_
            subst hK70
            exact ⟨IntKind.wrap .u64 x0, hq65, hE.pick _ ⟨rfl, rfl, rfl, trivial⟩, hS⟩
        · clear hE hS a w; rintro a w ⟨q69, rfl, hE, hS⟩
          refine W.seq ?_
          refine W.region ?_
          refine WL.vS hS hE (runs_plain rfl) (Gives.p hE rfl) rfl ?_; clear hE a; intro a hE
          exact absurd hr (by simp)
  · replace hr := iteF hc51 hr
    refine W.skip ?_
    refine W.seq ?_
    refine W.region ?_
    refine WL.vS hS hE (runs_plain rfl) (Gives.p hE rfl) rfl ?_; clear hE a; intro a hE
    refine WL.vS hS hE (runs_plain rfl) (Gives.conv hE rfl hu2 ui74) rfl ?_; clear hE a; intro a hE
    refine WL.vS hS hE (runs_plain rfl) (Gives.p hE rfl) rfl ?_; clear hE a; intro a hE
    refine WL.vS hS hE (runs_plain rfl) (Gives.p hE rfl) rfl ?_; clear hE a; intro a hE
    refine WL.vS hS hE (runs_plain rfl) (Gives.p hE rfl) rfl ?_; clear hE a; intro a hE
    exact absurd hr (by simp)
set_option maxHeartbeats 8000000 in
theorem InternalStrconvItoa_ok  {w : World} {s : Sg} {R : List HP} {x0 : Int} (hS : St w s (R))  {r : ByteArray} (hr : InternalStrconvItoa x0 = some r) :
    Calls Tryd.prog 33 [.int .i64 x0].toArray w (fun e w => e = .returned (.string r) ∧ St w s (R)) := by
  refine enter Tryd.func33 rfl rfl rfl fun a hE => ?_
  rw [InternalStrconvItoa] at hr
  refine W.seq ?_
  refine W.region ?_
  refine WL.vS hS hE (runs_plain rfl) (Gives.p hE rfl) rfl ?_; clear hE a; intro a hE
  refine WL.nil ?_
  refine W.seq ?_
  refine W.region ?_
  refine WL.vS hS hE (runs_plain rfl) (Gives.p hE rfl) rfl ?_; clear hE a; intro a hE
  obtain ⟨q51, hq52, hr⟩ := bindS hr
  have hc_ := InternalStrconvFormatInt_ok hS  hq52
  refine WL.fnq hE (hc_) (runs_plain rfl) bd34 rfl rfl rfl ?_
  clear hE hS hc_; rintro e w ⟨rfl, hS⟩; refine ⟨_, rfl, ?_⟩; clear a; intro a hE
  refine WL.vS hS hE (runs_plain rfl) (Gives.p hE rfl) rfl ?_; clear hE a; intro a hE
  refine WL.nil ?_
  refine W.ret ?_
  refine finG (fn := Tryd.f33) (rs := [.tmp 2]) (vs := [_]) hE rfl ⟨rfl, trivial⟩ ?_
  obtain rfl := Option.some.inj hr
  exact ⟨rfl, hS⟩
set_option maxHeartbeats 8000000 in
theorem StrconvItoa_ok  {w : World} {s : Sg} {R : List HP} {x0 : Int} (hS : St w s (R))  {r : ByteArray} (hr : StrconvItoa x0 = some r) :
    Calls Tryd.prog 31 [.int .i64 x0].toArray w (fun e w => e = .returned (.string r) ∧ St w s (R)) := by
  refine enter Tryd.func31 rfl rfl rfl fun a hE => ?_
  rw [StrconvItoa] at hr
  refine W.seq ?_
  refine W.region ?_
  refine WL.vS hS hE (runs_plain rfl) (Gives.p hE rfl) rfl ?_; clear hE a; intro a hE
  refine WL.nil ?_
  refine W.seq ?_
  refine W.region ?_
  refine WL.vS hS hE (runs_plain rfl) (Gives.p hE rfl) rfl ?_; clear hE a; intro a hE
  obtain ⟨q51, hq52, hr⟩ := bindS hr
  have hc_ := InternalStrconvItoa_ok hS  hq52
  refine WL.fnq hE (hc_) (runs_plain rfl) bd33 rfl rfl rfl ?_
  clear hE hS hc_; rintro e w ⟨rfl, hS⟩; refine ⟨_, rfl, ?_⟩; clear a; intro a hE
  refine WL.vS hS hE (runs_plain rfl) (Gives.p hE rfl) rfl ?_; clear hE a; intro a hE
  refine WL.nil ?_
  refine W.ret ?_
  refine finG (fn := Tryd.f31) (rs := [.tmp 2]) (vs := [_]) hE rfl ⟨rfl, trivial⟩ ?_
  obtain rfl := Option.some.inj hr
  exact ⟨rfl, hS⟩
end Go.Proofs.YtkagiigknockbaaDoor
