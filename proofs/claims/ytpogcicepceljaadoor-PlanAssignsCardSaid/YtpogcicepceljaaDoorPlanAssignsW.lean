/- The walks of the functions that PlanAssigns reaches: each call comes to what its mirror says. The conditions are those of each contract. -/
import Derived.Test.YtpogcicepceljaaDoorProg
import Derived.Test.YtpogcicepceljaaDoorPlanAssignsM
import Derived.Test.YtpogcicepceljaaDoorFpAllS
import Derived.Test.YtpogcicepceljaaDoorPlanAssignsS
namespace Go.Proofs.YtpogcicepceljaaDoor
open Go Go.Fp
theorem ap23 : apOk Tryd.prog 23 3 1 = true := by kernel_rfl
theorem ar101 : arOk Tryd.prog 101 65 = true := by kernel_rfl
theorem bd10 : bodied Tryd.prog 10 = true := by kernel_rfl
theorem bd11 : bodied Tryd.prog 11 = true := by kernel_rfl
theorem bd12 : bodied Tryd.prog 12 = true := by kernel_rfl
theorem bd13 : bodied Tryd.prog 13 = true := by kernel_rfl
theorem bd14 : bodied Tryd.prog 14 = true := by kernel_rfl
theorem bd15 : bodied Tryd.prog 15 = true := by kernel_rfl
theorem bd16 : bodied Tryd.prog 16 = true := by kernel_rfl
theorem bd17 : bodied Tryd.prog 17 = true := by kernel_rfl
theorem bd19 : bodied Tryd.prog 19 = true := by kernel_rfl
theorem bd20 : bodied Tryd.prog 20 = true := by kernel_rfl
theorem bd21 : bodied Tryd.prog 21 = true := by kernel_rfl
theorem bd22 : bodied Tryd.prog 22 = true := by kernel_rfl
theorem bd23 : bodied Tryd.prog 23 = true := by kernel_rfl
theorem bd24 : bodied Tryd.prog 24 = true := by kernel_rfl
theorem bd28 : bodied Tryd.prog 28 = true := by kernel_rfl
theorem bd39 : bodied Tryd.prog 39 = true := by kernel_rfl
theorem bd4 : bodied Tryd.prog 4 = true := by kernel_rfl
theorem bd41 : bodied Tryd.prog 41 = true := by kernel_rfl
theorem bd48 : bodied Tryd.prog 48 = true := by kernel_rfl
theorem bd5 : bodied Tryd.prog 5 = true := by kernel_rfl
theorem bd50 : bodied Tryd.prog 50 = true := by kernel_rfl
theorem bd54 : bodied Tryd.prog 54 = true := by kernel_rfl
theorem bd56 : bodied Tryd.prog 56 = true := by kernel_rfl
theorem bd57 : bodied Tryd.prog 57 = true := by kernel_rfl
theorem bd6 : bodied Tryd.prog 6 = true := by kernel_rfl
theorem bd7 : bodied Tryd.prog 7 = true := by kernel_rfl
theorem bd8 : bodied Tryd.prog 8 = true := by kernel_rfl
theorem bd9 : bodied Tryd.prog 9 = true := by kernel_rfl
theorem fl31_0 : fldOk Tryd.prog 31 0 0 = true := by kernel_rfl
theorem fl31_1 : fldOk Tryd.prog 31 1 1 = true := by kernel_rfl
theorem fl31_2 : fldOk Tryd.prog 31 2 2 = true := by kernel_rfl
theorem fl42_0 : fldOk Tryd.prog 42 0 0 = true := by kernel_rfl
theorem fl42_1 : fldOk Tryd.prog 42 1 1 = true := by kernel_rfl
theorem fl42_2 : fldOk Tryd.prog 42 2 2 = true := by kernel_rfl
theorem fl42_3 : fldOk Tryd.prog 42 3 3 = true := by kernel_rfl
theorem fl46_0 : fldOk Tryd.prog 46 0 0 = true := by kernel_rfl
theorem fl46_1 : fldOk Tryd.prog 46 1 1 = true := by kernel_rfl
theorem fl46_2 : fldOk Tryd.prog 46 2 2 = true := by kernel_rfl
theorem fl46_3 : fldOk Tryd.prog 46 3 3 = true := by kernel_rfl
theorem fl49_0 : fldOk Tryd.prog 49 0 0 = true := by kernel_rfl
theorem fl49_1 : fldOk Tryd.prog 49 1 1 = true := by kernel_rfl
theorem hu2 : (Tryd.prog.underlying 2).isSome = true := by kernel_rfl
theorem hu3 : (Tryd.prog.underlying 3).isSome = true := by kernel_rfl
theorem hu5 : (Tryd.prog.underlying 5).isSome = true := by kernel_rfl
theorem hu81 : (Tryd.prog.underlying 81).isSome = true := by kernel_rfl
theorem mixed : Tryd.prog.follows .mixedOrders = true := by kernel_rfl
theorem sl22 : slOk Tryd.prog 22 31 3 = true := by kernel_rfl
theorem sl23 : slOk Tryd.prog 23 3 1 = true := by kernel_rfl
theorem sl43 : slOk Tryd.prog 43 42 4 = true := by kernel_rfl
theorem sl44 : slOk Tryd.prog 44 23 1 = true := by kernel_rfl
theorem sl47 : slOk Tryd.prog 47 46 4 = true := by kernel_rfl
theorem st9 : stOk Tryd.prog 9 = true := by kernel_rfl
theorem ty22 : tyOk Tryd.prog 22 false 1 = true := by kernel_rfl
theorem ty23 : tyOk Tryd.prog 23 false 1 = true := by kernel_rfl
theorem ty27 : tyOk Tryd.prog 27 false 1 = true := by kernel_rfl
theorem ty3 : tyOk Tryd.prog 3 false 1 = true := by kernel_rfl
theorem ty31 : tyOk Tryd.prog 31 true 3 = true := by kernel_rfl
theorem ty33 : tyOk Tryd.prog 33 false 1 = true := by kernel_rfl
theorem ty4 : tyOk Tryd.prog 4 false 1 = true := by kernel_rfl
theorem ty42 : tyOk Tryd.prog 42 true 4 = true := by kernel_rfl
theorem ty43 : tyOk Tryd.prog 43 false 1 = true := by kernel_rfl
theorem ty44 : tyOk Tryd.prog 44 false 1 = true := by kernel_rfl
theorem ty46 : tyOk Tryd.prog 46 true 4 = true := by kernel_rfl
theorem ty47 : tyOk Tryd.prog 47 false 1 = true := by kernel_rfl
theorem ty49 : tyOk Tryd.prog 49 true 2 = true := by kernel_rfl
theorem ty5 : tyOk Tryd.prog 5 false 1 = true := by kernel_rfl
theorem ui3 : Tryd.prog.underlying 3 = some (.int .i64) := by kernel_rfl
theorem ui5 : Tryd.prog.underlying 5 = some (.int .u8) := by kernel_rfl
theorem ui66 : Tryd.prog.underlying 66 = some (.int .u64) := by kernel_rfl
theorem ui81 : Tryd.prog.underlying 81 = some (.int .u64) := by kernel_rfl
theorem zr101 : (Tryd.prog.info? 101).bind (fun i => i.zero.map fun z => z.cells.toList) = some [.int .u8 0, .int .u8 0, .int .u8 0, .int .u8 0, .int .u8 0, .int .u8 0, .int .u8 0, .int .u8 0, .int .u8 0, .int .u8 0, .int .u8 0, .int .u8 0, .int .u8 0, .int .u8 0, .int .u8 0, .int .u8 0, .int .u8 0, .int .u8 0, .int .u8 0, .int .u8 0, .int .u8 0, .int .u8 0, .int .u8 0, .int .u8 0, .int .u8 0, .int .u8 0, .int .u8 0, .int .u8 0, .int .u8 0, .int .u8 0, .int .u8 0, .int .u8 0, .int .u8 0, .int .u8 0, .int .u8 0, .int .u8 0, .int .u8 0, .int .u8 0, .int .u8 0, .int .u8 0, .int .u8 0, .int .u8 0, .int .u8 0, .int .u8 0, .int .u8 0, .int .u8 0, .int .u8 0, .int .u8 0, .int .u8 0, .int .u8 0, .int .u8 0, .int .u8 0, .int .u8 0, .int .u8 0, .int .u8 0, .int .u8 0, .int .u8 0, .int .u8 0, .int .u8 0, .int .u8 0, .int .u8 0, .int .u8 0, .int .u8 0, .int .u8 0, .int .u8 0] := by kernel_rfl
theorem zr23 : (Tryd.prog.info? 23).bind (fun i => i.zero.map fun z => z.cells.toList) = some [.slice none 0 0] := by kernel_rfl
theorem zr27 : (Tryd.prog.info? 27).bind (fun i => i.zero.map fun z => z.cells.toList) = some [.nilFunc] := by kernel_rfl
theorem zr3 : (Tryd.prog.info? 3).bind (fun i => i.zero.map fun z => z.cells.toList) = some [.int .i64 0] := by kernel_rfl
theorem zr31 : (Tryd.prog.info? 31).bind (fun i => i.zero.map fun z => z.cells.toList) = some [.int .i64 0, .int .i64 0, .slice none 0 0] := by kernel_rfl
theorem zr33 : (Tryd.prog.info? 33).bind (fun i => i.zero.map fun z => z.cells.toList) = some [.nilFunc] := by kernel_rfl
theorem zr4 : (Tryd.prog.info? 4).bind (fun i => i.zero.map fun z => z.cells.toList) = some [.bool false] := by kernel_rfl
theorem zr42 : (Tryd.prog.info? 42).bind (fun i => i.zero.map fun z => z.cells.toList) = some [.int .i64 0, .int .i64 0, .int .i64 0, .int .i64 0] := by kernel_rfl
theorem zr46 : (Tryd.prog.info? 46).bind (fun i => i.zero.map fun z => z.cells.toList) = some [.int .i64 0, .int .i64 0, .slice none 0 0, .slice none 0 0] := by kernel_rfl
theorem zr55 : (Tryd.prog.info? 55).bind (fun i => i.zero.map fun z => z.cells.toList) = some [.pointer none, .slice none 0 0] := by kernel_rfl
theorem zr94 : (Tryd.prog.info? 94).bind (fun i => i.zero.map fun z => z.cells.toList) = some [.int .u8 0, .int .u8 0, .int .u8 0, .int .u8 0, .int .u8 0, .int .u8 0, .int .u8 0, .int .u8 0, .int .u8 0, .int .u8 0, .int .u8 0, .int .u8 0, .int .u8 0, .int .u8 0, .int .u8 0, .int .u8 0, .int .u8 0, .int .u8 0, .int .u8 0, .int .u8 0, .int .u8 0, .int .u8 0, .int .u8 0, .int .u8 0] := by kernel_rfl
theorem sbmixed : Tryd.prog.follows .mixedOrders = true := by kernel_rfl
theorem sbty60 : tyOk Tryd.prog 52 false 1 = true := by kernel_rfl
theorem sbty61 : tyOk Tryd.prog 53 false 1 = true := by kernel_rfl
theorem sbfl0 : fldOk Tryd.prog 55 0 0 = true := by kernel_rfl
theorem sbfl1 : fldOk Tryd.prog 55 1 1 = true := by kernel_rfl
theorem sbap : apOk Tryd.prog 53 5 1 = true := by kernel_rfl
theorem sbsl : slOk Tryd.prog 53 5 1 = true := by kernel_rfl
theorem sbpt : ptOk Tryd.prog 52 55 = true := by kernel_rfl
theorem sbu60 : Tryd.prog.underlying 52 = some (.pointer 55) := by kernel_rfl
theorem sbu77 : Tryd.prog.underlying 82 = some .unsafePointer := by kernel_rfl
theorem sbu76 : Tryd.prog.underlying 68 = some (.pointer 5) := by kernel_rfl
theorem sbu9 : Tryd.prog.underlying 9 = some .string := by kernel_rfl
theorem sbst : stOk Tryd.prog 9 = true := by kernel_rfl
theorem sbc : Tryd.prog.cellsOf 55 = 2 := by kernel_rfl
theorem sbc5 : Tryd.prog.cellsOf 5 = 1 := by kernel_rfl
theorem sbi0 : (Tryd.prog.info? 55).map (·.size) = some 2 := by kernel_rfl
theorem sbi : ∃ j, Tryd.prog.info? 55 = some j ∧ j.size ≠ 0 := by
  have h := sbi0
  rw [Option.map_eq_some_iff] at h
  obtain ⟨j, h1, h2⟩ := h
  exact ⟨j, h1, by omega⟩
theorem sbsame : sameOk Tryd.prog 40 := ⟨_, rfl, by kernel_rfl, by kernel_rfl, by kernel_rfl, by kernel_rfl⟩
theorem sbbd : bodied Tryd.prog 27 = true := by kernel_rfl
section
variable {w : World} {s : Sg} {R : List HP} {b : Nat} {y : ByteArray}
theorem sbCheck_ok {f a : Option Addr} {c : Nat} (hf : f = none ∨ f = some ⟨b, 0, none⟩) (hS : St w s (pt b (.cells [.pointer f, .slice a y.size c].toArray 55 (0, 0)) :: R)) :
    Calls Tryd.prog 27 [.pointer (some ⟨b, 0, none⟩)].toArray w (fun e w => e = .returned (.tuple #[]) ∧ St w s (pt b (.cells [.pointer (some ⟨b, 0, none⟩), .slice a y.size c].toArray 55 (0, 0)) :: R)) := by
  obtain ⟨j, hj1, hj2⟩ := sbi
  refine enter Tryd.func27 rfl rfl rfl fun a hE => ?_
  refine W.seq ?_
  refine W.region ?_
  refine WL.vS hS hE (runs_plain rfl) (Gives.p hE rfl) rfl ?_; clear hE a; intro a hE
  refine WL.vS hS hE (runs_plain rfl) (Gives.nilOk hE rfl) rfl ?_; clear hE a; intro a hE
  refine WL.vS hS hE (runs_plain rfl) (Gives.fld hE rfl sbfl0) rfl ?_; clear hE a; intro a hE
  refine WL.vS hS hE (runs_plain rfl) (Gives.loadB hE 0 rfl rfl rfl sbty60) rfl ?_; clear hE a; intro a hE
  refine WL.vS hS hE (runs_plain rfl) (Gives.isNilP hE rfl rfl sbpt) rfl ?_; clear hE a; intro a hE
  refine WL.nil ?_
  refine W.cond hE rfl (fun hc => ?_) (fun hc => ?_)
  · refine W.region ?_
    refine WL.vS hS hE (runs_plain rfl) (Gives.p hE rfl) rfl ?_; clear hE a; intro a hE
    refine WL.vS hS hE (runs_plain rfl) (Gives.p hE rfl) rfl ?_; clear hE a; intro a hE
    refine WL.vS hS hE (runs_plain rfl) (Gives.toUnsafe hE 0 rfl rfl rfl sbu60 sbu77 hj1 hj2) rfl ?_; clear hE a; intro a hE
    refine WL.same hE sbsame (runs_plain rfl) rfl rfl ?_; clear hE a; intro a hE
    refine WL.vS hS hE (runs_plain rfl) (Gives.fromUnsafe hE 0 rfl rfl sbu77 sbu60 hj1 sbc rfl) rfl ?_; clear hE a; intro a hE
    refine WL.vS hS hE (runs_plain rfl) (Gives.nilOk hE rfl) rfl ?_; clear hE a; intro a hE
    refine WL.vS hS hE (runs_plain rfl) (Gives.fld hE rfl sbfl0) rfl ?_; clear hE a; intro a hE
    refine WL.storeI hE hS 0 rfl _ (runs_plain rfl) rfl rfl rfl sbty60 rfl rfl rfl rfl ?_; clear hE hS a; intro a w hE hS
    refine WL.nil ?_
    refine fin0 hE rfl ?_
    exact ⟨rfl, hS⟩
  · have hf' : f = some ⟨b, 0, none⟩ := by
      rcases hf with rfl | h
      · cases hc
      · exact h
    subst hf'
    refine W.seq ?_
    refine W.region ?_
    refine WL.vS hS hE (runs_plain rfl) (Gives.p hE rfl) rfl ?_; clear hE a; intro a hE
    refine WL.vS hS hE (runs_plain rfl) (Gives.nilOk hE rfl) rfl ?_; clear hE a; intro a hE
    refine WL.vS hS hE (runs_plain rfl) (Gives.fld hE rfl sbfl0) rfl ?_; clear hE a; intro a hE
    refine WL.vS hS hE (runs_plain rfl) (Gives.loadB hE 0 rfl rfl rfl sbty60) rfl ?_; clear hE a; intro a hE
    refine WL.vS hS hE (runs_plain rfl) (Gives.p hE rfl) rfl ?_; clear hE a; intro a hE
    refine WL.vS hS hE (runs_plain rfl) (Gives.neqSame hE rfl rfl sbu60 hj1) rfl ?_; clear hE a; intro a hE
    refine WL.nil ?_
    refine W.condF hE rfl rfl ?_
    refine W.skip ?_
    refine fin0 hE rfl ?_
    exact ⟨rfl, hS⟩

theorem sbWrite_ok {x r : ByteArray} (hS : St w s (sbC 55 5 b y :: R)) (hr : sbw y x = some r) :
    Calls Tryd.prog 21 [.pointer (some ⟨b, 0, none⟩), .string x].toArray w (fun e w => e = .returned (.tuple #[.int .i64 x.size, .nilIface]) ∧ St w s (sbC 55 5 b r :: R)) := by
  obtain ⟨h1, h2, rfl⟩ := sbw_some hr
  obtain ⟨f, sa, c, hf, ha, hS⟩ := hS.sbOpen
  refine enter Tryd.func21 rfl rfl rfl fun a hE => ?_
  refine W.seq ?_
  refine W.region ?_
  refine WL.vS hS hE (runs_plain rfl) (Gives.p hE rfl) rfl ?_; clear hE a; intro a hE
  refine WL.vS hS hE (runs_plain rfl) (Gives.p hE rfl) rfl ?_; clear hE a; intro a hE
  refine WL.nil ?_
  refine W.seq ?_
  refine W.region ?_
  refine WL.vS hS hE (runs_plain rfl) (Gives.p hE rfl) rfl ?_; clear hE a; intro a hE
  refine WL.fnq hE (sbCheck_ok hf hS) (runs_plain rfl) sbbd rfl rfl rfl ?_
  clear hE hS; rintro e w ⟨rfl, hS⟩; refine ⟨_, rfl, ?_⟩; clear a; intro a hE
  refine WL.nil ?_
  refine W.seq ?_
  refine W.region ?_
  refine WL.vS hS hE (runs_plain rfl) (Gives.p hE rfl) rfl ?_; clear hE a; intro a hE
  refine WL.vS hS hE (runs_plain rfl) (Gives.p hE rfl) rfl ?_; clear hE a; intro a hE
  refine WL.vS hS hE (runs_plain rfl) (Gives.nilOk hE rfl) rfl ?_; clear hE a; intro a hE
  refine WL.vS hS hE (runs_plain rfl) (Gives.fld hE rfl sbfl1) rfl ?_; clear hE a; intro a hE
  refine WL.vS hS hE (runs_plain rfl) (Gives.loadB hE 0 rfl rfl rfl sbty61) rfl ?_; clear hE a; intro a hE
  refine WL.vS hS hE (runs_plain rfl) (Gives.p hE rfl) rfl ?_; clear hE a; intro a hE
  refine WL.appStr hE hS 1 (runs_plain rfl) rfl rfl rfl sbap sbu9 h1 h2 ha.1 rfl ?_; clear hE hS a ha; intro sa2 c2 a w ha hE hS
  refine WL.vS hS hE (runs_plain rfl) (Gives.nilOk hE rfl) rfl ?_; clear hE a; intro a hE
  refine WL.vS hS hE (runs_plain rfl) (Gives.fld hE rfl sbfl1) rfl ?_; clear hE a; intro a hE
  refine WL.storeI hE hS 0 rfl _ (runs_plain rfl) rfl rfl rfl sbty61 rfl rfl rfl rfl ?_; clear hE hS a; intro a w hE hS
  refine WL.nil ?_
  refine W.seq ?_
  refine W.region ?_
  refine WL.vS hS hE (runs_plain rfl) (Gives.p hE rfl) rfl ?_; clear hE a; intro a hE
  refine WL.vS hS hE (runs_plain rfl) (Gives.lenS hE rfl sbst) rfl ?_; clear hE a; intro a hE
  refine WL.vS hS hE (runs_plain rfl) (Gives.p hE rfl) rfl ?_; clear hE a; intro a hE
  refine WL.vS hS hE (runs_plain rfl) (Gives.p hE rfl) rfl ?_; clear hE a; intro a hE
  refine WL.nil ?_
  refine W.ret ?_
  refine finG (fn := Tryd.f21) (rs := [.tmp 4, .tmp 5]) (vs := [_, _]) hE rfl ⟨rfl, rfl, trivial⟩ ?_
  refine ⟨rfl, St.sbClose (f := some ⟨b, 0, none⟩) (a := sa2) (c := c2) (.inr rfl) ha ?_⟩
  rw [ByteArray.size_append, byteCells_app]
  exact hS

theorem sbString_ok (hS : St w s (sbC 55 5 b y :: R)) :
    Calls Tryd.prog 23 [.pointer (some ⟨b, 0, none⟩)].toArray w (fun e w => e = .returned (.string y) ∧ St w s R) := by
  obtain ⟨f, sa, c, hf, ha, hS⟩ := hS.sbOpen
  refine enter Tryd.func23 rfl rfl rfl fun a hE => ?_
  refine W.seq ?_
  refine W.region ?_
  refine WL.vS hS hE (runs_plain rfl) (Gives.p hE rfl) rfl ?_; clear hE a; intro a hE
  refine WL.nil ?_
  refine W.seq ?_
  refine W.regionE (sel (fun w => St w s (pt b (.cells [.pointer f, .slice sa y.size c].toArray 55 (0, 0)) :: vecC 5 1 sa c y.size (byteCells y) :: R)) (fun w => St w s R)) (fun b i => cond b (!(i == 10)) true) sbmixed ?_
  replace hS := hS.drew
  refine Rg.takeP (i := 0) hE rfl (by kernel_rfl) (runs_plain rfl) (Gives.p hE rfl) rfl (tw_sel (fun _ => hS) (fun _ => hS.tail.tail)) ?_; clear hE a; intro a hE
  refine Rg.takeP (i := 5) hE rfl (by kernel_rfl) (runs_plain rfl) (Gives.p hE rfl) rfl (tw_sel (fun _ => hS) (fun _ => hS.tail.tail)) ?_; clear hE a; intro a hE
  refine Rg.takeP (i := 1) hE rfl (by kernel_rfl) (runs_plain rfl) (Gives.nilOk hE rfl) rfl (tw_sel (fun _ => hS) (fun _ => hS.tail.tail)) ?_; clear hE a; intro a hE
  refine Rg.takeP (i := 6) hE rfl (by kernel_rfl) (runs_plain rfl) (Gives.nilOk hE rfl) rfl (tw_sel (fun _ => hS) (fun _ => hS.tail.tail)) ?_; clear hE a; intro a hE
  refine Rg.takeP (i := 2) hE rfl (by kernel_rfl) (runs_plain rfl) (Gives.fld hE rfl sbfl1) rfl (tw_sel (fun _ => hS) (fun _ => hS.tail.tail)) ?_; clear hE a; intro a hE
  refine Rg.takeP (i := 7) hE rfl (by kernel_rfl) (runs_plain rfl) (Gives.fld hE rfl sbfl1) rfl (tw_sel (fun _ => hS) (fun _ => hS.tail.tail)) ?_; clear hE a; intro a hE
  refine Rg.two (i := 3) (j := 8) true true true true rfl rfl (by kernel_rfl) (by kernel_rfl) (by kernel_rfl) (by kernel_rfl) (by kernel_rfl) ?_ ?_
  · refine WL.vS hS hE (runs_plain rfl) (Gives.loadB hE 0 rfl rfl rfl sbty61) rfl ?_; clear hE a; intro a hE
    refine WL.nil ?_
    refine ⟨⟨fun _ => hS, fun _ => hS.tail.tail⟩, ?_⟩
    refine Rg.takeP (i := 4) hE rfl (by kernel_rfl) (runs_plain rfl) (Gives.sliceData hE rfl ha.2) rfl (tw_sel (fun _ => hS) (fun _ => hS.tail.tail)) ?_; clear hE a; intro a hE
    refine Rg.one (i := 8) true true rfl (by kernel_rfl) (by kernel_rfl) (by kernel_rfl) ?_
    refine WL.vS hS hE (runs_plain rfl) (Gives.loadB hE 0 rfl rfl rfl sbty61) rfl ?_; clear hE a; intro a hE
    refine WL.nil ?_
    refine ⟨⟨fun _ => hS, fun _ => hS.tail.tail⟩, ?_⟩
    refine Rg.takeP (i := 9) hE rfl (by kernel_rfl) (runs_plain rfl) (Gives.len hE rfl sbsl) rfl (tw_sel (fun _ => hS) (fun _ => hS.tail.tail)) ?_; clear hE a; intro a hE
    refine Rg.one (i := 10) false true rfl (by kernel_rfl) (by kernel_rfl) (by kernel_rfl) ?_
    refine WL.sbString hE hS 1 (runs_plain rfl) rfl rfl rfl ha.1 sbu76 sbc5 rfl ?_; clear hE hS a; intro a w hE hS
    refine WL.nil ?_
    refine ⟨⟨fun h => absurd h (by decide), fun _ => hS.tail⟩, ?_⟩
    refine Rg.takeP (i := 11) hE rfl (by kernel_rfl) (runs_plain rfl) (Gives.p hE rfl) rfl (tw_sel (fun h => absurd h (by decide)) (fun _ => hS.tail)) ?_; clear hE a; intro a hE
    refine Rg.done (by kernel_rfl) ?_
    refine W.ret ?_
    refine finG (fn := Tryd.f23) (rs := [.tmp 2]) (vs := [_]) hE rfl ⟨rfl, trivial⟩ ?_
    exact ⟨rfl, hS.tail⟩
  · refine WL.vS hS hE (runs_plain rfl) (Gives.loadB hE 0 rfl rfl rfl sbty61) rfl ?_; clear hE a; intro a hE
    refine WL.nil ?_
    refine ⟨⟨fun _ => hS, fun _ => hS.tail.tail⟩, ?_⟩
    refine Rg.takeP (i := 9) hE rfl (by kernel_rfl) (runs_plain rfl) (Gives.len hE rfl sbsl) rfl (tw_sel (fun _ => hS) (fun _ => hS.tail.tail)) ?_; clear hE a; intro a hE
    refine Rg.one (i := 3) true true rfl (by kernel_rfl) (by kernel_rfl) (by kernel_rfl) ?_
    refine WL.vS hS hE (runs_plain rfl) (Gives.loadB hE 0 rfl rfl rfl sbty61) rfl ?_; clear hE a; intro a hE
    refine WL.nil ?_
    refine ⟨⟨fun _ => hS, fun _ => hS.tail.tail⟩, ?_⟩
    refine Rg.takeP (i := 4) hE rfl (by kernel_rfl) (runs_plain rfl) (Gives.sliceData hE rfl ha.2) rfl (tw_sel (fun _ => hS) (fun _ => hS.tail.tail)) ?_; clear hE a; intro a hE
    refine Rg.one (i := 10) false true rfl (by kernel_rfl) (by kernel_rfl) (by kernel_rfl) ?_
    refine WL.sbString hE hS 1 (runs_plain rfl) rfl rfl rfl ha.1 sbu76 sbc5 rfl ?_; clear hE hS a; intro a w hE hS
    refine WL.nil ?_
    refine ⟨⟨fun h => absurd h (by decide), fun _ => hS.tail⟩, ?_⟩
    refine Rg.takeP (i := 11) hE rfl (by kernel_rfl) (runs_plain rfl) (Gives.p hE rfl) rfl (tw_sel (fun h => absurd h (by decide)) (fun _ => hS.tail)) ?_; clear hE a; intro a hE
    refine Rg.done (by kernel_rfl) ?_
    refine W.ret ?_
    refine finG (fn := Tryd.f23) (rs := [.tmp 2]) (vs := [_]) hE rfl ⟨rfl, trivial⟩ ?_
    exact ⟨rfl, hS.tail⟩
end
section
open Go.RowKit Go.Shelf
attribute [local go_sem] Oper.semAt_some
def itUpto {α : Type} (f : Nat → α) (k : Nat) : List α := (List.range k).map f
theorem itUpto_succ {α : Type} (f : Nat → α) (k : Nat) : itUpto f (k + 1) = itUpto f k ++ [f k] := by simp [itUpto, List.range_succ]
theorem itUpto_length {α : Type} (f : Nat → α) (k : Nat) : (itUpto f k).length = k := by simp [itUpto]
theorem itUpto_all (zs : List Int) : itUpto (fun j => zs[j]?.getD 0) zs.length = zs := by
  apply List.ext_getElem
  · simp [itUpto]
  · intro i h1 h2
    simp [itUpto, h2]

set_option maxRecDepth 100000 in
set_option maxHeartbeats 2000000 in
theorem itVals1_in (F : Fence) (n : Nat) (h7 : F.fn 18) (hro : F.round = none) (hn : 1 ≤ n) (l Bs n₀ b off len cap : Nat) (zs : List Int) (hreach : len * 8 ≤ 140737488351232) (hb : b < n₀) (J Jx : List Int → World → Prop)
    (hY : ∀ pre x W, J pre W → pre.length < len → YieldAt F (n - 1) Tryd.prog l #[.int .i64 x] W fun e W' =>
      (e = .returned (.bool true) ∧ J (pre ++ [x]) W' ∧ Below n₀ W W') ∨ (e = .returned (.bool false) ∧ Jx (pre ++ [x]) W'))
    (W : World) (hBs : W.cell? ⟨Bs, 0, none⟩ = some (.slice (some ⟨b, off, none⟩) len cap)) (hc : ∀ j, j < len → W.cell? ⟨b, off + j, none⟩ = some (.int .i64 (zs[j]?.getD 0))) (h0 : J [] W) :
    CallsIn F n Tryd.prog 18 #[.func (.yield l) #[] #[], .pointer (some ⟨Bs, 0, none⟩)] W fun e W' => (∃ v, e = .returned v) ∧
      ((∃ ys, ys = itUpto (fun j => zs[j]?.getD 0) len ∧ J ys W') ∨ (∃ pre, (∃ k, k ≤ len ∧ pre = itUpto (fun j => zs[j]?.getD 0) k) ∧ Jx pre W')) := by
  refine callsIn_of_wp Tryd.func18 rfl h7 ?_ hro
  simp only [Tryd.ntmps18, List.size_toArray, List.length_cons, List.length_nil, Nat.reduceAdd, Nat.reduceSub, Array.replicate_succ, Array.replicate_zero, List.push_toArray, List.append_toArray, List.nil_append, List.cons_append]
  gi_wp2
  gi_loopw [7] (fun i wr => ∃ k : Nat, k ≤ len ∧ i = .int .i64 k ∧ J (itUpto (fun j => zs[j]?.getD 0) k) wr ∧ Below n₀ W wr)
    (fun i _ => len - (intOf i).toNat)
  case atStart => exact ⟨0, Nat.zero_le _, rfl, h0, Below.refl _ _⟩
  case round =>
    obtain ⟨k, hk, rfl, hJs, hnx⟩ := hrel
    have hcx : k < len → wr.cell? ⟨b, off + k, none⟩ = some (.int .i64 (zs[k]?.getD 0)) := fun h => (hnx.cell (p := ⟨b, off + k, none⟩) hb).trans (hc k h)
    by_cases hlt : k < len
    · obtain ⟨fn, tmps, assign, body, hy, hR⟩ := hY _ (zs[k]?.getD 0) wr hJs (by rw [itUpto_length]; exact hlt)
      have hcx' := hcx hlt
      gi_wp2
      refine hR.mono ?_
      rintro e W3 (⟨rfl, hJ3, hk3⟩ | ⟨rfl, hJx3⟩)
      · -- THE ROUND GOES ON
        gi_wp2
        go_roundw
        case rel => exact ⟨k + 1, by omega, by simp, by rw [itUpto_succ]; exact hJ3, hnx.trans hk3⟩
        case measure => simp [intOf]; omega
      · gi_wp2
        refine bodyPost_ret (results_none rfl _ _ _) rfl ?_
        exact ⟨⟨_, rfl⟩, .inr ⟨_, ⟨k + 1, by omega, (itUpto_succ _ _).symm⟩, hJx3⟩⟩
    · obtain rfl : k = len := by omega
      gi_wp2
      go_end0
      exact ⟨⟨_, rfl⟩, .inl ⟨_, rfl, hJs⟩⟩

theorem itUpto_take (zs : List Int) {k : Nat} (hk : k ≤ zs.length) : itUpto (fun j => zs[j]?.getD 0) k = zs.take k := by
  apply List.ext_getElem
  · simp [itUpto, hk]
  · intro i h1 h2
    have : i < zs.length := by simp [itUpto] at h1; omega
    simp [itUpto, this]

def ItInts (n₀ : Nat) (W : World) (sv : Value) (zs : List Int) : Prop :=
  (∃ sa cap, sv = .slice sa 0 cap ∧ zs = []) ∨ ∃ b off cap, sv = .slice (some ⟨b, off, none⟩) zs.length cap ∧ b < n₀ ∧ ∀ j, j < zs.length → W.cell? ⟨b, off + j, none⟩ = some (.int .i64 (zs[j]?.getD 0))
theorem ItInts.below {n₀ : Nat} {A B : World} (h : Below n₀ A B) {sv : Value} {zs : List Int} : ItInts n₀ A sv zs → ItInts n₀ B sv zs
  | .inl e => .inl e
  | .inr ⟨b, off, cap, e, hb, hc⟩ => .inr ⟨b, off, cap, e, hb, fun j hj => (h.cell (p := ⟨b, off + j, none⟩) hb).trans (hc j hj)⟩

set_option maxRecDepth 100000 in
set_option maxHeartbeats 1000000 in
theorem itNil_in (F : Fence) (n : Nat) (h7 : F.fn 18) (hro : F.round = none) (l Bs cap : Nat) (sa : Option Addr) (J : List Int → World → Prop) (W : World) (hBs : W.cell? ⟨Bs, 0, none⟩ = some (.slice sa 0 cap)) (h0 : J [] W) :
    CallsIn F n Tryd.prog 18 #[.func (.yield l) #[] #[], .pointer (some ⟨Bs, 0, none⟩)] W fun e W' => (∃ v, e = .returned v) ∧ J [] W' := by
  refine callsIn_of_wp Tryd.func18 rfl h7 ?_ hro
  simp only [Tryd.ntmps18, List.size_toArray, List.length_cons, List.length_nil, Nat.reduceAdd, Nat.reduceSub, Array.replicate_succ, Array.replicate_zero, List.push_toArray, List.append_toArray, List.nil_append, List.cons_append]
  gi_wp2
  gi_loopw [7] (fun i wr => i = .int .i64 0 ∧ J [] wr) (fun _ _ => 0)
  case atStart => exact ⟨rfl, h0⟩
  case round =>
    obtain ⟨rfl, hJs⟩ := hrel
    gi_wp2
    go_end0
    exact ⟨⟨_, rfl⟩, hJs⟩

set_option maxRecDepth 100000 in
set_option maxHeartbeats 1000000 in
theorem itStops (F : Fence) (n : Nat) (h7 : F.fn 18) (hro : F.round = none) (hn : 1 ≤ n) (Bs n₀ : Nat) (sv : Value) (zs : List Int) (hreach : zs.length * 8 ≤ 140737488351232) (w : World) (hBs : Bs < w.heap.size) (hn₀ : n₀ ≤ w.heap.size)
    (hc : w.cell? ⟨Bs, 0, none⟩ = some sv) (hI : ItInts n₀ w sv zs) :
    SeqStopsK F n Tryd.prog 18 #[.pointer (some ⟨Bs, 0, none⟩)] (fun x : Int => #[Value.int .i64 x]) (Below n₀) (fun ys => ys = zs) (fun pre => pre <+: zs) zs.length w := fun l J Jx W hW _ _ hY h0 => by
  have hc' := (hW.cell (p := ⟨Bs, 0, none⟩) hBs).trans hc
  rcases hI.below (hW.mono hn₀) with ⟨sa, cap, rfl, rfl⟩ | ⟨b, off, cap, rfl, hb, hcs⟩
  · exact (itNil_in F n h7 hro l Bs cap sa J W hc' h0).mono fun e W' ⟨he, hj⟩ => ⟨he, .inl ⟨_, rfl, hj⟩⟩
  · refine (itVals1_in F n h7 hro hn l Bs n₀ b off zs.length cap zs hreach hb J Jx hY W hc' hcs h0).mono ?_
    rintro e W' ⟨he, ⟨ys, rfl, hj⟩ | ⟨pre, ⟨k, hk, rfl⟩, hj⟩⟩
    · exact ⟨he, .inl ⟨_, itUpto_all zs, hj⟩⟩
    · exact ⟨he, .inr ⟨_, by rw [itUpto_take zs hk]; exact List.take_prefix _ _, hj⟩⟩

theorem itInfo : (Tryd.prog.info? 3).map (fun i => (i.zero, i.size, i.bytes)) = some (some (.int .i64 0), 1, 8) := by kernel_rfl

set_option maxRecDepth 100000 in
set_option maxHeartbeats 2000000 in
theorem itSeq_in (F : Fence) (n : Nat) (h3 : F.fn 24) (h5 : F.fn 18) (hro : F.round = none) (hn : 3 ≤ n) (Bs : Nat) (sv : Value) (xs : List Int) (hlen : xs.length ≤ maxLen) (hbytes : xs.length * 8 ≤ 140737488351232) (w : World) (hBs : Bs < w.heap.size) (hcs : w.cell? ⟨Bs, 0, none⟩ = some sv) (hI : ItInts w.heap.size w sv xs) :
    CallsIn F n Tryd.prog 24 #[.slice none 0 0, .func (.func 18) #[] #[.pointer (some ⟨Bs, 0, none⟩)]] w fun e W' => ∃ v, e = .returned v ∧ W'.ownsRow w.heap.size 3 1 v xs.length (xs.map (Value.int .i64)) ∧ Below w.heap.size w W' := by
  have h1 : 1 ≤ n := by omega
  obtain ⟨i0, hi, hz0, hz1, hz2⟩ := info_parts itInfo
  refine callsIn_of_wp_marks Tryd.func24 rfl h3 ?_ hro
  simp only [Tryd.ntmps24, List.size_toArray, List.length_cons, List.length_nil, Nat.reduceAdd, Nat.reduceSub, Array.replicate_succ, Array.replicate_zero, List.push_toArray, List.append_toArray, List.nil_append, List.cons_append]
  gi_wp2
  have bO := Boxed.new w 23 (.slice none 0 0)
  have hB0 : Below w.heap.size w (w.alloc (.cells #[.slice none 0 0] 23)) := (Below.refl _ w).alloc (Nat.le_refl _) _
  refine wpIn_rangeFunc_ownG hro h1 (gf := 18) (lb := #[.pointer (some ⟨Bs, 0, none⟩)]) rfl h5 (enters_of Tryd.func18 (by kernel_rfl) rfl)
    (itStops F (n - 1) h5 hro (by omega) Bs w.heap.size _ xs hbytes _ (by simp; omega) (by simp) ((hB0.cell (p := ⟨Bs, 0, none⟩) hBs).trans hcs) (hI.below hB0)) belowK_t (belowK_b (by simp)) (Below.refl _ _) (fun _ => rfl)
    (fun pre W => (∃ v, Boxed W w.heap.size 23 v ∧ W.ownsRow w.heap.size 3 1 v pre.length (pre.map (Value.int .i64)) ∧ True) ∧ Below w.heap.size w W)
    (fun _ _ _ => False)
    (OwnFrom.and (Own.from (holdsRow_own w.heap.size w.heap.size 23 3 1 (fun pre : List Int => pre.length) (fun pre => pre.map (Value.int .i64)) (fun _ _ => True)) _) (ownFrom_below (Nat.le_refl _) (by simp)))
    (fun _ _ _ _ _ hs _ _ => hs)
    ⟨⟨_, bO, World.ownsRow_nil _ _ _ _, trivial⟩, hB0⟩
    (fun x => { tmps := #[.slice none 0 0, .func (.func 18) #[] #[.pointer (some ⟨Bs, 0, none⟩)], .pointer (some ⟨w.heap.size, 0, none⟩), undef, .slice none 0 0, .int .i64 x, .func (.func 18) #[] #[.pointer (some ⟨Bs, 0, none⟩)], .int .i64 x, undef, undef, undef, undef, undef], defers := [] }) ?assign ?body ?done ?stop
  case assign =>
    intro l x W K hK
    gi_wp2
    exact hK
  case body =>
    rintro l pre x W ⟨⟨v, hv, hrow, _⟩, hB⟩ hlt
    have hc := hv.cell
    gi_wp2_with (gi_at_builtin; refine wpListIn_append_own _ rfl _ _ 23 rfl w.heap.size 3 i0 (.int .i64 0) 1 8 Tryd.underlying23 hi hz0 hz1 hz2 rfl (by decide) _ _ _ rfl (hrow.alloc _) ⟨W.heap.size, 0, none⟩ 1 1 [.int .i64 x] rfl rfl (cell_one_new _ _ _) (by simp [Value.oneCell']) (by omega) (by omega) (by have := hB.size; simp; omega) ?_; intro v' w1 hown' hgrow _; obtain ⟨g', cap', rfl⟩ := ownsRow_succ hown'; obtain ⟨hv1, hv2, hr2, hk2, hb2⟩ := hv.appended (by decide) hrow hB.size (Nat.le_refl _) hown' hgrow; have hc1 := hv1.cell; have hf1 := hv1.frozen)
    exact ⟨hk2.from _, hb2, ⟨_, hv2, by simpa using hr2, trivial⟩, hB.trans hb2⟩
  case done =>
    rintro D ys W hD rfl ⟨⟨v, hv, hrow, _⟩, hB⟩ hK
    have hc := hv.cell
    gi_wp2
    refine ⟨by simp, .inl ⟨_, _, rfl, run_takeDeferred hK, ?_⟩⟩
    exact ⟨_, results_tmp rfl _ _ _, v, rfl, ownsRow_putObj hrow _ hK rfl, hB.trans (belowK_b (w := w) (Nat.le_refl _) W D _ _ (by simp at hD; omega) hK rfl rfl)⟩
  case stop =>
    rintro D c pre W _ _ h _
    exact h.elim

theorem itSeq_ok {w : World} {s : Sg} {R : List HP} {b : Nat} {a : Option Addr} {c : Nat} {l r : List Int} (hS : St w s (pt b (.cells [.slice a l.length c].toArray 23 (0, 0)) :: R)) (h : Sl 1 (RI .i64) s a c l) (hr : apd [] l = some r) :
    Calls Tryd.prog 24 [.slice none 0 0, .func (.func 18) #[] #[.pointer (some ⟨b, 0, none⟩)]].toArray w (fun e w => ∃ (a0 : Option Addr) (c0 n0 : Nat) (cs0 : List Value), e = .returned (.slice a0 n0 c0) ∧ Ev 1 (RI .i64) s cs0 r ∧ r.length = n0 ∧ St w s (vecC 3 1 a0 c0 n0 cs0 :: pt b (.cells [.slice a l.length c].toArray 23 (0, 0)) :: R)) := by
  obtain ⟨h1, h2⟩ := apd_some hr
  rw [List.nil_append] at h2
  subst r
  simp only [List.length_nil, Nat.zero_add] at h1
  have hb := hS.at
  have hI : ItInts w.heap.size w (.slice a l.length c) l := by
    rcases Nat.eq_zero_or_pos l.length with hz | hz
    · have : l = [] := List.eq_nil_of_length_eq_zero hz
      subst this
      exact .inl ⟨a, c, rfl, rfl⟩
    · obtain ⟨b0, o0, rfl⟩ := h.aok hz
      have hcell : ∀ j, j < l.length → w.cell? ⟨b0, o0 + j, none⟩ = some (.int .i64 (l[j]?.getD 0)) := by
        intro j hj
        obtain ⟨cs, e1, e2, e3⟩ := h.el j l[j] (List.getElem?_eq_getElem hj)
        have e3' : cs = [.int .i64 l[j]] := e3
        subst e3'
        have := hS.sees e2 0 _ rfl
        simpa [ab, ao, hj] using this
      refine .inr ⟨b0, o0, c, rfl, ?_, hcell⟩
      have := hcell 0 hz
      rcases Nat.lt_or_ge b0 w.heap.size with hlt | hge
      · exact hlt
      · simp [World.cell?, Array.getElem?_eq_none hge] at this
  have hlt : b < w.heap.size := by
    rcases Nat.lt_or_ge b w.heap.size with hlt | hge
    · exact hlt
    · rw [Array.getElem?_eq_none hge] at hb; cases hb
  refine ((callsIn_wide (n := 3)).1 (itSeq_in Fence.wide 3 trivial trivial rfl (by decide) b (.slice a l.length c) l (by unfold maxLen; omega) (by omega) w hlt (by simp [World.cell?, hb]) hI)).mono ?_
  rintro e w' ⟨v, rfl, hrow, hB⟩
  obtain ⟨a0, c0, rfl, hS'⟩ := hS.rowC hB hrow
  exact ⟨a0, c0, l.length, _, rfl, Ev.ofMap l, rfl, hS'⟩

theorem itVals_ok {w : World} {s : Sg} {R : List HP} {sa : Option Addr} {m c : Nat} (hS : St w s R) : Calls Tryd.prog 12 [.slice sa m c].toArray w (fun e w => ∃ (b : Nat), e = .returned (.func (.func 18) #[] #[.pointer (some ⟨b, 0, none⟩)]) ∧ St w s (pt b (.cells [.slice sa m c].toArray 23 (0, 0)) :: R)) := by
  refine enter Tryd.func12 rfl rfl rfl fun a hE => ?_
  refine W.seq ?_
  refine W.region ?_
  refine WL.box hE hS (runs_plain rfl) rfl rfl rfl ?_; clear hE hS a w; intro b a w hE hS
  refine WL.vS hS hE (runs_plain rfl) (Gives.p hE rfl) rfl ?_; clear hE a; intro a hE
  refine WL.nil ?_
  refine W.seq ?_
  refine W.region ?_
  refine WL.vS hS hE (runs_plain rfl) (Gives.mkfn hE (vs := [.pointer (some ⟨b, 0, none⟩)]) rfl) rfl ?_; clear hE a; intro a hE
  refine WL.vS hS hE (runs_plain rfl) (Gives.p hE rfl) rfl ?_; clear hE a; intro a hE
  refine WL.nil ?_
  refine W.ret ?_
  refine finG (fn := Tryd.f12) (rs := [.tmp 2]) (vs := [_]) hE rfl ⟨rfl, trivial⟩ ?_
  exact ⟨b, rfl, hS⟩
end
theorem itSort_ok {w : World} {s : Sg} {R : List HP} {a : Option Addr} {c n : Nat} {cs : List Value} {l r : List Int} (hS : St w s (vecC 3 1 a c n cs :: R)) (h : Ev 1 (RI .i64) s cs l) (hn : l.length = n) (hr : srt l = some r) :
    Calls Tryd.prog 17 [.slice a n c].toArray w (fun e w => ∃ (cs0 : List Value), e = .returned (.tuple #[]) ∧ Ev 1 (RI .i64) s cs0 r ∧ r.length = n ∧ St w s (vecC 3 1 a c n cs0 :: R)) := by
  obtain ⟨h1, rfl⟩ := srt_some hr
  rcases Nat.eq_zero_or_pos n with hz | hz
  · subst hz
    have : l = [] := List.eq_nil_of_length_eq_zero hn
    subst this
    refine (Tryd.slices_Sort_int_none a c w).mono ?_
    rintro e w' ⟨rfl, rfl⟩
    exact ⟨cs, rfl, by simpa [isort] using h, by simp [isort], hS⟩
  · obtain ⟨b, o, rfl⟩ := hS.vecAok 0 rfl hz
    have hb : b < w.heap.size := by
      rcases hS.vec 0 rfl with ⟨_, ⟨h0, _⟩ | ⟨b', o', cur, e1, e2, _⟩⟩
      · cases h0
      · cases e1
        rcases Nat.lt_or_ge b w.heap.size with hl | hg
        · exact hl
        · rw [Array.getElem?_eq_none hg] at e2; cases e2
    have hc := Tryd.slices_Sort_int b o c l w (hS.holds h) hb (by omega)
    rw [hn] at hc
    refine hc.mono ?_
    rintro e w' ⟨rfl, q, os, rfl⟩
    exact ⟨_, rfl, Ev.ofMap (isort l), by rw [isort_length, hn], hS.putRow (r := isort l) (by rw [isort_length, hn])⟩
theorem itCompact_ok {w : World} {s : Sg} {R : List HP} {a : Option Addr} {c n : Nat} {cs : List Value} {l : List Int} (hS : St w s (vecC 3 1 a c n cs :: R)) (h : Ev 1 (RI .i64) s cs l) (hn : l.length = n) :
    Calls Tryd.prog 10 [.slice a n c].toArray w (fun e w => ∃ (n0 : Nat) (cs0 : List Value), e = .returned (.slice a n0 c) ∧ Ev 1 (RI .i64) s cs0 (Lib.compact l) ∧ (Lib.compact l).length = n0 ∧ St w s (vecC 3 1 a c n0 cs0 :: R)) := by
  rcases Nat.eq_zero_or_pos n with hz | hz
  · subst hz
    have : l = [] := List.eq_nil_of_length_eq_zero hn
    subst this
    refine (Tryd.slices_Compact_int_empty a c w).mono ?_
    rintro e w' ⟨rfl, rfl⟩
    exact ⟨0, cs, rfl, by simpa [Lib.compact, Lib.compactUpTo] using h, by simp [Lib.compact, Lib.compactUpTo], hS⟩
  · obtain ⟨b, o, rfl⟩ := hS.vecAok 0 rfl hz
    have hcap := hS.vecCap 0 rfl
    unfold maxLen at hcap
    have hle : (Lib.compact l).length ≤ n := by
      unfold Lib.compact Lib.compactUpTo
      rw [List.length_map, ← hn]
      have := List.length_filter_le (Lib.keeps l.toArray) (List.range l.length)
      simpa using this
    have hc := Tryd.slices_Compact_int b o c l w (hS.holds h) (by omega) (by omega)
    rw [hn] at hc
    refine hc.mono ?_
    rintro e w' ⟨rfl, q, rfl⟩
    have h2 := hS.putRow (os := #[]) (q := q) (r := Lib.compact l ++ List.replicate (n - (Lib.compact l).length) 0) (by simp; omega)
    rw [Sort.grow_empty] at h2
    have h3 := h2.vecTake 0 rfl hle
    refine ⟨_, _, rfl, ?_, rfl, h3⟩
    have h4 := (Ev.ofMap (s := s) (k := .i64) (Lib.compact l ++ List.replicate (n - (Lib.compact l).length) 0)).take (Lib.compact l).length
    rw [List.take_left] at h4
    exact h4
set_option maxHeartbeats 8000000 in
theorem Planwithin_ok  {w : World} {s : Sg} {R : List HP} {x0 : Int} {x1 : Int} {x2 : Int} (hS : St w s (R))  {r : Bool} (hr : Planwithin x0 x1 x2 = r) :
    Calls Tryd.prog 8 [.int .i64 x0, .int .i64 x1, .int .i64 x2].toArray w (fun e w => e = .returned (.bool r) ∧ St w s (R)) := by
  refine enter Tryd.func8 rfl rfl rfl fun a hE => ?_
  rw [Planwithin] at hr
  refine W.seq ?_
  refine W.region ?_
  refine WL.vS hS hE (runs_plain rfl) (Gives.p hE rfl) rfl ?_; clear hE a; intro a hE
  refine WL.nil ?_
  refine W.seq ?_
  obtain ⟨q52, hq51, hr⟩ := bndS hr
  refine W.cut (fun a w => ∃ (q55 : Bool), q55 = q52 ∧ Rep a 15 [(6, .bool q55)] ∧ St w s (R)) ?_ ?_
  · refine W.gen fun K56 hK56 => ?_
    refine W.region ?_
    refine WL.vS hS hE (runs_plain rfl) (Gives.p hE rfl) rfl ?_; clear hE a; intro a hE
    refine WL.vS hS hE (runs_plain rfl) (Gives.p hE rfl) rfl ?_; clear hE a; intro a hE
    refine WL.vS hS hE (runs_plain rfl) (Gives.p hE rfl) rfl ?_; clear hE a; intro a hE
    refine WL.vS hS hE (runs_plain rfl) (Gives.p hE rfl) rfl ?_; clear hE a; intro a hE
    rcases Bool.eq_false_or_eq_true (decide (x0 ≥ x1)) with hg57 | hg57
    · replace hq51 := iteT hg57 hq51
      refine WL.vS hS hE (runs_if hE rfl rfl rfl hg57) (Gives.p hE rfl) rfl ?_; clear hE a; intro a hE
      refine WL.vS hS hE (runs_if hE rfl rfl rfl hg57) (Gives.p hE rfl) rfl ?_; clear hE a; intro a hE
      refine WL.vS hS hE (runs_if hE rfl rfl rfl hg57) (Gives.p hE rfl) rfl ?_; clear hE a; intro a hE
      refine WL.vS hS hE (runs_plain rfl) (Gives.pickT hE rfl hg57 rfl) rfl ?_; clear hE a; intro a hE
      refine WL.vS hS hE (runs_plain rfl) (Gives.p hE rfl) rfl ?_; clear hE a; intro a hE
      refine WL.nil ?_
      subst hK56
      exact ⟨decide (x0 ≤ x2), hq51, hE.pick _ ⟨rfl, trivial⟩, hS⟩
    · replace hq51 := iteF hg57 hq51
      refine WL.no hE (runs_not hE rfl rfl rfl (by rw [hg57]; decide)) rfl ?_; clear hE a; intro a hE
      refine WL.no hE (runs_not hE rfl rfl rfl (by rw [hg57]; decide)) rfl ?_; clear hE a; intro a hE
      refine WL.no hE (runs_not hE rfl rfl rfl (by rw [hg57]; decide)) rfl ?_; clear hE a; intro a hE
      refine WL.vS hS hE (runs_plain rfl) (Gives.pickF hE rfl hg57 rfl) rfl ?_; clear hE a; intro a hE
      refine WL.vS hS hE (runs_plain rfl) (Gives.p hE rfl) rfl ?_; clear hE a; intro a hE
      refine WL.nil ?_
      subst hK56
      exact ⟨false, hq51, hE.pick _ ⟨rfl, trivial⟩, hS⟩
  · clear hE hS a w; rintro a w ⟨q55, rfl, hE, hS⟩
    refine W.ret ?_
    refine finG (fn := Tryd.f8) (rs := [.tmp 6]) (vs := [_]) hE rfl ⟨rfl, trivial⟩ ?_
    subst hr
    exact ⟨rfl, hS⟩
set_option maxHeartbeats 8000000 in
theorem SlicesCollectint_v1_ok  {w : World} {s : Sg} {R : List HP} {pb0 : Nat} {y0 : List Int} {a_y0_0 : Option Addr} {c_y0_0 : Nat} (hS : St w s (pt pb0 (.cells #[.slice a_y0_0 y0.length c_y0_0] 23 (0, 0)) :: R)) (h_y0_0 : Sl 1 (RI .i64) s a_y0_0 c_y0_0 y0) {r : (List Int)} (hr : SlicesCollectint_v1 y0 = some r) :
    Calls Tryd.prog 16 [.func (.func 18) #[] #[.pointer (some ⟨pb0, 0, none⟩)]].toArray w (fun e w => ∃ (a0 : Option Addr) (c0 n0 : Nat) (cs0 : List Value), e = .returned (.slice a0 n0 c0) ∧ Ev 1 (RI .i64) s cs0 r ∧ r.length = n0 ∧ St w s (vecC 3 1 a0 c0 n0 cs0 :: pt pb0 (.cells #[.slice a_y0_0 y0.length c_y0_0] 23 (0, 0)) :: R)) := by
  refine enter Tryd.func16 rfl rfl rfl fun a hE => ?_
  rw [SlicesCollectint_v1] at hr
  refine W.seq ?_
  refine W.region ?_
  refine WL.vS hS hE (runs_plain rfl) (Gives.p hE rfl) rfl ?_; clear hE a; intro a hE
  refine WL.nil ?_
  refine W.seq ?_
  refine W.region ?_
  refine WL.vS hS hE (runs_plain rfl) (Gives.p hE rfl) rfl ?_; clear hE a; intro a hE
  obtain ⟨q51, hq52, hr⟩ := bindS hr
  refine WL.fnq hE (itSeq_ok (l := y0) hS h_y0_0 hq52) (runs_plain rfl) bd24 rfl rfl rfl ?_
  clear hE hS; rintro e w ⟨a53, c54, n55, cs56, rfl, h57, rfl, hS⟩; refine ⟨_, rfl, ?_⟩; clear a; intro a hE
  refine WL.vS hS hE (runs_plain rfl) (Gives.p hE rfl) rfl ?_; clear hE a; intro a hE
  refine WL.nil ?_
  refine W.ret ?_
  refine finG (fn := Tryd.f16) (rs := [.tmp 2]) (vs := [_]) hE rfl ⟨rfl, trivial⟩ ?_
  obtain rfl := Option.some.inj hr
  exact ⟨a53, c54, q51.length, cs56, rfl, h57, rfl, hS⟩
set_option maxHeartbeats 8000000 in
theorem SlicesSortedint_v1_ok  {w : World} {s : Sg} {R : List HP} {pb0 : Nat} {y0 : List Int} {a_y0_0 : Option Addr} {c_y0_0 : Nat} (hS : St w s (pt pb0 (.cells #[.slice a_y0_0 y0.length c_y0_0] 23 (0, 0)) :: R)) (h_y0_0 : Sl 1 (RI .i64) s a_y0_0 c_y0_0 y0) {r : (List Int)} (hr : SlicesSortedint_v1 y0 = some r) :
    Calls Tryd.prog 11 [.func (.func 18) #[] #[.pointer (some ⟨pb0, 0, none⟩)]].toArray w (fun e w => ∃ (a0 : Option Addr) (c0 n0 : Nat) (cs0 : List Value), e = .returned (.slice a0 n0 c0) ∧ Ev 1 (RI .i64) s cs0 r ∧ r.length = n0 ∧ St w s (vecC 3 1 a0 c0 n0 cs0 :: pt pb0 (.cells #[.slice a_y0_0 y0.length c_y0_0] 23 (0, 0)) :: R)) := by
  refine enter Tryd.func11 rfl rfl rfl fun a hE => ?_
  rw [SlicesSortedint_v1] at hr
  refine W.seq ?_
  refine W.region ?_
  refine WL.vS hS hE (runs_plain rfl) (Gives.p hE rfl) rfl ?_; clear hE a; intro a hE
  refine WL.nil ?_
  refine W.seq ?_
  refine W.region ?_
  refine WL.vS hS hE (runs_plain rfl) (Gives.p hE rfl) rfl ?_; clear hE a; intro a hE
  obtain ⟨q51, hq52, hr⟩ := bindS hr
  have hc_ := SlicesCollectint_v1_ok hS h_y0_0 hq52
  refine WL.fnq hE (hc_) (runs_plain rfl) bd16 rfl rfl rfl ?_
  clear hE hS hc_; rintro e w ⟨a53, c54, n55, cs56, rfl, h57, rfl, hS⟩; refine ⟨_, rfl, ?_⟩; clear a; intro a hE
  refine WL.vS hS hE (runs_plain rfl) (Gives.p hE rfl) rfl ?_; clear hE a; intro a hE
  refine WL.nil ?_
  refine W.seq ?_
  refine W.region ?_
  refine WL.vS hS hE (runs_plain rfl) (Gives.p hE rfl) rfl ?_; clear hE a; intro a hE
  obtain ⟨q62, hq63, hr⟩ := bindS hr
  refine WL.fnq hE (itSort_ok hS h57 rfl hq63) (runs_plain rfl) bd17 rfl rfl rfl ?_
  clear hE hS; rintro e w ⟨cs60, rfl, h61, hn64, hS⟩; refine ⟨_, rfl, ?_⟩; clear a; intro a hE
  refine WL.nil ?_
  refine W.seq ?_
  refine W.region ?_
  refine WL.vS hS hE (runs_plain rfl) (Gives.p hE rfl) rfl ?_; clear hE a; intro a hE
  refine WL.vS hS hE (runs_plain rfl) (Gives.p hE rfl) rfl ?_; clear hE a; intro a hE
  refine WL.nil ?_
  refine W.ret ?_
  refine finG (fn := Tryd.f11) (rs := [.tmp 2]) (vs := [_]) hE rfl ⟨rfl, trivial⟩ ?_
  obtain rfl := Option.some.inj hr
  exact ⟨a53, c54, q51.length, cs60, rfl, h61, hn64, hS⟩
set_option maxHeartbeats 8000000 in
theorem PlanAssign_1_v1_ok : ∀ {fu : Nat} {w : World} {s : Sg} {R : List HP} {pb0 : Nat} {pb1 : Nat} {pb2 : Nat} {x0 : Int} {y0 : List PlanStay} {a_y0_0 : Option Addr} {c_y0_0 : Nat} {y1 : List Int} {a_v0 : Option Addr} {c_v0 n_v0 : Nat} {cs_v0 : List Value} (_hS : St w s (pt pb0 (.cells #[.slice a_y0_0 y0.length c_y0_0] 22 (0, 0)) :: pt pb1 (.cells #[.slice a_v0 n_v0 c_v0] 23 (0, 0)) :: pt pb2 (.cells #[.func (.func 9) #[] #[.pointer (some ⟨pb0, 0, none⟩), .pointer (some ⟨pb1, 0, none⟩), .pointer (some ⟨pb2, 0, none⟩)]] 33 (0, 0)) :: vecC 3 1 a_v0 c_v0 n_v0 cs_v0 :: R)) (_h_y0_0 : Sl 3 RPlanStay s a_y0_0 c_y0_0 y0) (_h_v0 : Ev 1 (RI .i64) s cs_v0 y1) (_hn_v0 : y1.length = n_v0) {r : Bool × (List Int)} (_hr : PlanAssign_1_v1 fu x0 y0 y1 = some r),
    Calls Tryd.prog 9 [.int .i64 x0, .pointer (some ⟨pb0, 0, none⟩), .pointer (some ⟨pb1, 0, none⟩), .pointer (some ⟨pb2, 0, none⟩)].toArray w (fun e w => ∃ (cs55 : List Value), e = .returned (.bool r.1) ∧ Ev 1 (RI .i64) s cs55 r.2 ∧ r.2.length = n_v0 ∧ St w s (pt pb0 (.cells #[.slice a_y0_0 y0.length c_y0_0] 22 (0, 0)) :: pt pb1 (.cells #[.slice a_v0 n_v0 c_v0] 23 (0, 0)) :: pt pb2 (.cells #[.func (.func 9) #[] #[.pointer (some ⟨pb0, 0, none⟩), .pointer (some ⟨pb1, 0, none⟩), .pointer (some ⟨pb2, 0, none⟩)]] 33 (0, 0)) :: vecC 3 1 a_v0 c_v0 n_v0 cs55 :: R)) := by
  intro fu
  induction fu with
  | zero => intro w s R pb0 pb1 pb2 x0 y0 a_y0_0 c_y0_0 y1 a_v0 c_v0 n_v0 cs_v0 hS h_y0_0 h_v0 hn_v0 r hr; rw [PlanAssign_1_v1] at hr; exact absurd hr (by simp)
  | succ fu ih_PlanAssign_1_v1 =>
    intro w s R pb0 pb1 pb2 x0 y0 a_y0_0 c_y0_0 y1 a_v0 c_v0 n_v0 cs_v0 hS h_y0_0 h_v0 hn_v0 r hr
    rw [PlanAssign_1_v1] at hr
    generalize PlanAssign_1_v1 fu = self_PlanAssign_1_v1 at hr ih_PlanAssign_1_v1
    refine enter Tryd.func9 rfl rfl rfl fun a hE => ?_
    subst hn_v0
    refine W.seq ?_
    refine W.region ?_
    refine WL.vS hS hE (runs_plain rfl) (Gives.p hE rfl) rfl ?_; clear hE a; intro a hE
    refine WL.nil ?_
    refine W.scope ?_
    refine W.seq ?_
    refine W.seq ?_
    refine W.region ?_
    refine WL.vS hS hE (runs_plain rfl) (Gives.p hE rfl) rfl ?_; clear hE a; intro a hE
    refine WL.vS hS hE (runs_plain rfl) (Gives.loadB hE 0 rfl rfl rfl ty22) rfl ?_; clear hE a; intro a hE
    refine WL.vS hS hE (runs_plain rfl) (Gives.len hE rfl sl22) rfl ?_; clear hE a; intro a hE
    refine WL.vS hS hE (runs_plain rfl) (Gives.p hE rfl) rfl ?_; clear hE a; intro a hE
    refine WL.nil ?_
    refine W.cond hE rfl (fun hc57 => ?_) (fun hc57 => ?_)
    · replace hr := iteT hc57 hr
      refine W.seq ?_
      refine W.region ?_
      refine WL.vS hS hE (runs_plain rfl) (Gives.p hE rfl) rfl ?_; clear hE a; intro a hE
      refine WL.nil ?_
      refine W.ret ?_
      refine finG (fn := Tryd.f9) (rs := [.tmp 5]) (vs := [_]) hE rfl ⟨rfl, trivial⟩ ?_
      obtain rfl := Option.some.inj hr
      exact ⟨cs_v0, rfl, h_v0, (rfl), hS⟩
    · replace hr := iteF hc57 hr
      refine W.skip ?_
      refine W.seq ?_
      refine W.label ?_
      refine W.seq ?_
      refine W.seq ?_
      refine W.region ?_
      refine WL.vS hS hE (runs_plain rfl) (Gives.loadB hE 0 rfl rfl rfl ty22) rfl ?_; clear hE a; intro a hE
      refine WL.vS hS hE (runs_plain rfl) (Gives.p hE rfl) rfl ?_; clear hE a; intro a hE
      obtain ⟨x58, hx59, hr⟩ := bindS hr
      obtain ⟨hi60, hlt61, hy62⟩ := gx_some hx59
      obtain ⟨cs63, hl64, hR65, hat66⟩ := h_y0_0.at hy62
      obtain ⟨a67, c68, rfl, h69⟩ := hR65
      refine WL.vS hS hE (runs_plain rfl) (Gives.idx hE (x0).toNat rfl rfl sl22 hi60 hlt61 (h_y0_0.aok hlt61)) rfl ?_; clear hE a; intro a hE
      refine WL.vS hS hE (runs_plain rfl) (Gives.fld hE rfl fl31_2) rfl ?_; clear hE a; intro a hE
      refine WL.vS hS hE (runs_plain rfl) (Gives.load1 hE rfl (fun w h => (hat66 w _ h).one rfl) ty23) rfl ?_; clear hE a; intro a hE
      refine WL.fnq hE (itVals_ok hS) (runs_plain rfl) bd12 rfl rfl rfl ?_
      clear hE hS; rintro e w ⟨b70, rfl, hS⟩; refine ⟨_, rfl, ?_⟩; clear a; intro a hE
      obtain ⟨q71, hq72, hr⟩ := bindS hr
      have hc_ := SlicesSortedint_v1_ok hS h69 hq72
      refine WL.fnq hE (hc_) (runs_plain rfl) bd11 rfl rfl rfl ?_
      clear hE hS hc_; rintro e w ⟨a73, c74, n75, cs76, rfl, h77, rfl, hS⟩; refine ⟨_, rfl, ?_⟩; clear a; intro a hE
      refine WL.fnq hE (itCompact_ok hS h77 rfl) (runs_plain rfl) bd10 rfl rfl rfl ?_
      clear hE hS; rintro e w ⟨_, cs80, rfl, h81, rfl, hS⟩; refine ⟨_, rfl, ?_⟩; clear a; intro a hE
      obtain ⟨q82, hq83, hr⟩ := bndS hr
      rw [hq83] at h81 hS hE
      refine WL.vS hS hE (runs_plain rfl) (Gives.len hE rfl sl23) rfl ?_; clear hE a; intro a hE
      refine WL.vS hS hE (runs_plain rfl) (Gives.p hE rfl) rfl ?_; clear hE a; intro a hE
      refine WL.nil ?_
      have hb97 : q82.length ≤ 9223372036854775807 := by have := hS.vecCap 0 rfl; unfold maxLen at this; omega
      obtain ⟨q87, hq86, hr⟩ := bindS hr
      refine W.cut (fun a w => ∃ (q98 : List Int), ∃ (cs102 : List Value), (.next q98) = q87 ∧ Ev 1 (RI .i64) s cs102 q98 ∧ q98.length = y1.length ∧ Rep a 75 [] ∧ St w s (vecC 3 1 a73 c74 q82.length cs80 :: pt b70 (.cells #[.slice a67 x58.May.length c68] 23 (0, 0)) :: pt pb0 (.cells #[.slice a_y0_0 y0.length c_y0_0] 22 (0, 0)) :: pt pb1 (.cells #[.slice a_v0 y1.length c_v0] 23 (0, 0)) :: pt pb2 (.cells #[.func (.func 9) #[] #[.pointer (some ⟨pb0, 0, none⟩), .pointer (some ⟨pb1, 0, none⟩), .pointer (some ⟨pb2, 0, none⟩)]] 33 (0, 0)) :: vecC 3 1 a_v0 c_v0 y1.length cs102 :: R)) ?_ ?_
      · refine W.block ?_
        refine W.loop (fun m a w => ∃ (rest90 : Nat) (k88 : Nat), ∃ (q98 : List Int), ∃ (cs102 : List Value), rest90 = m ∧ k88 + rest90 = q82.length ∧ PlanAssign_1_v1.loop1 x0 y0 self_PlanAssign_1_v1 q82 rest90 k88 q98 = some q87 ∧ Ev 1 (RI .i64) s cs102 q98 ∧ q98.length = y1.length ∧ Rep a 75 [(0, .int .i64 x0), (1, .pointer (some ⟨pb0, 0, none⟩)), (2, .pointer (some ⟨pb1, 0, none⟩)), (3, .pointer (some ⟨pb2, 0, none⟩)), (21, .slice a73 q82.length c74), (22, .int .i64 ((q82.length : Nat) : Int)), (23, .int .i64 ((k88 : Nat) : Int))] ∧ St w s (vecC 3 1 a73 c74 q82.length cs80 :: pt b70 (.cells #[.slice a67 x58.May.length c68] 23 (0, 0)) :: pt pb0 (.cells #[.slice a_y0_0 y0.length c_y0_0] 22 (0, 0)) :: pt pb1 (.cells #[.slice a_v0 y1.length c_v0] 23 (0, 0)) :: pt pb2 (.cells #[.func (.func 9) #[] #[.pointer (some ⟨pb0, 0, none⟩), .pointer (some ⟨pb1, 0, none⟩), .pointer (some ⟨pb2, 0, none⟩)]] 33 (0, 0)) :: vecC 3 1 a_v0 c_v0 y1.length cs102 :: R)) (m := q82.length) ⟨q82.length, 0, y1, cs_v0, rfl, by omega, hq86, h_v0, (rfl), hE.pick _ ⟨rfl, rfl, rfl, rfl, rfl, rfl, rfl, trivial⟩, hS⟩ ?_
        clear hE hS a w hq86; rintro m94 a w ⟨rest90, k88, q98, cs102, rfl, hd91, hq86, h101, hn103, hE, hS⟩
        refine W.gen fun K104 hK104 => ?_
        rcases rest90 with _ | rest90
        · skip
          refine W.seq ?_
          refine W.region ?_
          refine WL.vS hS hE (runs_plain rfl) (Gives.p hE rfl) rfl ?_; clear hE a; intro a hE
          refine WL.nil ?_
          refine W.seq ?_
          refine W.condF hE rfl (decide_eq_false (by omega)) ?_
          subst hK104
          refine W.exit rfl ?_
          exact ⟨q98, cs102, Option.some.inj hq86, h101, hn103, hE.pick _ trivial, hS⟩
        · have hlt92 : k88 < q82.length := by omega
          rw [PlanAssign_1_v1.loop1] at hq86
          refine W.seq ?_
          refine W.region ?_
          refine WL.vS hS hE (runs_plain rfl) (Gives.p hE rfl) rfl ?_; clear hE a; intro a hE
          refine WL.nil ?_
          refine W.seq ?_
          refine W.condT hE rfl (decide_eq_true (by omega)) ?_
          refine W.skip ?_
          refine W.seq ?_
          refine W.block ?_
          refine W.seq ?_
          refine W.region ?_
          obtain ⟨x105, hx106, hq86⟩ := bindS hq86
          obtain ⟨hi107, hlt108, hy109⟩ := gx_some hx106
          obtain ⟨vs110, hl111, hR112, hd113, hget114⟩ := h81.at hy109
          subst hR112
          refine WL.vS hS hE (runs_plain rfl) (Gives.idx hE ((((k88 : Nat) : Int)).toNat) rfl rfl sl23 hi107 (by omega) (hS.vecAok 0 rfl (by omega : (((k88 : Nat) : Int)).toNat < q82.length))) rfl ?_; clear hE a; intro a hE
          refine WL.vS hS hE (runs_plain rfl) (Gives.load1 hE rfl (fun w h => St.vecSees h 0 rfl ((((k88 : Nat) : Int)).toNat * 1) _ hget114) ty3) rfl ?_; clear hE a; intro a hE
          refine WL.vS hS hE (runs_plain rfl) (Gives.p hE rfl) rfl ?_; clear hE a; intro a hE
          refine WL.nil ?_
          refine W.seq ?_
          refine W.seq ?_
          refine W.region ?_
          refine WL.vS hS hE (runs_plain rfl) (Gives.loadB hE 3 rfl rfl rfl ty23) rfl ?_; clear hE a; intro a hE
          refine WL.vS hS hE (runs_plain rfl) (Gives.p hE rfl) rfl ?_; clear hE a; intro a hE
          obtain ⟨x115, hx116, hq86⟩ := bindS hq86
          obtain ⟨h117, h118, h119, h120, h121, h122⟩ := cutl_some hx116
          have h123 := (hS.vecCap 5 rfl).1
          have hb124 : (x0).toNat ≤ 9223372036854775807 := by have hc1_ := hS.vecCap 5 rfl; have := hn103; unfold maxLen at hc1_; omega
          refine WL.vS hS hE (runs_plain rfl) (Gives.slH hE sl23 rfl rfl h118 (Int.le_trans h119 (by have := hn103; omega)) (sliced_zero _ _ _ _)) rfl ?_; clear hE a; intro a hE
          refine WL.vS hS hE (runs_plain rfl) (Gives.len hE rfl sl23) rfl ?_; clear hE a; intro a hE
          refine WL.vS hS hE (runs_plain rfl) (Gives.p hE rfl) rfl ?_; clear hE a; intro a hE
          refine WL.nil ?_
          obtain ⟨q126, hq125, hq86⟩ := bindS hq86
          refine W.cut (fun a w => (.next ()) = q126 ∧ Rep a 75 [(0, .int .i64 x0), (1, .pointer (some ⟨pb0, 0, none⟩)), (2, .pointer (some ⟨pb1, 0, none⟩)), (3, .pointer (some ⟨pb2, 0, none⟩)), (7, .int .i64 x105), (21, .slice a73 q82.length c74), (22, .int .i64 ((q82.length : Nat) : Int)), (23, .int .i64 ((k88 : Nat) : Int))] ∧ St w s (vecC 3 1 a73 c74 q82.length cs80 :: pt b70 (.cells #[.slice a67 x58.May.length c68] 23 (0, 0)) :: pt pb0 (.cells #[.slice a_y0_0 y0.length c_y0_0] 22 (0, 0)) :: pt pb1 (.cells #[.slice a_v0 y1.length c_v0] 23 (0, 0)) :: pt pb2 (.cells #[.func (.func 9) #[] #[.pointer (some ⟨pb0, 0, none⟩), .pointer (some ⟨pb1, 0, none⟩), .pointer (some ⟨pb2, 0, none⟩)]] 33 (0, 0)) :: vecC 3 1 a_v0 c_v0 y1.length cs102 :: R)) ?_ ?_
          · refine W.block ?_
            refine W.loop (fun m a w => ∃ (rest129 : Nat) (k127 : Nat), rest129 = m ∧ k127 + rest129 = (x0).toNat ∧ PlanAssign_1_v1.loop2 x0 y0 x105 x115 rest129 k127 = some q126 ∧ Rep a 75 [(0, .int .i64 x0), (1, .pointer (some ⟨pb0, 0, none⟩)), (2, .pointer (some ⟨pb1, 0, none⟩)), (3, .pointer (some ⟨pb2, 0, none⟩)), (7, .int .i64 x105), (21, .slice a73 q82.length c74), (22, .int .i64 ((q82.length : Nat) : Int)), (23, .int .i64 ((k88 : Nat) : Int)), (29, .slice a_v0 ((x0).toNat) c_v0), (30, .int .i64 (((x0).toNat : Nat) : Int)), (31, .int .i64 ((k127 : Nat) : Int))] ∧ St w s (vecC 3 1 a73 c74 q82.length cs80 :: pt b70 (.cells #[.slice a67 x58.May.length c68] 23 (0, 0)) :: pt pb0 (.cells #[.slice a_y0_0 y0.length c_y0_0] 22 (0, 0)) :: pt pb1 (.cells #[.slice a_v0 y1.length c_v0] 23 (0, 0)) :: pt pb2 (.cells #[.func (.func 9) #[] #[.pointer (some ⟨pb0, 0, none⟩), .pointer (some ⟨pb1, 0, none⟩), .pointer (some ⟨pb2, 0, none⟩)]] 33 (0, 0)) :: vecC 3 1 a_v0 c_v0 y1.length cs102 :: R)) (m := (x0).toNat) ⟨(x0).toNat, 0, rfl, by omega, hq125, hE.pick _ ⟨rfl, rfl, rfl, rfl, rfl, rfl, rfl, rfl, rfl, rfl, rfl, trivial⟩, hS⟩ ?_
            clear hE hS a w hq125; rintro m133 a w ⟨rest129, k127, rfl, hd130, hq125, hE, hS⟩
            refine W.gen fun K136 hK136 => ?_
            rcases rest129 with _ | rest129
            · skip
              refine W.seq ?_
              refine W.region ?_
              refine WL.vS hS hE (runs_plain rfl) (Gives.p hE rfl) rfl ?_; clear hE a; intro a hE
              refine WL.nil ?_
              refine W.seq ?_
              refine W.condF hE rfl (decide_eq_false (by omega)) ?_
              subst hK136
              refine W.exit rfl ?_
              exact ⟨Option.some.inj hq125, hE.pick _ ⟨rfl, rfl, rfl, rfl, rfl, rfl, rfl, rfl, trivial⟩, hS⟩
            · have hlt131 : k127 < (x0).toNat := by omega
              rw [PlanAssign_1_v1.loop2] at hq125
              refine W.seq ?_
              refine W.region ?_
              refine WL.vS hS hE (runs_plain rfl) (Gives.p hE rfl) rfl ?_; clear hE a; intro a hE
              refine WL.nil ?_
              refine W.seq ?_
              refine W.condT hE rfl (decide_eq_true (by omega)) ?_
              refine W.skip ?_
              refine W.seq ?_
              refine W.block ?_
              refine W.seq ?_
              refine W.region ?_
              refine WL.vS hS hE (runs_plain rfl) (Gives.p hE rfl) rfl ?_; clear hE a; intro a hE
              obtain ⟨x137, hx138, hq125⟩ := bindS hq125
              obtain ⟨hi139, hlt140, hy141⟩ := gx_some hx138
              have hy142 : (((k127 : Nat) : Int)).toNat < (x0).toNat ∧ (q98)[(((k127 : Nat) : Int)).toNat]? = some x137 := by rw [h120, Int.toNat_zero, List.drop_zero, List.length_take] at hlt140; rw [h120, Int.toNat_zero, List.drop_zero, List.getElem?_take] at hy141; exact ⟨by omega, by rw [if_pos (by omega)] at hy141; exact hy141⟩
              obtain ⟨vs143, hl144, hR145, hd146, hget147⟩ := h101.at hy142.2
              subst hR145
              refine WL.vS hS hE (runs_plain rfl) (Gives.idx hE ((((k127 : Nat) : Int)).toNat) rfl rfl sl23 hi139 hy142.1 (hS.vecAok 5 rfl (by have h1_ := (List.getElem?_eq_some_iff.1 hy142.2).1; have := hn103; omega : (((k127 : Nat) : Int)).toNat < y1.length))) rfl ?_; clear hE a; intro a hE
              refine WL.vS hS hE (runs_plain rfl) (Gives.load1 hE rfl (fun w h => St.vecSees h 5 rfl ((((k127 : Nat) : Int)).toNat * 1) _ hget147) ty3) rfl ?_; clear hE a; intro a hE
              refine WL.vS hS hE (runs_plain rfl) (Gives.p hE rfl) rfl ?_; clear hE a; intro a hE
              refine WL.vS hS hE (runs_plain rfl) (Gives.p hE rfl) rfl ?_; clear hE a; intro a hE
              refine WL.nil ?_
              refine W.seq ?_
              obtain ⟨q149, hq148, hq125⟩ := bindS hq125
              refine W.cut (fun a w => ∃ (q152 : Bool), q152 = q149 ∧ Rep a 75 [(0, .int .i64 x0), (1, .pointer (some ⟨pb0, 0, none⟩)), (2, .pointer (some ⟨pb1, 0, none⟩)), (3, .pointer (some ⟨pb2, 0, none⟩)), (7, .int .i64 x105), (21, .slice a73 q82.length c74), (22, .int .i64 ((q82.length : Nat) : Int)), (23, .int .i64 ((k88 : Nat) : Int)), (29, .slice a_v0 ((x0).toNat) c_v0), (30, .int .i64 (((x0).toNat : Nat) : Int)), (31, .int .i64 ((k127 : Nat) : Int)), (64, .bool q152)] ∧ St w s (vecC 3 1 a73 c74 q82.length cs80 :: pt b70 (.cells #[.slice a67 x58.May.length c68] 23 (0, 0)) :: pt pb0 (.cells #[.slice a_y0_0 y0.length c_y0_0] 22 (0, 0)) :: pt pb1 (.cells #[.slice a_v0 y1.length c_v0] 23 (0, 0)) :: pt pb2 (.cells #[.func (.func 9) #[] #[.pointer (some ⟨pb0, 0, none⟩), .pointer (some ⟨pb1, 0, none⟩), .pointer (some ⟨pb2, 0, none⟩)]] 33 (0, 0)) :: vecC 3 1 a_v0 c_v0 y1.length cs102 :: R)) ?_ ?_
              · refine W.gen fun K153 hK153 => ?_
                refine W.regionQ (C := fun w => St w s (vecC 3 1 a73 c74 q82.length cs80 :: pt b70 (.cells #[.slice a67 x58.May.length c68] 23 (0, 0)) :: pt pb0 (.cells #[.slice a_y0_0 y0.length c_y0_0] 22 (0, 0)) :: pt pb1 (.cells #[.slice a_v0 y1.length c_v0] 23 (0, 0)) :: pt pb2 (.cells #[.func (.func 9) #[] #[.pointer (some ⟨pb0, 0, none⟩), .pointer (some ⟨pb1, 0, none⟩), .pointer (some ⟨pb2, 0, none⟩)]] 33 (0, 0)) :: vecC 3 1 a_v0 c_v0 y1.length cs102 :: R)) mixed (by kernel_rfl) hS.drew ?_
                refine QL.v hE (runs_plain rfl) (Gives.p hE rfl) rfl ?_; clear hE a; intro a hE
                refine QL.v hE (runs_plain rfl) (Gives.p hE rfl) rfl ?_; clear hE a; intro a hE
                refine QL.v hE (runs_plain rfl) (Gives.p hE rfl) rfl ?_; clear hE a; intro a hE
                refine QL.v hE (runs_plain rfl) (Gives.p hE rfl) rfl ?_; clear hE a; intro a hE
                rcases Bool.eq_false_or_eq_true (x105 == x137) with hg154 | hg154
                · replace hq148 := iteT hg154 hq148
                  refine QL.v hE (runs_if hE rfl rfl rfl hg154) (Gives.loadB hE 2 rfl rfl rfl ty22) rfl ?_; clear hE a; intro a hE
                  refine QL.v hE (runs_if hE rfl rfl rfl hg154) (Gives.p hE rfl) rfl ?_; clear hE a; intro a hE
                  obtain ⟨x155, hx156, hq148⟩ := bindS hq148
                  obtain ⟨hi157, hlt158, hy159⟩ := gx_some hx156
                  obtain ⟨cs160, hl161, hR162, hat163⟩ := h_y0_0.at hy159
                  obtain ⟨a164, c165, rfl, h166⟩ := hR162
                  refine QL.v hE (runs_if hE rfl rfl rfl hg154) (Gives.idx hE (((k127 : Nat) : Int)).toNat rfl rfl sl22 hi157 hlt158 (h_y0_0.aok hlt158)) rfl ?_; clear hE a; intro a hE
                  refine QL.v hE (runs_if hE rfl rfl rfl hg154) (Gives.fld hE rfl fl31_0) rfl ?_; clear hE a; intro a hE
                  refine QL.v hE (runs_if hE rfl rfl rfl hg154) (Gives.load1 hE rfl (fun w h => (hat163 w _ h).one rfl) ty3) rfl ?_; clear hE a; intro a hE
                  refine QL.v hE (runs_if hE rfl rfl rfl hg154) (Gives.loadB hE 2 rfl rfl rfl ty22) rfl ?_; clear hE a; intro a hE
                  refine QL.v hE (runs_if hE rfl rfl rfl hg154) (Gives.p hE rfl) rfl ?_; clear hE a; intro a hE
                  obtain ⟨x167, hx168, hq148⟩ := bindS hq148
                  obtain ⟨hi169, hlt170, hy171⟩ := gx_some hx168
                  obtain ⟨cs172, hl173, hR174, hat175⟩ := h_y0_0.at hy171
                  obtain ⟨a176, c177, rfl, h178⟩ := hR174
                  refine QL.v hE (runs_if hE rfl rfl rfl hg154) (Gives.idx hE (x0).toNat rfl rfl sl22 hi169 hlt170 (h_y0_0.aok hlt170)) rfl ?_; clear hE a; intro a hE
                  refine QL.v hE (runs_if hE rfl rfl rfl hg154) (Gives.fld hE rfl fl31_1) rfl ?_; clear hE a; intro a hE
                  refine QL.v hE (runs_if hE rfl rfl rfl hg154) (Gives.load1 hE rfl (fun w h => (hat175 w _ h).one rfl) ty3) rfl ?_; clear hE a; intro a hE
                  refine QL.v hE (runs_if hE rfl rfl rfl hg154) (Gives.p hE rfl) rfl ?_; clear hE a; intro a hE
                  refine QL.v hE (runs_plain rfl) (Gives.pickT hE rfl hg154 rfl) rfl ?_; clear hE a; intro a hE
                  refine QL.v hE (runs_plain rfl) (Gives.p hE rfl) rfl ?_; clear hE a; intro a hE
                  rcases Bool.eq_false_or_eq_true (decide (x155.From < x167.To)) with hg179 | hg179
                  · replace hq148 := iteT hg179 hq148
                    refine QL.v hE (runs_if hE rfl rfl rfl hg179) (Gives.loadB hE 2 rfl rfl rfl ty22) rfl ?_; clear hE a; intro a hE
                    refine QL.v hE (runs_if hE rfl rfl rfl hg179) (Gives.p hE rfl) rfl ?_; clear hE a; intro a hE
                    obtain ⟨x180, hx181, hq148⟩ := bindS hq148
                    obtain ⟨hi182, hlt183, hy184⟩ := gx_some hx181
                    obtain ⟨cs185, hl186, hR187, hat188⟩ := h_y0_0.at hy184
                    obtain ⟨a189, c190, rfl, h191⟩ := hR187
                    refine QL.v hE (runs_if hE rfl rfl rfl hg179) (Gives.idx hE (x0).toNat rfl rfl sl22 hi182 hlt183 (h_y0_0.aok hlt183)) rfl ?_; clear hE a; intro a hE
                    refine QL.v hE (runs_if hE rfl rfl rfl hg179) (Gives.fld hE rfl fl31_0) rfl ?_; clear hE a; intro a hE
                    refine QL.v hE (runs_if hE rfl rfl rfl hg179) (Gives.load1 hE rfl (fun w h => (hat188 w _ h).one rfl) ty3) rfl ?_; clear hE a; intro a hE
                    refine QL.v hE (runs_if hE rfl rfl rfl hg179) (Gives.loadB hE 2 rfl rfl rfl ty22) rfl ?_; clear hE a; intro a hE
                    refine QL.v hE (runs_if hE rfl rfl rfl hg179) (Gives.p hE rfl) rfl ?_; clear hE a; intro a hE
                    obtain ⟨x192, hx193, hq148⟩ := bindS hq148
                    obtain ⟨hi194, hlt195, hy196⟩ := gx_some hx193
                    obtain ⟨cs197, hl198, hR199, hat200⟩ := h_y0_0.at hy196
                    obtain ⟨a201, c202, rfl, h203⟩ := hR199
                    refine QL.v hE (runs_if hE rfl rfl rfl hg179) (Gives.idx hE (((k127 : Nat) : Int)).toNat rfl rfl sl22 hi194 hlt195 (h_y0_0.aok hlt195)) rfl ?_; clear hE a; intro a hE
                    refine QL.v hE (runs_if hE rfl rfl rfl hg179) (Gives.fld hE rfl fl31_1) rfl ?_; clear hE a; intro a hE
                    refine QL.v hE (runs_if hE rfl rfl rfl hg179) (Gives.load1 hE rfl (fun w h => (hat200 w _ h).one rfl) ty3) rfl ?_; clear hE a; intro a hE
                    refine QL.v hE (runs_if hE rfl rfl rfl hg179) (Gives.p hE rfl) rfl ?_; clear hE a; intro a hE
                    refine QL.v hE (runs_plain rfl) (Gives.pickT hE rfl hg179 rfl) rfl ?_; clear hE a; intro a hE
                    refine QL.nil ?_; clear hS w; intro w hS
                    subst hK153
                    exact ⟨decide (x180.From < x192.To), Option.some.inj hq148, hE.pick _ ⟨rfl, rfl, rfl, rfl, rfl, rfl, rfl, rfl, rfl, rfl, rfl, rfl, trivial⟩, hS⟩
                  · replace hq148 := iteF hg179 hq148
                    refine QL.no hE (runs_not hE rfl rfl rfl (by rw [hg179]; decide)) rfl ?_; clear hE a; intro a hE
                    refine QL.no hE (runs_not hE rfl rfl rfl (by rw [hg179]; decide)) rfl ?_; clear hE a; intro a hE
                    refine QL.no hE (runs_not hE rfl rfl rfl (by rw [hg179]; decide)) rfl ?_; clear hE a; intro a hE
                    refine QL.no hE (runs_not hE rfl rfl rfl (by rw [hg179]; decide)) rfl ?_; clear hE a; intro a hE
                    refine QL.no hE (runs_not hE rfl rfl rfl (by rw [hg179]; decide)) rfl ?_; clear hE a; intro a hE
                    refine QL.no hE (runs_not hE rfl rfl rfl (by rw [hg179]; decide)) rfl ?_; clear hE a; intro a hE
                    refine QL.no hE (runs_not hE rfl rfl rfl (by rw [hg179]; decide)) rfl ?_; clear hE a; intro a hE
                    refine QL.no hE (runs_not hE rfl rfl rfl (by rw [hg179]; decide)) rfl ?_; clear hE a; intro a hE
                    refine QL.no hE (runs_not hE rfl rfl rfl (by rw [hg179]; decide)) rfl ?_; clear hE a; intro a hE
                    refine QL.no hE (runs_not hE rfl rfl rfl (by rw [hg179]; decide)) rfl ?_; clear hE a; intro a hE
                    refine QL.no hE (runs_not hE rfl rfl rfl (by rw [hg179]; decide)) rfl ?_; clear hE a; intro a hE
                    refine QL.v hE (runs_plain rfl) (Gives.pickF hE rfl hg179 rfl) rfl ?_; clear hE a; intro a hE
                    refine QL.nil ?_; clear hS w; intro w hS
                    subst hK153
                    exact ⟨false, Option.some.inj hq148, hE.pick _ ⟨rfl, rfl, rfl, rfl, rfl, rfl, rfl, rfl, rfl, rfl, rfl, rfl, trivial⟩, hS⟩
                · replace hq148 := iteF hg154 hq148
                  refine QL.no hE (runs_not hE rfl rfl rfl (by rw [hg154]; decide)) rfl ?_; clear hE a; intro a hE
                  refine QL.no hE (runs_not hE rfl rfl rfl (by rw [hg154]; decide)) rfl ?_; clear hE a; intro a hE
                  refine QL.no hE (runs_not hE rfl rfl rfl (by rw [hg154]; decide)) rfl ?_; clear hE a; intro a hE
                  refine QL.no hE (runs_not hE rfl rfl rfl (by rw [hg154]; decide)) rfl ?_; clear hE a; intro a hE
                  refine QL.no hE (runs_not hE rfl rfl rfl (by rw [hg154]; decide)) rfl ?_; clear hE a; intro a hE
                  refine QL.no hE (runs_not hE rfl rfl rfl (by rw [hg154]; decide)) rfl ?_; clear hE a; intro a hE
                  refine QL.no hE (runs_not hE rfl rfl rfl (by rw [hg154]; decide)) rfl ?_; clear hE a; intro a hE
                  refine QL.no hE (runs_not hE rfl rfl rfl (by rw [hg154]; decide)) rfl ?_; clear hE a; intro a hE
                  refine QL.no hE (runs_not hE rfl rfl rfl (by rw [hg154]; decide)) rfl ?_; clear hE a; intro a hE
                  refine QL.no hE (runs_not hE rfl rfl rfl (by rw [hg154]; decide)) rfl ?_; clear hE a; intro a hE
                  refine QL.no hE (runs_not hE rfl rfl rfl (by rw [hg154]; decide)) rfl ?_; clear hE a; intro a hE
                  refine QL.v hE (runs_plain rfl) (Gives.pickF hE rfl hg154 rfl) rfl ?_; clear hE a; intro a hE
                  refine QL.v hE (runs_plain rfl) (Gives.p hE rfl) rfl ?_; clear hE a; intro a hE
                  refine QL.no hE (runs_not hE rfl rfl rfl (by decide)) rfl ?_; clear hE a; intro a hE
                  refine QL.no hE (runs_not hE rfl rfl rfl (by decide)) rfl ?_; clear hE a; intro a hE
                  refine QL.no hE (runs_not hE rfl rfl rfl (by decide)) rfl ?_; clear hE a; intro a hE
                  refine QL.no hE (runs_not hE rfl rfl rfl (by decide)) rfl ?_; clear hE a; intro a hE
                  refine QL.no hE (runs_not hE rfl rfl rfl (by decide)) rfl ?_; clear hE a; intro a hE
                  refine QL.no hE (runs_not hE rfl rfl rfl (by decide)) rfl ?_; clear hE a; intro a hE
                  refine QL.no hE (runs_not hE rfl rfl rfl (by decide)) rfl ?_; clear hE a; intro a hE
                  refine QL.no hE (runs_not hE rfl rfl rfl (by decide)) rfl ?_; clear hE a; intro a hE
                  refine QL.no hE (runs_not hE rfl rfl rfl (by decide)) rfl ?_; clear hE a; intro a hE
                  refine QL.no hE (runs_not hE rfl rfl rfl (by decide)) rfl ?_; clear hE a; intro a hE
                  refine QL.no hE (runs_not hE rfl rfl rfl (by decide)) rfl ?_; clear hE a; intro a hE
                  refine QL.v hE (runs_plain rfl) (Gives.pickF hE rfl rfl rfl) rfl ?_; clear hE a; intro a hE
                  refine QL.nil ?_; clear hS w; intro w hS
                  subst hK153
                  exact ⟨false, Option.some.inj hq148, hE.pick _ ⟨rfl, rfl, rfl, rfl, rfl, rfl, rfl, rfl, rfl, rfl, rfl, rfl, trivial⟩, hS⟩
              · clear hE hS a w; rintro a w ⟨q152, rfl, hE, hS⟩
                refine W.cond hE rfl (fun hc204 => ?_) (fun hc204 => ?_)
                · replace hq125 := iteT hc204 hq125
                  subst hK136
                  refine W.exit rfl ?_
                  rw [← Option.some.inj hq125] at hq86
                  dsimp only at hq86
                  refine W.region ?_
                  refine WL.vS hS hE (runs_plain rfl) (Gives.inc hE rfl (by omega)) rfl ?_; clear hE a; intro a hE
                  refine WL.vS hS hE (runs_plain rfl) (Gives.p hE rfl) rfl ?_; clear hE a; intro a hE
                  refine WL.nil ?_
                  subst hK104
                  exact ⟨rest90, Nat.lt_succ_self _, rest90, k88 + 1, q98, cs102, rfl, (by omega), hq86, h101, hn103, hE.pick _ ⟨rfl, rfl, rfl, rfl, rfl, rfl, rfl, trivial⟩, hS⟩
                · replace hq125 := iteF hc204 hq125
                  refine W.skip ?_
                  refine W.region ?_
                  refine WL.vS hS hE (runs_plain rfl) (Gives.inc hE rfl (by omega)) rfl ?_; clear hE a; intro a hE
                  refine WL.vS hS hE (runs_plain rfl) (Gives.p hE rfl) rfl ?_; clear hE a; intro a hE
                  refine WL.nil ?_
                  subst hK136
                  exact ⟨rest129, Nat.lt_succ_self _, rest129, k127 + 1, rfl, (by omega), hq125, hE.pick _ ⟨rfl, rfl, rfl, rfl, rfl, rfl, rfl, rfl, rfl, rfl, rfl, trivial⟩, hS⟩
          · clear hE hS a w; rintro a w ⟨rfl, hE, hS⟩
            dsimp only at hq86
            refine W.seq ?_
            refine W.region ?_
            refine WL.vS hS hE (runs_plain rfl) (Gives.loadB hE 3 rfl rfl rfl ty23) rfl ?_; clear hE a; intro a hE
            refine WL.vS hS hE (runs_plain rfl) (Gives.p hE rfl) rfl ?_; clear hE a; intro a hE
            refine WL.vS hS hE (runs_plain rfl) (Gives.p hE rfl) rfl ?_; clear hE a; intro a hE
            obtain ⟨_, hx206, hq86⟩ := bindS hq86
            obtain ⟨h207, h208⟩ := ix_some hx206
            refine WL.vS hS hE (runs_plain rfl) (Gives.idx hE ((x0).toNat) rfl rfl sl23 h207 (by have := hn103; omega) (hS.vecAok 5 rfl (by have := hn103; omega : (x0).toNat < y1.length))) rfl ?_; clear hE a; intro a hE
            obtain ⟨x210, hx211, hq86⟩ := bindS hq86
            refine WL.setD hE hS 5 rfl (runs_plain rfl) rfl rfl (vs := [.int .i64 x105]) rfl ty3 rfl rfl rfl h101 hn103 (sx_some hx211).1 hx211 rfl rfl ?_; clear hE hS a w; intro cs212 a w h213 hn214 hE hS
            refine WL.nil ?_
            refine W.seq ?_
            refine W.region ?_
            refine WL.vS hS hE (runs_plain rfl) (Gives.loadB hE 4 rfl rfl rfl ty33) rfl ?_; clear hE a; intro a hE
            refine WL.vS hS hE (runs_plain rfl) (Gives.p hE rfl) rfl ?_; clear hE a; intro a hE
            refine WL.vS hS hE (runs_plain rfl) (Gives.p hE rfl) rfl ?_; clear hE a; intro a hE
            obtain ⟨q215, hq216, hq86⟩ := bindS hq86
            replace hS := hS.front 5 rfl
            replace hS := hS.front 5 rfl
            replace hS := hS.front 5 rfl
            replace hS := hS.front 5 rfl
            have hc_ := ih_PlanAssign_1_v1 hS h_y0_0 h213 hn214 hq216
            refine WL.fnw hE (hc_) rfl (runs_plain rfl) bd9 rfl rfl rfl ?_
            clear hE hS hc_; rintro e w ⟨cs217, rfl, h218, hn219, hS⟩; refine ⟨_, rfl, ?_⟩; clear a; intro a hE
            refine WL.nil ?_
            refine W.cond hE rfl (fun hc220 => ?_) (fun hc220 => ?_)
            · replace hq86 := iteT hc220 hq86
              refine W.seq ?_
              refine W.region ?_
              refine WL.vS hS hE (runs_plain rfl) (Gives.p hE rfl) rfl ?_; clear hE a; intro a hE
              refine WL.nil ?_
              refine W.ret ?_
              subst hK104
              rw [← Option.some.inj hq86] at hr
              dsimp only at hr
              refine finG (fn := Tryd.f9) (rs := [.tmp 5]) (vs := [_]) hE rfl ⟨rfl, trivial⟩ ?_
              obtain rfl := Option.some.inj hr
              replace hS := hS.dropAt 4
              replace hS := hS.dropAt 4
              exact ⟨cs217, rfl, h218, hn219, hS⟩
            · replace hq86 := iteF hc220 hq86
              refine W.skip ?_
              refine W.region ?_
              refine WL.vS hS hE (runs_plain rfl) (Gives.inc hE rfl (by omega)) rfl ?_; clear hE a; intro a hE
              refine WL.vS hS hE (runs_plain rfl) (Gives.p hE rfl) rfl ?_; clear hE a; intro a hE
              refine WL.nil ?_
              replace hS := hS.front 3 rfl
              replace hS := hS.front 3 rfl
              replace hS := hS.front 3 rfl
              replace hS := hS.front 3 rfl
              replace hS := hS.front 5 rfl
              replace hS := hS.front 5 rfl
              subst hK104
              exact ⟨rest90, Nat.lt_succ_self _, rest90, k88 + 1, q215.2, cs217, rfl, (by omega), hq86, h218, hn219, hE.pick _ ⟨rfl, rfl, rfl, rfl, rfl, rfl, rfl, trivial⟩, hS⟩
      · clear hE hS a w; rintro a w ⟨q98, cs102, rfl, h101, hn103, hE, hS⟩
        dsimp only at hr
        refine W.seq ?_
        refine W.region ?_
        refine WL.vS hS hE (runs_plain rfl) (Gives.p hE rfl) rfl ?_; clear hE a; intro a hE
        refine WL.nil ?_
        refine W.ret ?_
        refine finG (fn := Tryd.f9) (rs := [.tmp 5]) (vs := [_]) hE rfl ⟨rfl, trivial⟩ ?_
        obtain rfl := Option.some.inj hr
        replace hS := hS.tail
        replace hS := hS.tail
        exact ⟨cs102, rfl, h101, hn103, hS⟩
set_option maxHeartbeats 8000000 in
theorem PlanAssign_ok {fu : Nat}  {w : World} {s : Sg} {R : List HP} {x0 : List PlanStay} {a0 : Option Addr} {c0 : Nat} (hS : St w s (R)) (h0 : Sl 3 RPlanStay s a0 c0 x0) {r : (List Int) × Int} (hr : PlanAssign fu x0 = some r) :
    Calls Tryd.prog 4 [.slice a0 x0.length c0].toArray w (fun e w => ∃ (a0 : Option Addr) (c0 n0 : Nat) (cs0 : List Value), e = .returned (.tuple #[.slice a0 n0 c0, .int .i64 r.2]) ∧ Ev 1 (RI .i64) s cs0 r.1 ∧ r.1.length = n0 ∧ St w s (vecC 3 1 a0 c0 n0 cs0 :: R)) := by
  refine enter Tryd.func4 rfl rfl rfl fun a hE => ?_
  rw [PlanAssign] at hr
  refine W.seq ?_
  refine W.region ?_
  refine WL.box hE hS (runs_plain rfl) rfl rfl rfl ?_; clear hE hS a w; intro b51 a w hE hS
  refine WL.vS hS hE (runs_plain rfl) (Gives.p hE rfl) rfl ?_; clear hE a; intro a hE
  refine WL.vS hS hE (runs_plain rfl) (Gives.p hE rfl) rfl ?_; clear hE a; intro a hE
  refine WL.nil ?_
  refine W.seq ?_
  refine W.seq ?_
  refine W.region ?_
  refine WL.vS hS hE (runs_plain rfl) (Gives.loadB hE 0 rfl rfl rfl ty22) rfl ?_; clear hE a; intro a hE
  refine WL.vS hS hE (runs_plain rfl) (Gives.len hE rfl sl22) rfl ?_; clear hE a; intro a hE
  refine WL.vS hS hE (runs_plain rfl) (Gives.p hE rfl) rfl ?_; clear hE a; intro a hE
  refine WL.nil ?_
  refine W.cond hE rfl (fun hc52 => ?_) (fun hc52 => ?_)
  · replace hr := iteT hc52 hr
    refine W.seq ?_
    refine W.region ?_
    refine WL.vS hS hE (runs_plain rfl) (Gives.p hE rfl) rfl ?_; clear hE a; intro a hE
    refine WL.vS hS hE (runs_plain rfl) (Gives.p hE rfl) rfl ?_; clear hE a; intro a hE
    refine WL.nil ?_
    refine W.ret ?_
    replace hS := hS.vecNil 3 1
    refine finG (fn := Tryd.f4) (rs := [.tmp 2, .tmp 3]) (vs := [_, _]) hE rfl ⟨rfl, rfl, trivial⟩ ?_
    obtain rfl := Option.some.inj hr
    replace hS := hS.dropAt 1
    exact ⟨none, 0, 0, [], rfl, (Ev.nil), (rfl), hS⟩
  · replace hr := iteF hc52 hr
    refine W.skip ?_
    refine W.seq ?_
    refine W.seq ?_
    refine W.region ?_
    refine WL.vS hS hE (runs_plain rfl) (Gives.loadB hE 0 rfl rfl rfl ty22) rfl ?_; clear hE a; intro a hE
    refine WL.vS hS hE (runs_plain rfl) (Gives.len hE rfl sl22) rfl ?_; clear hE a; intro a hE
    refine WL.vS hS hE (runs_plain rfl) (Gives.p hE rfl) rfl ?_; clear hE a; intro a hE
    refine WL.nil ?_
    obtain ⟨q55, hq54, hr⟩ := bndS hr
    refine W.cut (fun a w => (.next ()) = q55 ∧ Rep a 48 [(1, .pointer (some ⟨b51, 0, none⟩))] ∧ St w s (pt b51 (.cells #[.slice a0 x0.length c0] 22 (0, 0)) :: R)) ?_ ?_
    · refine W.block ?_
      refine W.loop (fun m a w => ∃ (rest58 : List PlanStay) (k56 : Nat), rest58.length = m ∧ x0.drop k56 = rest58 ∧ PlanAssign.loop1 rest58 = q55 ∧ Rep a 48 [(1, .pointer (some ⟨b51, 0, none⟩)), (11, .slice a0 x0.length c0), (12, .int .i64 ((x0).length : Int)), (13, .int .i64 ((k56 : Nat) : Int))] ∧ St w s (pt b51 (.cells #[.slice a0 x0.length c0] 22 (0, 0)) :: R)) (m := x0.length) ⟨x0, 0, rfl, rfl, hq54, hE.pick _ ⟨rfl, rfl, rfl, rfl, trivial⟩, hS⟩ ?_
      clear hE hS a w hq54; rintro m62 a w ⟨rest58, k56, rfl, hd59, hq54, hE, hS⟩
      refine W.gen fun K65 hK65 => ?_
      rcases rest58 with _ | ⟨x57, rest58⟩
      · have hlt60 := drop_nil hd59
        refine W.seq ?_
        refine W.region ?_
        refine WL.vS hS hE (runs_plain rfl) (Gives.p hE rfl) rfl ?_; clear hE a; intro a hE
        refine WL.nil ?_
        refine W.seq ?_
        refine W.condF hE rfl (decide_eq_false (by omega)) ?_
        subst hK65
        refine W.exit rfl ?_
        exact ⟨hq54, hE.pick _ ⟨rfl, trivial⟩, hS⟩
      · obtain ⟨hlt60, hx61, hd59⟩ := drop_cons hd59
        rw [PlanAssign.loop1] at hq54
        refine W.seq ?_
        refine W.region ?_
        refine WL.vS hS hE (runs_plain rfl) (Gives.p hE rfl) rfl ?_; clear hE a; intro a hE
        refine WL.nil ?_
        refine W.seq ?_
        refine W.condT hE rfl (decide_eq_true (by omega)) ?_
        refine W.skip ?_
        refine W.seq ?_
        refine W.block ?_
        refine W.seq ?_
        refine W.region ?_
        obtain ⟨cs66, hl67, hR68, hat69⟩ := h0.at hx61
        obtain ⟨a70, c71, rfl, h72⟩ := hR68
        refine WL.vS hS hE (runs_plain rfl) (Gives.idx hE k56 rfl rfl sl22 rfl hlt60 (h0.aok hlt60)) rfl ?_; clear hE a; intro a hE
        refine WL.vS hS hE (runs_plain rfl) (Gives.loadA hE rfl (fun w h => hat69 w _ h) ty31) rfl ?_; clear hE a; intro a hE
        refine WL.alloc hE hS (runs_plain rfl) zr31 rfl ?_; clear hE hS a w; intro b73 a w hE hS
        refine WL.storeI hE hS 0 rfl [.int .i64 x57.From, .int .i64 x57.To, .slice a70 x57.May.length c71] (runs_plain rfl) rfl rfl rfl ty31 rfl rfl rfl rfl ?_; clear hE hS a w; intro a w hE hS
        refine WL.nil ?_
        refine W.block ?_
        refine W.seq ?_
        obtain ⟨q75, hq74, hq54⟩ := bndS hq54
        refine W.cut (fun a w => ∃ (q78 : Bool), q78 = q75 ∧ Rep a 48 [(1, .pointer (some ⟨b51, 0, none⟩)), (5, .pointer (some ⟨b73, 0, none⟩)), (11, .slice a0 x0.length c0), (12, .int .i64 ((x0).length : Int)), (13, .int .i64 ((k56 : Nat) : Int)), (17, .bool q78)] ∧ St w s (pt b73 (.cells #[.int .i64 x57.From, .int .i64 x57.To, .slice a70 x57.May.length c71] 31 (0, 0)) :: pt b51 (.cells #[.slice a0 x0.length c0] 22 (0, 0)) :: R)) ?_ ?_
        · refine W.gen fun K79 hK79 => ?_
          refine W.region ?_
          refine WL.vS hS hE (runs_plain rfl) (Gives.fld hE rfl fl31_0) rfl ?_; clear hE a; intro a hE
          refine WL.vS hS hE (runs_plain rfl) (Gives.loadB hE 0 rfl rfl rfl ty3) rfl ?_; clear hE a; intro a hE
          refine WL.fnq hE (Planwithin_ok hS  rfl (r := Planwithin x57.From 0 28800)) (runs_plain rfl) bd8 rfl rfl rfl ?_
          clear hE hS; rintro e w ⟨rfl, hS⟩; refine ⟨_, rfl, ?_⟩; clear a; intro a hE
          refine WL.vS hS hE (runs_plain rfl) (Gives.p hE rfl) rfl ?_; clear hE a; intro a hE
          refine WL.vS hS hE (runs_plain rfl) (Gives.p hE rfl) rfl ?_; clear hE a; intro a hE
          rcases Bool.eq_false_or_eq_true (!(Planwithin x57.From 0 28800)) with hg80 | hg80
          · replace hq74 := iteT hg80 hq74
            refine WL.no hE (runs_not hE rfl rfl rfl (by rw [hg80]; decide)) rfl ?_; clear hE a; intro a hE
            refine WL.no hE (runs_not hE rfl rfl rfl (by rw [hg80]; decide)) rfl ?_; clear hE a; intro a hE
            refine WL.no hE (runs_not hE rfl rfl rfl (by rw [hg80]; decide)) rfl ?_; clear hE a; intro a hE
            refine WL.no hE (runs_not hE rfl rfl rfl (by rw [hg80]; decide)) rfl ?_; clear hE a; intro a hE
            refine WL.vS hS hE (runs_plain rfl) (Gives.pickT hE rfl hg80 rfl) rfl ?_; clear hE a; intro a hE
            refine WL.vS hS hE (runs_plain rfl) (Gives.p hE rfl) rfl ?_; clear hE a; intro a hE
            refine WL.nil ?_
            subst hK79
            exact ⟨true, hq74, hE.pick _ ⟨rfl, rfl, rfl, rfl, rfl, rfl, trivial⟩, hS⟩
          · replace hq74 := iteF hg80 hq74
            refine WL.vS hS hE (runs_if hE rfl rfl rfl hg80) (Gives.fld hE rfl fl31_1) rfl ?_; clear hE a; intro a hE
            refine WL.vS hS hE (runs_if hE rfl rfl rfl hg80) (Gives.loadB hE 0 rfl rfl rfl ty3) rfl ?_; clear hE a; intro a hE
            refine WL.fnq hE (Planwithin_ok hS  rfl (r := Planwithin x57.To 0 28800)) (runs_if hE rfl rfl rfl hg80) bd8 rfl rfl rfl ?_
            clear hE hS; rintro e w ⟨rfl, hS⟩; refine ⟨_, rfl, ?_⟩; clear a; intro a hE
            refine WL.vS hS hE (runs_if hE rfl rfl rfl hg80) (Gives.p hE rfl) rfl ?_; clear hE a; intro a hE
            refine WL.vS hS hE (runs_plain rfl) (Gives.pickF hE rfl hg80 rfl) rfl ?_; clear hE a; intro a hE
            refine WL.vS hS hE (runs_plain rfl) (Gives.p hE rfl) rfl ?_; clear hE a; intro a hE
            refine WL.nil ?_
            subst hK79
            exact ⟨!(Planwithin x57.To 0 28800), hq74, hE.pick _ ⟨rfl, rfl, rfl, rfl, rfl, rfl, trivial⟩, hS⟩
        · clear hE hS a w; rintro a w ⟨q78, rfl, hE, hS⟩
          refine W.cond hE rfl (fun hc81 => ?_) (fun hc81 => ?_)
          · replace hq54 := iteT hc81 hq54
            refine W.seq ?_
            refine W.region ?_
            refine WL.vS hS hE (runs_plain rfl) (Gives.p hE rfl) rfl ?_; clear hE a; intro a hE
            refine WL.vS hS hE (runs_plain rfl) (Gives.p hE rfl) rfl ?_; clear hE a; intro a hE
            refine WL.nil ?_
            refine W.ret ?_
            subst hK65
            rw [← hq54] at hr
            dsimp only at hr
            replace hS := hS.vecNil 3 1
            refine finG (fn := Tryd.f4) (rs := [.tmp 2, .tmp 3]) (vs := [_, _]) hE rfl ⟨rfl, rfl, trivial⟩ ?_
            obtain rfl := Option.some.inj hr
            replace hS := hS.dropAt 1
            replace hS := hS.dropAt 1
            exact ⟨none, 0, 0, [], rfl, (Ev.nil), (rfl), hS⟩
          · replace hq54 := iteF hc81 hq54
            refine W.seq ?_
            refine W.region ?_
            refine WL.vS hS hE (runs_plain rfl) (Gives.fld hE rfl fl31_1) rfl ?_; clear hE a; intro a hE
            refine WL.vS hS hE (runs_plain rfl) (Gives.loadB hE 0 rfl rfl rfl ty3) rfl ?_; clear hE a; intro a hE
            refine WL.vS hS hE (runs_plain rfl) (Gives.fld hE rfl fl31_0) rfl ?_; clear hE a; intro a hE
            refine WL.vS hS hE (runs_plain rfl) (Gives.loadB hE 0 rfl rfl rfl ty3) rfl ?_; clear hE a; intro a hE
            refine WL.vS hS hE (runs_plain rfl) (Gives.p hE rfl) rfl ?_; clear hE a; intro a hE
            refine WL.vS hS hE (runs_plain rfl) (Gives.p hE rfl) rfl ?_; clear hE a; intro a hE
            refine WL.nil ?_
            refine W.cond hE rfl (fun hc83 => ?_) (fun hc83 => ?_)
            · replace hq54 := iteT hc83 hq54
              refine W.seq ?_
              refine W.region ?_
              refine WL.vS hS hE (runs_plain rfl) (Gives.p hE rfl) rfl ?_; clear hE a; intro a hE
              refine WL.vS hS hE (runs_plain rfl) (Gives.p hE rfl) rfl ?_; clear hE a; intro a hE
              refine WL.nil ?_
              refine W.ret ?_
              subst hK65
              rw [← hq54] at hr
              dsimp only at hr
              replace hS := hS.vecNil 3 1
              refine finG (fn := Tryd.f4) (rs := [.tmp 2, .tmp 3]) (vs := [_, _]) hE rfl ⟨rfl, rfl, trivial⟩ ?_
              obtain rfl := Option.some.inj hr
              replace hS := hS.dropAt 1
              replace hS := hS.dropAt 1
              exact ⟨none, 0, 0, [], rfl, (Ev.nil), (rfl), hS⟩
            · replace hq54 := iteF hc83 hq54
              refine W.seq ?_
              refine W.region ?_
              refine WL.vS hS hE (runs_plain rfl) (Gives.fld hE rfl fl31_2) rfl ?_; clear hE a; intro a hE
              refine WL.vS hS hE (runs_plain rfl) (Gives.loadB hE 0 rfl rfl rfl ty23) rfl ?_; clear hE a; intro a hE
              refine WL.vS hS hE (runs_plain rfl) (Gives.len hE rfl sl23) rfl ?_; clear hE a; intro a hE
              refine WL.vS hS hE (runs_plain rfl) (Gives.p hE rfl) rfl ?_; clear hE a; intro a hE
              refine WL.vS hS hE (runs_plain rfl) (Gives.p hE rfl) rfl ?_; clear hE a; intro a hE
              refine WL.nil ?_
              refine W.cond hE rfl (fun hc85 => ?_) (fun hc85 => ?_)
              · replace hq54 := iteT hc85 hq54
                refine W.seq ?_
                refine W.region ?_
                refine WL.vS hS hE (runs_plain rfl) (Gives.p hE rfl) rfl ?_; clear hE a; intro a hE
                refine WL.vS hS hE (runs_plain rfl) (Gives.p hE rfl) rfl ?_; clear hE a; intro a hE
                refine WL.nil ?_
                refine W.ret ?_
                subst hK65
                rw [← hq54] at hr
                dsimp only at hr
                replace hS := hS.vecNil 3 1
                refine finG (fn := Tryd.f4) (rs := [.tmp 2, .tmp 3]) (vs := [_, _]) hE rfl ⟨rfl, rfl, trivial⟩ ?_
                obtain rfl := Option.some.inj hr
                replace hS := hS.dropAt 1
                replace hS := hS.dropAt 1
                exact ⟨none, 0, 0, [], rfl, (Ev.nil), (rfl), hS⟩
              · replace hq54 := iteF hc85 hq54
                refine W.skip ?_
                refine W.region ?_
                refine WL.vS hS hE (runs_plain rfl) (Gives.inc hE rfl (by have := h0.small; omega)) rfl ?_; clear hE a; intro a hE
                refine WL.vS hS hE (runs_plain rfl) (Gives.p hE rfl) rfl ?_; clear hE a; intro a hE
                refine WL.nil ?_
                replace hS := hS.tail
                subst hK65
                exact ⟨rest58.length, Nat.lt_succ_self _, rest58, k56 + 1, rfl, hd59, hq54, hE.pick _ ⟨rfl, rfl, rfl, rfl, trivial⟩, hS⟩
    · clear hE hS a w; rintro a w ⟨rfl, hE, hS⟩
      dsimp only at hr
      refine W.seq ?_
      refine W.region ?_
      refine WL.vS hS hE (runs_plain rfl) (Gives.loadB hE 0 rfl rfl rfl ty22) rfl ?_; clear hE a; intro a hE
      refine WL.vS hS hE (runs_plain rfl) (Gives.len hE rfl sl22) rfl ?_; clear hE a; intro a hE
      obtain ⟨x87, hx88, hr⟩ := bindS hr
      refine WL.mkD (Rr := RI .i64) hE hS (runs_plain rfl) rfl rfl ap23 zr3 rfl hx88 rfl ?_; clear hE hS a w; intro b89 cs90 a w h91 hE hS
      refine WL.alloc hE hS (runs_plain rfl) zr23 rfl ?_; clear hE hS a w; intro b93 a w hE hS
      refine WL.storeI hE hS 0 rfl [.slice (some ⟨b89, 0, none⟩) x87.length x87.length] (runs_plain rfl) rfl rfl rfl ty23 rfl rfl rfl rfl ?_; clear hE hS a w; intro a w hE hS
      refine WL.nil ?_
      refine W.seq ?_
      refine W.region ?_
      refine WL.alloc hE hS (runs_plain rfl) zr33 rfl ?_; clear hE hS a w; intro b94 a w hE hS
      refine WL.nil ?_
      refine W.seq ?_
      refine W.region ?_
      refine WL.vS hS hE (runs_plain rfl) (Gives.mkfn hE (vs := [.pointer (some ⟨b51, 0, none⟩), .pointer (some ⟨b93, 0, none⟩), .pointer (some ⟨b94, 0, none⟩)]) rfl) rfl ?_; clear hE a; intro a hE
      refine WL.storeI hE hS 0 rfl [.func (.func 9) #[] #[.pointer (some ⟨b51, 0, none⟩), .pointer (some ⟨b93, 0, none⟩), .pointer (some ⟨b94, 0, none⟩)]] (runs_plain rfl) rfl rfl rfl ty33 rfl rfl rfl rfl ?_; clear hE hS a w; intro a w hE hS
      refine WL.nil ?_
      refine W.seq ?_
      refine W.seq ?_
      refine W.region ?_
      refine WL.vS hS hE (runs_plain rfl) (Gives.loadB hE 0 rfl rfl rfl ty33) rfl ?_; clear hE a; intro a hE
      obtain ⟨q95, hq96, hr⟩ := bindS hr
      replace hS := hS.front 2 rfl
      replace hS := hS.front 1 rfl
      replace hS := hS.front 2 rfl
      replace hS := hS.front 3 rfl
      have hc_ := PlanAssign_1_v1_ok hS h0 h91 (rfl) hq96
      refine WL.fnw hE (hc_) rfl (runs_plain rfl) bd9 rfl rfl rfl ?_
      clear hE hS hc_; rintro e w ⟨cs97, rfl, h98, hn99, hS⟩; refine ⟨_, rfl, ?_⟩; clear a; intro a hE
      refine WL.vS hS hE (runs_plain rfl) (Gives.p hE rfl) rfl ?_; clear hE a; intro a hE
      refine WL.nil ?_
      refine W.cond hE rfl (fun hc100 => ?_) (fun hc100 => ?_)
      · replace hr := iteT hc100 hr
        refine W.seq ?_
        refine W.region ?_
        refine WL.vS hS hE (runs_plain rfl) (Gives.p hE rfl) rfl ?_; clear hE a; intro a hE
        refine WL.vS hS hE (runs_plain rfl) (Gives.p hE rfl) rfl ?_; clear hE a; intro a hE
        refine WL.nil ?_
        refine W.ret ?_
        replace hS := hS.vecNil 3 1
        refine finG (fn := Tryd.f4) (rs := [.tmp 2, .tmp 3]) (vs := [_, _]) hE rfl ⟨rfl, rfl, trivial⟩ ?_
        obtain rfl := Option.some.inj hr
        replace hS := hS.dropAt 1
        replace hS := hS.dropAt 1
        replace hS := hS.dropAt 1
        replace hS := hS.dropAt 1
        exact ⟨none, 0, 0, [], rfl, (Ev.nil), (rfl), hS⟩
      · replace hr := iteF hc100 hr
        refine W.skip ?_
        refine W.seq ?_
        refine W.region ?_
        refine WL.vS hS hE (runs_plain rfl) (Gives.loadB hE 1 rfl rfl rfl ty23) rfl ?_; clear hE a; intro a hE
        refine WL.vS hS hE (runs_plain rfl) (Gives.p hE rfl) rfl ?_; clear hE a; intro a hE
        refine WL.vS hS hE (runs_plain rfl) (Gives.p hE rfl) rfl ?_; clear hE a; intro a hE
        refine WL.nil ?_
        refine W.ret ?_
        refine finG (fn := Tryd.f4) (rs := [.tmp 2, .tmp 3]) (vs := [_, _]) hE rfl ⟨rfl, rfl, trivial⟩ ?_
        obtain rfl := Option.some.inj hr
        replace hS := hS.tail
        replace hS := hS.tail
        replace hS := hS.tail
        exact ⟨(some ⟨b89, 0, none⟩), x87.length, x87.length, cs97, rfl, h98, hn99, hS⟩
set_option maxHeartbeats 8000000 in
theorem Fishref2within_ok  {w : World} {s : Sg} {R : List HP} {x0 : Int} {x1 : Int} {x2 : Int} (hS : St w s (R))  {r : Bool} (hr : Fishref2within x0 x1 x2 = r) :
    Calls Tryd.prog 13 [.int .i64 x0, .int .i64 x1, .int .i64 x2].toArray w (fun e w => e = .returned (.bool r) ∧ St w s (R)) := by
  refine enter Tryd.func13 rfl rfl rfl fun a hE => ?_
  rw [Fishref2within] at hr
  refine W.seq ?_
  refine W.region ?_
  refine WL.vS hS hE (runs_plain rfl) (Gives.p hE rfl) rfl ?_; clear hE a; intro a hE
  refine WL.nil ?_
  refine W.seq ?_
  obtain ⟨q52, hq51, hr⟩ := bndS hr
  refine W.cut (fun a w => ∃ (q55 : Bool), q55 = q52 ∧ Rep a 15 [(6, .bool q55)] ∧ St w s (R)) ?_ ?_
  · refine W.gen fun K56 hK56 => ?_
    refine W.region ?_
    refine WL.vS hS hE (runs_plain rfl) (Gives.p hE rfl) rfl ?_; clear hE a; intro a hE
    refine WL.vS hS hE (runs_plain rfl) (Gives.p hE rfl) rfl ?_; clear hE a; intro a hE
    refine WL.vS hS hE (runs_plain rfl) (Gives.p hE rfl) rfl ?_; clear hE a; intro a hE
    refine WL.vS hS hE (runs_plain rfl) (Gives.p hE rfl) rfl ?_; clear hE a; intro a hE
    rcases Bool.eq_false_or_eq_true (decide (x0 ≥ x1)) with hg57 | hg57
    · replace hq51 := iteT hg57 hq51
      refine WL.vS hS hE (runs_if hE rfl rfl rfl hg57) (Gives.p hE rfl) rfl ?_; clear hE a; intro a hE
      refine WL.vS hS hE (runs_if hE rfl rfl rfl hg57) (Gives.p hE rfl) rfl ?_; clear hE a; intro a hE
      refine WL.vS hS hE (runs_if hE rfl rfl rfl hg57) (Gives.p hE rfl) rfl ?_; clear hE a; intro a hE
      refine WL.vS hS hE (runs_plain rfl) (Gives.pickT hE rfl hg57 rfl) rfl ?_; clear hE a; intro a hE
      refine WL.vS hS hE (runs_plain rfl) (Gives.p hE rfl) rfl ?_; clear hE a; intro a hE
      refine WL.nil ?_
      subst hK56
      exact ⟨decide (x0 ≤ x2), hq51, hE.pick _ ⟨rfl, trivial⟩, hS⟩
    · replace hq51 := iteF hg57 hq51
      refine WL.no hE (runs_not hE rfl rfl rfl (by rw [hg57]; decide)) rfl ?_; clear hE a; intro a hE
      refine WL.no hE (runs_not hE rfl rfl rfl (by rw [hg57]; decide)) rfl ?_; clear hE a; intro a hE
      refine WL.no hE (runs_not hE rfl rfl rfl (by rw [hg57]; decide)) rfl ?_; clear hE a; intro a hE
      refine WL.vS hS hE (runs_plain rfl) (Gives.pickF hE rfl hg57 rfl) rfl ?_; clear hE a; intro a hE
      refine WL.vS hS hE (runs_plain rfl) (Gives.p hE rfl) rfl ?_; clear hE a; intro a hE
      refine WL.nil ?_
      subst hK56
      exact ⟨false, hq51, hE.pick _ ⟨rfl, trivial⟩, hS⟩
  · clear hE hS a w; rintro a w ⟨q55, rfl, hE, hS⟩
    refine W.ret ?_
    refine finG (fn := Tryd.f13) (rs := [.tmp 6]) (vs := [_]) hE rfl ⟨rfl, trivial⟩ ?_
    subst hr
    exact ⟨rfl, hS⟩
set_option maxHeartbeats 8000000 in
theorem Fishref2AssignStays_1_v1_ok : ∀ {fu : Nat} {w : World} {s : Sg} {R : List HP} {pb0 : Nat} {pb1 : Nat} {pb2 : Nat} {y0 : List Int} {a_v0 : Option Addr} {c_v0 n_v0 : Nat} {cs_v0 : List Value} {y1 : List PlanStay} {a_y1_0 : Option Addr} {c_y1_0 : Nat} (_hS : St w s (pt pb0 (.cells #[.slice a_v0 n_v0 c_v0] 23 (0, 0)) :: pt pb1 (.cells #[.slice a_y1_0 y1.length c_y1_0] 22 (0, 0)) :: pt pb2 (.cells #[.func (.func 14) #[] #[.pointer (some ⟨pb0, 0, none⟩), .pointer (some ⟨pb1, 0, none⟩), .pointer (some ⟨pb2, 0, none⟩)]] 27 (0, 0)) :: vecC 3 1 a_v0 c_v0 n_v0 cs_v0 :: R)) (_h_v0 : Ev 1 (RI .i64) s cs_v0 y0) (_hn_v0 : y0.length = n_v0) (_h_y1_0 : Sl 3 RPlanStay s a_y1_0 c_y1_0 y1) {r : Bool × (List Int)} (_hr : Fishref2AssignStays_1_v1 fu y0 y1 = some r),
    Calls Tryd.prog 14 [.pointer (some ⟨pb0, 0, none⟩), .pointer (some ⟨pb1, 0, none⟩), .pointer (some ⟨pb2, 0, none⟩)].toArray w (fun e w => ∃ (a52 : Option Addr) (c53 : Nat) (n55 : Nat) (cs56 : List Value), e = .returned (.bool r.1) ∧ Ev 1 (RI .i64) s cs56 r.2 ∧ r.2.length = n55 ∧ St w s (pt pb0 (.cells #[.slice a52 n55 c53] 23 (0, 0)) :: pt pb1 (.cells #[.slice a_y1_0 y1.length c_y1_0] 22 (0, 0)) :: pt pb2 (.cells #[.func (.func 14) #[] #[.pointer (some ⟨pb0, 0, none⟩), .pointer (some ⟨pb1, 0, none⟩), .pointer (some ⟨pb2, 0, none⟩)]] 27 (0, 0)) :: vecC 3 1 a52 c53 n55 cs56 :: R)) := by
  intro fu
  induction fu with
  | zero => intro w s R pb0 pb1 pb2 y0 a_v0 c_v0 n_v0 cs_v0 y1 a_y1_0 c_y1_0 hS h_v0 hn_v0 h_y1_0 r hr; rw [Fishref2AssignStays_1_v1] at hr; exact absurd hr (by simp)
  | succ fu ih_Fishref2AssignStays_1_v1 =>
    intro w s R pb0 pb1 pb2 y0 a_v0 c_v0 n_v0 cs_v0 y1 a_y1_0 c_y1_0 hS h_v0 hn_v0 h_y1_0 r hr
    rw [Fishref2AssignStays_1_v1] at hr
    generalize Fishref2AssignStays_1_v1 fu = self_Fishref2AssignStays_1_v1 at hr ih_Fishref2AssignStays_1_v1
    refine enter Tryd.func14 rfl rfl rfl fun a hE => ?_
    subst hn_v0
    refine W.seq ?_
    refine W.region ?_
    refine WL.vS hS hE (runs_plain rfl) (Gives.p hE rfl) rfl ?_; clear hE a; intro a hE
    refine WL.nil ?_
    refine W.seq ?_
    refine W.region ?_
    refine WL.vS hS hE (runs_plain rfl) (Gives.loadB hE 0 rfl rfl rfl ty23) rfl ?_; clear hE a; intro a hE
    refine WL.vS hS hE (runs_plain rfl) (Gives.len hE rfl sl23) rfl ?_; clear hE a; intro a hE
    refine WL.vS hS hE (runs_plain rfl) (Gives.p hE rfl) rfl ?_; clear hE a; intro a hE
    refine WL.nil ?_
    refine W.seq ?_
    refine W.seq ?_
    refine W.region ?_
    refine WL.vS hS hE (runs_plain rfl) (Gives.p hE rfl) rfl ?_; clear hE a; intro a hE
    refine WL.vS hS hE (runs_plain rfl) (Gives.loadB hE 1 rfl rfl rfl ty22) rfl ?_; clear hE a; intro a hE
    refine WL.vS hS hE (runs_plain rfl) (Gives.len hE rfl sl22) rfl ?_; clear hE a; intro a hE
    refine WL.vS hS hE (runs_plain rfl) (Gives.p hE rfl) rfl ?_; clear hE a; intro a hE
    refine WL.nil ?_
    refine W.cond hE rfl (fun hc58 => ?_) (fun hc58 => ?_)
    · replace hr := iteT hc58 hr
      refine W.seq ?_
      refine W.region ?_
      refine WL.vS hS hE (runs_plain rfl) (Gives.p hE rfl) rfl ?_; clear hE a; intro a hE
      refine WL.nil ?_
      refine W.ret ?_
      refine finG (fn := Tryd.f14) (rs := [.tmp 3]) (vs := [_]) hE rfl ⟨rfl, trivial⟩ ?_
      obtain rfl := Option.some.inj hr
      exact ⟨a_v0, c_v0, y0.length, cs_v0, rfl, h_v0, (rfl), hS⟩
    · replace hr := iteF hc58 hr
      refine W.skip ?_
      refine W.seq ?_
      refine W.seq ?_
      refine W.region ?_
      refine WL.vS hS hE (runs_plain rfl) (Gives.loadB hE 1 rfl rfl rfl ty22) rfl ?_; clear hE a; intro a hE
      refine WL.vS hS hE (runs_plain rfl) (Gives.p hE rfl) rfl ?_; clear hE a; intro a hE
      obtain ⟨x59, hx60, hr⟩ := bindS hr
      obtain ⟨hi61, hlt62, hy63⟩ := gx_some hx60
      obtain ⟨cs64, hl65, hR66, hat67⟩ := h_y1_0.at hy63
      obtain ⟨a68, c69, rfl, h70⟩ := hR66
      refine WL.vS hS hE (runs_plain rfl) (Gives.idx hE (((y0.length : Nat) : Int)).toNat rfl rfl sl22 hi61 hlt62 (h_y1_0.aok hlt62)) rfl ?_; clear hE a; intro a hE
      refine WL.vS hS hE (runs_plain rfl) (Gives.fld hE rfl fl31_2) rfl ?_; clear hE a; intro a hE
      refine WL.vS hS hE (runs_plain rfl) (Gives.load1 hE rfl (fun w h => (hat67 w _ h).one rfl) ty23) rfl ?_; clear hE a; intro a hE
      refine WL.fnq hE (itVals_ok hS) (runs_plain rfl) bd12 rfl rfl rfl ?_
      clear hE hS; rintro e w ⟨b71, rfl, hS⟩; refine ⟨_, rfl, ?_⟩; clear a; intro a hE
      obtain ⟨q72, hq73, hr⟩ := bindS hr
      have hc_ := SlicesSortedint_v1_ok hS h70 hq73
      refine WL.fnq hE (hc_) (runs_plain rfl) bd11 rfl rfl rfl ?_
      clear hE hS hc_; rintro e w ⟨a74, c75, n76, cs77, rfl, h78, rfl, hS⟩; refine ⟨_, rfl, ?_⟩; clear a; intro a hE
      refine WL.vS hS hE (runs_plain rfl) (Gives.len hE rfl sl23) rfl ?_; clear hE a; intro a hE
      refine WL.vS hS hE (runs_plain rfl) (Gives.p hE rfl) rfl ?_; clear hE a; intro a hE
      refine WL.nil ?_
      have hb91 : q72.length ≤ 9223372036854775807 := by have := hS.vecCap 0 rfl; unfold maxLen at this; omega
      obtain ⟨q81, hq80, hr⟩ := bindS hr
      refine W.cut (fun a w => ∃ (q92 : List Int), ∃ (a93 : Option Addr), ∃ (c94 : Nat), ∃ (n96 : Nat), ∃ (cs97 : List Value), (.next q92) = q81 ∧ Ev 1 (RI .i64) s cs97 q92 ∧ q92.length = n96 ∧ Rep a 79 [] ∧ St w s (vecC 3 1 a74 c75 q72.length cs77 :: pt b71 (.cells #[.slice a68 x59.May.length c69] 23 (0, 0)) :: pt pb0 (.cells #[.slice a93 n96 c94] 23 (0, 0)) :: pt pb1 (.cells #[.slice a_y1_0 y1.length c_y1_0] 22 (0, 0)) :: pt pb2 (.cells #[.func (.func 14) #[] #[.pointer (some ⟨pb0, 0, none⟩), .pointer (some ⟨pb1, 0, none⟩), .pointer (some ⟨pb2, 0, none⟩)]] 27 (0, 0)) :: vecC 3 1 a93 c94 n96 cs97 :: R)) ?_ ?_
      · refine W.block ?_
        refine W.loop (fun m a w => ∃ (rest84 : Nat) (k82 : Nat), ∃ (q92 : List Int), ∃ (a93 : Option Addr), ∃ (c94 : Nat), ∃ (n96 : Nat), ∃ (cs97 : List Value), rest84 = m ∧ k82 + rest84 = q72.length ∧ Fishref2AssignStays_1_v1.loop1 y0 y1 self_Fishref2AssignStays_1_v1 q72 rest84 k82 q92 = some q81 ∧ Ev 1 (RI .i64) s cs97 q92 ∧ q92.length = n96 ∧ Rep a 79 [(0, .pointer (some ⟨pb0, 0, none⟩)), (1, .pointer (some ⟨pb1, 0, none⟩)), (2, .pointer (some ⟨pb2, 0, none⟩)), (4, .int .i64 ((y0.length : Nat) : Int)), (22, .slice a74 q72.length c75), (23, .int .i64 ((q72.length : Nat) : Int)), (24, .int .i64 ((k82 : Nat) : Int))] ∧ St w s (vecC 3 1 a74 c75 q72.length cs77 :: pt b71 (.cells #[.slice a68 x59.May.length c69] 23 (0, 0)) :: pt pb0 (.cells #[.slice a93 n96 c94] 23 (0, 0)) :: pt pb1 (.cells #[.slice a_y1_0 y1.length c_y1_0] 22 (0, 0)) :: pt pb2 (.cells #[.func (.func 14) #[] #[.pointer (some ⟨pb0, 0, none⟩), .pointer (some ⟨pb1, 0, none⟩), .pointer (some ⟨pb2, 0, none⟩)]] 27 (0, 0)) :: vecC 3 1 a93 c94 n96 cs97 :: R)) (m := q72.length) ⟨q72.length, 0, y0, a_v0, c_v0, y0.length, cs_v0, rfl, by omega, hq80, h_v0, (rfl), hE.pick _ ⟨rfl, rfl, rfl, rfl, rfl, rfl, rfl, trivial⟩, hS⟩ ?_
        clear hE hS a w hq80; rintro m88 a w ⟨rest84, k82, q92, a93, c94, n96, cs97, rfl, hd85, hq80, h95, rfl, hE, hS⟩
        refine W.gen fun K99 hK99 => ?_
        rcases rest84 with _ | rest84
        · skip
          refine W.seq ?_
          refine W.region ?_
          refine WL.vS hS hE (runs_plain rfl) (Gives.p hE rfl) rfl ?_; clear hE a; intro a hE
          refine WL.nil ?_
          refine W.seq ?_
          refine W.condF hE rfl (decide_eq_false (by omega)) ?_
          subst hK99
          refine W.exit rfl ?_
          exact ⟨q92, a93, c94, q92.length, cs97, Option.some.inj hq80, h95, rfl, hE.pick _ trivial, hS⟩
        · have hlt86 : k82 < q72.length := by omega
          rw [Fishref2AssignStays_1_v1.loop1] at hq80
          refine W.seq ?_
          refine W.region ?_
          refine WL.vS hS hE (runs_plain rfl) (Gives.p hE rfl) rfl ?_; clear hE a; intro a hE
          refine WL.nil ?_
          refine W.seq ?_
          refine W.condT hE rfl (decide_eq_true (by omega)) ?_
          refine W.skip ?_
          refine W.seq ?_
          refine W.block ?_
          refine W.seq ?_
          refine W.region ?_
          obtain ⟨x100, hx101, hq80⟩ := bindS hq80
          obtain ⟨hi102, hlt103, hy104⟩ := gx_some hx101
          obtain ⟨vs105, hl106, hR107, hd108, hget109⟩ := h78.at hy104
          subst hR107
          refine WL.vS hS hE (runs_plain rfl) (Gives.idx hE ((((k82 : Nat) : Int)).toNat) rfl rfl sl23 hi102 (by omega) (hS.vecAok 0 rfl (by omega : (((k82 : Nat) : Int)).toNat < q72.length))) rfl ?_; clear hE a; intro a hE
          refine WL.vS hS hE (runs_plain rfl) (Gives.load1 hE rfl (fun w h => St.vecSees h 0 rfl ((((k82 : Nat) : Int)).toNat * 1) _ hget109) ty3) rfl ?_; clear hE a; intro a hE
          refine WL.vS hS hE (runs_plain rfl) (Gives.p hE rfl) rfl ?_; clear hE a; intro a hE
          refine WL.nil ?_
          refine W.seq ?_
          refine W.region ?_
          refine WL.vS hS hE (runs_plain rfl) (Gives.p hE rfl) rfl ?_; clear hE a; intro a hE
          refine WL.nil ?_
          refine W.seq ?_
          refine W.seq ?_
          refine W.region ?_
          refine WL.vS hS hE (runs_plain rfl) (Gives.loadB hE 2 rfl rfl rfl ty23) rfl ?_; clear hE a; intro a hE
          refine WL.vS hS hE (runs_plain rfl) (Gives.len hE rfl sl23) rfl ?_; clear hE a; intro a hE
          refine WL.vS hS hE (runs_plain rfl) (Gives.p hE rfl) rfl ?_; clear hE a; intro a hE
          refine WL.nil ?_
          have hb121 : q92.length ≤ 9223372036854775807 := by have := hS.vecCap 5 rfl; unfold maxLen at this; omega
          obtain ⟨q111, hq110, hq80⟩ := bindS hq80
          refine W.cut (fun a w => ∃ (q122 : Bool), q122 = q111 ∧ Rep a 79 [(0, .pointer (some ⟨pb0, 0, none⟩)), (1, .pointer (some ⟨pb1, 0, none⟩)), (2, .pointer (some ⟨pb2, 0, none⟩)), (4, .int .i64 ((y0.length : Nat) : Int)), (6, .int .i64 x100), (7, .bool q122), (22, .slice a74 q72.length c75), (23, .int .i64 ((q72.length : Nat) : Int)), (24, .int .i64 ((k82 : Nat) : Int))] ∧ St w s (vecC 3 1 a74 c75 q72.length cs77 :: pt b71 (.cells #[.slice a68 x59.May.length c69] 23 (0, 0)) :: pt pb0 (.cells #[.slice a93 q92.length c94] 23 (0, 0)) :: pt pb1 (.cells #[.slice a_y1_0 y1.length c_y1_0] 22 (0, 0)) :: pt pb2 (.cells #[.func (.func 14) #[] #[.pointer (some ⟨pb0, 0, none⟩), .pointer (some ⟨pb1, 0, none⟩), .pointer (some ⟨pb2, 0, none⟩)]] 27 (0, 0)) :: vecC 3 1 a93 c94 q92.length cs97 :: R)) ?_ ?_
          · refine W.block ?_
            refine W.loop (fun m a w => ∃ (rest114 : Nat) (k112 : Nat), ∃ (q122 : Bool), rest114 = m ∧ k112 + rest114 = q92.length ∧ Fishref2AssignStays_1_v1.loop2 y0 y1 q92 x100 rest114 k112 q122 = some q111 ∧ Rep a 79 [(0, .pointer (some ⟨pb0, 0, none⟩)), (1, .pointer (some ⟨pb1, 0, none⟩)), (2, .pointer (some ⟨pb2, 0, none⟩)), (4, .int .i64 ((y0.length : Nat) : Int)), (6, .int .i64 x100), (7, .bool q122), (22, .slice a74 q72.length c75), (23, .int .i64 ((q72.length : Nat) : Int)), (24, .int .i64 ((k82 : Nat) : Int)), (28, .slice a93 q92.length c94), (29, .int .i64 ((q92.length : Nat) : Int)), (30, .int .i64 ((k112 : Nat) : Int))] ∧ St w s (vecC 3 1 a74 c75 q72.length cs77 :: pt b71 (.cells #[.slice a68 x59.May.length c69] 23 (0, 0)) :: pt pb0 (.cells #[.slice a93 q92.length c94] 23 (0, 0)) :: pt pb1 (.cells #[.slice a_y1_0 y1.length c_y1_0] 22 (0, 0)) :: pt pb2 (.cells #[.func (.func 14) #[] #[.pointer (some ⟨pb0, 0, none⟩), .pointer (some ⟨pb1, 0, none⟩), .pointer (some ⟨pb2, 0, none⟩)]] 27 (0, 0)) :: vecC 3 1 a93 c94 q92.length cs97 :: R)) (m := q92.length) ⟨q92.length, 0, true, rfl, by omega, hq110, hE.pick _ ⟨rfl, rfl, rfl, rfl, rfl, rfl, rfl, rfl, rfl, rfl, rfl, rfl, trivial⟩, hS⟩ ?_
            clear hE hS a w hq110; rintro m118 a w ⟨rest114, k112, q122, rfl, hd115, hq110, hE, hS⟩
            refine W.gen fun K123 hK123 => ?_
            rcases rest114 with _ | rest114
            · skip
              refine W.seq ?_
              refine W.region ?_
              refine WL.vS hS hE (runs_plain rfl) (Gives.p hE rfl) rfl ?_; clear hE a; intro a hE
              refine WL.nil ?_
              refine W.seq ?_
              refine W.condF hE rfl (decide_eq_false (by omega)) ?_
              subst hK123
              refine W.exit rfl ?_
              exact ⟨q122, Option.some.inj hq110, hE.pick _ ⟨rfl, rfl, rfl, rfl, rfl, rfl, rfl, rfl, rfl, trivial⟩, hS⟩
            · have hlt116 : k112 < q92.length := by omega
              rw [Fishref2AssignStays_1_v1.loop2] at hq110
              refine W.seq ?_
              refine W.region ?_
              refine WL.vS hS hE (runs_plain rfl) (Gives.p hE rfl) rfl ?_; clear hE a; intro a hE
              refine WL.nil ?_
              refine W.seq ?_
              refine W.condT hE rfl (decide_eq_true (by omega)) ?_
              refine W.skip ?_
              refine W.seq ?_
              refine W.block ?_
              refine W.seq ?_
              refine W.region ?_
              refine WL.vS hS hE (runs_plain rfl) (Gives.p hE rfl) rfl ?_; clear hE a; intro a hE
              obtain ⟨x124, hx125, hq110⟩ := bindS hq110
              obtain ⟨hi126, hlt127, hy128⟩ := gx_some hx125
              obtain ⟨vs129, hl130, hR131, hd132, hget133⟩ := h95.at hy128
              subst hR131
              refine WL.vS hS hE (runs_plain rfl) (Gives.idx hE ((((k112 : Nat) : Int)).toNat) rfl rfl sl23 hi126 (by omega) (hS.vecAok 5 rfl (by omega : (((k112 : Nat) : Int)).toNat < q92.length))) rfl ?_; clear hE a; intro a hE
              refine WL.vS hS hE (runs_plain rfl) (Gives.load1 hE rfl (fun w h => St.vecSees h 5 rfl ((((k112 : Nat) : Int)).toNat * 1) _ hget133) ty3) rfl ?_; clear hE a; intro a hE
              refine WL.vS hS hE (runs_plain rfl) (Gives.p hE rfl) rfl ?_; clear hE a; intro a hE
              refine WL.vS hS hE (runs_plain rfl) (Gives.p hE rfl) rfl ?_; clear hE a; intro a hE
              refine WL.nil ?_
              obtain ⟨q135, hq134, hq110⟩ := bindS hq110
              refine W.cut (fun a w => ∃ (q138 : Bool), q138 = q135 ∧ Rep a 79 [(0, .pointer (some ⟨pb0, 0, none⟩)), (1, .pointer (some ⟨pb1, 0, none⟩)), (2, .pointer (some ⟨pb2, 0, none⟩)), (4, .int .i64 ((y0.length : Nat) : Int)), (6, .int .i64 x100), (7, .bool q138), (22, .slice a74 q72.length c75), (23, .int .i64 ((q72.length : Nat) : Int)), (24, .int .i64 ((k82 : Nat) : Int)), (28, .slice a93 q92.length c94), (29, .int .i64 ((q92.length : Nat) : Int)), (30, .int .i64 ((k112 : Nat) : Int))] ∧ St w s (vecC 3 1 a74 c75 q72.length cs77 :: pt b71 (.cells #[.slice a68 x59.May.length c69] 23 (0, 0)) :: pt pb0 (.cells #[.slice a93 q92.length c94] 23 (0, 0)) :: pt pb1 (.cells #[.slice a_y1_0 y1.length c_y1_0] 22 (0, 0)) :: pt pb2 (.cells #[.func (.func 14) #[] #[.pointer (some ⟨pb0, 0, none⟩), .pointer (some ⟨pb1, 0, none⟩), .pointer (some ⟨pb2, 0, none⟩)]] 27 (0, 0)) :: vecC 3 1 a93 c94 q92.length cs97 :: R)) ?_ ?_
              · refine W.gen fun K139 hK139 => ?_
                refine W.regionQ (C := fun w => St w s (vecC 3 1 a74 c75 q72.length cs77 :: pt b71 (.cells #[.slice a68 x59.May.length c69] 23 (0, 0)) :: pt pb0 (.cells #[.slice a93 q92.length c94] 23 (0, 0)) :: pt pb1 (.cells #[.slice a_y1_0 y1.length c_y1_0] 22 (0, 0)) :: pt pb2 (.cells #[.func (.func 14) #[] #[.pointer (some ⟨pb0, 0, none⟩), .pointer (some ⟨pb1, 0, none⟩), .pointer (some ⟨pb2, 0, none⟩)]] 27 (0, 0)) :: vecC 3 1 a93 c94 q92.length cs97 :: R)) mixed (by kernel_rfl) hS.drew ?_
                refine QL.v hE (runs_plain rfl) (Gives.p hE rfl) rfl ?_; clear hE a; intro a hE
                refine QL.v hE (runs_plain rfl) (Gives.p hE rfl) rfl ?_; clear hE a; intro a hE
                rcases Bool.eq_false_or_eq_true q122 with hg140 | hg140
                · replace hq134 := iteT hg140 hq134
                  refine QL.v hE (runs_if hE rfl rfl rfl hg140) (Gives.p hE rfl) rfl ?_; clear hE a; intro a hE
                  refine QL.v hE (runs_if hE rfl rfl rfl hg140) (Gives.p hE rfl) rfl ?_; clear hE a; intro a hE
                  refine QL.v hE (runs_if hE rfl rfl rfl hg140) (Gives.p hE rfl) rfl ?_; clear hE a; intro a hE
                  refine QL.v hE (runs_if hE rfl rfl rfl hg140) (Gives.p hE rfl) rfl ?_; clear hE a; intro a hE
                  rcases Bool.eq_false_or_eq_true (x124 != x100) with hg141 | hg141
                  · replace hq134 := iteT hg141 hq134
                    refine QL.no hE (runs_not hE rfl rfl rfl (by rw [hg141]; decide)) rfl ?_; clear hE a; intro a hE
                    refine QL.no hE (runs_not hE rfl rfl rfl (by rw [hg141]; decide)) rfl ?_; clear hE a; intro a hE
                    refine QL.no hE (runs_not hE rfl rfl rfl (by rw [hg141]; decide)) rfl ?_; clear hE a; intro a hE
                    refine QL.no hE (runs_not hE rfl rfl rfl (by rw [hg141]; decide)) rfl ?_; clear hE a; intro a hE
                    refine QL.no hE (runs_not hE rfl rfl rfl (by rw [hg141]; decide)) rfl ?_; clear hE a; intro a hE
                    refine QL.no hE (runs_not hE rfl rfl rfl (by rw [hg141]; decide)) rfl ?_; clear hE a; intro a hE
                    refine QL.no hE (runs_not hE rfl rfl rfl (by rw [hg141]; decide)) rfl ?_; clear hE a; intro a hE
                    refine QL.no hE (runs_not hE rfl rfl rfl (by rw [hg141]; decide)) rfl ?_; clear hE a; intro a hE
                    refine QL.no hE (runs_not hE rfl rfl rfl (by rw [hg141]; decide)) rfl ?_; clear hE a; intro a hE
                    refine QL.no hE (runs_not hE rfl rfl rfl (by rw [hg141]; decide)) rfl ?_; clear hE a; intro a hE
                    refine QL.no hE (runs_not hE rfl rfl rfl (by rw [hg141]; decide)) rfl ?_; clear hE a; intro a hE
                    refine QL.v hE (runs_if hE rfl rfl rfl hg140) (Gives.pickT hE rfl hg141 rfl) rfl ?_; clear hE a; intro a hE
                    refine QL.v hE (runs_if hE rfl rfl rfl hg140) (Gives.p hE rfl) rfl ?_; clear hE a; intro a hE
                    refine QL.no hE (runs_not hE rfl rfl rfl (by decide)) rfl ?_; clear hE a; intro a hE
                    refine QL.no hE (runs_not hE rfl rfl rfl (by decide)) rfl ?_; clear hE a; intro a hE
                    refine QL.no hE (runs_not hE rfl rfl rfl (by decide)) rfl ?_; clear hE a; intro a hE
                    refine QL.no hE (runs_not hE rfl rfl rfl (by decide)) rfl ?_; clear hE a; intro a hE
                    refine QL.no hE (runs_not hE rfl rfl rfl (by decide)) rfl ?_; clear hE a; intro a hE
                    refine QL.no hE (runs_not hE rfl rfl rfl (by decide)) rfl ?_; clear hE a; intro a hE
                    refine QL.no hE (runs_not hE rfl rfl rfl (by decide)) rfl ?_; clear hE a; intro a hE
                    refine QL.no hE (runs_not hE rfl rfl rfl (by decide)) rfl ?_; clear hE a; intro a hE
                    refine QL.no hE (runs_not hE rfl rfl rfl (by decide)) rfl ?_; clear hE a; intro a hE
                    refine QL.no hE (runs_not hE rfl rfl rfl (by decide)) rfl ?_; clear hE a; intro a hE
                    refine QL.no hE (runs_not hE rfl rfl rfl (by decide)) rfl ?_; clear hE a; intro a hE
                    refine QL.v hE (runs_if hE rfl rfl rfl hg140) (Gives.pickT hE rfl rfl rfl) rfl ?_; clear hE a; intro a hE
                    refine QL.v hE (runs_plain rfl) (Gives.pickT hE rfl hg140 rfl) rfl ?_; clear hE a; intro a hE
                    refine QL.v hE (runs_plain rfl) (Gives.p hE rfl) rfl ?_; clear hE a; intro a hE
                    refine QL.nil ?_; clear hS w; intro w hS
                    subst hK139
                    exact ⟨true, Option.some.inj hq134, hE.pick _ ⟨rfl, rfl, rfl, rfl, rfl, rfl, rfl, rfl, rfl, rfl, rfl, rfl, trivial⟩, hS⟩
                  · replace hq134 := iteF hg141 hq134
                    refine QL.v hE (runs_if hE rfl rfl rfl hg141) (Gives.loadB hE 3 rfl rfl rfl ty22) rfl ?_; clear hE a; intro a hE
                    refine QL.v hE (runs_if hE rfl rfl rfl hg141) (Gives.p hE rfl) rfl ?_; clear hE a; intro a hE
                    obtain ⟨x142, hx143, hq134⟩ := bindS hq134
                    obtain ⟨hi144, hlt145, hy146⟩ := gx_some hx143
                    obtain ⟨cs147, hl148, hR149, hat150⟩ := h_y1_0.at hy146
                    obtain ⟨a151, c152, rfl, h153⟩ := hR149
                    refine QL.v hE (runs_if hE rfl rfl rfl hg141) (Gives.idx hE (((k112 : Nat) : Int)).toNat rfl rfl sl22 hi144 hlt145 (h_y1_0.aok hlt145)) rfl ?_; clear hE a; intro a hE
                    refine QL.v hE (runs_if hE rfl rfl rfl hg141) (Gives.fld hE rfl fl31_0) rfl ?_; clear hE a; intro a hE
                    refine QL.v hE (runs_if hE rfl rfl rfl hg141) (Gives.load1 hE rfl (fun w h => (hat150 w _ h).one rfl) ty3) rfl ?_; clear hE a; intro a hE
                    refine QL.v hE (runs_if hE rfl rfl rfl hg141) (Gives.loadB hE 3 rfl rfl rfl ty22) rfl ?_; clear hE a; intro a hE
                    refine QL.v hE (runs_if hE rfl rfl rfl hg141) (Gives.p hE rfl) rfl ?_; clear hE a; intro a hE
                    obtain ⟨x154, hx155, hq134⟩ := bindS hq134
                    obtain ⟨hi156, hlt157, hy158⟩ := gx_some hx155
                    obtain ⟨cs159, hl160, hR161, hat162⟩ := h_y1_0.at hy158
                    obtain ⟨a163, c164, rfl, h165⟩ := hR161
                    refine QL.v hE (runs_if hE rfl rfl rfl hg141) (Gives.idx hE (((y0.length : Nat) : Int)).toNat rfl rfl sl22 hi156 hlt157 (h_y1_0.aok hlt157)) rfl ?_; clear hE a; intro a hE
                    refine QL.v hE (runs_if hE rfl rfl rfl hg141) (Gives.fld hE rfl fl31_1) rfl ?_; clear hE a; intro a hE
                    refine QL.v hE (runs_if hE rfl rfl rfl hg141) (Gives.load1 hE rfl (fun w h => (hat162 w _ h).one rfl) ty3) rfl ?_; clear hE a; intro a hE
                    refine QL.v hE (runs_if hE rfl rfl rfl hg141) (Gives.p hE rfl) rfl ?_; clear hE a; intro a hE
                    refine QL.v hE (runs_if hE rfl rfl rfl hg140) (Gives.pickF hE rfl hg141 rfl) rfl ?_; clear hE a; intro a hE
                    refine QL.v hE (runs_if hE rfl rfl rfl hg140) (Gives.p hE rfl) rfl ?_; clear hE a; intro a hE
                    rcases Bool.eq_false_or_eq_true (decide (x142.From ≥ x154.To)) with hg166 | hg166
                    · replace hq134 := iteT hg166 hq134
                      refine QL.no hE (runs_not hE rfl rfl rfl (by rw [hg166]; decide)) rfl ?_; clear hE a; intro a hE
                      refine QL.no hE (runs_not hE rfl rfl rfl (by rw [hg166]; decide)) rfl ?_; clear hE a; intro a hE
                      refine QL.no hE (runs_not hE rfl rfl rfl (by rw [hg166]; decide)) rfl ?_; clear hE a; intro a hE
                      refine QL.no hE (runs_not hE rfl rfl rfl (by rw [hg166]; decide)) rfl ?_; clear hE a; intro a hE
                      refine QL.no hE (runs_not hE rfl rfl rfl (by rw [hg166]; decide)) rfl ?_; clear hE a; intro a hE
                      refine QL.no hE (runs_not hE rfl rfl rfl (by rw [hg166]; decide)) rfl ?_; clear hE a; intro a hE
                      refine QL.no hE (runs_not hE rfl rfl rfl (by rw [hg166]; decide)) rfl ?_; clear hE a; intro a hE
                      refine QL.no hE (runs_not hE rfl rfl rfl (by rw [hg166]; decide)) rfl ?_; clear hE a; intro a hE
                      refine QL.no hE (runs_not hE rfl rfl rfl (by rw [hg166]; decide)) rfl ?_; clear hE a; intro a hE
                      refine QL.no hE (runs_not hE rfl rfl rfl (by rw [hg166]; decide)) rfl ?_; clear hE a; intro a hE
                      refine QL.no hE (runs_not hE rfl rfl rfl (by rw [hg166]; decide)) rfl ?_; clear hE a; intro a hE
                      refine QL.v hE (runs_if hE rfl rfl rfl hg140) (Gives.pickT hE rfl hg166 rfl) rfl ?_; clear hE a; intro a hE
                      refine QL.v hE (runs_plain rfl) (Gives.pickT hE rfl hg140 rfl) rfl ?_; clear hE a; intro a hE
                      refine QL.v hE (runs_plain rfl) (Gives.p hE rfl) rfl ?_; clear hE a; intro a hE
                      refine QL.nil ?_; clear hS w; intro w hS
                      subst hK139
                      exact ⟨true, Option.some.inj hq134, hE.pick _ ⟨rfl, rfl, rfl, rfl, rfl, rfl, rfl, rfl, rfl, rfl, rfl, rfl, trivial⟩, hS⟩
                    · replace hq134 := iteF hg166 hq134
                      refine QL.v hE (runs_if hE rfl rfl rfl hg166) (Gives.loadB hE 3 rfl rfl rfl ty22) rfl ?_; clear hE a; intro a hE
                      refine QL.v hE (runs_if hE rfl rfl rfl hg166) (Gives.p hE rfl) rfl ?_; clear hE a; intro a hE
                      obtain ⟨x167, hx168, hq134⟩ := bindS hq134
                      obtain ⟨hi169, hlt170, hy171⟩ := gx_some hx168
                      obtain ⟨cs172, hl173, hR174, hat175⟩ := h_y1_0.at hy171
                      obtain ⟨a176, c177, rfl, h178⟩ := hR174
                      refine QL.v hE (runs_if hE rfl rfl rfl hg166) (Gives.idx hE (((y0.length : Nat) : Int)).toNat rfl rfl sl22 hi169 hlt170 (h_y1_0.aok hlt170)) rfl ?_; clear hE a; intro a hE
                      refine QL.v hE (runs_if hE rfl rfl rfl hg166) (Gives.fld hE rfl fl31_0) rfl ?_; clear hE a; intro a hE
                      refine QL.v hE (runs_if hE rfl rfl rfl hg166) (Gives.load1 hE rfl (fun w h => (hat175 w _ h).one rfl) ty3) rfl ?_; clear hE a; intro a hE
                      refine QL.v hE (runs_if hE rfl rfl rfl hg166) (Gives.loadB hE 3 rfl rfl rfl ty22) rfl ?_; clear hE a; intro a hE
                      refine QL.v hE (runs_if hE rfl rfl rfl hg166) (Gives.p hE rfl) rfl ?_; clear hE a; intro a hE
                      obtain ⟨x179, hx180, hq134⟩ := bindS hq134
                      obtain ⟨hi181, hlt182, hy183⟩ := gx_some hx180
                      obtain ⟨cs184, hl185, hR186, hat187⟩ := h_y1_0.at hy183
                      obtain ⟨a188, c189, rfl, h190⟩ := hR186
                      refine QL.v hE (runs_if hE rfl rfl rfl hg166) (Gives.idx hE (((k112 : Nat) : Int)).toNat rfl rfl sl22 hi181 hlt182 (h_y1_0.aok hlt182)) rfl ?_; clear hE a; intro a hE
                      refine QL.v hE (runs_if hE rfl rfl rfl hg166) (Gives.fld hE rfl fl31_1) rfl ?_; clear hE a; intro a hE
                      refine QL.v hE (runs_if hE rfl rfl rfl hg166) (Gives.load1 hE rfl (fun w h => (hat187 w _ h).one rfl) ty3) rfl ?_; clear hE a; intro a hE
                      refine QL.v hE (runs_if hE rfl rfl rfl hg166) (Gives.p hE rfl) rfl ?_; clear hE a; intro a hE
                      refine QL.v hE (runs_if hE rfl rfl rfl hg140) (Gives.pickF hE rfl hg166 rfl) rfl ?_; clear hE a; intro a hE
                      refine QL.v hE (runs_plain rfl) (Gives.pickT hE rfl hg140 rfl) rfl ?_; clear hE a; intro a hE
                      refine QL.v hE (runs_plain rfl) (Gives.p hE rfl) rfl ?_; clear hE a; intro a hE
                      refine QL.nil ?_; clear hS w; intro w hS
                      subst hK139
                      exact ⟨decide (x167.From ≥ x179.To), Option.some.inj hq134, hE.pick _ ⟨rfl, rfl, rfl, rfl, rfl, rfl, rfl, rfl, rfl, rfl, rfl, rfl, trivial⟩, hS⟩
                · replace hq134 := iteF hg140 hq134
                  refine QL.no hE (runs_not hE rfl rfl rfl (by rw [hg140]; decide)) rfl ?_; clear hE a; intro a hE
                  refine QL.no hE (runs_not hE rfl rfl rfl (by rw [hg140]; decide)) rfl ?_; clear hE a; intro a hE
                  refine QL.no hE (runs_not hE rfl rfl rfl (by rw [hg140]; decide)) rfl ?_; clear hE a; intro a hE
                  refine QL.no hE (runs_not hE rfl rfl rfl (by rw [hg140]; decide)) rfl ?_; clear hE a; intro a hE
                  refine QL.no hE (runs_undef hE rfl rfl rfl) rfl ?_; clear hE a; intro a hE
                  refine QL.no hE (runs_undef hE rfl rfl rfl) rfl ?_; clear hE a; intro a hE
                  refine QL.no hE (runs_undef hE rfl rfl rfl) rfl ?_; clear hE a; intro a hE
                  refine QL.no hE (runs_undef hE rfl rfl rfl) rfl ?_; clear hE a; intro a hE
                  refine QL.no hE (runs_undef hE rfl rfl rfl) rfl ?_; clear hE a; intro a hE
                  refine QL.no hE (runs_undef hE rfl rfl rfl) rfl ?_; clear hE a; intro a hE
                  refine QL.no hE (runs_undef hE rfl rfl rfl) rfl ?_; clear hE a; intro a hE
                  refine QL.no hE (runs_undef hE rfl rfl rfl) rfl ?_; clear hE a; intro a hE
                  refine QL.no hE (runs_undef hE rfl rfl rfl) rfl ?_; clear hE a; intro a hE
                  refine QL.no hE (runs_undef hE rfl rfl rfl) rfl ?_; clear hE a; intro a hE
                  refine QL.no hE (runs_undef hE rfl rfl rfl) rfl ?_; clear hE a; intro a hE
                  refine QL.no hE (runs_not hE rfl rfl rfl (by rw [hg140]; decide)) rfl ?_; clear hE a; intro a hE
                  refine QL.no hE (runs_not hE rfl rfl rfl (by rw [hg140]; decide)) rfl ?_; clear hE a; intro a hE
                  refine QL.no hE (runs_undef hE rfl rfl rfl) rfl ?_; clear hE a; intro a hE
                  refine QL.no hE (runs_undef hE rfl rfl rfl) rfl ?_; clear hE a; intro a hE
                  refine QL.no hE (runs_undef hE rfl rfl rfl) rfl ?_; clear hE a; intro a hE
                  refine QL.no hE (runs_undef hE rfl rfl rfl) rfl ?_; clear hE a; intro a hE
                  refine QL.no hE (runs_undef hE rfl rfl rfl) rfl ?_; clear hE a; intro a hE
                  refine QL.no hE (runs_undef hE rfl rfl rfl) rfl ?_; clear hE a; intro a hE
                  refine QL.no hE (runs_undef hE rfl rfl rfl) rfl ?_; clear hE a; intro a hE
                  refine QL.no hE (runs_undef hE rfl rfl rfl) rfl ?_; clear hE a; intro a hE
                  refine QL.no hE (runs_undef hE rfl rfl rfl) rfl ?_; clear hE a; intro a hE
                  refine QL.no hE (runs_undef hE rfl rfl rfl) rfl ?_; clear hE a; intro a hE
                  refine QL.no hE (runs_undef hE rfl rfl rfl) rfl ?_; clear hE a; intro a hE
                  refine QL.no hE (runs_not hE rfl rfl rfl (by rw [hg140]; decide)) rfl ?_; clear hE a; intro a hE
                  refine QL.v hE (runs_plain rfl) (Gives.pickF hE rfl hg140 rfl) rfl ?_; clear hE a; intro a hE
                  refine QL.v hE (runs_plain rfl) (Gives.p hE rfl) rfl ?_; clear hE a; intro a hE
                  refine QL.nil ?_; clear hS w; intro w hS
                  subst hK139
                  exact ⟨false, Option.some.inj hq134, hE.pick _ ⟨rfl, rfl, rfl, rfl, rfl, rfl, rfl, rfl, rfl, rfl, rfl, rfl, trivial⟩, hS⟩
              · clear hE hS a w; rintro a w ⟨q138, rfl, hE, hS⟩
                refine W.region ?_
                refine WL.vS hS hE (runs_plain rfl) (Gives.inc hE rfl (by omega)) rfl ?_; clear hE a; intro a hE
                refine WL.vS hS hE (runs_plain rfl) (Gives.p hE rfl) rfl ?_; clear hE a; intro a hE
                refine WL.nil ?_
                subst hK123
                exact ⟨rest114, Nat.lt_succ_self _, rest114, k112 + 1, q138, rfl, (by omega), hq110, hE.pick _ ⟨rfl, rfl, rfl, rfl, rfl, rfl, rfl, rfl, rfl, rfl, rfl, rfl, trivial⟩, hS⟩
          · clear hE hS a w; rintro a w ⟨q122, rfl, hE, hS⟩
            refine W.seq ?_
            refine W.region ?_
            refine WL.vS hS hE (runs_plain rfl) (Gives.p hE rfl) rfl ?_; clear hE a; intro a hE
            refine WL.nil ?_
            obtain ⟨q192, hq191, hq80⟩ := bindS hq80
            refine W.cut (fun a w => ∃ (q195 : List Int), ∃ (a196 : Option Addr), ∃ (c197 : Nat), ∃ (n199 : Nat), ∃ (cs200 : List Value), .next q195 = q192 ∧ Ev 1 (RI .i64) s cs200 q195 ∧ q195.length = n199 ∧ Rep a 79 [(0, .pointer (some ⟨pb0, 0, none⟩)), (1, .pointer (some ⟨pb1, 0, none⟩)), (2, .pointer (some ⟨pb2, 0, none⟩)), (4, .int .i64 ((y0.length : Nat) : Int)), (22, .slice a74 q72.length c75), (23, .int .i64 ((q72.length : Nat) : Int)), (24, .int .i64 ((k82 : Nat) : Int))] ∧ St w s (vecC 3 1 a74 c75 q72.length cs77 :: pt b71 (.cells #[.slice a68 x59.May.length c69] 23 (0, 0)) :: pt pb0 (.cells #[.slice a196 n199 c197] 23 (0, 0)) :: pt pb1 (.cells #[.slice a_y1_0 y1.length c_y1_0] 22 (0, 0)) :: pt pb2 (.cells #[.func (.func 14) #[] #[.pointer (some ⟨pb0, 0, none⟩), .pointer (some ⟨pb1, 0, none⟩), .pointer (some ⟨pb2, 0, none⟩)]] 27 (0, 0)) :: vecC 3 1 a196 c197 n199 cs200 :: R)) ?_ ?_
            · refine W.gen fun K202 hK202 => ?_
              refine W.cond hE rfl (fun hc203 => ?_) (fun hc203 => ?_)
              · replace hq191 := iteT hc203 hq191
                refine W.seq ?_
                refine W.region ?_
                refine WL.vS hS hE (runs_plain rfl) (Gives.loadB hE 2 rfl rfl rfl ty23) rfl ?_; clear hE a; intro a hE
                refine WL.vS hS hE (runs_plain rfl) (Gives.p hE rfl) rfl ?_; clear hE a; intro a hE
                refine WL.lit hE hS (e := 3) (es := 1) (vs := [(0, .int .i64 x100)]) (cs := [.int .i64 x100]) (runs_plain rfl) rfl (by kernel_rfl) rfl ?_; clear hE hS a w; intro b204 a w hE hS
                obtain ⟨x205, hx206, hq191⟩ := bindS hq191
                refine WL.appD hE hS 5 (m := 1) (runs_plain rfl) rfl rfl rfl ap23 rfl h95 rfl (xs := [x100]) (Ev.cons (c1 := [.int .i64 x100]) rfl rfl (Ev.nil)) rfl rfl hx206 rfl ?_; clear hE hS a w; intro a207 c208 cs209 a w h210 hE hS
                refine WL.storeI hE hS 2 rfl [.slice a207 x205.length c208] (runs_plain rfl) rfl rfl rfl ty23 rfl rfl rfl rfl ?_; clear hE hS a w; intro a w hE hS
                refine WL.nil ?_
                refine W.seq ?_
                refine W.seq ?_
                refine W.region ?_
                refine WL.vS hS hE (runs_plain rfl) (Gives.loadB hE 4 rfl rfl rfl ty27) rfl ?_; clear hE a; intro a hE
                obtain ⟨q211, hq212, hq191⟩ := bindS hq191
                replace hS := hS.front 5 rfl
                replace hS := hS.front 5 rfl
                replace hS := hS.front 5 rfl
                replace hS := hS.front 5 rfl
                have hc_ := ih_Fishref2AssignStays_1_v1 hS h210 (rfl) h_y1_0 hq212
                refine WL.fnw hE (hc_) rfl (runs_plain rfl) bd14 rfl rfl rfl ?_
                clear hE hS hc_; rintro e w ⟨a213, c214, n215, cs216, rfl, h217, rfl, hS⟩; refine ⟨_, rfl, ?_⟩; clear a; intro a hE
                refine WL.nil ?_
                refine W.cond hE rfl (fun hc218 => ?_) (fun hc218 => ?_)
                · replace hq191 := iteT hc218 hq191
                  refine W.seq ?_
                  refine W.region ?_
                  refine WL.vS hS hE (runs_plain rfl) (Gives.p hE rfl) rfl ?_; clear hE a; intro a hE
                  refine WL.nil ?_
                  refine W.ret ?_
                  subst hK202
                  subst hK99
                  rw [← Option.some.inj hq191] at hq80
                  dsimp only at hq80
                  rw [← Option.some.inj hq80] at hr
                  dsimp only at hr
                  refine finG (fn := Tryd.f14) (rs := [.tmp 3]) (vs := [_]) hE rfl ⟨rfl, trivial⟩ ?_
                  obtain rfl := Option.some.inj hr
                  replace hS := hS.dropAt 4
                  replace hS := hS.dropAt 4
                  exact ⟨a213, c214, q211.2.length, cs216, rfl, h217, rfl, hS⟩
                · replace hq191 := iteF hc218 hq191
                  refine W.skip ?_
                  refine W.region ?_
                  refine WL.vS hS hE (runs_plain rfl) (Gives.loadB hE 0 rfl rfl rfl ty23) rfl ?_; clear hE a; intro a hE
                  refine WL.vS hS hE (runs_plain rfl) (Gives.p hE rfl) rfl ?_; clear hE a; intro a hE
                  obtain ⟨x219, hx220, hq191⟩ := bindS hq191
                  obtain ⟨_, h221, h222, h223, h224, _⟩ := cutl_some hx220
                  have h225 := (hS.vecCap 3 rfl).1
                  have h226 : Ev 1 (RI .i64) s (cs216.take ((((y0.length : Nat) : Int)).toNat * 1)) x219 := by rw [h223]; exact h217.take _
                  have hn227 : x219.length = (((y0.length : Nat) : Int)).toNat := by rw [h223]; simp; omega
                  replace hS := hS.vecTake 3 rfl (by omega)
                  refine WL.vS hS hE (runs_plain rfl) (Gives.slH hE sl23 rfl rfl h221 (Int.le_trans h222 (by omega)) (sliced_zero _ _ _ _)) rfl ?_; clear hE a; intro a hE
                  refine WL.storeI hE hS 0 rfl [.slice a213 ((((y0.length : Nat) : Int)).toNat) c214] (runs_plain rfl) rfl rfl rfl ty23 rfl rfl rfl rfl ?_; clear hE hS a w; intro a w hE hS
                  refine WL.nil ?_
                  replace hS := hS.front 3 rfl
                  replace hS := hS.front 3 rfl
                  replace hS := hS.front 3 rfl
                  replace hS := hS.front 3 rfl
                  replace hS := hS.front 5 rfl
                  replace hS := hS.front 5 rfl
                  subst hK202
                  exact ⟨x219, a213, c214, (((y0.length : Nat) : Int)).toNat, (cs216.take ((((y0.length : Nat) : Int)).toNat * 1)), Option.some.inj hq191, h226, hn227, hE.pick _ ⟨rfl, rfl, rfl, rfl, rfl, rfl, rfl, trivial⟩, hS⟩
              · replace hq191 := iteF hc203 hq191
                refine W.skip ?_
                subst hK202
                exact ⟨q92, a93, c94, q92.length, cs97, Option.some.inj hq191, h95, rfl, hE.pick _ ⟨rfl, rfl, rfl, rfl, rfl, rfl, rfl, trivial⟩, hS⟩
            · clear hE hS a w; rintro a w ⟨q195, a196, c197, n199, cs200, rfl, h198, rfl, hE, hS⟩
              dsimp only at hq80
              refine W.region ?_
              refine WL.vS hS hE (runs_plain rfl) (Gives.inc hE rfl (by omega)) rfl ?_; clear hE a; intro a hE
              refine WL.vS hS hE (runs_plain rfl) (Gives.p hE rfl) rfl ?_; clear hE a; intro a hE
              refine WL.nil ?_
              subst hK99
              exact ⟨rest84, Nat.lt_succ_self _, rest84, k82 + 1, q195, a196, c197, q195.length, cs200, rfl, (by omega), hq80, h198, rfl, hE.pick _ ⟨rfl, rfl, rfl, rfl, rfl, rfl, rfl, trivial⟩, hS⟩
      · clear hE hS a w; rintro a w ⟨q92, a93, c94, n96, cs97, rfl, h95, rfl, hE, hS⟩
        dsimp only at hr
        refine W.seq ?_
        refine W.region ?_
        refine WL.vS hS hE (runs_plain rfl) (Gives.p hE rfl) rfl ?_; clear hE a; intro a hE
        refine WL.nil ?_
        refine W.ret ?_
        refine finG (fn := Tryd.f14) (rs := [.tmp 3]) (vs := [_]) hE rfl ⟨rfl, trivial⟩ ?_
        obtain rfl := Option.some.inj hr
        replace hS := hS.tail
        replace hS := hS.tail
        exact ⟨a93, c94, q92.length, cs97, rfl, h95, rfl, hS⟩
set_option maxHeartbeats 8000000 in
theorem Fishref2AssignStays_ok {fu : Nat}  {w : World} {s : Sg} {R : List HP} {x0 : List PlanStay} {a0 : Option Addr} {c0 : Nat} (hS : St w s (R)) (h0 : Sl 3 RPlanStay s a0 c0 x0) {r : (List Int) × Int} (hr : Fishref2AssignStays fu x0 = some r) :
    Calls Tryd.prog 5 [.slice a0 x0.length c0].toArray w (fun e w => ∃ (a0 : Option Addr) (c0 n0 : Nat) (cs0 : List Value), e = .returned (.tuple #[.slice a0 n0 c0, .int .i64 r.2]) ∧ Ev 1 (RI .i64) s cs0 r.1 ∧ r.1.length = n0 ∧ St w s (vecC 3 1 a0 c0 n0 cs0 :: R)) := by
  refine enter Tryd.func5 rfl rfl rfl fun a hE => ?_
  rw [Fishref2AssignStays] at hr
  refine W.seq ?_
  refine W.region ?_
  refine WL.box hE hS (runs_plain rfl) rfl rfl rfl ?_; clear hE hS a w; intro b51 a w hE hS
  refine WL.vS hS hE (runs_plain rfl) (Gives.p hE rfl) rfl ?_; clear hE a; intro a hE
  refine WL.vS hS hE (runs_plain rfl) (Gives.p hE rfl) rfl ?_; clear hE a; intro a hE
  refine WL.nil ?_
  refine W.seq ?_
  refine W.seq ?_
  refine W.region ?_
  refine WL.vS hS hE (runs_plain rfl) (Gives.loadB hE 0 rfl rfl rfl ty22) rfl ?_; clear hE a; intro a hE
  refine WL.vS hS hE (runs_plain rfl) (Gives.len hE rfl sl22) rfl ?_; clear hE a; intro a hE
  refine WL.vS hS hE (runs_plain rfl) (Gives.p hE rfl) rfl ?_; clear hE a; intro a hE
  refine WL.nil ?_
  refine W.cond hE rfl (fun hc52 => ?_) (fun hc52 => ?_)
  · replace hr := iteT hc52 hr
    refine W.seq ?_
    refine W.region ?_
    refine WL.vS hS hE (runs_plain rfl) (Gives.p hE rfl) rfl ?_; clear hE a; intro a hE
    refine WL.vS hS hE (runs_plain rfl) (Gives.p hE rfl) rfl ?_; clear hE a; intro a hE
    refine WL.nil ?_
    refine W.ret ?_
    replace hS := hS.vecNil 3 1
    refine finG (fn := Tryd.f5) (rs := [.tmp 2, .tmp 3]) (vs := [_, _]) hE rfl ⟨rfl, rfl, trivial⟩ ?_
    obtain rfl := Option.some.inj hr
    replace hS := hS.dropAt 1
    exact ⟨none, 0, 0, [], rfl, (Ev.nil), (rfl), hS⟩
  · replace hr := iteF hc52 hr
    refine W.skip ?_
    refine W.seq ?_
    refine W.seq ?_
    refine W.region ?_
    refine WL.vS hS hE (runs_plain rfl) (Gives.loadB hE 0 rfl rfl rfl ty22) rfl ?_; clear hE a; intro a hE
    refine WL.vS hS hE (runs_plain rfl) (Gives.len hE rfl sl22) rfl ?_; clear hE a; intro a hE
    refine WL.vS hS hE (runs_plain rfl) (Gives.p hE rfl) rfl ?_; clear hE a; intro a hE
    refine WL.nil ?_
    obtain ⟨q55, hq54, hr⟩ := bndS hr
    refine W.cut (fun a w => (.next ()) = q55 ∧ Rep a 45 [(1, .pointer (some ⟨b51, 0, none⟩))] ∧ St w s (pt b51 (.cells #[.slice a0 x0.length c0] 22 (0, 0)) :: R)) ?_ ?_
    · refine W.block ?_
      refine W.loop (fun m a w => ∃ (rest58 : List PlanStay) (k56 : Nat), rest58.length = m ∧ x0.drop k56 = rest58 ∧ Fishref2AssignStays.loop1 rest58 = q55 ∧ Rep a 45 [(1, .pointer (some ⟨b51, 0, none⟩)), (11, .slice a0 x0.length c0), (12, .int .i64 ((x0).length : Int)), (13, .int .i64 ((k56 : Nat) : Int))] ∧ St w s (pt b51 (.cells #[.slice a0 x0.length c0] 22 (0, 0)) :: R)) (m := x0.length) ⟨x0, 0, rfl, rfl, hq54, hE.pick _ ⟨rfl, rfl, rfl, rfl, trivial⟩, hS⟩ ?_
      clear hE hS a w hq54; rintro m62 a w ⟨rest58, k56, rfl, hd59, hq54, hE, hS⟩
      refine W.gen fun K65 hK65 => ?_
      rcases rest58 with _ | ⟨x57, rest58⟩
      · have hlt60 := drop_nil hd59
        refine W.seq ?_
        refine W.region ?_
        refine WL.vS hS hE (runs_plain rfl) (Gives.p hE rfl) rfl ?_; clear hE a; intro a hE
        refine WL.nil ?_
        refine W.seq ?_
        refine W.condF hE rfl (decide_eq_false (by omega)) ?_
        subst hK65
        refine W.exit rfl ?_
        exact ⟨hq54, hE.pick _ ⟨rfl, trivial⟩, hS⟩
      · obtain ⟨hlt60, hx61, hd59⟩ := drop_cons hd59
        rw [Fishref2AssignStays.loop1] at hq54
        refine W.seq ?_
        refine W.region ?_
        refine WL.vS hS hE (runs_plain rfl) (Gives.p hE rfl) rfl ?_; clear hE a; intro a hE
        refine WL.nil ?_
        refine W.seq ?_
        refine W.condT hE rfl (decide_eq_true (by omega)) ?_
        refine W.skip ?_
        refine W.seq ?_
        refine W.block ?_
        refine W.seq ?_
        refine W.region ?_
        obtain ⟨cs66, hl67, hR68, hat69⟩ := h0.at hx61
        obtain ⟨a70, c71, rfl, h72⟩ := hR68
        refine WL.vS hS hE (runs_plain rfl) (Gives.idx hE k56 rfl rfl sl22 rfl hlt60 (h0.aok hlt60)) rfl ?_; clear hE a; intro a hE
        refine WL.vS hS hE (runs_plain rfl) (Gives.loadA hE rfl (fun w h => hat69 w _ h) ty31) rfl ?_; clear hE a; intro a hE
        refine WL.alloc hE hS (runs_plain rfl) zr31 rfl ?_; clear hE hS a w; intro b73 a w hE hS
        refine WL.storeI hE hS 0 rfl [.int .i64 x57.From, .int .i64 x57.To, .slice a70 x57.May.length c71] (runs_plain rfl) rfl rfl rfl ty31 rfl rfl rfl rfl ?_; clear hE hS a w; intro a w hE hS
        refine WL.nil ?_
        refine W.block ?_
        refine W.seq ?_
        obtain ⟨q75, hq74, hq54⟩ := bndS hq54
        refine W.cut (fun a w => ∃ (q78 : Bool), q78 = q75 ∧ Rep a 45 [(1, .pointer (some ⟨b51, 0, none⟩)), (5, .pointer (some ⟨b73, 0, none⟩)), (11, .slice a0 x0.length c0), (12, .int .i64 ((x0).length : Int)), (13, .int .i64 ((k56 : Nat) : Int)), (17, .bool q78)] ∧ St w s (pt b73 (.cells #[.int .i64 x57.From, .int .i64 x57.To, .slice a70 x57.May.length c71] 31 (0, 0)) :: pt b51 (.cells #[.slice a0 x0.length c0] 22 (0, 0)) :: R)) ?_ ?_
        · refine W.gen fun K79 hK79 => ?_
          refine W.region ?_
          refine WL.vS hS hE (runs_plain rfl) (Gives.fld hE rfl fl31_0) rfl ?_; clear hE a; intro a hE
          refine WL.vS hS hE (runs_plain rfl) (Gives.loadB hE 0 rfl rfl rfl ty3) rfl ?_; clear hE a; intro a hE
          refine WL.fnq hE (Fishref2within_ok hS  rfl (r := Fishref2within x57.From 0 28800)) (runs_plain rfl) bd13 rfl rfl rfl ?_
          clear hE hS; rintro e w ⟨rfl, hS⟩; refine ⟨_, rfl, ?_⟩; clear a; intro a hE
          refine WL.vS hS hE (runs_plain rfl) (Gives.p hE rfl) rfl ?_; clear hE a; intro a hE
          refine WL.vS hS hE (runs_plain rfl) (Gives.p hE rfl) rfl ?_; clear hE a; intro a hE
          rcases Bool.eq_false_or_eq_true (!(Fishref2within x57.From 0 28800)) with hg80 | hg80
          · replace hq74 := iteT hg80 hq74
            refine WL.no hE (runs_not hE rfl rfl rfl (by rw [hg80]; decide)) rfl ?_; clear hE a; intro a hE
            refine WL.no hE (runs_not hE rfl rfl rfl (by rw [hg80]; decide)) rfl ?_; clear hE a; intro a hE
            refine WL.no hE (runs_not hE rfl rfl rfl (by rw [hg80]; decide)) rfl ?_; clear hE a; intro a hE
            refine WL.no hE (runs_not hE rfl rfl rfl (by rw [hg80]; decide)) rfl ?_; clear hE a; intro a hE
            refine WL.vS hS hE (runs_plain rfl) (Gives.pickT hE rfl hg80 rfl) rfl ?_; clear hE a; intro a hE
            refine WL.vS hS hE (runs_plain rfl) (Gives.p hE rfl) rfl ?_; clear hE a; intro a hE
            refine WL.nil ?_
            subst hK79
            exact ⟨true, hq74, hE.pick _ ⟨rfl, rfl, rfl, rfl, rfl, rfl, trivial⟩, hS⟩
          · replace hq74 := iteF hg80 hq74
            refine WL.vS hS hE (runs_if hE rfl rfl rfl hg80) (Gives.fld hE rfl fl31_1) rfl ?_; clear hE a; intro a hE
            refine WL.vS hS hE (runs_if hE rfl rfl rfl hg80) (Gives.loadB hE 0 rfl rfl rfl ty3) rfl ?_; clear hE a; intro a hE
            refine WL.fnq hE (Fishref2within_ok hS  rfl (r := Fishref2within x57.To 0 28800)) (runs_if hE rfl rfl rfl hg80) bd13 rfl rfl rfl ?_
            clear hE hS; rintro e w ⟨rfl, hS⟩; refine ⟨_, rfl, ?_⟩; clear a; intro a hE
            refine WL.vS hS hE (runs_if hE rfl rfl rfl hg80) (Gives.p hE rfl) rfl ?_; clear hE a; intro a hE
            refine WL.vS hS hE (runs_plain rfl) (Gives.pickF hE rfl hg80 rfl) rfl ?_; clear hE a; intro a hE
            refine WL.vS hS hE (runs_plain rfl) (Gives.p hE rfl) rfl ?_; clear hE a; intro a hE
            refine WL.nil ?_
            subst hK79
            exact ⟨!(Fishref2within x57.To 0 28800), hq74, hE.pick _ ⟨rfl, rfl, rfl, rfl, rfl, rfl, trivial⟩, hS⟩
        · clear hE hS a w; rintro a w ⟨q78, rfl, hE, hS⟩
          refine W.cond hE rfl (fun hc81 => ?_) (fun hc81 => ?_)
          · replace hq54 := iteT hc81 hq54
            refine W.seq ?_
            refine W.region ?_
            refine WL.vS hS hE (runs_plain rfl) (Gives.p hE rfl) rfl ?_; clear hE a; intro a hE
            refine WL.vS hS hE (runs_plain rfl) (Gives.p hE rfl) rfl ?_; clear hE a; intro a hE
            refine WL.nil ?_
            refine W.ret ?_
            subst hK65
            rw [← hq54] at hr
            dsimp only at hr
            replace hS := hS.vecNil 3 1
            refine finG (fn := Tryd.f5) (rs := [.tmp 2, .tmp 3]) (vs := [_, _]) hE rfl ⟨rfl, rfl, trivial⟩ ?_
            obtain rfl := Option.some.inj hr
            replace hS := hS.dropAt 1
            replace hS := hS.dropAt 1
            exact ⟨none, 0, 0, [], rfl, (Ev.nil), (rfl), hS⟩
          · replace hq54 := iteF hc81 hq54
            refine W.seq ?_
            refine W.region ?_
            refine WL.vS hS hE (runs_plain rfl) (Gives.fld hE rfl fl31_1) rfl ?_; clear hE a; intro a hE
            refine WL.vS hS hE (runs_plain rfl) (Gives.loadB hE 0 rfl rfl rfl ty3) rfl ?_; clear hE a; intro a hE
            refine WL.vS hS hE (runs_plain rfl) (Gives.fld hE rfl fl31_0) rfl ?_; clear hE a; intro a hE
            refine WL.vS hS hE (runs_plain rfl) (Gives.loadB hE 0 rfl rfl rfl ty3) rfl ?_; clear hE a; intro a hE
            refine WL.vS hS hE (runs_plain rfl) (Gives.p hE rfl) rfl ?_; clear hE a; intro a hE
            refine WL.vS hS hE (runs_plain rfl) (Gives.p hE rfl) rfl ?_; clear hE a; intro a hE
            refine WL.nil ?_
            refine W.cond hE rfl (fun hc83 => ?_) (fun hc83 => ?_)
            · replace hq54 := iteT hc83 hq54
              refine W.seq ?_
              refine W.region ?_
              refine WL.vS hS hE (runs_plain rfl) (Gives.p hE rfl) rfl ?_; clear hE a; intro a hE
              refine WL.vS hS hE (runs_plain rfl) (Gives.p hE rfl) rfl ?_; clear hE a; intro a hE
              refine WL.nil ?_
              refine W.ret ?_
              subst hK65
              rw [← hq54] at hr
              dsimp only at hr
              replace hS := hS.vecNil 3 1
              refine finG (fn := Tryd.f5) (rs := [.tmp 2, .tmp 3]) (vs := [_, _]) hE rfl ⟨rfl, rfl, trivial⟩ ?_
              obtain rfl := Option.some.inj hr
              replace hS := hS.dropAt 1
              replace hS := hS.dropAt 1
              exact ⟨none, 0, 0, [], rfl, (Ev.nil), (rfl), hS⟩
            · replace hq54 := iteF hc83 hq54
              refine W.seq ?_
              refine W.region ?_
              refine WL.vS hS hE (runs_plain rfl) (Gives.fld hE rfl fl31_2) rfl ?_; clear hE a; intro a hE
              refine WL.vS hS hE (runs_plain rfl) (Gives.loadB hE 0 rfl rfl rfl ty23) rfl ?_; clear hE a; intro a hE
              refine WL.vS hS hE (runs_plain rfl) (Gives.len hE rfl sl23) rfl ?_; clear hE a; intro a hE
              refine WL.vS hS hE (runs_plain rfl) (Gives.p hE rfl) rfl ?_; clear hE a; intro a hE
              refine WL.vS hS hE (runs_plain rfl) (Gives.p hE rfl) rfl ?_; clear hE a; intro a hE
              refine WL.nil ?_
              refine W.cond hE rfl (fun hc85 => ?_) (fun hc85 => ?_)
              · replace hq54 := iteT hc85 hq54
                refine W.seq ?_
                refine W.region ?_
                refine WL.vS hS hE (runs_plain rfl) (Gives.p hE rfl) rfl ?_; clear hE a; intro a hE
                refine WL.vS hS hE (runs_plain rfl) (Gives.p hE rfl) rfl ?_; clear hE a; intro a hE
                refine WL.nil ?_
                refine W.ret ?_
                subst hK65
                rw [← hq54] at hr
                dsimp only at hr
                replace hS := hS.vecNil 3 1
                refine finG (fn := Tryd.f5) (rs := [.tmp 2, .tmp 3]) (vs := [_, _]) hE rfl ⟨rfl, rfl, trivial⟩ ?_
                obtain rfl := Option.some.inj hr
                replace hS := hS.dropAt 1
                replace hS := hS.dropAt 1
                exact ⟨none, 0, 0, [], rfl, (Ev.nil), (rfl), hS⟩
              · replace hq54 := iteF hc85 hq54
                refine W.skip ?_
                refine W.region ?_
                refine WL.vS hS hE (runs_plain rfl) (Gives.inc hE rfl (by have := h0.small; omega)) rfl ?_; clear hE a; intro a hE
                refine WL.vS hS hE (runs_plain rfl) (Gives.p hE rfl) rfl ?_; clear hE a; intro a hE
                refine WL.nil ?_
                replace hS := hS.tail
                subst hK65
                exact ⟨rest58.length, Nat.lt_succ_self _, rest58, k56 + 1, rfl, hd59, hq54, hE.pick _ ⟨rfl, rfl, rfl, rfl, trivial⟩, hS⟩
    · clear hE hS a w; rintro a w ⟨rfl, hE, hS⟩
      dsimp only at hr
      refine W.seq ?_
      refine W.region ?_
      refine WL.alloc hE hS (runs_plain rfl) zr23 rfl ?_; clear hE hS a w; intro b87 a w hE hS
      refine WL.nil ?_
      refine W.seq ?_
      refine W.region ?_
      refine WL.alloc hE hS (runs_plain rfl) zr27 rfl ?_; clear hE hS a w; intro b88 a w hE hS
      refine WL.nil ?_
      refine W.seq ?_
      refine W.region ?_
      replace hS := hS.vecNil 3 1
      refine WL.vS hS hE (runs_plain rfl) (Gives.mkfn hE (vs := [.pointer (some ⟨b87, 0, none⟩), .pointer (some ⟨b51, 0, none⟩), .pointer (some ⟨b88, 0, none⟩)]) rfl) rfl ?_; clear hE a; intro a hE
      refine WL.storeI hE hS 1 rfl [.func (.func 14) #[] #[.pointer (some ⟨b87, 0, none⟩), .pointer (some ⟨b51, 0, none⟩), .pointer (some ⟨b88, 0, none⟩)]] (runs_plain rfl) rfl rfl rfl ty27 rfl rfl rfl rfl ?_; clear hE hS a w; intro a w hE hS
      refine WL.nil ?_
      refine W.seq ?_
      refine W.seq ?_
      refine W.region ?_
      refine WL.vS hS hE (runs_plain rfl) (Gives.loadB hE 1 rfl rfl rfl ty27) rfl ?_; clear hE a; intro a hE
      obtain ⟨q90, hq91, hr⟩ := bindS hr
      replace hS := hS.front 0 rfl
      replace hS := hS.front 1 rfl
      replace hS := hS.front 3 rfl
      replace hS := hS.front 3 rfl
      have hc_ := Fishref2AssignStays_1_v1_ok hS (Ev.nil) (rfl) h0 hq91
      refine WL.fnw hE (hc_) rfl (runs_plain rfl) bd14 rfl rfl rfl ?_
      clear hE hS hc_; rintro e w ⟨a92, c93, n94, cs95, rfl, h96, rfl, hS⟩; refine ⟨_, rfl, ?_⟩; clear a; intro a hE
      refine WL.vS hS hE (runs_plain rfl) (Gives.p hE rfl) rfl ?_; clear hE a; intro a hE
      refine WL.nil ?_
      refine W.cond hE rfl (fun hc97 => ?_) (fun hc97 => ?_)
      · replace hr := iteT hc97 hr
        refine W.seq ?_
        refine W.region ?_
        refine WL.vS hS hE (runs_plain rfl) (Gives.p hE rfl) rfl ?_; clear hE a; intro a hE
        refine WL.vS hS hE (runs_plain rfl) (Gives.p hE rfl) rfl ?_; clear hE a; intro a hE
        refine WL.nil ?_
        refine W.ret ?_
        replace hS := hS.vecNil 3 1
        refine finG (fn := Tryd.f5) (rs := [.tmp 2, .tmp 3]) (vs := [_, _]) hE rfl ⟨rfl, rfl, trivial⟩ ?_
        obtain rfl := Option.some.inj hr
        replace hS := hS.dropAt 1
        replace hS := hS.dropAt 1
        replace hS := hS.dropAt 1
        replace hS := hS.dropAt 1
        exact ⟨none, 0, 0, [], rfl, (Ev.nil), (rfl), hS⟩
      · replace hr := iteF hc97 hr
        refine W.skip ?_
        refine W.seq ?_
        refine W.region ?_
        refine WL.vS hS hE (runs_plain rfl) (Gives.loadB hE 0 rfl rfl rfl ty23) rfl ?_; clear hE a; intro a hE
        refine WL.vS hS hE (runs_plain rfl) (Gives.p hE rfl) rfl ?_; clear hE a; intro a hE
        refine WL.vS hS hE (runs_plain rfl) (Gives.p hE rfl) rfl ?_; clear hE a; intro a hE
        refine WL.nil ?_
        refine W.ret ?_
        refine finG (fn := Tryd.f5) (rs := [.tmp 2, .tmp 3]) (vs := [_, _]) hE rfl ⟨rfl, rfl, trivial⟩ ?_
        obtain rfl := Option.some.inj hr
        replace hS := hS.tail
        replace hS := hS.tail
        replace hS := hS.tail
        exact ⟨a92, c93, q90.2.length, cs95, rfl, h96, rfl, hS⟩
set_option maxHeartbeats 8000000 in
theorem Planform_ok  {w : World} {s : Sg} {R : List HP} {x0 : ApiDay} {a0_0 : Option Addr} {c0_0 : Nat} {a0_1 : Option Addr} {c0_1 : Nat} (hS : St w s (R)) (h0_0 : Sl 4 RApiTrain s a0_0 c0_0 x0.Trains) (h0_1 : Sl 1 (RL 1 (RI .i64)) s a0_1 c0_1 x0.Turns) {r : Int} (hr : Planform x0 = r) :
    Calls Tryd.prog 19 [.agg [.slice a0_0 x0.Trains.length c0_0, .slice a0_1 x0.Turns.length c0_1].toArray].toArray w (fun e w => e = .returned (.int .i64 r) ∧ St w s (R)) := by
  refine enter Tryd.func19 rfl rfl rfl fun a hE => ?_
  rw [Planform] at hr
  refine W.seq ?_
  refine W.region ?_
  refine WL.box hE hS (runs_plain rfl) rfl rfl rfl ?_; clear hE hS a w; intro b51 a w hE hS
  refine WL.vS hS hE (runs_plain rfl) (Gives.p hE rfl) rfl ?_; clear hE a; intro a hE
  refine WL.nil ?_
  refine W.seq ?_
  refine W.seq ?_
  obtain ⟨q53, hq52, hr⟩ := bndS hr
  refine W.cut (fun a w => ∃ (q56 : Bool), q56 = q53 ∧ Rep a 85 [(1, .pointer (some ⟨b51, 0, none⟩)), (20, .bool q56)] ∧ St w s (pt b51 (.cells #[.slice a0_0 x0.Trains.length c0_0, .slice a0_1 x0.Turns.length c0_1] 49 (0, 0)) :: R)) ?_ ?_
  · refine W.gen fun K57 hK57 => ?_
    refine W.region ?_
    refine WL.vS hS hE (runs_plain rfl) (Gives.fld hE rfl fl49_0) rfl ?_; clear hE a; intro a hE
    refine WL.vS hS hE (runs_plain rfl) (Gives.loadB hE 0 rfl rfl rfl ty47) rfl ?_; clear hE a; intro a hE
    refine WL.vS hS hE (runs_plain rfl) (Gives.len hE rfl sl47) rfl ?_; clear hE a; intro a hE
    refine WL.vS hS hE (runs_plain rfl) (Gives.p hE rfl) rfl ?_; clear hE a; intro a hE
    refine WL.vS hS hE (runs_plain rfl) (Gives.p hE rfl) rfl ?_; clear hE a; intro a hE
    rcases Bool.eq_false_or_eq_true (decide (((x0.Trains).length : Int) > 12)) with hg58 | hg58
    · replace hq52 := iteT hg58 hq52
      refine WL.no hE (runs_not hE rfl rfl rfl (by rw [hg58]; decide)) rfl ?_; clear hE a; intro a hE
      refine WL.no hE (runs_not hE rfl rfl rfl (by rw [hg58]; decide)) rfl ?_; clear hE a; intro a hE
      refine WL.no hE (runs_not hE rfl rfl rfl (by rw [hg58]; decide)) rfl ?_; clear hE a; intro a hE
      refine WL.no hE (runs_not hE rfl rfl rfl (by rw [hg58]; decide)) rfl ?_; clear hE a; intro a hE
      refine WL.vS hS hE (runs_plain rfl) (Gives.pickT hE rfl hg58 rfl) rfl ?_; clear hE a; intro a hE
      refine WL.nil ?_
      subst hK57
      exact ⟨true, hq52, hE.pick _ ⟨rfl, rfl, trivial⟩, hS⟩
    · replace hq52 := iteF hg58 hq52
      refine WL.vS hS hE (runs_if hE rfl rfl rfl hg58) (Gives.fld hE rfl fl49_1) rfl ?_; clear hE a; intro a hE
      refine WL.vS hS hE (runs_if hE rfl rfl rfl hg58) (Gives.loadB hE 0 rfl rfl rfl ty44) rfl ?_; clear hE a; intro a hE
      refine WL.vS hS hE (runs_if hE rfl rfl rfl hg58) (Gives.len hE rfl sl44) rfl ?_; clear hE a; intro a hE
      refine WL.vS hS hE (runs_if hE rfl rfl rfl hg58) (Gives.p hE rfl) rfl ?_; clear hE a; intro a hE
      refine WL.vS hS hE (runs_plain rfl) (Gives.pickF hE rfl hg58 rfl) rfl ?_; clear hE a; intro a hE
      refine WL.nil ?_
      subst hK57
      exact ⟨decide (((x0.Turns).length : Int) > 8), hq52, hE.pick _ ⟨rfl, rfl, trivial⟩, hS⟩
  · clear hE hS a w; rintro a w ⟨q56, rfl, hE, hS⟩
    refine W.cond hE rfl (fun hc59 => ?_) (fun hc59 => ?_)
    · replace hr := iteT hc59 hr
      refine W.seq ?_
      refine W.region ?_
      refine WL.vS hS hE (runs_plain rfl) (Gives.p hE rfl) rfl ?_; clear hE a; intro a hE
      refine WL.nil ?_
      refine W.ret ?_
      refine finG (fn := Tryd.f19) (rs := [.tmp 2]) (vs := [_]) hE rfl ⟨rfl, trivial⟩ ?_
      subst hr
      replace hS := hS.tail
      exact ⟨rfl, hS⟩
    · replace hr := iteF hc59 hr
      refine W.skip ?_
      refine W.seq ?_
      refine W.seq ?_
      refine W.region ?_
      refine WL.vS hS hE (runs_plain rfl) (Gives.fld hE rfl fl49_0) rfl ?_; clear hE a; intro a hE
      refine WL.vS hS hE (runs_plain rfl) (Gives.loadB hE 0 rfl rfl rfl ty47) rfl ?_; clear hE a; intro a hE
      refine WL.vS hS hE (runs_plain rfl) (Gives.len hE rfl sl47) rfl ?_; clear hE a; intro a hE
      refine WL.vS hS hE (runs_plain rfl) (Gives.p hE rfl) rfl ?_; clear hE a; intro a hE
      refine WL.nil ?_
      obtain ⟨q61, hq60, hr⟩ := bndS hr
      refine W.cut (fun a w => (.next ()) = q61 ∧ Rep a 85 [(1, .pointer (some ⟨b51, 0, none⟩))] ∧ St w s (pt b51 (.cells #[.slice a0_0 x0.Trains.length c0_0, .slice a0_1 x0.Turns.length c0_1] 49 (0, 0)) :: R)) ?_ ?_
      · refine W.block ?_
        refine W.loop (fun m a w => ∃ (rest64 : List ApiTrain) (k62 : Nat), rest64.length = m ∧ x0.Trains.drop k62 = rest64 ∧ Planform.loop1 rest64 = q61 ∧ Rep a 85 [(1, .pointer (some ⟨b51, 0, none⟩)), (22, .slice a0_0 x0.Trains.length c0_0), (23, .int .i64 ((x0.Trains).length : Int)), (24, .int .i64 ((k62 : Nat) : Int))] ∧ St w s (pt b51 (.cells #[.slice a0_0 x0.Trains.length c0_0, .slice a0_1 x0.Turns.length c0_1] 49 (0, 0)) :: R)) (m := x0.Trains.length) ⟨x0.Trains, 0, rfl, rfl, hq60, hE.pick _ ⟨rfl, rfl, rfl, rfl, trivial⟩, hS⟩ ?_
        clear hE hS a w hq60; rintro m68 a w ⟨rest64, k62, rfl, hd65, hq60, hE, hS⟩
        refine W.gen fun K71 hK71 => ?_
        rcases rest64 with _ | ⟨x63, rest64⟩
        · have hlt66 := drop_nil hd65
          refine W.seq ?_
          refine W.region ?_
          refine WL.vS hS hE (runs_plain rfl) (Gives.p hE rfl) rfl ?_; clear hE a; intro a hE
          refine WL.nil ?_
          refine W.seq ?_
          refine W.condF hE rfl (decide_eq_false (by omega)) ?_
          subst hK71
          refine W.exit rfl ?_
          exact ⟨hq60, hE.pick _ ⟨rfl, trivial⟩, hS⟩
        · obtain ⟨hlt66, hx67, hd65⟩ := drop_cons hd65
          rw [Planform.loop1] at hq60
          refine W.seq ?_
          refine W.region ?_
          refine WL.vS hS hE (runs_plain rfl) (Gives.p hE rfl) rfl ?_; clear hE a; intro a hE
          refine WL.nil ?_
          refine W.seq ?_
          refine W.condT hE rfl (decide_eq_true (by omega)) ?_
          refine W.skip ?_
          refine W.seq ?_
          refine W.block ?_
          refine W.seq ?_
          refine W.region ?_
          obtain ⟨cs72, hl73, hR74, hat75⟩ := h0_0.at hx67
          obtain ⟨a76, c77, a79, c80, rfl, h78, h81⟩ := hR74
          refine WL.vS hS hE (runs_plain rfl) (Gives.idx hE k62 rfl rfl sl47 rfl hlt66 (h0_0.aok hlt66)) rfl ?_; clear hE a; intro a hE
          refine WL.vS hS hE (runs_plain rfl) (Gives.loadA hE rfl (fun w h => hat75 w _ h) ty46) rfl ?_; clear hE a; intro a hE
          refine WL.alloc hE hS (runs_plain rfl) zr46 rfl ?_; clear hE hS a w; intro b82 a w hE hS
          refine WL.storeI hE hS 0 rfl [.int .i64 x63.No, .int .i64 x63.Stock, .slice a76 x63.Stops.length c77, .slice a79 x63.Legs.length c80] (runs_plain rfl) rfl rfl rfl ty46 rfl rfl rfl rfl ?_; clear hE hS a w; intro a w hE hS
          refine WL.nil ?_
          refine W.seq ?_
          refine W.seq ?_
          obtain ⟨q84, hq83, hq60⟩ := bndS hq60
          refine W.cut (fun a w => ∃ (q87 : Bool), q87 = q84 ∧ Rep a 85 [(1, .pointer (some ⟨b51, 0, none⟩)), (4, .pointer (some ⟨b82, 0, none⟩)), (22, .slice a0_0 x0.Trains.length c0_0), (23, .int .i64 ((x0.Trains).length : Int)), (24, .int .i64 ((k62 : Nat) : Int)), (41, .bool q87)] ∧ St w s (pt b82 (.cells #[.int .i64 x63.No, .int .i64 x63.Stock, .slice a76 x63.Stops.length c77, .slice a79 x63.Legs.length c80] 46 (0, 0)) :: pt b51 (.cells #[.slice a0_0 x0.Trains.length c0_0, .slice a0_1 x0.Turns.length c0_1] 49 (0, 0)) :: R)) ?_ ?_
          · refine W.gen fun K88 hK88 => ?_
            refine W.region ?_
            refine WL.vS hS hE (runs_plain rfl) (Gives.fld hE rfl fl46_2) rfl ?_; clear hE a; intro a hE
            refine WL.vS hS hE (runs_plain rfl) (Gives.loadB hE 0 rfl rfl rfl ty43) rfl ?_; clear hE a; intro a hE
            refine WL.vS hS hE (runs_plain rfl) (Gives.len hE rfl sl43) rfl ?_; clear hE a; intro a hE
            refine WL.vS hS hE (runs_plain rfl) (Gives.p hE rfl) rfl ?_; clear hE a; intro a hE
            refine WL.vS hS hE (runs_plain rfl) (Gives.p hE rfl) rfl ?_; clear hE a; intro a hE
            rcases Bool.eq_false_or_eq_true (((x63.Stops).length : Int) == 0) with hg89 | hg89
            · replace hq83 := iteT hg89 hq83
              refine WL.no hE (runs_not hE rfl rfl rfl (by rw [hg89]; decide)) rfl ?_; clear hE a; intro a hE
              refine WL.no hE (runs_not hE rfl rfl rfl (by rw [hg89]; decide)) rfl ?_; clear hE a; intro a hE
              refine WL.no hE (runs_not hE rfl rfl rfl (by rw [hg89]; decide)) rfl ?_; clear hE a; intro a hE
              refine WL.no hE (runs_not hE rfl rfl rfl (by rw [hg89]; decide)) rfl ?_; clear hE a; intro a hE
              refine WL.no hE (runs_not hE rfl rfl rfl (by rw [hg89]; decide)) rfl ?_; clear hE a; intro a hE
              refine WL.no hE (runs_not hE rfl rfl rfl (by rw [hg89]; decide)) rfl ?_; clear hE a; intro a hE
              refine WL.no hE (runs_not hE rfl rfl rfl (by rw [hg89]; decide)) rfl ?_; clear hE a; intro a hE
              refine WL.no hE (runs_not hE rfl rfl rfl (by rw [hg89]; decide)) rfl ?_; clear hE a; intro a hE
              refine WL.vS hS hE (runs_plain rfl) (Gives.pickT hE rfl hg89 rfl) rfl ?_; clear hE a; intro a hE
              refine WL.nil ?_
              subst hK88
              exact ⟨true, hq83, hE.pick _ ⟨rfl, rfl, rfl, rfl, rfl, rfl, trivial⟩, hS⟩
            · replace hq83 := iteF hg89 hq83
              refine WL.vS hS hE (runs_if hE rfl rfl rfl hg89) (Gives.fld hE rfl fl46_3) rfl ?_; clear hE a; intro a hE
              refine WL.vS hS hE (runs_if hE rfl rfl rfl hg89) (Gives.loadB hE 0 rfl rfl rfl ty44) rfl ?_; clear hE a; intro a hE
              refine WL.vS hS hE (runs_if hE rfl rfl rfl hg89) (Gives.len hE rfl sl44) rfl ?_; clear hE a; intro a hE
              refine WL.vS hS hE (runs_if hE rfl rfl rfl hg89) (Gives.fld hE rfl fl46_2) rfl ?_; clear hE a; intro a hE
              refine WL.vS hS hE (runs_if hE rfl rfl rfl hg89) (Gives.loadB hE 0 rfl rfl rfl ty43) rfl ?_; clear hE a; intro a hE
              refine WL.vS hS hE (runs_if hE rfl rfl rfl hg89) (Gives.len hE rfl sl43) rfl ?_; clear hE a; intro a hE
              refine WL.vS hS hE (runs_if hE rfl rfl rfl hg89) (Gives.p hE rfl) rfl ?_; clear hE a; intro a hE
              refine WL.vS hS hE (runs_if hE rfl rfl rfl hg89) (Gives.p hE rfl) rfl ?_; clear hE a; intro a hE
              refine WL.vS hS hE (runs_plain rfl) (Gives.pickF hE rfl hg89 rfl) rfl ?_; clear hE a; intro a hE
              refine WL.nil ?_
              subst hK88
              exact ⟨(((x63.Legs).length : Int) != (w64 (((x63.Stops).length : Int) - 1))), hq83, hE.pick _ ⟨rfl, rfl, rfl, rfl, rfl, rfl, trivial⟩, hS⟩
          · clear hE hS a w; rintro a w ⟨q87, rfl, hE, hS⟩
            refine W.cond hE rfl (fun hc90 => ?_) (fun hc90 => ?_)
            · replace hq60 := iteT hc90 hq60
              refine W.seq ?_
              refine W.region ?_
              refine WL.vS hS hE (runs_plain rfl) (Gives.p hE rfl) rfl ?_; clear hE a; intro a hE
              refine WL.nil ?_
              refine W.ret ?_
              subst hK71
              rw [← hq60] at hr
              dsimp only at hr
              refine finG (fn := Tryd.f19) (rs := [.tmp 2]) (vs := [_]) hE rfl ⟨rfl, trivial⟩ ?_
              subst hr
              replace hS := hS.tail
              replace hS := hS.tail
              exact ⟨rfl, hS⟩
            · replace hq60 := iteF hc90 hq60
              refine W.skip ?_
              refine W.seq ?_
              refine W.seq ?_
              refine W.region ?_
              refine WL.vS hS hE (runs_plain rfl) (Gives.fld hE rfl fl46_3) rfl ?_; clear hE a; intro a hE
              refine WL.vS hS hE (runs_plain rfl) (Gives.loadB hE 0 rfl rfl rfl ty44) rfl ?_; clear hE a; intro a hE
              refine WL.vS hS hE (runs_plain rfl) (Gives.len hE rfl sl44) rfl ?_; clear hE a; intro a hE
              refine WL.vS hS hE (runs_plain rfl) (Gives.p hE rfl) rfl ?_; clear hE a; intro a hE
              refine WL.nil ?_
              obtain ⟨q92, hq91, hq60⟩ := bndS hq60
              refine W.cut (fun a w => (.next ()) = q92 ∧ Rep a 85 [(1, .pointer (some ⟨b51, 0, none⟩)), (4, .pointer (some ⟨b82, 0, none⟩)), (22, .slice a0_0 x0.Trains.length c0_0), (23, .int .i64 ((x0.Trains).length : Int)), (24, .int .i64 ((k62 : Nat) : Int))] ∧ St w s (pt b82 (.cells #[.int .i64 x63.No, .int .i64 x63.Stock, .slice a76 x63.Stops.length c77, .slice a79 x63.Legs.length c80] 46 (0, 0)) :: pt b51 (.cells #[.slice a0_0 x0.Trains.length c0_0, .slice a0_1 x0.Turns.length c0_1] 49 (0, 0)) :: R)) ?_ ?_
              · refine W.block ?_
                refine W.loop (fun m a w => ∃ (rest95 : List (List Int)) (k93 : Nat), rest95.length = m ∧ x63.Legs.drop k93 = rest95 ∧ Planform.loop2 rest95 = q92 ∧ Rep a 85 [(1, .pointer (some ⟨b51, 0, none⟩)), (4, .pointer (some ⟨b82, 0, none⟩)), (22, .slice a0_0 x0.Trains.length c0_0), (23, .int .i64 ((x0.Trains).length : Int)), (24, .int .i64 ((k62 : Nat) : Int)), (43, .slice a79 x63.Legs.length c80), (44, .int .i64 ((x63.Legs).length : Int)), (45, .int .i64 ((k93 : Nat) : Int))] ∧ St w s (pt b82 (.cells #[.int .i64 x63.No, .int .i64 x63.Stock, .slice a76 x63.Stops.length c77, .slice a79 x63.Legs.length c80] 46 (0, 0)) :: pt b51 (.cells #[.slice a0_0 x0.Trains.length c0_0, .slice a0_1 x0.Turns.length c0_1] 49 (0, 0)) :: R)) (m := x63.Legs.length) ⟨x63.Legs, 0, rfl, rfl, hq91, hE.pick _ ⟨rfl, rfl, rfl, rfl, rfl, rfl, rfl, rfl, trivial⟩, hS⟩ ?_
                clear hE hS a w hq91; rintro m99 a w ⟨rest95, k93, rfl, hd96, hq91, hE, hS⟩
                refine W.gen fun K102 hK102 => ?_
                rcases rest95 with _ | ⟨x94, rest95⟩
                · have hlt97 := drop_nil hd96
                  refine W.seq ?_
                  refine W.region ?_
                  refine WL.vS hS hE (runs_plain rfl) (Gives.p hE rfl) rfl ?_; clear hE a; intro a hE
                  refine WL.nil ?_
                  refine W.seq ?_
                  refine W.condF hE rfl (decide_eq_false (by omega)) ?_
                  subst hK102
                  refine W.exit rfl ?_
                  exact ⟨hq91, hE.pick _ ⟨rfl, rfl, rfl, rfl, rfl, trivial⟩, hS⟩
                · obtain ⟨hlt97, hx98, hd96⟩ := drop_cons hd96
                  rw [Planform.loop2] at hq91
                  refine W.seq ?_
                  refine W.region ?_
                  refine WL.vS hS hE (runs_plain rfl) (Gives.p hE rfl) rfl ?_; clear hE a; intro a hE
                  refine WL.nil ?_
                  refine W.seq ?_
                  refine W.condT hE rfl (decide_eq_true (by omega)) ?_
                  refine W.skip ?_
                  refine W.seq ?_
                  refine W.block ?_
                  refine W.seq ?_
                  refine W.region ?_
                  obtain ⟨cs103, hl104, hR105, hat106⟩ := h81.at hx98
                  obtain ⟨a107, c108, rfl, h109⟩ := hR105
                  refine WL.vS hS hE (runs_plain rfl) (Gives.idx hE k93 rfl rfl sl44 rfl hlt97 (h81.aok hlt97)) rfl ?_; clear hE a; intro a hE
                  refine WL.vS hS hE (runs_plain rfl) (Gives.load1 hE rfl (fun w h => hat106 w _ h) ty23) rfl ?_; clear hE a; intro a hE
                  refine WL.vS hS hE (runs_plain rfl) (Gives.p hE rfl) rfl ?_; clear hE a; intro a hE
                  refine WL.nil ?_
                  refine W.seq ?_
                  refine W.region ?_
                  refine WL.vS hS hE (runs_plain rfl) (Gives.p hE rfl) rfl ?_; clear hE a; intro a hE
                  refine WL.vS hS hE (runs_plain rfl) (Gives.len hE rfl sl23) rfl ?_; clear hE a; intro a hE
                  refine WL.vS hS hE (runs_plain rfl) (Gives.p hE rfl) rfl ?_; clear hE a; intro a hE
                  refine WL.nil ?_
                  refine W.cond hE rfl (fun hc110 => ?_) (fun hc110 => ?_)
                  · replace hq91 := iteT hc110 hq91
                    refine W.seq ?_
                    refine W.region ?_
                    refine WL.vS hS hE (runs_plain rfl) (Gives.p hE rfl) rfl ?_; clear hE a; intro a hE
                    refine WL.nil ?_
                    refine W.ret ?_
                    subst hK102
                    subst hK71
                    rw [← hq91] at hq60
                    dsimp only at hq60
                    rw [← hq60] at hr
                    dsimp only at hr
                    refine finG (fn := Tryd.f19) (rs := [.tmp 2]) (vs := [_]) hE rfl ⟨rfl, trivial⟩ ?_
                    subst hr
                    replace hS := hS.tail
                    replace hS := hS.tail
                    exact ⟨rfl, hS⟩
                  · replace hq91 := iteF hc110 hq91
                    refine W.skip ?_
                    refine W.region ?_
                    refine WL.vS hS hE (runs_plain rfl) (Gives.inc hE rfl (by have := h81.small; omega)) rfl ?_; clear hE a; intro a hE
                    refine WL.vS hS hE (runs_plain rfl) (Gives.p hE rfl) rfl ?_; clear hE a; intro a hE
                    refine WL.nil ?_
                    subst hK102
                    exact ⟨rest95.length, Nat.lt_succ_self _, rest95, k93 + 1, rfl, hd96, hq91, hE.pick _ ⟨rfl, rfl, rfl, rfl, rfl, rfl, rfl, rfl, trivial⟩, hS⟩
              · clear hE hS a w; rintro a w ⟨rfl, hE, hS⟩
                dsimp only at hq60
                refine W.seq ?_
                refine W.seq ?_
                refine W.region ?_
                refine WL.vS hS hE (runs_plain rfl) (Gives.fld hE rfl fl46_2) rfl ?_; clear hE a; intro a hE
                refine WL.vS hS hE (runs_plain rfl) (Gives.loadB hE 0 rfl rfl rfl ty43) rfl ?_; clear hE a; intro a hE
                refine WL.vS hS hE (runs_plain rfl) (Gives.len hE rfl sl43) rfl ?_; clear hE a; intro a hE
                refine WL.vS hS hE (runs_plain rfl) (Gives.p hE rfl) rfl ?_; clear hE a; intro a hE
                refine WL.nil ?_
                refine W.cond hE rfl (fun hc111 => ?_) (fun hc111 => ?_)
                · replace hq60 := iteT hc111 hq60
                  refine W.seq ?_
                  refine W.region ?_
                  refine WL.vS hS hE (runs_plain rfl) (Gives.p hE rfl) rfl ?_; clear hE a; intro a hE
                  refine WL.nil ?_
                  refine W.ret ?_
                  subst hK71
                  rw [← hq60] at hr
                  dsimp only at hr
                  refine finG (fn := Tryd.f19) (rs := [.tmp 2]) (vs := [_]) hE rfl ⟨rfl, trivial⟩ ?_
                  subst hr
                  replace hS := hS.tail
                  replace hS := hS.tail
                  exact ⟨rfl, hS⟩
                · replace hq60 := iteF hc111 hq60
                  refine W.skip ?_
                  refine W.seq ?_
                  refine W.region ?_
                  refine WL.vS hS hE (runs_plain rfl) (Gives.fld hE rfl fl46_3) rfl ?_; clear hE a; intro a hE
                  refine WL.vS hS hE (runs_plain rfl) (Gives.loadB hE 0 rfl rfl rfl ty44) rfl ?_; clear hE a; intro a hE
                  refine WL.vS hS hE (runs_plain rfl) (Gives.len hE rfl sl44) rfl ?_; clear hE a; intro a hE
                  refine WL.vS hS hE (runs_plain rfl) (Gives.p hE rfl) rfl ?_; clear hE a; intro a hE
                  refine WL.nil ?_
                  obtain ⟨q113, hq112, hq60⟩ := bndS hq60
                  refine W.cut (fun a w => (.next ()) = q113 ∧ Rep a 85 [(1, .pointer (some ⟨b51, 0, none⟩)), (22, .slice a0_0 x0.Trains.length c0_0), (23, .int .i64 ((x0.Trains).length : Int)), (24, .int .i64 ((k62 : Nat) : Int))] ∧ St w s (pt b82 (.cells #[.int .i64 x63.No, .int .i64 x63.Stock, .slice a76 x63.Stops.length c77, .slice a79 x63.Legs.length c80] 46 (0, 0)) :: pt b51 (.cells #[.slice a0_0 x0.Trains.length c0_0, .slice a0_1 x0.Turns.length c0_1] 49 (0, 0)) :: R)) ?_ ?_
                  · refine W.block ?_
                    refine W.loop (fun m a w => ∃ (rest116 : List (List Int)) (k114 : Nat), rest116.length = m ∧ x63.Legs.drop k114 = rest116 ∧ Planform.loop3 rest116 = q113 ∧ Rep a 85 [(1, .pointer (some ⟨b51, 0, none⟩)), (22, .slice a0_0 x0.Trains.length c0_0), (23, .int .i64 ((x0.Trains).length : Int)), (24, .int .i64 ((k62 : Nat) : Int)), (58, .slice a79 x63.Legs.length c80), (59, .int .i64 ((x63.Legs).length : Int)), (60, .int .i64 ((k114 : Nat) : Int))] ∧ St w s (pt b82 (.cells #[.int .i64 x63.No, .int .i64 x63.Stock, .slice a76 x63.Stops.length c77, .slice a79 x63.Legs.length c80] 46 (0, 0)) :: pt b51 (.cells #[.slice a0_0 x0.Trains.length c0_0, .slice a0_1 x0.Turns.length c0_1] 49 (0, 0)) :: R)) (m := x63.Legs.length) ⟨x63.Legs, 0, rfl, rfl, hq112, hE.pick _ ⟨rfl, rfl, rfl, rfl, rfl, rfl, rfl, trivial⟩, hS⟩ ?_
                    clear hE hS a w hq112; rintro m120 a w ⟨rest116, k114, rfl, hd117, hq112, hE, hS⟩
                    refine W.gen fun K123 hK123 => ?_
                    rcases rest116 with _ | ⟨x115, rest116⟩
                    · have hlt118 := drop_nil hd117
                      refine W.seq ?_
                      refine W.region ?_
                      refine WL.vS hS hE (runs_plain rfl) (Gives.p hE rfl) rfl ?_; clear hE a; intro a hE
                      refine WL.nil ?_
                      refine W.seq ?_
                      refine W.condF hE rfl (decide_eq_false (by omega)) ?_
                      subst hK123
                      refine W.exit rfl ?_
                      exact ⟨hq112, hE.pick _ ⟨rfl, rfl, rfl, rfl, trivial⟩, hS⟩
                    · obtain ⟨hlt118, hx119, hd117⟩ := drop_cons hd117
                      rw [Planform.loop3] at hq112
                      refine W.seq ?_
                      refine W.region ?_
                      refine WL.vS hS hE (runs_plain rfl) (Gives.p hE rfl) rfl ?_; clear hE a; intro a hE
                      refine WL.nil ?_
                      refine W.seq ?_
                      refine W.condT hE rfl (decide_eq_true (by omega)) ?_
                      refine W.skip ?_
                      refine W.seq ?_
                      refine W.block ?_
                      refine W.seq ?_
                      refine W.region ?_
                      obtain ⟨cs124, hl125, hR126, hat127⟩ := h81.at hx119
                      obtain ⟨a128, c129, rfl, h130⟩ := hR126
                      refine WL.vS hS hE (runs_plain rfl) (Gives.idx hE k114 rfl rfl sl44 rfl hlt118 (h81.aok hlt118)) rfl ?_; clear hE a; intro a hE
                      refine WL.vS hS hE (runs_plain rfl) (Gives.load1 hE rfl (fun w h => hat127 w _ h) ty23) rfl ?_; clear hE a; intro a hE
                      refine WL.vS hS hE (runs_plain rfl) (Gives.p hE rfl) rfl ?_; clear hE a; intro a hE
                      refine WL.nil ?_
                      refine W.seq ?_
                      refine W.region ?_
                      refine WL.vS hS hE (runs_plain rfl) (Gives.p hE rfl) rfl ?_; clear hE a; intro a hE
                      refine WL.vS hS hE (runs_plain rfl) (Gives.len hE rfl sl23) rfl ?_; clear hE a; intro a hE
                      refine WL.vS hS hE (runs_plain rfl) (Gives.p hE rfl) rfl ?_; clear hE a; intro a hE
                      refine WL.nil ?_
                      refine W.cond hE rfl (fun hc131 => ?_) (fun hc131 => ?_)
                      · replace hq112 := iteT hc131 hq112
                        refine W.seq ?_
                        refine W.region ?_
                        refine WL.vS hS hE (runs_plain rfl) (Gives.p hE rfl) rfl ?_; clear hE a; intro a hE
                        refine WL.nil ?_
                        refine W.ret ?_
                        subst hK123
                        subst hK71
                        rw [← hq112] at hq60
                        dsimp only at hq60
                        rw [← hq60] at hr
                        dsimp only at hr
                        refine finG (fn := Tryd.f19) (rs := [.tmp 2]) (vs := [_]) hE rfl ⟨rfl, trivial⟩ ?_
                        subst hr
                        replace hS := hS.tail
                        replace hS := hS.tail
                        exact ⟨rfl, hS⟩
                      · replace hq112 := iteF hc131 hq112
                        refine W.skip ?_
                        refine W.region ?_
                        refine WL.vS hS hE (runs_plain rfl) (Gives.inc hE rfl (by have := h81.small; omega)) rfl ?_; clear hE a; intro a hE
                        refine WL.vS hS hE (runs_plain rfl) (Gives.p hE rfl) rfl ?_; clear hE a; intro a hE
                        refine WL.nil ?_
                        subst hK123
                        exact ⟨rest116.length, Nat.lt_succ_self _, rest116, k114 + 1, rfl, hd117, hq112, hE.pick _ ⟨rfl, rfl, rfl, rfl, rfl, rfl, rfl, trivial⟩, hS⟩
                  · clear hE hS a w; rintro a w ⟨rfl, hE, hS⟩
                    dsimp only at hq60
                    refine W.region ?_
                    refine WL.vS hS hE (runs_plain rfl) (Gives.inc hE rfl (by have := h0_0.small; omega)) rfl ?_; clear hE a; intro a hE
                    refine WL.vS hS hE (runs_plain rfl) (Gives.p hE rfl) rfl ?_; clear hE a; intro a hE
                    refine WL.nil ?_
                    replace hS := hS.tail
                    subst hK71
                    exact ⟨rest64.length, Nat.lt_succ_self _, rest64, k62 + 1, rfl, hd65, hq60, hE.pick _ ⟨rfl, rfl, rfl, rfl, trivial⟩, hS⟩
      · clear hE hS a w; rintro a w ⟨rfl, hE, hS⟩
        dsimp only at hr
        refine W.seq ?_
        refine W.seq ?_
        refine W.region ?_
        refine WL.vS hS hE (runs_plain rfl) (Gives.fld hE rfl fl49_1) rfl ?_; clear hE a; intro a hE
        refine WL.vS hS hE (runs_plain rfl) (Gives.loadB hE 0 rfl rfl rfl ty44) rfl ?_; clear hE a; intro a hE
        refine WL.vS hS hE (runs_plain rfl) (Gives.len hE rfl sl44) rfl ?_; clear hE a; intro a hE
        refine WL.vS hS hE (runs_plain rfl) (Gives.p hE rfl) rfl ?_; clear hE a; intro a hE
        refine WL.nil ?_
        obtain ⟨q133, hq132, hr⟩ := bndS hr
        refine W.cut (fun a w => (.next ()) = q133 ∧ Rep a 85 [] ∧ St w s (pt b51 (.cells #[.slice a0_0 x0.Trains.length c0_0, .slice a0_1 x0.Turns.length c0_1] 49 (0, 0)) :: R)) ?_ ?_
        · refine W.block ?_
          refine W.loop (fun m a w => ∃ (rest136 : List (List Int)) (k134 : Nat), rest136.length = m ∧ x0.Turns.drop k134 = rest136 ∧ Planform.loop4 rest136 = q133 ∧ Rep a 85 [(70, .slice a0_1 x0.Turns.length c0_1), (71, .int .i64 ((x0.Turns).length : Int)), (72, .int .i64 ((k134 : Nat) : Int))] ∧ St w s (pt b51 (.cells #[.slice a0_0 x0.Trains.length c0_0, .slice a0_1 x0.Turns.length c0_1] 49 (0, 0)) :: R)) (m := x0.Turns.length) ⟨x0.Turns, 0, rfl, rfl, hq132, hE.pick _ ⟨rfl, rfl, rfl, trivial⟩, hS⟩ ?_
          clear hE hS a w hq132; rintro m140 a w ⟨rest136, k134, rfl, hd137, hq132, hE, hS⟩
          refine W.gen fun K143 hK143 => ?_
          rcases rest136 with _ | ⟨x135, rest136⟩
          · have hlt138 := drop_nil hd137
            refine W.seq ?_
            refine W.region ?_
            refine WL.vS hS hE (runs_plain rfl) (Gives.p hE rfl) rfl ?_; clear hE a; intro a hE
            refine WL.nil ?_
            refine W.seq ?_
            refine W.condF hE rfl (decide_eq_false (by omega)) ?_
            subst hK143
            refine W.exit rfl ?_
            exact ⟨hq132, hE.pick _ trivial, hS⟩
          · obtain ⟨hlt138, hx139, hd137⟩ := drop_cons hd137
            rw [Planform.loop4] at hq132
            refine W.seq ?_
            refine W.region ?_
            refine WL.vS hS hE (runs_plain rfl) (Gives.p hE rfl) rfl ?_; clear hE a; intro a hE
            refine WL.nil ?_
            refine W.seq ?_
            refine W.condT hE rfl (decide_eq_true (by omega)) ?_
            refine W.skip ?_
            refine W.seq ?_
            refine W.block ?_
            refine W.seq ?_
            refine W.region ?_
            obtain ⟨cs144, hl145, hR146, hat147⟩ := h0_1.at hx139
            obtain ⟨a148, c149, rfl, h150⟩ := hR146
            refine WL.vS hS hE (runs_plain rfl) (Gives.idx hE k134 rfl rfl sl44 rfl hlt138 (h0_1.aok hlt138)) rfl ?_; clear hE a; intro a hE
            refine WL.vS hS hE (runs_plain rfl) (Gives.load1 hE rfl (fun w h => hat147 w _ h) ty23) rfl ?_; clear hE a; intro a hE
            refine WL.vS hS hE (runs_plain rfl) (Gives.p hE rfl) rfl ?_; clear hE a; intro a hE
            refine WL.nil ?_
            refine W.block ?_
            refine W.seq ?_
            refine W.region ?_
            refine WL.vS hS hE (runs_plain rfl) (Gives.p hE rfl) rfl ?_; clear hE a; intro a hE
            refine WL.vS hS hE (runs_plain rfl) (Gives.len hE rfl sl23) rfl ?_; clear hE a; intro a hE
            refine WL.vS hS hE (runs_plain rfl) (Gives.p hE rfl) rfl ?_; clear hE a; intro a hE
            refine WL.vS hS hE (runs_plain rfl) (Gives.p hE rfl) rfl ?_; clear hE a; intro a hE
            refine WL.nil ?_
            refine W.cond hE rfl (fun hc151 => ?_) (fun hc151 => ?_)
            · replace hq132 := iteT hc151 hq132
              refine W.seq ?_
              refine W.region ?_
              refine WL.vS hS hE (runs_plain rfl) (Gives.p hE rfl) rfl ?_; clear hE a; intro a hE
              refine WL.nil ?_
              refine W.ret ?_
              subst hK143
              rw [← hq132] at hr
              dsimp only at hr
              refine finG (fn := Tryd.f19) (rs := [.tmp 2]) (vs := [_]) hE rfl ⟨rfl, trivial⟩ ?_
              subst hr
              replace hS := hS.tail
              exact ⟨rfl, hS⟩
            · replace hq132 := iteF hc151 hq132
              refine W.seq ?_
              refine W.region ?_
              refine WL.vS hS hE (runs_plain rfl) (Gives.p hE rfl) rfl ?_; clear hE a; intro a hE
              refine WL.vS hS hE (runs_plain rfl) (Gives.len hE rfl sl23) rfl ?_; clear hE a; intro a hE
              refine WL.vS hS hE (runs_plain rfl) (Gives.p hE rfl) rfl ?_; clear hE a; intro a hE
              refine WL.vS hS hE (runs_plain rfl) (Gives.p hE rfl) rfl ?_; clear hE a; intro a hE
              refine WL.nil ?_
              refine W.cond hE rfl (fun hc152 => ?_) (fun hc152 => ?_)
              · replace hq132 := iteT hc152 hq132
                refine W.seq ?_
                refine W.region ?_
                refine WL.vS hS hE (runs_plain rfl) (Gives.p hE rfl) rfl ?_; clear hE a; intro a hE
                refine WL.nil ?_
                refine W.ret ?_
                subst hK143
                rw [← hq132] at hr
                dsimp only at hr
                refine finG (fn := Tryd.f19) (rs := [.tmp 2]) (vs := [_]) hE rfl ⟨rfl, trivial⟩ ?_
                subst hr
                replace hS := hS.tail
                exact ⟨rfl, hS⟩
              · replace hq132 := iteF hc152 hq132
                refine W.skip ?_
                refine W.region ?_
                refine WL.vS hS hE (runs_plain rfl) (Gives.inc hE rfl (by have := h0_1.small; omega)) rfl ?_; clear hE a; intro a hE
                refine WL.vS hS hE (runs_plain rfl) (Gives.p hE rfl) rfl ?_; clear hE a; intro a hE
                refine WL.nil ?_
                subst hK143
                exact ⟨rest136.length, Nat.lt_succ_self _, rest136, k134 + 1, rfl, hd137, hq132, hE.pick _ ⟨rfl, rfl, rfl, trivial⟩, hS⟩
        · clear hE hS a w; rintro a w ⟨rfl, hE, hS⟩
          dsimp only at hr
          refine W.seq ?_
          refine W.region ?_
          refine WL.vS hS hE (runs_plain rfl) (Gives.p hE rfl) rfl ?_; clear hE a; intro a hE
          refine WL.nil ?_
          refine W.ret ?_
          refine finG (fn := Tryd.f19) (rs := [.tmp 2]) (vs := [_]) hE rfl ⟨rfl, trivial⟩ ?_
          subst hr
          replace hS := hS.tail
          exact ⟨rfl, hS⟩
set_option maxHeartbeats 8000000 in
theorem InternalStrconvsmall_ok  {w : World} {s : Sg} {R : List HP} {x0 : Int} (hS : St w s (R))  {r : ByteArray} (hr : InternalStrconvsmall x0 = some r) :
    Calls Tryd.prog 50 [.int .i64 x0].toArray w (fun e w => e = .returned (.string r) ∧ St w s (R)) := by
  refine enter Tryd.func50 rfl rfl rfl fun a hE => ?_
  rw [InternalStrconvsmall] at hr
  refine W.seq ?_
  refine W.region ?_
  refine WL.vS hS hE (runs_plain rfl) (Gives.p hE rfl) rfl ?_; clear hE a; intro a hE
  refine WL.nil ?_
  refine W.seq ?_
  refine W.seq ?_
  refine W.region ?_
  refine WL.vS hS hE (runs_plain rfl) (Gives.p hE rfl) rfl ?_; clear hE a; intro a hE
  refine WL.vS hS hE (runs_plain rfl) (Gives.p hE rfl) rfl ?_; clear hE a; intro a hE
  refine WL.nil ?_
  refine W.cond hE rfl (fun hc51 => ?_) (fun hc51 => ?_)
  · replace hr := iteT hc51 hr
    refine W.seq ?_
    refine W.region ?_
    refine WL.vS hS hE (runs_plain rfl) (Gives.p hE rfl) rfl ?_; clear hE a; intro a hE
    refine WL.vS hS hE (runs_plain rfl) (Gives.p hE rfl) rfl ?_; clear hE a; intro a hE
    refine WL.vS hS hE (runs_plain rfl) (Gives.p hE rfl) rfl ?_; clear hE a; intro a hE
    obtain ⟨x52, hx53, hr⟩ := bindS hr
    refine WL.vS hS hE (runs_plain rfl) (Gives.cutS hE st9 rfl rfl rfl hx53) rfl ?_; clear hE a; intro a hE
    refine WL.vS hS hE (runs_plain rfl) (Gives.p hE rfl) rfl ?_; clear hE a; intro a hE
    refine WL.nil ?_
    refine W.ret ?_
    refine finG (fn := Tryd.f50) (rs := [.tmp 2]) (vs := [_]) hE rfl ⟨rfl, trivial⟩ ?_
    obtain rfl := Option.some.inj hr
    exact ⟨rfl, hS⟩
  · replace hr := iteF hc51 hr
    refine W.skip ?_
    refine W.seq ?_
    refine W.region ?_
    refine WL.vS hS hE (runs_plain rfl) (Gives.p hE rfl) rfl ?_; clear hE a; intro a hE
    refine WL.vS hS hE (runs_plain rfl) (Gives.p hE rfl) rfl ?_; clear hE a; intro a hE
    refine WL.vS hS hE (runs_plain rfl) (Gives.p hE rfl) rfl ?_; clear hE a; intro a hE
    refine WL.vS hS hE (runs_plain rfl) (Gives.p hE rfl) rfl ?_; clear hE a; intro a hE
    refine WL.vS hS hE (runs_plain rfl) (Gives.p hE rfl) rfl ?_; clear hE a; intro a hE
    obtain ⟨x54, hx55, hr⟩ := bindS hr
    refine WL.vS hS hE (runs_plain rfl) (Gives.cutS hE st9 rfl rfl rfl hx55) rfl ?_; clear hE a; intro a hE
    refine WL.vS hS hE (runs_plain rfl) (Gives.p hE rfl) rfl ?_; clear hE a; intro a hE
    refine WL.nil ?_
    refine W.ret ?_
    refine finG (fn := Tryd.f50) (rs := [.tmp 2]) (vs := [_]) hE rfl ⟨rfl, trivial⟩ ?_
    obtain rfl := Option.some.inj hr
    exact ⟨rfl, hS⟩
set_option maxHeartbeats 8000000 in
theorem MathBitsLen64_ok  {w : World} {s : Sg} {R : List HP} {x0 : Int} (hS : St w s (R))  {r : Int} (hr : MathBitsLen64 x0 = some r) :
    Calls Tryd.prog 39 [.int .u64 x0].toArray w (fun e w => e = .returned (.int .i64 r) ∧ St w s (R)) := by
  refine enter Tryd.func39 rfl rfl rfl fun a hE => ?_
  rw [MathBitsLen64] at hr
  refine W.seq ?_
  refine W.region ?_
  refine WL.vS hS hE (runs_plain rfl) (Gives.p hE rfl) rfl ?_; clear hE a; intro a hE
  refine WL.nil ?_
  refine W.seq ?_
  refine W.seq ?_
  refine W.region ?_
  refine WL.vS hS hE (runs_plain rfl) (Gives.p hE rfl) rfl ?_; clear hE a; intro a hE
  refine WL.vS hS hE (runs_plain rfl) (Gives.p hE rfl) rfl ?_; clear hE a; intro a hE
  refine WL.nil ?_
  obtain ⟨q52, hq51, hr⟩ := bndS hr
  refine W.cut (fun a w => ∃ (q55 : Int), ∃ (q56 : Int), (q55, q56) = q52 ∧ Rep a 25 [(0, .int .u64 q55), (2, .int .i64 q56)] ∧ St w s (R)) ?_ ?_
  · refine W.gen fun K57 hK57 => ?_
    refine W.cond hE rfl (fun hc58 => ?_) (fun hc58 => ?_)
    · replace hq51 := iteT hc58 hq51
      refine W.seq ?_
      refine W.region ?_
      refine WL.vS hS hE (runs_plain rfl) (Gives.p hE rfl) rfl ?_; clear hE a; intro a hE
      refine WL.vS hS hE (runs_plain rfl) (Gives.shr hE rfl rfl (by decide)) rfl ?_; clear hE a; intro a hE
      refine WL.vS hS hE (runs_plain rfl) (Gives.p hE rfl) rfl ?_; clear hE a; intro a hE
      refine WL.nil ?_
      refine W.region ?_
      refine WL.vS hS hE (runs_plain rfl) (Gives.p hE rfl) rfl ?_; clear hE a; intro a hE
      refine WL.nil ?_
      subst hK57
      exact ⟨Int.fdiv x0 (2 ^ (min (Int.toNat 32) (IntKind.bits .u64))), 32, hq51, hE.pick _ ⟨rfl, rfl, trivial⟩, hS⟩
    · replace hq51 := iteF hc58 hq51
      refine W.skip ?_
      subst hK57
      exact ⟨x0, 0, hq51, hE.pick _ ⟨rfl, rfl, trivial⟩, hS⟩
  · clear hE hS a w; rintro a w ⟨q55, q56, rfl, hE, hS⟩
    dsimp only at hr
    refine W.seq ?_
    refine W.seq ?_
    refine W.region ?_
    refine WL.vS hS hE (runs_plain rfl) (Gives.p hE rfl) rfl ?_; clear hE a; intro a hE
    refine WL.vS hS hE (runs_plain rfl) (Gives.p hE rfl) rfl ?_; clear hE a; intro a hE
    refine WL.nil ?_
    obtain ⟨q60, hq59, hr⟩ := bndS hr
    refine W.cut (fun a w => ∃ (q63 : Int), ∃ (q64 : Int), (q63, q64) = q60 ∧ Rep a 25 [(0, .int .u64 q63), (2, .int .i64 q64)] ∧ St w s (R)) ?_ ?_
    · refine W.gen fun K65 hK65 => ?_
      refine W.cond hE rfl (fun hc66 => ?_) (fun hc66 => ?_)
      · replace hq59 := iteT hc66 hq59
        refine W.seq ?_
        refine W.region ?_
        refine WL.vS hS hE (runs_plain rfl) (Gives.p hE rfl) rfl ?_; clear hE a; intro a hE
        refine WL.vS hS hE (runs_plain rfl) (Gives.shr hE rfl rfl (by decide)) rfl ?_; clear hE a; intro a hE
        refine WL.vS hS hE (runs_plain rfl) (Gives.p hE rfl) rfl ?_; clear hE a; intro a hE
        refine WL.nil ?_
        refine W.region ?_
        refine WL.vS hS hE (runs_plain rfl) (Gives.p hE rfl) rfl ?_; clear hE a; intro a hE
        refine WL.vS hS hE (runs_plain rfl) (Gives.p hE rfl) rfl ?_; clear hE a; intro a hE
        refine WL.vS hS hE (runs_plain rfl) (Gives.p hE rfl) rfl ?_; clear hE a; intro a hE
        refine WL.nil ?_
        subst hK65
        exact ⟨Int.fdiv q55 (2 ^ (min (Int.toNat 16) (IntKind.bits .u64))), w64 (q56 + 16), hq59, hE.pick _ ⟨rfl, rfl, trivial⟩, hS⟩
      · replace hq59 := iteF hc66 hq59
        refine W.skip ?_
        subst hK65
        exact ⟨q55, q56, hq59, hE.pick _ ⟨rfl, rfl, trivial⟩, hS⟩
    · clear hE hS a w; rintro a w ⟨q63, q64, rfl, hE, hS⟩
      dsimp only at hr
      refine W.seq ?_
      refine W.seq ?_
      refine W.region ?_
      refine WL.vS hS hE (runs_plain rfl) (Gives.p hE rfl) rfl ?_; clear hE a; intro a hE
      refine WL.vS hS hE (runs_plain rfl) (Gives.p hE rfl) rfl ?_; clear hE a; intro a hE
      refine WL.nil ?_
      obtain ⟨q68, hq67, hr⟩ := bndS hr
      refine W.cut (fun a w => ∃ (q71 : Int), ∃ (q72 : Int), (q71, q72) = q68 ∧ Rep a 25 [(0, .int .u64 q71), (2, .int .i64 q72)] ∧ St w s (R)) ?_ ?_
      · refine W.gen fun K73 hK73 => ?_
        refine W.cond hE rfl (fun hc74 => ?_) (fun hc74 => ?_)
        · replace hq67 := iteT hc74 hq67
          refine W.seq ?_
          refine W.region ?_
          refine WL.vS hS hE (runs_plain rfl) (Gives.p hE rfl) rfl ?_; clear hE a; intro a hE
          refine WL.vS hS hE (runs_plain rfl) (Gives.shr hE rfl rfl (by decide)) rfl ?_; clear hE a; intro a hE
          refine WL.vS hS hE (runs_plain rfl) (Gives.p hE rfl) rfl ?_; clear hE a; intro a hE
          refine WL.nil ?_
          refine W.region ?_
          refine WL.vS hS hE (runs_plain rfl) (Gives.p hE rfl) rfl ?_; clear hE a; intro a hE
          refine WL.vS hS hE (runs_plain rfl) (Gives.p hE rfl) rfl ?_; clear hE a; intro a hE
          refine WL.vS hS hE (runs_plain rfl) (Gives.p hE rfl) rfl ?_; clear hE a; intro a hE
          refine WL.nil ?_
          subst hK73
          exact ⟨Int.fdiv q63 (2 ^ (min (Int.toNat 8) (IntKind.bits .u64))), w64 (q64 + 8), hq67, hE.pick _ ⟨rfl, rfl, trivial⟩, hS⟩
        · replace hq67 := iteF hc74 hq67
          refine W.skip ?_
          subst hK73
          exact ⟨q63, q64, hq67, hE.pick _ ⟨rfl, rfl, trivial⟩, hS⟩
      · clear hE hS a w; rintro a w ⟨q71, q72, rfl, hE, hS⟩
        dsimp only at hr
        refine W.seq ?_
        refine W.region ?_
        refine WL.vS hS hE (runs_plain rfl) (Gives.p hE rfl) rfl ?_; clear hE a; intro a hE
        refine WL.vS hS hE (runs_plain rfl) (Gives.p hE rfl) rfl ?_; clear hE a; intro a hE
        refine WL.vS hS hE (runs_plain rfl) (Gives.conv hE rfl hu81 ui5) rfl ?_; clear hE a; intro a hE
        obtain ⟨x75, hx76, hr⟩ := bindS hr
        refine WL.vS hS hE (runs_plain rfl) (Gives.idxS hE st9 rfl rfl hx76) rfl ?_; clear hE a; intro a hE
        refine WL.vS hS hE (runs_plain rfl) (Gives.conv hE rfl hu5 ui3) rfl ?_; clear hE a; intro a hE
        refine WL.vS hS hE (runs_plain rfl) (Gives.p hE rfl) rfl ?_; clear hE a; intro a hE
        refine WL.vS hS hE (runs_plain rfl) (Gives.p hE rfl) rfl ?_; clear hE a; intro a hE
        refine WL.nil ?_
        refine W.ret ?_
        refine finG (fn := Tryd.f39) (rs := [.tmp 2]) (vs := [_]) hE rfl ⟨rfl, trivial⟩ ?_
        obtain rfl := Option.some.inj hr
        exact ⟨rfl, hS⟩
set_option maxHeartbeats 8000000 in
theorem InternalStrconvlog10Pow2_ok  {w : World} {s : Sg} {R : List HP} {x0 : Int} (hS : St w s (R))  {r : Int} (hr : InternalStrconvlog10Pow2 x0 = r) :
    Calls Tryd.prog 54 [.int .i64 x0].toArray w (fun e w => e = .returned (.int .i64 r) ∧ St w s (R)) := by
  refine enter Tryd.func54 rfl rfl rfl fun a hE => ?_
  rw [InternalStrconvlog10Pow2] at hr
  refine W.seq ?_
  refine W.region ?_
  refine WL.vS hS hE (runs_plain rfl) (Gives.p hE rfl) rfl ?_; clear hE a; intro a hE
  refine WL.nil ?_
  refine W.seq ?_
  refine W.region ?_
  refine WL.vS hS hE (runs_plain rfl) (Gives.p hE rfl) rfl ?_; clear hE a; intro a hE
  refine WL.vS hS hE (runs_plain rfl) (Gives.p hE rfl) rfl ?_; clear hE a; intro a hE
  refine WL.vS hS hE (runs_plain rfl) (Gives.shr hE rfl rfl (by decide)) rfl ?_; clear hE a; intro a hE
  refine WL.vS hS hE (runs_plain rfl) (Gives.p hE rfl) rfl ?_; clear hE a; intro a hE
  refine WL.nil ?_
  refine W.ret ?_
  refine finG (fn := Tryd.f54) (rs := [.tmp 2]) (vs := [_]) hE rfl ⟨rfl, trivial⟩ ?_
  subst hr
  exact ⟨rfl, hS⟩
set_option maxHeartbeats 8000000 in
theorem InternalStrconvisPowerOfTwo_ok  {w : World} {s : Sg} {R : List HP} {x0 : Int} (hS : St w s (R))  {r : Bool} (hr : InternalStrconvisPowerOfTwo x0 = r) :
    Calls Tryd.prog 56 [.int .i64 x0].toArray w (fun e w => e = .returned (.bool r) ∧ St w s (R)) := by
  refine enter Tryd.func56 rfl rfl rfl fun a hE => ?_
  rw [InternalStrconvisPowerOfTwo] at hr
  refine W.seq ?_
  refine W.region ?_
  refine WL.vS hS hE (runs_plain rfl) (Gives.p hE rfl) rfl ?_; clear hE a; intro a hE
  refine WL.nil ?_
  refine W.seq ?_
  refine W.region ?_
  refine WL.vS hS hE (runs_plain rfl) (Gives.p hE rfl) rfl ?_; clear hE a; intro a hE
  refine WL.vS hS hE (runs_plain rfl) (Gives.p hE rfl) rfl ?_; clear hE a; intro a hE
  refine WL.vS hS hE (runs_plain rfl) (Gives.p hE rfl) rfl ?_; clear hE a; intro a hE
  refine WL.vS hS hE (runs_plain rfl) (Gives.p hE rfl) rfl ?_; clear hE a; intro a hE
  refine WL.vS hS hE (runs_plain rfl) (Gives.p hE rfl) rfl ?_; clear hE a; intro a hE
  refine WL.vS hS hE (runs_plain rfl) (Gives.p hE rfl) rfl ?_; clear hE a; intro a hE
  refine WL.nil ?_
  refine W.ret ?_
  refine finG (fn := Tryd.f56) (rs := [.tmp 2]) (vs := [_]) hE rfl ⟨rfl, trivial⟩ ?_
  subst hr
  exact ⟨rfl, hS⟩
set_option maxHeartbeats 8000000 in
theorem MathBitsTrailingZeros_ok  {w : World} {s : Sg} {R : List HP} {x0 : Int} (hS : St w s (R))  {r : Int} (hr : MathBitsTrailingZeros x0 = some r) :
    Calls Tryd.prog 57 [.int .u64 x0].toArray w (fun e w => e = .returned (.int .i64 r) ∧ St w s (R)) := by
  refine enter Tryd.func57 rfl rfl rfl fun a hE => ?_
  rw [MathBitsTrailingZeros] at hr
  refine W.seq ?_
  refine W.region ?_
  refine WL.vS hS hE (runs_plain rfl) (Gives.p hE rfl) rfl ?_; clear hE a; intro a hE
  refine WL.nil ?_
  refine W.seq ?_
  refine W.condF hE rfl rfl ?_
  refine W.skip ?_
  refine W.seq ?_
  refine W.region ?_
  refine WL.vS hS hE (runs_plain rfl) (Gives.p hE rfl) rfl ?_; clear hE a; intro a hE
  exact absurd hr (by simp)
set_option maxHeartbeats 8000000 in
theorem InternalStrconvFormatInt_ok  {w : World} {s : Sg} {R : List HP} {x0 : Int} {x1 : Int} (hS : St w s (R))  {r : ByteArray} (hr : InternalStrconvFormatInt x0 x1 = some r) :
    Calls Tryd.prog 48 [.int .i64 x0, .int .i64 x1].toArray w (fun e w => e = .returned (.string r) ∧ St w s (R)) := by
  refine enter Tryd.func48 rfl rfl rfl fun a hE => ?_
  rw [InternalStrconvFormatInt] at hr
  refine W.seq ?_
  refine W.region ?_
  refine WL.vS hS hE (runs_plain rfl) (Gives.p hE rfl) rfl ?_; clear hE a; intro a hE
  refine WL.nil ?_
  refine W.seq ?_
  refine W.seq ?_
  refine W.region ?_
  refine WL.vS hS hE (runs_plain rfl) (Gives.p hE rfl) rfl ?_; clear hE a; intro a hE
  refine WL.vS hS hE (runs_plain rfl) (Gives.p hE rfl) rfl ?_; clear hE a; intro a hE
  refine WL.nil ?_
  refine W.cond hE rfl (fun hc51 => ?_) (fun hc51 => ?_)
  · replace hr := iteT hc51 hr
    refine W.seq ?_
    refine W.seq ?_
    obtain ⟨q53, hq52, hr⟩ := bndS hr
    refine W.cut (fun a w => ∃ (q56 : Bool), q56 = q53 ∧ Rep a 54 [(0, .int .i64 x0), (17, .bool q56)] ∧ St w s (R)) ?_ ?_
    · refine W.gen fun K57 hK57 => ?_
      refine W.region ?_
      refine WL.vS hS hE (runs_plain rfl) (Gives.p hE rfl) rfl ?_; clear hE a; intro a hE
      refine WL.vS hS hE (runs_plain rfl) (Gives.p hE rfl) rfl ?_; clear hE a; intro a hE
      refine WL.vS hS hE (runs_plain rfl) (Gives.p hE rfl) rfl ?_; clear hE a; intro a hE
      rcases Bool.eq_false_or_eq_true (decide (0 ≤ x0)) with hg58 | hg58
      · replace hq52 := iteT hg58 hq52
        refine WL.vS hS hE (runs_if hE rfl rfl rfl hg58) (Gives.p hE rfl) rfl ?_; clear hE a; intro a hE
        refine WL.vS hS hE (runs_if hE rfl rfl rfl hg58) (Gives.p hE rfl) rfl ?_; clear hE a; intro a hE
        refine WL.vS hS hE (runs_plain rfl) (Gives.pickT hE rfl hg58 rfl) rfl ?_; clear hE a; intro a hE
        refine WL.nil ?_
        subst hK57
        exact ⟨decide (x0 < 100), hq52, hE.pick _ ⟨rfl, rfl, trivial⟩, hS⟩
      · replace hq52 := iteF hg58 hq52
        refine WL.no hE (runs_not hE rfl rfl rfl (by rw [hg58]; decide)) rfl ?_; clear hE a; intro a hE
        refine WL.no hE (runs_not hE rfl rfl rfl (by rw [hg58]; decide)) rfl ?_; clear hE a; intro a hE
        refine WL.vS hS hE (runs_plain rfl) (Gives.pickF hE rfl hg58 rfl) rfl ?_; clear hE a; intro a hE
        refine WL.nil ?_
        subst hK57
        exact ⟨false, hq52, hE.pick _ ⟨rfl, rfl, trivial⟩, hS⟩
    · clear hE hS a w; rintro a w ⟨q56, rfl, hE, hS⟩
      refine W.cond hE rfl (fun hc59 => ?_) (fun hc59 => ?_)
      · replace hr := iteT hc59 hr
        refine W.seq ?_
        refine W.region ?_
        refine WL.vS hS hE (runs_plain rfl) (Gives.p hE rfl) rfl ?_; clear hE a; intro a hE
        obtain ⟨q60, hq61, hr⟩ := bindS hr
        have hc_ := InternalStrconvsmall_ok hS  hq61
        refine WL.fnq hE (hc_) (runs_plain rfl) bd50 rfl rfl rfl ?_
        clear hE hS hc_; rintro e w ⟨rfl, hS⟩; refine ⟨_, rfl, ?_⟩; clear a; intro a hE
        refine WL.vS hS hE (runs_plain rfl) (Gives.p hE rfl) rfl ?_; clear hE a; intro a hE
        refine WL.nil ?_
        refine W.ret ?_
        refine finG (fn := Tryd.f48) (rs := [.tmp 4]) (vs := [_]) hE rfl ⟨rfl, trivial⟩ ?_
        obtain rfl := Option.some.inj hr
        exact ⟨rfl, hS⟩
      · replace hr := iteF hc59 hr
        refine W.skip ?_
        refine W.seq ?_
        refine W.region ?_
        refine WL.alloc hE hS (runs_plain rfl) zr94 rfl ?_; clear hE hS a w; intro b62 a w hE hS
        replace hS := hS.ptVec (es := 1) (m := 24) rfl (by decide)
        have h63 : Ev 1 (RI .u8) s [.int .u8 0, .int .u8 0, .int .u8 0, .int .u8 0, .int .u8 0, .int .u8 0, .int .u8 0, .int .u8 0, .int .u8 0, .int .u8 0, .int .u8 0, .int .u8 0, .int .u8 0, .int .u8 0, .int .u8 0, .int .u8 0, .int .u8 0, .int .u8 0, .int .u8 0, .int .u8 0, .int .u8 0, .int .u8 0, .int .u8 0, .int .u8 0] (List.replicate 24 (0 : Int)) := (Ev.ofMap (k := .u8) (List.replicate 24 (0 : Int)))
        refine WL.nil ?_
        refine W.seq ?_
        refine W.region ?_
        refine WL.vS hS hE (runs_plain rfl) (Gives.p hE rfl) rfl ?_; clear hE a; intro a hE
        refine WL.vS hS hE (runs_plain rfl) (Gives.conv hE rfl hu2 ui81) rfl ?_; clear hE a; intro a hE
        refine WL.vS hS hE (runs_plain rfl) (Gives.p hE rfl) rfl ?_; clear hE a; intro a hE
        refine WL.nil ?_
        refine W.seq ?_
        refine W.seq ?_
        refine W.region ?_
        refine WL.vS hS hE (runs_plain rfl) (Gives.p hE rfl) rfl ?_; clear hE a; intro a hE
        refine WL.vS hS hE (runs_plain rfl) (Gives.p hE rfl) rfl ?_; clear hE a; intro a hE
        refine WL.nil ?_
        obtain ⟨q66, hq65, hr⟩ := bndS hr
        refine W.cut (fun a w => ∃ (q69 : Int), q69 = q66 ∧ Rep a 54 [(0, .int .i64 x0), (5, .pointer (some ⟨b62, 0, none⟩)), (6, .int .u64 q69)] ∧ St w s (vecC 94 1 (some ⟨b62, 0, none⟩) 24 24 [.int .u8 0, .int .u8 0, .int .u8 0, .int .u8 0, .int .u8 0, .int .u8 0, .int .u8 0, .int .u8 0, .int .u8 0, .int .u8 0, .int .u8 0, .int .u8 0, .int .u8 0, .int .u8 0, .int .u8 0, .int .u8 0, .int .u8 0, .int .u8 0, .int .u8 0, .int .u8 0, .int .u8 0, .int .u8 0, .int .u8 0, .int .u8 0] :: R)) ?_ ?_
        · refine W.gen fun K70 hK70 => ?_
          refine W.cond hE rfl (fun hc71 => ?_) (fun hc71 => ?_)
          · replace hq65 := iteT hc71 hq65
            refine W.region ?_
            refine WL.vS hS hE (runs_plain rfl) (Gives.p hE rfl) rfl ?_; clear hE a; intro a hE
            refine WL.vS hS hE (runs_plain rfl) (Gives.p hE rfl) rfl ?_; clear hE a; intro a hE
            refine WL.vS hS hE (runs_plain rfl) (Gives.p hE rfl) rfl ?_; clear hE a; intro a hE
            refine WL.nil ?_
            subst hK70
            exact ⟨IntKind.wrap .u64 (0 - (IntKind.wrap .u64 x0)), hq65, hE.pick _ ⟨rfl, rfl, rfl, trivial⟩, hS⟩
          · replace hq65 := iteF hc71 hq65
            refine W.skip ?_
            subst hK70
            exact ⟨IntKind.wrap .u64 x0, hq65, hE.pick _ ⟨rfl, rfl, rfl, trivial⟩, hS⟩
        · clear hE hS a w; rintro a w ⟨q69, rfl, hE, hS⟩
          refine W.seq ?_
          refine W.region ?_
          refine WL.vS hS hE (runs_plain rfl) (Gives.p hE rfl) rfl ?_; clear hE a; intro a hE
          exact absurd hr (by simp)
  · replace hr := iteF hc51 hr
    refine W.skip ?_
    refine W.seq ?_
    refine W.region ?_
    refine WL.vS hS hE (runs_plain rfl) (Gives.p hE rfl) rfl ?_; clear hE a; intro a hE
    refine WL.vS hS hE (runs_plain rfl) (Gives.conv hE rfl hu2 ui81) rfl ?_; clear hE a; intro a hE
    refine WL.vS hS hE (runs_plain rfl) (Gives.p hE rfl) rfl ?_; clear hE a; intro a hE
    refine WL.vS hS hE (runs_plain rfl) (Gives.p hE rfl) rfl ?_; clear hE a; intro a hE
    refine WL.vS hS hE (runs_plain rfl) (Gives.p hE rfl) rfl ?_; clear hE a; intro a hE
    exact absurd hr (by simp)
set_option maxHeartbeats 8000000 in
theorem InternalStrconvItoa_ok  {w : World} {s : Sg} {R : List HP} {x0 : Int} (hS : St w s (R))  {r : ByteArray} (hr : InternalStrconvItoa x0 = some r) :
    Calls Tryd.prog 41 [.int .i64 x0].toArray w (fun e w => e = .returned (.string r) ∧ St w s (R)) := by
  refine enter Tryd.func41 rfl rfl rfl fun a hE => ?_
  rw [InternalStrconvItoa] at hr
  refine W.seq ?_
  refine W.region ?_
  refine WL.vS hS hE (runs_plain rfl) (Gives.p hE rfl) rfl ?_; clear hE a; intro a hE
  refine WL.nil ?_
  refine W.seq ?_
  refine W.region ?_
  refine WL.vS hS hE (runs_plain rfl) (Gives.p hE rfl) rfl ?_; clear hE a; intro a hE
  obtain ⟨q51, hq52, hr⟩ := bindS hr
  have hc_ := InternalStrconvFormatInt_ok hS  hq52
  refine WL.fnq hE (hc_) (runs_plain rfl) bd48 rfl rfl rfl ?_
  clear hE hS hc_; rintro e w ⟨rfl, hS⟩; refine ⟨_, rfl, ?_⟩; clear a; intro a hE
  refine WL.vS hS hE (runs_plain rfl) (Gives.p hE rfl) rfl ?_; clear hE a; intro a hE
  refine WL.nil ?_
  refine W.ret ?_
  refine finG (fn := Tryd.f41) (rs := [.tmp 2]) (vs := [_]) hE rfl ⟨rfl, trivial⟩ ?_
  obtain rfl := Option.some.inj hr
  exact ⟨rfl, hS⟩
set_option maxHeartbeats 8000000 in
theorem StrconvItoa_ok  {w : World} {s : Sg} {R : List HP} {x0 : Int} (hS : St w s (R))  {r : ByteArray} (hr : StrconvItoa x0 = some r) :
    Calls Tryd.prog 28 [.int .i64 x0].toArray w (fun e w => e = .returned (.string r) ∧ St w s (R)) := by
  refine enter Tryd.func28 rfl rfl rfl fun a hE => ?_
  rw [StrconvItoa] at hr
  refine W.seq ?_
  refine W.region ?_
  refine WL.vS hS hE (runs_plain rfl) (Gives.p hE rfl) rfl ?_; clear hE a; intro a hE
  refine WL.nil ?_
  refine W.seq ?_
  refine W.region ?_
  refine WL.vS hS hE (runs_plain rfl) (Gives.p hE rfl) rfl ?_; clear hE a; intro a hE
  obtain ⟨q51, hq52, hr⟩ := bindS hr
  have hc_ := InternalStrconvItoa_ok hS  hq52
  refine WL.fnq hE (hc_) (runs_plain rfl) bd41 rfl rfl rfl ?_
  clear hE hS hc_; rintro e w ⟨rfl, hS⟩; refine ⟨_, rfl, ?_⟩; clear a; intro a hE
  refine WL.vS hS hE (runs_plain rfl) (Gives.p hE rfl) rfl ?_; clear hE a; intro a hE
  refine WL.nil ?_
  refine W.ret ?_
  refine finG (fn := Tryd.f28) (rs := [.tmp 2]) (vs := [_]) hE rfl ⟨rfl, trivial⟩ ?_
  obtain rfl := Option.some.inj hr
  exact ⟨rfl, hS⟩
set_option maxHeartbeats 8000000 in
theorem Plansentence_ok  {w : World} {s : Sg} {R : List HP} {x0 : ByteArray} {x1 : List Int} {a1 : Option Addr} {c1 : Nat} (hS : St w s (R)) (h1 : Sl 1 (RI .i64) s a1 c1 x1) {r : ByteArray} (hr : Plansentence x0 x1 = some r) :
    Calls Tryd.prog 22 [.string x0, .slice a1 x1.length c1].toArray w (fun e w => e = .returned (.string r) ∧ St w s (R)) := by
  refine enter Tryd.func22 rfl rfl rfl fun a hE => ?_
  rw [Plansentence] at hr
  refine W.seq ?_
  refine W.region ?_
  refine WL.vS hS hE (runs_plain rfl) (Gives.p hE rfl) rfl ?_; clear hE a; intro a hE
  refine WL.nil ?_
  refine W.seq ?_
  refine W.seq ?_
  refine W.region ?_
  refine WL.vS hS hE (runs_plain rfl) (Gives.p hE rfl) rfl ?_; clear hE a; intro a hE
  refine WL.vS hS hE (runs_plain rfl) (Gives.len hE rfl sl23) rfl ?_; clear hE a; intro a hE
  refine WL.vS hS hE (runs_plain rfl) (Gives.p hE rfl) rfl ?_; clear hE a; intro a hE
  refine WL.nil ?_
  obtain ⟨q52, hq51, hr⟩ := bindS hr
  refine W.cut (fun a w => ∃ (q62 : ByteArray), q62 = q52 ∧ Rep a 21 [(0, .string q62)] ∧ St w s (R)) ?_ ?_
  · refine W.block ?_
    refine W.loop (fun m a w => ∃ (rest55 : List Int) (k53 : Nat), ∃ (q62 : ByteArray), rest55.length = m ∧ x1.drop k53 = rest55 ∧ Plansentence.loop1 rest55 q62 = some q52 ∧ Rep a 21 [(0, .string q62), (7, .slice a1 x1.length c1), (8, .int .i64 ((x1).length : Int)), (9, .int .i64 ((k53 : Nat) : Int))] ∧ St w s (R)) (m := x1.length) ⟨x1, 0, x0, rfl, rfl, hq51, hE.pick _ ⟨rfl, rfl, rfl, rfl, trivial⟩, hS⟩ ?_
    clear hE hS a w hq51; rintro m59 a w ⟨rest55, k53, q62, rfl, hd56, hq51, hE, hS⟩
    refine W.gen fun K63 hK63 => ?_
    rcases rest55 with _ | ⟨x54, rest55⟩
    · have hlt57 := drop_nil hd56
      refine W.seq ?_
      refine W.region ?_
      refine WL.vS hS hE (runs_plain rfl) (Gives.p hE rfl) rfl ?_; clear hE a; intro a hE
      refine WL.nil ?_
      refine W.seq ?_
      refine W.condF hE rfl (decide_eq_false (by omega)) ?_
      subst hK63
      refine W.exit rfl ?_
      exact ⟨q62, Option.some.inj hq51, hE.pick _ ⟨rfl, trivial⟩, hS⟩
    · obtain ⟨hlt57, hx58, hd56⟩ := drop_cons hd56
      rw [Plansentence.loop1] at hq51
      refine W.seq ?_
      refine W.region ?_
      refine WL.vS hS hE (runs_plain rfl) (Gives.p hE rfl) rfl ?_; clear hE a; intro a hE
      refine WL.nil ?_
      refine W.seq ?_
      refine W.condT hE rfl (decide_eq_true (by omega)) ?_
      refine W.skip ?_
      refine W.seq ?_
      refine W.block ?_
      refine W.seq ?_
      refine W.region ?_
      obtain ⟨cs64, hl65, hR66, hat67⟩ := h1.at hx58
      subst hR66
      refine WL.vS hS hE (runs_plain rfl) (Gives.idx hE k53 rfl rfl sl23 rfl hlt57 (h1.aok hlt57)) rfl ?_; clear hE a; intro a hE
      refine WL.vS hS hE (runs_plain rfl) (Gives.load1 hE rfl (fun w h => hat67 w _ h) ty3) rfl ?_; clear hE a; intro a hE
      refine WL.vS hS hE (runs_plain rfl) (Gives.p hE rfl) rfl ?_; clear hE a; intro a hE
      refine WL.nil ?_
      refine W.region ?_
      refine WL.vS hS hE (runs_plain rfl) (Gives.p hE rfl) rfl ?_; clear hE a; intro a hE
      refine WL.vS hS hE (runs_plain rfl) (Gives.p hE rfl) rfl ?_; clear hE a; intro a hE
      obtain ⟨q68, hq69, hq51⟩ := bindS hq51
      have hc_ := StrconvItoa_ok hS  hq69
      refine WL.fnq hE (hc_) (runs_plain rfl) bd28 rfl rfl rfl ?_
      clear hE hS hc_; rintro e w ⟨rfl, hS⟩; refine ⟨_, rfl, ?_⟩; clear a; intro a hE
      obtain ⟨x70, hx71, hq51⟩ := bindS hq51
      refine WL.vS hS hE (runs_plain rfl) (Gives.catS hE rfl rfl hx71) rfl ?_; clear hE a; intro a hE
      obtain ⟨x72, hx73, hq51⟩ := bindS hq51
      refine WL.vS hS hE (runs_plain rfl) (Gives.catS hE rfl rfl hx73) rfl ?_; clear hE a; intro a hE
      refine WL.vS hS hE (runs_plain rfl) (Gives.p hE rfl) rfl ?_; clear hE a; intro a hE
      refine WL.nil ?_
      refine W.region ?_
      refine WL.vS hS hE (runs_plain rfl) (Gives.inc hE rfl (by have := h1.small; omega)) rfl ?_; clear hE a; intro a hE
      refine WL.vS hS hE (runs_plain rfl) (Gives.p hE rfl) rfl ?_; clear hE a; intro a hE
      refine WL.nil ?_
      subst hK63
      exact ⟨rest55.length, Nat.lt_succ_self _, rest55, k53 + 1, x72, rfl, hd56, hq51, hE.pick _ ⟨rfl, rfl, rfl, rfl, trivial⟩, hS⟩
  · clear hE hS a w; rintro a w ⟨q62, rfl, hE, hS⟩
    refine W.seq ?_
    refine W.region ?_
    refine WL.vS hS hE (runs_plain rfl) (Gives.p hE rfl) rfl ?_; clear hE a; intro a hE
    obtain ⟨x74, hx75, hr⟩ := bindS hr
    refine WL.vS hS hE (runs_plain rfl) (Gives.catS hE rfl rfl hx75) rfl ?_; clear hE a; intro a hE
    refine WL.vS hS hE (runs_plain rfl) (Gives.p hE rfl) rfl ?_; clear hE a; intro a hE
    refine WL.nil ?_
    refine W.ret ?_
    refine finG (fn := Tryd.f22) (rs := [.tmp 4]) (vs := [_]) hE rfl ⟨rfl, trivial⟩ ?_
    obtain rfl := Option.some.inj hr
    exact ⟨rfl, hS⟩
set_option maxHeartbeats 8000000 in
theorem PlanText_1_v1_ok  {w : World} {s : Sg} {R : List HP} {pb0 : Nat} {pb1 : Nat} {x0 : ByteArray} {x1 : List Int} {a1 : Option Addr} {c1 : Nat} {y0 : Bool} {y1_0 : ByteArray} (hS : St w s (pt pb0 (.cells #[.bool y0] 4 (0, 0)) :: sbC 55 5 pb1 y1_0 :: R)) (h1 : Sl 1 (RI .i64) s a1 c1 x1) {r : Bool × ByteArray} (hr : PlanText_1_v1 x0 x1 y0 y1_0 = some r) :
    Calls Tryd.prog 20 [.string x0, .slice a1 x1.length c1, .pointer (some ⟨pb0, 0, none⟩), .pointer (some ⟨pb1, 0, none⟩)].toArray w (fun e w => e = .returned (.tuple #[]) ∧ St w s (pt pb0 (.cells #[.bool r.1] 4 (0, 0)) :: sbC 55 5 pb1 r.2 :: R)) := by
  refine enter Tryd.func20 rfl rfl rfl fun a hE => ?_
  rw [PlanText_1_v1] at hr
  refine W.seq ?_
  refine W.seq ?_
  refine W.region ?_
  refine WL.vS hS hE (runs_plain rfl) (Gives.p hE rfl) rfl ?_; clear hE a; intro a hE
  refine WL.vS hS hE (runs_plain rfl) (Gives.len hE rfl sl23) rfl ?_; clear hE a; intro a hE
  refine WL.vS hS hE (runs_plain rfl) (Gives.p hE rfl) rfl ?_; clear hE a; intro a hE
  refine WL.nil ?_
  obtain ⟨q54, hq53, hr⟩ := bndS hr
  refine W.cut (fun a w => ∃ (q64 : Bool), q64 = q54 ∧ Rep a 24 [(0, .string x0), (1, .slice a1 x1.length c1), (3, .pointer (some ⟨pb1, 0, none⟩))] ∧ St w s (pt pb0 (.cells #[.bool q64] 4 (0, 0)) :: sbC 55 5 pb1 y1_0 :: R)) ?_ ?_
  · refine W.block ?_
    refine W.loop (fun m a w => ∃ (rest57 : List Int) (k55 : Nat), ∃ (q64 : Bool), rest57.length = m ∧ x1.drop k55 = rest57 ∧ PlanText_1_v1.loop1 rest57 q64 = q54 ∧ Rep a 24 [(0, .string x0), (1, .slice a1 x1.length c1), (2, .pointer (some ⟨pb0, 0, none⟩)), (3, .pointer (some ⟨pb1, 0, none⟩)), (8, .slice a1 x1.length c1), (9, .int .i64 ((x1).length : Int)), (10, .int .i64 ((k55 : Nat) : Int))] ∧ St w s (pt pb0 (.cells #[.bool q64] 4 (0, 0)) :: sbC 55 5 pb1 y1_0 :: R)) (m := x1.length) ⟨x1, 0, y0, rfl, rfl, hq53, hE.pick _ ⟨rfl, rfl, rfl, rfl, rfl, rfl, rfl, trivial⟩, hS⟩ ?_
    clear hE hS a w hq53; rintro m61 a w ⟨rest57, k55, q64, rfl, hd58, hq53, hE, hS⟩
    refine W.gen fun K65 hK65 => ?_
    rcases rest57 with _ | ⟨x56, rest57⟩
    · have hlt59 := drop_nil hd58
      refine W.seq ?_
      refine W.region ?_
      refine WL.vS hS hE (runs_plain rfl) (Gives.p hE rfl) rfl ?_; clear hE a; intro a hE
      refine WL.nil ?_
      refine W.seq ?_
      refine W.condF hE rfl (decide_eq_false (by omega)) ?_
      subst hK65
      refine W.exit rfl ?_
      exact ⟨q64, hq53, hE.pick _ ⟨rfl, rfl, rfl, trivial⟩, hS⟩
    · obtain ⟨hlt59, hx60, hd58⟩ := drop_cons hd58
      rw [PlanText_1_v1.loop1] at hq53
      refine W.seq ?_
      refine W.region ?_
      refine WL.vS hS hE (runs_plain rfl) (Gives.p hE rfl) rfl ?_; clear hE a; intro a hE
      refine WL.nil ?_
      refine W.seq ?_
      refine W.condT hE rfl (decide_eq_true (by omega)) ?_
      refine W.skip ?_
      refine W.seq ?_
      refine W.block ?_
      refine W.seq ?_
      refine W.region ?_
      obtain ⟨cs66, hl67, hR68, hat69⟩ := h1.at hx60
      subst hR68
      refine WL.vS hS hE (runs_plain rfl) (Gives.idx hE k55 rfl rfl sl23 rfl hlt59 (h1.aok hlt59)) rfl ?_; clear hE a; intro a hE
      refine WL.vS hS hE (runs_plain rfl) (Gives.load1 hE rfl (fun w h => hat69 w _ h) ty3) rfl ?_; clear hE a; intro a hE
      refine WL.vS hS hE (runs_plain rfl) (Gives.p hE rfl) rfl ?_; clear hE a; intro a hE
      refine WL.nil ?_
      obtain ⟨q71, hq70, hq53⟩ := bndS hq53
      refine W.cut (fun a w => ∃ (q74 : Bool), q74 = q71 ∧ Rep a 24 [(0, .string x0), (1, .slice a1 x1.length c1), (2, .pointer (some ⟨pb0, 0, none⟩)), (3, .pointer (some ⟨pb1, 0, none⟩)), (8, .slice a1 x1.length c1), (9, .int .i64 ((x1).length : Int)), (10, .int .i64 ((k55 : Nat) : Int))] ∧ St w s (pt pb0 (.cells #[.bool q74] 4 (0, 0)) :: sbC 55 5 pb1 y1_0 :: R)) ?_ ?_
      · refine W.gen fun K75 hK75 => ?_
        refine W.region ?_
        refine WL.vS hS hE (runs_plain rfl) (Gives.loadB hE 0 rfl rfl rfl ty4) rfl ?_; clear hE a; intro a hE
        refine WL.vS hS hE (runs_plain rfl) (Gives.p hE rfl) rfl ?_; clear hE a; intro a hE
        rcases Bool.eq_false_or_eq_true q64 with hg76 | hg76
        · replace hq70 := iteT hg76 hq70
          refine WL.vS hS hE (runs_if hE rfl rfl rfl hg76) (Gives.p hE rfl) rfl ?_; clear hE a; intro a hE
          refine WL.fnq hE (Planwithin_ok hS  rfl (r := Planwithin x56 0 999999)) (runs_if hE rfl rfl rfl hg76) bd8 rfl rfl rfl ?_
          clear hE hS; rintro e w ⟨rfl, hS⟩; refine ⟨_, rfl, ?_⟩; clear a; intro a hE
          refine WL.vS hS hE (runs_plain rfl) (Gives.pickT hE rfl hg76 rfl) rfl ?_; clear hE a; intro a hE
          refine WL.storeI hE hS 0 rfl [.bool (Planwithin x56 0 999999)] (runs_plain rfl) rfl rfl rfl ty4 rfl rfl rfl rfl ?_; clear hE hS a w; intro a w hE hS
          refine WL.nil ?_
          subst hK75
          exact ⟨(Planwithin x56 0 999999), hq70, hE.pick _ ⟨rfl, rfl, rfl, rfl, rfl, rfl, rfl, trivial⟩, hS⟩
        · replace hq70 := iteF hg76 hq70
          refine WL.no hE (runs_not hE rfl rfl rfl (by rw [hg76]; decide)) rfl ?_; clear hE a; intro a hE
          refine WL.no hE (runs_not hE rfl rfl rfl (by rw [hg76]; decide)) rfl ?_; clear hE a; intro a hE
          refine WL.vS hS hE (runs_plain rfl) (Gives.pickF hE rfl hg76 rfl) rfl ?_; clear hE a; intro a hE
          refine WL.storeI hE hS 0 rfl [.bool false] (runs_plain rfl) rfl rfl rfl ty4 rfl rfl rfl rfl ?_; clear hE hS a w; intro a w hE hS
          refine WL.nil ?_
          subst hK75
          exact ⟨false, hq70, hE.pick _ ⟨rfl, rfl, rfl, rfl, rfl, rfl, rfl, trivial⟩, hS⟩
      · clear hE hS a w; rintro a w ⟨q74, rfl, hE, hS⟩
        refine W.region ?_
        refine WL.vS hS hE (runs_plain rfl) (Gives.inc hE rfl (by have := h1.small; omega)) rfl ?_; clear hE a; intro a hE
        refine WL.vS hS hE (runs_plain rfl) (Gives.p hE rfl) rfl ?_; clear hE a; intro a hE
        refine WL.nil ?_
        subst hK65
        exact ⟨rest57.length, Nat.lt_succ_self _, rest57, k55 + 1, q74, rfl, hd58, hq53, hE.pick _ ⟨rfl, rfl, rfl, rfl, rfl, rfl, rfl, trivial⟩, hS⟩
  · clear hE hS a w; rintro a w ⟨q64, rfl, hE, hS⟩
    refine W.region ?_
    refine WL.vS hS hE (runs_plain rfl) (Gives.p hE rfl) rfl ?_; clear hE a; intro a hE
    refine WL.vS hS hE (runs_plain rfl) (Gives.p hE rfl) rfl ?_; clear hE a; intro a hE
    obtain ⟨q77, hq78, hr⟩ := bindS hr
    have hc_ := Plansentence_ok hS h1 hq78
    refine WL.fnq hE (hc_) (runs_plain rfl) bd22 rfl rfl rfl ?_
    clear hE hS hc_; rintro e w ⟨rfl, hS⟩; refine ⟨_, rfl, ?_⟩; clear a; intro a hE
    replace hS := hS.front 1 rfl
    obtain ⟨q79, hq80, hr⟩ := bindS hr
    refine WL.fnq hE (sbWrite_ok hS hq80) (runs_plain rfl) bd21 rfl rfl rfl ?_
    clear hE hS; rintro e w ⟨rfl, hS⟩; refine ⟨_, rfl, ?_⟩; clear a; intro a hE
    refine WL.nil ?_
    refine finG (fn := Tryd.f20) (rs := []) (vs := []) hE rfl trivial ?_
    obtain rfl := Option.some.inj hr
    replace hS := hS.front 1 rfl
    exact ⟨rfl, hS⟩
set_option maxHeartbeats 8000000 in
theorem PlanText_ok  {w : World} {s : Sg} {R : List HP} {x0 : ApiDay} {a0_0 : Option Addr} {c0_0 : Nat} {a0_1 : Option Addr} {c0_1 : Nat} (hS : St w s (R)) (h0_0 : Sl 4 RApiTrain s a0_0 c0_0 x0.Trains) (h0_1 : Sl 1 (RL 1 (RI .i64)) s a0_1 c0_1 x0.Turns) {r : ByteArray × Int} (hr : PlanText x0 = some r) :
    Calls Tryd.prog 15 [.agg [.slice a0_0 x0.Trains.length c0_0, .slice a0_1 x0.Turns.length c0_1].toArray].toArray w (fun e w => e = .returned (.tuple #[.string r.1, .int .i64 r.2]) ∧ St w s (R)) := by
  refine enter Tryd.func15 rfl rfl rfl fun a hE => ?_
  rw [PlanText] at hr
  refine W.seq ?_
  refine W.region ?_
  refine WL.box hE hS (runs_plain rfl) rfl rfl rfl ?_; clear hE hS a w; intro b51 a w hE hS
  refine WL.vS hS hE (runs_plain rfl) (Gives.p hE rfl) rfl ?_; clear hE a; intro a hE
  refine WL.vS hS hE (runs_plain rfl) (Gives.p hE rfl) rfl ?_; clear hE a; intro a hE
  refine WL.nil ?_
  refine W.seq ?_
  refine W.seq ?_
  refine W.region ?_
  refine WL.vS hS hE (runs_plain rfl) (Gives.loadBA hE 0 rfl rfl ty49) rfl ?_; clear hE a; intro a hE
  refine WL.fnq hE (Planform_ok hS h0_0 h0_1 rfl (r := Planform x0)) (runs_plain rfl) bd19 rfl rfl rfl ?_
  clear hE hS; rintro e w ⟨rfl, hS⟩; refine ⟨_, rfl, ?_⟩; clear a; intro a hE
  refine WL.vS hS hE (runs_plain rfl) (Gives.p hE rfl) rfl ?_; clear hE a; intro a hE
  refine WL.nil ?_
  refine W.seq ?_
  refine W.region ?_
  refine WL.vS hS hE (runs_plain rfl) (Gives.p hE rfl) rfl ?_; clear hE a; intro a hE
  refine WL.vS hS hE (runs_plain rfl) (Gives.p hE rfl) rfl ?_; clear hE a; intro a hE
  refine WL.nil ?_
  refine W.cond hE rfl (fun hc52 => ?_) (fun hc52 => ?_)
  · replace hr := iteT hc52 hr
    refine W.seq ?_
    refine W.region ?_
    refine WL.vS hS hE (runs_plain rfl) (Gives.p hE rfl) rfl ?_; clear hE a; intro a hE
    refine WL.vS hS hE (runs_plain rfl) (Gives.p hE rfl) rfl ?_; clear hE a; intro a hE
    refine WL.vS hS hE (runs_plain rfl) (Gives.p hE rfl) rfl ?_; clear hE a; intro a hE
    refine WL.nil ?_
    refine W.ret ?_
    refine finG (fn := Tryd.f15) (rs := [.tmp 2, .tmp 3]) (vs := [_, _]) hE rfl ⟨rfl, rfl, trivial⟩ ?_
    obtain rfl := Option.some.inj hr
    replace hS := hS.tail
    exact ⟨rfl, hS⟩
  · replace hr := iteF hc52 hr
    refine W.skip ?_
    refine W.seq ?_
    refine W.region ?_
    refine WL.alloc hE hS (runs_plain rfl) zr55 rfl ?_; clear hE hS a w; intro b53 a w hE hS
    replace hS := hS.sbNew 5
    refine WL.nil ?_
    refine W.seq ?_
    refine W.region ?_
    refine WL.alloc hE hS (runs_plain rfl) zr4 rfl ?_; clear hE hS a w; intro b54 a w hE hS
    refine WL.storeI hE hS 0 rfl [.bool true] (runs_plain rfl) rfl rfl rfl ty4 rfl rfl rfl rfl ?_; clear hE hS a w; intro a w hE hS
    refine WL.nil ?_
    refine W.seq ?_
    refine W.region ?_
    refine WL.vS hS hE (runs_plain rfl) (Gives.mkfn hE (vs := [.pointer (some ⟨b54, 0, none⟩), .pointer (some ⟨b53, 0, none⟩)]) rfl) rfl ?_; clear hE a; intro a hE
    refine WL.vS hS hE (runs_plain rfl) (Gives.p hE rfl) rfl ?_; clear hE a; intro a hE
    refine WL.nil ?_
    refine W.seq ?_
    refine W.seq ?_
    refine W.region ?_
    refine WL.vS hS hE (runs_plain rfl) (Gives.fld hE rfl fl49_0) rfl ?_; clear hE a; intro a hE
    refine WL.vS hS hE (runs_plain rfl) (Gives.loadB hE 2 rfl rfl rfl ty47) rfl ?_; clear hE a; intro a hE
    refine WL.vS hS hE (runs_plain rfl) (Gives.len hE rfl sl47) rfl ?_; clear hE a; intro a hE
    refine WL.vS hS hE (runs_plain rfl) (Gives.p hE rfl) rfl ?_; clear hE a; intro a hE
    refine WL.nil ?_
    obtain ⟨q56, hq55, hr⟩ := bindS hr
    refine W.cut (fun a w => ∃ (q66 : ByteArray), ∃ (q67 : Bool), ∃ (s64 : Sg), s.Le s64 ∧ (q66, q67) = q56 ∧ Rep a 81 [(1, .pointer (some ⟨b51, 0, none⟩)), (5, .pointer (some ⟨b53, 0, none⟩)), (6, .pointer (some ⟨b54, 0, none⟩)), (7, .func (.func 20) #[] #[.pointer (some ⟨b54, 0, none⟩), .pointer (some ⟨b53, 0, none⟩)])] ∧ St w s64 (pt b54 (.cells #[.bool q67] 4 (0, 0)) :: sbC 55 5 b53 q66 :: pt b51 (.cells #[.slice a0_0 x0.Trains.length c0_0, .slice a0_1 x0.Turns.length c0_1] 49 (0, 0)) :: R)) ?_ ?_
    · refine W.block ?_
      refine W.loop (fun m a w => ∃ (rest59 : List ApiTrain) (k57 : Nat), ∃ (q66 : ByteArray), ∃ (q67 : Bool), ∃ (s64 : Sg), rest59.length = m ∧ x0.Trains.drop k57 = rest59 ∧ s.Le s64 ∧ PlanText.loop1 rest59 q66 q67 = some q56 ∧ Rep a 81 [(1, .pointer (some ⟨b51, 0, none⟩)), (5, .pointer (some ⟨b53, 0, none⟩)), (6, .pointer (some ⟨b54, 0, none⟩)), (7, .func (.func 20) #[] #[.pointer (some ⟨b54, 0, none⟩), .pointer (some ⟨b53, 0, none⟩)]), (23, .slice a0_0 x0.Trains.length c0_0), (24, .int .i64 ((x0.Trains).length : Int)), (25, .int .i64 ((k57 : Nat) : Int))] ∧ St w s64 (pt b54 (.cells #[.bool q67] 4 (0, 0)) :: sbC 55 5 b53 q66 :: pt b51 (.cells #[.slice a0_0 x0.Trains.length c0_0, .slice a0_1 x0.Turns.length c0_1] 49 (0, 0)) :: R)) (m := x0.Trains.length) ⟨x0.Trains, 0, ByteArray.empty, true, s, rfl, rfl, (Sg.Le.refl _), hq55, hE.pick _ ⟨rfl, rfl, rfl, rfl, rfl, rfl, rfl, trivial⟩, hS⟩ ?_
      clear hE hS a w hq55; rintro m63 a w ⟨rest59, k57, q66, q67, s64, rfl, hd60, hle65, hq55, hE, hS⟩
      refine W.gen fun K68 hK68 => ?_
      replace h0_0 := Sl.mono RApiTrain.mono hle65 h0_0
      replace h0_1 := Sl.mono (RL.mono RI.mono) hle65 h0_1
      rcases rest59 with _ | ⟨x58, rest59⟩
      · have hlt61 := drop_nil hd60
        refine W.seq ?_
        refine W.region ?_
        refine WL.vS hS hE (runs_plain rfl) (Gives.p hE rfl) rfl ?_; clear hE a; intro a hE
        refine WL.nil ?_
        refine W.seq ?_
        refine W.condF hE rfl (decide_eq_false (by omega)) ?_
        subst hK68
        refine W.exit rfl ?_
        exact ⟨q66, q67, s64, hle65, Option.some.inj hq55, hE.pick _ ⟨rfl, rfl, rfl, rfl, trivial⟩, hS⟩
      · obtain ⟨hlt61, hx62, hd60⟩ := drop_cons hd60
        rw [PlanText.loop1] at hq55
        refine W.seq ?_
        refine W.region ?_
        refine WL.vS hS hE (runs_plain rfl) (Gives.p hE rfl) rfl ?_; clear hE a; intro a hE
        refine WL.nil ?_
        refine W.seq ?_
        refine W.condT hE rfl (decide_eq_true (by omega)) ?_
        refine W.skip ?_
        refine W.seq ?_
        refine W.block ?_
        refine W.seq ?_
        refine W.region ?_
        obtain ⟨cs69, hl70, hR71, hat72⟩ := h0_0.at hx62
        obtain ⟨a73, c74, a76, c77, rfl, h75, h78⟩ := hR71
        refine WL.vS hS hE (runs_plain rfl) (Gives.idx hE k57 rfl rfl sl47 rfl hlt61 (h0_0.aok hlt61)) rfl ?_; clear hE a; intro a hE
        refine WL.vS hS hE (runs_plain rfl) (Gives.loadA hE rfl (fun w h => hat72 w _ h) ty46) rfl ?_; clear hE a; intro a hE
        refine WL.alloc hE hS (runs_plain rfl) zr46 rfl ?_; clear hE hS a w; intro b79 a w hE hS
        refine WL.storeI hE hS 0 rfl [.int .i64 x58.No, .int .i64 x58.Stock, .slice a73 x58.Stops.length c74, .slice a76 x58.Legs.length c77] (runs_plain rfl) rfl rfl rfl ty46 rfl rfl rfl rfl ?_; clear hE hS a w; intro a w hE hS
        refine WL.nil ?_
        refine W.seq ?_
        refine W.region ?_
        refine WL.vS hS hE (runs_plain rfl) (Gives.p hE rfl) rfl ?_; clear hE a; intro a hE
        refine WL.vS hS hE (runs_plain rfl) (Gives.fld hE rfl fl46_0) rfl ?_; clear hE a; intro a hE
        refine WL.vS hS hE (runs_plain rfl) (Gives.loadB hE 0 rfl rfl rfl ty3) rfl ?_; clear hE a; intro a hE
        refine WL.vS hS hE (runs_plain rfl) (Gives.fld hE rfl fl46_1) rfl ?_; clear hE a; intro a hE
        refine WL.vS hS hE (runs_plain rfl) (Gives.loadB hE 0 rfl rfl rfl ty3) rfl ?_; clear hE a; intro a hE
        refine WL.lit hE hS (e := 3) (es := 1) (vs := [(0, .int .i64 x58.No), (1, .int .i64 x58.Stock)]) (cs := [.int .i64 x58.No, .int .i64 x58.Stock]) (runs_plain rfl) rfl (by kernel_rfl) rfl ?_; clear hE hS a w; intro b80 a w hE hS
        replace hS := hS.ptVec (es := 1) (m := 2) rfl (by decide)
        have h82 : Ev 1 (RI .i64) s64 [.int .i64 x58.No, .int .i64 x58.Stock] [x58.No, x58.Stock] := (Ev.cons (c1 := [.int .i64 x58.No]) rfl rfl (Ev.cons (c1 := [.int .i64 x58.Stock]) rfl rfl (Ev.nil)))
        have hF := hS.fixD RI.mono 0 rfl h82 (rfl); clear hS; obtain ⟨s83, hle84, hS, h85⟩ := hF
        replace h0_0 := Sl.mono RApiTrain.mono hle84 h0_0
        replace h75 := Sl.mono RApiStop.mono hle84 h75
        replace h78 := Sl.mono (RL.mono RI.mono) hle84 h78
        replace h0_1 := Sl.mono (RL.mono RI.mono) hle84 h0_1
        obtain ⟨q86, hq87, hq55⟩ := bindS hq55
        replace hS := hS.front 2 rfl
        replace hS := hS.front 2 rfl
        have hc_ := PlanText_1_v1_ok hS h85 hq87
        refine WL.fnw hE (hc_) rfl (runs_plain rfl) bd20 rfl rfl rfl ?_
        clear hE hS hc_; rintro e w ⟨rfl, hS⟩; refine ⟨_, rfl, ?_⟩; clear a; intro a hE
        refine WL.nil ?_
        refine W.seq ?_
        refine W.seq ?_
        refine W.region ?_
        refine WL.vS hS hE (runs_plain rfl) (Gives.fld hE rfl fl46_2) rfl ?_; clear hE a; intro a hE
        refine WL.vS hS hE (runs_plain rfl) (Gives.loadB hE 2 rfl rfl rfl ty43) rfl ?_; clear hE a; intro a hE
        refine WL.vS hS hE (runs_plain rfl) (Gives.len hE rfl sl43) rfl ?_; clear hE a; intro a hE
        refine WL.vS hS hE (runs_plain rfl) (Gives.p hE rfl) rfl ?_; clear hE a; intro a hE
        refine WL.nil ?_
        obtain ⟨q89, hq88, hq55⟩ := bindS hq55
        refine W.cut (fun a w => ∃ (q99 : ByteArray), ∃ (q100 : Bool), ∃ (s97 : Sg), s83.Le s97 ∧ (q99, q100) = q89 ∧ Rep a 81 [(1, .pointer (some ⟨b51, 0, none⟩)), (5, .pointer (some ⟨b53, 0, none⟩)), (6, .pointer (some ⟨b54, 0, none⟩)), (7, .func (.func 20) #[] #[.pointer (some ⟨b54, 0, none⟩), .pointer (some ⟨b53, 0, none⟩)]), (9, .pointer (some ⟨b79, 0, none⟩)), (23, .slice a0_0 x0.Trains.length c0_0), (24, .int .i64 ((x0.Trains).length : Int)), (25, .int .i64 ((k57 : Nat) : Int))] ∧ St w s97 (pt b54 (.cells #[.bool q100] 4 (0, 0)) :: sbC 55 5 b53 q99 :: pt b79 (.cells #[.int .i64 x58.No, .int .i64 x58.Stock, .slice a73 x58.Stops.length c74, .slice a76 x58.Legs.length c77] 46 (0, 0)) :: pt b51 (.cells #[.slice a0_0 x0.Trains.length c0_0, .slice a0_1 x0.Turns.length c0_1] 49 (0, 0)) :: R)) ?_ ?_
        · refine W.block ?_
          refine W.loop (fun m a w => ∃ (rest92 : List ApiStop) (k90 : Nat), ∃ (q99 : ByteArray), ∃ (q100 : Bool), ∃ (s97 : Sg), rest92.length = m ∧ x58.Stops.drop k90 = rest92 ∧ s83.Le s97 ∧ PlanText.loop2 rest92 q99 q100 = some q89 ∧ Rep a 81 [(1, .pointer (some ⟨b51, 0, none⟩)), (5, .pointer (some ⟨b53, 0, none⟩)), (6, .pointer (some ⟨b54, 0, none⟩)), (7, .func (.func 20) #[] #[.pointer (some ⟨b54, 0, none⟩), .pointer (some ⟨b53, 0, none⟩)]), (9, .pointer (some ⟨b79, 0, none⟩)), (23, .slice a0_0 x0.Trains.length c0_0), (24, .int .i64 ((x0.Trains).length : Int)), (25, .int .i64 ((k57 : Nat) : Int)), (37, .slice a73 x58.Stops.length c74), (38, .int .i64 ((x58.Stops).length : Int)), (39, .int .i64 ((k90 : Nat) : Int))] ∧ St w s97 (pt b54 (.cells #[.bool q100] 4 (0, 0)) :: sbC 55 5 b53 q99 :: pt b79 (.cells #[.int .i64 x58.No, .int .i64 x58.Stock, .slice a73 x58.Stops.length c74, .slice a76 x58.Legs.length c77] 46 (0, 0)) :: pt b51 (.cells #[.slice a0_0 x0.Trains.length c0_0, .slice a0_1 x0.Turns.length c0_1] 49 (0, 0)) :: R)) (m := x58.Stops.length) ⟨x58.Stops, 0, q86.2, q86.1, s83, rfl, rfl, (Sg.Le.refl _), hq88, hE.pick _ ⟨rfl, rfl, rfl, rfl, rfl, rfl, rfl, rfl, rfl, rfl, rfl, trivial⟩, hS⟩ ?_
          clear hE hS a w hq88; rintro m96 a w ⟨rest92, k90, q99, q100, s97, rfl, hd93, hle98, hq88, hE, hS⟩
          refine W.gen fun K101 hK101 => ?_
          replace h0_0 := Sl.mono RApiTrain.mono hle98 h0_0
          replace h75 := Sl.mono RApiStop.mono hle98 h75
          replace h78 := Sl.mono (RL.mono RI.mono) hle98 h78
          replace h85 := Sl.mono RI.mono hle98 h85
          replace h0_1 := Sl.mono (RL.mono RI.mono) hle98 h0_1
          rcases rest92 with _ | ⟨x91, rest92⟩
          · have hlt94 := drop_nil hd93
            refine W.seq ?_
            refine W.region ?_
            refine WL.vS hS hE (runs_plain rfl) (Gives.p hE rfl) rfl ?_; clear hE a; intro a hE
            refine WL.nil ?_
            refine W.seq ?_
            refine W.condF hE rfl (decide_eq_false (by omega)) ?_
            subst hK101
            refine W.exit rfl ?_
            exact ⟨q99, q100, s97, hle98, Option.some.inj hq88, hE.pick _ ⟨rfl, rfl, rfl, rfl, rfl, rfl, rfl, rfl, trivial⟩, hS⟩
          · obtain ⟨hlt94, hx95, hd93⟩ := drop_cons hd93
            rw [PlanText.loop2] at hq88
            refine W.seq ?_
            refine W.region ?_
            refine WL.vS hS hE (runs_plain rfl) (Gives.p hE rfl) rfl ?_; clear hE a; intro a hE
            refine WL.nil ?_
            refine W.seq ?_
            refine W.condT hE rfl (decide_eq_true (by omega)) ?_
            refine W.skip ?_
            refine W.seq ?_
            refine W.block ?_
            refine W.seq ?_
            refine W.region ?_
            obtain ⟨cs102, hl103, hR104, hat105⟩ := h75.at hx95
            subst hR104
            refine WL.vS hS hE (runs_plain rfl) (Gives.idx hE k90 rfl rfl sl43 rfl hlt94 (h75.aok hlt94)) rfl ?_; clear hE a; intro a hE
            refine WL.vS hS hE (runs_plain rfl) (Gives.loadA hE rfl (fun w h => hat105 w _ h) ty42) rfl ?_; clear hE a; intro a hE
            refine WL.alloc hE hS (runs_plain rfl) zr42 rfl ?_; clear hE hS a w; intro b106 a w hE hS
            refine WL.storeI hE hS 0 rfl (ApiStop.cells x91) (runs_plain rfl) rfl rfl rfl ty42 rfl rfl rfl rfl ?_; clear hE hS a w; intro a w hE hS
            refine WL.nil ?_
            refine W.region ?_
            refine WL.vS hS hE (runs_plain rfl) (Gives.p hE rfl) rfl ?_; clear hE a; intro a hE
            refine WL.vS hS hE (runs_plain rfl) (Gives.fld hE rfl fl42_0) rfl ?_; clear hE a; intro a hE
            refine WL.vS hS hE (runs_plain rfl) (Gives.loadB hE 0 rfl rfl rfl ty3) rfl ?_; clear hE a; intro a hE
            refine WL.vS hS hE (runs_plain rfl) (Gives.fld hE rfl fl42_1) rfl ?_; clear hE a; intro a hE
            refine WL.vS hS hE (runs_plain rfl) (Gives.loadB hE 0 rfl rfl rfl ty3) rfl ?_; clear hE a; intro a hE
            refine WL.vS hS hE (runs_plain rfl) (Gives.fld hE rfl fl42_2) rfl ?_; clear hE a; intro a hE
            refine WL.vS hS hE (runs_plain rfl) (Gives.loadB hE 0 rfl rfl rfl ty3) rfl ?_; clear hE a; intro a hE
            refine WL.vS hS hE (runs_plain rfl) (Gives.fld hE rfl fl42_3) rfl ?_; clear hE a; intro a hE
            refine WL.vS hS hE (runs_plain rfl) (Gives.loadB hE 0 rfl rfl rfl ty3) rfl ?_; clear hE a; intro a hE
            refine WL.lit hE hS (e := 3) (es := 1) (vs := [(0, .int .i64 x91.Station), (1, .int .i64 x91.Track), (2, .int .i64 x91.Arr), (3, .int .i64 x91.Dep)]) (cs := [.int .i64 x91.Station, .int .i64 x91.Track, .int .i64 x91.Arr, .int .i64 x91.Dep]) (runs_plain rfl) rfl (by kernel_rfl) rfl ?_; clear hE hS a w; intro b107 a w hE hS
            replace hS := hS.ptVec (es := 1) (m := 4) rfl (by decide)
            have h109 : Ev 1 (RI .i64) s97 [.int .i64 x91.Station, .int .i64 x91.Track, .int .i64 x91.Arr, .int .i64 x91.Dep] [x91.Station, x91.Track, x91.Arr, x91.Dep] := (Ev.cons (c1 := [.int .i64 x91.Station]) rfl rfl (Ev.cons (c1 := [.int .i64 x91.Track]) rfl rfl (Ev.cons (c1 := [.int .i64 x91.Arr]) rfl rfl (Ev.cons (c1 := [.int .i64 x91.Dep]) rfl rfl (Ev.nil)))))
            have hF := hS.fixD RI.mono 0 rfl h109 (rfl); clear hS; obtain ⟨s110, hle111, hS, h112⟩ := hF
            replace h0_0 := Sl.mono RApiTrain.mono hle111 h0_0
            replace h75 := Sl.mono RApiStop.mono hle111 h75
            replace h78 := Sl.mono (RL.mono RI.mono) hle111 h78
            replace h0_1 := Sl.mono (RL.mono RI.mono) hle111 h0_1
            obtain ⟨q113, hq114, hq88⟩ := bindS hq88
            replace hS := hS.front 2 rfl
            replace hS := hS.front 2 rfl
            have hc_ := PlanText_1_v1_ok hS h112 hq114
            refine WL.fnw hE (hc_) rfl (runs_plain rfl) bd20 rfl rfl rfl ?_
            clear hE hS hc_; rintro e w ⟨rfl, hS⟩; refine ⟨_, rfl, ?_⟩; clear a; intro a hE
            refine WL.nil ?_
            refine W.region ?_
            refine WL.vS hS hE (runs_plain rfl) (Gives.inc hE rfl (by have := h75.small; omega)) rfl ?_; clear hE a; intro a hE
            refine WL.vS hS hE (runs_plain rfl) (Gives.p hE rfl) rfl ?_; clear hE a; intro a hE
            refine WL.nil ?_
            replace hS := hS.dropAt 2
            subst hK101
            exact ⟨rest92.length, Nat.lt_succ_self _, rest92, k90 + 1, q113.2, q113.1, s110, rfl, hd93, (Sg.Le.trans hle98 hle111), hq88, hE.pick _ ⟨rfl, rfl, rfl, rfl, rfl, rfl, rfl, rfl, rfl, rfl, rfl, trivial⟩, hS⟩
        · clear hE hS a w; rintro a w ⟨q99, q100, s97, hle98, rfl, hE, hS⟩
          dsimp only at hq55
          replace h0_0 := Sl.mono RApiTrain.mono hle98 h0_0
          replace h75 := Sl.mono RApiStop.mono hle98 h75
          replace h78 := Sl.mono (RL.mono RI.mono) hle98 h78
          replace h85 := Sl.mono RI.mono hle98 h85
          replace h0_1 := Sl.mono (RL.mono RI.mono) hle98 h0_1
          refine W.seq ?_
          refine W.region ?_
          refine WL.vS hS hE (runs_plain rfl) (Gives.fld hE rfl fl46_3) rfl ?_; clear hE a; intro a hE
          refine WL.vS hS hE (runs_plain rfl) (Gives.loadB hE 2 rfl rfl rfl ty44) rfl ?_; clear hE a; intro a hE
          refine WL.vS hS hE (runs_plain rfl) (Gives.len hE rfl sl44) rfl ?_; clear hE a; intro a hE
          refine WL.vS hS hE (runs_plain rfl) (Gives.p hE rfl) rfl ?_; clear hE a; intro a hE
          refine WL.nil ?_
          obtain ⟨q116, hq115, hq55⟩ := bindS hq55
          refine W.cut (fun a w => ∃ (q126 : ByteArray), ∃ (q127 : Bool), (q126, q127) = q116 ∧ Rep a 81 [(1, .pointer (some ⟨b51, 0, none⟩)), (5, .pointer (some ⟨b53, 0, none⟩)), (6, .pointer (some ⟨b54, 0, none⟩)), (7, .func (.func 20) #[] #[.pointer (some ⟨b54, 0, none⟩), .pointer (some ⟨b53, 0, none⟩)]), (23, .slice a0_0 x0.Trains.length c0_0), (24, .int .i64 ((x0.Trains).length : Int)), (25, .int .i64 ((k57 : Nat) : Int))] ∧ St w s97 (pt b54 (.cells #[.bool q127] 4 (0, 0)) :: sbC 55 5 b53 q126 :: pt b79 (.cells #[.int .i64 x58.No, .int .i64 x58.Stock, .slice a73 x58.Stops.length c74, .slice a76 x58.Legs.length c77] 46 (0, 0)) :: pt b51 (.cells #[.slice a0_0 x0.Trains.length c0_0, .slice a0_1 x0.Turns.length c0_1] 49 (0, 0)) :: R)) ?_ ?_
          · refine W.block ?_
            refine W.loop (fun m a w => ∃ (rest119 : List (List Int)) (k117 : Nat), ∃ (q126 : ByteArray), ∃ (q127 : Bool), rest119.length = m ∧ x58.Legs.drop k117 = rest119 ∧ PlanText.loop3 rest119 q126 q127 = some q116 ∧ Rep a 81 [(1, .pointer (some ⟨b51, 0, none⟩)), (5, .pointer (some ⟨b53, 0, none⟩)), (6, .pointer (some ⟨b54, 0, none⟩)), (7, .func (.func 20) #[] #[.pointer (some ⟨b54, 0, none⟩), .pointer (some ⟨b53, 0, none⟩)]), (23, .slice a0_0 x0.Trains.length c0_0), (24, .int .i64 ((x0.Trains).length : Int)), (25, .int .i64 ((k57 : Nat) : Int)), (56, .slice a76 x58.Legs.length c77), (57, .int .i64 ((x58.Legs).length : Int)), (58, .int .i64 ((k117 : Nat) : Int))] ∧ St w s97 (pt b54 (.cells #[.bool q127] 4 (0, 0)) :: sbC 55 5 b53 q126 :: pt b79 (.cells #[.int .i64 x58.No, .int .i64 x58.Stock, .slice a73 x58.Stops.length c74, .slice a76 x58.Legs.length c77] 46 (0, 0)) :: pt b51 (.cells #[.slice a0_0 x0.Trains.length c0_0, .slice a0_1 x0.Turns.length c0_1] 49 (0, 0)) :: R)) (m := x58.Legs.length) ⟨x58.Legs, 0, q99, q100, rfl, rfl, hq115, hE.pick _ ⟨rfl, rfl, rfl, rfl, rfl, rfl, rfl, rfl, rfl, rfl, trivial⟩, hS⟩ ?_
            clear hE hS a w hq115; rintro m123 a w ⟨rest119, k117, q126, q127, rfl, hd120, hq115, hE, hS⟩
            refine W.gen fun K128 hK128 => ?_
            rcases rest119 with _ | ⟨x118, rest119⟩
            · have hlt121 := drop_nil hd120
              refine W.seq ?_
              refine W.region ?_
              refine WL.vS hS hE (runs_plain rfl) (Gives.p hE rfl) rfl ?_; clear hE a; intro a hE
              refine WL.nil ?_
              refine W.seq ?_
              refine W.condF hE rfl (decide_eq_false (by omega)) ?_
              subst hK128
              refine W.exit rfl ?_
              exact ⟨q126, q127, Option.some.inj hq115, hE.pick _ ⟨rfl, rfl, rfl, rfl, rfl, rfl, rfl, trivial⟩, hS⟩
            · obtain ⟨hlt121, hx122, hd120⟩ := drop_cons hd120
              rw [PlanText.loop3] at hq115
              refine W.seq ?_
              refine W.region ?_
              refine WL.vS hS hE (runs_plain rfl) (Gives.p hE rfl) rfl ?_; clear hE a; intro a hE
              refine WL.nil ?_
              refine W.seq ?_
              refine W.condT hE rfl (decide_eq_true (by omega)) ?_
              refine W.skip ?_
              refine W.seq ?_
              refine W.block ?_
              refine W.seq ?_
              refine W.region ?_
              obtain ⟨cs129, hl130, hR131, hat132⟩ := h78.at hx122
              obtain ⟨a133, c134, rfl, h135⟩ := hR131
              refine WL.vS hS hE (runs_plain rfl) (Gives.idx hE k117 rfl rfl sl44 rfl hlt121 (h78.aok hlt121)) rfl ?_; clear hE a; intro a hE
              refine WL.vS hS hE (runs_plain rfl) (Gives.load1 hE rfl (fun w h => hat132 w _ h) ty23) rfl ?_; clear hE a; intro a hE
              refine WL.vS hS hE (runs_plain rfl) (Gives.p hE rfl) rfl ?_; clear hE a; intro a hE
              refine WL.nil ?_
              refine W.region ?_
              refine WL.vS hS hE (runs_plain rfl) (Gives.p hE rfl) rfl ?_; clear hE a; intro a hE
              refine WL.vS hS hE (runs_plain rfl) (Gives.p hE rfl) rfl ?_; clear hE a; intro a hE
              obtain ⟨q136, hq137, hq115⟩ := bindS hq115
              have hc_ := PlanText_1_v1_ok hS h135 hq137
              refine WL.fnw hE (hc_) rfl (runs_plain rfl) bd20 rfl rfl rfl ?_
              clear hE hS hc_; rintro e w ⟨rfl, hS⟩; refine ⟨_, rfl, ?_⟩; clear a; intro a hE
              refine WL.nil ?_
              refine W.region ?_
              refine WL.vS hS hE (runs_plain rfl) (Gives.inc hE rfl (by have := h78.small; omega)) rfl ?_; clear hE a; intro a hE
              refine WL.vS hS hE (runs_plain rfl) (Gives.p hE rfl) rfl ?_; clear hE a; intro a hE
              refine WL.nil ?_
              subst hK128
              exact ⟨rest119.length, Nat.lt_succ_self _, rest119, k117 + 1, q136.2, q136.1, rfl, hd120, hq115, hE.pick _ ⟨rfl, rfl, rfl, rfl, rfl, rfl, rfl, rfl, rfl, rfl, trivial⟩, hS⟩
          · clear hE hS a w; rintro a w ⟨q126, q127, rfl, hE, hS⟩
            dsimp only at hq55
            refine W.region ?_
            refine WL.vS hS hE (runs_plain rfl) (Gives.inc hE rfl (by have := h0_0.small; omega)) rfl ?_; clear hE a; intro a hE
            refine WL.vS hS hE (runs_plain rfl) (Gives.p hE rfl) rfl ?_; clear hE a; intro a hE
            refine WL.nil ?_
            replace hS := hS.dropAt 2
            subst hK68
            exact ⟨rest59.length, Nat.lt_succ_self _, rest59, k57 + 1, q126, q127, s97, rfl, hd60, (Sg.Le.trans (Sg.Le.trans hle65 hle84) hle98), hq55, hE.pick _ ⟨rfl, rfl, rfl, rfl, rfl, rfl, rfl, trivial⟩, hS⟩
    · clear hE hS a w; rintro a w ⟨q66, q67, s64, hle65, rfl, hE, hS⟩
      dsimp only at hr
      replace h0_0 := Sl.mono RApiTrain.mono hle65 h0_0
      replace h0_1 := Sl.mono (RL.mono RI.mono) hle65 h0_1
      refine W.seq ?_
      refine W.seq ?_
      refine W.region ?_
      refine WL.vS hS hE (runs_plain rfl) (Gives.fld hE rfl fl49_1) rfl ?_; clear hE a; intro a hE
      refine WL.vS hS hE (runs_plain rfl) (Gives.loadB hE 2 rfl rfl rfl ty44) rfl ?_; clear hE a; intro a hE
      refine WL.vS hS hE (runs_plain rfl) (Gives.len hE rfl sl44) rfl ?_; clear hE a; intro a hE
      refine WL.vS hS hE (runs_plain rfl) (Gives.p hE rfl) rfl ?_; clear hE a; intro a hE
      refine WL.nil ?_
      obtain ⟨q139, hq138, hr⟩ := bindS hr
      refine W.cut (fun a w => ∃ (q149 : ByteArray), ∃ (q150 : Bool), (q149, q150) = q139 ∧ Rep a 81 [(5, .pointer (some ⟨b53, 0, none⟩)), (6, .pointer (some ⟨b54, 0, none⟩))] ∧ St w s64 (pt b54 (.cells #[.bool q150] 4 (0, 0)) :: sbC 55 5 b53 q149 :: pt b51 (.cells #[.slice a0_0 x0.Trains.length c0_0, .slice a0_1 x0.Turns.length c0_1] 49 (0, 0)) :: R)) ?_ ?_
      · refine W.block ?_
        refine W.loop (fun m a w => ∃ (rest142 : List (List Int)) (k140 : Nat), ∃ (q149 : ByteArray), ∃ (q150 : Bool), rest142.length = m ∧ x0.Turns.drop k140 = rest142 ∧ PlanText.loop4 rest142 q149 q150 = some q139 ∧ Rep a 81 [(5, .pointer (some ⟨b53, 0, none⟩)), (6, .pointer (some ⟨b54, 0, none⟩)), (7, .func (.func 20) #[] #[.pointer (some ⟨b54, 0, none⟩), .pointer (some ⟨b53, 0, none⟩)]), (68, .slice a0_1 x0.Turns.length c0_1), (69, .int .i64 ((x0.Turns).length : Int)), (70, .int .i64 ((k140 : Nat) : Int))] ∧ St w s64 (pt b54 (.cells #[.bool q150] 4 (0, 0)) :: sbC 55 5 b53 q149 :: pt b51 (.cells #[.slice a0_0 x0.Trains.length c0_0, .slice a0_1 x0.Turns.length c0_1] 49 (0, 0)) :: R)) (m := x0.Turns.length) ⟨x0.Turns, 0, q66, q67, rfl, rfl, hq138, hE.pick _ ⟨rfl, rfl, rfl, rfl, rfl, rfl, trivial⟩, hS⟩ ?_
        clear hE hS a w hq138; rintro m146 a w ⟨rest142, k140, q149, q150, rfl, hd143, hq138, hE, hS⟩
        refine W.gen fun K151 hK151 => ?_
        rcases rest142 with _ | ⟨x141, rest142⟩
        · have hlt144 := drop_nil hd143
          refine W.seq ?_
          refine W.region ?_
          refine WL.vS hS hE (runs_plain rfl) (Gives.p hE rfl) rfl ?_; clear hE a; intro a hE
          refine WL.nil ?_
          refine W.seq ?_
          refine W.condF hE rfl (decide_eq_false (by omega)) ?_
          subst hK151
          refine W.exit rfl ?_
          exact ⟨q149, q150, Option.some.inj hq138, hE.pick _ ⟨rfl, rfl, trivial⟩, hS⟩
        · obtain ⟨hlt144, hx145, hd143⟩ := drop_cons hd143
          rw [PlanText.loop4] at hq138
          refine W.seq ?_
          refine W.region ?_
          refine WL.vS hS hE (runs_plain rfl) (Gives.p hE rfl) rfl ?_; clear hE a; intro a hE
          refine WL.nil ?_
          refine W.seq ?_
          refine W.condT hE rfl (decide_eq_true (by omega)) ?_
          refine W.skip ?_
          refine W.seq ?_
          refine W.block ?_
          refine W.seq ?_
          refine W.region ?_
          obtain ⟨cs152, hl153, hR154, hat155⟩ := h0_1.at hx145
          obtain ⟨a156, c157, rfl, h158⟩ := hR154
          refine WL.vS hS hE (runs_plain rfl) (Gives.idx hE k140 rfl rfl sl44 rfl hlt144 (h0_1.aok hlt144)) rfl ?_; clear hE a; intro a hE
          refine WL.vS hS hE (runs_plain rfl) (Gives.load1 hE rfl (fun w h => hat155 w _ h) ty23) rfl ?_; clear hE a; intro a hE
          refine WL.vS hS hE (runs_plain rfl) (Gives.p hE rfl) rfl ?_; clear hE a; intro a hE
          refine WL.nil ?_
          refine W.region ?_
          refine WL.vS hS hE (runs_plain rfl) (Gives.p hE rfl) rfl ?_; clear hE a; intro a hE
          refine WL.vS hS hE (runs_plain rfl) (Gives.p hE rfl) rfl ?_; clear hE a; intro a hE
          obtain ⟨q159, hq160, hq138⟩ := bindS hq138
          have hc_ := PlanText_1_v1_ok hS h158 hq160
          refine WL.fnw hE (hc_) rfl (runs_plain rfl) bd20 rfl rfl rfl ?_
          clear hE hS hc_; rintro e w ⟨rfl, hS⟩; refine ⟨_, rfl, ?_⟩; clear a; intro a hE
          refine WL.nil ?_
          refine W.region ?_
          refine WL.vS hS hE (runs_plain rfl) (Gives.inc hE rfl (by have := h0_1.small; omega)) rfl ?_; clear hE a; intro a hE
          refine WL.vS hS hE (runs_plain rfl) (Gives.p hE rfl) rfl ?_; clear hE a; intro a hE
          refine WL.nil ?_
          subst hK151
          exact ⟨rest142.length, Nat.lt_succ_self _, rest142, k140 + 1, q159.2, q159.1, rfl, hd143, hq138, hE.pick _ ⟨rfl, rfl, rfl, rfl, rfl, rfl, trivial⟩, hS⟩
      · clear hE hS a w; rintro a w ⟨q149, q150, rfl, hE, hS⟩
        dsimp only at hr
        refine W.seq ?_
        refine W.seq ?_
        refine W.region ?_
        refine WL.vS hS hE (runs_plain rfl) (Gives.loadB hE 0 rfl rfl rfl ty4) rfl ?_; clear hE a; intro a hE
        refine WL.vS hS hE (runs_plain rfl) (Gives.p hE rfl) rfl ?_; clear hE a; intro a hE
        refine WL.nil ?_
        refine W.cond hE rfl (fun hc161 => ?_) (fun hc161 => ?_)
        · replace hr := iteT hc161 hr
          refine W.seq ?_
          refine W.region ?_
          refine WL.vS hS hE (runs_plain rfl) (Gives.p hE rfl) rfl ?_; clear hE a; intro a hE
          refine WL.vS hS hE (runs_plain rfl) (Gives.p hE rfl) rfl ?_; clear hE a; intro a hE
          refine WL.nil ?_
          refine W.ret ?_
          refine finG (fn := Tryd.f15) (rs := [.tmp 2, .tmp 3]) (vs := [_, _]) hE rfl ⟨rfl, rfl, trivial⟩ ?_
          obtain rfl := Option.some.inj hr
          replace hS := hS.tail
          replace hS := hS.tail
          replace hS := hS.tail
          exact ⟨rfl, (hS.down hle65)⟩
        · replace hr := iteF hc161 hr
          refine W.skip ?_
          refine W.seq ?_
          refine W.region ?_
          replace hS := hS.front 1 rfl
          refine WL.fnq hE (sbString_ok hS) (runs_plain rfl) bd23 rfl rfl rfl ?_
          clear hE hS; rintro e w ⟨rfl, hS⟩; refine ⟨_, rfl, ?_⟩; clear a; intro a hE
          refine WL.vS hS hE (runs_plain rfl) (Gives.p hE rfl) rfl ?_; clear hE a; intro a hE
          refine WL.vS hS hE (runs_plain rfl) (Gives.p hE rfl) rfl ?_; clear hE a; intro a hE
          refine WL.nil ?_
          refine W.ret ?_
          refine finG (fn := Tryd.f15) (rs := [.tmp 2, .tmp 3]) (vs := [_, _]) hE rfl ⟨rfl, rfl, trivial⟩ ?_
          obtain rfl := Option.some.inj hr
          replace hS := hS.tail
          replace hS := hS.tail
          exact ⟨rfl, (hS.down hle65)⟩
set_option maxHeartbeats 8000000 in
theorem Fishlaw2plans_ok  {w : World} {s : Sg} {R : List HP}  (hS : St w s (R))  {r : Bool} (hr : Fishlaw2plans = some r) :
    Calls Tryd.prog 6 [].toArray w (fun e w => e = .returned (.bool r) ∧ St w s (R)) := by
  refine enter Tryd.func6 rfl rfl rfl fun a hE => ?_
  rw [Fishlaw2plans] at hr
  refine W.seq ?_
  refine W.region ?_
  refine WL.vS hS hE (runs_plain rfl) (Gives.p hE rfl) rfl ?_; clear hE a; intro a hE
  refine WL.nil ?_
  refine W.seq ?_
  refine W.region ?_
  refine WL.vS hS hE (runs_plain rfl) (Gives.build hE (vs := [(3, .int .i64 3)]) [.int .i64 0, .int .i64 0, .int .i64 0, .int .i64 3] rfl (by kernel_rfl)) rfl ?_; clear hE a; intro a hE
  refine WL.vS hS hE (runs_plain rfl) (Gives.build hE (vs := [(0, .int .i64 1), (1, .int .i64 5), (2, .int .i64 9), (3, .int .i64 9)]) [.int .i64 1, .int .i64 5, .int .i64 9, .int .i64 9] rfl (by kernel_rfl)) rfl ?_; clear hE a; intro a hE
  refine WL.lit hE hS (e := 42) (es := 4) (vs := [(0, .agg [.int .i64 0, .int .i64 0, .int .i64 0, .int .i64 3].toArray), (1, .agg [.int .i64 1, .int .i64 5, .int .i64 9, .int .i64 9].toArray)]) (cs := [.int .i64 0, .int .i64 0, .int .i64 0, .int .i64 3, .int .i64 1, .int .i64 5, .int .i64 9, .int .i64 9]) (runs_plain rfl) rfl (by kernel_rfl) rfl ?_; clear hE hS a w; intro b51 a w hE hS
  replace hS := hS.ptVec (es := 4) (m := 2) rfl (by decide)
  have h53 : Ev 4 RApiStop s [.int .i64 0, .int .i64 0, .int .i64 0, .int .i64 3, .int .i64 1, .int .i64 5, .int .i64 9, .int .i64 9] [(ApiStop.mk 0 0 0 3), (ApiStop.mk 1 5 9 9)] := (Ev.cons (c1 := [.int .i64 0, .int .i64 0, .int .i64 0, .int .i64 3]) rfl rfl (Ev.cons (c1 := [.int .i64 1, .int .i64 5, .int .i64 9, .int .i64 9]) rfl rfl (Ev.nil)))
  have hF := hS.fixD RApiStop.mono 0 rfl h53 (rfl); clear hS; obtain ⟨s54, hle55, hS, h56⟩ := hF
  refine WL.lit hE hS (e := 3) (es := 1) (vs := [(0, .int .i64 0), (1, .int .i64 3)]) (cs := [.int .i64 0, .int .i64 3]) (runs_plain rfl) rfl (by kernel_rfl) rfl ?_; clear hE hS a w; intro b57 a w hE hS
  replace hS := hS.ptVec (es := 1) (m := 2) rfl (by decide)
  have h59 : Ev 1 (RI .i64) s54 [.int .i64 0, .int .i64 3] [0, 3] := (Ev.cons (c1 := [.int .i64 0]) rfl rfl (Ev.cons (c1 := [.int .i64 3]) rfl rfl (Ev.nil)))
  have hF := hS.fixD RI.mono 0 rfl h59 (rfl); clear hS; obtain ⟨s60, hle61, hS, h62⟩ := hF
  replace h56 := Sl.mono RApiStop.mono hle61 h56
  refine WL.lit hE hS (e := 23) (es := 1) (vs := [(0, .slice (some ⟨b57, 0, none⟩) 2 2)]) (cs := [.slice (some ⟨b57, 0, none⟩) 2 2]) (runs_plain rfl) rfl (by kernel_rfl) rfl ?_; clear hE hS a w; intro b63 a w hE hS
  replace hS := hS.ptVec (es := 1) (m := 1) rfl (by decide)
  have h65 : Ev 1 (RL 1 (RI .i64)) s60 [.slice (some ⟨b57, 0, none⟩) 2 2] [[0, 3]] := (Ev.cons (c1 := [.slice (some ⟨b57, 0, none⟩) 2 2]) ⟨_, _, rfl, h62⟩ rfl (Ev.nil))
  have hF := hS.fixD (RL.mono RI.mono) 0 rfl h65 (rfl); clear hS; obtain ⟨s66, hle67, hS, h68⟩ := hF
  replace h56 := Sl.mono RApiStop.mono hle67 h56
  replace h62 := Sl.mono RI.mono hle67 h62
  refine WL.vS hS hE (runs_plain rfl) (Gives.build hE (vs := [(0, .int .i64 7), (2, .slice (some ⟨b51, 0, none⟩) 2 2), (3, .slice (some ⟨b63, 0, none⟩) 1 1)]) [.int .i64 7, .int .i64 0, .slice (some ⟨b51, 0, none⟩) 2 2, .slice (some ⟨b63, 0, none⟩) 1 1] rfl (by kernel_rfl)) rfl ?_; clear hE a; intro a hE
  refine WL.lit hE hS (e := 46) (es := 4) (vs := [(0, .agg [.int .i64 7, .int .i64 0, .slice (some ⟨b51, 0, none⟩) 2 2, .slice (some ⟨b63, 0, none⟩) 1 1].toArray)]) (cs := [.int .i64 7, .int .i64 0, .slice (some ⟨b51, 0, none⟩) 2 2, .slice (some ⟨b63, 0, none⟩) 1 1]) (runs_plain rfl) rfl (by kernel_rfl) rfl ?_; clear hE hS a w; intro b69 a w hE hS
  replace hS := hS.ptVec (es := 4) (m := 1) rfl (by decide)
  have h71 : Ev 4 RApiTrain s66 [.int .i64 7, .int .i64 0, .slice (some ⟨b51, 0, none⟩) 2 2, .slice (some ⟨b63, 0, none⟩) 1 1] [(ApiTrain.mk 7 0 [(ApiStop.mk 0 0 0 3), (ApiStop.mk 1 5 9 9)] [[0, 3]])] := (Ev.cons (c1 := [.int .i64 7, .int .i64 0, .slice (some ⟨b51, 0, none⟩) 2 2, .slice (some ⟨b63, 0, none⟩) 1 1]) ⟨_, _, _, _, rfl, h56, h68⟩ rfl (Ev.nil))
  have hF := hS.fixD RApiTrain.mono 0 rfl h71 (rfl); clear hS; obtain ⟨s72, hle73, hS, h74⟩ := hF
  replace h56 := Sl.mono RApiStop.mono hle73 h56
  replace h62 := Sl.mono RI.mono hle73 h62
  replace h68 := Sl.mono (RL.mono RI.mono) hle73 h68
  refine WL.lit hE hS (e := 3) (es := 1) (vs := [(0, .int .i64 0)]) (cs := [.int .i64 0]) (runs_plain rfl) rfl (by kernel_rfl) rfl ?_; clear hE hS a w; intro b75 a w hE hS
  replace hS := hS.ptVec (es := 1) (m := 1) rfl (by decide)
  have h77 : Ev 1 (RI .i64) s72 [.int .i64 0] [0] := (Ev.cons (c1 := [.int .i64 0]) rfl rfl (Ev.nil))
  have hF := hS.fixD RI.mono 0 rfl h77 (rfl); clear hS; obtain ⟨s78, hle79, hS, h80⟩ := hF
  replace h56 := Sl.mono RApiStop.mono hle79 h56
  replace h62 := Sl.mono RI.mono hle79 h62
  replace h68 := Sl.mono (RL.mono RI.mono) hle79 h68
  replace h74 := Sl.mono RApiTrain.mono hle79 h74
  refine WL.lit hE hS (e := 23) (es := 1) (vs := [(0, .slice (some ⟨b75, 0, none⟩) 1 1)]) (cs := [.slice (some ⟨b75, 0, none⟩) 1 1]) (runs_plain rfl) rfl (by kernel_rfl) rfl ?_; clear hE hS a w; intro b81 a w hE hS
  replace hS := hS.ptVec (es := 1) (m := 1) rfl (by decide)
  have h83 : Ev 1 (RL 1 (RI .i64)) s78 [.slice (some ⟨b75, 0, none⟩) 1 1] [[0]] := (Ev.cons (c1 := [.slice (some ⟨b75, 0, none⟩) 1 1]) ⟨_, _, rfl, h80⟩ rfl (Ev.nil))
  have hF := hS.fixD (RL.mono RI.mono) 0 rfl h83 (rfl); clear hS; obtain ⟨s84, hle85, hS, h86⟩ := hF
  replace h56 := Sl.mono RApiStop.mono hle85 h56
  replace h62 := Sl.mono RI.mono hle85 h62
  replace h68 := Sl.mono (RL.mono RI.mono) hle85 h68
  replace h74 := Sl.mono RApiTrain.mono hle85 h74
  replace h80 := Sl.mono RI.mono hle85 h80
  refine WL.vS hS hE (runs_plain rfl) (Gives.build hE (vs := [(0, .slice (some ⟨b69, 0, none⟩) 1 1), (1, .slice (some ⟨b81, 0, none⟩) 1 1)]) [.slice (some ⟨b69, 0, none⟩) 1 1, .slice (some ⟨b81, 0, none⟩) 1 1] rfl (by kernel_rfl)) rfl ?_; clear hE a; intro a hE
  obtain ⟨q87, hq88, hr⟩ := bindS hr
  have hc_ := PlanText_ok hS h74 h86 hq88
  refine WL.fnq hE (hc_) (runs_plain rfl) bd15 rfl rfl rfl ?_
  clear hE hS hc_; rintro e w ⟨rfl, hS⟩; refine ⟨_, rfl, ?_⟩; clear a; intro a hE
  refine WL.vS hS hE (runs_plain rfl) (Gives.p hE rfl) rfl ?_; clear hE a; intro a hE
  refine WL.vS hS hE (runs_plain rfl) (Gives.p hE rfl) rfl ?_; clear hE a; intro a hE
  refine WL.vS hS hE (runs_plain rfl) (Gives.p hE rfl) rfl ?_; clear hE a; intro a hE
  refine WL.vS hS hE (runs_plain rfl) (Gives.p hE rfl) rfl ?_; clear hE a; intro a hE
  refine WL.vS hS hE (runs_plain rfl) (Gives.p hE rfl) rfl ?_; clear hE a; intro a hE
  refine WL.nil ?_
  refine W.seq ?_
  obtain ⟨q90, hq89, hr⟩ := bndS hr
  refine W.cut (fun a w => ∃ (q93 : Bool), q93 = q90 ∧ Rep a 23 [(0, .bool q93)] ∧ St w s84 (R)) ?_ ?_
  · refine W.gen fun K94 hK94 => ?_
    refine W.region ?_
    refine WL.vS hS hE (runs_plain rfl) (Gives.p hE rfl) rfl ?_; clear hE a; intro a hE
    refine WL.vS hS hE (runs_plain rfl) (Gives.p hE rfl) rfl ?_; clear hE a; intro a hE
    refine WL.vS hS hE (runs_plain rfl) (Gives.p hE rfl) rfl ?_; clear hE a; intro a hE
    rcases Bool.eq_false_or_eq_true (q87.2 == 0) with hg95 | hg95
    · replace hq89 := iteT hg95 hq89
      refine WL.vS hS hE (runs_if hE rfl rfl rfl hg95) (Gives.p hE rfl) rfl ?_; clear hE a; intro a hE
      refine WL.vS hS hE (runs_if hE rfl rfl rfl hg95) (Gives.eqSt hE rfl rfl) rfl ?_; clear hE a; intro a hE
      refine WL.vS hS hE (runs_plain rfl) (Gives.pickT hE rfl hg95 rfl) rfl ?_; clear hE a; intro a hE
      refine WL.vS hS hE (runs_plain rfl) (Gives.p hE rfl) rfl ?_; clear hE a; intro a hE
      refine WL.nil ?_
      subst hK94
      exact ⟨(seq q87.1 (str [116, 114, 97, 105, 110, 32, 55, 32, 48, 10, 115, 116, 111, 112, 32, 48, 32, 48, 32, 48, 32, 51, 10, 115, 116, 111, 112, 32, 49, 32, 53, 32, 57, 32, 57, 10, 108, 101, 103, 32, 48, 32, 51, 10, 116, 117, 114, 110, 32, 48, 10])), hq89, hE.pick _ ⟨rfl, trivial⟩, hS⟩
    · replace hq89 := iteF hg95 hq89
      refine WL.no hE (runs_not hE rfl rfl rfl (by rw [hg95]; decide)) rfl ?_; clear hE a; intro a hE
      refine WL.no hE (runs_not hE rfl rfl rfl (by rw [hg95]; decide)) rfl ?_; clear hE a; intro a hE
      refine WL.vS hS hE (runs_plain rfl) (Gives.pickF hE rfl hg95 rfl) rfl ?_; clear hE a; intro a hE
      refine WL.vS hS hE (runs_plain rfl) (Gives.p hE rfl) rfl ?_; clear hE a; intro a hE
      refine WL.nil ?_
      subst hK94
      exact ⟨false, hq89, hE.pick _ ⟨rfl, trivial⟩, hS⟩
  · clear hE hS a w; rintro a w ⟨q93, rfl, hE, hS⟩
    refine W.ret ?_
    refine finG (fn := Tryd.f6) (rs := [.tmp 0]) (vs := [_]) hE rfl ⟨rfl, trivial⟩ ?_
    obtain rfl := Option.some.inj hr
    exact ⟨rfl, (hS.down (Sg.Le.trans (Sg.Le.trans (Sg.Le.trans (Sg.Le.trans (Sg.Le.trans hle55 hle61) hle67) hle73) hle79) hle85))⟩
set_option maxHeartbeats 8000000 in
theorem SlicesEqualLint_ok  {w : World} {s : Sg} {R : List HP} {x0 : List Int} {a0 : Option Addr} {c0 : Nat} {x1 : List Int} {a1 : Option Addr} {c1 : Nat} (hS : St w s (R)) (h0 : Sl 1 (RI .i64) s a0 c0 x0) (h1 : Sl 1 (RI .i64) s a1 c1 x1) {r : Bool} (hr : SlicesEqualLint x0 x1 = some r) :
    Calls Tryd.prog 7 [.slice a0 x0.length c0, .slice a1 x1.length c1].toArray w (fun e w => e = .returned (.bool r) ∧ St w s (R)) := by
  refine enter Tryd.func7 rfl rfl rfl fun a hE => ?_
  rw [SlicesEqualLint] at hr
  refine W.seq ?_
  refine W.region ?_
  refine WL.vS hS hE (runs_plain rfl) (Gives.p hE rfl) rfl ?_; clear hE a; intro a hE
  refine WL.nil ?_
  refine W.seq ?_
  refine W.seq ?_
  refine W.region ?_
  refine WL.vS hS hE (runs_plain rfl) (Gives.p hE rfl) rfl ?_; clear hE a; intro a hE
  refine WL.vS hS hE (runs_plain rfl) (Gives.len hE rfl sl23) rfl ?_; clear hE a; intro a hE
  refine WL.vS hS hE (runs_plain rfl) (Gives.p hE rfl) rfl ?_; clear hE a; intro a hE
  refine WL.vS hS hE (runs_plain rfl) (Gives.len hE rfl sl23) rfl ?_; clear hE a; intro a hE
  refine WL.vS hS hE (runs_plain rfl) (Gives.p hE rfl) rfl ?_; clear hE a; intro a hE
  refine WL.nil ?_
  refine W.cond hE rfl (fun hc51 => ?_) (fun hc51 => ?_)
  · replace hr := iteT hc51 hr
    refine W.seq ?_
    refine W.region ?_
    refine WL.vS hS hE (runs_plain rfl) (Gives.p hE rfl) rfl ?_; clear hE a; intro a hE
    refine WL.nil ?_
    refine W.ret ?_
    refine finG (fn := Tryd.f7) (rs := [.tmp 4]) (vs := [_]) hE rfl ⟨rfl, trivial⟩ ?_
    obtain rfl := Option.some.inj hr
    exact ⟨rfl, hS⟩
  · replace hr := iteF hc51 hr
    refine W.skip ?_
    refine W.seq ?_
    refine W.seq ?_
    refine W.region ?_
    refine WL.vS hS hE (runs_plain rfl) (Gives.p hE rfl) rfl ?_; clear hE a; intro a hE
    refine WL.vS hS hE (runs_plain rfl) (Gives.len hE rfl sl23) rfl ?_; clear hE a; intro a hE
    refine WL.vS hS hE (runs_plain rfl) (Gives.p hE rfl) rfl ?_; clear hE a; intro a hE
    refine WL.nil ?_
    obtain ⟨q53, hq52, hr⟩ := bindS hr
    refine W.cut (fun a w => (.next ()) = q53 ∧ Rep a 26 [] ∧ St w s (R)) ?_ ?_
    · refine W.block ?_
      refine W.loop (fun m a w => ∃ (rest56 : List Int) (k54 : Nat), rest56.length = m ∧ x0.drop k54 = rest56 ∧ SlicesEqualLint.loop1 x1 rest56 k54 = some q53 ∧ Rep a 26 [(0, .slice a0 x0.length c0), (1, .slice a1 x1.length c1), (12, .int .i64 ((x0).length : Int)), (13, .int .i64 ((k54 : Nat) : Int))] ∧ St w s (R)) (m := x0.length) ⟨x0, 0, rfl, rfl, hq52, hE.pick _ ⟨rfl, rfl, rfl, rfl, trivial⟩, hS⟩ ?_
      clear hE hS a w hq52; rintro m60 a w ⟨rest56, k54, rfl, hd57, hq52, hE, hS⟩
      refine W.gen fun K63 hK63 => ?_
      rcases rest56 with _ | ⟨x55, rest56⟩
      · have hlt58 := drop_nil hd57
        refine W.seq ?_
        refine W.region ?_
        refine WL.vS hS hE (runs_plain rfl) (Gives.p hE rfl) rfl ?_; clear hE a; intro a hE
        refine WL.nil ?_
        refine W.seq ?_
        refine W.condF hE rfl (decide_eq_false (by omega)) ?_
        subst hK63
        refine W.exit rfl ?_
        exact ⟨Option.some.inj hq52, hE.pick _ trivial, hS⟩
      · obtain ⟨hlt58, hx59, hd57⟩ := drop_cons hd57
        rw [SlicesEqualLint.loop1] at hq52
        refine W.seq ?_
        refine W.region ?_
        refine WL.vS hS hE (runs_plain rfl) (Gives.p hE rfl) rfl ?_; clear hE a; intro a hE
        refine WL.nil ?_
        refine W.seq ?_
        refine W.condT hE rfl (decide_eq_true (by omega)) ?_
        refine W.skip ?_
        refine W.seq ?_
        refine W.block ?_
        refine W.seq ?_
        refine W.region ?_
        refine WL.vS hS hE (runs_plain rfl) (Gives.p hE rfl) rfl ?_; clear hE a; intro a hE
        refine WL.vS hS hE (runs_plain rfl) (Gives.p hE rfl) rfl ?_; clear hE a; intro a hE
        refine WL.nil ?_
        refine W.seq ?_
        refine W.regionQ (C := fun w => St w s (R)) mixed (by kernel_rfl) hS.drew ?_
        refine QL.v hE (runs_plain rfl) (Gives.p hE rfl) rfl ?_; clear hE a; intro a hE
        refine QL.v hE (runs_plain rfl) (Gives.p hE rfl) rfl ?_; clear hE a; intro a hE
        obtain ⟨cs64, hl65, hR66, hat67⟩ := h0.at hx59
        subst hR66
        refine QL.v hE (runs_plain rfl) (Gives.idx hE k54 rfl rfl sl23 rfl hlt58 (h0.aok hlt58)) rfl ?_; clear hE a; intro a hE
        refine QL.v hE (runs_plain rfl) (Gives.load1 hE rfl (fun w h => hat67 w _ h) ty3) rfl ?_; clear hE a; intro a hE
        refine QL.v hE (runs_plain rfl) (Gives.p hE rfl) rfl ?_; clear hE a; intro a hE
        refine QL.v hE (runs_plain rfl) (Gives.p hE rfl) rfl ?_; clear hE a; intro a hE
        obtain ⟨x68, hx69, hq52⟩ := bindS hq52
        obtain ⟨hi70, hlt71, hy72⟩ := gx_some hx69
        obtain ⟨cs73, hl74, hR75, hat76⟩ := h1.at hy72
        subst hR75
        refine QL.v hE (runs_plain rfl) (Gives.idx hE (((k54 : Nat) : Int)).toNat rfl rfl sl23 hi70 hlt71 (h1.aok hlt71)) rfl ?_; clear hE a; intro a hE
        refine QL.v hE (runs_plain rfl) (Gives.load1 hE rfl (fun w h => hat76 w _ h) ty3) rfl ?_; clear hE a; intro a hE
        refine QL.v hE (runs_plain rfl) (Gives.p hE rfl) rfl ?_; clear hE a; intro a hE
        refine QL.nil ?_; clear hS w; intro w hS
        refine W.cond hE rfl (fun hc77 => ?_) (fun hc77 => ?_)
        · replace hq52 := iteT hc77 hq52
          refine W.seq ?_
          refine W.region ?_
          refine WL.vS hS hE (runs_plain rfl) (Gives.p hE rfl) rfl ?_; clear hE a; intro a hE
          refine WL.nil ?_
          refine W.ret ?_
          subst hK63
          rw [← Option.some.inj hq52] at hr
          dsimp only at hr
          refine finG (fn := Tryd.f7) (rs := [.tmp 4]) (vs := [_]) hE rfl ⟨rfl, trivial⟩ ?_
          obtain rfl := Option.some.inj hr
          exact ⟨rfl, hS⟩
        · replace hq52 := iteF hc77 hq52
          refine W.skip ?_
          refine W.region ?_
          refine WL.vS hS hE (runs_plain rfl) (Gives.inc hE rfl (by have := h0.small; omega)) rfl ?_; clear hE a; intro a hE
          refine WL.vS hS hE (runs_plain rfl) (Gives.p hE rfl) rfl ?_; clear hE a; intro a hE
          refine WL.nil ?_
          subst hK63
          exact ⟨rest56.length, Nat.lt_succ_self _, rest56, k54 + 1, rfl, hd57, hq52, hE.pick _ ⟨rfl, rfl, rfl, rfl, trivial⟩, hS⟩
    · clear hE hS a w; rintro a w ⟨rfl, hE, hS⟩
      dsimp only at hr
      refine W.seq ?_
      refine W.region ?_
      refine WL.vS hS hE (runs_plain rfl) (Gives.p hE rfl) rfl ?_; clear hE a; intro a hE
      refine WL.nil ?_
      refine W.ret ?_
      refine finG (fn := Tryd.f7) (rs := [.tmp 4]) (vs := [_]) hE rfl ⟨rfl, trivial⟩ ?_
      obtain rfl := Option.some.inj hr
      exact ⟨rfl, hS⟩
set_option maxHeartbeats 8000000 in
theorem Fishlaw2PlanAssigns_ok {fu : Nat}  {w : World} {s : Sg} {R : List HP} {x0 : List PlanStay} {a0 : Option Addr} {c0 : Nat} (hS : St w s (R)) (h0 : Sl 3 RPlanStay s a0 c0 x0) {r : Bool} (hr : Fishlaw2PlanAssigns fu x0 = some r) :
    Calls Tryd.prog 3 [.slice a0 x0.length c0].toArray w (fun e w => e = .returned (.bool r) ∧ St w s (R)) := by
  refine enter Tryd.func3 rfl rfl rfl fun a hE => ?_
  rw [Fishlaw2PlanAssigns] at hr
  refine W.seq ?_
  refine W.region ?_
  refine WL.vS hS hE (runs_plain rfl) (Gives.p hE rfl) rfl ?_; clear hE a; intro a hE
  refine WL.nil ?_
  refine W.seq ?_
  refine W.region ?_
  refine WL.vS hS hE (runs_plain rfl) (Gives.p hE rfl) rfl ?_; clear hE a; intro a hE
  obtain ⟨q51, hq52, hr⟩ := bindS hr
  have hc_ := PlanAssign_ok hS h0 hq52
  refine WL.fnq hE (hc_) (runs_plain rfl) bd4 rfl rfl rfl ?_
  clear hE hS hc_; rintro e w ⟨a53, c54, n55, cs56, rfl, h57, rfl, hS⟩; refine ⟨_, rfl, ?_⟩; clear a; intro a hE
  refine WL.vS hS hE (runs_plain rfl) (Gives.p hE rfl) rfl ?_; clear hE a; intro a hE
  refine WL.vS hS hE (runs_plain rfl) (Gives.p hE rfl) rfl ?_; clear hE a; intro a hE
  refine WL.vS hS hE (runs_plain rfl) (Gives.p hE rfl) rfl ?_; clear hE a; intro a hE
  refine WL.vS hS hE (runs_plain rfl) (Gives.p hE rfl) rfl ?_; clear hE a; intro a hE
  refine WL.vS hS hE (runs_plain rfl) (Gives.p hE rfl) rfl ?_; clear hE a; intro a hE
  refine WL.nil ?_
  refine W.seq ?_
  refine W.region ?_
  refine WL.vS hS hE (runs_plain rfl) (Gives.p hE rfl) rfl ?_; clear hE a; intro a hE
  obtain ⟨q59, hq60, hr⟩ := bindS hr
  have hc_ := Fishref2AssignStays_ok hS h0 hq60
  refine WL.fnq hE (hc_) (runs_plain rfl) bd5 rfl rfl rfl ?_
  clear hE hS hc_; rintro e w ⟨a61, c62, n63, cs64, rfl, h65, rfl, hS⟩; refine ⟨_, rfl, ?_⟩; clear a; intro a hE
  refine WL.vS hS hE (runs_plain rfl) (Gives.p hE rfl) rfl ?_; clear hE a; intro a hE
  refine WL.vS hS hE (runs_plain rfl) (Gives.p hE rfl) rfl ?_; clear hE a; intro a hE
  refine WL.vS hS hE (runs_plain rfl) (Gives.p hE rfl) rfl ?_; clear hE a; intro a hE
  refine WL.vS hS hE (runs_plain rfl) (Gives.p hE rfl) rfl ?_; clear hE a; intro a hE
  refine WL.vS hS hE (runs_plain rfl) (Gives.p hE rfl) rfl ?_; clear hE a; intro a hE
  refine WL.nil ?_
  refine W.seq ?_
  obtain ⟨q68, hq67, hr⟩ := bindS hr
  refine W.cut (fun a w => ∃ (q71 : Bool), q71 = q68 ∧ Rep a 28 [(2, .bool q71)] ∧ St w s (R)) ?_ ?_
  · refine W.gen fun K72 hK72 => ?_
    refine W.region ?_
    obtain ⟨q73, hq74, hq67⟩ := bindS hq67
    have hc_ := Fishlaw2plans_ok hS  hq74
    refine WL.fnq hE (hc_) (runs_plain rfl) bd6 rfl rfl rfl ?_
    clear hE hS hc_; rintro e w ⟨rfl, hS⟩; refine ⟨_, rfl, ?_⟩; clear a; intro a hE
    refine WL.vS hS hE (runs_plain rfl) (Gives.p hE rfl) rfl ?_; clear hE a; intro a hE
    rcases Bool.eq_false_or_eq_true q73 with hg75 | hg75
    · replace hq67 := iteT hg75 hq67
      refine WL.vS hS hE (runs_if hE rfl rfl rfl hg75) (Gives.p hE rfl) rfl ?_; clear hE a; intro a hE
      refine WL.vS hS hE (runs_if hE rfl rfl rfl hg75) (Gives.p hE rfl) rfl ?_; clear hE a; intro a hE
      refine WL.vS hS hE (runs_if hE rfl rfl rfl hg75) (Gives.p hE rfl) rfl ?_; clear hE a; intro a hE
      refine WL.vS hS hE (runs_plain rfl) (Gives.pickT hE rfl hg75 rfl) rfl ?_; clear hE a; intro a hE
      refine WL.vS hS hE (runs_plain rfl) (Gives.p hE rfl) rfl ?_; clear hE a; intro a hE
      rcases Bool.eq_false_or_eq_true (q51.2 == q59.2) with hg76 | hg76
      · replace hq67 := iteT hg76 hq67
        refine WL.vS hS hE (runs_if hE rfl rfl rfl hg76) (Gives.p hE rfl) rfl ?_; clear hE a; intro a hE
        refine WL.vS hS hE (runs_if hE rfl rfl rfl hg76) (Gives.p hE rfl) rfl ?_; clear hE a; intro a hE
        obtain ⟨q77, hq78, hq67⟩ := bindS hq67
        have hF := hS.lendV RI.mono 1 rfl h57 rfl; clear hS; obtain ⟨t79, hle80, hS, hs81, bk82⟩ := hF
        have hF := hS.lendV RI.mono 0 rfl (Ev.mono RI.mono hle80 h65) rfl; clear hS; obtain ⟨t83, hle84, hS, hs85, bk86⟩ := hF
        have hc_ := SlicesEqualLint_ok hS (Sl.mono RI.mono hle84 hs81) hs85 hq78
        refine WL.fnq hE (hc_) (runs_if hE rfl rfl rfl hg76) bd7 rfl rfl rfl ?_
        clear hE hS hc_; rintro e w ⟨rfl, hS⟩; refine ⟨_, rfl, ?_⟩; clear a; intro a hE
        replace hS := bk86 _ _ hS
        replace hS := bk82 _ _ hS
        refine WL.vS hS hE (runs_plain rfl) (Gives.pickT hE rfl hg76 rfl) rfl ?_; clear hE a; intro a hE
        refine WL.vS hS hE (runs_plain rfl) (Gives.p hE rfl) rfl ?_; clear hE a; intro a hE
        refine WL.nil ?_
        replace hS := hS.tail
        replace hS := hS.tail
        subst hK72
        exact ⟨q77, Option.some.inj hq67, hE.pick _ ⟨rfl, trivial⟩, hS⟩
      · replace hq67 := iteF hg76 hq67
        refine WL.no hE (runs_not hE rfl rfl rfl (by rw [hg76]; decide)) rfl ?_; clear hE a; intro a hE
        refine WL.no hE (runs_not hE rfl rfl rfl (by rw [hg76]; decide)) rfl ?_; clear hE a; intro a hE
        refine WL.no hE (runs_not hE rfl rfl rfl (by rw [hg76]; decide)) rfl ?_; clear hE a; intro a hE
        refine WL.vS hS hE (runs_plain rfl) (Gives.pickF hE rfl hg76 rfl) rfl ?_; clear hE a; intro a hE
        refine WL.vS hS hE (runs_plain rfl) (Gives.p hE rfl) rfl ?_; clear hE a; intro a hE
        refine WL.nil ?_
        replace hS := hS.tail
        replace hS := hS.tail
        subst hK72
        exact ⟨false, Option.some.inj hq67, hE.pick _ ⟨rfl, trivial⟩, hS⟩
    · replace hq67 := iteF hg75 hq67
      refine WL.no hE (runs_not hE rfl rfl rfl (by rw [hg75]; decide)) rfl ?_; clear hE a; intro a hE
      refine WL.no hE (runs_not hE rfl rfl rfl (by rw [hg75]; decide)) rfl ?_; clear hE a; intro a hE
      refine WL.no hE (runs_not hE rfl rfl rfl (by rw [hg75]; decide)) rfl ?_; clear hE a; intro a hE
      refine WL.vS hS hE (runs_plain rfl) (Gives.pickF hE rfl hg75 rfl) rfl ?_; clear hE a; intro a hE
      refine WL.vS hS hE (runs_plain rfl) (Gives.p hE rfl) rfl ?_; clear hE a; intro a hE
      refine WL.no hE (runs_not hE rfl rfl rfl (by decide)) rfl ?_; clear hE a; intro a hE
      refine WL.no hE (runs_not hE rfl rfl rfl (by decide)) rfl ?_; clear hE a; intro a hE
      refine WL.no hE (runs_not hE rfl rfl rfl (by decide)) rfl ?_; clear hE a; intro a hE
      refine WL.vS hS hE (runs_plain rfl) (Gives.pickF hE rfl rfl rfl) rfl ?_; clear hE a; intro a hE
      refine WL.vS hS hE (runs_plain rfl) (Gives.p hE rfl) rfl ?_; clear hE a; intro a hE
      refine WL.nil ?_
      replace hS := hS.tail
      replace hS := hS.tail
      subst hK72
      exact ⟨false, Option.some.inj hq67, hE.pick _ ⟨rfl, trivial⟩, hS⟩
  · clear hE hS a w; rintro a w ⟨q71, rfl, hE, hS⟩
    refine W.ret ?_
    refine finG (fn := Tryd.f3) (rs := [.tmp 2]) (vs := [_]) hE rfl ⟨rfl, trivial⟩ ?_
    obtain rfl := Option.some.inj hr
    exact ⟨rfl, hS⟩
end Go.Proofs.YtpogcicepceljaaDoor
