/- The walks of the functions that FleetShifts reaches: each call comes to what its mirror says. The conditions are those of each contract. -/
import Derived.Test.YtpoooohaoekbaaaProg
import Derived.Test.YtpoooohaoekbaaaFleetShiftsM
import Derived.Test.YtpoooohaoekbaaaFpMore
namespace Go.Proofs.Ytpoooohaoekbaaa
open Go Go.Fp
theorem ap104 : apOk Try.prog 104 4 1 = true := by kernel_rfl
theorem ap22 : apOk Try.prog 22 3 1 = true := by kernel_rfl
theorem ar102 : arOk Try.prog 102 7 = true := by kernel_rfl
theorem ar91 : arOk Try.prog 91 6 = true := by kernel_rfl
theorem bd16 : bodied Try.prog 16 = true := by kernel_rfl
theorem bd17 : bodied Try.prog 17 = true := by kernel_rfl
theorem bd19 : bodied Try.prog 19 = true := by kernel_rfl
theorem bd24 : bodied Try.prog 24 = true := by kernel_rfl
theorem bd26 : bodied Try.prog 26 = true := by kernel_rfl
theorem bd27 : bodied Try.prog 27 = true := by kernel_rfl
theorem bd28 : bodied Try.prog 28 = true := by kernel_rfl
theorem bd29 : bodied Try.prog 29 = true := by kernel_rfl
theorem bd30 : bodied Try.prog 30 = true := by kernel_rfl
theorem bd31 : bodied Try.prog 31 = true := by kernel_rfl
theorem bd32 : bodied Try.prog 32 = true := by kernel_rfl
theorem bd34 : bodied Try.prog 34 = true := by kernel_rfl
theorem bd36 : bodied Try.prog 36 = true := by kernel_rfl
theorem bd37 : bodied Try.prog 37 = true := by kernel_rfl
theorem bd49 : bodied Try.prog 49 = true := by kernel_rfl
theorem bd50 : bodied Try.prog 50 = true := by kernel_rfl
theorem bd51 : bodied Try.prog 51 = true := by kernel_rfl
theorem bd52 : bodied Try.prog 52 = true := by kernel_rfl
theorem bd53 : bodied Try.prog 53 = true := by kernel_rfl
theorem bd58 : bodied Try.prog 58 = true := by kernel_rfl
theorem bd59 : bodied Try.prog 59 = true := by kernel_rfl
theorem bd60 : bodied Try.prog 60 = true := by kernel_rfl
theorem bd61 : bodied Try.prog 61 = true := by kernel_rfl
theorem bd67 : bodied Try.prog 67 = true := by kernel_rfl
theorem bd69 : bodied Try.prog 69 = true := by kernel_rfl
theorem bd70 : bodied Try.prog 70 = true := by kernel_rfl
theorem bd71 : bodied Try.prog 71 = true := by kernel_rfl
theorem bd72 : bodied Try.prog 72 = true := by kernel_rfl
theorem bd76 : bodied Try.prog 76 = true := by kernel_rfl
theorem bd77 : bodied Try.prog 77 = true := by kernel_rfl
theorem bd78 : bodied Try.prog 78 = true := by kernel_rfl
theorem bd79 : bodied Try.prog 79 = true := by kernel_rfl
theorem fl35_0 : fldOk Try.prog 35 0 0 = true := by kernel_rfl
theorem fl35_1 : fldOk Try.prog 35 1 1 = true := by kernel_rfl
theorem fl35_2 : fldOk Try.prog 35 2 2 = true := by kernel_rfl
theorem fl35_3 : fldOk Try.prog 35 3 3 = true := by kernel_rfl
theorem fl35_4 : fldOk Try.prog 35 4 4 = true := by kernel_rfl
theorem fl35_5 : fldOk Try.prog 35 5 5 = true := by kernel_rfl
theorem fl35_6 : fldOk Try.prog 35 6 6 = true := by kernel_rfl
theorem fl84_0 : fldOk Try.prog 84 0 0 = true := by kernel_rfl
theorem fl84_1 : fldOk Try.prog 84 1 1 = true := by kernel_rfl
theorem fl84_2 : fldOk Try.prog 84 2 2 = true := by kernel_rfl
theorem fl84_3 : fldOk Try.prog 84 3 3 = true := by kernel_rfl
theorem fl84_4 : fldOk Try.prog 84 4 4 = true := by kernel_rfl
theorem fl84_5 : fldOk Try.prog 84 5 5 = true := by kernel_rfl
theorem fl90_0 : fldOk Try.prog 90 0 0 = true := by kernel_rfl
theorem fl90_1 : fldOk Try.prog 90 1 1 = true := by kernel_rfl
theorem fl90_2 : fldOk Try.prog 90 2 2 = true := by kernel_rfl
theorem mixed : Try.prog.follows .mixedOrders = true := by kernel_rfl
theorem sl104 : slOk Try.prog 104 4 1 = true := by kernel_rfl
theorem sl22 : slOk Try.prog 22 3 1 = true := by kernel_rfl
theorem sl23 : slOk Try.prog 23 22 1 = true := by kernel_rfl
theorem sl33 : slOk Try.prog 33 84 6 = true := by kernel_rfl
theorem sl50 : slOk Try.prog 50 90 3 = true := by kernel_rfl
theorem ty102 : tyOk Try.prog 102 true 7 = true := by kernel_rfl
theorem ty22 : tyOk Try.prog 22 false 1 = true := by kernel_rfl
theorem ty3 : tyOk Try.prog 3 false 1 = true := by kernel_rfl
theorem ty35 : tyOk Try.prog 35 true 7 = true := by kernel_rfl
theorem ty4 : tyOk Try.prog 4 false 1 = true := by kernel_rfl
theorem ty84 : tyOk Try.prog 84 true 6 = true := by kernel_rfl
theorem ty90 : tyOk Try.prog 90 true 3 = true := by kernel_rfl
theorem zr102 : (Try.prog.info? 102).bind (fun i => i.zero.map fun z => z.cells.toList) = some [.int .i64 0, .int .i64 0, .int .i64 0, .int .i64 0, .int .i64 0, .int .i64 0, .int .i64 0] := by kernel_rfl
theorem zr3 : (Try.prog.info? 3).bind (fun i => i.zero.map fun z => z.cells.toList) = some [.int .i64 0] := by kernel_rfl
theorem zr4 : (Try.prog.info? 4).bind (fun i => i.zero.map fun z => z.cells.toList) = some [.bool false] := by kernel_rfl
theorem zr84 : (Try.prog.info? 84).bind (fun i => i.zero.map fun z => z.cells.toList) = some [.int .i64 0, .int .i64 0, .int .i64 0, .int .i64 0, .int .i64 0, .int .i64 0] := by kernel_rfl
theorem zr90 : (Try.prog.info? 90).bind (fun i => i.zero.map fun z => z.cells.toList) = some [.int .i64 0, .int .i64 0, .int .i64 0] := by kernel_rfl
set_option maxHeartbeats 8000000 in
theorem Fleetwithin_ok  {w : World} {s : Sg} {R : List HP} {x0 : Int} {x1 : Int} {x2 : Int} (hS : St w s (R))  {r : Bool} (hr : Fleetwithin x0 x1 x2 = r) :
    Calls Try.prog 51 [.int .i64 x0, .int .i64 x1, .int .i64 x2].toArray w (fun e w => e = .returned (.bool r) ∧ St w s (R)) := by
  refine enter Try.func51 rfl rfl rfl fun a hE => ?_
  rw [Fleetwithin] at hr
  refine W.seq ?_
  refine W.region ?_
  refine WL.vS hS hE (runs_plain rfl) (Gives.p hE rfl) rfl ?_; clear hE a; intro a hE
  refine WL.nil ?_
  refine W.seq ?_
  obtain ⟨q52, hq51, hr⟩ := bndS hr
  refine W.cut (fun a w => ∃ (q55 : Bool), q55 = q52 ∧ Rep a 15 [(6, .bool q55)] ∧ St w s (R)) ?_ ?_
  · refine W.gen fun K56 hK56 => ?_
    refine W.region ?_
    refine WL.vS hS hE (runs_plain rfl) (Gives.p hE rfl) rfl ?_; clear hE a; intro a hE
    refine WL.vS hS hE (runs_plain rfl) (Gives.p hE rfl) rfl ?_; clear hE a; intro a hE
    refine WL.vS hS hE (runs_plain rfl) (Gives.p hE rfl) rfl ?_; clear hE a; intro a hE
    refine WL.vS hS hE (runs_plain rfl) (Gives.p hE rfl) rfl ?_; clear hE a; intro a hE
    rcases Bool.eq_false_or_eq_true (decide (x0 ≥ x1)) with hg57 | hg57
    · replace hq51 := iteT hg57 hq51
      refine WL.vS hS hE (runs_if hE rfl rfl rfl hg57) (Gives.p hE rfl) rfl ?_; clear hE a; intro a hE
      refine WL.vS hS hE (runs_if hE rfl rfl rfl hg57) (Gives.p hE rfl) rfl ?_; clear hE a; intro a hE
      refine WL.vS hS hE (runs_if hE rfl rfl rfl hg57) (Gives.p hE rfl) rfl ?_; clear hE a; intro a hE
      refine WL.vS hS hE (runs_plain rfl) (Gives.pickT hE rfl hg57 rfl) rfl ?_; clear hE a; intro a hE
      refine WL.vS hS hE (runs_plain rfl) (Gives.p hE rfl) rfl ?_; clear hE a; intro a hE
      refine WL.nil ?_
      subst hK56
      exact ⟨decide (x0 ≤ x2), hq51, hE.pick _ ⟨rfl, trivial⟩, hS⟩
    · replace hq51 := iteF hg57 hq51
      refine WL.no hE (runs_not hE rfl rfl rfl (by rw [hg57]; decide)) rfl ?_; clear hE a; intro a hE
      refine WL.no hE (runs_not hE rfl rfl rfl (by rw [hg57]; decide)) rfl ?_; clear hE a; intro a hE
      refine WL.no hE (runs_not hE rfl rfl rfl (by rw [hg57]; decide)) rfl ?_; clear hE a; intro a hE
      refine WL.vS hS hE (runs_plain rfl) (Gives.pickF hE rfl hg57 rfl) rfl ?_; clear hE a; intro a hE
      refine WL.vS hS hE (runs_plain rfl) (Gives.p hE rfl) rfl ?_; clear hE a; intro a hE
      refine WL.nil ?_
      subst hK56
      exact ⟨false, hq51, hE.pick _ ⟨rfl, trivial⟩, hS⟩
  · clear hE hS a w; rintro a w ⟨q55, rfl, hE, hS⟩
    refine W.ret ?_
    refine finG (fn := Try.f51) (rs := [.tmp 6]) (vs := [_]) hE rfl ⟨rfl, trivial⟩ ?_
    subst hr
    exact ⟨rfl, hS⟩
set_option maxHeartbeats 8000000 in
theorem FleetCheckShifts_ok  {w : World} {s : Sg} {R : List HP} {x0 : List FleetShift} {a0 : Option Addr} {c0 : Nat} (hS : St w s (R)) (h0 : Sl 3 RFleetShift s a0 c0 x0) {r : Int} (hr : FleetCheckShifts x0 = r) :
    Calls Try.prog 30 [.slice a0 x0.length c0].toArray w (fun e w => e = .returned (.int .i64 r) ∧ St w s (R)) := by
  refine enter Try.func30 rfl rfl rfl fun a hE => ?_
  rw [FleetCheckShifts] at hr
  refine W.seq ?_
  refine W.region ?_
  refine WL.vS hS hE (runs_plain rfl) (Gives.p hE rfl) rfl ?_; clear hE a; intro a hE
  refine WL.nil ?_
  refine W.seq ?_
  refine W.seq ?_
  refine W.region ?_
  refine WL.vS hS hE (runs_plain rfl) (Gives.p hE rfl) rfl ?_; clear hE a; intro a hE
  refine WL.vS hS hE (runs_plain rfl) (Gives.len hE rfl sl50) rfl ?_; clear hE a; intro a hE
  refine WL.vS hS hE (runs_plain rfl) (Gives.p hE rfl) rfl ?_; clear hE a; intro a hE
  refine WL.nil ?_
  refine W.cond hE rfl (fun hc51 => ?_) (fun hc51 => ?_)
  · replace hr := iteT hc51 hr
    refine W.seq ?_
    refine W.region ?_
    refine WL.vS hS hE (runs_plain rfl) (Gives.p hE rfl) rfl ?_; clear hE a; intro a hE
    refine WL.nil ?_
    refine W.ret ?_
    refine finG (fn := Try.f30) (rs := [.tmp 2]) (vs := [_]) hE rfl ⟨rfl, trivial⟩ ?_
    subst hr
    exact ⟨rfl, hS⟩
  · replace hr := iteF hc51 hr
    refine W.skip ?_
    refine W.seq ?_
    refine W.seq ?_
    refine W.region ?_
    refine WL.vS hS hE (runs_plain rfl) (Gives.p hE rfl) rfl ?_; clear hE a; intro a hE
    refine WL.vS hS hE (runs_plain rfl) (Gives.len hE rfl sl50) rfl ?_; clear hE a; intro a hE
    refine WL.vS hS hE (runs_plain rfl) (Gives.p hE rfl) rfl ?_; clear hE a; intro a hE
    refine WL.nil ?_
    obtain ⟨q53, hq52, hr⟩ := bndS hr
    refine W.cut (fun a w => (.next ()) = q53 ∧ Rep a 38 [] ∧ St w s (R)) ?_ ?_
    · refine W.block ?_
      refine W.loop (fun m a w => ∃ (rest56 : List FleetShift) (k54 : Nat), rest56.length = m ∧ x0.drop k54 = rest56 ∧ FleetCheckShifts.loop1 rest56 = q53 ∧ Rep a 38 [(8, .slice a0 x0.length c0), (9, .int .i64 ((x0).length : Int)), (10, .int .i64 ((k54 : Nat) : Int))] ∧ St w s (R)) (m := x0.length) ⟨x0, 0, rfl, rfl, hq52, hE.pick _ ⟨rfl, rfl, rfl, trivial⟩, hS⟩ ?_
      clear hE hS a w hq52; rintro m60 a w ⟨rest56, k54, rfl, hd57, hq52, hE, hS⟩
      refine W.gen fun K63 hK63 => ?_
      rcases rest56 with _ | ⟨x55, rest56⟩
      · have hlt58 := drop_nil hd57
        refine W.seq ?_
        refine W.region ?_
        refine WL.vS hS hE (runs_plain rfl) (Gives.p hE rfl) rfl ?_; clear hE a; intro a hE
        refine WL.nil ?_
        refine W.seq ?_
        refine W.condF hE rfl (decide_eq_false (by omega)) ?_
        subst hK63
        refine W.exit rfl ?_
        exact ⟨hq52, hE.pick _ trivial, hS⟩
      · obtain ⟨hlt58, hx59, hd57⟩ := drop_cons hd57
        rw [FleetCheckShifts.loop1] at hq52
        refine W.seq ?_
        refine W.region ?_
        refine WL.vS hS hE (runs_plain rfl) (Gives.p hE rfl) rfl ?_; clear hE a; intro a hE
        refine WL.nil ?_
        refine W.seq ?_
        refine W.condT hE rfl (decide_eq_true (by omega)) ?_
        refine W.skip ?_
        refine W.seq ?_
        refine W.block ?_
        refine W.seq ?_
        refine W.region ?_
        obtain ⟨cs64, hl65, hR66, hat67⟩ := h0.at hx59
        subst hR66
        refine WL.vS hS hE (runs_plain rfl) (Gives.idx hE k54 rfl rfl sl50 rfl hlt58 (h0.aok hlt58)) rfl ?_; clear hE a; intro a hE
        refine WL.vS hS hE (runs_plain rfl) (Gives.loadA hE rfl (fun w h => hat67 w _ h) ty90) rfl ?_; clear hE a; intro a hE
        refine WL.alloc hE hS (runs_plain rfl) zr90 rfl ?_; clear hE hS a w; intro b68 a w hE hS
        refine WL.storeI hE hS 0 rfl (FleetShift.cells x55) (runs_plain rfl) rfl rfl rfl ty90 rfl rfl rfl rfl ?_; clear hE hS a w; intro a w hE hS
        refine WL.nil ?_
        refine W.block ?_
        refine W.seq ?_
        obtain ⟨q70, hq69, hq52⟩ := bndS hq52
        refine W.cut (fun a w => ∃ (q73 : Bool), q73 = q70 ∧ Rep a 38 [(4, .pointer (some ⟨b68, 0, none⟩)), (8, .slice a0 x0.length c0), (9, .int .i64 ((x0).length : Int)), (10, .int .i64 ((k54 : Nat) : Int)), (14, .bool q73)] ∧ St w s (pt b68 (.cells (FleetShift.cells x55).toArray 90 (0, 0)) :: R)) ?_ ?_
        · refine W.gen fun K74 hK74 => ?_
          refine W.region ?_
          refine WL.vS hS hE (runs_plain rfl) (Gives.fld hE rfl fl90_0) rfl ?_; clear hE a; intro a hE
          refine WL.vS hS hE (runs_plain rfl) (Gives.loadB hE 0 rfl rfl rfl ty3) rfl ?_; clear hE a; intro a hE
          refine WL.fn hE (Fleetwithin_ok hS  rfl) (runs_plain rfl) bd51 rfl rfl ?_
          clear hE hS; rintro e w ⟨rfl, hS⟩; refine ⟨_, rfl, ?_⟩; clear a; intro a hE
          refine WL.vS hS hE (runs_plain rfl) (Gives.p hE rfl) rfl ?_; clear hE a; intro a hE
          refine WL.vS hS hE (runs_plain rfl) (Gives.p hE rfl) rfl ?_; clear hE a; intro a hE
          rcases Bool.eq_false_or_eq_true (!(Fleetwithin x55.Day 0 6)) with hg75 | hg75
          · replace hq69 := iteT hg75 hq69
            refine WL.no hE (runs_not hE rfl rfl rfl (by rw [hg75]; decide)) rfl ?_; clear hE a; intro a hE
            refine WL.no hE (runs_not hE rfl rfl rfl (by rw [hg75]; decide)) rfl ?_; clear hE a; intro a hE
            refine WL.no hE (runs_not hE rfl rfl rfl (by rw [hg75]; decide)) rfl ?_; clear hE a; intro a hE
            refine WL.no hE (runs_not hE rfl rfl rfl (by rw [hg75]; decide)) rfl ?_; clear hE a; intro a hE
            refine WL.vS hS hE (runs_plain rfl) (Gives.pickT hE rfl hg75 rfl) rfl ?_; clear hE a; intro a hE
            refine WL.vS hS hE (runs_plain rfl) (Gives.p hE rfl) rfl ?_; clear hE a; intro a hE
            refine WL.no hE (runs_not hE rfl rfl rfl (by decide)) rfl ?_; clear hE a; intro a hE
            refine WL.no hE (runs_not hE rfl rfl rfl (by decide)) rfl ?_; clear hE a; intro a hE
            refine WL.no hE (runs_not hE rfl rfl rfl (by decide)) rfl ?_; clear hE a; intro a hE
            refine WL.no hE (runs_not hE rfl rfl rfl (by decide)) rfl ?_; clear hE a; intro a hE
            refine WL.vS hS hE (runs_plain rfl) (Gives.pickT hE rfl rfl rfl) rfl ?_; clear hE a; intro a hE
            refine WL.vS hS hE (runs_plain rfl) (Gives.p hE rfl) rfl ?_; clear hE a; intro a hE
            refine WL.nil ?_
            subst hK74
            exact ⟨true, hq69, hE.pick _ ⟨rfl, rfl, rfl, rfl, rfl, trivial⟩, hS⟩
          · replace hq69 := iteF hg75 hq69
            refine WL.vS hS hE (runs_if hE rfl rfl rfl hg75) (Gives.fld hE rfl fl90_1) rfl ?_; clear hE a; intro a hE
            refine WL.vS hS hE (runs_if hE rfl rfl rfl hg75) (Gives.loadB hE 0 rfl rfl rfl ty3) rfl ?_; clear hE a; intro a hE
            refine WL.fn hE (Fleetwithin_ok hS  rfl) (runs_if hE rfl rfl rfl hg75) bd51 rfl rfl ?_
            clear hE hS; rintro e w ⟨rfl, hS⟩; refine ⟨_, rfl, ?_⟩; clear a; intro a hE
            refine WL.vS hS hE (runs_if hE rfl rfl rfl hg75) (Gives.p hE rfl) rfl ?_; clear hE a; intro a hE
            refine WL.vS hS hE (runs_plain rfl) (Gives.pickF hE rfl hg75 rfl) rfl ?_; clear hE a; intro a hE
            refine WL.vS hS hE (runs_plain rfl) (Gives.p hE rfl) rfl ?_; clear hE a; intro a hE
            rcases Bool.eq_false_or_eq_true (!(Fleetwithin x55.Start 0 28800)) with hg76 | hg76
            · replace hq69 := iteT hg76 hq69
              refine WL.no hE (runs_not hE rfl rfl rfl (by rw [hg76]; decide)) rfl ?_; clear hE a; intro a hE
              refine WL.no hE (runs_not hE rfl rfl rfl (by rw [hg76]; decide)) rfl ?_; clear hE a; intro a hE
              refine WL.no hE (runs_not hE rfl rfl rfl (by rw [hg76]; decide)) rfl ?_; clear hE a; intro a hE
              refine WL.no hE (runs_not hE rfl rfl rfl (by rw [hg76]; decide)) rfl ?_; clear hE a; intro a hE
              refine WL.vS hS hE (runs_plain rfl) (Gives.pickT hE rfl hg76 rfl) rfl ?_; clear hE a; intro a hE
              refine WL.vS hS hE (runs_plain rfl) (Gives.p hE rfl) rfl ?_; clear hE a; intro a hE
              refine WL.nil ?_
              subst hK74
              exact ⟨true, hq69, hE.pick _ ⟨rfl, rfl, rfl, rfl, rfl, trivial⟩, hS⟩
            · replace hq69 := iteF hg76 hq69
              refine WL.vS hS hE (runs_if hE rfl rfl rfl hg76) (Gives.fld hE rfl fl90_2) rfl ?_; clear hE a; intro a hE
              refine WL.vS hS hE (runs_if hE rfl rfl rfl hg76) (Gives.loadB hE 0 rfl rfl rfl ty3) rfl ?_; clear hE a; intro a hE
              refine WL.fn hE (Fleetwithin_ok hS  rfl) (runs_if hE rfl rfl rfl hg76) bd51 rfl rfl ?_
              clear hE hS; rintro e w ⟨rfl, hS⟩; refine ⟨_, rfl, ?_⟩; clear a; intro a hE
              refine WL.vS hS hE (runs_if hE rfl rfl rfl hg76) (Gives.p hE rfl) rfl ?_; clear hE a; intro a hE
              refine WL.vS hS hE (runs_plain rfl) (Gives.pickF hE rfl hg76 rfl) rfl ?_; clear hE a; intro a hE
              refine WL.vS hS hE (runs_plain rfl) (Gives.p hE rfl) rfl ?_; clear hE a; intro a hE
              refine WL.nil ?_
              subst hK74
              exact ⟨!(Fleetwithin x55.End 0 28800), hq69, hE.pick _ ⟨rfl, rfl, rfl, rfl, rfl, trivial⟩, hS⟩
        · clear hE hS a w; rintro a w ⟨q73, rfl, hE, hS⟩
          refine W.cond hE rfl (fun hc77 => ?_) (fun hc77 => ?_)
          · replace hq52 := iteT hc77 hq52
            refine W.seq ?_
            refine W.region ?_
            refine WL.vS hS hE (runs_plain rfl) (Gives.p hE rfl) rfl ?_; clear hE a; intro a hE
            refine WL.nil ?_
            refine W.ret ?_
            subst hK63
            rw [← hq52] at hr
            dsimp only at hr
            refine finG (fn := Try.f30) (rs := [.tmp 2]) (vs := [_]) hE rfl ⟨rfl, trivial⟩ ?_
            subst hr
            replace hS := hS.tail
            exact ⟨rfl, hS⟩
          · replace hq52 := iteF hc77 hq52
            refine W.seq ?_
            refine W.region ?_
            refine WL.vS hS hE (runs_plain rfl) (Gives.fld hE rfl fl90_2) rfl ?_; clear hE a; intro a hE
            refine WL.vS hS hE (runs_plain rfl) (Gives.loadB hE 0 rfl rfl rfl ty3) rfl ?_; clear hE a; intro a hE
            refine WL.vS hS hE (runs_plain rfl) (Gives.fld hE rfl fl90_1) rfl ?_; clear hE a; intro a hE
            refine WL.vS hS hE (runs_plain rfl) (Gives.loadB hE 0 rfl rfl rfl ty3) rfl ?_; clear hE a; intro a hE
            refine WL.vS hS hE (runs_plain rfl) (Gives.p hE rfl) rfl ?_; clear hE a; intro a hE
            refine WL.vS hS hE (runs_plain rfl) (Gives.p hE rfl) rfl ?_; clear hE a; intro a hE
            refine WL.nil ?_
            refine W.cond hE rfl (fun hc78 => ?_) (fun hc78 => ?_)
            · replace hq52 := iteT hc78 hq52
              refine W.seq ?_
              refine W.region ?_
              refine WL.vS hS hE (runs_plain rfl) (Gives.p hE rfl) rfl ?_; clear hE a; intro a hE
              refine WL.nil ?_
              refine W.ret ?_
              subst hK63
              rw [← hq52] at hr
              dsimp only at hr
              refine finG (fn := Try.f30) (rs := [.tmp 2]) (vs := [_]) hE rfl ⟨rfl, trivial⟩ ?_
              subst hr
              replace hS := hS.tail
              exact ⟨rfl, hS⟩
            · replace hq52 := iteF hc78 hq52
              refine W.skip ?_
              refine W.region ?_
              refine WL.vS hS hE (runs_plain rfl) (Gives.inc hE rfl (by have := h0.small; omega)) rfl ?_; clear hE a; intro a hE
              refine WL.vS hS hE (runs_plain rfl) (Gives.p hE rfl) rfl ?_; clear hE a; intro a hE
              refine WL.nil ?_
              replace hS := hS.tail
              subst hK63
              exact ⟨rest56.length, Nat.lt_succ_self _, rest56, k54 + 1, rfl, hd57, hq52, hE.pick _ ⟨rfl, rfl, rfl, trivial⟩, hS⟩
    · clear hE hS a w; rintro a w ⟨rfl, hE, hS⟩
      dsimp only at hr
      refine W.seq ?_
      refine W.region ?_
      refine WL.vS hS hE (runs_plain rfl) (Gives.p hE rfl) rfl ?_; clear hE a; intro a hE
      refine WL.nil ?_
      refine W.ret ?_
      refine finG (fn := Try.f30) (rs := [.tmp 2]) (vs := [_]) hE rfl ⟨rfl, trivial⟩ ?_
      subst hr
      exact ⟨rfl, hS⟩
set_option maxHeartbeats 8000000 in
theorem FleetCheckLimits_ok  {w : World} {s : Sg} {R : List HP} {x0 : FleetLimits} (hS : St w s (R))  {r : Int} (hr : FleetCheckLimits x0 = r) :
    Calls Try.prog 36 [.agg (FleetLimits.cells x0).toArray].toArray w (fun e w => e = .returned (.int .i64 r) ∧ St w s (R)) := by
  refine enter Try.func36 rfl rfl rfl fun a hE => ?_
  rw [FleetCheckLimits] at hr
  refine W.seq ?_
  refine W.region ?_
  refine WL.box hE hS (runs_plain rfl) rfl rfl rfl ?_; clear hE hS a w; intro b51 a w hE hS
  refine WL.vS hS hE (runs_plain rfl) (Gives.p hE rfl) rfl ?_; clear hE a; intro a hE
  refine WL.nil ?_
  refine W.seq ?_
  refine W.seq ?_
  refine W.region ?_
  refine WL.vS hS hE (runs_plain rfl) (Gives.fld hE rfl fl35_0) rfl ?_; clear hE a; intro a hE
  refine WL.vS hS hE (runs_plain rfl) (Gives.loadB hE 0 rfl rfl rfl ty3) rfl ?_; clear hE a; intro a hE
  refine WL.vS hS hE (runs_plain rfl) (Gives.fld hE rfl fl35_1) rfl ?_; clear hE a; intro a hE
  refine WL.vS hS hE (runs_plain rfl) (Gives.loadB hE 0 rfl rfl rfl ty3) rfl ?_; clear hE a; intro a hE
  refine WL.vS hS hE (runs_plain rfl) (Gives.fld hE rfl fl35_2) rfl ?_; clear hE a; intro a hE
  refine WL.vS hS hE (runs_plain rfl) (Gives.loadB hE 0 rfl rfl rfl ty3) rfl ?_; clear hE a; intro a hE
  refine WL.vS hS hE (runs_plain rfl) (Gives.fld hE rfl fl35_3) rfl ?_; clear hE a; intro a hE
  refine WL.vS hS hE (runs_plain rfl) (Gives.loadB hE 0 rfl rfl rfl ty3) rfl ?_; clear hE a; intro a hE
  refine WL.vS hS hE (runs_plain rfl) (Gives.fld hE rfl fl35_4) rfl ?_; clear hE a; intro a hE
  refine WL.vS hS hE (runs_plain rfl) (Gives.loadB hE 0 rfl rfl rfl ty3) rfl ?_; clear hE a; intro a hE
  refine WL.vS hS hE (runs_plain rfl) (Gives.fld hE rfl fl35_5) rfl ?_; clear hE a; intro a hE
  refine WL.vS hS hE (runs_plain rfl) (Gives.loadB hE 0 rfl rfl rfl ty3) rfl ?_; clear hE a; intro a hE
  refine WL.vS hS hE (runs_plain rfl) (Gives.build hE (vs := [(0, .int .i64 x0.Change), (1, .int .i64 x0.Long), (2, .int .i64 x0.Work), (3, .int .i64 x0.After), (4, .int .i64 x0.Break), (5, .int .i64 x0.Rest)]) [.int .i64 x0.Change, .int .i64 x0.Long, .int .i64 x0.Work, .int .i64 x0.After, .int .i64 x0.Break, .int .i64 x0.Rest] rfl (by kernel_rfl)) rfl ?_; clear hE a; intro a hE
  refine WL.vS hS hE (runs_plain rfl) (Gives.p hE rfl) rfl ?_; clear hE a; intro a hE
  refine WL.nil ?_
  obtain ⟨q53, hq52, hr⟩ := bndS hr
  refine W.cut (fun a w => (.next ()) = q53 ∧ Rep a 29 [(1, .pointer (some ⟨b51, 0, none⟩))] ∧ St w s (pt b51 (.cells (FleetLimits.cells x0).toArray 35 (0, 0)) :: R)) ?_ ?_
  · refine W.block ?_
    refine W.loop (fun m a w => ∃ (rest56 : List Int) (k54 : Nat), rest56.length = m ∧ [x0.Change, x0.Long, x0.Work, x0.After, x0.Break, x0.Rest].drop k54 = rest56 ∧ FleetCheckLimits.loop1 rest56 = q53 ∧ Rep a 29 [(1, .pointer (some ⟨b51, 0, none⟩)), (17, .agg [.int .i64 x0.Change, .int .i64 x0.Long, .int .i64 x0.Work, .int .i64 x0.After, .int .i64 x0.Break, .int .i64 x0.Rest].toArray), (18, .int .i64 ((k54 : Nat) : Int))] ∧ St w s (pt b51 (.cells (FleetLimits.cells x0).toArray 35 (0, 0)) :: R)) (m := [x0.Change, x0.Long, x0.Work, x0.After, x0.Break, x0.Rest].length) ⟨[x0.Change, x0.Long, x0.Work, x0.After, x0.Break, x0.Rest], 0, rfl, rfl, hq52, hE.pick _ ⟨rfl, rfl, rfl, trivial⟩, hS⟩ ?_
    clear hE hS a w hq52; rintro m60 a w ⟨rest56, k54, rfl, hd57, hq52, hE, hS⟩
    refine W.gen fun K63 hK63 => ?_
    rcases rest56 with _ | ⟨x55, rest56⟩
    · have hlt58 : 6 ≤ k54 := drop_nil hd57
      refine W.seq ?_
      refine W.region ?_
      refine WL.vS hS hE (runs_plain rfl) (Gives.p hE rfl) rfl ?_; clear hE a; intro a hE
      refine WL.nil ?_
      refine W.seq ?_
      refine W.condF hE rfl (decide_eq_false (by omega)) ?_
      subst hK63
      refine W.exit rfl ?_
      exact ⟨hq52, hE.pick _ ⟨rfl, trivial⟩, hS⟩
    · obtain ⟨hlt58, hx59, hd57⟩ := drop_cons hd57
      replace hlt58 : k54 < 6 := hlt58
      rw [FleetCheckLimits.loop1] at hq52
      refine W.seq ?_
      refine W.region ?_
      refine WL.vS hS hE (runs_plain rfl) (Gives.p hE rfl) rfl ?_; clear hE a; intro a hE
      refine WL.nil ?_
      refine W.seq ?_
      refine W.condT hE rfl (decide_eq_true (by omega)) ?_
      refine W.skip ?_
      refine W.seq ?_
      refine W.block ?_
      refine W.seq ?_
      refine W.region ?_
      refine WL.vS hS hE (runs_plain rfl) (Gives.indexM hE (f := (Value.int .i64)) (l := [x0.Change, x0.Long, x0.Work, x0.After, x0.Break, x0.Rest]) (k := k54) ar91 rfl rfl rfl rfl hx59) rfl ?_; clear hE a; intro a hE
      refine WL.vS hS hE (runs_plain rfl) (Gives.p hE rfl) rfl ?_; clear hE a; intro a hE
      refine WL.nil ?_
      refine W.seq ?_
      refine W.region ?_
      refine WL.vS hS hE (runs_plain rfl) (Gives.p hE rfl) rfl ?_; clear hE a; intro a hE
      refine WL.fn hE (Fleetwithin_ok hS  rfl) (runs_plain rfl) bd51 rfl rfl ?_
      clear hE hS; rintro e w ⟨rfl, hS⟩; refine ⟨_, rfl, ?_⟩; clear a; intro a hE
      refine WL.vS hS hE (runs_plain rfl) (Gives.p hE rfl) rfl ?_; clear hE a; intro a hE
      refine WL.nil ?_
      refine W.cond hE rfl (fun hc64 => ?_) (fun hc64 => ?_)
      · replace hq52 := iteT hc64 hq52
        refine W.seq ?_
        refine W.region ?_
        refine WL.vS hS hE (runs_plain rfl) (Gives.p hE rfl) rfl ?_; clear hE a; intro a hE
        refine WL.nil ?_
        refine W.ret ?_
        subst hK63
        rw [← hq52] at hr
        dsimp only at hr
        refine finG (fn := Try.f36) (rs := [.tmp 2]) (vs := [_]) hE rfl ⟨rfl, trivial⟩ ?_
        subst hr
        replace hS := hS.tail
        exact ⟨rfl, hS⟩
      · replace hq52 := iteF hc64 hq52
        refine W.skip ?_
        refine W.region ?_
        refine WL.vS hS hE (runs_plain rfl) (Gives.inc hE rfl (by omega)) rfl ?_; clear hE a; intro a hE
        refine WL.vS hS hE (runs_plain rfl) (Gives.p hE rfl) rfl ?_; clear hE a; intro a hE
        refine WL.nil ?_
        subst hK63
        exact ⟨rest56.length, Nat.lt_succ_self _, rest56, k54 + 1, rfl, hd57, hq52, hE.pick _ ⟨rfl, rfl, rfl, trivial⟩, hS⟩
  · clear hE hS a w; rintro a w ⟨rfl, hE, hS⟩
    dsimp only at hr
    refine W.seq ?_
    refine W.seq ?_
    refine W.region ?_
    refine WL.vS hS hE (runs_plain rfl) (Gives.fld hE rfl fl35_6) rfl ?_; clear hE a; intro a hE
    refine WL.vS hS hE (runs_plain rfl) (Gives.loadB hE 0 rfl rfl rfl ty3) rfl ?_; clear hE a; intro a hE
    refine WL.fn hE (Fleetwithin_ok hS  rfl) (runs_plain rfl) bd51 rfl rfl ?_
    clear hE hS; rintro e w ⟨rfl, hS⟩; refine ⟨_, rfl, ?_⟩; clear a; intro a hE
    refine WL.vS hS hE (runs_plain rfl) (Gives.p hE rfl) rfl ?_; clear hE a; intro a hE
    refine WL.nil ?_
    refine W.cond hE rfl (fun hc65 => ?_) (fun hc65 => ?_)
    · replace hr := iteT hc65 hr
      refine W.seq ?_
      refine W.region ?_
      refine WL.vS hS hE (runs_plain rfl) (Gives.p hE rfl) rfl ?_; clear hE a; intro a hE
      refine WL.nil ?_
      refine W.ret ?_
      refine finG (fn := Try.f36) (rs := [.tmp 2]) (vs := [_]) hE rfl ⟨rfl, trivial⟩ ?_
      subst hr
      replace hS := hS.tail
      exact ⟨rfl, hS⟩
    · replace hr := iteF hc65 hr
      refine W.skip ?_
      refine W.seq ?_
      refine W.region ?_
      refine WL.vS hS hE (runs_plain rfl) (Gives.p hE rfl) rfl ?_; clear hE a; intro a hE
      refine WL.nil ?_
      refine W.ret ?_
      refine finG (fn := Try.f36) (rs := [.tmp 2]) (vs := [_]) hE rfl ⟨rfl, trivial⟩ ?_
      subst hr
      replace hS := hS.tail
      exact ⟨rfl, hS⟩
set_option maxHeartbeats 8000000 in
theorem FleetcheckRoster_ok  {w : World} {s : Sg} {R : List HP} {x0 : List FleetShift} {a0 : Option Addr} {c0 : Nat} {x1 : List (List Int)} {a1 : Option Addr} {c1 : Nat} (hS : St w s (R)) (_h0 : Sl 3 RFleetShift s a0 c0 x0) (h1 : Sl 1 (RL 1 (RI .i64)) s a1 c1 x1) {r : Int} (hr : FleetcheckRoster x0 x1 = r) :
    Calls Try.prog 58 [.slice a0 x0.length c0, .slice a1 x1.length c1].toArray w (fun e w => e = .returned (.int .i64 r) ∧ St w s (R)) := by
  refine enter Try.func58 rfl rfl rfl fun a hE => ?_
  rw [FleetcheckRoster] at hr
  refine W.seq ?_
  refine W.region ?_
  refine WL.vS hS hE (runs_plain rfl) (Gives.p hE rfl) rfl ?_; clear hE a; intro a hE
  refine WL.nil ?_
  refine W.seq ?_
  refine W.seq ?_
  refine W.region ?_
  refine WL.vS hS hE (runs_plain rfl) (Gives.p hE rfl) rfl ?_; clear hE a; intro a hE
  refine WL.vS hS hE (runs_plain rfl) (Gives.len hE rfl sl23) rfl ?_; clear hE a; intro a hE
  refine WL.vS hS hE (runs_plain rfl) (Gives.p hE rfl) rfl ?_; clear hE a; intro a hE
  refine WL.nil ?_
  refine W.cond hE rfl (fun hc51 => ?_) (fun hc51 => ?_)
  · replace hr := iteT hc51 hr
    refine W.seq ?_
    refine W.region ?_
    refine WL.vS hS hE (runs_plain rfl) (Gives.p hE rfl) rfl ?_; clear hE a; intro a hE
    refine WL.nil ?_
    refine W.ret ?_
    refine finG (fn := Try.f58) (rs := [.tmp 4]) (vs := [_]) hE rfl ⟨rfl, trivial⟩ ?_
    subst hr
    exact ⟨rfl, hS⟩
  · replace hr := iteF hc51 hr
    refine W.skip ?_
    refine W.seq ?_
    refine W.seq ?_
    refine W.region ?_
    refine WL.vS hS hE (runs_plain rfl) (Gives.p hE rfl) rfl ?_; clear hE a; intro a hE
    refine WL.vS hS hE (runs_plain rfl) (Gives.len hE rfl sl23) rfl ?_; clear hE a; intro a hE
    refine WL.vS hS hE (runs_plain rfl) (Gives.p hE rfl) rfl ?_; clear hE a; intro a hE
    refine WL.nil ?_
    obtain ⟨q53, hq52, hr⟩ := bndS hr
    refine W.cut (fun a w => (.next ()) = q53 ∧ Rep a 32 [] ∧ St w s (R)) ?_ ?_
    · refine W.block ?_
      refine W.loop (fun m a w => ∃ (rest56 : List (List Int)) (k54 : Nat), rest56.length = m ∧ x1.drop k54 = rest56 ∧ FleetcheckRoster.loop1 x0 rest56 = q53 ∧ Rep a 32 [(0, .slice a0 x0.length c0), (12, .slice a1 x1.length c1), (13, .int .i64 ((x1).length : Int)), (14, .int .i64 ((k54 : Nat) : Int))] ∧ St w s (R)) (m := x1.length) ⟨x1, 0, rfl, rfl, hq52, hE.pick _ ⟨rfl, rfl, rfl, rfl, trivial⟩, hS⟩ ?_
      clear hE hS a w hq52; rintro m60 a w ⟨rest56, k54, rfl, hd57, hq52, hE, hS⟩
      refine W.gen fun K63 hK63 => ?_
      rcases rest56 with _ | ⟨x55, rest56⟩
      · have hlt58 := drop_nil hd57
        refine W.seq ?_
        refine W.region ?_
        refine WL.vS hS hE (runs_plain rfl) (Gives.p hE rfl) rfl ?_; clear hE a; intro a hE
        refine WL.nil ?_
        refine W.seq ?_
        refine W.condF hE rfl (decide_eq_false (by omega)) ?_
        subst hK63
        refine W.exit rfl ?_
        exact ⟨hq52, hE.pick _ trivial, hS⟩
      · obtain ⟨hlt58, hx59, hd57⟩ := drop_cons hd57
        rw [FleetcheckRoster.loop1] at hq52
        refine W.seq ?_
        refine W.region ?_
        refine WL.vS hS hE (runs_plain rfl) (Gives.p hE rfl) rfl ?_; clear hE a; intro a hE
        refine WL.nil ?_
        refine W.seq ?_
        refine W.condT hE rfl (decide_eq_true (by omega)) ?_
        refine W.skip ?_
        refine W.seq ?_
        refine W.block ?_
        refine W.seq ?_
        refine W.region ?_
        obtain ⟨cs64, hl65, hR66, hat67⟩ := h1.at hx59
        obtain ⟨a68, c69, rfl, h70⟩ := hR66
        refine WL.vS hS hE (runs_plain rfl) (Gives.idx hE k54 rfl rfl sl23 rfl hlt58 (h1.aok hlt58)) rfl ?_; clear hE a; intro a hE
        refine WL.vS hS hE (runs_plain rfl) (Gives.load1 hE rfl (fun w h => hat67 w _ h) ty22) rfl ?_; clear hE a; intro a hE
        refine WL.vS hS hE (runs_plain rfl) (Gives.p hE rfl) rfl ?_; clear hE a; intro a hE
        refine WL.nil ?_
        refine W.seq ?_
        refine W.region ?_
        refine WL.vS hS hE (runs_plain rfl) (Gives.p hE rfl) rfl ?_; clear hE a; intro a hE
        refine WL.vS hS hE (runs_plain rfl) (Gives.len hE rfl sl22) rfl ?_; clear hE a; intro a hE
        refine WL.vS hS hE (runs_plain rfl) (Gives.p hE rfl) rfl ?_; clear hE a; intro a hE
        refine WL.nil ?_
        obtain ⟨q72, hq71, hq52⟩ := bndS hq52
        refine W.cut (fun a w => (.next ()) = q72 ∧ Rep a 32 [(0, .slice a0 x0.length c0), (12, .slice a1 x1.length c1), (13, .int .i64 ((x1).length : Int)), (14, .int .i64 ((k54 : Nat) : Int))] ∧ St w s (R)) ?_ ?_
        · refine W.block ?_
          refine W.loop (fun m a w => ∃ (rest75 : List Int) (k73 : Nat), rest75.length = m ∧ x55.drop k73 = rest75 ∧ FleetcheckRoster.loop2 x0 rest75 = q72 ∧ Rep a 32 [(0, .slice a0 x0.length c0), (12, .slice a1 x1.length c1), (13, .int .i64 ((x1).length : Int)), (14, .int .i64 ((k54 : Nat) : Int)), (18, .slice a68 x55.length c69), (19, .int .i64 ((x55).length : Int)), (20, .int .i64 ((k73 : Nat) : Int))] ∧ St w s (R)) (m := x55.length) ⟨x55, 0, rfl, rfl, hq71, hE.pick _ ⟨rfl, rfl, rfl, rfl, rfl, rfl, rfl, trivial⟩, hS⟩ ?_
          clear hE hS a w hq71; rintro m79 a w ⟨rest75, k73, rfl, hd76, hq71, hE, hS⟩
          refine W.gen fun K82 hK82 => ?_
          rcases rest75 with _ | ⟨x74, rest75⟩
          · have hlt77 := drop_nil hd76
            refine W.seq ?_
            refine W.region ?_
            refine WL.vS hS hE (runs_plain rfl) (Gives.p hE rfl) rfl ?_; clear hE a; intro a hE
            refine WL.nil ?_
            refine W.seq ?_
            refine W.condF hE rfl (decide_eq_false (by omega)) ?_
            subst hK82
            refine W.exit rfl ?_
            exact ⟨hq71, hE.pick _ ⟨rfl, rfl, rfl, rfl, trivial⟩, hS⟩
          · obtain ⟨hlt77, hx78, hd76⟩ := drop_cons hd76
            rw [FleetcheckRoster.loop2] at hq71
            refine W.seq ?_
            refine W.region ?_
            refine WL.vS hS hE (runs_plain rfl) (Gives.p hE rfl) rfl ?_; clear hE a; intro a hE
            refine WL.nil ?_
            refine W.seq ?_
            refine W.condT hE rfl (decide_eq_true (by omega)) ?_
            refine W.skip ?_
            refine W.seq ?_
            refine W.block ?_
            refine W.seq ?_
            refine W.region ?_
            obtain ⟨cs83, hl84, hR85, hat86⟩ := h70.at hx78
            subst hR85
            refine WL.vS hS hE (runs_plain rfl) (Gives.idx hE k73 rfl rfl sl22 rfl hlt77 (h70.aok hlt77)) rfl ?_; clear hE a; intro a hE
            refine WL.vS hS hE (runs_plain rfl) (Gives.load1 hE rfl (fun w h => hat86 w _ h) ty3) rfl ?_; clear hE a; intro a hE
            refine WL.vS hS hE (runs_plain rfl) (Gives.p hE rfl) rfl ?_; clear hE a; intro a hE
            refine WL.nil ?_
            refine W.seq ?_
            refine W.region ?_
            refine WL.vS hS hE (runs_plain rfl) (Gives.p hE rfl) rfl ?_; clear hE a; intro a hE
            refine WL.vS hS hE (runs_plain rfl) (Gives.p hE rfl) rfl ?_; clear hE a; intro a hE
            refine WL.vS hS hE (runs_plain rfl) (Gives.len hE rfl sl50) rfl ?_; clear hE a; intro a hE
            refine WL.vS hS hE (runs_plain rfl) (Gives.p hE rfl) rfl ?_; clear hE a; intro a hE
            refine WL.fn hE (Fleetwithin_ok hS  rfl) (runs_plain rfl) bd51 rfl rfl ?_
            clear hE hS; rintro e w ⟨rfl, hS⟩; refine ⟨_, rfl, ?_⟩; clear a; intro a hE
            refine WL.vS hS hE (runs_plain rfl) (Gives.p hE rfl) rfl ?_; clear hE a; intro a hE
            refine WL.nil ?_
            refine W.cond hE rfl (fun hc87 => ?_) (fun hc87 => ?_)
            · replace hq71 := iteT hc87 hq71
              refine W.seq ?_
              refine W.region ?_
              refine WL.vS hS hE (runs_plain rfl) (Gives.p hE rfl) rfl ?_; clear hE a; intro a hE
              refine WL.nil ?_
              refine W.ret ?_
              subst hK82
              subst hK63
              rw [← hq71] at hq52
              dsimp only at hq52
              rw [← hq52] at hr
              dsimp only at hr
              refine finG (fn := Try.f58) (rs := [.tmp 4]) (vs := [_]) hE rfl ⟨rfl, trivial⟩ ?_
              subst hr
              exact ⟨rfl, hS⟩
            · replace hq71 := iteF hc87 hq71
              refine W.skip ?_
              refine W.region ?_
              refine WL.vS hS hE (runs_plain rfl) (Gives.inc hE rfl (by have := h70.small; omega)) rfl ?_; clear hE a; intro a hE
              refine WL.vS hS hE (runs_plain rfl) (Gives.p hE rfl) rfl ?_; clear hE a; intro a hE
              refine WL.nil ?_
              subst hK82
              exact ⟨rest75.length, Nat.lt_succ_self _, rest75, k73 + 1, rfl, hd76, hq71, hE.pick _ ⟨rfl, rfl, rfl, rfl, rfl, rfl, rfl, trivial⟩, hS⟩
        · clear hE hS a w; rintro a w ⟨rfl, hE, hS⟩
          dsimp only at hq52
          refine W.region ?_
          refine WL.vS hS hE (runs_plain rfl) (Gives.inc hE rfl (by have := h1.small; omega)) rfl ?_; clear hE a; intro a hE
          refine WL.vS hS hE (runs_plain rfl) (Gives.p hE rfl) rfl ?_; clear hE a; intro a hE
          refine WL.nil ?_
          subst hK63
          exact ⟨rest56.length, Nat.lt_succ_self _, rest56, k54 + 1, rfl, hd57, hq52, hE.pick _ ⟨rfl, rfl, rfl, rfl, trivial⟩, hS⟩
    · clear hE hS a w; rintro a w ⟨rfl, hE, hS⟩
      dsimp only at hr
      refine W.seq ?_
      refine W.region ?_
      refine WL.vS hS hE (runs_plain rfl) (Gives.p hE rfl) rfl ?_; clear hE a; intro a hE
      refine WL.nil ?_
      refine W.ret ?_
      refine finG (fn := Try.f58) (rs := [.tmp 4]) (vs := [_]) hE rfl ⟨rfl, trivial⟩ ?_
      subst hr
      exact ⟨rfl, hS⟩
set_option maxHeartbeats 8000000 in
theorem FleetdriverBreaks_ok  {w : World} {s : Sg} {R : List HP} {x0 : List FleetShift} {a0 : Option Addr} {c0 : Nat} {x1 : List Int} {a1 : Option Addr} {c1 : Nat} {x2 : FleetLimits} (hS : St w s (R)) (h0 : Sl 3 RFleetShift s a0 c0 x0) (h1 : Sl 1 (RI .i64) s a1 c1 x1) {r : Bool × Bool × Bool} (hr : FleetdriverBreaks x0 x1 x2 = some r) :
    Calls Try.prog 69 [.slice a0 x0.length c0, .slice a1 x1.length c1, .agg (FleetLimits.cells x2).toArray].toArray w (fun e w => e = .returned (.tuple #[.bool r.1, .bool r.2.1, .bool r.2.2]) ∧ St w s (R)) := by
  refine enter Try.func69 rfl rfl rfl fun a hE => ?_
  rw [FleetdriverBreaks] at hr
  refine W.seq ?_
  refine W.region ?_
  refine WL.box hE hS (runs_plain rfl) rfl rfl rfl ?_; clear hE hS a w; intro b51 a w hE hS
  refine WL.vS hS hE (runs_plain rfl) (Gives.p hE rfl) rfl ?_; clear hE a; intro a hE
  refine WL.vS hS hE (runs_plain rfl) (Gives.p hE rfl) rfl ?_; clear hE a; intro a hE
  refine WL.vS hS hE (runs_plain rfl) (Gives.p hE rfl) rfl ?_; clear hE a; intro a hE
  refine WL.nil ?_
  refine W.seq ?_
  refine W.region ?_
  refine WL.vS hS hE (runs_plain rfl) (Gives.build hE (vs := []) [.int .i64 0, .int .i64 0, .int .i64 0, .int .i64 0, .int .i64 0, .int .i64 0, .int .i64 0] rfl (by kernel_rfl)) rfl ?_; clear hE a; intro a hE
  refine WL.alloc hE hS (runs_plain rfl) zr102 rfl ?_; clear hE hS a w; intro b52 a w hE hS
  replace hS := hS.ptVec (es := 1) (m := 7) rfl (by decide)
  have h53 : Ev 1 (RI .i64) s [.int .i64 0, .int .i64 0, .int .i64 0, .int .i64 0, .int .i64 0, .int .i64 0, .int .i64 0] [0, 0, 0, 0, 0, 0, 0] := (Ev.cons (c1 := [.int .i64 0]) rfl rfl (Ev.cons (c1 := [.int .i64 0]) rfl rfl (Ev.cons (c1 := [.int .i64 0]) rfl rfl (Ev.cons (c1 := [.int .i64 0]) rfl rfl (Ev.cons (c1 := [.int .i64 0]) rfl rfl (Ev.cons (c1 := [.int .i64 0]) rfl rfl (Ev.cons (c1 := [.int .i64 0]) rfl rfl (Ev.nil))))))))
  have h55 : Ev 1 (RI .i64) s [.int .i64 0, .int .i64 0, .int .i64 0, .int .i64 0, .int .i64 0, .int .i64 0, .int .i64 0] [0, 0, 0, 0, 0, 0, 0] := (Ev.cons (c1 := [.int .i64 0]) rfl rfl (Ev.cons (c1 := [.int .i64 0]) rfl rfl (Ev.cons (c1 := [.int .i64 0]) rfl rfl (Ev.cons (c1 := [.int .i64 0]) rfl rfl (Ev.cons (c1 := [.int .i64 0]) rfl rfl (Ev.cons (c1 := [.int .i64 0]) rfl rfl (Ev.cons (c1 := [.int .i64 0]) rfl rfl (Ev.nil))))))))
  have hn56 : ([0, 0, 0, 0, 0, 0, 0]).length = 7 := rfl
  refine WL.storeArr hE hS 0 rfl (runs_plain rfl) rfl rfl rfl ty102 (by decide) (by first | rfl | (rw [h55.ints]; simp [List.all_map, Function.comp_def, Value.oneCell'])) h55 hn56 rfl ?_; clear hE hS a w; intro a w hE hS
  refine WL.nil ?_
  refine W.seq ?_
  refine W.seq ?_
  refine W.region ?_
  refine WL.vS hS hE (runs_plain rfl) (Gives.p hE rfl) rfl ?_; clear hE a; intro a hE
  refine WL.vS hS hE (runs_plain rfl) (Gives.len hE rfl sl22) rfl ?_; clear hE a; intro a hE
  refine WL.vS hS hE (runs_plain rfl) (Gives.p hE rfl) rfl ?_; clear hE a; intro a hE
  refine WL.nil ?_
  obtain ⟨q58, hq57, hr⟩ := bindS hr
  refine W.cut (fun a w => ∃ (q68 : Bool), ∃ (q69 : List Int), ∃ (cs73 : List Value), (q68, q69) = q58 ∧ Ev 1 (RI .i64) s cs73 q69 ∧ q69.length = 7 ∧ Rep a 111 [(5, .pointer (some ⟨b51, 0, none⟩)), (6, .bool false), (7, .bool q68), (8, .bool false), (9, .pointer (some ⟨b52, 0, none⟩))] ∧ St w s (vecC 102 1 (some ⟨b52, 0, none⟩) 7 7 cs73 :: pt b51 (.cells (FleetLimits.cells x2).toArray 35 (0, 0)) :: R)) ?_ ?_
  · refine W.block ?_
    refine W.loop (fun m a w => ∃ (rest61 : List Int) (k59 : Nat), ∃ (q68 : Bool), ∃ (q69 : List Int), ∃ (cs73 : List Value), rest61.length = m ∧ x1.drop k59 = rest61 ∧ FleetdriverBreaks.loop1 x0 x1 x2 rest61 k59 q68 q69 = some q58 ∧ Ev 1 (RI .i64) s cs73 q69 ∧ q69.length = 7 ∧ Rep a 111 [(0, .slice a0 x0.length c0), (1, .slice a1 x1.length c1), (5, .pointer (some ⟨b51, 0, none⟩)), (6, .bool false), (7, .bool q68), (8, .bool false), (9, .pointer (some ⟨b52, 0, none⟩)), (20, .slice a1 x1.length c1), (21, .int .i64 ((x1).length : Int)), (22, .int .i64 ((k59 : Nat) : Int))] ∧ St w s (vecC 102 1 (some ⟨b52, 0, none⟩) 7 7 cs73 :: pt b51 (.cells (FleetLimits.cells x2).toArray 35 (0, 0)) :: R)) (m := x1.length) ⟨x1, 0, false, [0, 0, 0, 0, 0, 0, 0], [.int .i64 0, .int .i64 0, .int .i64 0, .int .i64 0, .int .i64 0, .int .i64 0, .int .i64 0], rfl, rfl, hq57, h55, hn56, hE.pick _ ⟨rfl, rfl, rfl, rfl, rfl, rfl, rfl, rfl, rfl, rfl, trivial⟩, hS⟩ ?_
    clear hE hS a w hq57; rintro m65 a w ⟨rest61, k59, q68, q69, cs73, rfl, hd62, hq57, h72, hn74, hE, hS⟩
    refine W.gen fun K75 hK75 => ?_
    rcases rest61 with _ | ⟨x60, rest61⟩
    · have hlt63 := drop_nil hd62
      refine W.seq ?_
      refine W.region ?_
      refine WL.vS hS hE (runs_plain rfl) (Gives.p hE rfl) rfl ?_; clear hE a; intro a hE
      refine WL.nil ?_
      refine W.seq ?_
      refine W.condF hE rfl (decide_eq_false (by omega)) ?_
      subst hK75
      refine W.exit rfl ?_
      exact ⟨q68, q69, cs73, Option.some.inj hq57, h72, hn74, hE.pick _ ⟨rfl, rfl, rfl, rfl, rfl, trivial⟩, hS⟩
    · obtain ⟨hlt63, hx64, hd62⟩ := drop_cons hd62
      rw [FleetdriverBreaks.loop1] at hq57
      refine W.seq ?_
      refine W.region ?_
      refine WL.vS hS hE (runs_plain rfl) (Gives.p hE rfl) rfl ?_; clear hE a; intro a hE
      refine WL.nil ?_
      refine W.seq ?_
      refine W.condT hE rfl (decide_eq_true (by omega)) ?_
      refine W.skip ?_
      refine W.seq ?_
      refine W.block ?_
      refine W.seq ?_
      refine W.region ?_
      refine WL.vS hS hE (runs_plain rfl) (Gives.p hE rfl) rfl ?_; clear hE a; intro a hE
      obtain ⟨cs76, hl77, hR78, hat79⟩ := h1.at hx64
      subst hR78
      refine WL.vS hS hE (runs_plain rfl) (Gives.idx hE k59 rfl rfl sl22 rfl hlt63 (h1.aok hlt63)) rfl ?_; clear hE a; intro a hE
      refine WL.vS hS hE (runs_plain rfl) (Gives.load1 hE rfl (fun w h => hat79 w _ h) ty3) rfl ?_; clear hE a; intro a hE
      refine WL.vS hS hE (runs_plain rfl) (Gives.p hE rfl) rfl ?_; clear hE a; intro a hE
      refine WL.vS hS hE (runs_plain rfl) (Gives.p hE rfl) rfl ?_; clear hE a; intro a hE
      refine WL.nil ?_
      refine W.seq ?_
      refine W.region ?_
      refine WL.vS hS hE (runs_plain rfl) (Gives.p hE rfl) rfl ?_; clear hE a; intro a hE
      refine WL.vS hS hE (runs_plain rfl) (Gives.p hE rfl) rfl ?_; clear hE a; intro a hE
      obtain ⟨x80, hx81, hq57⟩ := bindS hq57
      obtain ⟨hi82, hlt83, hy84⟩ := gx_some hx81
      obtain ⟨cs85, hl86, hR87, hat88⟩ := h0.at hy84
      subst hR87
      refine WL.vS hS hE (runs_plain rfl) (Gives.idx hE (x60).toNat rfl rfl sl50 hi82 hlt83 (h0.aok hlt83)) rfl ?_; clear hE a; intro a hE
      refine WL.vS hS hE (runs_plain rfl) (Gives.fld hE rfl fl90_0) rfl ?_; clear hE a; intro a hE
      refine WL.vS hS hE (runs_plain rfl) (Gives.load1 hE rfl (fun w h => (hat88 w _ h).one rfl) ty3) rfl ?_; clear hE a; intro a hE
      obtain ⟨x89, hx90, hq57⟩ := bindS hq57
      obtain ⟨hi91, hlt92, hy93⟩ := gx_some hx90
      obtain ⟨vs94, hl95, hR96, hd97, hget98⟩ := h72.at hy93
      subst hR96
      refine WL.vS hS hE (runs_plain rfl) (Gives.idxA hE ((x80.Day).toNat) rfl rfl ar102 hi91 (by have := hn74; omega) (hS.vecAok 0 rfl (by have := hn74; omega : (x80.Day).toNat < 7))) rfl ?_; clear hE a; intro a hE
      refine WL.vS hS hE (runs_plain rfl) (Gives.load1 hE rfl (fun w h => St.vecSees h 0 rfl ((x80.Day).toNat * 1) _ hget98) ty3) rfl ?_; clear hE a; intro a hE
      refine WL.vS hS hE (runs_plain rfl) (Gives.p hE rfl) rfl ?_; clear hE a; intro a hE
      obtain ⟨_, hx100, hq57⟩ := bindS hq57
      obtain ⟨h101, h102⟩ := ix_some hx100
      refine WL.vS hS hE (runs_plain rfl) (Gives.idxA hE ((x80.Day).toNat) rfl rfl ar102 h101 (by have := hn74; omega) (hS.vecAok 0 rfl (by have := hn74; omega : (x80.Day).toNat < 7))) rfl ?_; clear hE a; intro a hE
      obtain ⟨x104, hx105, hq57⟩ := bindS hq57
      refine WL.setD hE hS 0 rfl (runs_plain rfl) rfl rfl (vs := [.int .i64 (w64 (x89 + 1))]) rfl ty3 rfl rfl rfl h72 hn74 (sx_some hx105).1 hx105 rfl rfl ?_; clear hE hS a w; intro cs106 a w h107 hn108 hE hS
      refine WL.nil ?_
      refine W.seq ?_
      refine W.region ?_
      refine WL.vS hS hE (runs_plain rfl) (Gives.p hE rfl) rfl ?_; clear hE a; intro a hE
      refine WL.vS hS hE (runs_plain rfl) (Gives.p hE rfl) rfl ?_; clear hE a; intro a hE
      obtain ⟨x109, hx110, hq57⟩ := bindS hq57
      obtain ⟨a111, c112, heq113, h114⟩ := h1.cut hx110
      obtain ⟨h115, h116, h117, _⟩ := cutl_some hx110
      refine WL.vS hS hE (runs_plain rfl) (Gives.slH hE sl22 rfl rfl (by omega) (by have := h1.len; omega) heq113) rfl ?_; clear hE a; intro a hE
      refine WL.vS hS hE (runs_plain rfl) (Gives.len hE rfl sl22) rfl ?_; clear hE a; intro a hE
      refine WL.vS hS hE (runs_plain rfl) (Gives.p hE rfl) rfl ?_; clear hE a; intro a hE
      refine WL.nil ?_
      obtain ⟨q119, hq118, hq57⟩ := bindS hq57
      refine W.cut (fun a w => ∃ (q129 : Bool), q129 = q119 ∧ Rep a 111 [(0, .slice a0 x0.length c0), (1, .slice a1 x1.length c1), (5, .pointer (some ⟨b51, 0, none⟩)), (6, .bool false), (7, .bool q129), (8, .bool false), (9, .pointer (some ⟨b52, 0, none⟩)), (20, .slice a1 x1.length c1), (21, .int .i64 ((x1).length : Int)), (22, .int .i64 ((k59 : Nat) : Int))] ∧ St w s (vecC 102 1 (some ⟨b52, 0, none⟩) 7 7 cs106 :: pt b51 (.cells (FleetLimits.cells x2).toArray 35 (0, 0)) :: R)) ?_ ?_
      · refine W.block ?_
        refine W.loop (fun m a w => ∃ (rest122 : List Int) (k120 : Nat), ∃ (q129 : Bool), rest122.length = m ∧ x109.drop k120 = rest122 ∧ FleetdriverBreaks.loop2 x0 x2 x60 rest122 q129 = some q119 ∧ Rep a 111 [(0, .slice a0 x0.length c0), (1, .slice a1 x1.length c1), (5, .pointer (some ⟨b51, 0, none⟩)), (6, .bool false), (7, .bool q129), (8, .bool false), (9, .pointer (some ⟨b52, 0, none⟩)), (11, .int .i64 x60), (20, .slice a1 x1.length c1), (21, .int .i64 ((x1).length : Int)), (22, .int .i64 ((k59 : Nat) : Int)), (38, .slice a111 x109.length c112), (39, .int .i64 ((x109).length : Int)), (40, .int .i64 ((k120 : Nat) : Int))] ∧ St w s (vecC 102 1 (some ⟨b52, 0, none⟩) 7 7 cs106 :: pt b51 (.cells (FleetLimits.cells x2).toArray 35 (0, 0)) :: R)) (m := x109.length) ⟨x109, 0, q68, rfl, rfl, hq118, hE.pick _ ⟨rfl, rfl, rfl, rfl, rfl, rfl, rfl, rfl, rfl, rfl, rfl, rfl, rfl, rfl, trivial⟩, hS⟩ ?_
        clear hE hS a w hq118; rintro m126 a w ⟨rest122, k120, q129, rfl, hd123, hq118, hE, hS⟩
        refine W.gen fun K130 hK130 => ?_
        rcases rest122 with _ | ⟨x121, rest122⟩
        · have hlt124 := drop_nil hd123
          refine W.seq ?_
          refine W.region ?_
          refine WL.vS hS hE (runs_plain rfl) (Gives.p hE rfl) rfl ?_; clear hE a; intro a hE
          refine WL.nil ?_
          refine W.seq ?_
          refine W.condF hE rfl (decide_eq_false (by omega)) ?_
          subst hK130
          refine W.exit rfl ?_
          exact ⟨q129, Option.some.inj hq118, hE.pick _ ⟨rfl, rfl, rfl, rfl, rfl, rfl, rfl, rfl, rfl, rfl, trivial⟩, hS⟩
        · obtain ⟨hlt124, hx125, hd123⟩ := drop_cons hd123
          rw [FleetdriverBreaks.loop2] at hq118
          refine W.seq ?_
          refine W.region ?_
          refine WL.vS hS hE (runs_plain rfl) (Gives.p hE rfl) rfl ?_; clear hE a; intro a hE
          refine WL.nil ?_
          refine W.seq ?_
          refine W.condT hE rfl (decide_eq_true (by omega)) ?_
          refine W.skip ?_
          refine W.seq ?_
          refine W.block ?_
          refine W.seq ?_
          refine W.region ?_
          obtain ⟨cs131, hl132, hR133, hat134⟩ := h114.at hx125
          subst hR133
          refine WL.vS hS hE (runs_plain rfl) (Gives.idx hE k120 rfl rfl sl22 rfl hlt124 (h114.aok hlt124)) rfl ?_; clear hE a; intro a hE
          refine WL.vS hS hE (runs_plain rfl) (Gives.load1 hE rfl (fun w h => hat134 w _ h) ty3) rfl ?_; clear hE a; intro a hE
          refine WL.vS hS hE (runs_plain rfl) (Gives.p hE rfl) rfl ?_; clear hE a; intro a hE
          refine WL.nil ?_
          refine W.seq ?_
          refine W.gen fun K135 hK135 => ?_
          refine W.regionE (sel (fun w => St w s (vecC 102 1 (some ⟨b52, 0, none⟩) 7 7 cs106 :: pt b51 (.cells (FleetLimits.cells x2).toArray 35 (0, 0)) :: R)) (fun w => St w s (vecC 102 1 (some ⟨b52, 0, none⟩) 7 7 cs106 :: pt b51 (.cells (FleetLimits.cells x2).toArray 35 (0, 0)) :: R))) (fun b i => cond b ([0, 1, 2, 3, 4, 5, 6, 7, 8, 9, 10, 11].contains i) ([0, 1, 2, 3, 4, 5, 6, 7, 8, 9, 10, 11].contains i)) mixed ?_
          replace hS := hS.drew
          refine Rg.takeP (i := 0) hE rfl (by kernel_rfl) (runs_plain rfl) (Gives.p hE rfl) rfl (tw_sel (fun _ => hS) (fun _ => hS)) ?_; clear hE a; intro a hE
          refine Rg.takeP (i := 1) hE rfl (by kernel_rfl) (runs_plain rfl) (Gives.p hE rfl) rfl (tw_sel (fun _ => hS) (fun _ => hS)) ?_; clear hE a; intro a hE
          obtain ⟨x136, hx137, hq118⟩ := bindS hq118
          obtain ⟨hi138, hlt139, hy140⟩ := gx_some hx137
          obtain ⟨cs141, hl142, hR143, hat144⟩ := h0.at hy140
          subst hR143
          refine Rg.takeP (i := 2) hE rfl (by kernel_rfl) (runs_plain rfl) (Gives.idx hE (x60).toNat rfl rfl sl50 hi138 hlt139 (h0.aok hlt139)) rfl (tw_sel (fun _ => hS) (fun _ => hS)) ?_; clear hE a; intro a hE
          have hT := tw_sel (A := fun w => St w s (vecC 102 1 (some ⟨b52, 0, none⟩) 7 7 cs106 :: pt b51 (.cells (FleetLimits.cells x2).toArray 35 (0, 0)) :: R)) (B := fun w => St w s (vecC 102 1 (some ⟨b52, 0, none⟩) 7 7 cs106 :: pt b51 (.cells (FleetLimits.cells x2).toArray 35 (0, 0)) :: R)) (w := _) (x := true) (y := true) (fun _ => hS) (fun _ => hS)
          have hF := hS; replace hS := hS
          refine Rg.take (i := 3) true rfl hE rfl (by kernel_rfl) (runs_plain rfl) (Gives.loadA hE rfl (fun w h => hat144 w _ h) ty90) rfl hT ?_; clear hE a; intro a hE
          replace hS := hF; clear hF hT
          refine Rg.takeP (i := 4) hE rfl (by kernel_rfl) (runs_plain rfl) (Gives.p hE rfl) rfl (tw_sel (fun _ => hS) (fun _ => hS)) ?_; clear hE a; intro a hE
          refine Rg.takeP (i := 5) hE rfl (by kernel_rfl) (runs_plain rfl) (Gives.p hE rfl) rfl (tw_sel (fun _ => hS) (fun _ => hS)) ?_; clear hE a; intro a hE
          obtain ⟨x145, hx146, hq118⟩ := bindS hq118
          obtain ⟨hi147, hlt148, hy149⟩ := gx_some hx146
          obtain ⟨cs150, hl151, hR152, hat153⟩ := h0.at hy149
          subst hR152
          refine Rg.takeP (i := 6) hE rfl (by kernel_rfl) (runs_plain rfl) (Gives.idx hE (x121).toNat rfl rfl sl50 hi147 hlt148 (h0.aok hlt148)) rfl (tw_sel (fun _ => hS) (fun _ => hS)) ?_; clear hE a; intro a hE
          have hT := tw_sel (A := fun w => St w s (vecC 102 1 (some ⟨b52, 0, none⟩) 7 7 cs106 :: pt b51 (.cells (FleetLimits.cells x2).toArray 35 (0, 0)) :: R)) (B := fun w => St w s (vecC 102 1 (some ⟨b52, 0, none⟩) 7 7 cs106 :: pt b51 (.cells (FleetLimits.cells x2).toArray 35 (0, 0)) :: R)) (w := _) (x := true) (y := true) (fun _ => hS) (fun _ => hS)
          have hF := hS; replace hS := hS
          refine Rg.take (i := 7) true rfl hE rfl (by kernel_rfl) (runs_plain rfl) (Gives.loadA hE rfl (fun w h => hat153 w _ h) ty90) rfl hT ?_; clear hE a; intro a hE
          replace hS := hF; clear hF hT
          suffices key : ∀ (b154 b155 : Nat) (a : Act) (w : World), Rep a 111 [(0, .slice a0 x0.length c0), (1, .slice a1 x1.length c1), (5, .pointer (some ⟨b51, 0, none⟩)), (6, .bool false), (7, .bool q129), (8, .bool false), (9, .pointer (some ⟨b52, 0, none⟩)), (11, .int .i64 x60), (14, .pointer (some ⟨b154, 0, none⟩)), (15, .pointer (some ⟨b155, 0, none⟩)), (20, .slice a1 x1.length c1), (21, .int .i64 ((x1).length : Int)), (22, .int .i64 ((k59 : Nat) : Int)), (38, .slice a111 x109.length c112), (39, .int .i64 ((x109).length : Int)), (40, .int .i64 ((k120 : Nat) : Int))] → St w s (pt b155 (.cells (FleetShift.cells x145).toArray 90 (0, 0)) :: pt b154 (.cells (FleetShift.cells x136).toArray 90 (0, 0)) :: vecC 102 1 (some ⟨b52, 0, none⟩) 7 7 cs106 :: pt b51 (.cells (FleetLimits.cells x2).toArray 35 (0, 0)) :: R) → K135.nor a w by
            refine Rg.two (i := 8) (j := 9) true true true true rfl rfl (by kernel_rfl) (by kernel_rfl) (by kernel_rfl) (by kernel_rfl) (by kernel_rfl) ?_ ?_
            · refine WL.alloc hE hS (runs_plain rfl) zr90 rfl ?_; clear hE hS a w; intro b154 a w hE hS
              refine WL.nil ?_
              refine ⟨⟨fun _ => (hS.tail), fun _ => (hS.tail)⟩, ?_⟩
              refine Rg.one (i := 9) true true rfl (by kernel_rfl) (by kernel_rfl) (by kernel_rfl) ?_
              refine WL.alloc hE hS (runs_plain rfl) zr90 rfl ?_; clear hE hS a w; intro b155 a w hE hS
              refine WL.nil ?_
              refine ⟨⟨fun _ => ((hS.tail).tail), fun _ => ((hS.tail).tail)⟩, ?_⟩
              refine Rg.one (i := 10) true true rfl (by kernel_rfl) (by kernel_rfl) (by kernel_rfl) ?_
              refine WL.storeI hE hS 1 rfl (FleetShift.cells x136) (runs_plain rfl) rfl rfl rfl ty90 rfl rfl rfl rfl ?_; clear hE hS a w; intro a w hE hS
              refine WL.nil ?_
              refine ⟨⟨fun _ => ((hS.tail).tail), fun _ => ((hS.tail).tail)⟩, ?_⟩
              refine Rg.one (i := 11) true true rfl (by kernel_rfl) (by kernel_rfl) (by kernel_rfl) ?_
              refine WL.storeI hE hS 0 rfl (FleetShift.cells x145) (runs_plain rfl) rfl rfl rfl ty90 rfl rfl rfl rfl ?_; clear hE hS a w; intro a w hE hS
              refine WL.nil ?_
              refine ⟨⟨fun _ => ((hS.tail).tail), fun _ => ((hS.tail).tail)⟩, ?_⟩
              refine Rg.done (by kernel_rfl) ?_
              exact key b154 b155 _ _ (hE.pick _ ⟨rfl, rfl, rfl, rfl, rfl, rfl, rfl, rfl, rfl, rfl, rfl, rfl, rfl, rfl, rfl, rfl, trivial⟩) hS
            · refine WL.alloc hE hS (runs_plain rfl) zr90 rfl ?_; clear hE hS a w; intro b156 a w hE hS
              refine WL.nil ?_
              refine ⟨⟨fun _ => (hS.tail), fun _ => (hS.tail)⟩, ?_⟩
              refine Rg.one (i := 8) true true rfl (by kernel_rfl) (by kernel_rfl) (by kernel_rfl) ?_
              refine WL.alloc hE hS (runs_plain rfl) zr90 rfl ?_; clear hE hS a w; intro b157 a w hE hS
              refine WL.nil ?_
              refine ⟨⟨fun _ => ((hS.tail).tail), fun _ => ((hS.tail).tail)⟩, ?_⟩
              refine Rg.one (i := 10) true true rfl (by kernel_rfl) (by kernel_rfl) (by kernel_rfl) ?_
              refine WL.storeI hE hS 0 rfl (FleetShift.cells x136) (runs_plain rfl) rfl rfl rfl ty90 rfl rfl rfl rfl ?_; clear hE hS a w; intro a w hE hS
              refine WL.nil ?_
              refine ⟨⟨fun _ => ((hS.tail).tail), fun _ => ((hS.tail).tail)⟩, ?_⟩
              refine Rg.one (i := 11) true true rfl (by kernel_rfl) (by kernel_rfl) (by kernel_rfl) ?_
              refine WL.storeI hE hS 1 rfl (FleetShift.cells x145) (runs_plain rfl) rfl rfl rfl ty90 rfl rfl rfl rfl ?_; clear hE hS a w; intro a w hE hS
              refine WL.nil ?_
              refine ⟨⟨fun _ => ((hS.tail).tail), fun _ => ((hS.tail).tail)⟩, ?_⟩
              refine Rg.done (by kernel_rfl) ?_
              replace hS := hS.front 3 rfl
              replace hS := hS.front 3 rfl
              replace hS := hS.front 2 rfl
              replace hS := hS.front 3 rfl
              exact key b157 b156 _ _ (hE.pick _ ⟨rfl, rfl, rfl, rfl, rfl, rfl, rfl, rfl, rfl, rfl, rfl, rfl, rfl, rfl, rfl, rfl, trivial⟩) hS
          clear hE hS a w; intro b154 b155 a w hE hS
          subst hK135
          refine W.seq ?_
          refine W.seq ?_
          refine W.region ?_
          refine WL.vS hS hE (runs_plain rfl) (Gives.fld hE rfl fl90_0) rfl ?_; clear hE a; intro a hE
          refine WL.vS hS hE (runs_plain rfl) (Gives.loadB hE 1 rfl rfl rfl ty3) rfl ?_; clear hE a; intro a hE
          refine WL.vS hS hE (runs_plain rfl) (Gives.fld hE rfl fl90_0) rfl ?_; clear hE a; intro a hE
          refine WL.vS hS hE (runs_plain rfl) (Gives.loadB hE 0 rfl rfl rfl ty3) rfl ?_; clear hE a; intro a hE
          refine WL.vS hS hE (runs_plain rfl) (Gives.p hE rfl) rfl ?_; clear hE a; intro a hE
          refine WL.nil ?_
          obtain ⟨q159, hq158, hq118⟩ := bndS hq118
          refine W.cut (fun a w => ∃ (q162 : Int), ∃ (q163 : Int), ∃ (q164 : Int), ∃ (q165 : Int), ∃ (q166 : Int), ∃ (q167 : Int), (q162, q163, q164, q165, q166, q167) = q159 ∧ Rep a 111 [(0, .slice a0 x0.length c0), (1, .slice a1 x1.length c1), (5, .pointer (some ⟨b51, 0, none⟩)), (6, .bool false), (7, .bool q129), (8, .bool false), (9, .pointer (some ⟨b52, 0, none⟩)), (11, .int .i64 x60), (14, .pointer (some ⟨b154, 0, none⟩)), (15, .pointer (some ⟨b155, 0, none⟩)), (20, .slice a1 x1.length c1), (21, .int .i64 ((x1).length : Int)), (22, .int .i64 ((k59 : Nat) : Int)), (38, .slice a111 x109.length c112), (39, .int .i64 ((x109).length : Int)), (40, .int .i64 ((k120 : Nat) : Int))] ∧ St w s (pt b155 (.cells #[.int .i64 q165, .int .i64 q166, .int .i64 q167] 90 (0, 0)) :: pt b154 (.cells #[.int .i64 q162, .int .i64 q163, .int .i64 q164] 90 (0, 0)) :: vecC 102 1 (some ⟨b52, 0, none⟩) 7 7 cs106 :: pt b51 (.cells (FleetLimits.cells x2).toArray 35 (0, 0)) :: R)) ?_ ?_
          · refine W.gen fun K168 hK168 => ?_
            refine W.cond hE rfl (fun hc169 => ?_) (fun hc169 => ?_)
            · replace hq158 := iteT hc169 hq158
              refine W.region ?_
              refine WL.vS hS hE (runs_plain rfl) (Gives.loadBA hE 0 rfl rfl ty90) rfl ?_; clear hE a; intro a hE
              refine WL.vS hS hE (runs_plain rfl) (Gives.loadBA hE 1 rfl rfl ty90) rfl ?_; clear hE a; intro a hE
              refine WL.storeI hE hS 1 rfl (FleetShift.cells x145) (runs_plain rfl) rfl rfl rfl ty90 rfl rfl rfl rfl ?_; clear hE hS a w; intro a w hE hS
              refine WL.storeI hE hS 0 rfl (FleetShift.cells x136) (runs_plain rfl) rfl rfl rfl ty90 rfl rfl rfl rfl ?_; clear hE hS a w; intro a w hE hS
              refine WL.nil ?_
              subst hK168
              exact ⟨x145.Day, x145.Start, x145.End, x136.Day, x136.Start, x136.End, hq158, hE.pick _ ⟨rfl, rfl, rfl, rfl, rfl, rfl, rfl, rfl, rfl, rfl, rfl, rfl, rfl, rfl, rfl, rfl, trivial⟩, hS⟩
            · replace hq158 := iteF hc169 hq158
              refine W.skip ?_
              subst hK168
              exact ⟨x136.Day, x136.Start, x136.End, x145.Day, x145.Start, x145.End, hq158, hE.pick _ ⟨rfl, rfl, rfl, rfl, rfl, rfl, rfl, rfl, rfl, rfl, rfl, rfl, rfl, rfl, rfl, rfl, trivial⟩, hS⟩
          · clear hE hS a w; rintro a w ⟨q162, q163, q164, q165, q166, q167, rfl, hE, hS⟩
            dsimp only at hq118
            obtain ⟨q171, hq170, hq118⟩ := bndS hq118
            refine W.cut (fun a w => ∃ (q174 : Bool), q174 = q171 ∧ Rep a 111 [(0, .slice a0 x0.length c0), (1, .slice a1 x1.length c1), (5, .pointer (some ⟨b51, 0, none⟩)), (6, .bool false), (7, .bool q174), (8, .bool false), (9, .pointer (some ⟨b52, 0, none⟩)), (11, .int .i64 x60), (20, .slice a1 x1.length c1), (21, .int .i64 ((x1).length : Int)), (22, .int .i64 ((k59 : Nat) : Int)), (38, .slice a111 x109.length c112), (39, .int .i64 ((x109).length : Int)), (40, .int .i64 ((k120 : Nat) : Int))] ∧ St w s (pt b155 (.cells #[.int .i64 q165, .int .i64 q166, .int .i64 q167] 90 (0, 0)) :: pt b154 (.cells #[.int .i64 q162, .int .i64 q163, .int .i64 q164] 90 (0, 0)) :: vecC 102 1 (some ⟨b52, 0, none⟩) 7 7 cs106 :: pt b51 (.cells (FleetLimits.cells x2).toArray 35 (0, 0)) :: R)) ?_ ?_
            · refine W.gen fun K175 hK175 => ?_
              refine W.region ?_
              refine WL.vS hS hE (runs_plain rfl) (Gives.p hE rfl) rfl ?_; clear hE a; intro a hE
              refine WL.vS hS hE (runs_plain rfl) (Gives.p hE rfl) rfl ?_; clear hE a; intro a hE
              rcases Bool.eq_false_or_eq_true q129 with hg176 | hg176
              · replace hq170 := iteT hg176 hq170
                refine WL.no hE (runs_not hE rfl rfl rfl (by rw [hg176]; decide)) rfl ?_; clear hE a; intro a hE
                refine WL.no hE (runs_not hE rfl rfl rfl (by rw [hg176]; decide)) rfl ?_; clear hE a; intro a hE
                refine WL.no hE (runs_not hE rfl rfl rfl (by rw [hg176]; decide)) rfl ?_; clear hE a; intro a hE
                refine WL.no hE (runs_not hE rfl rfl rfl (by rw [hg176]; decide)) rfl ?_; clear hE a; intro a hE
                refine WL.no hE (runs_not hE rfl rfl rfl (by rw [hg176]; decide)) rfl ?_; clear hE a; intro a hE
                refine WL.no hE (runs_not hE rfl rfl rfl (by rw [hg176]; decide)) rfl ?_; clear hE a; intro a hE
                refine WL.no hE (runs_undef hE rfl rfl rfl) rfl ?_; clear hE a; intro a hE
                refine WL.no hE (runs_undef hE rfl rfl rfl) rfl ?_; clear hE a; intro a hE
                refine WL.no hE (runs_undef hE rfl rfl rfl) rfl ?_; clear hE a; intro a hE
                refine WL.no hE (runs_undef hE rfl rfl rfl) rfl ?_; clear hE a; intro a hE
                refine WL.no hE (runs_undef hE rfl rfl rfl) rfl ?_; clear hE a; intro a hE
                refine WL.no hE (runs_undef hE rfl rfl rfl) rfl ?_; clear hE a; intro a hE
                refine WL.no hE (runs_undef hE rfl rfl rfl) rfl ?_; clear hE a; intro a hE
                refine WL.no hE (runs_undef hE rfl rfl rfl) rfl ?_; clear hE a; intro a hE
                refine WL.no hE (runs_undef hE rfl rfl rfl) rfl ?_; clear hE a; intro a hE
                refine WL.no hE (runs_undef hE rfl rfl rfl) rfl ?_; clear hE a; intro a hE
                refine WL.no hE (runs_undef hE rfl rfl rfl) rfl ?_; clear hE a; intro a hE
                refine WL.no hE (runs_undef hE rfl rfl rfl) rfl ?_; clear hE a; intro a hE
                refine WL.no hE (runs_undef hE rfl rfl rfl) rfl ?_; clear hE a; intro a hE
                refine WL.no hE (runs_undef hE rfl rfl rfl) rfl ?_; clear hE a; intro a hE
                refine WL.no hE (runs_undef hE rfl rfl rfl) rfl ?_; clear hE a; intro a hE
                refine WL.no hE (runs_undef hE rfl rfl rfl) rfl ?_; clear hE a; intro a hE
                refine WL.no hE (runs_not hE rfl rfl rfl (by rw [hg176]; decide)) rfl ?_; clear hE a; intro a hE
                refine WL.vS hS hE (runs_plain rfl) (Gives.pickT hE rfl hg176 rfl) rfl ?_; clear hE a; intro a hE
                refine WL.vS hS hE (runs_plain rfl) (Gives.p hE rfl) rfl ?_; clear hE a; intro a hE
                refine WL.nil ?_
                subst hK175
                exact ⟨true, hq170, hE.pick _ ⟨rfl, rfl, rfl, rfl, rfl, rfl, rfl, rfl, rfl, rfl, rfl, rfl, rfl, rfl, trivial⟩, hS⟩
              · replace hq170 := iteF hg176 hq170
                refine WL.vS hS hE (runs_if hE rfl rfl rfl hg176) (Gives.fld hE rfl fl90_0) rfl ?_; clear hE a; intro a hE
                refine WL.vS hS hE (runs_if hE rfl rfl rfl hg176) (Gives.loadB hE 1 rfl rfl rfl ty3) rfl ?_; clear hE a; intro a hE
                refine WL.vS hS hE (runs_if hE rfl rfl rfl hg176) (Gives.fld hE rfl fl90_0) rfl ?_; clear hE a; intro a hE
                refine WL.vS hS hE (runs_if hE rfl rfl rfl hg176) (Gives.loadB hE 0 rfl rfl rfl ty3) rfl ?_; clear hE a; intro a hE
                refine WL.vS hS hE (runs_if hE rfl rfl rfl hg176) (Gives.p hE rfl) rfl ?_; clear hE a; intro a hE
                refine WL.vS hS hE (runs_if hE rfl rfl rfl hg176) (Gives.p hE rfl) rfl ?_; clear hE a; intro a hE
                rcases Bool.eq_false_or_eq_true (q162 != q165) with hg177 | hg177
                · replace hq170 := iteT hg177 hq170
                  refine WL.vS hS hE (runs_if hE rfl rfl rfl hg177) (Gives.fld hE rfl fl90_0) rfl ?_; clear hE a; intro a hE
                  refine WL.vS hS hE (runs_if hE rfl rfl rfl hg177) (Gives.loadB hE 0 rfl rfl rfl ty3) rfl ?_; clear hE a; intro a hE
                  refine WL.vS hS hE (runs_if hE rfl rfl rfl hg177) (Gives.p hE rfl) rfl ?_; clear hE a; intro a hE
                  refine WL.vS hS hE (runs_if hE rfl rfl rfl hg177) (Gives.fld hE rfl fl90_1) rfl ?_; clear hE a; intro a hE
                  refine WL.vS hS hE (runs_if hE rfl rfl rfl hg177) (Gives.loadB hE 0 rfl rfl rfl ty3) rfl ?_; clear hE a; intro a hE
                  refine WL.vS hS hE (runs_if hE rfl rfl rfl hg177) (Gives.p hE rfl) rfl ?_; clear hE a; intro a hE
                  refine WL.vS hS hE (runs_if hE rfl rfl rfl hg177) (Gives.fld hE rfl fl90_0) rfl ?_; clear hE a; intro a hE
                  refine WL.vS hS hE (runs_if hE rfl rfl rfl hg177) (Gives.loadB hE 1 rfl rfl rfl ty3) rfl ?_; clear hE a; intro a hE
                  refine WL.vS hS hE (runs_if hE rfl rfl rfl hg177) (Gives.p hE rfl) rfl ?_; clear hE a; intro a hE
                  refine WL.vS hS hE (runs_if hE rfl rfl rfl hg177) (Gives.p hE rfl) rfl ?_; clear hE a; intro a hE
                  refine WL.vS hS hE (runs_if hE rfl rfl rfl hg177) (Gives.fld hE rfl fl90_2) rfl ?_; clear hE a; intro a hE
                  refine WL.vS hS hE (runs_if hE rfl rfl rfl hg177) (Gives.loadB hE 1 rfl rfl rfl ty3) rfl ?_; clear hE a; intro a hE
                  refine WL.vS hS hE (runs_if hE rfl rfl rfl hg177) (Gives.p hE rfl) rfl ?_; clear hE a; intro a hE
                  refine WL.vS hS hE (runs_if hE rfl rfl rfl hg177) (Gives.fld hE rfl fl35_5) rfl ?_; clear hE a; intro a hE
                  refine WL.vS hS hE (runs_if hE rfl rfl rfl hg177) (Gives.loadB hE 3 rfl rfl rfl ty3) rfl ?_; clear hE a; intro a hE
                  refine WL.vS hS hE (runs_if hE rfl rfl rfl hg177) (Gives.p hE rfl) rfl ?_; clear hE a; intro a hE
                  refine WL.vS hS hE (runs_if hE rfl rfl rfl hg176) (Gives.pickT hE rfl hg177 rfl) rfl ?_; clear hE a; intro a hE
                  refine WL.vS hS hE (runs_plain rfl) (Gives.pickF hE rfl hg176 rfl) rfl ?_; clear hE a; intro a hE
                  refine WL.vS hS hE (runs_plain rfl) (Gives.p hE rfl) rfl ?_; clear hE a; intro a hE
                  refine WL.nil ?_
                  subst hK175
                  exact ⟨decide ((w64 ((w64 ((w64 ((w64 (q165 * 86400)) + q166)) - (w64 (q162 * 86400)))) - q164)) < x2.Rest), hq170, hE.pick _ ⟨rfl, rfl, rfl, rfl, rfl, rfl, rfl, rfl, rfl, rfl, rfl, rfl, rfl, rfl, trivial⟩, hS⟩
                · replace hq170 := iteF hg177 hq170
                  refine WL.no hE (runs_not hE rfl rfl rfl (by rw [hg177]; decide)) rfl ?_; clear hE a; intro a hE
                  refine WL.no hE (runs_not hE rfl rfl rfl (by rw [hg177]; decide)) rfl ?_; clear hE a; intro a hE
                  refine WL.no hE (runs_not hE rfl rfl rfl (by rw [hg177]; decide)) rfl ?_; clear hE a; intro a hE
                  refine WL.no hE (runs_not hE rfl rfl rfl (by rw [hg177]; decide)) rfl ?_; clear hE a; intro a hE
                  refine WL.no hE (runs_not hE rfl rfl rfl (by rw [hg177]; decide)) rfl ?_; clear hE a; intro a hE
                  refine WL.no hE (runs_not hE rfl rfl rfl (by rw [hg177]; decide)) rfl ?_; clear hE a; intro a hE
                  refine WL.no hE (runs_not hE rfl rfl rfl (by rw [hg177]; decide)) rfl ?_; clear hE a; intro a hE
                  refine WL.no hE (runs_not hE rfl rfl rfl (by rw [hg177]; decide)) rfl ?_; clear hE a; intro a hE
                  refine WL.no hE (runs_not hE rfl rfl rfl (by rw [hg177]; decide)) rfl ?_; clear hE a; intro a hE
                  refine WL.no hE (runs_not hE rfl rfl rfl (by rw [hg177]; decide)) rfl ?_; clear hE a; intro a hE
                  refine WL.no hE (runs_not hE rfl rfl rfl (by rw [hg177]; decide)) rfl ?_; clear hE a; intro a hE
                  refine WL.no hE (runs_not hE rfl rfl rfl (by rw [hg177]; decide)) rfl ?_; clear hE a; intro a hE
                  refine WL.no hE (runs_not hE rfl rfl rfl (by rw [hg177]; decide)) rfl ?_; clear hE a; intro a hE
                  refine WL.no hE (runs_not hE rfl rfl rfl (by rw [hg177]; decide)) rfl ?_; clear hE a; intro a hE
                  refine WL.no hE (runs_not hE rfl rfl rfl (by rw [hg177]; decide)) rfl ?_; clear hE a; intro a hE
                  refine WL.no hE (runs_not hE rfl rfl rfl (by rw [hg177]; decide)) rfl ?_; clear hE a; intro a hE
                  refine WL.vS hS hE (runs_if hE rfl rfl rfl hg176) (Gives.pickF hE rfl hg177 rfl) rfl ?_; clear hE a; intro a hE
                  refine WL.vS hS hE (runs_plain rfl) (Gives.pickF hE rfl hg176 rfl) rfl ?_; clear hE a; intro a hE
                  refine WL.vS hS hE (runs_plain rfl) (Gives.p hE rfl) rfl ?_; clear hE a; intro a hE
                  refine WL.nil ?_
                  subst hK175
                  exact ⟨false, hq170, hE.pick _ ⟨rfl, rfl, rfl, rfl, rfl, rfl, rfl, rfl, rfl, rfl, rfl, rfl, rfl, rfl, trivial⟩, hS⟩
            · clear hE hS a w; rintro a w ⟨q174, rfl, hE, hS⟩
              refine W.region ?_
              refine WL.vS hS hE (runs_plain rfl) (Gives.inc hE rfl (by have := h114.small; omega)) rfl ?_; clear hE a; intro a hE
              refine WL.vS hS hE (runs_plain rfl) (Gives.p hE rfl) rfl ?_; clear hE a; intro a hE
              refine WL.nil ?_
              replace hS := hS.tail
              replace hS := hS.tail
              subst hK130
              exact ⟨rest122.length, Nat.lt_succ_self _, rest122, k120 + 1, q174, rfl, hd123, hq118, hE.pick _ ⟨rfl, rfl, rfl, rfl, rfl, rfl, rfl, rfl, rfl, rfl, rfl, rfl, rfl, rfl, trivial⟩, hS⟩
      · clear hE hS a w; rintro a w ⟨q129, rfl, hE, hS⟩
        refine W.region ?_
        refine WL.vS hS hE (runs_plain rfl) (Gives.inc hE rfl (by have := h1.small; omega)) rfl ?_; clear hE a; intro a hE
        refine WL.vS hS hE (runs_plain rfl) (Gives.p hE rfl) rfl ?_; clear hE a; intro a hE
        refine WL.nil ?_
        subst hK75
        exact ⟨rest61.length, Nat.lt_succ_self _, rest61, k59 + 1, q129, x104, cs106, rfl, hd62, hq57, h107, hn108, hE.pick _ ⟨rfl, rfl, rfl, rfl, rfl, rfl, rfl, rfl, rfl, rfl, trivial⟩, hS⟩
  · clear hE hS a w; rintro a w ⟨q68, q69, cs73, rfl, h72, hn74, hE, hS⟩
    dsimp only at hr
    refine W.seq ?_
    refine W.region ?_
    refine WL.vS hS hE (runs_plain rfl) (Gives.p hE rfl) rfl ?_; clear hE a; intro a hE
    refine WL.nil ?_
    refine W.seq ?_
    refine W.seq ?_
    refine W.region ?_
    refine WL.vS hS hE (runs_plain rfl) (Gives.loadArr hE 0 rfl rfl (by decide) ty102) rfl ?_; clear hE a; intro a hE
    refine WL.vS hS hE (runs_plain rfl) (Gives.p hE rfl) rfl ?_; clear hE a; intro a hE
    refine WL.nil ?_
    obtain ⟨q179, hq178, hr⟩ := bndS hr
    refine W.cut (fun a w => ∃ (q189 : Bool), ∃ (q190 : Bool), ∃ (q191 : Int), (q189, q190, q191) = q179 ∧ Rep a 111 [(6, .bool q189), (7, .bool q68), (8, .bool q190)] ∧ St w s (vecC 102 1 (some ⟨b52, 0, none⟩) 7 7 cs73 :: pt b51 (.cells (FleetLimits.cells x2).toArray 35 (0, 0)) :: R)) ?_ ?_
    · refine W.block ?_
      refine W.loop (fun m a w => ∃ (rest182 : List Int) (k180 : Nat), ∃ (q189 : Bool), ∃ (q190 : Bool), ∃ (q191 : Int), rest182.length = m ∧ q69.drop k180 = rest182 ∧ FleetdriverBreaks.loop3 x2 rest182 q189 q190 q191 = q179 ∧ Rep a 111 [(5, .pointer (some ⟨b51, 0, none⟩)), (6, .bool q189), (7, .bool q68), (8, .bool q190), (16, .int .i64 q191), (87, .agg cs73.toArray), (88, .int .i64 ((k180 : Nat) : Int))] ∧ St w s (vecC 102 1 (some ⟨b52, 0, none⟩) 7 7 cs73 :: pt b51 (.cells (FleetLimits.cells x2).toArray 35 (0, 0)) :: R)) (m := q69.length) ⟨q69, 0, false, false, 0, rfl, rfl, hq178, hE.pick _ ⟨rfl, rfl, rfl, rfl, rfl, rfl, rfl, trivial⟩, hS⟩ ?_
      clear hE hS a w hq178; rintro m186 a w ⟨rest182, k180, q189, q190, q191, rfl, hd183, hq178, hE, hS⟩
      refine W.gen fun K192 hK192 => ?_
      rcases rest182 with _ | ⟨x181, rest182⟩
      · have hlt184 : 7 ≤ k180 := (by have h1 := drop_nil hd183; have h2 := hn74; omega)
        refine W.seq ?_
        refine W.region ?_
        refine WL.vS hS hE (runs_plain rfl) (Gives.p hE rfl) rfl ?_; clear hE a; intro a hE
        refine WL.nil ?_
        refine W.seq ?_
        refine W.condF hE rfl (decide_eq_false (by omega)) ?_
        subst hK192
        refine W.exit rfl ?_
        exact ⟨q189, q190, q191, hq178, hE.pick _ ⟨rfl, rfl, rfl, trivial⟩, hS⟩
      · obtain ⟨hlt184, hx185, hd183⟩ := drop_cons hd183
        replace hlt184 : k180 < 7 := (by have h1 := hlt184; have h2 := hn74; omega)
        rw [FleetdriverBreaks.loop3] at hq178
        refine W.seq ?_
        refine W.region ?_
        refine WL.vS hS hE (runs_plain rfl) (Gives.p hE rfl) rfl ?_; clear hE a; intro a hE
        refine WL.nil ?_
        refine W.seq ?_
        refine W.condT hE rfl (decide_eq_true (by omega)) ?_
        refine W.skip ?_
        refine W.seq ?_
        refine W.block ?_
        refine W.seq ?_
        refine W.region ?_
        refine WL.vS hS hE (runs_plain rfl) (Gives.indexM hE (f := (Value.int .i64)) (l := q69) (k := k180) ar102 rfl rfl h72.ints hn74 hx185) rfl ?_; clear hE a; intro a hE
        refine WL.vS hS hE (runs_plain rfl) (Gives.p hE rfl) rfl ?_; clear hE a; intro a hE
        refine WL.nil ?_
        refine W.seq ?_
        obtain ⟨q194, hq193, hq178⟩ := bndS hq178
        refine W.cut (fun a w => ∃ (q197 : Bool), q197 = q194 ∧ Rep a 111 [(5, .pointer (some ⟨b51, 0, none⟩)), (6, .bool q197), (7, .bool q68), (8, .bool q190), (16, .int .i64 q191), (18, .int .i64 x181), (87, .agg cs73.toArray), (88, .int .i64 ((k180 : Nat) : Int))] ∧ St w s (vecC 102 1 (some ⟨b52, 0, none⟩) 7 7 cs73 :: pt b51 (.cells (FleetLimits.cells x2).toArray 35 (0, 0)) :: R)) ?_ ?_
        · refine W.gen fun K198 hK198 => ?_
          refine W.region ?_
          refine WL.vS hS hE (runs_plain rfl) (Gives.p hE rfl) rfl ?_; clear hE a; intro a hE
          refine WL.vS hS hE (runs_plain rfl) (Gives.p hE rfl) rfl ?_; clear hE a; intro a hE
          rcases Bool.eq_false_or_eq_true q189 with hg199 | hg199
          · replace hq193 := iteT hg199 hq193
            refine WL.no hE (runs_not hE rfl rfl rfl (by rw [hg199]; decide)) rfl ?_; clear hE a; intro a hE
            refine WL.no hE (runs_not hE rfl rfl rfl (by rw [hg199]; decide)) rfl ?_; clear hE a; intro a hE
            refine WL.vS hS hE (runs_plain rfl) (Gives.pickT hE rfl hg199 rfl) rfl ?_; clear hE a; intro a hE
            refine WL.vS hS hE (runs_plain rfl) (Gives.p hE rfl) rfl ?_; clear hE a; intro a hE
            refine WL.nil ?_
            subst hK198
            exact ⟨true, hq193, hE.pick _ ⟨rfl, rfl, rfl, rfl, rfl, rfl, rfl, rfl, trivial⟩, hS⟩
          · replace hq193 := iteF hg199 hq193
            refine WL.vS hS hE (runs_if hE rfl rfl rfl hg199) (Gives.p hE rfl) rfl ?_; clear hE a; intro a hE
            refine WL.vS hS hE (runs_if hE rfl rfl rfl hg199) (Gives.p hE rfl) rfl ?_; clear hE a; intro a hE
            refine WL.vS hS hE (runs_plain rfl) (Gives.pickF hE rfl hg199 rfl) rfl ?_; clear hE a; intro a hE
            refine WL.vS hS hE (runs_plain rfl) (Gives.p hE rfl) rfl ?_; clear hE a; intro a hE
            refine WL.nil ?_
            subst hK198
            exact ⟨decide (x181 > 1), hq193, hE.pick _ ⟨rfl, rfl, rfl, rfl, rfl, rfl, rfl, rfl, trivial⟩, hS⟩
        · clear hE hS a w; rintro a w ⟨q197, rfl, hE, hS⟩
          refine W.seq ?_
          refine W.seq ?_
          refine W.region ?_
          refine WL.vS hS hE (runs_plain rfl) (Gives.p hE rfl) rfl ?_; clear hE a; intro a hE
          refine WL.vS hS hE (runs_plain rfl) (Gives.p hE rfl) rfl ?_; clear hE a; intro a hE
          refine WL.nil ?_
          refine W.cond hE rfl (fun hc200 => ?_) (fun hc200 => ?_)
          · replace hq178 := iteT hc200 hq178
            refine W.seq ?_
            refine W.region ?_
            refine WL.vS hS hE (runs_plain rfl) (Gives.p hE rfl) rfl ?_; clear hE a; intro a hE
            refine WL.nil ?_
            refine W.exit rfl ?_
            refine W.region ?_
            refine WL.vS hS hE (runs_plain rfl) (Gives.inc hE rfl (by omega)) rfl ?_; clear hE a; intro a hE
            refine WL.vS hS hE (runs_plain rfl) (Gives.p hE rfl) rfl ?_; clear hE a; intro a hE
            refine WL.nil ?_
            subst hK192
            exact ⟨rest182.length, Nat.lt_succ_self _, rest182, k180 + 1, q197, q190, 0, rfl, hd183, hq178, hE.pick _ ⟨rfl, rfl, rfl, rfl, rfl, rfl, rfl, trivial⟩, hS⟩
          · replace hq178 := iteF hc200 hq178
            refine W.skip ?_
            refine W.seq ?_
            refine W.region ?_
            refine WL.vS hS hE (runs_plain rfl) (Gives.p hE rfl) rfl ?_; clear hE a; intro a hE
            refine WL.vS hS hE (runs_plain rfl) (Gives.p hE rfl) rfl ?_; clear hE a; intro a hE
            refine WL.vS hS hE (runs_plain rfl) (Gives.p hE rfl) rfl ?_; clear hE a; intro a hE
            refine WL.nil ?_
            obtain ⟨q202, hq201, hq178⟩ := bndS hq178
            refine W.cut (fun a w => ∃ (q205 : Bool), q205 = q202 ∧ Rep a 111 [(5, .pointer (some ⟨b51, 0, none⟩)), (6, .bool q197), (7, .bool q68), (8, .bool q205), (16, .int .i64 (w64 (q191 + 1))), (87, .agg cs73.toArray), (88, .int .i64 ((k180 : Nat) : Int))] ∧ St w s (vecC 102 1 (some ⟨b52, 0, none⟩) 7 7 cs73 :: pt b51 (.cells (FleetLimits.cells x2).toArray 35 (0, 0)) :: R)) ?_ ?_
            · refine W.gen fun K206 hK206 => ?_
              refine W.region ?_
              refine WL.vS hS hE (runs_plain rfl) (Gives.p hE rfl) rfl ?_; clear hE a; intro a hE
              refine WL.vS hS hE (runs_plain rfl) (Gives.p hE rfl) rfl ?_; clear hE a; intro a hE
              rcases Bool.eq_false_or_eq_true q190 with hg207 | hg207
              · replace hq201 := iteT hg207 hq201
                refine WL.no hE (runs_not hE rfl rfl rfl (by rw [hg207]; decide)) rfl ?_; clear hE a; intro a hE
                refine WL.no hE (runs_not hE rfl rfl rfl (by rw [hg207]; decide)) rfl ?_; clear hE a; intro a hE
                refine WL.no hE (runs_not hE rfl rfl rfl (by rw [hg207]; decide)) rfl ?_; clear hE a; intro a hE
                refine WL.no hE (runs_not hE rfl rfl rfl (by rw [hg207]; decide)) rfl ?_; clear hE a; intro a hE
                refine WL.vS hS hE (runs_plain rfl) (Gives.pickT hE rfl hg207 rfl) rfl ?_; clear hE a; intro a hE
                refine WL.vS hS hE (runs_plain rfl) (Gives.p hE rfl) rfl ?_; clear hE a; intro a hE
                refine WL.nil ?_
                subst hK206
                exact ⟨true, hq201, hE.pick _ ⟨rfl, rfl, rfl, rfl, rfl, rfl, rfl, trivial⟩, hS⟩
              · replace hq201 := iteF hg207 hq201
                refine WL.vS hS hE (runs_if hE rfl rfl rfl hg207) (Gives.p hE rfl) rfl ?_; clear hE a; intro a hE
                refine WL.vS hS hE (runs_if hE rfl rfl rfl hg207) (Gives.fld hE rfl fl35_6) rfl ?_; clear hE a; intro a hE
                refine WL.vS hS hE (runs_if hE rfl rfl rfl hg207) (Gives.loadB hE 1 rfl rfl rfl ty3) rfl ?_; clear hE a; intro a hE
                refine WL.vS hS hE (runs_if hE rfl rfl rfl hg207) (Gives.p hE rfl) rfl ?_; clear hE a; intro a hE
                refine WL.vS hS hE (runs_plain rfl) (Gives.pickF hE rfl hg207 rfl) rfl ?_; clear hE a; intro a hE
                refine WL.vS hS hE (runs_plain rfl) (Gives.p hE rfl) rfl ?_; clear hE a; intro a hE
                refine WL.nil ?_
                subst hK206
                exact ⟨decide ((w64 (q191 + 1)) > x2.Row), hq201, hE.pick _ ⟨rfl, rfl, rfl, rfl, rfl, rfl, rfl, trivial⟩, hS⟩
            · clear hE hS a w; rintro a w ⟨q205, rfl, hE, hS⟩
              refine W.region ?_
              refine WL.vS hS hE (runs_plain rfl) (Gives.inc hE rfl (by omega)) rfl ?_; clear hE a; intro a hE
              refine WL.vS hS hE (runs_plain rfl) (Gives.p hE rfl) rfl ?_; clear hE a; intro a hE
              refine WL.nil ?_
              subst hK192
              exact ⟨rest182.length, Nat.lt_succ_self _, rest182, k180 + 1, q197, q205, (w64 (q191 + 1)), rfl, hd183, hq178, hE.pick _ ⟨rfl, rfl, rfl, rfl, rfl, rfl, rfl, trivial⟩, hS⟩
    · clear hE hS a w; rintro a w ⟨q189, q190, q191, rfl, hE, hS⟩
      dsimp only at hr
      refine W.seq ?_
      refine W.region ?_
      refine WL.vS hS hE (runs_plain rfl) (Gives.p hE rfl) rfl ?_; clear hE a; intro a hE
      refine WL.vS hS hE (runs_plain rfl) (Gives.p hE rfl) rfl ?_; clear hE a; intro a hE
      refine WL.vS hS hE (runs_plain rfl) (Gives.p hE rfl) rfl ?_; clear hE a; intro a hE
      refine WL.vS hS hE (runs_plain rfl) (Gives.p hE rfl) rfl ?_; clear hE a; intro a hE
      refine WL.vS hS hE (runs_plain rfl) (Gives.p hE rfl) rfl ?_; clear hE a; intro a hE
      refine WL.vS hS hE (runs_plain rfl) (Gives.p hE rfl) rfl ?_; clear hE a; intro a hE
      refine WL.nil ?_
      refine W.ret ?_
      refine finG (fn := Try.f69) (rs := [.tmp 6, .tmp 7, .tmp 8]) (vs := [_, _, _]) hE rfl ⟨rfl, rfl, rfl, trivial⟩ ?_
      obtain rfl := Option.some.inj hr
      replace hS := hS.tail
      replace hS := hS.tail
      exact ⟨rfl, hS⟩
set_option maxHeartbeats 8000000 in
theorem FleetjudgeRoster_1_ok  {w : World} {s : Sg} {R : List HP} {x0 : Int} (hS : St w s (R))  {r : Bool} (hr : FleetjudgeRoster_1 x0 = r) :
    Calls Try.prog 71 [.int .i64 x0].toArray w (fun e w => e = .returned (.bool r) ∧ St w s (R)) := by
  refine enter Try.func71 rfl rfl rfl fun a hE => ?_
  rw [FleetjudgeRoster_1] at hr
  refine W.seq ?_
  refine W.region ?_
  refine WL.vS hS hE (runs_plain rfl) (Gives.p hE rfl) rfl ?_; clear hE a; intro a hE
  refine WL.nil ?_
  refine W.seq ?_
  refine W.region ?_
  refine WL.vS hS hE (runs_plain rfl) (Gives.p hE rfl) rfl ?_; clear hE a; intro a hE
  refine WL.vS hS hE (runs_plain rfl) (Gives.p hE rfl) rfl ?_; clear hE a; intro a hE
  refine WL.vS hS hE (runs_plain rfl) (Gives.p hE rfl) rfl ?_; clear hE a; intro a hE
  refine WL.nil ?_
  refine W.ret ?_
  refine finG (fn := Try.f71) (rs := [.tmp 2]) (vs := [_]) hE rfl ⟨rfl, trivial⟩ ?_
  subst hr
  exact ⟨rfl, hS⟩
set_option maxHeartbeats 8000000 in
theorem SlicesIndexFuncLint_v1_ok  {w : World} {s : Sg} {R : List HP} {x0 : List Int} {a0 : Option Addr} {c0 : Nat} (hS : St w s (R)) (h0 : Sl 1 (RI .i64) s a0 c0 x0) {r : Int} (hr : SlicesIndexFuncLint_v1 x0 = r) :
    Calls Try.prog 76 [.slice a0 x0.length c0, .func (.func 71) #[] #[]].toArray w (fun e w => e = .returned (.int .i64 r) ∧ St w s (R)) := by
  refine enter Try.func76 rfl rfl rfl fun a hE => ?_
  rw [SlicesIndexFuncLint_v1] at hr
  refine W.seq ?_
  refine W.region ?_
  refine WL.vS hS hE (runs_plain rfl) (Gives.p hE rfl) rfl ?_; clear hE a; intro a hE
  refine WL.nil ?_
  refine W.seq ?_
  refine W.seq ?_
  refine W.region ?_
  refine WL.vS hS hE (runs_plain rfl) (Gives.p hE rfl) rfl ?_; clear hE a; intro a hE
  refine WL.vS hS hE (runs_plain rfl) (Gives.len hE rfl sl22) rfl ?_; clear hE a; intro a hE
  refine WL.vS hS hE (runs_plain rfl) (Gives.p hE rfl) rfl ?_; clear hE a; intro a hE
  refine WL.nil ?_
  obtain ⟨q52, hq51, hr⟩ := bndS hr
  refine W.cut (fun a w => (.next ()) = q52 ∧ Rep a 19 [] ∧ St w s (R)) ?_ ?_
  · refine W.block ?_
    refine W.loop (fun m a w => ∃ (rest55 : List Int) (k53 : Nat), rest55.length = m ∧ x0.drop k53 = rest55 ∧ SlicesIndexFuncLint_v1.loop1 rest55 k53 = q52 ∧ Rep a 19 [(0, .slice a0 x0.length c0), (1, .func (.func 71) #[] #[]), (7, .int .i64 ((x0).length : Int)), (8, .int .i64 ((k53 : Nat) : Int))] ∧ St w s (R)) (m := x0.length) ⟨x0, 0, rfl, rfl, hq51, hE.pick _ ⟨rfl, rfl, rfl, rfl, trivial⟩, hS⟩ ?_
    clear hE hS a w hq51; rintro m59 a w ⟨rest55, k53, rfl, hd56, hq51, hE, hS⟩
    refine W.gen fun K62 hK62 => ?_
    rcases rest55 with _ | ⟨x54, rest55⟩
    · have hlt57 := drop_nil hd56
      refine W.seq ?_
      refine W.region ?_
      refine WL.vS hS hE (runs_plain rfl) (Gives.p hE rfl) rfl ?_; clear hE a; intro a hE
      refine WL.nil ?_
      refine W.seq ?_
      refine W.condF hE rfl (decide_eq_false (by omega)) ?_
      subst hK62
      refine W.exit rfl ?_
      exact ⟨hq51, hE.pick _ trivial, hS⟩
    · obtain ⟨hlt57, hx58, hd56⟩ := drop_cons hd56
      rw [SlicesIndexFuncLint_v1.loop1] at hq51
      refine W.seq ?_
      refine W.region ?_
      refine WL.vS hS hE (runs_plain rfl) (Gives.p hE rfl) rfl ?_; clear hE a; intro a hE
      refine WL.nil ?_
      refine W.seq ?_
      refine W.condT hE rfl (decide_eq_true (by omega)) ?_
      refine W.skip ?_
      refine W.seq ?_
      refine W.block ?_
      refine W.seq ?_
      refine W.region ?_
      refine WL.vS hS hE (runs_plain rfl) (Gives.p hE rfl) rfl ?_; clear hE a; intro a hE
      refine WL.vS hS hE (runs_plain rfl) (Gives.p hE rfl) rfl ?_; clear hE a; intro a hE
      refine WL.nil ?_
      refine W.seq ?_
      refine W.region ?_
      refine WL.vS hS hE (runs_plain rfl) (Gives.p hE rfl) rfl ?_; clear hE a; intro a hE
      refine WL.vS hS hE (runs_plain rfl) (Gives.p hE rfl) rfl ?_; clear hE a; intro a hE
      refine WL.vS hS hE (runs_plain rfl) (Gives.p hE rfl) rfl ?_; clear hE a; intro a hE
      obtain ⟨cs63, hl64, hR65, hat66⟩ := h0.at hx58
      subst hR65
      refine WL.vS hS hE (runs_plain rfl) (Gives.idx hE k53 rfl rfl sl22 rfl hlt57 (h0.aok hlt57)) rfl ?_; clear hE a; intro a hE
      refine WL.vS hS hE (runs_plain rfl) (Gives.load1 hE rfl (fun w h => hat66 w _ h) ty3) rfl ?_; clear hE a; intro a hE
      refine WL.fnv hE (vs := [.int .i64 x54]) (cs := []) rfl (FleetjudgeRoster_1_ok hS  rfl) (runs_plain rfl) bd71 rfl rfl ?_
      clear hE hS; rintro e w ⟨rfl, hS⟩; refine ⟨_, rfl, ?_⟩; clear a; intro a hE
      refine WL.nil ?_
      refine W.cond hE rfl (fun hc67 => ?_) (fun hc67 => ?_)
      · replace hq51 := iteT hc67 hq51
        refine W.seq ?_
        refine W.region ?_
        refine WL.vS hS hE (runs_plain rfl) (Gives.p hE rfl) rfl ?_; clear hE a; intro a hE
        refine WL.vS hS hE (runs_plain rfl) (Gives.p hE rfl) rfl ?_; clear hE a; intro a hE
        refine WL.nil ?_
        refine W.ret ?_
        subst hK62
        rw [← hq51] at hr
        dsimp only at hr
        refine finG (fn := Try.f76) (rs := [.tmp 4]) (vs := [_]) hE rfl ⟨rfl, trivial⟩ ?_
        subst hr
        exact ⟨rfl, hS⟩
      · replace hq51 := iteF hc67 hq51
        refine W.skip ?_
        refine W.region ?_
        refine WL.vS hS hE (runs_plain rfl) (Gives.inc hE rfl (by have := h0.small; omega)) rfl ?_; clear hE a; intro a hE
        refine WL.vS hS hE (runs_plain rfl) (Gives.p hE rfl) rfl ?_; clear hE a; intro a hE
        refine WL.nil ?_
        subst hK62
        exact ⟨rest55.length, Nat.lt_succ_self _, rest55, k53 + 1, rfl, hd56, hq51, hE.pick _ ⟨rfl, rfl, rfl, rfl, trivial⟩, hS⟩
  · clear hE hS a w; rintro a w ⟨rfl, hE, hS⟩
    dsimp only at hr
    refine W.seq ?_
    refine W.region ?_
    refine WL.vS hS hE (runs_plain rfl) (Gives.p hE rfl) rfl ?_; clear hE a; intro a hE
    refine WL.nil ?_
    refine W.ret ?_
    refine finG (fn := Try.f76) (rs := [.tmp 4]) (vs := [_]) hE rfl ⟨rfl, trivial⟩ ?_
    subst hr
    exact ⟨rfl, hS⟩
set_option maxHeartbeats 8000000 in
theorem SlicesContainsFuncLint_v1_ok  {w : World} {s : Sg} {R : List HP} {x0 : List Int} {a0 : Option Addr} {c0 : Nat} (hS : St w s (R)) (h0 : Sl 1 (RI .i64) s a0 c0 x0) {r : Bool} (hr : SlicesContainsFuncLint_v1 x0 = r) :
    Calls Try.prog 70 [.slice a0 x0.length c0, .func (.func 71) #[] #[]].toArray w (fun e w => e = .returned (.bool r) ∧ St w s (R)) := by
  refine enter Try.func70 rfl rfl rfl fun a hE => ?_
  rw [SlicesContainsFuncLint_v1] at hr
  refine W.seq ?_
  refine W.region ?_
  refine WL.vS hS hE (runs_plain rfl) (Gives.p hE rfl) rfl ?_; clear hE a; intro a hE
  refine WL.nil ?_
  refine W.seq ?_
  refine W.region ?_
  refine WL.vS hS hE (runs_plain rfl) (Gives.p hE rfl) rfl ?_; clear hE a; intro a hE
  refine WL.vS hS hE (runs_plain rfl) (Gives.p hE rfl) rfl ?_; clear hE a; intro a hE
  refine WL.fn hE (SlicesIndexFuncLint_v1_ok hS h0 rfl) (runs_plain rfl) bd76 rfl rfl ?_
  clear hE hS; rintro e w ⟨rfl, hS⟩; refine ⟨_, rfl, ?_⟩; clear a; intro a hE
  refine WL.vS hS hE (runs_plain rfl) (Gives.p hE rfl) rfl ?_; clear hE a; intro a hE
  refine WL.vS hS hE (runs_plain rfl) (Gives.p hE rfl) rfl ?_; clear hE a; intro a hE
  refine WL.nil ?_
  refine W.ret ?_
  refine finG (fn := Try.f70) (rs := [.tmp 4]) (vs := [_]) hE rfl ⟨rfl, trivial⟩ ?_
  subst hr
  exact ⟨rfl, hS⟩
set_option maxHeartbeats 8000000 in
theorem FleetjudgeRoster_ok  {w : World} {s : Sg} {R : List HP} {x0 : List FleetShift} {a0 : Option Addr} {c0 : Nat} {x1 : List (List Int)} {a1 : Option Addr} {c1 : Nat} {x2 : FleetLimits} (hS : St w s (R)) (h0 : Sl 3 RFleetShift s a0 c0 x0) (h1 : Sl 1 (RL 1 (RI .i64)) s a1 c1 x1) {r : Int} (hr : FleetjudgeRoster x0 x1 x2 = some r) :
    Calls Try.prog 59 [.slice a0 x0.length c0, .slice a1 x1.length c1, .agg (FleetLimits.cells x2).toArray].toArray w (fun e w => e = .returned (.int .i64 r) ∧ St w s (R)) := by
  refine enter Try.func59 rfl rfl rfl fun a hE => ?_
  rw [FleetjudgeRoster] at hr
  refine W.seq ?_
  refine W.region ?_
  refine WL.box hE hS (runs_plain rfl) rfl rfl rfl ?_; clear hE hS a w; intro b51 a w hE hS
  refine WL.vS hS hE (runs_plain rfl) (Gives.p hE rfl) rfl ?_; clear hE a; intro a hE
  refine WL.nil ?_
  refine W.seq ?_
  refine W.region ?_
  refine WL.vS hS hE (runs_plain rfl) (Gives.p hE rfl) rfl ?_; clear hE a; intro a hE
  refine WL.vS hS hE (runs_plain rfl) (Gives.len hE rfl sl50) rfl ?_; clear hE a; intro a hE
  obtain ⟨x52, hx53, hr⟩ := bindS hr
  refine WL.mkD (Rr := RI .i64) hE hS (runs_plain rfl) rfl rfl ap22 zr3 rfl hx53 rfl ?_; clear hE hS a w; intro b54 cs55 a w h56 hE hS
  refine WL.vS hS hE (runs_plain rfl) (Gives.p hE rfl) rfl ?_; clear hE a; intro a hE
  refine WL.nil ?_
  refine W.seq ?_
  refine W.region ?_
  refine WL.vS hS hE (runs_plain rfl) (Gives.p hE rfl) rfl ?_; clear hE a; intro a hE
  refine WL.vS hS hE (runs_plain rfl) (Gives.p hE rfl) rfl ?_; clear hE a; intro a hE
  refine WL.vS hS hE (runs_plain rfl) (Gives.p hE rfl) rfl ?_; clear hE a; intro a hE
  refine WL.nil ?_
  refine W.seq ?_
  refine W.seq ?_
  refine W.region ?_
  refine WL.vS hS hE (runs_plain rfl) (Gives.p hE rfl) rfl ?_; clear hE a; intro a hE
  refine WL.vS hS hE (runs_plain rfl) (Gives.len hE rfl sl23) rfl ?_; clear hE a; intro a hE
  refine WL.vS hS hE (runs_plain rfl) (Gives.p hE rfl) rfl ?_; clear hE a; intro a hE
  refine WL.nil ?_
  obtain ⟨q59, hq58, hr⟩ := bindS hr
  refine W.cut (fun a w => ∃ (q69 : Bool), ∃ (q70 : Bool), ∃ (q71 : Bool), ∃ (q72 : List Int), ∃ (cs76 : List Value), (q69, q70, q71, q72) = q59 ∧ Ev 1 (RI .i64) s cs76 q72 ∧ q72.length = x52.length ∧ Rep a 70 [(7, .slice (some ⟨b54, 0, none⟩) x52.length x52.length), (8, .bool q69), (9, .bool q70), (10, .bool q71)] ∧ St w s (vecC 3 1 (some ⟨b54, 0, none⟩) x52.length x52.length cs76 :: pt b51 (.cells (FleetLimits.cells x2).toArray 35 (0, 0)) :: R)) ?_ ?_
  · refine W.block ?_
    refine W.loop (fun m a w => ∃ (rest62 : List (List Int)) (k60 : Nat), ∃ (q69 : Bool), ∃ (q70 : Bool), ∃ (q71 : Bool), ∃ (q72 : List Int), ∃ (cs76 : List Value), rest62.length = m ∧ x1.drop k60 = rest62 ∧ FleetjudgeRoster.loop1 x0 x2 rest62 q69 q70 q71 q72 = some q59 ∧ Ev 1 (RI .i64) s cs76 q72 ∧ q72.length = x52.length ∧ Rep a 70 [(0, .slice a0 x0.length c0), (5, .pointer (some ⟨b51, 0, none⟩)), (7, .slice (some ⟨b54, 0, none⟩) x52.length x52.length), (8, .bool q69), (9, .bool q70), (10, .bool q71), (21, .slice a1 x1.length c1), (22, .int .i64 ((x1).length : Int)), (23, .int .i64 ((k60 : Nat) : Int))] ∧ St w s (vecC 3 1 (some ⟨b54, 0, none⟩) x52.length x52.length cs76 :: pt b51 (.cells (FleetLimits.cells x2).toArray 35 (0, 0)) :: R)) (m := x1.length) ⟨x1, 0, false, false, false, x52, cs55, rfl, rfl, hq58, h56, (rfl), hE.pick _ ⟨rfl, rfl, rfl, rfl, rfl, rfl, rfl, rfl, rfl, trivial⟩, hS⟩ ?_
    clear hE hS a w hq58; rintro m66 a w ⟨rest62, k60, q69, q70, q71, q72, cs76, rfl, hd63, hq58, h75, hn77, hE, hS⟩
    refine W.gen fun K78 hK78 => ?_
    rcases rest62 with _ | ⟨x61, rest62⟩
    · have hlt64 := drop_nil hd63
      refine W.seq ?_
      refine W.region ?_
      refine WL.vS hS hE (runs_plain rfl) (Gives.p hE rfl) rfl ?_; clear hE a; intro a hE
      refine WL.nil ?_
      refine W.seq ?_
      refine W.condF hE rfl (decide_eq_false (by omega)) ?_
      subst hK78
      refine W.exit rfl ?_
      exact ⟨q69, q70, q71, q72, cs76, Option.some.inj hq58, h75, hn77, hE.pick _ ⟨rfl, rfl, rfl, rfl, trivial⟩, hS⟩
    · obtain ⟨hlt64, hx65, hd63⟩ := drop_cons hd63
      rw [FleetjudgeRoster.loop1] at hq58
      refine W.seq ?_
      refine W.region ?_
      refine WL.vS hS hE (runs_plain rfl) (Gives.p hE rfl) rfl ?_; clear hE a; intro a hE
      refine WL.nil ?_
      refine W.seq ?_
      refine W.condT hE rfl (decide_eq_true (by omega)) ?_
      refine W.skip ?_
      refine W.seq ?_
      refine W.block ?_
      refine W.seq ?_
      refine W.region ?_
      obtain ⟨cs79, hl80, hR81, hat82⟩ := h1.at hx65
      obtain ⟨a83, c84, rfl, h85⟩ := hR81
      refine WL.vS hS hE (runs_plain rfl) (Gives.idx hE k60 rfl rfl sl23 rfl hlt64 (h1.aok hlt64)) rfl ?_; clear hE a; intro a hE
      refine WL.vS hS hE (runs_plain rfl) (Gives.load1 hE rfl (fun w h => hat82 w _ h) ty22) rfl ?_; clear hE a; intro a hE
      refine WL.vS hS hE (runs_plain rfl) (Gives.p hE rfl) rfl ?_; clear hE a; intro a hE
      refine WL.nil ?_
      refine W.seq ?_
      refine W.seq ?_
      refine W.region ?_
      refine WL.vS hS hE (runs_plain rfl) (Gives.p hE rfl) rfl ?_; clear hE a; intro a hE
      refine WL.vS hS hE (runs_plain rfl) (Gives.len hE rfl sl22) rfl ?_; clear hE a; intro a hE
      refine WL.vS hS hE (runs_plain rfl) (Gives.p hE rfl) rfl ?_; clear hE a; intro a hE
      refine WL.nil ?_
      obtain ⟨q87, hq86, hq58⟩ := bindS hq58
      refine W.cut (fun a w => ∃ (q97 : List Int), ∃ (cs101 : List Value), q97 = q87 ∧ Ev 1 (RI .i64) s cs101 q97 ∧ q97.length = x52.length ∧ Rep a 70 [(0, .slice a0 x0.length c0), (5, .pointer (some ⟨b51, 0, none⟩)), (7, .slice (some ⟨b54, 0, none⟩) x52.length x52.length), (8, .bool q69), (9, .bool q70), (10, .bool q71), (12, .slice a83 x61.length c84), (21, .slice a1 x1.length c1), (22, .int .i64 ((x1).length : Int)), (23, .int .i64 ((k60 : Nat) : Int))] ∧ St w s (vecC 3 1 (some ⟨b54, 0, none⟩) x52.length x52.length cs101 :: pt b51 (.cells (FleetLimits.cells x2).toArray 35 (0, 0)) :: R)) ?_ ?_
      · refine W.block ?_
        refine W.loop (fun m a w => ∃ (rest90 : List Int) (k88 : Nat), ∃ (q97 : List Int), ∃ (cs101 : List Value), rest90.length = m ∧ x61.drop k88 = rest90 ∧ FleetjudgeRoster.loop2 rest90 q97 = some q87 ∧ Ev 1 (RI .i64) s cs101 q97 ∧ q97.length = x52.length ∧ Rep a 70 [(0, .slice a0 x0.length c0), (5, .pointer (some ⟨b51, 0, none⟩)), (7, .slice (some ⟨b54, 0, none⟩) x52.length x52.length), (8, .bool q69), (9, .bool q70), (10, .bool q71), (12, .slice a83 x61.length c84), (21, .slice a1 x1.length c1), (22, .int .i64 ((x1).length : Int)), (23, .int .i64 ((k60 : Nat) : Int)), (27, .slice a83 x61.length c84), (28, .int .i64 ((x61).length : Int)), (29, .int .i64 ((k88 : Nat) : Int))] ∧ St w s (vecC 3 1 (some ⟨b54, 0, none⟩) x52.length x52.length cs101 :: pt b51 (.cells (FleetLimits.cells x2).toArray 35 (0, 0)) :: R)) (m := x61.length) ⟨x61, 0, q72, cs76, rfl, rfl, hq86, h75, hn77, hE.pick _ ⟨rfl, rfl, rfl, rfl, rfl, rfl, rfl, rfl, rfl, rfl, rfl, rfl, rfl, trivial⟩, hS⟩ ?_
        clear hE hS a w hq86; rintro m94 a w ⟨rest90, k88, q97, cs101, rfl, hd91, hq86, h100, hn102, hE, hS⟩
        refine W.gen fun K103 hK103 => ?_
        rcases rest90 with _ | ⟨x89, rest90⟩
        · have hlt92 := drop_nil hd91
          refine W.seq ?_
          refine W.region ?_
          refine WL.vS hS hE (runs_plain rfl) (Gives.p hE rfl) rfl ?_; clear hE a; intro a hE
          refine WL.nil ?_
          refine W.seq ?_
          refine W.condF hE rfl (decide_eq_false (by omega)) ?_
          subst hK103
          refine W.exit rfl ?_
          exact ⟨q97, cs101, Option.some.inj hq86, h100, hn102, hE.pick _ ⟨rfl, rfl, rfl, rfl, rfl, rfl, rfl, rfl, rfl, rfl, trivial⟩, hS⟩
        · obtain ⟨hlt92, hx93, hd91⟩ := drop_cons hd91
          rw [FleetjudgeRoster.loop2] at hq86
          refine W.seq ?_
          refine W.region ?_
          refine WL.vS hS hE (runs_plain rfl) (Gives.p hE rfl) rfl ?_; clear hE a; intro a hE
          refine WL.nil ?_
          refine W.seq ?_
          refine W.condT hE rfl (decide_eq_true (by omega)) ?_
          refine W.skip ?_
          refine W.seq ?_
          refine W.block ?_
          refine W.seq ?_
          refine W.region ?_
          obtain ⟨cs104, hl105, hR106, hat107⟩ := h85.at hx93
          subst hR106
          refine WL.vS hS hE (runs_plain rfl) (Gives.idx hE k88 rfl rfl sl22 rfl hlt92 (h85.aok hlt92)) rfl ?_; clear hE a; intro a hE
          refine WL.vS hS hE (runs_plain rfl) (Gives.load1 hE rfl (fun w h => hat107 w _ h) ty3) rfl ?_; clear hE a; intro a hE
          refine WL.vS hS hE (runs_plain rfl) (Gives.p hE rfl) rfl ?_; clear hE a; intro a hE
          refine WL.nil ?_
          refine W.region ?_
          refine WL.vS hS hE (runs_plain rfl) (Gives.p hE rfl) rfl ?_; clear hE a; intro a hE
          refine WL.vS hS hE (runs_plain rfl) (Gives.p hE rfl) rfl ?_; clear hE a; intro a hE
          obtain ⟨x108, hx109, hq86⟩ := bindS hq86
          obtain ⟨hi110, hlt111, hy112⟩ := gx_some hx109
          obtain ⟨vs113, hl114, hR115, hd116, hget117⟩ := h100.at hy112
          subst hR115
          refine WL.vS hS hE (runs_plain rfl) (Gives.idx hE ((x89).toNat) rfl rfl sl22 hi110 (by have := hn102; omega) (hS.vecAok 0 rfl (by have := hn102; omega : (x89).toNat < x52.length))) rfl ?_; clear hE a; intro a hE
          refine WL.vS hS hE (runs_plain rfl) (Gives.load1 hE rfl (fun w h => St.vecSees h 0 rfl ((x89).toNat * 1) _ hget117) ty3) rfl ?_; clear hE a; intro a hE
          refine WL.vS hS hE (runs_plain rfl) (Gives.p hE rfl) rfl ?_; clear hE a; intro a hE
          obtain ⟨_, hx119, hq86⟩ := bindS hq86
          obtain ⟨h120, h121⟩ := ix_some hx119
          refine WL.vS hS hE (runs_plain rfl) (Gives.idx hE ((x89).toNat) rfl rfl sl22 h120 (by have := hn102; omega) (hS.vecAok 0 rfl (by have := hn102; omega : (x89).toNat < x52.length))) rfl ?_; clear hE a; intro a hE
          obtain ⟨x123, hx124, hq86⟩ := bindS hq86
          refine WL.setD hE hS 0 rfl (runs_plain rfl) rfl rfl (vs := [.int .i64 (w64 (x108 + 1))]) rfl ty3 rfl rfl rfl h100 hn102 (sx_some hx124).1 hx124 rfl rfl ?_; clear hE hS a w; intro cs125 a w h126 hn127 hE hS
          refine WL.nil ?_
          refine W.region ?_
          refine WL.vS hS hE (runs_plain rfl) (Gives.inc hE rfl (by have := h85.small; omega)) rfl ?_; clear hE a; intro a hE
          refine WL.vS hS hE (runs_plain rfl) (Gives.p hE rfl) rfl ?_; clear hE a; intro a hE
          refine WL.nil ?_
          subst hK103
          exact ⟨rest90.length, Nat.lt_succ_self _, rest90, k88 + 1, x123, cs125, rfl, hd91, hq86, h126, hn127, hE.pick _ ⟨rfl, rfl, rfl, rfl, rfl, rfl, rfl, rfl, rfl, rfl, rfl, rfl, rfl, trivial⟩, hS⟩
      · clear hE hS a w; rintro a w ⟨q97, cs101, rfl, h100, hn102, hE, hS⟩
        refine W.seq ?_
        refine W.region ?_
        refine WL.vS hS hE (runs_plain rfl) (Gives.p hE rfl) rfl ?_; clear hE a; intro a hE
        refine WL.vS hS hE (runs_plain rfl) (Gives.p hE rfl) rfl ?_; clear hE a; intro a hE
        refine WL.vS hS hE (runs_plain rfl) (Gives.loadBA hE 1 rfl rfl ty35) rfl ?_; clear hE a; intro a hE
        obtain ⟨q128, hq129, hq58⟩ := bindS hq58
        refine WL.fn hE (FleetdriverBreaks_ok hS h0 h85 hq129) (runs_plain rfl) bd69 rfl rfl ?_
        clear hE hS; rintro e w ⟨rfl, hS⟩; refine ⟨_, rfl, ?_⟩; clear a; intro a hE
        refine WL.vS hS hE (runs_plain rfl) (Gives.p hE rfl) rfl ?_; clear hE a; intro a hE
        refine WL.vS hS hE (runs_plain rfl) (Gives.p hE rfl) rfl ?_; clear hE a; intro a hE
        refine WL.vS hS hE (runs_plain rfl) (Gives.p hE rfl) rfl ?_; clear hE a; intro a hE
        refine WL.vS hS hE (runs_plain rfl) (Gives.p hE rfl) rfl ?_; clear hE a; intro a hE
        refine WL.vS hS hE (runs_plain rfl) (Gives.p hE rfl) rfl ?_; clear hE a; intro a hE
        refine WL.vS hS hE (runs_plain rfl) (Gives.p hE rfl) rfl ?_; clear hE a; intro a hE
        refine WL.vS hS hE (runs_plain rfl) (Gives.p hE rfl) rfl ?_; clear hE a; intro a hE
        refine WL.nil ?_
        obtain ⟨q131, hq130, hq58⟩ := bndS hq58
        refine W.cut (fun a w => ∃ (q134 : Bool), ∃ (q135 : Bool), ∃ (q136 : Bool), (q134, q135, q136) = q131 ∧ Rep a 70 [(0, .slice a0 x0.length c0), (5, .pointer (some ⟨b51, 0, none⟩)), (7, .slice (some ⟨b54, 0, none⟩) x52.length x52.length), (8, .bool q134), (9, .bool q135), (10, .bool q136), (21, .slice a1 x1.length c1), (22, .int .i64 ((x1).length : Int)), (23, .int .i64 ((k60 : Nat) : Int))] ∧ St w s (vecC 3 1 (some ⟨b54, 0, none⟩) x52.length x52.length cs101 :: pt b51 (.cells (FleetLimits.cells x2).toArray 35 (0, 0)) :: R)) ?_ ?_
        · refine W.gen fun K137 hK137 => ?_
          refine W.region ?_
          refine WL.vS hS hE (runs_plain rfl) (Gives.p hE rfl) rfl ?_; clear hE a; intro a hE
          refine WL.vS hS hE (runs_plain rfl) (Gives.p hE rfl) rfl ?_; clear hE a; intro a hE
          rcases Bool.eq_false_or_eq_true q69 with hg138 | hg138
          · replace hq130 := iteT hg138 hq130
            refine WL.no hE (runs_not hE rfl rfl rfl (by rw [hg138]; decide)) rfl ?_; clear hE a; intro a hE
            refine WL.vS hS hE (runs_plain rfl) (Gives.pickT hE rfl hg138 rfl) rfl ?_; clear hE a; intro a hE
            refine WL.vS hS hE (runs_plain rfl) (Gives.p hE rfl) rfl ?_; clear hE a; intro a hE
            refine WL.vS hS hE (runs_plain rfl) (Gives.p hE rfl) rfl ?_; clear hE a; intro a hE
            rcases Bool.eq_false_or_eq_true q70 with hg139 | hg139
            · replace hq130 := iteT hg139 hq130
              refine WL.no hE (runs_not hE rfl rfl rfl (by rw [hg139]; decide)) rfl ?_; clear hE a; intro a hE
              refine WL.vS hS hE (runs_plain rfl) (Gives.pickT hE rfl hg139 rfl) rfl ?_; clear hE a; intro a hE
              refine WL.vS hS hE (runs_plain rfl) (Gives.p hE rfl) rfl ?_; clear hE a; intro a hE
              refine WL.vS hS hE (runs_plain rfl) (Gives.p hE rfl) rfl ?_; clear hE a; intro a hE
              rcases Bool.eq_false_or_eq_true q71 with hg140 | hg140
              · replace hq130 := iteT hg140 hq130
                refine WL.no hE (runs_not hE rfl rfl rfl (by rw [hg140]; decide)) rfl ?_; clear hE a; intro a hE
                refine WL.vS hS hE (runs_plain rfl) (Gives.pickT hE rfl hg140 rfl) rfl ?_; clear hE a; intro a hE
                refine WL.vS hS hE (runs_plain rfl) (Gives.p hE rfl) rfl ?_; clear hE a; intro a hE
                refine WL.vS hS hE (runs_plain rfl) (Gives.p hE rfl) rfl ?_; clear hE a; intro a hE
                refine WL.vS hS hE (runs_plain rfl) (Gives.p hE rfl) rfl ?_; clear hE a; intro a hE
                refine WL.nil ?_
                subst hK137
                exact ⟨true, true, true, hq130, hE.pick _ ⟨rfl, rfl, rfl, rfl, rfl, rfl, rfl, rfl, rfl, trivial⟩, hS⟩
              · replace hq130 := iteF hg140 hq130
                refine WL.vS hS hE (runs_if hE rfl rfl rfl hg140) (Gives.p hE rfl) rfl ?_; clear hE a; intro a hE
                refine WL.vS hS hE (runs_plain rfl) (Gives.pickF hE rfl hg140 rfl) rfl ?_; clear hE a; intro a hE
                refine WL.vS hS hE (runs_plain rfl) (Gives.p hE rfl) rfl ?_; clear hE a; intro a hE
                refine WL.vS hS hE (runs_plain rfl) (Gives.p hE rfl) rfl ?_; clear hE a; intro a hE
                refine WL.vS hS hE (runs_plain rfl) (Gives.p hE rfl) rfl ?_; clear hE a; intro a hE
                refine WL.nil ?_
                subst hK137
                exact ⟨true, true, q128.2.2, hq130, hE.pick _ ⟨rfl, rfl, rfl, rfl, rfl, rfl, rfl, rfl, rfl, trivial⟩, hS⟩
            · replace hq130 := iteF hg139 hq130
              refine WL.vS hS hE (runs_if hE rfl rfl rfl hg139) (Gives.p hE rfl) rfl ?_; clear hE a; intro a hE
              refine WL.vS hS hE (runs_plain rfl) (Gives.pickF hE rfl hg139 rfl) rfl ?_; clear hE a; intro a hE
              refine WL.vS hS hE (runs_plain rfl) (Gives.p hE rfl) rfl ?_; clear hE a; intro a hE
              refine WL.vS hS hE (runs_plain rfl) (Gives.p hE rfl) rfl ?_; clear hE a; intro a hE
              rcases Bool.eq_false_or_eq_true q71 with hg141 | hg141
              · replace hq130 := iteT hg141 hq130
                refine WL.no hE (runs_not hE rfl rfl rfl (by rw [hg141]; decide)) rfl ?_; clear hE a; intro a hE
                refine WL.vS hS hE (runs_plain rfl) (Gives.pickT hE rfl hg141 rfl) rfl ?_; clear hE a; intro a hE
                refine WL.vS hS hE (runs_plain rfl) (Gives.p hE rfl) rfl ?_; clear hE a; intro a hE
                refine WL.vS hS hE (runs_plain rfl) (Gives.p hE rfl) rfl ?_; clear hE a; intro a hE
                refine WL.vS hS hE (runs_plain rfl) (Gives.p hE rfl) rfl ?_; clear hE a; intro a hE
                refine WL.nil ?_
                subst hK137
                exact ⟨true, q128.2.1, true, hq130, hE.pick _ ⟨rfl, rfl, rfl, rfl, rfl, rfl, rfl, rfl, rfl, trivial⟩, hS⟩
              · replace hq130 := iteF hg141 hq130
                refine WL.vS hS hE (runs_if hE rfl rfl rfl hg141) (Gives.p hE rfl) rfl ?_; clear hE a; intro a hE
                refine WL.vS hS hE (runs_plain rfl) (Gives.pickF hE rfl hg141 rfl) rfl ?_; clear hE a; intro a hE
                refine WL.vS hS hE (runs_plain rfl) (Gives.p hE rfl) rfl ?_; clear hE a; intro a hE
                refine WL.vS hS hE (runs_plain rfl) (Gives.p hE rfl) rfl ?_; clear hE a; intro a hE
                refine WL.vS hS hE (runs_plain rfl) (Gives.p hE rfl) rfl ?_; clear hE a; intro a hE
                refine WL.nil ?_
                subst hK137
                exact ⟨true, q128.2.1, q128.2.2, hq130, hE.pick _ ⟨rfl, rfl, rfl, rfl, rfl, rfl, rfl, rfl, rfl, trivial⟩, hS⟩
          · replace hq130 := iteF hg138 hq130
            refine WL.vS hS hE (runs_if hE rfl rfl rfl hg138) (Gives.p hE rfl) rfl ?_; clear hE a; intro a hE
            refine WL.vS hS hE (runs_plain rfl) (Gives.pickF hE rfl hg138 rfl) rfl ?_; clear hE a; intro a hE
            refine WL.vS hS hE (runs_plain rfl) (Gives.p hE rfl) rfl ?_; clear hE a; intro a hE
            refine WL.vS hS hE (runs_plain rfl) (Gives.p hE rfl) rfl ?_; clear hE a; intro a hE
            rcases Bool.eq_false_or_eq_true q70 with hg142 | hg142
            · replace hq130 := iteT hg142 hq130
              refine WL.no hE (runs_not hE rfl rfl rfl (by rw [hg142]; decide)) rfl ?_; clear hE a; intro a hE
              refine WL.vS hS hE (runs_plain rfl) (Gives.pickT hE rfl hg142 rfl) rfl ?_; clear hE a; intro a hE
              refine WL.vS hS hE (runs_plain rfl) (Gives.p hE rfl) rfl ?_; clear hE a; intro a hE
              refine WL.vS hS hE (runs_plain rfl) (Gives.p hE rfl) rfl ?_; clear hE a; intro a hE
              rcases Bool.eq_false_or_eq_true q71 with hg143 | hg143
              · replace hq130 := iteT hg143 hq130
                refine WL.no hE (runs_not hE rfl rfl rfl (by rw [hg143]; decide)) rfl ?_; clear hE a; intro a hE
                refine WL.vS hS hE (runs_plain rfl) (Gives.pickT hE rfl hg143 rfl) rfl ?_; clear hE a; intro a hE
                refine WL.vS hS hE (runs_plain rfl) (Gives.p hE rfl) rfl ?_; clear hE a; intro a hE
                refine WL.vS hS hE (runs_plain rfl) (Gives.p hE rfl) rfl ?_; clear hE a; intro a hE
                refine WL.vS hS hE (runs_plain rfl) (Gives.p hE rfl) rfl ?_; clear hE a; intro a hE
                refine WL.nil ?_
                subst hK137
                exact ⟨q128.1, true, true, hq130, hE.pick _ ⟨rfl, rfl, rfl, rfl, rfl, rfl, rfl, rfl, rfl, trivial⟩, hS⟩
              · replace hq130 := iteF hg143 hq130
                refine WL.vS hS hE (runs_if hE rfl rfl rfl hg143) (Gives.p hE rfl) rfl ?_; clear hE a; intro a hE
                refine WL.vS hS hE (runs_plain rfl) (Gives.pickF hE rfl hg143 rfl) rfl ?_; clear hE a; intro a hE
                refine WL.vS hS hE (runs_plain rfl) (Gives.p hE rfl) rfl ?_; clear hE a; intro a hE
                refine WL.vS hS hE (runs_plain rfl) (Gives.p hE rfl) rfl ?_; clear hE a; intro a hE
                refine WL.vS hS hE (runs_plain rfl) (Gives.p hE rfl) rfl ?_; clear hE a; intro a hE
                refine WL.nil ?_
                subst hK137
                exact ⟨q128.1, true, q128.2.2, hq130, hE.pick _ ⟨rfl, rfl, rfl, rfl, rfl, rfl, rfl, rfl, rfl, trivial⟩, hS⟩
            · replace hq130 := iteF hg142 hq130
              refine WL.vS hS hE (runs_if hE rfl rfl rfl hg142) (Gives.p hE rfl) rfl ?_; clear hE a; intro a hE
              refine WL.vS hS hE (runs_plain rfl) (Gives.pickF hE rfl hg142 rfl) rfl ?_; clear hE a; intro a hE
              refine WL.vS hS hE (runs_plain rfl) (Gives.p hE rfl) rfl ?_; clear hE a; intro a hE
              refine WL.vS hS hE (runs_plain rfl) (Gives.p hE rfl) rfl ?_; clear hE a; intro a hE
              rcases Bool.eq_false_or_eq_true q71 with hg144 | hg144
              · replace hq130 := iteT hg144 hq130
                refine WL.no hE (runs_not hE rfl rfl rfl (by rw [hg144]; decide)) rfl ?_; clear hE a; intro a hE
                refine WL.vS hS hE (runs_plain rfl) (Gives.pickT hE rfl hg144 rfl) rfl ?_; clear hE a; intro a hE
                refine WL.vS hS hE (runs_plain rfl) (Gives.p hE rfl) rfl ?_; clear hE a; intro a hE
                refine WL.vS hS hE (runs_plain rfl) (Gives.p hE rfl) rfl ?_; clear hE a; intro a hE
                refine WL.vS hS hE (runs_plain rfl) (Gives.p hE rfl) rfl ?_; clear hE a; intro a hE
                refine WL.nil ?_
                subst hK137
                exact ⟨q128.1, q128.2.1, true, hq130, hE.pick _ ⟨rfl, rfl, rfl, rfl, rfl, rfl, rfl, rfl, rfl, trivial⟩, hS⟩
              · replace hq130 := iteF hg144 hq130
                refine WL.vS hS hE (runs_if hE rfl rfl rfl hg144) (Gives.p hE rfl) rfl ?_; clear hE a; intro a hE
                refine WL.vS hS hE (runs_plain rfl) (Gives.pickF hE rfl hg144 rfl) rfl ?_; clear hE a; intro a hE
                refine WL.vS hS hE (runs_plain rfl) (Gives.p hE rfl) rfl ?_; clear hE a; intro a hE
                refine WL.vS hS hE (runs_plain rfl) (Gives.p hE rfl) rfl ?_; clear hE a; intro a hE
                refine WL.vS hS hE (runs_plain rfl) (Gives.p hE rfl) rfl ?_; clear hE a; intro a hE
                refine WL.nil ?_
                subst hK137
                exact ⟨q128.1, q128.2.1, q128.2.2, hq130, hE.pick _ ⟨rfl, rfl, rfl, rfl, rfl, rfl, rfl, rfl, rfl, trivial⟩, hS⟩
        · clear hE hS a w; rintro a w ⟨q134, q135, q136, rfl, hE, hS⟩
          dsimp only at hq58
          refine W.region ?_
          refine WL.vS hS hE (runs_plain rfl) (Gives.inc hE rfl (by have := h1.small; omega)) rfl ?_; clear hE a; intro a hE
          refine WL.vS hS hE (runs_plain rfl) (Gives.p hE rfl) rfl ?_; clear hE a; intro a hE
          refine WL.nil ?_
          subst hK78
          exact ⟨rest62.length, Nat.lt_succ_self _, rest62, k60 + 1, q134, q135, q136, q97, cs101, rfl, hd63, hq58, h100, hn102, hE.pick _ ⟨rfl, rfl, rfl, rfl, rfl, rfl, rfl, rfl, rfl, trivial⟩, hS⟩
  · clear hE hS a w; rintro a w ⟨q69, q70, q71, q72, cs76, rfl, h75, hn77, hE, hS⟩
    dsimp only at hr
    refine W.seq ?_
    refine W.block ?_
    refine W.seq ?_
    refine W.region ?_
    refine WL.vS hS hE (runs_plain rfl) (Gives.p hE rfl) rfl ?_; clear hE a; intro a hE
    have hF := hS.lendV RI.mono 0 rfl h75 hn77; clear hS; obtain ⟨t145, hle146, hS, hs147, bk148⟩ := hF
    refine WL.fn hE ((by have hc_ := SlicesContainsFuncLint_v1_ok hS hs147 rfl; rw [hn77] at hc_; exact hc_)) (runs_plain rfl) bd70 rfl rfl ?_
    clear hE hS; rintro e w ⟨rfl, hS⟩; refine ⟨_, rfl, ?_⟩; clear a; intro a hE
    replace hS := bk148 _ _ hS
    refine WL.vS hS hE (runs_plain rfl) (Gives.p hE rfl) rfl ?_; clear hE a; intro a hE
    refine WL.nil ?_
    refine W.cond hE rfl (fun hc149 => ?_) (fun hc149 => ?_)
    · replace hr := iteT hc149 hr
      refine W.seq ?_
      refine W.region ?_
      refine WL.vS hS hE (runs_plain rfl) (Gives.p hE rfl) rfl ?_; clear hE a; intro a hE
      refine WL.nil ?_
      refine W.ret ?_
      refine finG (fn := Try.f59) (rs := [.tmp 6]) (vs := [_]) hE rfl ⟨rfl, trivial⟩ ?_
      obtain rfl := Option.some.inj hr
      replace hS := hS.tail
      replace hS := hS.tail
      exact ⟨rfl, hS⟩
    · replace hr := iteF hc149 hr
      refine W.seq ?_
      refine W.region ?_
      refine WL.vS hS hE (runs_plain rfl) (Gives.p hE rfl) rfl ?_; clear hE a; intro a hE
      refine WL.vS hS hE (runs_plain rfl) (Gives.p hE rfl) rfl ?_; clear hE a; intro a hE
      refine WL.nil ?_
      refine W.cond hE rfl (fun hc150 => ?_) (fun hc150 => ?_)
      · replace hr := iteT hc150 hr
        refine W.seq ?_
        refine W.region ?_
        refine WL.vS hS hE (runs_plain rfl) (Gives.p hE rfl) rfl ?_; clear hE a; intro a hE
        refine WL.nil ?_
        refine W.ret ?_
        refine finG (fn := Try.f59) (rs := [.tmp 6]) (vs := [_]) hE rfl ⟨rfl, trivial⟩ ?_
        obtain rfl := Option.some.inj hr
        replace hS := hS.tail
        replace hS := hS.tail
        exact ⟨rfl, hS⟩
      · replace hr := iteF hc150 hr
        refine W.seq ?_
        refine W.region ?_
        refine WL.vS hS hE (runs_plain rfl) (Gives.p hE rfl) rfl ?_; clear hE a; intro a hE
        refine WL.vS hS hE (runs_plain rfl) (Gives.p hE rfl) rfl ?_; clear hE a; intro a hE
        refine WL.nil ?_
        refine W.cond hE rfl (fun hc151 => ?_) (fun hc151 => ?_)
        · replace hr := iteT hc151 hr
          refine W.seq ?_
          refine W.region ?_
          refine WL.vS hS hE (runs_plain rfl) (Gives.p hE rfl) rfl ?_; clear hE a; intro a hE
          refine WL.nil ?_
          refine W.ret ?_
          refine finG (fn := Try.f59) (rs := [.tmp 6]) (vs := [_]) hE rfl ⟨rfl, trivial⟩ ?_
          obtain rfl := Option.some.inj hr
          replace hS := hS.tail
          replace hS := hS.tail
          exact ⟨rfl, hS⟩
        · replace hr := iteF hc151 hr
          refine W.seq ?_
          refine W.region ?_
          refine WL.vS hS hE (runs_plain rfl) (Gives.p hE rfl) rfl ?_; clear hE a; intro a hE
          refine WL.vS hS hE (runs_plain rfl) (Gives.p hE rfl) rfl ?_; clear hE a; intro a hE
          refine WL.nil ?_
          refine W.cond hE rfl (fun hc152 => ?_) (fun hc152 => ?_)
          · replace hr := iteT hc152 hr
            refine W.seq ?_
            refine W.region ?_
            refine WL.vS hS hE (runs_plain rfl) (Gives.p hE rfl) rfl ?_; clear hE a; intro a hE
            refine WL.nil ?_
            refine W.ret ?_
            refine finG (fn := Try.f59) (rs := [.tmp 6]) (vs := [_]) hE rfl ⟨rfl, trivial⟩ ?_
            obtain rfl := Option.some.inj hr
            replace hS := hS.tail
            replace hS := hS.tail
            exact ⟨rfl, hS⟩
          · replace hr := iteF hc152 hr
            refine W.skip ?_
            refine W.seq ?_
            refine W.region ?_
            refine WL.vS hS hE (runs_plain rfl) (Gives.p hE rfl) rfl ?_; clear hE a; intro a hE
            refine WL.nil ?_
            refine W.ret ?_
            refine finG (fn := Try.f59) (rs := [.tmp 6]) (vs := [_]) hE rfl ⟨rfl, trivial⟩ ?_
            obtain rfl := Option.some.inj hr
            replace hS := hS.tail
            replace hS := hS.tail
            exact ⟨rfl, hS⟩
set_option maxHeartbeats 8000000 in
theorem FleetJudgeRoster_ok  {w : World} {s : Sg} {R : List HP} {x0 : List FleetShift} {a0 : Option Addr} {c0 : Nat} {x1 : List (List Int)} {a1 : Option Addr} {c1 : Nat} {x2 : FleetLimits} (hS : St w s (R)) (h0 : Sl 3 RFleetShift s a0 c0 x0) (h1 : Sl 1 (RL 1 (RI .i64)) s a1 c1 x1) {r : Int × Int} (hr : FleetJudgeRoster x0 x1 x2 = some r) :
    Calls Try.prog 26 [.slice a0 x0.length c0, .slice a1 x1.length c1, .agg (FleetLimits.cells x2).toArray].toArray w (fun e w => e = .returned (.tuple #[.int .i64 r.1, .int .i64 r.2]) ∧ St w s (R)) := by
  refine enter Try.func26 rfl rfl rfl fun a hE => ?_
  rw [FleetJudgeRoster] at hr
  refine W.seq ?_
  refine W.region ?_
  refine WL.box hE hS (runs_plain rfl) rfl rfl rfl ?_; clear hE hS a w; intro b51 a w hE hS
  refine WL.vS hS hE (runs_plain rfl) (Gives.p hE rfl) rfl ?_; clear hE a; intro a hE
  refine WL.vS hS hE (runs_plain rfl) (Gives.p hE rfl) rfl ?_; clear hE a; intro a hE
  refine WL.nil ?_
  refine W.seq ?_
  refine W.seq ?_
  refine W.region ?_
  refine WL.vS hS hE (runs_plain rfl) (Gives.p hE rfl) rfl ?_; clear hE a; intro a hE
  refine WL.fn hE (FleetCheckShifts_ok hS h0 rfl) (runs_plain rfl) bd30 rfl rfl ?_
  clear hE hS; rintro e w ⟨rfl, hS⟩; refine ⟨_, rfl, ?_⟩; clear a; intro a hE
  refine WL.vS hS hE (runs_plain rfl) (Gives.p hE rfl) rfl ?_; clear hE a; intro a hE
  refine WL.nil ?_
  refine W.seq ?_
  refine W.region ?_
  refine WL.vS hS hE (runs_plain rfl) (Gives.p hE rfl) rfl ?_; clear hE a; intro a hE
  refine WL.vS hS hE (runs_plain rfl) (Gives.p hE rfl) rfl ?_; clear hE a; intro a hE
  refine WL.nil ?_
  refine W.cond hE rfl (fun hc52 => ?_) (fun hc52 => ?_)
  · replace hr := iteT hc52 hr
    refine W.seq ?_
    refine W.region ?_
    refine WL.vS hS hE (runs_plain rfl) (Gives.p hE rfl) rfl ?_; clear hE a; intro a hE
    refine WL.vS hS hE (runs_plain rfl) (Gives.p hE rfl) rfl ?_; clear hE a; intro a hE
    refine WL.vS hS hE (runs_plain rfl) (Gives.p hE rfl) rfl ?_; clear hE a; intro a hE
    refine WL.nil ?_
    refine W.ret ?_
    refine finG (fn := Try.f26) (rs := [.tmp 6, .tmp 7]) (vs := [_, _]) hE rfl ⟨rfl, rfl, trivial⟩ ?_
    obtain rfl := Option.some.inj hr
    replace hS := hS.tail
    exact ⟨rfl, hS⟩
  · replace hr := iteF hc52 hr
    refine W.skip ?_
    refine W.seq ?_
    refine W.seq ?_
    refine W.region ?_
    refine WL.vS hS hE (runs_plain rfl) (Gives.loadBA hE 0 rfl rfl ty35) rfl ?_; clear hE a; intro a hE
    refine WL.fn hE (FleetCheckLimits_ok hS  rfl) (runs_plain rfl) bd36 rfl rfl ?_
    clear hE hS; rintro e w ⟨rfl, hS⟩; refine ⟨_, rfl, ?_⟩; clear a; intro a hE
    refine WL.vS hS hE (runs_plain rfl) (Gives.p hE rfl) rfl ?_; clear hE a; intro a hE
    refine WL.nil ?_
    refine W.seq ?_
    refine W.region ?_
    refine WL.vS hS hE (runs_plain rfl) (Gives.p hE rfl) rfl ?_; clear hE a; intro a hE
    refine WL.vS hS hE (runs_plain rfl) (Gives.p hE rfl) rfl ?_; clear hE a; intro a hE
    refine WL.nil ?_
    refine W.cond hE rfl (fun hc53 => ?_) (fun hc53 => ?_)
    · replace hr := iteT hc53 hr
      refine W.seq ?_
      refine W.region ?_
      refine WL.vS hS hE (runs_plain rfl) (Gives.p hE rfl) rfl ?_; clear hE a; intro a hE
      refine WL.vS hS hE (runs_plain rfl) (Gives.p hE rfl) rfl ?_; clear hE a; intro a hE
      refine WL.vS hS hE (runs_plain rfl) (Gives.p hE rfl) rfl ?_; clear hE a; intro a hE
      refine WL.nil ?_
      refine W.ret ?_
      refine finG (fn := Try.f26) (rs := [.tmp 6, .tmp 7]) (vs := [_, _]) hE rfl ⟨rfl, rfl, trivial⟩ ?_
      obtain rfl := Option.some.inj hr
      replace hS := hS.tail
      exact ⟨rfl, hS⟩
    · replace hr := iteF hc53 hr
      refine W.skip ?_
      refine W.seq ?_
      refine W.seq ?_
      refine W.region ?_
      refine WL.vS hS hE (runs_plain rfl) (Gives.p hE rfl) rfl ?_; clear hE a; intro a hE
      refine WL.vS hS hE (runs_plain rfl) (Gives.p hE rfl) rfl ?_; clear hE a; intro a hE
      refine WL.fn hE (FleetcheckRoster_ok hS h0 h1 rfl) (runs_plain rfl) bd58 rfl rfl ?_
      clear hE hS; rintro e w ⟨rfl, hS⟩; refine ⟨_, rfl, ?_⟩; clear a; intro a hE
      refine WL.vS hS hE (runs_plain rfl) (Gives.p hE rfl) rfl ?_; clear hE a; intro a hE
      refine WL.nil ?_
      refine W.seq ?_
      refine W.region ?_
      refine WL.vS hS hE (runs_plain rfl) (Gives.p hE rfl) rfl ?_; clear hE a; intro a hE
      refine WL.vS hS hE (runs_plain rfl) (Gives.p hE rfl) rfl ?_; clear hE a; intro a hE
      refine WL.nil ?_
      refine W.cond hE rfl (fun hc54 => ?_) (fun hc54 => ?_)
      · replace hr := iteT hc54 hr
        refine W.seq ?_
        refine W.region ?_
        refine WL.vS hS hE (runs_plain rfl) (Gives.p hE rfl) rfl ?_; clear hE a; intro a hE
        refine WL.vS hS hE (runs_plain rfl) (Gives.p hE rfl) rfl ?_; clear hE a; intro a hE
        refine WL.vS hS hE (runs_plain rfl) (Gives.p hE rfl) rfl ?_; clear hE a; intro a hE
        refine WL.nil ?_
        refine W.ret ?_
        refine finG (fn := Try.f26) (rs := [.tmp 6, .tmp 7]) (vs := [_, _]) hE rfl ⟨rfl, rfl, trivial⟩ ?_
        obtain rfl := Option.some.inj hr
        replace hS := hS.tail
        exact ⟨rfl, hS⟩
      · replace hr := iteF hc54 hr
        refine W.skip ?_
        refine W.seq ?_
        refine W.region ?_
        refine WL.vS hS hE (runs_plain rfl) (Gives.p hE rfl) rfl ?_; clear hE a; intro a hE
        refine WL.vS hS hE (runs_plain rfl) (Gives.p hE rfl) rfl ?_; clear hE a; intro a hE
        refine WL.vS hS hE (runs_plain rfl) (Gives.loadBA hE 0 rfl rfl ty35) rfl ?_; clear hE a; intro a hE
        obtain ⟨q55, hq56, hr⟩ := bindS hr
        refine WL.fn hE (FleetjudgeRoster_ok hS h0 h1 hq56) (runs_plain rfl) bd59 rfl rfl ?_
        clear hE hS; rintro e w ⟨rfl, hS⟩; refine ⟨_, rfl, ?_⟩; clear a; intro a hE
        refine WL.vS hS hE (runs_plain rfl) (Gives.p hE rfl) rfl ?_; clear hE a; intro a hE
        refine WL.vS hS hE (runs_plain rfl) (Gives.p hE rfl) rfl ?_; clear hE a; intro a hE
        refine WL.nil ?_
        refine W.ret ?_
        refine finG (fn := Try.f26) (rs := [.tmp 6, .tmp 7]) (vs := [_, _]) hE rfl ⟨rfl, rfl, trivial⟩ ?_
        obtain rfl := Option.some.inj hr
        replace hS := hS.tail
        exact ⟨rfl, hS⟩
set_option maxHeartbeats 8000000 in
theorem Fishref2within_ok  {w : World} {s : Sg} {R : List HP} {x0 : Int} {x1 : Int} {x2 : Int} (hS : St w s (R))  {r : Bool} (hr : Fishref2within x0 x1 x2 = r) :
    Calls Try.prog 49 [.int .i64 x0, .int .i64 x1, .int .i64 x2].toArray w (fun e w => e = .returned (.bool r) ∧ St w s (R)) := by
  refine enter Try.func49 rfl rfl rfl fun a hE => ?_
  rw [Fishref2within] at hr
  refine W.seq ?_
  refine W.region ?_
  refine WL.vS hS hE (runs_plain rfl) (Gives.p hE rfl) rfl ?_; clear hE a; intro a hE
  refine WL.nil ?_
  refine W.seq ?_
  obtain ⟨q52, hq51, hr⟩ := bndS hr
  refine W.cut (fun a w => ∃ (q55 : Bool), q55 = q52 ∧ Rep a 15 [(6, .bool q55)] ∧ St w s (R)) ?_ ?_
  · refine W.gen fun K56 hK56 => ?_
    refine W.region ?_
    refine WL.vS hS hE (runs_plain rfl) (Gives.p hE rfl) rfl ?_; clear hE a; intro a hE
    refine WL.vS hS hE (runs_plain rfl) (Gives.p hE rfl) rfl ?_; clear hE a; intro a hE
    refine WL.vS hS hE (runs_plain rfl) (Gives.p hE rfl) rfl ?_; clear hE a; intro a hE
    refine WL.vS hS hE (runs_plain rfl) (Gives.p hE rfl) rfl ?_; clear hE a; intro a hE
    rcases Bool.eq_false_or_eq_true (decide (x0 ≥ x1)) with hg57 | hg57
    · replace hq51 := iteT hg57 hq51
      refine WL.vS hS hE (runs_if hE rfl rfl rfl hg57) (Gives.p hE rfl) rfl ?_; clear hE a; intro a hE
      refine WL.vS hS hE (runs_if hE rfl rfl rfl hg57) (Gives.p hE rfl) rfl ?_; clear hE a; intro a hE
      refine WL.vS hS hE (runs_if hE rfl rfl rfl hg57) (Gives.p hE rfl) rfl ?_; clear hE a; intro a hE
      refine WL.vS hS hE (runs_plain rfl) (Gives.pickT hE rfl hg57 rfl) rfl ?_; clear hE a; intro a hE
      refine WL.vS hS hE (runs_plain rfl) (Gives.p hE rfl) rfl ?_; clear hE a; intro a hE
      refine WL.nil ?_
      subst hK56
      exact ⟨decide (x0 ≤ x2), hq51, hE.pick _ ⟨rfl, trivial⟩, hS⟩
    · replace hq51 := iteF hg57 hq51
      refine WL.no hE (runs_not hE rfl rfl rfl (by rw [hg57]; decide)) rfl ?_; clear hE a; intro a hE
      refine WL.no hE (runs_not hE rfl rfl rfl (by rw [hg57]; decide)) rfl ?_; clear hE a; intro a hE
      refine WL.no hE (runs_not hE rfl rfl rfl (by rw [hg57]; decide)) rfl ?_; clear hE a; intro a hE
      refine WL.vS hS hE (runs_plain rfl) (Gives.pickF hE rfl hg57 rfl) rfl ?_; clear hE a; intro a hE
      refine WL.vS hS hE (runs_plain rfl) (Gives.p hE rfl) rfl ?_; clear hE a; intro a hE
      refine WL.nil ?_
      subst hK56
      exact ⟨false, hq51, hE.pick _ ⟨rfl, trivial⟩, hS⟩
  · clear hE hS a w; rintro a w ⟨q55, rfl, hE, hS⟩
    refine W.ret ?_
    refine finG (fn := Try.f49) (rs := [.tmp 6]) (vs := [_]) hE rfl ⟨rfl, trivial⟩ ?_
    subst hr
    exact ⟨rfl, hS⟩
set_option maxHeartbeats 8000000 in
theorem Fishref2ShiftsFault_ok  {w : World} {s : Sg} {R : List HP} {x0 : List FleetShift} {a0 : Option Addr} {c0 : Nat} (hS : St w s (R)) (h0 : Sl 3 RFleetShift s a0 c0 x0) {r : Int} (hr : Fishref2ShiftsFault x0 = r) :
    Calls Try.prog 29 [.slice a0 x0.length c0].toArray w (fun e w => e = .returned (.int .i64 r) ∧ St w s (R)) := by
  refine enter Try.func29 rfl rfl rfl fun a hE => ?_
  rw [Fishref2ShiftsFault] at hr
  refine W.seq ?_
  refine W.region ?_
  refine WL.vS hS hE (runs_plain rfl) (Gives.p hE rfl) rfl ?_; clear hE a; intro a hE
  refine WL.nil ?_
  refine W.seq ?_
  refine W.seq ?_
  refine W.region ?_
  refine WL.vS hS hE (runs_plain rfl) (Gives.p hE rfl) rfl ?_; clear hE a; intro a hE
  refine WL.vS hS hE (runs_plain rfl) (Gives.len hE rfl sl50) rfl ?_; clear hE a; intro a hE
  refine WL.vS hS hE (runs_plain rfl) (Gives.p hE rfl) rfl ?_; clear hE a; intro a hE
  refine WL.nil ?_
  refine W.cond hE rfl (fun hc51 => ?_) (fun hc51 => ?_)
  · replace hr := iteT hc51 hr
    refine W.seq ?_
    refine W.region ?_
    refine WL.vS hS hE (runs_plain rfl) (Gives.p hE rfl) rfl ?_; clear hE a; intro a hE
    refine WL.nil ?_
    refine W.ret ?_
    refine finG (fn := Try.f29) (rs := [.tmp 2]) (vs := [_]) hE rfl ⟨rfl, trivial⟩ ?_
    subst hr
    exact ⟨rfl, hS⟩
  · replace hr := iteF hc51 hr
    refine W.skip ?_
    refine W.seq ?_
    refine W.seq ?_
    refine W.region ?_
    refine WL.vS hS hE (runs_plain rfl) (Gives.p hE rfl) rfl ?_; clear hE a; intro a hE
    refine WL.vS hS hE (runs_plain rfl) (Gives.len hE rfl sl50) rfl ?_; clear hE a; intro a hE
    refine WL.vS hS hE (runs_plain rfl) (Gives.p hE rfl) rfl ?_; clear hE a; intro a hE
    refine WL.nil ?_
    obtain ⟨q53, hq52, hr⟩ := bndS hr
    refine W.cut (fun a w => (.next ()) = q53 ∧ Rep a 36 [] ∧ St w s (R)) ?_ ?_
    · refine W.block ?_
      refine W.loop (fun m a w => ∃ (rest56 : List FleetShift) (k54 : Nat), rest56.length = m ∧ x0.drop k54 = rest56 ∧ Fishref2ShiftsFault.loop1 rest56 = q53 ∧ Rep a 36 [(8, .slice a0 x0.length c0), (9, .int .i64 ((x0).length : Int)), (10, .int .i64 ((k54 : Nat) : Int))] ∧ St w s (R)) (m := x0.length) ⟨x0, 0, rfl, rfl, hq52, hE.pick _ ⟨rfl, rfl, rfl, trivial⟩, hS⟩ ?_
      clear hE hS a w hq52; rintro m60 a w ⟨rest56, k54, rfl, hd57, hq52, hE, hS⟩
      refine W.gen fun K63 hK63 => ?_
      rcases rest56 with _ | ⟨x55, rest56⟩
      · have hlt58 := drop_nil hd57
        refine W.seq ?_
        refine W.region ?_
        refine WL.vS hS hE (runs_plain rfl) (Gives.p hE rfl) rfl ?_; clear hE a; intro a hE
        refine WL.nil ?_
        refine W.seq ?_
        refine W.condF hE rfl (decide_eq_false (by omega)) ?_
        subst hK63
        refine W.exit rfl ?_
        exact ⟨hq52, hE.pick _ trivial, hS⟩
      · obtain ⟨hlt58, hx59, hd57⟩ := drop_cons hd57
        rw [Fishref2ShiftsFault.loop1] at hq52
        refine W.seq ?_
        refine W.region ?_
        refine WL.vS hS hE (runs_plain rfl) (Gives.p hE rfl) rfl ?_; clear hE a; intro a hE
        refine WL.nil ?_
        refine W.seq ?_
        refine W.condT hE rfl (decide_eq_true (by omega)) ?_
        refine W.skip ?_
        refine W.seq ?_
        refine W.block ?_
        refine W.seq ?_
        refine W.region ?_
        obtain ⟨cs64, hl65, hR66, hat67⟩ := h0.at hx59
        subst hR66
        refine WL.vS hS hE (runs_plain rfl) (Gives.idx hE k54 rfl rfl sl50 rfl hlt58 (h0.aok hlt58)) rfl ?_; clear hE a; intro a hE
        refine WL.vS hS hE (runs_plain rfl) (Gives.loadA hE rfl (fun w h => hat67 w _ h) ty90) rfl ?_; clear hE a; intro a hE
        refine WL.alloc hE hS (runs_plain rfl) zr90 rfl ?_; clear hE hS a w; intro b68 a w hE hS
        refine WL.storeI hE hS 0 rfl (FleetShift.cells x55) (runs_plain rfl) rfl rfl rfl ty90 rfl rfl rfl rfl ?_; clear hE hS a w; intro a w hE hS
        refine WL.nil ?_
        refine W.seq ?_
        refine W.seq ?_
        obtain ⟨q70, hq69, hq52⟩ := bndS hq52
        refine W.cut (fun a w => ∃ (q73 : Bool), q73 = q70 ∧ Rep a 36 [(4, .pointer (some ⟨b68, 0, none⟩)), (8, .slice a0 x0.length c0), (9, .int .i64 ((x0).length : Int)), (10, .int .i64 ((k54 : Nat) : Int)), (29, .bool q73)] ∧ St w s (pt b68 (.cells (FleetShift.cells x55).toArray 90 (0, 0)) :: R)) ?_ ?_
        · refine W.gen fun K74 hK74 => ?_
          refine W.region ?_
          refine WL.vS hS hE (runs_plain rfl) (Gives.fld hE rfl fl90_0) rfl ?_; clear hE a; intro a hE
          refine WL.vS hS hE (runs_plain rfl) (Gives.loadB hE 0 rfl rfl rfl ty3) rfl ?_; clear hE a; intro a hE
          refine WL.fn hE (Fishref2within_ok hS  rfl) (runs_plain rfl) bd49 rfl rfl ?_
          clear hE hS; rintro e w ⟨rfl, hS⟩; refine ⟨_, rfl, ?_⟩; clear a; intro a hE
          refine WL.vS hS hE (runs_plain rfl) (Gives.p hE rfl) rfl ?_; clear hE a; intro a hE
          refine WL.vS hS hE (runs_plain rfl) (Gives.p hE rfl) rfl ?_; clear hE a; intro a hE
          rcases Bool.eq_false_or_eq_true (!(Fishref2within x55.Day 0 6)) with hg75 | hg75
          · replace hq69 := iteT hg75 hq69
            refine WL.no hE (runs_not hE rfl rfl rfl (by rw [hg75]; decide)) rfl ?_; clear hE a; intro a hE
            refine WL.no hE (runs_not hE rfl rfl rfl (by rw [hg75]; decide)) rfl ?_; clear hE a; intro a hE
            refine WL.no hE (runs_not hE rfl rfl rfl (by rw [hg75]; decide)) rfl ?_; clear hE a; intro a hE
            refine WL.no hE (runs_not hE rfl rfl rfl (by rw [hg75]; decide)) rfl ?_; clear hE a; intro a hE
            refine WL.vS hS hE (runs_plain rfl) (Gives.pickT hE rfl hg75 rfl) rfl ?_; clear hE a; intro a hE
            refine WL.vS hS hE (runs_plain rfl) (Gives.p hE rfl) rfl ?_; clear hE a; intro a hE
            refine WL.no hE (runs_not hE rfl rfl rfl (by decide)) rfl ?_; clear hE a; intro a hE
            refine WL.no hE (runs_not hE rfl rfl rfl (by decide)) rfl ?_; clear hE a; intro a hE
            refine WL.no hE (runs_not hE rfl rfl rfl (by decide)) rfl ?_; clear hE a; intro a hE
            refine WL.no hE (runs_not hE rfl rfl rfl (by decide)) rfl ?_; clear hE a; intro a hE
            refine WL.vS hS hE (runs_plain rfl) (Gives.pickT hE rfl rfl rfl) rfl ?_; clear hE a; intro a hE
            refine WL.nil ?_
            subst hK74
            exact ⟨true, hq69, hE.pick _ ⟨rfl, rfl, rfl, rfl, rfl, trivial⟩, hS⟩
          · replace hq69 := iteF hg75 hq69
            refine WL.vS hS hE (runs_if hE rfl rfl rfl hg75) (Gives.fld hE rfl fl90_1) rfl ?_; clear hE a; intro a hE
            refine WL.vS hS hE (runs_if hE rfl rfl rfl hg75) (Gives.loadB hE 0 rfl rfl rfl ty3) rfl ?_; clear hE a; intro a hE
            refine WL.fn hE (Fishref2within_ok hS  rfl) (runs_if hE rfl rfl rfl hg75) bd49 rfl rfl ?_
            clear hE hS; rintro e w ⟨rfl, hS⟩; refine ⟨_, rfl, ?_⟩; clear a; intro a hE
            refine WL.vS hS hE (runs_if hE rfl rfl rfl hg75) (Gives.p hE rfl) rfl ?_; clear hE a; intro a hE
            refine WL.vS hS hE (runs_plain rfl) (Gives.pickF hE rfl hg75 rfl) rfl ?_; clear hE a; intro a hE
            refine WL.vS hS hE (runs_plain rfl) (Gives.p hE rfl) rfl ?_; clear hE a; intro a hE
            rcases Bool.eq_false_or_eq_true (!(Fishref2within x55.Start 0 28800)) with hg76 | hg76
            · replace hq69 := iteT hg76 hq69
              refine WL.no hE (runs_not hE rfl rfl rfl (by rw [hg76]; decide)) rfl ?_; clear hE a; intro a hE
              refine WL.no hE (runs_not hE rfl rfl rfl (by rw [hg76]; decide)) rfl ?_; clear hE a; intro a hE
              refine WL.no hE (runs_not hE rfl rfl rfl (by rw [hg76]; decide)) rfl ?_; clear hE a; intro a hE
              refine WL.no hE (runs_not hE rfl rfl rfl (by rw [hg76]; decide)) rfl ?_; clear hE a; intro a hE
              refine WL.vS hS hE (runs_plain rfl) (Gives.pickT hE rfl hg76 rfl) rfl ?_; clear hE a; intro a hE
              refine WL.nil ?_
              subst hK74
              exact ⟨true, hq69, hE.pick _ ⟨rfl, rfl, rfl, rfl, rfl, trivial⟩, hS⟩
            · replace hq69 := iteF hg76 hq69
              refine WL.vS hS hE (runs_if hE rfl rfl rfl hg76) (Gives.fld hE rfl fl90_2) rfl ?_; clear hE a; intro a hE
              refine WL.vS hS hE (runs_if hE rfl rfl rfl hg76) (Gives.loadB hE 0 rfl rfl rfl ty3) rfl ?_; clear hE a; intro a hE
              refine WL.fn hE (Fishref2within_ok hS  rfl) (runs_if hE rfl rfl rfl hg76) bd49 rfl rfl ?_
              clear hE hS; rintro e w ⟨rfl, hS⟩; refine ⟨_, rfl, ?_⟩; clear a; intro a hE
              refine WL.vS hS hE (runs_if hE rfl rfl rfl hg76) (Gives.p hE rfl) rfl ?_; clear hE a; intro a hE
              refine WL.vS hS hE (runs_plain rfl) (Gives.pickF hE rfl hg76 rfl) rfl ?_; clear hE a; intro a hE
              refine WL.nil ?_
              subst hK74
              exact ⟨!(Fishref2within x55.End 0 28800), hq69, hE.pick _ ⟨rfl, rfl, rfl, rfl, rfl, trivial⟩, hS⟩
        · clear hE hS a w; rintro a w ⟨q73, rfl, hE, hS⟩
          refine W.cond hE rfl (fun hc77 => ?_) (fun hc77 => ?_)
          · replace hq52 := iteT hc77 hq52
            refine W.seq ?_
            refine W.region ?_
            refine WL.vS hS hE (runs_plain rfl) (Gives.p hE rfl) rfl ?_; clear hE a; intro a hE
            refine WL.nil ?_
            refine W.ret ?_
            subst hK63
            rw [← hq52] at hr
            dsimp only at hr
            refine finG (fn := Try.f29) (rs := [.tmp 2]) (vs := [_]) hE rfl ⟨rfl, trivial⟩ ?_
            subst hr
            replace hS := hS.tail
            exact ⟨rfl, hS⟩
          · replace hq52 := iteF hc77 hq52
            refine W.skip ?_
            refine W.seq ?_
            refine W.region ?_
            refine WL.vS hS hE (runs_plain rfl) (Gives.fld hE rfl fl90_2) rfl ?_; clear hE a; intro a hE
            refine WL.vS hS hE (runs_plain rfl) (Gives.loadB hE 0 rfl rfl rfl ty3) rfl ?_; clear hE a; intro a hE
            refine WL.vS hS hE (runs_plain rfl) (Gives.fld hE rfl fl90_1) rfl ?_; clear hE a; intro a hE
            refine WL.vS hS hE (runs_plain rfl) (Gives.loadB hE 0 rfl rfl rfl ty3) rfl ?_; clear hE a; intro a hE
            refine WL.vS hS hE (runs_plain rfl) (Gives.p hE rfl) rfl ?_; clear hE a; intro a hE
            refine WL.nil ?_
            refine W.cond hE rfl (fun hc78 => ?_) (fun hc78 => ?_)
            · replace hq52 := iteT hc78 hq52
              refine W.seq ?_
              refine W.region ?_
              refine WL.vS hS hE (runs_plain rfl) (Gives.p hE rfl) rfl ?_; clear hE a; intro a hE
              refine WL.nil ?_
              refine W.ret ?_
              subst hK63
              rw [← hq52] at hr
              dsimp only at hr
              refine finG (fn := Try.f29) (rs := [.tmp 2]) (vs := [_]) hE rfl ⟨rfl, trivial⟩ ?_
              subst hr
              replace hS := hS.tail
              exact ⟨rfl, hS⟩
            · replace hq52 := iteF hc78 hq52
              refine W.skip ?_
              refine W.region ?_
              refine WL.vS hS hE (runs_plain rfl) (Gives.inc hE rfl (by have := h0.small; omega)) rfl ?_; clear hE a; intro a hE
              refine WL.vS hS hE (runs_plain rfl) (Gives.p hE rfl) rfl ?_; clear hE a; intro a hE
              refine WL.nil ?_
              replace hS := hS.tail
              subst hK63
              exact ⟨rest56.length, Nat.lt_succ_self _, rest56, k54 + 1, rfl, hd57, hq52, hE.pick _ ⟨rfl, rfl, rfl, trivial⟩, hS⟩
    · clear hE hS a w; rintro a w ⟨rfl, hE, hS⟩
      dsimp only at hr
      refine W.seq ?_
      refine W.region ?_
      refine WL.vS hS hE (runs_plain rfl) (Gives.p hE rfl) rfl ?_; clear hE a; intro a hE
      refine WL.nil ?_
      refine W.ret ?_
      refine finG (fn := Try.f29) (rs := [.tmp 2]) (vs := [_]) hE rfl ⟨rfl, trivial⟩ ?_
      subst hr
      exact ⟨rfl, hS⟩
set_option maxHeartbeats 8000000 in
theorem Fishref2LimitsFault_ok  {w : World} {s : Sg} {R : List HP} {x0 : FleetLimits} (hS : St w s (R))  {r : Int} (hr : Fishref2LimitsFault x0 = r) :
    Calls Try.prog 37 [.agg (FleetLimits.cells x0).toArray].toArray w (fun e w => e = .returned (.int .i64 r) ∧ St w s (R)) := by
  refine enter Try.func37 rfl rfl rfl fun a hE => ?_
  rw [Fishref2LimitsFault] at hr
  refine W.seq ?_
  refine W.region ?_
  refine WL.box hE hS (runs_plain rfl) rfl rfl rfl ?_; clear hE hS a w; intro b51 a w hE hS
  refine WL.vS hS hE (runs_plain rfl) (Gives.p hE rfl) rfl ?_; clear hE a; intro a hE
  refine WL.nil ?_
  refine W.seq ?_
  refine W.seq ?_
  refine W.region ?_
  refine WL.vS hS hE (runs_plain rfl) (Gives.fld hE rfl fl35_0) rfl ?_; clear hE a; intro a hE
  refine WL.vS hS hE (runs_plain rfl) (Gives.loadB hE 0 rfl rfl rfl ty3) rfl ?_; clear hE a; intro a hE
  refine WL.vS hS hE (runs_plain rfl) (Gives.fld hE rfl fl35_1) rfl ?_; clear hE a; intro a hE
  refine WL.vS hS hE (runs_plain rfl) (Gives.loadB hE 0 rfl rfl rfl ty3) rfl ?_; clear hE a; intro a hE
  refine WL.vS hS hE (runs_plain rfl) (Gives.fld hE rfl fl35_2) rfl ?_; clear hE a; intro a hE
  refine WL.vS hS hE (runs_plain rfl) (Gives.loadB hE 0 rfl rfl rfl ty3) rfl ?_; clear hE a; intro a hE
  refine WL.vS hS hE (runs_plain rfl) (Gives.fld hE rfl fl35_3) rfl ?_; clear hE a; intro a hE
  refine WL.vS hS hE (runs_plain rfl) (Gives.loadB hE 0 rfl rfl rfl ty3) rfl ?_; clear hE a; intro a hE
  refine WL.vS hS hE (runs_plain rfl) (Gives.fld hE rfl fl35_4) rfl ?_; clear hE a; intro a hE
  refine WL.vS hS hE (runs_plain rfl) (Gives.loadB hE 0 rfl rfl rfl ty3) rfl ?_; clear hE a; intro a hE
  refine WL.vS hS hE (runs_plain rfl) (Gives.fld hE rfl fl35_5) rfl ?_; clear hE a; intro a hE
  refine WL.vS hS hE (runs_plain rfl) (Gives.loadB hE 0 rfl rfl rfl ty3) rfl ?_; clear hE a; intro a hE
  refine WL.lit hE hS (e := 3) (es := 1) (vs := [(0, .int .i64 x0.Change), (1, .int .i64 x0.Long), (2, .int .i64 x0.Work), (3, .int .i64 x0.After), (4, .int .i64 x0.Break), (5, .int .i64 x0.Rest)]) (cs := [.int .i64 x0.Change, .int .i64 x0.Long, .int .i64 x0.Work, .int .i64 x0.After, .int .i64 x0.Break, .int .i64 x0.Rest]) (runs_plain rfl) rfl (by kernel_rfl) rfl ?_; clear hE hS a w; intro b52 a w hE hS
  replace hS := hS.ptVec (es := 1) (m := 6) rfl (by decide)
  have h54 : Ev 1 (RI .i64) s [.int .i64 x0.Change, .int .i64 x0.Long, .int .i64 x0.Work, .int .i64 x0.After, .int .i64 x0.Break, .int .i64 x0.Rest] [x0.Change, x0.Long, x0.Work, x0.After, x0.Break, x0.Rest] := (Ev.cons (c1 := [.int .i64 x0.Change]) rfl rfl (Ev.cons (c1 := [.int .i64 x0.Long]) rfl rfl (Ev.cons (c1 := [.int .i64 x0.Work]) rfl rfl (Ev.cons (c1 := [.int .i64 x0.After]) rfl rfl (Ev.cons (c1 := [.int .i64 x0.Break]) rfl rfl (Ev.cons (c1 := [.int .i64 x0.Rest]) rfl rfl (Ev.nil)))))))
  have hF := hS.fixD RI.mono 0 rfl h54 (rfl); clear hS; obtain ⟨s55, hle56, hS, h57⟩ := hF
  refine WL.vS hS hE (runs_plain rfl) (Gives.len hE rfl sl22) rfl ?_; clear hE a; intro a hE
  refine WL.vS hS hE (runs_plain rfl) (Gives.p hE rfl) rfl ?_; clear hE a; intro a hE
  refine WL.nil ?_
  obtain ⟨q59, hq58, hr⟩ := bndS hr
  refine W.cut (fun a w => (.next ()) = q59 ∧ Rep a 31 [(1, .pointer (some ⟨b51, 0, none⟩))] ∧ St w s55 (pt b51 (.cells (FleetLimits.cells x0).toArray 35 (0, 0)) :: R)) ?_ ?_
  · refine W.block ?_
    refine W.loop (fun m a w => ∃ (rest62 : List Int) (k60 : Nat), rest62.length = m ∧ [x0.Change, x0.Long, x0.Work, x0.After, x0.Break, x0.Rest].drop k60 = rest62 ∧ Fishref2LimitsFault.loop1 rest62 = q59 ∧ Rep a 31 [(1, .pointer (some ⟨b51, 0, none⟩)), (17, .slice (some ⟨b52, 0, none⟩) 6 6), (18, .int .i64 (([x0.Change, x0.Long, x0.Work, x0.After, x0.Break, x0.Rest]).length : Int)), (19, .int .i64 ((k60 : Nat) : Int))] ∧ St w s55 (pt b51 (.cells (FleetLimits.cells x0).toArray 35 (0, 0)) :: R)) (m := [x0.Change, x0.Long, x0.Work, x0.After, x0.Break, x0.Rest].length) ⟨[x0.Change, x0.Long, x0.Work, x0.After, x0.Break, x0.Rest], 0, rfl, rfl, hq58, hE.pick _ ⟨rfl, rfl, rfl, rfl, trivial⟩, hS⟩ ?_
    clear hE hS a w hq58; rintro m66 a w ⟨rest62, k60, rfl, hd63, hq58, hE, hS⟩
    refine W.gen fun K69 hK69 => ?_
    rcases rest62 with _ | ⟨x61, rest62⟩
    · have hlt64 := drop_nil hd63
      refine W.seq ?_
      refine W.region ?_
      refine WL.vS hS hE (runs_plain rfl) (Gives.p hE rfl) rfl ?_; clear hE a; intro a hE
      refine WL.nil ?_
      refine W.seq ?_
      refine W.condF hE rfl (decide_eq_false (by omega)) ?_
      subst hK69
      refine W.exit rfl ?_
      exact ⟨hq58, hE.pick _ ⟨rfl, trivial⟩, hS⟩
    · obtain ⟨hlt64, hx65, hd63⟩ := drop_cons hd63
      rw [Fishref2LimitsFault.loop1] at hq58
      refine W.seq ?_
      refine W.region ?_
      refine WL.vS hS hE (runs_plain rfl) (Gives.p hE rfl) rfl ?_; clear hE a; intro a hE
      refine WL.nil ?_
      refine W.seq ?_
      refine W.condT hE rfl (decide_eq_true (by omega)) ?_
      refine W.skip ?_
      refine W.seq ?_
      refine W.block ?_
      refine W.seq ?_
      refine W.region ?_
      obtain ⟨cs70, hl71, hR72, hat73⟩ := h57.at hx65
      subst hR72
      refine WL.vS hS hE (runs_plain rfl) (Gives.idx hE k60 rfl rfl sl22 rfl hlt64 (h57.aok hlt64)) rfl ?_; clear hE a; intro a hE
      refine WL.vS hS hE (runs_plain rfl) (Gives.load1 hE rfl (fun w h => hat73 w _ h) ty3) rfl ?_; clear hE a; intro a hE
      refine WL.vS hS hE (runs_plain rfl) (Gives.p hE rfl) rfl ?_; clear hE a; intro a hE
      refine WL.nil ?_
      refine W.seq ?_
      refine W.region ?_
      refine WL.vS hS hE (runs_plain rfl) (Gives.p hE rfl) rfl ?_; clear hE a; intro a hE
      refine WL.fn hE (Fishref2within_ok hS  rfl) (runs_plain rfl) bd49 rfl rfl ?_
      clear hE hS; rintro e w ⟨rfl, hS⟩; refine ⟨_, rfl, ?_⟩; clear a; intro a hE
      refine WL.vS hS hE (runs_plain rfl) (Gives.p hE rfl) rfl ?_; clear hE a; intro a hE
      refine WL.nil ?_
      refine W.cond hE rfl (fun hc74 => ?_) (fun hc74 => ?_)
      · replace hq58 := iteT hc74 hq58
        refine W.seq ?_
        refine W.region ?_
        refine WL.vS hS hE (runs_plain rfl) (Gives.p hE rfl) rfl ?_; clear hE a; intro a hE
        refine WL.nil ?_
        refine W.ret ?_
        subst hK69
        rw [← hq58] at hr
        dsimp only at hr
        refine finG (fn := Try.f37) (rs := [.tmp 2]) (vs := [_]) hE rfl ⟨rfl, trivial⟩ ?_
        subst hr
        replace hS := hS.tail
        exact ⟨rfl, (hS.down hle56)⟩
      · replace hq58 := iteF hc74 hq58
        refine W.skip ?_
        refine W.region ?_
        refine WL.vS hS hE (runs_plain rfl) (Gives.inc hE rfl (by have := h57.small; omega)) rfl ?_; clear hE a; intro a hE
        refine WL.vS hS hE (runs_plain rfl) (Gives.p hE rfl) rfl ?_; clear hE a; intro a hE
        refine WL.nil ?_
        subst hK69
        exact ⟨rest62.length, Nat.lt_succ_self _, rest62, k60 + 1, rfl, hd63, hq58, hE.pick _ ⟨rfl, rfl, rfl, rfl, trivial⟩, hS⟩
  · clear hE hS a w; rintro a w ⟨rfl, hE, hS⟩
    dsimp only at hr
    refine W.seq ?_
    refine W.seq ?_
    refine W.region ?_
    refine WL.vS hS hE (runs_plain rfl) (Gives.fld hE rfl fl35_6) rfl ?_; clear hE a; intro a hE
    refine WL.vS hS hE (runs_plain rfl) (Gives.loadB hE 0 rfl rfl rfl ty3) rfl ?_; clear hE a; intro a hE
    refine WL.fn hE (Fishref2within_ok hS  rfl) (runs_plain rfl) bd49 rfl rfl ?_
    clear hE hS; rintro e w ⟨rfl, hS⟩; refine ⟨_, rfl, ?_⟩; clear a; intro a hE
    refine WL.vS hS hE (runs_plain rfl) (Gives.p hE rfl) rfl ?_; clear hE a; intro a hE
    refine WL.nil ?_
    refine W.cond hE rfl (fun hc75 => ?_) (fun hc75 => ?_)
    · replace hr := iteT hc75 hr
      refine W.seq ?_
      refine W.region ?_
      refine WL.vS hS hE (runs_plain rfl) (Gives.p hE rfl) rfl ?_; clear hE a; intro a hE
      refine WL.nil ?_
      refine W.ret ?_
      refine finG (fn := Try.f37) (rs := [.tmp 2]) (vs := [_]) hE rfl ⟨rfl, trivial⟩ ?_
      subst hr
      replace hS := hS.tail
      exact ⟨rfl, (hS.down hle56)⟩
    · replace hr := iteF hc75 hr
      refine W.skip ?_
      refine W.seq ?_
      refine W.region ?_
      refine WL.vS hS hE (runs_plain rfl) (Gives.p hE rfl) rfl ?_; clear hE a; intro a hE
      refine WL.nil ?_
      refine W.ret ?_
      refine finG (fn := Try.f37) (rs := [.tmp 2]) (vs := [_]) hE rfl ⟨rfl, trivial⟩ ?_
      subst hr
      replace hS := hS.tail
      exact ⟨rfl, (hS.down hle56)⟩
set_option maxHeartbeats 8000000 in
theorem Fishref2RosterFault_ok  {w : World} {s : Sg} {R : List HP} {x0 : List FleetShift} {a0 : Option Addr} {c0 : Nat} {x1 : List (List Int)} {a1 : Option Addr} {c1 : Nat} (hS : St w s (R)) (_h0 : Sl 3 RFleetShift s a0 c0 x0) (h1 : Sl 1 (RL 1 (RI .i64)) s a1 c1 x1) {r : Int} (hr : Fishref2RosterFault x0 x1 = r) :
    Calls Try.prog 31 [.slice a0 x0.length c0, .slice a1 x1.length c1].toArray w (fun e w => e = .returned (.int .i64 r) ∧ St w s (R)) := by
  refine enter Try.func31 rfl rfl rfl fun a hE => ?_
  rw [Fishref2RosterFault] at hr
  refine W.seq ?_
  refine W.region ?_
  refine WL.vS hS hE (runs_plain rfl) (Gives.p hE rfl) rfl ?_; clear hE a; intro a hE
  refine WL.nil ?_
  refine W.seq ?_
  refine W.seq ?_
  refine W.region ?_
  refine WL.vS hS hE (runs_plain rfl) (Gives.p hE rfl) rfl ?_; clear hE a; intro a hE
  refine WL.vS hS hE (runs_plain rfl) (Gives.len hE rfl sl23) rfl ?_; clear hE a; intro a hE
  refine WL.vS hS hE (runs_plain rfl) (Gives.p hE rfl) rfl ?_; clear hE a; intro a hE
  refine WL.nil ?_
  refine W.cond hE rfl (fun hc51 => ?_) (fun hc51 => ?_)
  · replace hr := iteT hc51 hr
    refine W.seq ?_
    refine W.region ?_
    refine WL.vS hS hE (runs_plain rfl) (Gives.p hE rfl) rfl ?_; clear hE a; intro a hE
    refine WL.nil ?_
    refine W.ret ?_
    refine finG (fn := Try.f31) (rs := [.tmp 4]) (vs := [_]) hE rfl ⟨rfl, trivial⟩ ?_
    subst hr
    exact ⟨rfl, hS⟩
  · replace hr := iteF hc51 hr
    refine W.skip ?_
    refine W.seq ?_
    refine W.seq ?_
    refine W.region ?_
    refine WL.vS hS hE (runs_plain rfl) (Gives.p hE rfl) rfl ?_; clear hE a; intro a hE
    refine WL.vS hS hE (runs_plain rfl) (Gives.len hE rfl sl23) rfl ?_; clear hE a; intro a hE
    refine WL.vS hS hE (runs_plain rfl) (Gives.p hE rfl) rfl ?_; clear hE a; intro a hE
    refine WL.nil ?_
    obtain ⟨q53, hq52, hr⟩ := bndS hr
    refine W.cut (fun a w => (.next ()) = q53 ∧ Rep a 34 [] ∧ St w s (R)) ?_ ?_
    · refine W.block ?_
      refine W.loop (fun m a w => ∃ (rest56 : List (List Int)) (k54 : Nat), rest56.length = m ∧ x1.drop k54 = rest56 ∧ Fishref2RosterFault.loop1 x0 rest56 = q53 ∧ Rep a 34 [(0, .slice a0 x0.length c0), (12, .slice a1 x1.length c1), (13, .int .i64 ((x1).length : Int)), (14, .int .i64 ((k54 : Nat) : Int))] ∧ St w s (R)) (m := x1.length) ⟨x1, 0, rfl, rfl, hq52, hE.pick _ ⟨rfl, rfl, rfl, rfl, trivial⟩, hS⟩ ?_
      clear hE hS a w hq52; rintro m60 a w ⟨rest56, k54, rfl, hd57, hq52, hE, hS⟩
      refine W.gen fun K63 hK63 => ?_
      rcases rest56 with _ | ⟨x55, rest56⟩
      · have hlt58 := drop_nil hd57
        refine W.seq ?_
        refine W.region ?_
        refine WL.vS hS hE (runs_plain rfl) (Gives.p hE rfl) rfl ?_; clear hE a; intro a hE
        refine WL.nil ?_
        refine W.seq ?_
        refine W.condF hE rfl (decide_eq_false (by omega)) ?_
        subst hK63
        refine W.exit rfl ?_
        exact ⟨hq52, hE.pick _ trivial, hS⟩
      · obtain ⟨hlt58, hx59, hd57⟩ := drop_cons hd57
        rw [Fishref2RosterFault.loop1] at hq52
        refine W.seq ?_
        refine W.region ?_
        refine WL.vS hS hE (runs_plain rfl) (Gives.p hE rfl) rfl ?_; clear hE a; intro a hE
        refine WL.nil ?_
        refine W.seq ?_
        refine W.condT hE rfl (decide_eq_true (by omega)) ?_
        refine W.skip ?_
        refine W.seq ?_
        refine W.block ?_
        refine W.seq ?_
        refine W.region ?_
        obtain ⟨cs64, hl65, hR66, hat67⟩ := h1.at hx59
        obtain ⟨a68, c69, rfl, h70⟩ := hR66
        refine WL.vS hS hE (runs_plain rfl) (Gives.idx hE k54 rfl rfl sl23 rfl hlt58 (h1.aok hlt58)) rfl ?_; clear hE a; intro a hE
        refine WL.vS hS hE (runs_plain rfl) (Gives.load1 hE rfl (fun w h => hat67 w _ h) ty22) rfl ?_; clear hE a; intro a hE
        refine WL.vS hS hE (runs_plain rfl) (Gives.p hE rfl) rfl ?_; clear hE a; intro a hE
        refine WL.nil ?_
        refine W.seq ?_
        refine W.region ?_
        refine WL.vS hS hE (runs_plain rfl) (Gives.p hE rfl) rfl ?_; clear hE a; intro a hE
        refine WL.vS hS hE (runs_plain rfl) (Gives.len hE rfl sl22) rfl ?_; clear hE a; intro a hE
        refine WL.vS hS hE (runs_plain rfl) (Gives.p hE rfl) rfl ?_; clear hE a; intro a hE
        refine WL.nil ?_
        obtain ⟨q72, hq71, hq52⟩ := bndS hq52
        refine W.cut (fun a w => (.next ()) = q72 ∧ Rep a 34 [(0, .slice a0 x0.length c0), (12, .slice a1 x1.length c1), (13, .int .i64 ((x1).length : Int)), (14, .int .i64 ((k54 : Nat) : Int))] ∧ St w s (R)) ?_ ?_
        · refine W.block ?_
          refine W.loop (fun m a w => ∃ (rest75 : List Int) (k73 : Nat), rest75.length = m ∧ x55.drop k73 = rest75 ∧ Fishref2RosterFault.loop2 x0 rest75 = q72 ∧ Rep a 34 [(0, .slice a0 x0.length c0), (12, .slice a1 x1.length c1), (13, .int .i64 ((x1).length : Int)), (14, .int .i64 ((k54 : Nat) : Int)), (18, .slice a68 x55.length c69), (19, .int .i64 ((x55).length : Int)), (20, .int .i64 ((k73 : Nat) : Int))] ∧ St w s (R)) (m := x55.length) ⟨x55, 0, rfl, rfl, hq71, hE.pick _ ⟨rfl, rfl, rfl, rfl, rfl, rfl, rfl, trivial⟩, hS⟩ ?_
          clear hE hS a w hq71; rintro m79 a w ⟨rest75, k73, rfl, hd76, hq71, hE, hS⟩
          refine W.gen fun K82 hK82 => ?_
          rcases rest75 with _ | ⟨x74, rest75⟩
          · have hlt77 := drop_nil hd76
            refine W.seq ?_
            refine W.region ?_
            refine WL.vS hS hE (runs_plain rfl) (Gives.p hE rfl) rfl ?_; clear hE a; intro a hE
            refine WL.nil ?_
            refine W.seq ?_
            refine W.condF hE rfl (decide_eq_false (by omega)) ?_
            subst hK82
            refine W.exit rfl ?_
            exact ⟨hq71, hE.pick _ ⟨rfl, rfl, rfl, rfl, trivial⟩, hS⟩
          · obtain ⟨hlt77, hx78, hd76⟩ := drop_cons hd76
            rw [Fishref2RosterFault.loop2] at hq71
            refine W.seq ?_
            refine W.region ?_
            refine WL.vS hS hE (runs_plain rfl) (Gives.p hE rfl) rfl ?_; clear hE a; intro a hE
            refine WL.nil ?_
            refine W.seq ?_
            refine W.condT hE rfl (decide_eq_true (by omega)) ?_
            refine W.skip ?_
            refine W.seq ?_
            refine W.block ?_
            refine W.seq ?_
            refine W.region ?_
            obtain ⟨cs83, hl84, hR85, hat86⟩ := h70.at hx78
            subst hR85
            refine WL.vS hS hE (runs_plain rfl) (Gives.idx hE k73 rfl rfl sl22 rfl hlt77 (h70.aok hlt77)) rfl ?_; clear hE a; intro a hE
            refine WL.vS hS hE (runs_plain rfl) (Gives.load1 hE rfl (fun w h => hat86 w _ h) ty3) rfl ?_; clear hE a; intro a hE
            refine WL.vS hS hE (runs_plain rfl) (Gives.p hE rfl) rfl ?_; clear hE a; intro a hE
            refine WL.nil ?_
            refine W.seq ?_
            obtain ⟨q88, hq87, hq71⟩ := bndS hq71
            refine W.cut (fun a w => ∃ (q91 : Bool), q91 = q88 ∧ Rep a 34 [(0, .slice a0 x0.length c0), (12, .slice a1 x1.length c1), (13, .int .i64 ((x1).length : Int)), (14, .int .i64 ((k54 : Nat) : Int)), (18, .slice a68 x55.length c69), (19, .int .i64 ((x55).length : Int)), (20, .int .i64 ((k73 : Nat) : Int)), (31, .bool q91)] ∧ St w s (R)) ?_ ?_
            · refine W.gen fun K92 hK92 => ?_
              refine W.region ?_
              refine WL.vS hS hE (runs_plain rfl) (Gives.p hE rfl) rfl ?_; clear hE a; intro a hE
              refine WL.vS hS hE (runs_plain rfl) (Gives.p hE rfl) rfl ?_; clear hE a; intro a hE
              refine WL.vS hS hE (runs_plain rfl) (Gives.p hE rfl) rfl ?_; clear hE a; intro a hE
              rcases Bool.eq_false_or_eq_true (decide (x74 < 0)) with hg93 | hg93
              · replace hq87 := iteT hg93 hq87
                refine WL.no hE (runs_not hE rfl rfl rfl (by rw [hg93]; decide)) rfl ?_; clear hE a; intro a hE
                refine WL.no hE (runs_not hE rfl rfl rfl (by rw [hg93]; decide)) rfl ?_; clear hE a; intro a hE
                refine WL.no hE (runs_not hE rfl rfl rfl (by rw [hg93]; decide)) rfl ?_; clear hE a; intro a hE
                refine WL.no hE (runs_not hE rfl rfl rfl (by rw [hg93]; decide)) rfl ?_; clear hE a; intro a hE
                refine WL.vS hS hE (runs_plain rfl) (Gives.pickT hE rfl hg93 rfl) rfl ?_; clear hE a; intro a hE
                refine WL.nil ?_
                subst hK92
                exact ⟨true, hq87, hE.pick _ ⟨rfl, rfl, rfl, rfl, rfl, rfl, rfl, rfl, trivial⟩, hS⟩
              · replace hq87 := iteF hg93 hq87
                refine WL.vS hS hE (runs_if hE rfl rfl rfl hg93) (Gives.p hE rfl) rfl ?_; clear hE a; intro a hE
                refine WL.vS hS hE (runs_if hE rfl rfl rfl hg93) (Gives.p hE rfl) rfl ?_; clear hE a; intro a hE
                refine WL.vS hS hE (runs_if hE rfl rfl rfl hg93) (Gives.len hE rfl sl50) rfl ?_; clear hE a; intro a hE
                refine WL.vS hS hE (runs_if hE rfl rfl rfl hg93) (Gives.p hE rfl) rfl ?_; clear hE a; intro a hE
                refine WL.vS hS hE (runs_plain rfl) (Gives.pickF hE rfl hg93 rfl) rfl ?_; clear hE a; intro a hE
                refine WL.nil ?_
                subst hK92
                exact ⟨decide (x74 ≥ ((x0).length : Int)), hq87, hE.pick _ ⟨rfl, rfl, rfl, rfl, rfl, rfl, rfl, rfl, trivial⟩, hS⟩
            · clear hE hS a w; rintro a w ⟨q91, rfl, hE, hS⟩
              refine W.cond hE rfl (fun hc94 => ?_) (fun hc94 => ?_)
              · replace hq71 := iteT hc94 hq71
                refine W.seq ?_
                refine W.region ?_
                refine WL.vS hS hE (runs_plain rfl) (Gives.p hE rfl) rfl ?_; clear hE a; intro a hE
                refine WL.nil ?_
                refine W.ret ?_
                subst hK82
                subst hK63
                rw [← hq71] at hq52
                dsimp only at hq52
                rw [← hq52] at hr
                dsimp only at hr
                refine finG (fn := Try.f31) (rs := [.tmp 4]) (vs := [_]) hE rfl ⟨rfl, trivial⟩ ?_
                subst hr
                exact ⟨rfl, hS⟩
              · replace hq71 := iteF hc94 hq71
                refine W.skip ?_
                refine W.region ?_
                refine WL.vS hS hE (runs_plain rfl) (Gives.inc hE rfl (by have := h70.small; omega)) rfl ?_; clear hE a; intro a hE
                refine WL.vS hS hE (runs_plain rfl) (Gives.p hE rfl) rfl ?_; clear hE a; intro a hE
                refine WL.nil ?_
                subst hK82
                exact ⟨rest75.length, Nat.lt_succ_self _, rest75, k73 + 1, rfl, hd76, hq71, hE.pick _ ⟨rfl, rfl, rfl, rfl, rfl, rfl, rfl, trivial⟩, hS⟩
        · clear hE hS a w; rintro a w ⟨rfl, hE, hS⟩
          dsimp only at hq52
          refine W.region ?_
          refine WL.vS hS hE (runs_plain rfl) (Gives.inc hE rfl (by have := h1.small; omega)) rfl ?_; clear hE a; intro a hE
          refine WL.vS hS hE (runs_plain rfl) (Gives.p hE rfl) rfl ?_; clear hE a; intro a hE
          refine WL.nil ?_
          subst hK63
          exact ⟨rest56.length, Nat.lt_succ_self _, rest56, k54 + 1, rfl, hd57, hq52, hE.pick _ ⟨rfl, rfl, rfl, rfl, trivial⟩, hS⟩
    · clear hE hS a w; rintro a w ⟨rfl, hE, hS⟩
      dsimp only at hr
      refine W.seq ?_
      refine W.region ?_
      refine WL.vS hS hE (runs_plain rfl) (Gives.p hE rfl) rfl ?_; clear hE a; intro a hE
      refine WL.nil ?_
      refine W.ret ?_
      refine finG (fn := Try.f31) (rs := [.tmp 4]) (vs := [_]) hE rfl ⟨rfl, trivial⟩ ?_
      subst hr
      exact ⟨rfl, hS⟩
set_option maxHeartbeats 8000000 in
theorem Fishref2later_1_v1_ok  {w : World} {s : Sg} {R : List HP} {pb0 : Nat} {x0 : Int} {y0 : Int} (hS : St w s (pt pb0 (.cells #[.int .i64 y0] 3 (0, 0)) :: R))  {r : Int} (hr : Fishref2later_1_v1 x0 y0 = r) :
    Calls Try.prog 77 [.int .i64 x0, .pointer (some ⟨pb0, 0, none⟩)].toArray w (fun e w => e = .returned (.tuple #[]) ∧ St w s (pt pb0 (.cells #[.int .i64 r] 3 (0, 0)) :: R)) := by
  refine enter Try.func77 rfl rfl rfl fun a hE => ?_
  rw [Fishref2later_1_v1] at hr
  refine W.seq ?_
  obtain ⟨q53, hq52, hr⟩ := bndS hr
  refine W.cut (fun a w => ∃ (q56 : Bool), q56 = q53 ∧ Rep a 11 [(0, .int .i64 x0), (1, .pointer (some ⟨pb0, 0, none⟩)), (9, .bool q56)] ∧ St w s (pt pb0 (.cells #[.int .i64 y0] 3 (0, 0)) :: R)) ?_ ?_
  · refine W.gen fun K57 hK57 => ?_
    refine W.region ?_
    refine WL.vS hS hE (runs_plain rfl) (Gives.loadB hE 0 rfl rfl rfl ty3) rfl ?_; clear hE a; intro a hE
    refine WL.vS hS hE (runs_plain rfl) (Gives.p hE rfl) rfl ?_; clear hE a; intro a hE
    refine WL.vS hS hE (runs_plain rfl) (Gives.p hE rfl) rfl ?_; clear hE a; intro a hE
    rcases Bool.eq_false_or_eq_true (y0 == 0) with hg58 | hg58
    · replace hq52 := iteT hg58 hq52
      refine WL.no hE (runs_not hE rfl rfl rfl (by rw [hg58]; decide)) rfl ?_; clear hE a; intro a hE
      refine WL.no hE (runs_not hE rfl rfl rfl (by rw [hg58]; decide)) rfl ?_; clear hE a; intro a hE
      refine WL.no hE (runs_not hE rfl rfl rfl (by rw [hg58]; decide)) rfl ?_; clear hE a; intro a hE
      refine WL.vS hS hE (runs_plain rfl) (Gives.pickT hE rfl hg58 rfl) rfl ?_; clear hE a; intro a hE
      refine WL.nil ?_
      subst hK57
      exact ⟨true, hq52, hE.pick _ ⟨rfl, rfl, rfl, trivial⟩, hS⟩
    · replace hq52 := iteF hg58 hq52
      refine WL.vS hS hE (runs_if hE rfl rfl rfl hg58) (Gives.p hE rfl) rfl ?_; clear hE a; intro a hE
      refine WL.vS hS hE (runs_if hE rfl rfl rfl hg58) (Gives.loadB hE 0 rfl rfl rfl ty3) rfl ?_; clear hE a; intro a hE
      refine WL.vS hS hE (runs_if hE rfl rfl rfl hg58) (Gives.p hE rfl) rfl ?_; clear hE a; intro a hE
      refine WL.vS hS hE (runs_plain rfl) (Gives.pickF hE rfl hg58 rfl) rfl ?_; clear hE a; intro a hE
      refine WL.nil ?_
      subst hK57
      exact ⟨decide (x0 < y0), hq52, hE.pick _ ⟨rfl, rfl, rfl, trivial⟩, hS⟩
  · clear hE hS a w; rintro a w ⟨q56, rfl, hE, hS⟩
    obtain ⟨q60, hq59, hr⟩ := bndS hr
    refine W.cut (fun a w => ∃ (q63 : Int), q63 = q60 ∧ Rep a 11 [] ∧ St w s (pt pb0 (.cells #[.int .i64 q63] 3 (0, 0)) :: R)) ?_ ?_
    · refine W.gen fun K64 hK64 => ?_
      refine W.cond hE rfl (fun hc65 => ?_) (fun hc65 => ?_)
      · replace hq59 := iteT hc65 hq59
        refine W.region ?_
        refine WL.vS hS hE (runs_plain rfl) (Gives.p hE rfl) rfl ?_; clear hE a; intro a hE
        refine WL.storeI hE hS 0 rfl [.int .i64 x0] (runs_plain rfl) rfl rfl rfl ty3 rfl rfl rfl rfl ?_; clear hE hS a w; intro a w hE hS
        refine WL.nil ?_
        subst hK64
        exact ⟨x0, hq59, hE.pick _ trivial, hS⟩
      · replace hq59 := iteF hc65 hq59
        refine W.skip ?_
        subst hK64
        exact ⟨y0, hq59, hE.pick _ trivial, hS⟩
    · clear hE hS a w; rintro a w ⟨q63, rfl, hE, hS⟩
      refine finG (fn := Try.f77) (rs := []) (vs := []) hE rfl trivial ?_
      subst hr
      exact ⟨rfl, hS⟩
set_option maxHeartbeats 8000000 in
theorem Fishref2begins_ok  {w : World} {s : Sg} {R : List HP} {x0 : FleetShift} (hS : St w s (R))  {r : Int} (hr : Fishref2begins x0 = r) :
    Calls Try.prog 78 [.agg (FleetShift.cells x0).toArray].toArray w (fun e w => e = .returned (.int .i64 r) ∧ St w s (R)) := by
  refine enter Try.func78 rfl rfl rfl fun a hE => ?_
  rw [Fishref2begins] at hr
  refine W.seq ?_
  refine W.region ?_
  refine WL.box hE hS (runs_plain rfl) rfl rfl rfl ?_; clear hE hS a w; intro b51 a w hE hS
  refine WL.vS hS hE (runs_plain rfl) (Gives.p hE rfl) rfl ?_; clear hE a; intro a hE
  refine WL.nil ?_
  refine W.seq ?_
  refine W.region ?_
  refine WL.vS hS hE (runs_plain rfl) (Gives.fld hE rfl fl90_0) rfl ?_; clear hE a; intro a hE
  refine WL.vS hS hE (runs_plain rfl) (Gives.loadB hE 0 rfl rfl rfl ty3) rfl ?_; clear hE a; intro a hE
  refine WL.vS hS hE (runs_plain rfl) (Gives.p hE rfl) rfl ?_; clear hE a; intro a hE
  refine WL.vS hS hE (runs_plain rfl) (Gives.fld hE rfl fl90_1) rfl ?_; clear hE a; intro a hE
  refine WL.vS hS hE (runs_plain rfl) (Gives.loadB hE 0 rfl rfl rfl ty3) rfl ?_; clear hE a; intro a hE
  refine WL.vS hS hE (runs_plain rfl) (Gives.p hE rfl) rfl ?_; clear hE a; intro a hE
  refine WL.vS hS hE (runs_plain rfl) (Gives.p hE rfl) rfl ?_; clear hE a; intro a hE
  refine WL.nil ?_
  refine W.ret ?_
  refine finG (fn := Try.f78) (rs := [.tmp 2]) (vs := [_]) hE rfl ⟨rfl, trivial⟩ ?_
  subst hr
  replace hS := hS.tail
  exact ⟨rfl, hS⟩
set_option maxHeartbeats 8000000 in
theorem Fishref2ends_ok  {w : World} {s : Sg} {R : List HP} {x0 : FleetShift} (hS : St w s (R))  {r : Int} (hr : Fishref2ends x0 = r) :
    Calls Try.prog 79 [.agg (FleetShift.cells x0).toArray].toArray w (fun e w => e = .returned (.int .i64 r) ∧ St w s (R)) := by
  refine enter Try.func79 rfl rfl rfl fun a hE => ?_
  rw [Fishref2ends] at hr
  refine W.seq ?_
  refine W.region ?_
  refine WL.box hE hS (runs_plain rfl) rfl rfl rfl ?_; clear hE hS a w; intro b51 a w hE hS
  refine WL.vS hS hE (runs_plain rfl) (Gives.p hE rfl) rfl ?_; clear hE a; intro a hE
  refine WL.nil ?_
  refine W.seq ?_
  refine W.region ?_
  refine WL.vS hS hE (runs_plain rfl) (Gives.fld hE rfl fl90_0) rfl ?_; clear hE a; intro a hE
  refine WL.vS hS hE (runs_plain rfl) (Gives.loadB hE 0 rfl rfl rfl ty3) rfl ?_; clear hE a; intro a hE
  refine WL.vS hS hE (runs_plain rfl) (Gives.p hE rfl) rfl ?_; clear hE a; intro a hE
  refine WL.vS hS hE (runs_plain rfl) (Gives.fld hE rfl fl90_2) rfl ?_; clear hE a; intro a hE
  refine WL.vS hS hE (runs_plain rfl) (Gives.loadB hE 0 rfl rfl rfl ty3) rfl ?_; clear hE a; intro a hE
  refine WL.vS hS hE (runs_plain rfl) (Gives.p hE rfl) rfl ?_; clear hE a; intro a hE
  refine WL.vS hS hE (runs_plain rfl) (Gives.p hE rfl) rfl ?_; clear hE a; intro a hE
  refine WL.nil ?_
  refine W.ret ?_
  refine finG (fn := Try.f79) (rs := [.tmp 2]) (vs := [_]) hE rfl ⟨rfl, trivial⟩ ?_
  subst hr
  replace hS := hS.tail
  exact ⟨rfl, hS⟩
set_option maxHeartbeats 8000000 in
theorem Fishref2later_ok  {w : World} {s : Sg} {R : List HP} {x0 : List FleetShift} {a0 : Option Addr} {c0 : Nat} {x1 : List (List Int)} {a1 : Option Addr} {c1 : Nat} {x2 : FleetLimits} (hS : St w s (R)) (h0 : Sl 3 RFleetShift s a0 c0 x0) (h1 : Sl 1 (RL 1 (RI .i64)) s a1 c1 x1) {r : Int} (hr : Fishref2later x0 x1 x2 = some r) :
    Calls Try.prog 72 [.slice a0 x0.length c0, .slice a1 x1.length c1, .agg (FleetLimits.cells x2).toArray].toArray w (fun e w => e = .returned (.int .i64 r) ∧ St w s (R)) := by
  refine enter Try.func72 rfl rfl rfl fun a hE => ?_
  rw [Fishref2later] at hr
  refine W.seq ?_
  refine W.region ?_
  refine WL.box hE hS (runs_plain rfl) rfl rfl rfl ?_; clear hE hS a w; intro b51 a w hE hS
  refine WL.vS hS hE (runs_plain rfl) (Gives.p hE rfl) rfl ?_; clear hE a; intro a hE
  refine WL.nil ?_
  refine W.seq ?_
  refine W.region ?_
  refine WL.alloc hE hS (runs_plain rfl) zr3 rfl ?_; clear hE hS a w; intro b52 a w hE hS
  refine WL.storeI hE hS 0 rfl [.int .i64 0] (runs_plain rfl) rfl rfl rfl ty3 rfl rfl rfl rfl ?_; clear hE hS a w; intro a w hE hS
  refine WL.nil ?_
  refine W.seq ?_
  refine W.region ?_
  refine WL.vS hS hE (runs_plain rfl) (Gives.mkfn hE (vs := [.pointer (some ⟨b52, 0, none⟩)]) rfl) rfl ?_; clear hE a; intro a hE
  refine WL.vS hS hE (runs_plain rfl) (Gives.p hE rfl) rfl ?_; clear hE a; intro a hE
  refine WL.nil ?_
  refine W.seq ?_
  refine W.seq ?_
  refine W.region ?_
  refine WL.vS hS hE (runs_plain rfl) (Gives.p hE rfl) rfl ?_; clear hE a; intro a hE
  refine WL.vS hS hE (runs_plain rfl) (Gives.len hE rfl sl23) rfl ?_; clear hE a; intro a hE
  refine WL.vS hS hE (runs_plain rfl) (Gives.p hE rfl) rfl ?_; clear hE a; intro a hE
  refine WL.nil ?_
  obtain ⟨q54, hq53, hr⟩ := bindS hr
  refine W.cut (fun a w => ∃ (q64 : Int), q64 = q54 ∧ Rep a 114 [(7, .pointer (some ⟨b52, 0, none⟩))] ∧ St w s (pt b52 (.cells #[.int .i64 q64] 3 (0, 0)) :: pt b51 (.cells (FleetLimits.cells x2).toArray 35 (0, 0)) :: R)) ?_ ?_
  · refine W.block ?_
    refine W.loop (fun m a w => ∃ (rest57 : List (List Int)) (k55 : Nat), ∃ (q64 : Int), rest57.length = m ∧ x1.drop k55 = rest57 ∧ Fishref2later.loop1 x0 x2 rest57 q64 = some q54 ∧ Rep a 114 [(0, .slice a0 x0.length c0), (5, .pointer (some ⟨b51, 0, none⟩)), (7, .pointer (some ⟨b52, 0, none⟩)), (8, .func (.func 77) #[] #[.pointer (some ⟨b52, 0, none⟩)]), (21, .slice a1 x1.length c1), (22, .int .i64 ((x1).length : Int)), (23, .int .i64 ((k55 : Nat) : Int))] ∧ St w s (pt b52 (.cells #[.int .i64 q64] 3 (0, 0)) :: pt b51 (.cells (FleetLimits.cells x2).toArray 35 (0, 0)) :: R)) (m := x1.length) ⟨x1, 0, 0, rfl, rfl, hq53, hE.pick _ ⟨rfl, rfl, rfl, rfl, rfl, rfl, rfl, trivial⟩, hS⟩ ?_
    clear hE hS a w hq53; rintro m61 a w ⟨rest57, k55, q64, rfl, hd58, hq53, hE, hS⟩
    refine W.gen fun K65 hK65 => ?_
    rcases rest57 with _ | ⟨x56, rest57⟩
    · have hlt59 := drop_nil hd58
      refine W.seq ?_
      refine W.region ?_
      refine WL.vS hS hE (runs_plain rfl) (Gives.p hE rfl) rfl ?_; clear hE a; intro a hE
      refine WL.nil ?_
      refine W.seq ?_
      refine W.condF hE rfl (decide_eq_false (by omega)) ?_
      subst hK65
      refine W.exit rfl ?_
      exact ⟨q64, Option.some.inj hq53, hE.pick _ ⟨rfl, trivial⟩, hS⟩
    · obtain ⟨hlt59, hx60, hd58⟩ := drop_cons hd58
      rw [Fishref2later.loop1] at hq53
      refine W.seq ?_
      refine W.region ?_
      refine WL.vS hS hE (runs_plain rfl) (Gives.p hE rfl) rfl ?_; clear hE a; intro a hE
      refine WL.nil ?_
      refine W.seq ?_
      refine W.condT hE rfl (decide_eq_true (by omega)) ?_
      refine W.skip ?_
      refine W.seq ?_
      refine W.block ?_
      refine W.seq ?_
      refine W.region ?_
      obtain ⟨cs66, hl67, hR68, hat69⟩ := h1.at hx60
      obtain ⟨a70, c71, rfl, h72⟩ := hR68
      refine WL.vS hS hE (runs_plain rfl) (Gives.idx hE k55 rfl rfl sl23 rfl hlt59 (h1.aok hlt59)) rfl ?_; clear hE a; intro a hE
      refine WL.vS hS hE (runs_plain rfl) (Gives.load1 hE rfl (fun w h => hat69 w _ h) ty22) rfl ?_; clear hE a; intro a hE
      refine WL.vS hS hE (runs_plain rfl) (Gives.p hE rfl) rfl ?_; clear hE a; intro a hE
      refine WL.nil ?_
      refine W.seq ?_
      refine W.region ?_
      obtain ⟨x73, hx74, hq53⟩ := bindS hq53
      refine WL.mkD (Rr := RB) hE hS (runs_plain rfl) rfl rfl ap104 zr4 rfl hx74 rfl ?_; clear hE hS a w; intro b75 cs76 a w h77 hE hS
      refine WL.vS hS hE (runs_plain rfl) (Gives.p hE rfl) rfl ?_; clear hE a; intro a hE
      refine WL.nil ?_
      refine W.seq ?_
      refine W.seq ?_
      refine W.region ?_
      refine WL.vS hS hE (runs_plain rfl) (Gives.p hE rfl) rfl ?_; clear hE a; intro a hE
      refine WL.vS hS hE (runs_plain rfl) (Gives.len hE rfl sl22) rfl ?_; clear hE a; intro a hE
      refine WL.vS hS hE (runs_plain rfl) (Gives.p hE rfl) rfl ?_; clear hE a; intro a hE
      refine WL.nil ?_
      obtain ⟨q80, hq79, hq53⟩ := bindS hq53
      refine W.cut (fun a w => ∃ (q90 : List Bool), ∃ (q96 : Int), ∃ (cs94 : List Value), (q90, q96) = q80 ∧ Ev 1 RB s cs94 q90 ∧ q90.length = x73.length ∧ Rep a 114 [(0, .slice a0 x0.length c0), (5, .pointer (some ⟨b51, 0, none⟩)), (7, .pointer (some ⟨b52, 0, none⟩)), (8, .func (.func 77) #[] #[.pointer (some ⟨b52, 0, none⟩)]), (11, .slice (some ⟨b75, 0, none⟩) x73.length x73.length), (21, .slice a1 x1.length c1), (22, .int .i64 ((x1).length : Int)), (23, .int .i64 ((k55 : Nat) : Int))] ∧ St w s (vecC 4 1 (some ⟨b75, 0, none⟩) x73.length x73.length cs94 :: pt b52 (.cells #[.int .i64 q96] 3 (0, 0)) :: pt b51 (.cells (FleetLimits.cells x2).toArray 35 (0, 0)) :: R)) ?_ ?_
      · refine W.block ?_
        refine W.loop (fun m a w => ∃ (rest83 : List Int) (k81 : Nat), ∃ (q90 : List Bool), ∃ (q96 : Int), ∃ (cs94 : List Value), rest83.length = m ∧ x56.drop k81 = rest83 ∧ Fishref2later.loop2 x0 x2 x56 rest83 k81 q90 q96 = some q80 ∧ Ev 1 RB s cs94 q90 ∧ q90.length = x73.length ∧ Rep a 114 [(0, .slice a0 x0.length c0), (5, .pointer (some ⟨b51, 0, none⟩)), (7, .pointer (some ⟨b52, 0, none⟩)), (8, .func (.func 77) #[] #[.pointer (some ⟨b52, 0, none⟩)]), (10, .slice a70 x56.length c71), (11, .slice (some ⟨b75, 0, none⟩) x73.length x73.length), (21, .slice a1 x1.length c1), (22, .int .i64 ((x1).length : Int)), (23, .int .i64 ((k55 : Nat) : Int)), (28, .slice a70 x56.length c71), (29, .int .i64 ((x56).length : Int)), (30, .int .i64 ((k81 : Nat) : Int))] ∧ St w s (vecC 4 1 (some ⟨b75, 0, none⟩) x73.length x73.length cs94 :: pt b52 (.cells #[.int .i64 q96] 3 (0, 0)) :: pt b51 (.cells (FleetLimits.cells x2).toArray 35 (0, 0)) :: R)) (m := x56.length) ⟨x56, 0, x73, q64, cs76, rfl, rfl, hq79, h77, (rfl), hE.pick _ ⟨rfl, rfl, rfl, rfl, rfl, rfl, rfl, rfl, rfl, rfl, rfl, rfl, trivial⟩, hS⟩ ?_
        clear hE hS a w hq79; rintro m87 a w ⟨rest83, k81, q90, q96, cs94, rfl, hd84, hq79, h93, hn95, hE, hS⟩
        refine W.gen fun K97 hK97 => ?_
        rcases rest83 with _ | ⟨x82, rest83⟩
        · have hlt85 := drop_nil hd84
          refine W.seq ?_
          refine W.region ?_
          refine WL.vS hS hE (runs_plain rfl) (Gives.p hE rfl) rfl ?_; clear hE a; intro a hE
          refine WL.nil ?_
          refine W.seq ?_
          refine W.condF hE rfl (decide_eq_false (by omega)) ?_
          subst hK97
          refine W.exit rfl ?_
          exact ⟨q90, q96, cs94, Option.some.inj hq79, h93, hn95, hE.pick _ ⟨rfl, rfl, rfl, rfl, rfl, rfl, rfl, rfl, trivial⟩, hS⟩
        · obtain ⟨hlt85, hx86, hd84⟩ := drop_cons hd84
          rw [Fishref2later.loop2] at hq79
          refine W.seq ?_
          refine W.region ?_
          refine WL.vS hS hE (runs_plain rfl) (Gives.p hE rfl) rfl ?_; clear hE a; intro a hE
          refine WL.nil ?_
          refine W.seq ?_
          refine W.condT hE rfl (decide_eq_true (by omega)) ?_
          refine W.skip ?_
          refine W.seq ?_
          refine W.block ?_
          refine W.seq ?_
          refine W.region ?_
          refine WL.vS hS hE (runs_plain rfl) (Gives.p hE rfl) rfl ?_; clear hE a; intro a hE
          obtain ⟨cs98, hl99, hR100, hat101⟩ := h72.at hx86
          subst hR100
          refine WL.vS hS hE (runs_plain rfl) (Gives.idx hE k81 rfl rfl sl22 rfl hlt85 (h72.aok hlt85)) rfl ?_; clear hE a; intro a hE
          refine WL.vS hS hE (runs_plain rfl) (Gives.load1 hE rfl (fun w h => hat101 w _ h) ty3) rfl ?_; clear hE a; intro a hE
          refine WL.vS hS hE (runs_plain rfl) (Gives.p hE rfl) rfl ?_; clear hE a; intro a hE
          refine WL.vS hS hE (runs_plain rfl) (Gives.p hE rfl) rfl ?_; clear hE a; intro a hE
          refine WL.nil ?_
          refine W.seq ?_
          refine W.region ?_
          refine WL.vS hS hE (runs_plain rfl) (Gives.p hE rfl) rfl ?_; clear hE a; intro a hE
          refine WL.vS hS hE (runs_plain rfl) (Gives.p hE rfl) rfl ?_; clear hE a; intro a hE
          refine WL.vS hS hE (runs_plain rfl) (Gives.p hE rfl) rfl ?_; clear hE a; intro a hE
          obtain ⟨x102, hx103, hq79⟩ := bindS hq79
          obtain ⟨hi104, hlt105, hy106⟩ := gx_some hx103
          obtain ⟨cs107, hl108, hR109, hat110⟩ := h0.at hy106
          subst hR109
          refine WL.vS hS hE (runs_plain rfl) (Gives.idx hE (x82).toNat rfl rfl sl50 hi104 hlt105 (h0.aok hlt105)) rfl ?_; clear hE a; intro a hE
          refine WL.vS hS hE (runs_plain rfl) (Gives.fld hE rfl fl90_0) rfl ?_; clear hE a; intro a hE
          refine WL.vS hS hE (runs_plain rfl) (Gives.load1 hE rfl (fun w h => (hat110 w _ h).one rfl) ty3) rfl ?_; clear hE a; intro a hE
          obtain ⟨_, hx112, hq79⟩ := bindS hq79
          obtain ⟨h113, h114⟩ := ix_some hx112
          refine WL.vS hS hE (runs_plain rfl) (Gives.idx hE ((x102.Day).toNat) rfl rfl sl104 h113 (by have := hn95; omega) (hS.vecAok 0 rfl (by have := hn95; omega : (x102.Day).toNat < x73.length))) rfl ?_; clear hE a; intro a hE
          obtain ⟨x116, hx117, hq79⟩ := bindS hq79
          refine WL.setD hE hS 0 rfl (runs_plain rfl) rfl rfl (vs := [.bool true]) rfl ty4 rfl rfl rfl h93 hn95 (sx_some hx117).1 hx117 rfl rfl ?_; clear hE hS a w; intro cs118 a w h119 hn120 hE hS
          refine WL.nil ?_
          refine W.seq ?_
          refine W.region ?_
          refine WL.vS hS hE (runs_plain rfl) (Gives.p hE rfl) rfl ?_; clear hE a; intro a hE
          refine WL.vS hS hE (runs_plain rfl) (Gives.p hE rfl) rfl ?_; clear hE a; intro a hE
          refine WL.vS hS hE (runs_plain rfl) (Gives.inc hE rfl (by have := h72.small; omega)) rfl ?_; clear hE a; intro a hE
          obtain ⟨x121, hx122, hq79⟩ := bindS hq79
          obtain ⟨a123, c124, heq125, h126⟩ := h72.cut hx122
          obtain ⟨h127, h128, h129, _⟩ := cutl_some hx122
          refine WL.vS hS hE (runs_plain rfl) (Gives.slL hE sl22 rfl rfl h127 (by omega) (by simpa using heq125)) rfl ?_; clear hE a; intro a hE
          refine WL.vS hS hE (runs_plain rfl) (Gives.len hE rfl sl22) rfl ?_; clear hE a; intro a hE
          refine WL.vS hS hE (runs_plain rfl) (Gives.p hE rfl) rfl ?_; clear hE a; intro a hE
          refine WL.nil ?_
          obtain ⟨q131, hq130, hq79⟩ := bindS hq79
          refine W.cut (fun a w => ∃ (q141 : Int), q141 = q131 ∧ Rep a 114 [(0, .slice a0 x0.length c0), (5, .pointer (some ⟨b51, 0, none⟩)), (7, .pointer (some ⟨b52, 0, none⟩)), (8, .func (.func 77) #[] #[.pointer (some ⟨b52, 0, none⟩)]), (10, .slice a70 x56.length c71), (11, .slice (some ⟨b75, 0, none⟩) x73.length x73.length), (21, .slice a1 x1.length c1), (22, .int .i64 ((x1).length : Int)), (23, .int .i64 ((k55 : Nat) : Int)), (28, .slice a70 x56.length c71), (29, .int .i64 ((x56).length : Int)), (30, .int .i64 ((k81 : Nat) : Int))] ∧ St w s (vecC 4 1 (some ⟨b75, 0, none⟩) x73.length x73.length cs118 :: pt b52 (.cells #[.int .i64 q141] 3 (0, 0)) :: pt b51 (.cells (FleetLimits.cells x2).toArray 35 (0, 0)) :: R)) ?_ ?_
          · refine W.block ?_
            refine W.loop (fun m a w => ∃ (rest134 : List Int) (k132 : Nat), ∃ (q141 : Int), rest134.length = m ∧ x121.drop k132 = rest134 ∧ Fishref2later.loop3 x0 x2 x82 rest134 q141 = some q131 ∧ Rep a 114 [(0, .slice a0 x0.length c0), (5, .pointer (some ⟨b51, 0, none⟩)), (7, .pointer (some ⟨b52, 0, none⟩)), (8, .func (.func 77) #[] #[.pointer (some ⟨b52, 0, none⟩)]), (10, .slice a70 x56.length c71), (11, .slice (some ⟨b75, 0, none⟩) x73.length x73.length), (13, .int .i64 x82), (21, .slice a1 x1.length c1), (22, .int .i64 ((x1).length : Int)), (23, .int .i64 ((k55 : Nat) : Int)), (28, .slice a70 x56.length c71), (29, .int .i64 ((x56).length : Int)), (30, .int .i64 ((k81 : Nat) : Int)), (45, .slice a123 x121.length c124), (46, .int .i64 ((x121).length : Int)), (47, .int .i64 ((k132 : Nat) : Int))] ∧ St w s (vecC 4 1 (some ⟨b75, 0, none⟩) x73.length x73.length cs118 :: pt b52 (.cells #[.int .i64 q141] 3 (0, 0)) :: pt b51 (.cells (FleetLimits.cells x2).toArray 35 (0, 0)) :: R)) (m := x121.length) ⟨x121, 0, q96, rfl, rfl, hq130, hE.pick _ ⟨rfl, rfl, rfl, rfl, rfl, rfl, rfl, rfl, rfl, rfl, rfl, rfl, rfl, rfl, rfl, rfl, trivial⟩, hS⟩ ?_
            clear hE hS a w hq130; rintro m138 a w ⟨rest134, k132, q141, rfl, hd135, hq130, hE, hS⟩
            refine W.gen fun K142 hK142 => ?_
            rcases rest134 with _ | ⟨x133, rest134⟩
            · have hlt136 := drop_nil hd135
              refine W.seq ?_
              refine W.region ?_
              refine WL.vS hS hE (runs_plain rfl) (Gives.p hE rfl) rfl ?_; clear hE a; intro a hE
              refine WL.nil ?_
              refine W.seq ?_
              refine W.condF hE rfl (decide_eq_false (by omega)) ?_
              subst hK142
              refine W.exit rfl ?_
              exact ⟨q141, Option.some.inj hq130, hE.pick _ ⟨rfl, rfl, rfl, rfl, rfl, rfl, rfl, rfl, rfl, rfl, rfl, rfl, trivial⟩, hS⟩
            · obtain ⟨hlt136, hx137, hd135⟩ := drop_cons hd135
              rw [Fishref2later.loop3] at hq130
              refine W.seq ?_
              refine W.region ?_
              refine WL.vS hS hE (runs_plain rfl) (Gives.p hE rfl) rfl ?_; clear hE a; intro a hE
              refine WL.nil ?_
              refine W.seq ?_
              refine W.condT hE rfl (decide_eq_true (by omega)) ?_
              refine W.skip ?_
              refine W.seq ?_
              refine W.block ?_
              refine W.seq ?_
              refine W.region ?_
              obtain ⟨cs143, hl144, hR145, hat146⟩ := h126.at hx137
              subst hR145
              refine WL.vS hS hE (runs_plain rfl) (Gives.idx hE k132 rfl rfl sl22 rfl hlt136 (h126.aok hlt136)) rfl ?_; clear hE a; intro a hE
              refine WL.vS hS hE (runs_plain rfl) (Gives.load1 hE rfl (fun w h => hat146 w _ h) ty3) rfl ?_; clear hE a; intro a hE
              refine WL.vS hS hE (runs_plain rfl) (Gives.p hE rfl) rfl ?_; clear hE a; intro a hE
              refine WL.nil ?_
              refine W.seq ?_
              refine W.seq ?_
              refine W.regionQ (C := fun w => St w s (vecC 4 1 (some ⟨b75, 0, none⟩) x73.length x73.length cs118 :: pt b52 (.cells #[.int .i64 q141] 3 (0, 0)) :: pt b51 (.cells (FleetLimits.cells x2).toArray 35 (0, 0)) :: R)) mixed (by kernel_rfl) hS.drew ?_
              refine QL.v hE (runs_plain rfl) (Gives.p hE rfl) rfl ?_; clear hE a; intro a hE
              refine QL.v hE (runs_plain rfl) (Gives.p hE rfl) rfl ?_; clear hE a; intro a hE
              obtain ⟨x147, hx148, hq130⟩ := bindS hq130
              obtain ⟨hi149, hlt150, hy151⟩ := gx_some hx148
              obtain ⟨cs152, hl153, hR154, hat155⟩ := h0.at hy151
              subst hR154
              refine QL.v hE (runs_plain rfl) (Gives.idx hE (x82).toNat rfl rfl sl50 hi149 hlt150 (h0.aok hlt150)) rfl ?_; clear hE a; intro a hE
              refine QL.v hE (runs_plain rfl) (Gives.fld hE rfl fl90_0) rfl ?_; clear hE a; intro a hE
              refine QL.v hE (runs_plain rfl) (Gives.load1 hE rfl (fun w h => (hat155 w _ h).one rfl) ty3) rfl ?_; clear hE a; intro a hE
              refine QL.v hE (runs_plain rfl) (Gives.p hE rfl) rfl ?_; clear hE a; intro a hE
              refine QL.v hE (runs_plain rfl) (Gives.p hE rfl) rfl ?_; clear hE a; intro a hE
              obtain ⟨x156, hx157, hq130⟩ := bindS hq130
              obtain ⟨hi158, hlt159, hy160⟩ := gx_some hx157
              obtain ⟨cs161, hl162, hR163, hat164⟩ := h0.at hy160
              subst hR163
              refine QL.v hE (runs_plain rfl) (Gives.idx hE (x133).toNat rfl rfl sl50 hi158 hlt159 (h0.aok hlt159)) rfl ?_; clear hE a; intro a hE
              refine QL.v hE (runs_plain rfl) (Gives.fld hE rfl fl90_0) rfl ?_; clear hE a; intro a hE
              refine QL.v hE (runs_plain rfl) (Gives.load1 hE rfl (fun w h => (hat164 w _ h).one rfl) ty3) rfl ?_; clear hE a; intro a hE
              refine QL.v hE (runs_plain rfl) (Gives.p hE rfl) rfl ?_; clear hE a; intro a hE
              refine QL.nil ?_; clear hS w; intro w hS
              refine W.cond hE rfl (fun hc165 => ?_) (fun hc165 => ?_)
              · replace hq130 := iteT hc165 hq130
                refine W.region ?_
                refine WL.vS hS hE (runs_plain rfl) (Gives.p hE rfl) rfl ?_; clear hE a; intro a hE
                obtain ⟨q166, hq167, hq130⟩ := bndS hq130
                replace hS := hS.front 1 rfl
                refine WL.fnv hE (vs := [.int .i64 2]) (cs := [.pointer (some ⟨b52, 0, none⟩)]) rfl (Fishref2later_1_v1_ok hS  hq167) (runs_plain rfl) bd77 rfl rfl ?_
                clear hE hS; rintro e w ⟨rfl, hS⟩; refine ⟨_, rfl, ?_⟩; clear a; intro a hE
                refine WL.nil ?_
                refine W.seq ?_
                refine W.regionQ (C := fun w => St w s (pt b52 (.cells #[.int .i64 q166] 3 (0, 0)) :: vecC 4 1 (some ⟨b75, 0, none⟩) x73.length x73.length cs118 :: pt b51 (.cells (FleetLimits.cells x2).toArray 35 (0, 0)) :: R)) mixed (by kernel_rfl) hS.drew ?_
                refine QL.v hE (runs_plain rfl) (Gives.p hE rfl) rfl ?_; clear hE a; intro a hE
                refine QL.v hE (runs_plain rfl) (Gives.p hE rfl) rfl ?_; clear hE a; intro a hE
                obtain ⟨x168, hx169, hq130⟩ := bindS hq130
                obtain ⟨hi170, hlt171, hy172⟩ := gx_some hx169
                obtain ⟨cs173, hl174, hR175, hat176⟩ := h0.at hy172
                subst hR175
                refine QL.v hE (runs_plain rfl) (Gives.idx hE (x133).toNat rfl rfl sl50 hi170 hlt171 (h0.aok hlt171)) rfl ?_; clear hE a; intro a hE
                refine QL.v hE (runs_plain rfl) (Gives.loadA hE rfl (fun w h => hat176 w _ h) ty90) rfl ?_; clear hE a; intro a hE
                refine QL.fn hE (fun w hS => Fishref2begins_ok hS  rfl) (runs_plain rfl) bd78 rfl rfl ?_; clear hE a; intro a hE
                refine QL.v hE (runs_plain rfl) (Gives.p hE rfl) rfl ?_; clear hE a; intro a hE
                refine QL.v hE (runs_plain rfl) (Gives.p hE rfl) rfl ?_; clear hE a; intro a hE
                obtain ⟨x177, hx178, hq130⟩ := bindS hq130
                obtain ⟨hi179, hlt180, hy181⟩ := gx_some hx178
                obtain ⟨cs182, hl183, hR184, hat185⟩ := h0.at hy181
                subst hR184
                refine QL.v hE (runs_plain rfl) (Gives.idx hE (x82).toNat rfl rfl sl50 hi179 hlt180 (h0.aok hlt180)) rfl ?_; clear hE a; intro a hE
                refine QL.v hE (runs_plain rfl) (Gives.loadA hE rfl (fun w h => hat185 w _ h) ty90) rfl ?_; clear hE a; intro a hE
                refine QL.fn hE (fun w hS => Fishref2ends_ok hS  rfl) (runs_plain rfl) bd79 rfl rfl ?_; clear hE a; intro a hE
                refine QL.v hE (runs_plain rfl) (Gives.p hE rfl) rfl ?_; clear hE a; intro a hE
                refine QL.v hE (runs_plain rfl) (Gives.p hE rfl) rfl ?_; clear hE a; intro a hE
                refine QL.v hE (runs_plain rfl) (Gives.p hE rfl) rfl ?_; clear hE a; intro a hE
                obtain ⟨x186, hx187, hq130⟩ := bindS hq130
                obtain ⟨hi188, hlt189, hy190⟩ := gx_some hx187
                obtain ⟨cs191, hl192, hR193, hat194⟩ := h0.at hy190
                subst hR193
                refine QL.v hE (runs_plain rfl) (Gives.idx hE (x82).toNat rfl rfl sl50 hi188 hlt189 (h0.aok hlt189)) rfl ?_; clear hE a; intro a hE
                refine QL.v hE (runs_plain rfl) (Gives.loadA hE rfl (fun w h => hat194 w _ h) ty90) rfl ?_; clear hE a; intro a hE
                refine QL.fn hE (fun w hS => Fishref2begins_ok hS  rfl) (runs_plain rfl) bd78 rfl rfl ?_; clear hE a; intro a hE
                refine QL.v hE (runs_plain rfl) (Gives.p hE rfl) rfl ?_; clear hE a; intro a hE
                refine QL.v hE (runs_plain rfl) (Gives.p hE rfl) rfl ?_; clear hE a; intro a hE
                obtain ⟨x195, hx196, hq130⟩ := bindS hq130
                obtain ⟨hi197, hlt198, hy199⟩ := gx_some hx196
                obtain ⟨cs200, hl201, hR202, hat203⟩ := h0.at hy199
                subst hR202
                refine QL.v hE (runs_plain rfl) (Gives.idx hE (x133).toNat rfl rfl sl50 hi197 hlt198 (h0.aok hlt198)) rfl ?_; clear hE a; intro a hE
                refine QL.v hE (runs_plain rfl) (Gives.loadA hE rfl (fun w h => hat203 w _ h) ty90) rfl ?_; clear hE a; intro a hE
                refine QL.fn hE (fun w hS => Fishref2ends_ok hS  rfl) (runs_plain rfl) bd79 rfl rfl ?_; clear hE a; intro a hE
                refine QL.v hE (runs_plain rfl) (Gives.p hE rfl) rfl ?_; clear hE a; intro a hE
                refine QL.v hE (runs_plain rfl) (Gives.max2 hE rfl rfl) rfl ?_; clear hE a; intro a hE
                refine QL.v hE (runs_plain rfl) (Gives.p hE rfl) rfl ?_; clear hE a; intro a hE
                refine QL.nil ?_; clear hS w; intro w hS
                refine W.seq ?_
                refine W.region ?_
                refine WL.vS hS hE (runs_plain rfl) (Gives.p hE rfl) rfl ?_; clear hE a; intro a hE
                refine WL.vS hS hE (runs_plain rfl) (Gives.fld hE rfl fl35_5) rfl ?_; clear hE a; intro a hE
                refine WL.vS hS hE (runs_plain rfl) (Gives.loadB hE 2 rfl rfl rfl ty3) rfl ?_; clear hE a; intro a hE
                refine WL.vS hS hE (runs_plain rfl) (Gives.p hE rfl) rfl ?_; clear hE a; intro a hE
                refine WL.nil ?_
                refine W.cond hE rfl (fun hc204 => ?_) (fun hc204 => ?_)
                · replace hq130 := iteT hc204 hq130
                  refine W.region ?_
                  refine WL.vS hS hE (runs_plain rfl) (Gives.p hE rfl) rfl ?_; clear hE a; intro a hE
                  obtain ⟨q205, hq206, hq130⟩ := bndS hq130
                  refine WL.fnv hE (vs := [.int .i64 3]) (cs := [.pointer (some ⟨b52, 0, none⟩)]) rfl (Fishref2later_1_v1_ok hS  hq206) (runs_plain rfl) bd77 rfl rfl ?_
                  clear hE hS; rintro e w ⟨rfl, hS⟩; refine ⟨_, rfl, ?_⟩; clear a; intro a hE
                  refine WL.nil ?_
                  refine W.region ?_
                  refine WL.vS hS hE (runs_plain rfl) (Gives.inc hE rfl (by have := h126.small; omega)) rfl ?_; clear hE a; intro a hE
                  refine WL.vS hS hE (runs_plain rfl) (Gives.p hE rfl) rfl ?_; clear hE a; intro a hE
                  refine WL.nil ?_
                  replace hS := hS.front 2 rfl
                  replace hS := hS.front 1 rfl
                  replace hS := hS.front 2 rfl
                  subst hK142
                  exact ⟨rest134.length, Nat.lt_succ_self _, rest134, k132 + 1, q205, rfl, hd135, hq130, hE.pick _ ⟨rfl, rfl, rfl, rfl, rfl, rfl, rfl, rfl, rfl, rfl, rfl, rfl, rfl, rfl, rfl, rfl, trivial⟩, hS⟩
                · replace hq130 := iteF hc204 hq130
                  refine W.skip ?_
                  refine W.region ?_
                  refine WL.vS hS hE (runs_plain rfl) (Gives.inc hE rfl (by have := h126.small; omega)) rfl ?_; clear hE a; intro a hE
                  refine WL.vS hS hE (runs_plain rfl) (Gives.p hE rfl) rfl ?_; clear hE a; intro a hE
                  refine WL.nil ?_
                  replace hS := hS.front 2 rfl
                  replace hS := hS.front 1 rfl
                  replace hS := hS.front 2 rfl
                  subst hK142
                  exact ⟨rest134.length, Nat.lt_succ_self _, rest134, k132 + 1, q166, rfl, hd135, hq130, hE.pick _ ⟨rfl, rfl, rfl, rfl, rfl, rfl, rfl, rfl, rfl, rfl, rfl, rfl, rfl, rfl, rfl, rfl, trivial⟩, hS⟩
              · replace hq130 := iteF hc165 hq130
                refine W.skip ?_
                refine W.seq ?_
                refine W.regionQ (C := fun w => St w s (vecC 4 1 (some ⟨b75, 0, none⟩) x73.length x73.length cs118 :: pt b52 (.cells #[.int .i64 q141] 3 (0, 0)) :: pt b51 (.cells (FleetLimits.cells x2).toArray 35 (0, 0)) :: R)) mixed (by kernel_rfl) hS.drew ?_
                refine QL.v hE (runs_plain rfl) (Gives.p hE rfl) rfl ?_; clear hE a; intro a hE
                refine QL.v hE (runs_plain rfl) (Gives.p hE rfl) rfl ?_; clear hE a; intro a hE
                obtain ⟨x207, hx208, hq130⟩ := bindS hq130
                obtain ⟨hi209, hlt210, hy211⟩ := gx_some hx208
                obtain ⟨cs212, hl213, hR214, hat215⟩ := h0.at hy211
                subst hR214
                refine QL.v hE (runs_plain rfl) (Gives.idx hE (x133).toNat rfl rfl sl50 hi209 hlt210 (h0.aok hlt210)) rfl ?_; clear hE a; intro a hE
                refine QL.v hE (runs_plain rfl) (Gives.loadA hE rfl (fun w h => hat215 w _ h) ty90) rfl ?_; clear hE a; intro a hE
                refine QL.fn hE (fun w hS => Fishref2begins_ok hS  rfl) (runs_plain rfl) bd78 rfl rfl ?_; clear hE a; intro a hE
                refine QL.v hE (runs_plain rfl) (Gives.p hE rfl) rfl ?_; clear hE a; intro a hE
                refine QL.v hE (runs_plain rfl) (Gives.p hE rfl) rfl ?_; clear hE a; intro a hE
                obtain ⟨x216, hx217, hq130⟩ := bindS hq130
                obtain ⟨hi218, hlt219, hy220⟩ := gx_some hx217
                obtain ⟨cs221, hl222, hR223, hat224⟩ := h0.at hy220
                subst hR223
                refine QL.v hE (runs_plain rfl) (Gives.idx hE (x82).toNat rfl rfl sl50 hi218 hlt219 (h0.aok hlt219)) rfl ?_; clear hE a; intro a hE
                refine QL.v hE (runs_plain rfl) (Gives.loadA hE rfl (fun w h => hat224 w _ h) ty90) rfl ?_; clear hE a; intro a hE
                refine QL.fn hE (fun w hS => Fishref2ends_ok hS  rfl) (runs_plain rfl) bd79 rfl rfl ?_; clear hE a; intro a hE
                refine QL.v hE (runs_plain rfl) (Gives.p hE rfl) rfl ?_; clear hE a; intro a hE
                refine QL.v hE (runs_plain rfl) (Gives.p hE rfl) rfl ?_; clear hE a; intro a hE
                refine QL.v hE (runs_plain rfl) (Gives.p hE rfl) rfl ?_; clear hE a; intro a hE
                obtain ⟨x225, hx226, hq130⟩ := bindS hq130
                obtain ⟨hi227, hlt228, hy229⟩ := gx_some hx226
                obtain ⟨cs230, hl231, hR232, hat233⟩ := h0.at hy229
                subst hR232
                refine QL.v hE (runs_plain rfl) (Gives.idx hE (x82).toNat rfl rfl sl50 hi227 hlt228 (h0.aok hlt228)) rfl ?_; clear hE a; intro a hE
                refine QL.v hE (runs_plain rfl) (Gives.loadA hE rfl (fun w h => hat233 w _ h) ty90) rfl ?_; clear hE a; intro a hE
                refine QL.fn hE (fun w hS => Fishref2begins_ok hS  rfl) (runs_plain rfl) bd78 rfl rfl ?_; clear hE a; intro a hE
                refine QL.v hE (runs_plain rfl) (Gives.p hE rfl) rfl ?_; clear hE a; intro a hE
                refine QL.v hE (runs_plain rfl) (Gives.p hE rfl) rfl ?_; clear hE a; intro a hE
                obtain ⟨x234, hx235, hq130⟩ := bindS hq130
                obtain ⟨hi236, hlt237, hy238⟩ := gx_some hx235
                obtain ⟨cs239, hl240, hR241, hat242⟩ := h0.at hy238
                subst hR241
                refine QL.v hE (runs_plain rfl) (Gives.idx hE (x133).toNat rfl rfl sl50 hi236 hlt237 (h0.aok hlt237)) rfl ?_; clear hE a; intro a hE
                refine QL.v hE (runs_plain rfl) (Gives.loadA hE rfl (fun w h => hat242 w _ h) ty90) rfl ?_; clear hE a; intro a hE
                refine QL.fn hE (fun w hS => Fishref2ends_ok hS  rfl) (runs_plain rfl) bd79 rfl rfl ?_; clear hE a; intro a hE
                refine QL.v hE (runs_plain rfl) (Gives.p hE rfl) rfl ?_; clear hE a; intro a hE
                refine QL.v hE (runs_plain rfl) (Gives.max2 hE rfl rfl) rfl ?_; clear hE a; intro a hE
                refine QL.v hE (runs_plain rfl) (Gives.p hE rfl) rfl ?_; clear hE a; intro a hE
                refine QL.nil ?_; clear hS w; intro w hS
                refine W.seq ?_
                refine W.region ?_
                refine WL.vS hS hE (runs_plain rfl) (Gives.p hE rfl) rfl ?_; clear hE a; intro a hE
                refine WL.vS hS hE (runs_plain rfl) (Gives.fld hE rfl fl35_5) rfl ?_; clear hE a; intro a hE
                refine WL.vS hS hE (runs_plain rfl) (Gives.loadB hE 2 rfl rfl rfl ty3) rfl ?_; clear hE a; intro a hE
                refine WL.vS hS hE (runs_plain rfl) (Gives.p hE rfl) rfl ?_; clear hE a; intro a hE
                refine WL.nil ?_
                refine W.cond hE rfl (fun hc243 => ?_) (fun hc243 => ?_)
                · replace hq130 := iteT hc243 hq130
                  refine W.region ?_
                  refine WL.vS hS hE (runs_plain rfl) (Gives.p hE rfl) rfl ?_; clear hE a; intro a hE
                  obtain ⟨q244, hq245, hq130⟩ := bndS hq130
                  replace hS := hS.front 1 rfl
                  refine WL.fnv hE (vs := [.int .i64 3]) (cs := [.pointer (some ⟨b52, 0, none⟩)]) rfl (Fishref2later_1_v1_ok hS  hq245) (runs_plain rfl) bd77 rfl rfl ?_
                  clear hE hS; rintro e w ⟨rfl, hS⟩; refine ⟨_, rfl, ?_⟩; clear a; intro a hE
                  refine WL.nil ?_
                  refine W.region ?_
                  refine WL.vS hS hE (runs_plain rfl) (Gives.inc hE rfl (by have := h126.small; omega)) rfl ?_; clear hE a; intro a hE
                  refine WL.vS hS hE (runs_plain rfl) (Gives.p hE rfl) rfl ?_; clear hE a; intro a hE
                  refine WL.nil ?_
                  replace hS := hS.front 2 rfl
                  replace hS := hS.front 1 rfl
                  replace hS := hS.front 2 rfl
                  subst hK142
                  exact ⟨rest134.length, Nat.lt_succ_self _, rest134, k132 + 1, q244, rfl, hd135, hq130, hE.pick _ ⟨rfl, rfl, rfl, rfl, rfl, rfl, rfl, rfl, rfl, rfl, rfl, rfl, rfl, rfl, rfl, rfl, trivial⟩, hS⟩
                · replace hq130 := iteF hc243 hq130
                  refine W.skip ?_
                  refine W.region ?_
                  refine WL.vS hS hE (runs_plain rfl) (Gives.inc hE rfl (by have := h126.small; omega)) rfl ?_; clear hE a; intro a hE
                  refine WL.vS hS hE (runs_plain rfl) (Gives.p hE rfl) rfl ?_; clear hE a; intro a hE
                  refine WL.nil ?_
                  subst hK142
                  exact ⟨rest134.length, Nat.lt_succ_self _, rest134, k132 + 1, q141, rfl, hd135, hq130, hE.pick _ ⟨rfl, rfl, rfl, rfl, rfl, rfl, rfl, rfl, rfl, rfl, rfl, rfl, rfl, rfl, rfl, rfl, trivial⟩, hS⟩
          · clear hE hS a w; rintro a w ⟨q141, rfl, hE, hS⟩
            refine W.region ?_
            refine WL.vS hS hE (runs_plain rfl) (Gives.inc hE rfl (by have := h72.small; omega)) rfl ?_; clear hE a; intro a hE
            refine WL.vS hS hE (runs_plain rfl) (Gives.p hE rfl) rfl ?_; clear hE a; intro a hE
            refine WL.nil ?_
            subst hK97
            exact ⟨rest83.length, Nat.lt_succ_self _, rest83, k81 + 1, x116, q141, cs118, rfl, hd84, hq79, h119, hn120, hE.pick _ ⟨rfl, rfl, rfl, rfl, rfl, rfl, rfl, rfl, rfl, rfl, rfl, rfl, trivial⟩, hS⟩
      · clear hE hS a w; rintro a w ⟨q90, q96, cs94, rfl, h93, hn95, hE, hS⟩
        dsimp only at hq53
        refine W.seq ?_
        refine W.region ?_
        refine WL.vS hS hE (runs_plain rfl) (Gives.p hE rfl) rfl ?_; clear hE a; intro a hE
        refine WL.nil ?_
        refine W.seq ?_
        refine W.region ?_
        refine WL.vS hS hE (runs_plain rfl) (Gives.p hE rfl) rfl ?_; clear hE a; intro a hE
        refine WL.vS hS hE (runs_plain rfl) (Gives.len hE rfl sl104) rfl ?_; clear hE a; intro a hE
        refine WL.vS hS hE (runs_plain rfl) (Gives.p hE rfl) rfl ?_; clear hE a; intro a hE
        refine WL.nil ?_
        have hb257 : x73.length ≤ 9223372036854775807 := by have := hS.vecCap 0 rfl; unfold maxLen at this; omega
        obtain ⟨q247, hq246, hq53⟩ := bindS hq53
        refine W.cut (fun a w => ∃ (q258 : Int), ∃ (q259 : Int), (q258, q259) = q247 ∧ Rep a 114 [(0, .slice a0 x0.length c0), (5, .pointer (some ⟨b51, 0, none⟩)), (7, .pointer (some ⟨b52, 0, none⟩)), (8, .func (.func 77) #[] #[.pointer (some ⟨b52, 0, none⟩)]), (21, .slice a1 x1.length c1), (22, .int .i64 ((x1).length : Int)), (23, .int .i64 ((k55 : Nat) : Int))] ∧ St w s (vecC 4 1 (some ⟨b75, 0, none⟩) x73.length x73.length cs94 :: pt b52 (.cells #[.int .i64 q259] 3 (0, 0)) :: pt b51 (.cells (FleetLimits.cells x2).toArray 35 (0, 0)) :: R)) ?_ ?_
        · refine W.block ?_
          refine W.loop (fun m a w => ∃ (rest250 : Nat) (k248 : Nat), ∃ (q258 : Int), ∃ (q259 : Int), rest250 = m ∧ k248 + rest250 = x73.length ∧ Fishref2later.loop4 x2 q90 rest250 k248 q258 q259 = some q247 ∧ Rep a 114 [(0, .slice a0 x0.length c0), (5, .pointer (some ⟨b51, 0, none⟩)), (7, .pointer (some ⟨b52, 0, none⟩)), (8, .func (.func 77) #[] #[.pointer (some ⟨b52, 0, none⟩)]), (17, .int .i64 q258), (21, .slice a1 x1.length c1), (22, .int .i64 ((x1).length : Int)), (23, .int .i64 ((k55 : Nat) : Int)), (95, .slice (some ⟨b75, 0, none⟩) x73.length x73.length), (96, .int .i64 ((x73.length : Nat) : Int)), (97, .int .i64 ((k248 : Nat) : Int))] ∧ St w s (vecC 4 1 (some ⟨b75, 0, none⟩) x73.length x73.length cs94 :: pt b52 (.cells #[.int .i64 q259] 3 (0, 0)) :: pt b51 (.cells (FleetLimits.cells x2).toArray 35 (0, 0)) :: R)) (m := x73.length) ⟨x73.length, 0, 0, q96, rfl, by omega, hq246, hE.pick _ ⟨rfl, rfl, rfl, rfl, rfl, rfl, rfl, rfl, rfl, rfl, rfl, trivial⟩, hS⟩ ?_
          clear hE hS a w hq246; rintro m254 a w ⟨rest250, k248, q258, q259, rfl, hd251, hq246, hE, hS⟩
          refine W.gen fun K260 hK260 => ?_
          rcases rest250 with _ | rest250
          · skip
            refine W.seq ?_
            refine W.region ?_
            refine WL.vS hS hE (runs_plain rfl) (Gives.p hE rfl) rfl ?_; clear hE a; intro a hE
            refine WL.nil ?_
            refine W.seq ?_
            refine W.condF hE rfl (decide_eq_false (by omega)) ?_
            subst hK260
            refine W.exit rfl ?_
            exact ⟨q258, q259, Option.some.inj hq246, hE.pick _ ⟨rfl, rfl, rfl, rfl, rfl, rfl, rfl, trivial⟩, hS⟩
          · have hlt252 : k248 < x73.length := by omega
            rw [Fishref2later.loop4] at hq246
            refine W.seq ?_
            refine W.region ?_
            refine WL.vS hS hE (runs_plain rfl) (Gives.p hE rfl) rfl ?_; clear hE a; intro a hE
            refine WL.nil ?_
            refine W.seq ?_
            refine W.condT hE rfl (decide_eq_true (by omega)) ?_
            refine W.skip ?_
            refine W.seq ?_
            refine W.block ?_
            refine W.seq ?_
            refine W.region ?_
            obtain ⟨x261, hx262, hq246⟩ := bindS hq246
            obtain ⟨hi263, hlt264, hy265⟩ := gx_some hx262
            obtain ⟨vs266, hl267, hR268, hd269, hget270⟩ := h93.at hy265
            subst hR268
            refine WL.vS hS hE (runs_plain rfl) (Gives.idx hE ((((k248 : Nat) : Int)).toNat) rfl rfl sl104 hi263 (by have := hn95; omega) (hS.vecAok 0 rfl (by have := hn95; omega : (((k248 : Nat) : Int)).toNat < x73.length))) rfl ?_; clear hE a; intro a hE
            refine WL.vS hS hE (runs_plain rfl) (Gives.load1 hE rfl (fun w h => St.vecSees h 0 rfl ((((k248 : Nat) : Int)).toNat * 1) _ hget270) ty4) rfl ?_; clear hE a; intro a hE
            refine WL.vS hS hE (runs_plain rfl) (Gives.p hE rfl) rfl ?_; clear hE a; intro a hE
            refine WL.nil ?_
            refine W.seq ?_
            refine W.seq ?_
            refine W.region ?_
            refine WL.vS hS hE (runs_plain rfl) (Gives.p hE rfl) rfl ?_; clear hE a; intro a hE
            refine WL.vS hS hE (runs_plain rfl) (Gives.p hE rfl) rfl ?_; clear hE a; intro a hE
            refine WL.vS hS hE (runs_plain rfl) (Gives.p hE rfl) rfl ?_; clear hE a; intro a hE
            refine WL.nil ?_
            refine W.seq ?_
            refine W.region ?_
            refine WL.vS hS hE (runs_plain rfl) (Gives.p hE rfl) rfl ?_; clear hE a; intro a hE
            refine WL.vS hS hE (runs_plain rfl) (Gives.p hE rfl) rfl ?_; clear hE a; intro a hE
            refine WL.nil ?_
            obtain ⟨q272, hq271, hq246⟩ := bndS hq246
            refine W.cut (fun a w => ∃ (q275 : Int), q275 = q272 ∧ Rep a 114 [(0, .slice a0 x0.length c0), (5, .pointer (some ⟨b51, 0, none⟩)), (7, .pointer (some ⟨b52, 0, none⟩)), (8, .func (.func 77) #[] #[.pointer (some ⟨b52, 0, none⟩)]), (17, .int .i64 q275), (21, .slice a1 x1.length c1), (22, .int .i64 ((x1).length : Int)), (23, .int .i64 ((k55 : Nat) : Int)), (95, .slice (some ⟨b75, 0, none⟩) x73.length x73.length), (96, .int .i64 ((x73.length : Nat) : Int)), (97, .int .i64 ((k248 : Nat) : Int))] ∧ St w s (vecC 4 1 (some ⟨b75, 0, none⟩) x73.length x73.length cs94 :: pt b52 (.cells #[.int .i64 q259] 3 (0, 0)) :: pt b51 (.cells (FleetLimits.cells x2).toArray 35 (0, 0)) :: R)) ?_ ?_
            · refine W.gen fun K276 hK276 => ?_
              refine W.cond hE rfl (fun hc277 => ?_) (fun hc277 => ?_)
              · replace hq271 := iteT hc277 hq271
                refine W.region ?_
                refine WL.vS hS hE (runs_plain rfl) (Gives.p hE rfl) rfl ?_; clear hE a; intro a hE
                refine WL.nil ?_
                subst hK276
                exact ⟨0, hq271, hE.pick _ ⟨rfl, rfl, rfl, rfl, rfl, rfl, rfl, rfl, rfl, rfl, rfl, trivial⟩, hS⟩
              · replace hq271 := iteF hc277 hq271
                refine W.skip ?_
                subst hK276
                exact ⟨w64 (q258 + 1), hq271, hE.pick _ ⟨rfl, rfl, rfl, rfl, rfl, rfl, rfl, rfl, rfl, rfl, rfl, trivial⟩, hS⟩
            · clear hE hS a w; rintro a w ⟨q275, rfl, hE, hS⟩
              refine W.seq ?_
              refine W.region ?_
              refine WL.vS hS hE (runs_plain rfl) (Gives.p hE rfl) rfl ?_; clear hE a; intro a hE
              refine WL.vS hS hE (runs_plain rfl) (Gives.fld hE rfl fl35_6) rfl ?_; clear hE a; intro a hE
              refine WL.vS hS hE (runs_plain rfl) (Gives.loadB hE 2 rfl rfl rfl ty3) rfl ?_; clear hE a; intro a hE
              refine WL.vS hS hE (runs_plain rfl) (Gives.p hE rfl) rfl ?_; clear hE a; intro a hE
              refine WL.nil ?_
              refine W.cond hE rfl (fun hc278 => ?_) (fun hc278 => ?_)
              · replace hq246 := iteT hc278 hq246
                refine W.region ?_
                refine WL.vS hS hE (runs_plain rfl) (Gives.p hE rfl) rfl ?_; clear hE a; intro a hE
                obtain ⟨q279, hq280, hq246⟩ := bndS hq246
                replace hS := hS.front 1 rfl
                refine WL.fnv hE (vs := [.int .i64 4]) (cs := [.pointer (some ⟨b52, 0, none⟩)]) rfl (Fishref2later_1_v1_ok hS  hq280) (runs_plain rfl) bd77 rfl rfl ?_
                clear hE hS; rintro e w ⟨rfl, hS⟩; refine ⟨_, rfl, ?_⟩; clear a; intro a hE
                refine WL.nil ?_
                refine W.region ?_
                refine WL.vS hS hE (runs_plain rfl) (Gives.inc hE rfl (by omega)) rfl ?_; clear hE a; intro a hE
                refine WL.vS hS hE (runs_plain rfl) (Gives.p hE rfl) rfl ?_; clear hE a; intro a hE
                refine WL.nil ?_
                replace hS := hS.front 2 rfl
                replace hS := hS.front 1 rfl
                replace hS := hS.front 2 rfl
                subst hK260
                exact ⟨rest250, Nat.lt_succ_self _, rest250, k248 + 1, q275, q279, rfl, (by omega), hq246, hE.pick _ ⟨rfl, rfl, rfl, rfl, rfl, rfl, rfl, rfl, rfl, rfl, rfl, trivial⟩, hS⟩
              · replace hq246 := iteF hc278 hq246
                refine W.skip ?_
                refine W.region ?_
                refine WL.vS hS hE (runs_plain rfl) (Gives.inc hE rfl (by omega)) rfl ?_; clear hE a; intro a hE
                refine WL.vS hS hE (runs_plain rfl) (Gives.p hE rfl) rfl ?_; clear hE a; intro a hE
                refine WL.nil ?_
                subst hK260
                exact ⟨rest250, Nat.lt_succ_self _, rest250, k248 + 1, q275, q259, rfl, (by omega), hq246, hE.pick _ ⟨rfl, rfl, rfl, rfl, rfl, rfl, rfl, rfl, rfl, rfl, rfl, trivial⟩, hS⟩
        · clear hE hS a w; rintro a w ⟨q258, q259, rfl, hE, hS⟩
          dsimp only at hq53
          refine W.region ?_
          refine WL.vS hS hE (runs_plain rfl) (Gives.inc hE rfl (by have := h1.small; omega)) rfl ?_; clear hE a; intro a hE
          refine WL.vS hS hE (runs_plain rfl) (Gives.p hE rfl) rfl ?_; clear hE a; intro a hE
          refine WL.nil ?_
          replace hS := hS.tail
          subst hK65
          exact ⟨rest57.length, Nat.lt_succ_self _, rest57, k55 + 1, q259, rfl, hd58, hq53, hE.pick _ ⟨rfl, rfl, rfl, rfl, rfl, rfl, rfl, trivial⟩, hS⟩
  · clear hE hS a w; rintro a w ⟨q64, rfl, hE, hS⟩
    refine W.seq ?_
    refine W.region ?_
    refine WL.vS hS hE (runs_plain rfl) (Gives.loadB hE 0 rfl rfl rfl ty3) rfl ?_; clear hE a; intro a hE
    refine WL.vS hS hE (runs_plain rfl) (Gives.p hE rfl) rfl ?_; clear hE a; intro a hE
    refine WL.nil ?_
    refine W.ret ?_
    refine finG (fn := Try.f72) (rs := [.tmp 6]) (vs := [_]) hE rfl ⟨rfl, trivial⟩ ?_
    obtain rfl := Option.some.inj hr
    replace hS := hS.tail
    replace hS := hS.tail
    exact ⟨rfl, hS⟩
set_option maxHeartbeats 8000000 in
theorem Fishref2RosterCode_ok  {w : World} {s : Sg} {R : List HP} {x0 : List FleetShift} {a0 : Option Addr} {c0 : Nat} {x1 : List (List Int)} {a1 : Option Addr} {c1 : Nat} {x2 : FleetLimits} (hS : St w s (R)) (h0 : Sl 3 RFleetShift s a0 c0 x0) (h1 : Sl 1 (RL 1 (RI .i64)) s a1 c1 x1) {r : Int} (hr : Fishref2RosterCode x0 x1 x2 = some r) :
    Calls Try.prog 60 [.slice a0 x0.length c0, .slice a1 x1.length c1, .agg (FleetLimits.cells x2).toArray].toArray w (fun e w => e = .returned (.int .i64 r) ∧ St w s (R)) := by
  refine enter Try.func60 rfl rfl rfl fun a hE => ?_
  rw [Fishref2RosterCode] at hr
  refine W.seq ?_
  refine W.region ?_
  refine WL.box hE hS (runs_plain rfl) rfl rfl rfl ?_; clear hE hS a w; intro b51 a w hE hS
  refine WL.vS hS hE (runs_plain rfl) (Gives.p hE rfl) rfl ?_; clear hE a; intro a hE
  refine WL.nil ?_
  refine W.seq ?_
  refine W.region ?_
  refine WL.vS hS hE (runs_plain rfl) (Gives.p hE rfl) rfl ?_; clear hE a; intro a hE
  refine WL.vS hS hE (runs_plain rfl) (Gives.len hE rfl sl50) rfl ?_; clear hE a; intro a hE
  obtain ⟨x52, hx53, hr⟩ := bindS hr
  refine WL.mkD (Rr := RI .i64) hE hS (runs_plain rfl) rfl rfl ap22 zr3 rfl hx53 rfl ?_; clear hE hS a w; intro b54 cs55 a w h56 hE hS
  refine WL.vS hS hE (runs_plain rfl) (Gives.p hE rfl) rfl ?_; clear hE a; intro a hE
  refine WL.nil ?_
  refine W.seq ?_
  refine W.seq ?_
  refine W.region ?_
  refine WL.vS hS hE (runs_plain rfl) (Gives.p hE rfl) rfl ?_; clear hE a; intro a hE
  refine WL.vS hS hE (runs_plain rfl) (Gives.len hE rfl sl23) rfl ?_; clear hE a; intro a hE
  refine WL.vS hS hE (runs_plain rfl) (Gives.p hE rfl) rfl ?_; clear hE a; intro a hE
  refine WL.nil ?_
  obtain ⟨q59, hq58, hr⟩ := bindS hr
  refine W.cut (fun a w => ∃ (q69 : List Int), ∃ (cs73 : List Value), q69 = q59 ∧ Ev 1 (RI .i64) s cs73 q69 ∧ q69.length = x52.length ∧ Rep a 50 [(0, .slice a0 x0.length c0), (1, .slice a1 x1.length c1), (5, .pointer (some ⟨b51, 0, none⟩)), (7, .slice (some ⟨b54, 0, none⟩) x52.length x52.length)] ∧ St w s (vecC 3 1 (some ⟨b54, 0, none⟩) x52.length x52.length cs73 :: pt b51 (.cells (FleetLimits.cells x2).toArray 35 (0, 0)) :: R)) ?_ ?_
  · refine W.block ?_
    refine W.loop (fun m a w => ∃ (rest62 : List (List Int)) (k60 : Nat), ∃ (q69 : List Int), ∃ (cs73 : List Value), rest62.length = m ∧ x1.drop k60 = rest62 ∧ Fishref2RosterCode.loop1 rest62 q69 = some q59 ∧ Ev 1 (RI .i64) s cs73 q69 ∧ q69.length = x52.length ∧ Rep a 50 [(0, .slice a0 x0.length c0), (1, .slice a1 x1.length c1), (5, .pointer (some ⟨b51, 0, none⟩)), (7, .slice (some ⟨b54, 0, none⟩) x52.length x52.length), (17, .slice a1 x1.length c1), (18, .int .i64 ((x1).length : Int)), (19, .int .i64 ((k60 : Nat) : Int))] ∧ St w s (vecC 3 1 (some ⟨b54, 0, none⟩) x52.length x52.length cs73 :: pt b51 (.cells (FleetLimits.cells x2).toArray 35 (0, 0)) :: R)) (m := x1.length) ⟨x1, 0, x52, cs55, rfl, rfl, hq58, h56, (rfl), hE.pick _ ⟨rfl, rfl, rfl, rfl, rfl, rfl, rfl, trivial⟩, hS⟩ ?_
    clear hE hS a w hq58; rintro m66 a w ⟨rest62, k60, q69, cs73, rfl, hd63, hq58, h72, hn74, hE, hS⟩
    refine W.gen fun K75 hK75 => ?_
    rcases rest62 with _ | ⟨x61, rest62⟩
    · have hlt64 := drop_nil hd63
      refine W.seq ?_
      refine W.region ?_
      refine WL.vS hS hE (runs_plain rfl) (Gives.p hE rfl) rfl ?_; clear hE a; intro a hE
      refine WL.nil ?_
      refine W.seq ?_
      refine W.condF hE rfl (decide_eq_false (by omega)) ?_
      subst hK75
      refine W.exit rfl ?_
      exact ⟨q69, cs73, Option.some.inj hq58, h72, hn74, hE.pick _ ⟨rfl, rfl, rfl, rfl, trivial⟩, hS⟩
    · obtain ⟨hlt64, hx65, hd63⟩ := drop_cons hd63
      rw [Fishref2RosterCode.loop1] at hq58
      refine W.seq ?_
      refine W.region ?_
      refine WL.vS hS hE (runs_plain rfl) (Gives.p hE rfl) rfl ?_; clear hE a; intro a hE
      refine WL.nil ?_
      refine W.seq ?_
      refine W.condT hE rfl (decide_eq_true (by omega)) ?_
      refine W.skip ?_
      refine W.seq ?_
      refine W.block ?_
      refine W.seq ?_
      refine W.region ?_
      obtain ⟨cs76, hl77, hR78, hat79⟩ := h1.at hx65
      obtain ⟨a80, c81, rfl, h82⟩ := hR78
      refine WL.vS hS hE (runs_plain rfl) (Gives.idx hE k60 rfl rfl sl23 rfl hlt64 (h1.aok hlt64)) rfl ?_; clear hE a; intro a hE
      refine WL.vS hS hE (runs_plain rfl) (Gives.load1 hE rfl (fun w h => hat79 w _ h) ty22) rfl ?_; clear hE a; intro a hE
      refine WL.vS hS hE (runs_plain rfl) (Gives.p hE rfl) rfl ?_; clear hE a; intro a hE
      refine WL.nil ?_
      refine W.seq ?_
      refine W.region ?_
      refine WL.vS hS hE (runs_plain rfl) (Gives.p hE rfl) rfl ?_; clear hE a; intro a hE
      refine WL.vS hS hE (runs_plain rfl) (Gives.len hE rfl sl22) rfl ?_; clear hE a; intro a hE
      refine WL.vS hS hE (runs_plain rfl) (Gives.p hE rfl) rfl ?_; clear hE a; intro a hE
      refine WL.nil ?_
      obtain ⟨q84, hq83, hq58⟩ := bindS hq58
      refine W.cut (fun a w => ∃ (q94 : List Int), ∃ (cs98 : List Value), q94 = q84 ∧ Ev 1 (RI .i64) s cs98 q94 ∧ q94.length = x52.length ∧ Rep a 50 [(0, .slice a0 x0.length c0), (1, .slice a1 x1.length c1), (5, .pointer (some ⟨b51, 0, none⟩)), (7, .slice (some ⟨b54, 0, none⟩) x52.length x52.length), (17, .slice a1 x1.length c1), (18, .int .i64 ((x1).length : Int)), (19, .int .i64 ((k60 : Nat) : Int))] ∧ St w s (vecC 3 1 (some ⟨b54, 0, none⟩) x52.length x52.length cs98 :: pt b51 (.cells (FleetLimits.cells x2).toArray 35 (0, 0)) :: R)) ?_ ?_
      · refine W.block ?_
        refine W.loop (fun m a w => ∃ (rest87 : List Int) (k85 : Nat), ∃ (q94 : List Int), ∃ (cs98 : List Value), rest87.length = m ∧ x61.drop k85 = rest87 ∧ Fishref2RosterCode.loop2 rest87 q94 = some q84 ∧ Ev 1 (RI .i64) s cs98 q94 ∧ q94.length = x52.length ∧ Rep a 50 [(0, .slice a0 x0.length c0), (1, .slice a1 x1.length c1), (5, .pointer (some ⟨b51, 0, none⟩)), (7, .slice (some ⟨b54, 0, none⟩) x52.length x52.length), (17, .slice a1 x1.length c1), (18, .int .i64 ((x1).length : Int)), (19, .int .i64 ((k60 : Nat) : Int)), (23, .slice a80 x61.length c81), (24, .int .i64 ((x61).length : Int)), (25, .int .i64 ((k85 : Nat) : Int))] ∧ St w s (vecC 3 1 (some ⟨b54, 0, none⟩) x52.length x52.length cs98 :: pt b51 (.cells (FleetLimits.cells x2).toArray 35 (0, 0)) :: R)) (m := x61.length) ⟨x61, 0, q69, cs73, rfl, rfl, hq83, h72, hn74, hE.pick _ ⟨rfl, rfl, rfl, rfl, rfl, rfl, rfl, rfl, rfl, rfl, trivial⟩, hS⟩ ?_
        clear hE hS a w hq83; rintro m91 a w ⟨rest87, k85, q94, cs98, rfl, hd88, hq83, h97, hn99, hE, hS⟩
        refine W.gen fun K100 hK100 => ?_
        rcases rest87 with _ | ⟨x86, rest87⟩
        · have hlt89 := drop_nil hd88
          refine W.seq ?_
          refine W.region ?_
          refine WL.vS hS hE (runs_plain rfl) (Gives.p hE rfl) rfl ?_; clear hE a; intro a hE
          refine WL.nil ?_
          refine W.seq ?_
          refine W.condF hE rfl (decide_eq_false (by omega)) ?_
          subst hK100
          refine W.exit rfl ?_
          exact ⟨q94, cs98, Option.some.inj hq83, h97, hn99, hE.pick _ ⟨rfl, rfl, rfl, rfl, rfl, rfl, rfl, trivial⟩, hS⟩
        · obtain ⟨hlt89, hx90, hd88⟩ := drop_cons hd88
          rw [Fishref2RosterCode.loop2] at hq83
          refine W.seq ?_
          refine W.region ?_
          refine WL.vS hS hE (runs_plain rfl) (Gives.p hE rfl) rfl ?_; clear hE a; intro a hE
          refine WL.nil ?_
          refine W.seq ?_
          refine W.condT hE rfl (decide_eq_true (by omega)) ?_
          refine W.skip ?_
          refine W.seq ?_
          refine W.block ?_
          refine W.seq ?_
          refine W.region ?_
          obtain ⟨cs101, hl102, hR103, hat104⟩ := h82.at hx90
          subst hR103
          refine WL.vS hS hE (runs_plain rfl) (Gives.idx hE k85 rfl rfl sl22 rfl hlt89 (h82.aok hlt89)) rfl ?_; clear hE a; intro a hE
          refine WL.vS hS hE (runs_plain rfl) (Gives.load1 hE rfl (fun w h => hat104 w _ h) ty3) rfl ?_; clear hE a; intro a hE
          refine WL.vS hS hE (runs_plain rfl) (Gives.p hE rfl) rfl ?_; clear hE a; intro a hE
          refine WL.nil ?_
          refine W.region ?_
          refine WL.vS hS hE (runs_plain rfl) (Gives.p hE rfl) rfl ?_; clear hE a; intro a hE
          refine WL.vS hS hE (runs_plain rfl) (Gives.p hE rfl) rfl ?_; clear hE a; intro a hE
          obtain ⟨x105, hx106, hq83⟩ := bindS hq83
          obtain ⟨hi107, hlt108, hy109⟩ := gx_some hx106
          obtain ⟨vs110, hl111, hR112, hd113, hget114⟩ := h97.at hy109
          subst hR112
          refine WL.vS hS hE (runs_plain rfl) (Gives.idx hE ((x86).toNat) rfl rfl sl22 hi107 (by have := hn99; omega) (hS.vecAok 0 rfl (by have := hn99; omega : (x86).toNat < x52.length))) rfl ?_; clear hE a; intro a hE
          refine WL.vS hS hE (runs_plain rfl) (Gives.load1 hE rfl (fun w h => St.vecSees h 0 rfl ((x86).toNat * 1) _ hget114) ty3) rfl ?_; clear hE a; intro a hE
          refine WL.vS hS hE (runs_plain rfl) (Gives.p hE rfl) rfl ?_; clear hE a; intro a hE
          obtain ⟨_, hx116, hq83⟩ := bindS hq83
          obtain ⟨h117, h118⟩ := ix_some hx116
          refine WL.vS hS hE (runs_plain rfl) (Gives.idx hE ((x86).toNat) rfl rfl sl22 h117 (by have := hn99; omega) (hS.vecAok 0 rfl (by have := hn99; omega : (x86).toNat < x52.length))) rfl ?_; clear hE a; intro a hE
          obtain ⟨x120, hx121, hq83⟩ := bindS hq83
          refine WL.setD hE hS 0 rfl (runs_plain rfl) rfl rfl (vs := [.int .i64 (w64 (x105 + 1))]) rfl ty3 rfl rfl rfl h97 hn99 (sx_some hx121).1 hx121 rfl rfl ?_; clear hE hS a w; intro cs122 a w h123 hn124 hE hS
          refine WL.nil ?_
          refine W.region ?_
          refine WL.vS hS hE (runs_plain rfl) (Gives.inc hE rfl (by have := h82.small; omega)) rfl ?_; clear hE a; intro a hE
          refine WL.vS hS hE (runs_plain rfl) (Gives.p hE rfl) rfl ?_; clear hE a; intro a hE
          refine WL.nil ?_
          subst hK100
          exact ⟨rest87.length, Nat.lt_succ_self _, rest87, k85 + 1, x120, cs122, rfl, hd88, hq83, h123, hn124, hE.pick _ ⟨rfl, rfl, rfl, rfl, rfl, rfl, rfl, rfl, rfl, rfl, trivial⟩, hS⟩
      · clear hE hS a w; rintro a w ⟨q94, cs98, rfl, h97, hn99, hE, hS⟩
        refine W.region ?_
        refine WL.vS hS hE (runs_plain rfl) (Gives.inc hE rfl (by have := h1.small; omega)) rfl ?_; clear hE a; intro a hE
        refine WL.vS hS hE (runs_plain rfl) (Gives.p hE rfl) rfl ?_; clear hE a; intro a hE
        refine WL.nil ?_
        subst hK75
        exact ⟨rest62.length, Nat.lt_succ_self _, rest62, k60 + 1, q94, cs98, rfl, hd63, hq58, h97, hn99, hE.pick _ ⟨rfl, rfl, rfl, rfl, rfl, rfl, rfl, trivial⟩, hS⟩
  · clear hE hS a w; rintro a w ⟨q69, cs73, rfl, h72, hn74, hE, hS⟩
    refine W.seq ?_
    refine W.seq ?_
    refine W.region ?_
    refine WL.vS hS hE (runs_plain rfl) (Gives.p hE rfl) rfl ?_; clear hE a; intro a hE
    refine WL.vS hS hE (runs_plain rfl) (Gives.len hE rfl sl22) rfl ?_; clear hE a; intro a hE
    refine WL.vS hS hE (runs_plain rfl) (Gives.p hE rfl) rfl ?_; clear hE a; intro a hE
    refine WL.nil ?_
    have hb136 : x52.length ≤ 9223372036854775807 := by have := hS.vecCap 0 rfl; unfold maxLen at this; omega
    obtain ⟨q126, hq125, hr⟩ := bindS hr
    refine W.cut (fun a w => (.next ()) = q126 ∧ Rep a 50 [(0, .slice a0 x0.length c0), (1, .slice a1 x1.length c1), (5, .pointer (some ⟨b51, 0, none⟩))] ∧ St w s (vecC 3 1 (some ⟨b54, 0, none⟩) x52.length x52.length cs73 :: pt b51 (.cells (FleetLimits.cells x2).toArray 35 (0, 0)) :: R)) ?_ ?_
    · refine W.block ?_
      refine W.loop (fun m a w => ∃ (rest129 : Nat) (k127 : Nat), rest129 = m ∧ k127 + rest129 = x52.length ∧ Fishref2RosterCode.loop3 q69 rest129 k127 = some q126 ∧ Rep a 50 [(0, .slice a0 x0.length c0), (1, .slice a1 x1.length c1), (5, .pointer (some ⟨b51, 0, none⟩)), (37, .slice (some ⟨b54, 0, none⟩) x52.length x52.length), (38, .int .i64 ((x52.length : Nat) : Int)), (39, .int .i64 ((k127 : Nat) : Int))] ∧ St w s (vecC 3 1 (some ⟨b54, 0, none⟩) x52.length x52.length cs73 :: pt b51 (.cells (FleetLimits.cells x2).toArray 35 (0, 0)) :: R)) (m := x52.length) ⟨x52.length, 0, rfl, by omega, hq125, hE.pick _ ⟨rfl, rfl, rfl, rfl, rfl, rfl, trivial⟩, hS⟩ ?_
      clear hE hS a w hq125; rintro m133 a w ⟨rest129, k127, rfl, hd130, hq125, hE, hS⟩
      refine W.gen fun K137 hK137 => ?_
      rcases rest129 with _ | rest129
      · skip
        refine W.seq ?_
        refine W.region ?_
        refine WL.vS hS hE (runs_plain rfl) (Gives.p hE rfl) rfl ?_; clear hE a; intro a hE
        refine WL.nil ?_
        refine W.seq ?_
        refine W.condF hE rfl (decide_eq_false (by omega)) ?_
        subst hK137
        refine W.exit rfl ?_
        exact ⟨Option.some.inj hq125, hE.pick _ ⟨rfl, rfl, rfl, trivial⟩, hS⟩
      · have hlt131 : k127 < x52.length := by omega
        rw [Fishref2RosterCode.loop3] at hq125
        refine W.seq ?_
        refine W.region ?_
        refine WL.vS hS hE (runs_plain rfl) (Gives.p hE rfl) rfl ?_; clear hE a; intro a hE
        refine WL.nil ?_
        refine W.seq ?_
        refine W.condT hE rfl (decide_eq_true (by omega)) ?_
        refine W.skip ?_
        refine W.seq ?_
        refine W.block ?_
        refine W.seq ?_
        refine W.region ?_
        obtain ⟨x138, hx139, hq125⟩ := bindS hq125
        obtain ⟨hi140, hlt141, hy142⟩ := gx_some hx139
        obtain ⟨vs143, hl144, hR145, hd146, hget147⟩ := h72.at hy142
        subst hR145
        refine WL.vS hS hE (runs_plain rfl) (Gives.idx hE ((((k127 : Nat) : Int)).toNat) rfl rfl sl22 hi140 (by have := hn74; omega) (hS.vecAok 0 rfl (by have := hn74; omega : (((k127 : Nat) : Int)).toNat < x52.length))) rfl ?_; clear hE a; intro a hE
        refine WL.vS hS hE (runs_plain rfl) (Gives.load1 hE rfl (fun w h => St.vecSees h 0 rfl ((((k127 : Nat) : Int)).toNat * 1) _ hget147) ty3) rfl ?_; clear hE a; intro a hE
        refine WL.vS hS hE (runs_plain rfl) (Gives.p hE rfl) rfl ?_; clear hE a; intro a hE
        refine WL.nil ?_
        refine W.seq ?_
        refine W.region ?_
        refine WL.vS hS hE (runs_plain rfl) (Gives.p hE rfl) rfl ?_; clear hE a; intro a hE
        refine WL.vS hS hE (runs_plain rfl) (Gives.p hE rfl) rfl ?_; clear hE a; intro a hE
        refine WL.nil ?_
        refine W.cond hE rfl (fun hc148 => ?_) (fun hc148 => ?_)
        · replace hq125 := iteT hc148 hq125
          refine W.seq ?_
          refine W.region ?_
          refine WL.vS hS hE (runs_plain rfl) (Gives.p hE rfl) rfl ?_; clear hE a; intro a hE
          refine WL.nil ?_
          refine W.ret ?_
          subst hK137
          rw [← Option.some.inj hq125] at hr
          dsimp only at hr
          refine finG (fn := Try.f60) (rs := [.tmp 6]) (vs := [_]) hE rfl ⟨rfl, trivial⟩ ?_
          obtain rfl := Option.some.inj hr
          replace hS := hS.tail
          replace hS := hS.tail
          exact ⟨rfl, hS⟩
        · replace hq125 := iteF hc148 hq125
          refine W.skip ?_
          refine W.region ?_
          refine WL.vS hS hE (runs_plain rfl) (Gives.inc hE rfl (by omega)) rfl ?_; clear hE a; intro a hE
          refine WL.vS hS hE (runs_plain rfl) (Gives.p hE rfl) rfl ?_; clear hE a; intro a hE
          refine WL.nil ?_
          subst hK137
          exact ⟨rest129, Nat.lt_succ_self _, rest129, k127 + 1, rfl, (by omega), hq125, hE.pick _ ⟨rfl, rfl, rfl, rfl, rfl, rfl, trivial⟩, hS⟩
    · clear hE hS a w; rintro a w ⟨rfl, hE, hS⟩
      dsimp only at hr
      refine W.seq ?_
      refine W.region ?_
      refine WL.vS hS hE (runs_plain rfl) (Gives.p hE rfl) rfl ?_; clear hE a; intro a hE
      refine WL.vS hS hE (runs_plain rfl) (Gives.p hE rfl) rfl ?_; clear hE a; intro a hE
      refine WL.vS hS hE (runs_plain rfl) (Gives.loadBA hE 1 rfl rfl ty35) rfl ?_; clear hE a; intro a hE
      obtain ⟨q149, hq150, hr⟩ := bindS hr
      refine WL.fn hE (Fishref2later_ok hS h0 h1 hq150) (runs_plain rfl) bd72 rfl rfl ?_
      clear hE hS; rintro e w ⟨rfl, hS⟩; refine ⟨_, rfl, ?_⟩; clear a; intro a hE
      refine WL.vS hS hE (runs_plain rfl) (Gives.p hE rfl) rfl ?_; clear hE a; intro a hE
      refine WL.nil ?_
      refine W.ret ?_
      refine finG (fn := Try.f60) (rs := [.tmp 6]) (vs := [_]) hE rfl ⟨rfl, trivial⟩ ?_
      obtain rfl := Option.some.inj hr
      replace hS := hS.tail
      replace hS := hS.tail
      exact ⟨rfl, hS⟩
set_option maxHeartbeats 8000000 in
theorem Fishref2JudgeRosterOf_ok  {w : World} {s : Sg} {R : List HP} {x0 : List FleetShift} {a0 : Option Addr} {c0 : Nat} {x1 : List (List Int)} {a1 : Option Addr} {c1 : Nat} {x2 : FleetLimits} (hS : St w s (R)) (h0 : Sl 3 RFleetShift s a0 c0 x0) (h1 : Sl 1 (RL 1 (RI .i64)) s a1 c1 x1) {r : Int × Int} (hr : Fishref2JudgeRosterOf x0 x1 x2 = some r) :
    Calls Try.prog 27 [.slice a0 x0.length c0, .slice a1 x1.length c1, .agg (FleetLimits.cells x2).toArray].toArray w (fun e w => e = .returned (.tuple #[.int .i64 r.1, .int .i64 r.2]) ∧ St w s (R)) := by
  refine enter Try.func27 rfl rfl rfl fun a hE => ?_
  rw [Fishref2JudgeRosterOf] at hr
  refine W.seq ?_
  refine W.region ?_
  refine WL.box hE hS (runs_plain rfl) rfl rfl rfl ?_; clear hE hS a w; intro b51 a w hE hS
  refine WL.vS hS hE (runs_plain rfl) (Gives.p hE rfl) rfl ?_; clear hE a; intro a hE
  refine WL.vS hS hE (runs_plain rfl) (Gives.p hE rfl) rfl ?_; clear hE a; intro a hE
  refine WL.nil ?_
  refine W.seq ?_
  refine W.seq ?_
  refine W.region ?_
  refine WL.vS hS hE (runs_plain rfl) (Gives.p hE rfl) rfl ?_; clear hE a; intro a hE
  refine WL.fn hE (Fishref2ShiftsFault_ok hS h0 rfl) (runs_plain rfl) bd29 rfl rfl ?_
  clear hE hS; rintro e w ⟨rfl, hS⟩; refine ⟨_, rfl, ?_⟩; clear a; intro a hE
  refine WL.vS hS hE (runs_plain rfl) (Gives.p hE rfl) rfl ?_; clear hE a; intro a hE
  refine WL.nil ?_
  refine W.seq ?_
  refine W.region ?_
  refine WL.vS hS hE (runs_plain rfl) (Gives.p hE rfl) rfl ?_; clear hE a; intro a hE
  refine WL.vS hS hE (runs_plain rfl) (Gives.p hE rfl) rfl ?_; clear hE a; intro a hE
  refine WL.nil ?_
  refine W.cond hE rfl (fun hc52 => ?_) (fun hc52 => ?_)
  · replace hr := iteT hc52 hr
    refine W.seq ?_
    refine W.region ?_
    refine WL.vS hS hE (runs_plain rfl) (Gives.p hE rfl) rfl ?_; clear hE a; intro a hE
    refine WL.vS hS hE (runs_plain rfl) (Gives.p hE rfl) rfl ?_; clear hE a; intro a hE
    refine WL.vS hS hE (runs_plain rfl) (Gives.p hE rfl) rfl ?_; clear hE a; intro a hE
    refine WL.nil ?_
    refine W.ret ?_
    refine finG (fn := Try.f27) (rs := [.tmp 6, .tmp 7]) (vs := [_, _]) hE rfl ⟨rfl, rfl, trivial⟩ ?_
    obtain rfl := Option.some.inj hr
    replace hS := hS.tail
    exact ⟨rfl, hS⟩
  · replace hr := iteF hc52 hr
    refine W.skip ?_
    refine W.seq ?_
    refine W.seq ?_
    refine W.region ?_
    refine WL.vS hS hE (runs_plain rfl) (Gives.loadBA hE 0 rfl rfl ty35) rfl ?_; clear hE a; intro a hE
    refine WL.fn hE (Fishref2LimitsFault_ok hS  rfl) (runs_plain rfl) bd37 rfl rfl ?_
    clear hE hS; rintro e w ⟨rfl, hS⟩; refine ⟨_, rfl, ?_⟩; clear a; intro a hE
    refine WL.vS hS hE (runs_plain rfl) (Gives.p hE rfl) rfl ?_; clear hE a; intro a hE
    refine WL.nil ?_
    refine W.seq ?_
    refine W.region ?_
    refine WL.vS hS hE (runs_plain rfl) (Gives.p hE rfl) rfl ?_; clear hE a; intro a hE
    refine WL.vS hS hE (runs_plain rfl) (Gives.p hE rfl) rfl ?_; clear hE a; intro a hE
    refine WL.nil ?_
    refine W.cond hE rfl (fun hc53 => ?_) (fun hc53 => ?_)
    · replace hr := iteT hc53 hr
      refine W.seq ?_
      refine W.region ?_
      refine WL.vS hS hE (runs_plain rfl) (Gives.p hE rfl) rfl ?_; clear hE a; intro a hE
      refine WL.vS hS hE (runs_plain rfl) (Gives.p hE rfl) rfl ?_; clear hE a; intro a hE
      refine WL.vS hS hE (runs_plain rfl) (Gives.p hE rfl) rfl ?_; clear hE a; intro a hE
      refine WL.nil ?_
      refine W.ret ?_
      refine finG (fn := Try.f27) (rs := [.tmp 6, .tmp 7]) (vs := [_, _]) hE rfl ⟨rfl, rfl, trivial⟩ ?_
      obtain rfl := Option.some.inj hr
      replace hS := hS.tail
      exact ⟨rfl, hS⟩
    · replace hr := iteF hc53 hr
      refine W.skip ?_
      refine W.seq ?_
      refine W.seq ?_
      refine W.region ?_
      refine WL.vS hS hE (runs_plain rfl) (Gives.p hE rfl) rfl ?_; clear hE a; intro a hE
      refine WL.vS hS hE (runs_plain rfl) (Gives.p hE rfl) rfl ?_; clear hE a; intro a hE
      refine WL.fn hE (Fishref2RosterFault_ok hS h0 h1 rfl) (runs_plain rfl) bd31 rfl rfl ?_
      clear hE hS; rintro e w ⟨rfl, hS⟩; refine ⟨_, rfl, ?_⟩; clear a; intro a hE
      refine WL.vS hS hE (runs_plain rfl) (Gives.p hE rfl) rfl ?_; clear hE a; intro a hE
      refine WL.nil ?_
      refine W.seq ?_
      refine W.region ?_
      refine WL.vS hS hE (runs_plain rfl) (Gives.p hE rfl) rfl ?_; clear hE a; intro a hE
      refine WL.vS hS hE (runs_plain rfl) (Gives.p hE rfl) rfl ?_; clear hE a; intro a hE
      refine WL.nil ?_
      refine W.cond hE rfl (fun hc54 => ?_) (fun hc54 => ?_)
      · replace hr := iteT hc54 hr
        refine W.seq ?_
        refine W.region ?_
        refine WL.vS hS hE (runs_plain rfl) (Gives.p hE rfl) rfl ?_; clear hE a; intro a hE
        refine WL.vS hS hE (runs_plain rfl) (Gives.p hE rfl) rfl ?_; clear hE a; intro a hE
        refine WL.vS hS hE (runs_plain rfl) (Gives.p hE rfl) rfl ?_; clear hE a; intro a hE
        refine WL.nil ?_
        refine W.ret ?_
        refine finG (fn := Try.f27) (rs := [.tmp 6, .tmp 7]) (vs := [_, _]) hE rfl ⟨rfl, rfl, trivial⟩ ?_
        obtain rfl := Option.some.inj hr
        replace hS := hS.tail
        exact ⟨rfl, hS⟩
      · replace hr := iteF hc54 hr
        refine W.skip ?_
        refine W.seq ?_
        refine W.region ?_
        refine WL.vS hS hE (runs_plain rfl) (Gives.p hE rfl) rfl ?_; clear hE a; intro a hE
        refine WL.vS hS hE (runs_plain rfl) (Gives.p hE rfl) rfl ?_; clear hE a; intro a hE
        refine WL.vS hS hE (runs_plain rfl) (Gives.loadBA hE 0 rfl rfl ty35) rfl ?_; clear hE a; intro a hE
        obtain ⟨q55, hq56, hr⟩ := bindS hr
        refine WL.fn hE (Fishref2RosterCode_ok hS h0 h1 hq56) (runs_plain rfl) bd60 rfl rfl ?_
        clear hE hS; rintro e w ⟨rfl, hS⟩; refine ⟨_, rfl, ?_⟩; clear a; intro a hE
        refine WL.vS hS hE (runs_plain rfl) (Gives.p hE rfl) rfl ?_; clear hE a; intro a hE
        refine WL.vS hS hE (runs_plain rfl) (Gives.p hE rfl) rfl ?_; clear hE a; intro a hE
        refine WL.nil ?_
        refine W.ret ?_
        refine finG (fn := Try.f27) (rs := [.tmp 6, .tmp 7]) (vs := [_, _]) hE rfl ⟨rfl, rfl, trivial⟩ ?_
        obtain rfl := Option.some.inj hr
        replace hS := hS.tail
        exact ⟨rfl, hS⟩
set_option maxHeartbeats 8000000 in
theorem Fleetload_ok  {w : World} {s : Sg} {R : List HP} {x0 : List FleetShift} {a0 : Option Addr} {c0 : Nat} {x1 : List Int} {a1 : Option Addr} {c1 : Nat} (hS : St w s (R)) (h0 : Sl 3 RFleetShift s a0 c0 x0) (h1 : Sl 1 (RI .i64) s a1 c1 x1) {r : Int} (hr : Fleetload x0 x1 = some r) :
    Calls Try.prog 61 [.slice a0 x0.length c0, .slice a1 x1.length c1].toArray w (fun e w => e = .returned (.int .i64 r) ∧ St w s (R)) := by
  refine enter Try.func61 rfl rfl rfl fun a hE => ?_
  rw [Fleetload] at hr
  refine W.seq ?_
  refine W.region ?_
  refine WL.vS hS hE (runs_plain rfl) (Gives.p hE rfl) rfl ?_; clear hE a; intro a hE
  refine WL.nil ?_
  refine W.seq ?_
  refine W.region ?_
  refine WL.vS hS hE (runs_plain rfl) (Gives.p hE rfl) rfl ?_; clear hE a; intro a hE
  refine WL.nil ?_
  refine W.seq ?_
  refine W.seq ?_
  refine W.region ?_
  refine WL.vS hS hE (runs_plain rfl) (Gives.p hE rfl) rfl ?_; clear hE a; intro a hE
  refine WL.vS hS hE (runs_plain rfl) (Gives.len hE rfl sl22) rfl ?_; clear hE a; intro a hE
  refine WL.vS hS hE (runs_plain rfl) (Gives.p hE rfl) rfl ?_; clear hE a; intro a hE
  refine WL.nil ?_
  obtain ⟨q52, hq51, hr⟩ := bindS hr
  refine W.cut (fun a w => ∃ (q62 : Int), q62 = q52 ∧ Rep a 29 [(5, .int .i64 q62)] ∧ St w s (R)) ?_ ?_
  · refine W.block ?_
    refine W.loop (fun m a w => ∃ (rest55 : List Int) (k53 : Nat), ∃ (q62 : Int), rest55.length = m ∧ x1.drop k53 = rest55 ∧ Fleetload.loop1 x0 rest55 q62 = some q52 ∧ Rep a 29 [(0, .slice a0 x0.length c0), (5, .int .i64 q62), (8, .slice a1 x1.length c1), (9, .int .i64 ((x1).length : Int)), (10, .int .i64 ((k53 : Nat) : Int))] ∧ St w s (R)) (m := x1.length) ⟨x1, 0, 0, rfl, rfl, hq51, hE.pick _ ⟨rfl, rfl, rfl, rfl, rfl, trivial⟩, hS⟩ ?_
    clear hE hS a w hq51; rintro m59 a w ⟨rest55, k53, q62, rfl, hd56, hq51, hE, hS⟩
    refine W.gen fun K63 hK63 => ?_
    rcases rest55 with _ | ⟨x54, rest55⟩
    · have hlt57 := drop_nil hd56
      refine W.seq ?_
      refine W.region ?_
      refine WL.vS hS hE (runs_plain rfl) (Gives.p hE rfl) rfl ?_; clear hE a; intro a hE
      refine WL.nil ?_
      refine W.seq ?_
      refine W.condF hE rfl (decide_eq_false (by omega)) ?_
      subst hK63
      refine W.exit rfl ?_
      exact ⟨q62, Option.some.inj hq51, hE.pick _ ⟨rfl, trivial⟩, hS⟩
    · obtain ⟨hlt57, hx58, hd56⟩ := drop_cons hd56
      rw [Fleetload.loop1] at hq51
      refine W.seq ?_
      refine W.region ?_
      refine WL.vS hS hE (runs_plain rfl) (Gives.p hE rfl) rfl ?_; clear hE a; intro a hE
      refine WL.nil ?_
      refine W.seq ?_
      refine W.condT hE rfl (decide_eq_true (by omega)) ?_
      refine W.skip ?_
      refine W.seq ?_
      refine W.block ?_
      refine W.seq ?_
      refine W.region ?_
      obtain ⟨cs64, hl65, hR66, hat67⟩ := h1.at hx58
      subst hR66
      refine WL.vS hS hE (runs_plain rfl) (Gives.idx hE k53 rfl rfl sl22 rfl hlt57 (h1.aok hlt57)) rfl ?_; clear hE a; intro a hE
      refine WL.vS hS hE (runs_plain rfl) (Gives.load1 hE rfl (fun w h => hat67 w _ h) ty3) rfl ?_; clear hE a; intro a hE
      refine WL.vS hS hE (runs_plain rfl) (Gives.p hE rfl) rfl ?_; clear hE a; intro a hE
      refine WL.nil ?_
      refine W.regionQ (C := fun w => St w s (R)) mixed (by kernel_rfl) hS.drew ?_
      refine QL.v hE (runs_plain rfl) (Gives.p hE rfl) rfl ?_; clear hE a; intro a hE
      refine QL.v hE (runs_plain rfl) (Gives.p hE rfl) rfl ?_; clear hE a; intro a hE
      refine QL.v hE (runs_plain rfl) (Gives.p hE rfl) rfl ?_; clear hE a; intro a hE
      obtain ⟨x68, hx69, hq51⟩ := bindS hq51
      obtain ⟨hi70, hlt71, hy72⟩ := gx_some hx69
      obtain ⟨cs73, hl74, hR75, hat76⟩ := h0.at hy72
      subst hR75
      refine QL.v hE (runs_plain rfl) (Gives.idx hE (x54).toNat rfl rfl sl50 hi70 hlt71 (h0.aok hlt71)) rfl ?_; clear hE a; intro a hE
      refine QL.v hE (runs_plain rfl) (Gives.fld hE rfl fl90_2) rfl ?_; clear hE a; intro a hE
      refine QL.v hE (runs_plain rfl) (Gives.load1 hE rfl (fun w h => (hat76 w _ h).one rfl) ty3) rfl ?_; clear hE a; intro a hE
      refine QL.v hE (runs_plain rfl) (Gives.p hE rfl) rfl ?_; clear hE a; intro a hE
      refine QL.v hE (runs_plain rfl) (Gives.p hE rfl) rfl ?_; clear hE a; intro a hE
      obtain ⟨x77, hx78, hq51⟩ := bindS hq51
      obtain ⟨hi79, hlt80, hy81⟩ := gx_some hx78
      obtain ⟨cs82, hl83, hR84, hat85⟩ := h0.at hy81
      subst hR84
      refine QL.v hE (runs_plain rfl) (Gives.idx hE (x54).toNat rfl rfl sl50 hi79 hlt80 (h0.aok hlt80)) rfl ?_; clear hE a; intro a hE
      refine QL.v hE (runs_plain rfl) (Gives.fld hE rfl fl90_1) rfl ?_; clear hE a; intro a hE
      refine QL.v hE (runs_plain rfl) (Gives.load1 hE rfl (fun w h => (hat85 w _ h).one rfl) ty3) rfl ?_; clear hE a; intro a hE
      refine QL.v hE (runs_plain rfl) (Gives.p hE rfl) rfl ?_; clear hE a; intro a hE
      refine QL.v hE (runs_plain rfl) (Gives.p hE rfl) rfl ?_; clear hE a; intro a hE
      refine QL.v hE (runs_plain rfl) (Gives.p hE rfl) rfl ?_; clear hE a; intro a hE
      refine QL.nil ?_; clear hS w; intro w hS
      refine W.region ?_
      refine WL.vS hS hE (runs_plain rfl) (Gives.inc hE rfl (by have := h1.small; omega)) rfl ?_; clear hE a; intro a hE
      refine WL.vS hS hE (runs_plain rfl) (Gives.p hE rfl) rfl ?_; clear hE a; intro a hE
      refine WL.nil ?_
      subst hK63
      exact ⟨rest55.length, Nat.lt_succ_self _, rest55, k53 + 1, (w64 (q62 + (w64 (x68.End - x77.Start)))), rfl, hd56, hq51, hE.pick _ ⟨rfl, rfl, rfl, rfl, rfl, trivial⟩, hS⟩
  · clear hE hS a w; rintro a w ⟨q62, rfl, hE, hS⟩
    refine W.seq ?_
    refine W.region ?_
    refine WL.vS hS hE (runs_plain rfl) (Gives.p hE rfl) rfl ?_; clear hE a; intro a hE
    refine WL.vS hS hE (runs_plain rfl) (Gives.p hE rfl) rfl ?_; clear hE a; intro a hE
    refine WL.nil ?_
    refine W.ret ?_
    refine finG (fn := Try.f61) (rs := [.tmp 4]) (vs := [_]) hE rfl ⟨rfl, trivial⟩ ?_
    obtain rfl := Option.some.inj hr
    exact ⟨rfl, hS⟩
set_option maxHeartbeats 8000000 in
theorem FleetLoads_ok  {w : World} {s : Sg} {R : List HP} {x0 : List FleetShift} {a0 : Option Addr} {c0 : Nat} {x1 : List (List Int)} {a1 : Option Addr} {c1 : Nat} (hS : St w s (R)) (h0 : Sl 3 RFleetShift s a0 c0 x0) (h1 : Sl 1 (RL 1 (RI .i64)) s a1 c1 x1) {r : (List Int) × Int} (hr : FleetLoads x0 x1 = some r) :
    Calls Try.prog 28 [.slice a0 x0.length c0, .slice a1 x1.length c1].toArray w (fun e w => ∃ (a0 : Option Addr) (c0 n0 : Nat) (cs0 : List Value), e = .returned (.tuple #[.slice a0 n0 c0, .int .i64 r.2]) ∧ Ev 1 (RI .i64) s cs0 r.1 ∧ r.1.length = n0 ∧ St w s (vecC 3 1 a0 c0 n0 cs0 :: R)) := by
  refine enter Try.func28 rfl rfl rfl fun a hE => ?_
  rw [FleetLoads] at hr
  refine W.seq ?_
  refine W.region ?_
  refine WL.vS hS hE (runs_plain rfl) (Gives.p hE rfl) rfl ?_; clear hE a; intro a hE
  refine WL.vS hS hE (runs_plain rfl) (Gives.p hE rfl) rfl ?_; clear hE a; intro a hE
  refine WL.nil ?_
  refine W.seq ?_
  refine W.seq ?_
  refine W.region ?_
  refine WL.vS hS hE (runs_plain rfl) (Gives.p hE rfl) rfl ?_; clear hE a; intro a hE
  refine WL.fn hE (FleetCheckShifts_ok hS h0 rfl) (runs_plain rfl) bd30 rfl rfl ?_
  clear hE hS; rintro e w ⟨rfl, hS⟩; refine ⟨_, rfl, ?_⟩; clear a; intro a hE
  refine WL.vS hS hE (runs_plain rfl) (Gives.p hE rfl) rfl ?_; clear hE a; intro a hE
  refine WL.nil ?_
  refine W.seq ?_
  refine W.region ?_
  refine WL.vS hS hE (runs_plain rfl) (Gives.p hE rfl) rfl ?_; clear hE a; intro a hE
  refine WL.vS hS hE (runs_plain rfl) (Gives.p hE rfl) rfl ?_; clear hE a; intro a hE
  refine WL.nil ?_
  refine W.cond hE rfl (fun hc51 => ?_) (fun hc51 => ?_)
  · replace hr := iteT hc51 hr
    refine W.seq ?_
    refine W.region ?_
    refine WL.vS hS hE (runs_plain rfl) (Gives.p hE rfl) rfl ?_; clear hE a; intro a hE
    refine WL.vS hS hE (runs_plain rfl) (Gives.p hE rfl) rfl ?_; clear hE a; intro a hE
    refine WL.vS hS hE (runs_plain rfl) (Gives.p hE rfl) rfl ?_; clear hE a; intro a hE
    refine WL.nil ?_
    refine W.ret ?_
    replace hS := hS.vecNil 3 1
    refine finG (fn := Try.f28) (rs := [.tmp 4, .tmp 5]) (vs := [_, _]) hE rfl ⟨rfl, rfl, trivial⟩ ?_
    obtain rfl := Option.some.inj hr
    exact ⟨none, 0, 0, [], rfl, (Ev.nil), (rfl), hS⟩
  · replace hr := iteF hc51 hr
    refine W.skip ?_
    refine W.seq ?_
    refine W.seq ?_
    refine W.region ?_
    refine WL.vS hS hE (runs_plain rfl) (Gives.p hE rfl) rfl ?_; clear hE a; intro a hE
    refine WL.vS hS hE (runs_plain rfl) (Gives.p hE rfl) rfl ?_; clear hE a; intro a hE
    refine WL.fn hE (FleetcheckRoster_ok hS h0 h1 rfl) (runs_plain rfl) bd58 rfl rfl ?_
    clear hE hS; rintro e w ⟨rfl, hS⟩; refine ⟨_, rfl, ?_⟩; clear a; intro a hE
    refine WL.vS hS hE (runs_plain rfl) (Gives.p hE rfl) rfl ?_; clear hE a; intro a hE
    refine WL.nil ?_
    refine W.seq ?_
    refine W.region ?_
    refine WL.vS hS hE (runs_plain rfl) (Gives.p hE rfl) rfl ?_; clear hE a; intro a hE
    refine WL.vS hS hE (runs_plain rfl) (Gives.p hE rfl) rfl ?_; clear hE a; intro a hE
    refine WL.nil ?_
    refine W.cond hE rfl (fun hc53 => ?_) (fun hc53 => ?_)
    · replace hr := iteT hc53 hr
      refine W.seq ?_
      refine W.region ?_
      refine WL.vS hS hE (runs_plain rfl) (Gives.p hE rfl) rfl ?_; clear hE a; intro a hE
      refine WL.vS hS hE (runs_plain rfl) (Gives.p hE rfl) rfl ?_; clear hE a; intro a hE
      refine WL.vS hS hE (runs_plain rfl) (Gives.p hE rfl) rfl ?_; clear hE a; intro a hE
      refine WL.nil ?_
      refine W.ret ?_
      replace hS := hS.vecNil 3 1
      refine finG (fn := Try.f28) (rs := [.tmp 4, .tmp 5]) (vs := [_, _]) hE rfl ⟨rfl, rfl, trivial⟩ ?_
      obtain rfl := Option.some.inj hr
      exact ⟨none, 0, 0, [], rfl, (Ev.nil), (rfl), hS⟩
    · replace hr := iteF hc53 hr
      refine W.skip ?_
      refine W.seq ?_
      refine W.region ?_
      replace hS := hS.vecNil 3 1
      refine WL.vS hS hE (runs_plain rfl) (Gives.p hE rfl) rfl ?_; clear hE a; intro a hE
      refine WL.nil ?_
      refine W.seq ?_
      refine W.seq ?_
      refine W.region ?_
      refine WL.vS hS hE (runs_plain rfl) (Gives.p hE rfl) rfl ?_; clear hE a; intro a hE
      refine WL.vS hS hE (runs_plain rfl) (Gives.len hE rfl sl23) rfl ?_; clear hE a; intro a hE
      refine WL.vS hS hE (runs_plain rfl) (Gives.p hE rfl) rfl ?_; clear hE a; intro a hE
      refine WL.nil ?_
      obtain ⟨q57, hq56, hr⟩ := bindS hr
      refine W.cut (fun a w => ∃ (q67 : List Int), ∃ (a68 : Option Addr), ∃ (c69 : Nat), ∃ (n71 : Nat), ∃ (cs72 : List Value), q67 = q57 ∧ Ev 1 (RI .i64) s cs72 q67 ∧ q67.length = n71 ∧ Rep a 36 [(8, .slice a68 n71 c69)] ∧ St w s (vecC 3 1 a68 c69 n71 cs72 :: R)) ?_ ?_
      · refine W.block ?_
        refine W.loop (fun m a w => ∃ (rest60 : List (List Int)) (k58 : Nat), ∃ (q67 : List Int), ∃ (a68 : Option Addr), ∃ (c69 : Nat), ∃ (n71 : Nat), ∃ (cs72 : List Value), rest60.length = m ∧ x1.drop k58 = rest60 ∧ FleetLoads.loop1 x0 rest60 q67 = some q57 ∧ Ev 1 (RI .i64) s cs72 q67 ∧ q67.length = n71 ∧ Rep a 36 [(0, .slice a0 x0.length c0), (8, .slice a68 n71 c69), (22, .slice a1 x1.length c1), (23, .int .i64 ((x1).length : Int)), (24, .int .i64 ((k58 : Nat) : Int))] ∧ St w s (vecC 3 1 a68 c69 n71 cs72 :: R)) (m := x1.length) ⟨x1, 0, [], none, 0, 0, [], rfl, rfl, hq56, (Ev.nil), (rfl), hE.pick _ ⟨rfl, rfl, rfl, rfl, rfl, trivial⟩, hS⟩ ?_
        clear hE hS a w hq56; rintro m64 a w ⟨rest60, k58, q67, a68, c69, n71, cs72, rfl, hd61, hq56, h70, rfl, hE, hS⟩
        refine W.gen fun K74 hK74 => ?_
        rcases rest60 with _ | ⟨x59, rest60⟩
        · have hlt62 := drop_nil hd61
          refine W.seq ?_
          refine W.region ?_
          refine WL.vS hS hE (runs_plain rfl) (Gives.p hE rfl) rfl ?_; clear hE a; intro a hE
          refine WL.nil ?_
          refine W.seq ?_
          refine W.condF hE rfl (decide_eq_false (by omega)) ?_
          subst hK74
          refine W.exit rfl ?_
          exact ⟨q67, a68, c69, q67.length, cs72, Option.some.inj hq56, h70, rfl, hE.pick _ ⟨rfl, trivial⟩, hS⟩
        · obtain ⟨hlt62, hx63, hd61⟩ := drop_cons hd61
          rw [FleetLoads.loop1] at hq56
          refine W.seq ?_
          refine W.region ?_
          refine WL.vS hS hE (runs_plain rfl) (Gives.p hE rfl) rfl ?_; clear hE a; intro a hE
          refine WL.nil ?_
          refine W.seq ?_
          refine W.condT hE rfl (decide_eq_true (by omega)) ?_
          refine W.skip ?_
          refine W.seq ?_
          refine W.block ?_
          refine W.seq ?_
          refine W.region ?_
          obtain ⟨cs75, hl76, hR77, hat78⟩ := h1.at hx63
          obtain ⟨a79, c80, rfl, h81⟩ := hR77
          refine WL.vS hS hE (runs_plain rfl) (Gives.idx hE k58 rfl rfl sl23 rfl hlt62 (h1.aok hlt62)) rfl ?_; clear hE a; intro a hE
          refine WL.vS hS hE (runs_plain rfl) (Gives.load1 hE rfl (fun w h => hat78 w _ h) ty22) rfl ?_; clear hE a; intro a hE
          refine WL.vS hS hE (runs_plain rfl) (Gives.p hE rfl) rfl ?_; clear hE a; intro a hE
          refine WL.nil ?_
          refine W.region ?_
          refine WL.vS hS hE (runs_plain rfl) (Gives.p hE rfl) rfl ?_; clear hE a; intro a hE
          refine WL.vS hS hE (runs_plain rfl) (Gives.p hE rfl) rfl ?_; clear hE a; intro a hE
          refine WL.vS hS hE (runs_plain rfl) (Gives.p hE rfl) rfl ?_; clear hE a; intro a hE
          obtain ⟨q82, hq83, hq56⟩ := bindS hq56
          refine WL.fn hE (Fleetload_ok hS h0 h81 hq83) (runs_plain rfl) bd61 rfl rfl ?_
          clear hE hS; rintro e w ⟨rfl, hS⟩; refine ⟨_, rfl, ?_⟩; clear a; intro a hE
          refine WL.lit hE hS (e := 3) (es := 1) (vs := [(0, .int .i64 q82)]) (cs := [.int .i64 q82]) (runs_plain rfl) rfl (by kernel_rfl) rfl ?_; clear hE hS a w; intro b84 a w hE hS
          obtain ⟨x85, hx86, hq56⟩ := bindS hq56
          refine WL.appD hE hS 0 (m := 1) (runs_plain rfl) rfl rfl rfl ap22 rfl h70 rfl (xs := [q82]) (Ev.cons (c1 := [.int .i64 q82]) rfl rfl (Ev.nil)) rfl rfl hx86 rfl ?_; clear hE hS a w; intro a87 c88 cs89 a w h90 hE hS
          refine WL.vS hS hE (runs_plain rfl) (Gives.p hE rfl) rfl ?_; clear hE a; intro a hE
          refine WL.nil ?_
          refine W.region ?_
          refine WL.vS hS hE (runs_plain rfl) (Gives.inc hE rfl (by have := h1.small; omega)) rfl ?_; clear hE a; intro a hE
          refine WL.vS hS hE (runs_plain rfl) (Gives.p hE rfl) rfl ?_; clear hE a; intro a hE
          refine WL.nil ?_
          subst hK74
          exact ⟨rest60.length, Nat.lt_succ_self _, rest60, k58 + 1, x85, a87, c88, x85.length, cs89, rfl, hd61, hq56, h90, (rfl), hE.pick _ ⟨rfl, rfl, rfl, rfl, rfl, trivial⟩, hS⟩
      · clear hE hS a w; rintro a w ⟨q67, a68, c69, n71, cs72, rfl, h70, rfl, hE, hS⟩
        refine W.seq ?_
        refine W.region ?_
        refine WL.vS hS hE (runs_plain rfl) (Gives.p hE rfl) rfl ?_; clear hE a; intro a hE
        refine WL.vS hS hE (runs_plain rfl) (Gives.p hE rfl) rfl ?_; clear hE a; intro a hE
        refine WL.vS hS hE (runs_plain rfl) (Gives.p hE rfl) rfl ?_; clear hE a; intro a hE
        refine WL.nil ?_
        refine W.ret ?_
        refine finG (fn := Try.f28) (rs := [.tmp 4, .tmp 5]) (vs := [_, _]) hE rfl ⟨rfl, rfl, trivial⟩ ?_
        obtain rfl := Option.some.inj hr
        exact ⟨a68, c69, q67.length, cs72, rfl, h70, rfl, hS⟩
set_option maxHeartbeats 8000000 in
theorem FleetCheckTasks_ok  {w : World} {s : Sg} {R : List HP} {x0 : List FleetTask} {a0 : Option Addr} {c0 : Nat} (hS : St w s (R)) (h0 : Sl 6 RFleetTask s a0 c0 x0) {r : Int} (hr : FleetCheckTasks x0 = r) :
    Calls Try.prog 34 [.slice a0 x0.length c0].toArray w (fun e w => e = .returned (.int .i64 r) ∧ St w s (R)) := by
  refine enter Try.func34 rfl rfl rfl fun a hE => ?_
  rw [FleetCheckTasks] at hr
  refine W.seq ?_
  refine W.region ?_
  refine WL.vS hS hE (runs_plain rfl) (Gives.p hE rfl) rfl ?_; clear hE a; intro a hE
  refine WL.nil ?_
  refine W.seq ?_
  refine W.seq ?_
  refine W.region ?_
  refine WL.vS hS hE (runs_plain rfl) (Gives.p hE rfl) rfl ?_; clear hE a; intro a hE
  refine WL.vS hS hE (runs_plain rfl) (Gives.len hE rfl sl33) rfl ?_; clear hE a; intro a hE
  refine WL.vS hS hE (runs_plain rfl) (Gives.p hE rfl) rfl ?_; clear hE a; intro a hE
  refine WL.nil ?_
  refine W.cond hE rfl (fun hc51 => ?_) (fun hc51 => ?_)
  · replace hr := iteT hc51 hr
    refine W.seq ?_
    refine W.region ?_
    refine WL.vS hS hE (runs_plain rfl) (Gives.p hE rfl) rfl ?_; clear hE a; intro a hE
    refine WL.nil ?_
    refine W.ret ?_
    refine finG (fn := Try.f34) (rs := [.tmp 2]) (vs := [_]) hE rfl ⟨rfl, trivial⟩ ?_
    subst hr
    exact ⟨rfl, hS⟩
  · replace hr := iteF hc51 hr
    refine W.skip ?_
    refine W.seq ?_
    refine W.seq ?_
    refine W.region ?_
    refine WL.vS hS hE (runs_plain rfl) (Gives.p hE rfl) rfl ?_; clear hE a; intro a hE
    refine WL.vS hS hE (runs_plain rfl) (Gives.len hE rfl sl33) rfl ?_; clear hE a; intro a hE
    refine WL.vS hS hE (runs_plain rfl) (Gives.p hE rfl) rfl ?_; clear hE a; intro a hE
    refine WL.nil ?_
    obtain ⟨q53, hq52, hr⟩ := bndS hr
    refine W.cut (fun a w => (.next ()) = q53 ∧ Rep a 55 [] ∧ St w s (R)) ?_ ?_
    · refine W.block ?_
      refine W.loop (fun m a w => ∃ (rest56 : List FleetTask) (k54 : Nat), rest56.length = m ∧ x0.drop k54 = rest56 ∧ FleetCheckTasks.loop1 rest56 = q53 ∧ Rep a 55 [(8, .slice a0 x0.length c0), (9, .int .i64 ((x0).length : Int)), (10, .int .i64 ((k54 : Nat) : Int))] ∧ St w s (R)) (m := x0.length) ⟨x0, 0, rfl, rfl, hq52, hE.pick _ ⟨rfl, rfl, rfl, trivial⟩, hS⟩ ?_
      clear hE hS a w hq52; rintro m60 a w ⟨rest56, k54, rfl, hd57, hq52, hE, hS⟩
      refine W.gen fun K63 hK63 => ?_
      rcases rest56 with _ | ⟨x55, rest56⟩
      · have hlt58 := drop_nil hd57
        refine W.seq ?_
        refine W.region ?_
        refine WL.vS hS hE (runs_plain rfl) (Gives.p hE rfl) rfl ?_; clear hE a; intro a hE
        refine WL.nil ?_
        refine W.seq ?_
        refine W.condF hE rfl (decide_eq_false (by omega)) ?_
        subst hK63
        refine W.exit rfl ?_
        exact ⟨hq52, hE.pick _ trivial, hS⟩
      · obtain ⟨hlt58, hx59, hd57⟩ := drop_cons hd57
        rw [FleetCheckTasks.loop1] at hq52
        refine W.seq ?_
        refine W.region ?_
        refine WL.vS hS hE (runs_plain rfl) (Gives.p hE rfl) rfl ?_; clear hE a; intro a hE
        refine WL.nil ?_
        refine W.seq ?_
        refine W.condT hE rfl (decide_eq_true (by omega)) ?_
        refine W.skip ?_
        refine W.seq ?_
        refine W.block ?_
        refine W.seq ?_
        refine W.region ?_
        obtain ⟨cs64, hl65, hR66, hat67⟩ := h0.at hx59
        subst hR66
        refine WL.vS hS hE (runs_plain rfl) (Gives.idx hE k54 rfl rfl sl33 rfl hlt58 (h0.aok hlt58)) rfl ?_; clear hE a; intro a hE
        refine WL.vS hS hE (runs_plain rfl) (Gives.loadA hE rfl (fun w h => hat67 w _ h) ty84) rfl ?_; clear hE a; intro a hE
        refine WL.alloc hE hS (runs_plain rfl) zr84 rfl ?_; clear hE hS a w; intro b68 a w hE hS
        refine WL.storeI hE hS 0 rfl (FleetTask.cells x55) (runs_plain rfl) rfl rfl rfl ty84 rfl rfl rfl rfl ?_; clear hE hS a w; intro a w hE hS
        refine WL.nil ?_
        refine W.block ?_
        refine W.seq ?_
        obtain ⟨q70, hq69, hq52⟩ := bndS hq52
        refine W.cut (fun a w => ∃ (q73 : Bool), q73 = q70 ∧ Rep a 55 [(4, .pointer (some ⟨b68, 0, none⟩)), (8, .slice a0 x0.length c0), (9, .int .i64 ((x0).length : Int)), (10, .int .i64 ((k54 : Nat) : Int)), (14, .bool q73)] ∧ St w s (pt b68 (.cells (FleetTask.cells x55).toArray 84 (0, 0)) :: R)) ?_ ?_
        · refine W.gen fun K74 hK74 => ?_
          refine W.region ?_
          refine WL.vS hS hE (runs_plain rfl) (Gives.fld hE rfl fl84_0) rfl ?_; clear hE a; intro a hE
          refine WL.vS hS hE (runs_plain rfl) (Gives.loadB hE 0 rfl rfl rfl ty3) rfl ?_; clear hE a; intro a hE
          refine WL.fn hE (Fleetwithin_ok hS  rfl) (runs_plain rfl) bd51 rfl rfl ?_
          clear hE hS; rintro e w ⟨rfl, hS⟩; refine ⟨_, rfl, ?_⟩; clear a; intro a hE
          refine WL.vS hS hE (runs_plain rfl) (Gives.p hE rfl) rfl ?_; clear hE a; intro a hE
          refine WL.vS hS hE (runs_plain rfl) (Gives.p hE rfl) rfl ?_; clear hE a; intro a hE
          rcases Bool.eq_false_or_eq_true (!(Fleetwithin x55.From 0 11)) with hg75 | hg75
          · replace hq69 := iteT hg75 hq69
            refine WL.no hE (runs_not hE rfl rfl rfl (by rw [hg75]; decide)) rfl ?_; clear hE a; intro a hE
            refine WL.no hE (runs_not hE rfl rfl rfl (by rw [hg75]; decide)) rfl ?_; clear hE a; intro a hE
            refine WL.no hE (runs_not hE rfl rfl rfl (by rw [hg75]; decide)) rfl ?_; clear hE a; intro a hE
            refine WL.no hE (runs_not hE rfl rfl rfl (by rw [hg75]; decide)) rfl ?_; clear hE a; intro a hE
            refine WL.vS hS hE (runs_plain rfl) (Gives.pickT hE rfl hg75 rfl) rfl ?_; clear hE a; intro a hE
            refine WL.vS hS hE (runs_plain rfl) (Gives.p hE rfl) rfl ?_; clear hE a; intro a hE
            refine WL.no hE (runs_not hE rfl rfl rfl (by decide)) rfl ?_; clear hE a; intro a hE
            refine WL.no hE (runs_not hE rfl rfl rfl (by decide)) rfl ?_; clear hE a; intro a hE
            refine WL.no hE (runs_not hE rfl rfl rfl (by decide)) rfl ?_; clear hE a; intro a hE
            refine WL.no hE (runs_not hE rfl rfl rfl (by decide)) rfl ?_; clear hE a; intro a hE
            refine WL.vS hS hE (runs_plain rfl) (Gives.pickT hE rfl rfl rfl) rfl ?_; clear hE a; intro a hE
            refine WL.vS hS hE (runs_plain rfl) (Gives.p hE rfl) rfl ?_; clear hE a; intro a hE
            refine WL.no hE (runs_not hE rfl rfl rfl (by decide)) rfl ?_; clear hE a; intro a hE
            refine WL.no hE (runs_not hE rfl rfl rfl (by decide)) rfl ?_; clear hE a; intro a hE
            refine WL.no hE (runs_not hE rfl rfl rfl (by decide)) rfl ?_; clear hE a; intro a hE
            refine WL.no hE (runs_not hE rfl rfl rfl (by decide)) rfl ?_; clear hE a; intro a hE
            refine WL.vS hS hE (runs_plain rfl) (Gives.pickT hE rfl rfl rfl) rfl ?_; clear hE a; intro a hE
            refine WL.vS hS hE (runs_plain rfl) (Gives.p hE rfl) rfl ?_; clear hE a; intro a hE
            refine WL.nil ?_
            subst hK74
            exact ⟨true, hq69, hE.pick _ ⟨rfl, rfl, rfl, rfl, rfl, trivial⟩, hS⟩
          · replace hq69 := iteF hg75 hq69
            refine WL.vS hS hE (runs_if hE rfl rfl rfl hg75) (Gives.fld hE rfl fl84_1) rfl ?_; clear hE a; intro a hE
            refine WL.vS hS hE (runs_if hE rfl rfl rfl hg75) (Gives.loadB hE 0 rfl rfl rfl ty3) rfl ?_; clear hE a; intro a hE
            refine WL.fn hE (Fleetwithin_ok hS  rfl) (runs_if hE rfl rfl rfl hg75) bd51 rfl rfl ?_
            clear hE hS; rintro e w ⟨rfl, hS⟩; refine ⟨_, rfl, ?_⟩; clear a; intro a hE
            refine WL.vS hS hE (runs_if hE rfl rfl rfl hg75) (Gives.p hE rfl) rfl ?_; clear hE a; intro a hE
            refine WL.vS hS hE (runs_plain rfl) (Gives.pickF hE rfl hg75 rfl) rfl ?_; clear hE a; intro a hE
            refine WL.vS hS hE (runs_plain rfl) (Gives.p hE rfl) rfl ?_; clear hE a; intro a hE
            rcases Bool.eq_false_or_eq_true (!(Fleetwithin x55.To 0 11)) with hg76 | hg76
            · replace hq69 := iteT hg76 hq69
              refine WL.no hE (runs_not hE rfl rfl rfl (by rw [hg76]; decide)) rfl ?_; clear hE a; intro a hE
              refine WL.no hE (runs_not hE rfl rfl rfl (by rw [hg76]; decide)) rfl ?_; clear hE a; intro a hE
              refine WL.no hE (runs_not hE rfl rfl rfl (by rw [hg76]; decide)) rfl ?_; clear hE a; intro a hE
              refine WL.no hE (runs_not hE rfl rfl rfl (by rw [hg76]; decide)) rfl ?_; clear hE a; intro a hE
              refine WL.vS hS hE (runs_plain rfl) (Gives.pickT hE rfl hg76 rfl) rfl ?_; clear hE a; intro a hE
              refine WL.vS hS hE (runs_plain rfl) (Gives.p hE rfl) rfl ?_; clear hE a; intro a hE
              refine WL.no hE (runs_not hE rfl rfl rfl (by decide)) rfl ?_; clear hE a; intro a hE
              refine WL.no hE (runs_not hE rfl rfl rfl (by decide)) rfl ?_; clear hE a; intro a hE
              refine WL.no hE (runs_not hE rfl rfl rfl (by decide)) rfl ?_; clear hE a; intro a hE
              refine WL.no hE (runs_not hE rfl rfl rfl (by decide)) rfl ?_; clear hE a; intro a hE
              refine WL.vS hS hE (runs_plain rfl) (Gives.pickT hE rfl rfl rfl) rfl ?_; clear hE a; intro a hE
              refine WL.vS hS hE (runs_plain rfl) (Gives.p hE rfl) rfl ?_; clear hE a; intro a hE
              refine WL.nil ?_
              subst hK74
              exact ⟨true, hq69, hE.pick _ ⟨rfl, rfl, rfl, rfl, rfl, trivial⟩, hS⟩
            · replace hq69 := iteF hg76 hq69
              refine WL.vS hS hE (runs_if hE rfl rfl rfl hg76) (Gives.fld hE rfl fl84_2) rfl ?_; clear hE a; intro a hE
              refine WL.vS hS hE (runs_if hE rfl rfl rfl hg76) (Gives.loadB hE 0 rfl rfl rfl ty3) rfl ?_; clear hE a; intro a hE
              refine WL.fn hE (Fleetwithin_ok hS  rfl) (runs_if hE rfl rfl rfl hg76) bd51 rfl rfl ?_
              clear hE hS; rintro e w ⟨rfl, hS⟩; refine ⟨_, rfl, ?_⟩; clear a; intro a hE
              refine WL.vS hS hE (runs_if hE rfl rfl rfl hg76) (Gives.p hE rfl) rfl ?_; clear hE a; intro a hE
              refine WL.vS hS hE (runs_plain rfl) (Gives.pickF hE rfl hg76 rfl) rfl ?_; clear hE a; intro a hE
              refine WL.vS hS hE (runs_plain rfl) (Gives.p hE rfl) rfl ?_; clear hE a; intro a hE
              rcases Bool.eq_false_or_eq_true (!(Fleetwithin x55.Dep 0 28800)) with hg77 | hg77
              · replace hq69 := iteT hg77 hq69
                refine WL.no hE (runs_not hE rfl rfl rfl (by rw [hg77]; decide)) rfl ?_; clear hE a; intro a hE
                refine WL.no hE (runs_not hE rfl rfl rfl (by rw [hg77]; decide)) rfl ?_; clear hE a; intro a hE
                refine WL.no hE (runs_not hE rfl rfl rfl (by rw [hg77]; decide)) rfl ?_; clear hE a; intro a hE
                refine WL.no hE (runs_not hE rfl rfl rfl (by rw [hg77]; decide)) rfl ?_; clear hE a; intro a hE
                refine WL.vS hS hE (runs_plain rfl) (Gives.pickT hE rfl hg77 rfl) rfl ?_; clear hE a; intro a hE
                refine WL.vS hS hE (runs_plain rfl) (Gives.p hE rfl) rfl ?_; clear hE a; intro a hE
                refine WL.nil ?_
                subst hK74
                exact ⟨true, hq69, hE.pick _ ⟨rfl, rfl, rfl, rfl, rfl, trivial⟩, hS⟩
              · replace hq69 := iteF hg77 hq69
                refine WL.vS hS hE (runs_if hE rfl rfl rfl hg77) (Gives.fld hE rfl fl84_3) rfl ?_; clear hE a; intro a hE
                refine WL.vS hS hE (runs_if hE rfl rfl rfl hg77) (Gives.loadB hE 0 rfl rfl rfl ty3) rfl ?_; clear hE a; intro a hE
                refine WL.fn hE (Fleetwithin_ok hS  rfl) (runs_if hE rfl rfl rfl hg77) bd51 rfl rfl ?_
                clear hE hS; rintro e w ⟨rfl, hS⟩; refine ⟨_, rfl, ?_⟩; clear a; intro a hE
                refine WL.vS hS hE (runs_if hE rfl rfl rfl hg77) (Gives.p hE rfl) rfl ?_; clear hE a; intro a hE
                refine WL.vS hS hE (runs_plain rfl) (Gives.pickF hE rfl hg77 rfl) rfl ?_; clear hE a; intro a hE
                refine WL.vS hS hE (runs_plain rfl) (Gives.p hE rfl) rfl ?_; clear hE a; intro a hE
                refine WL.nil ?_
                subst hK74
                exact ⟨!(Fleetwithin x55.Arr 0 28800), hq69, hE.pick _ ⟨rfl, rfl, rfl, rfl, rfl, trivial⟩, hS⟩
        · clear hE hS a w; rintro a w ⟨q73, rfl, hE, hS⟩
          refine W.cond hE rfl (fun hc78 => ?_) (fun hc78 => ?_)
          · replace hq52 := iteT hc78 hq52
            refine W.seq ?_
            refine W.region ?_
            refine WL.vS hS hE (runs_plain rfl) (Gives.p hE rfl) rfl ?_; clear hE a; intro a hE
            refine WL.nil ?_
            refine W.ret ?_
            subst hK63
            rw [← hq52] at hr
            dsimp only at hr
            refine finG (fn := Try.f34) (rs := [.tmp 2]) (vs := [_]) hE rfl ⟨rfl, trivial⟩ ?_
            subst hr
            replace hS := hS.tail
            exact ⟨rfl, hS⟩
          · replace hq52 := iteF hc78 hq52
            refine W.seq ?_
            refine W.region ?_
            refine WL.vS hS hE (runs_plain rfl) (Gives.fld hE rfl fl84_3) rfl ?_; clear hE a; intro a hE
            refine WL.vS hS hE (runs_plain rfl) (Gives.loadB hE 0 rfl rfl rfl ty3) rfl ?_; clear hE a; intro a hE
            refine WL.vS hS hE (runs_plain rfl) (Gives.fld hE rfl fl84_2) rfl ?_; clear hE a; intro a hE
            refine WL.vS hS hE (runs_plain rfl) (Gives.loadB hE 0 rfl rfl rfl ty3) rfl ?_; clear hE a; intro a hE
            refine WL.vS hS hE (runs_plain rfl) (Gives.p hE rfl) rfl ?_; clear hE a; intro a hE
            refine WL.vS hS hE (runs_plain rfl) (Gives.p hE rfl) rfl ?_; clear hE a; intro a hE
            refine WL.nil ?_
            refine W.cond hE rfl (fun hc79 => ?_) (fun hc79 => ?_)
            · replace hq52 := iteT hc79 hq52
              refine W.seq ?_
              refine W.region ?_
              refine WL.vS hS hE (runs_plain rfl) (Gives.p hE rfl) rfl ?_; clear hE a; intro a hE
              refine WL.nil ?_
              refine W.ret ?_
              subst hK63
              rw [← hq52] at hr
              dsimp only at hr
              refine finG (fn := Try.f34) (rs := [.tmp 2]) (vs := [_]) hE rfl ⟨rfl, trivial⟩ ?_
              subst hr
              replace hS := hS.tail
              exact ⟨rfl, hS⟩
            · replace hq52 := iteF hc79 hq52
              refine W.seq ?_
              obtain ⟨q81, hq80, hq52⟩ := bndS hq52
              refine W.cut (fun a w => ∃ (q84 : Bool), q84 = q81 ∧ Rep a 55 [(8, .slice a0 x0.length c0), (9, .int .i64 ((x0).length : Int)), (10, .int .i64 ((k54 : Nat) : Int)), (43, .bool q84)] ∧ St w s (pt b68 (.cells (FleetTask.cells x55).toArray 84 (0, 0)) :: R)) ?_ ?_
              · refine W.gen fun K85 hK85 => ?_
                refine W.region ?_
                refine WL.vS hS hE (runs_plain rfl) (Gives.fld hE rfl fl84_4) rfl ?_; clear hE a; intro a hE
                refine WL.vS hS hE (runs_plain rfl) (Gives.loadB hE 0 rfl rfl rfl ty3) rfl ?_; clear hE a; intro a hE
                refine WL.fn hE (Fleetwithin_ok hS  rfl) (runs_plain rfl) bd51 rfl rfl ?_
                clear hE hS; rintro e w ⟨rfl, hS⟩; refine ⟨_, rfl, ?_⟩; clear a; intro a hE
                refine WL.vS hS hE (runs_plain rfl) (Gives.p hE rfl) rfl ?_; clear hE a; intro a hE
                refine WL.vS hS hE (runs_plain rfl) (Gives.p hE rfl) rfl ?_; clear hE a; intro a hE
                rcases Bool.eq_false_or_eq_true (!(Fleetwithin x55.Km 0 10000)) with hg86 | hg86
                · replace hq80 := iteT hg86 hq80
                  refine WL.no hE (runs_not hE rfl rfl rfl (by rw [hg86]; decide)) rfl ?_; clear hE a; intro a hE
                  refine WL.no hE (runs_not hE rfl rfl rfl (by rw [hg86]; decide)) rfl ?_; clear hE a; intro a hE
                  refine WL.no hE (runs_not hE rfl rfl rfl (by rw [hg86]; decide)) rfl ?_; clear hE a; intro a hE
                  refine WL.no hE (runs_not hE rfl rfl rfl (by rw [hg86]; decide)) rfl ?_; clear hE a; intro a hE
                  refine WL.vS hS hE (runs_plain rfl) (Gives.pickT hE rfl hg86 rfl) rfl ?_; clear hE a; intro a hE
                  refine WL.vS hS hE (runs_plain rfl) (Gives.p hE rfl) rfl ?_; clear hE a; intro a hE
                  refine WL.nil ?_
                  subst hK85
                  exact ⟨true, hq80, hE.pick _ ⟨rfl, rfl, rfl, rfl, trivial⟩, hS⟩
                · replace hq80 := iteF hg86 hq80
                  refine WL.vS hS hE (runs_if hE rfl rfl rfl hg86) (Gives.fld hE rfl fl84_5) rfl ?_; clear hE a; intro a hE
                  refine WL.vS hS hE (runs_if hE rfl rfl rfl hg86) (Gives.loadB hE 0 rfl rfl rfl ty3) rfl ?_; clear hE a; intro a hE
                  refine WL.fn hE (Fleetwithin_ok hS  rfl) (runs_if hE rfl rfl rfl hg86) bd51 rfl rfl ?_
                  clear hE hS; rintro e w ⟨rfl, hS⟩; refine ⟨_, rfl, ?_⟩; clear a; intro a hE
                  refine WL.vS hS hE (runs_if hE rfl rfl rfl hg86) (Gives.p hE rfl) rfl ?_; clear hE a; intro a hE
                  refine WL.vS hS hE (runs_plain rfl) (Gives.pickF hE rfl hg86 rfl) rfl ?_; clear hE a; intro a hE
                  refine WL.vS hS hE (runs_plain rfl) (Gives.p hE rfl) rfl ?_; clear hE a; intro a hE
                  refine WL.nil ?_
                  subst hK85
                  exact ⟨!(Fleetwithin x55.Units 1 4), hq80, hE.pick _ ⟨rfl, rfl, rfl, rfl, trivial⟩, hS⟩
              · clear hE hS a w; rintro a w ⟨q84, rfl, hE, hS⟩
                refine W.cond hE rfl (fun hc87 => ?_) (fun hc87 => ?_)
                · replace hq52 := iteT hc87 hq52
                  refine W.seq ?_
                  refine W.region ?_
                  refine WL.vS hS hE (runs_plain rfl) (Gives.p hE rfl) rfl ?_; clear hE a; intro a hE
                  refine WL.nil ?_
                  refine W.ret ?_
                  subst hK63
                  rw [← hq52] at hr
                  dsimp only at hr
                  refine finG (fn := Try.f34) (rs := [.tmp 2]) (vs := [_]) hE rfl ⟨rfl, trivial⟩ ?_
                  subst hr
                  replace hS := hS.tail
                  exact ⟨rfl, hS⟩
                · replace hq52 := iteF hc87 hq52
                  refine W.skip ?_
                  refine W.region ?_
                  refine WL.vS hS hE (runs_plain rfl) (Gives.inc hE rfl (by have := h0.small; omega)) rfl ?_; clear hE a; intro a hE
                  refine WL.vS hS hE (runs_plain rfl) (Gives.p hE rfl) rfl ?_; clear hE a; intro a hE
                  refine WL.nil ?_
                  replace hS := hS.tail
                  subst hK63
                  exact ⟨rest56.length, Nat.lt_succ_self _, rest56, k54 + 1, rfl, hd57, hq52, hE.pick _ ⟨rfl, rfl, rfl, trivial⟩, hS⟩
    · clear hE hS a w; rintro a w ⟨rfl, hE, hS⟩
      dsimp only at hr
      refine W.seq ?_
      refine W.region ?_
      refine WL.vS hS hE (runs_plain rfl) (Gives.p hE rfl) rfl ?_; clear hE a; intro a hE
      refine WL.nil ?_
      refine W.ret ?_
      refine finG (fn := Try.f34) (rs := [.tmp 2]) (vs := [_]) hE rfl ⟨rfl, trivial⟩ ?_
      subst hr
      exact ⟨rfl, hS⟩
set_option maxHeartbeats 8000000 in
theorem FleetcheckTasks_ok  {w : World} {s : Sg} {R : List HP} {x0 : List FleetTask} {a0 : Option Addr} {c0 : Nat} {x1 : FleetLimits} (hS : St w s (R)) (h0 : Sl 6 RFleetTask s a0 c0 x0) {r : Int} (hr : FleetcheckTasks x0 x1 = r) :
    Calls Try.prog 52 [.slice a0 x0.length c0, .agg (FleetLimits.cells x1).toArray].toArray w (fun e w => e = .returned (.int .i64 r) ∧ St w s (R)) := by
  refine enter Try.func52 rfl rfl rfl fun a hE => ?_
  rw [FleetcheckTasks] at hr
  refine W.seq ?_
  refine W.region ?_
  refine WL.box hE hS (runs_plain rfl) rfl rfl rfl ?_; clear hE hS a w; intro b51 a w hE hS
  refine WL.vS hS hE (runs_plain rfl) (Gives.p hE rfl) rfl ?_; clear hE a; intro a hE
  refine WL.nil ?_
  refine W.seq ?_
  refine W.seq ?_
  refine W.region ?_
  refine WL.vS hS hE (runs_plain rfl) (Gives.p hE rfl) rfl ?_; clear hE a; intro a hE
  refine WL.fn hE (FleetCheckTasks_ok hS h0 rfl) (runs_plain rfl) bd34 rfl rfl ?_
  clear hE hS; rintro e w ⟨rfl, hS⟩; refine ⟨_, rfl, ?_⟩; clear a; intro a hE
  refine WL.vS hS hE (runs_plain rfl) (Gives.p hE rfl) rfl ?_; clear hE a; intro a hE
  refine WL.nil ?_
  refine W.seq ?_
  refine W.region ?_
  refine WL.vS hS hE (runs_plain rfl) (Gives.p hE rfl) rfl ?_; clear hE a; intro a hE
  refine WL.vS hS hE (runs_plain rfl) (Gives.p hE rfl) rfl ?_; clear hE a; intro a hE
  refine WL.nil ?_
  refine W.cond hE rfl (fun hc52 => ?_) (fun hc52 => ?_)
  · replace hr := iteT hc52 hr
    refine W.seq ?_
    refine W.region ?_
    refine WL.vS hS hE (runs_plain rfl) (Gives.p hE rfl) rfl ?_; clear hE a; intro a hE
    refine WL.vS hS hE (runs_plain rfl) (Gives.p hE rfl) rfl ?_; clear hE a; intro a hE
    refine WL.nil ?_
    refine W.ret ?_
    refine finG (fn := Try.f52) (rs := [.tmp 4]) (vs := [_]) hE rfl ⟨rfl, trivial⟩ ?_
    subst hr
    replace hS := hS.tail
    exact ⟨rfl, hS⟩
  · replace hr := iteF hc52 hr
    refine W.skip ?_
    refine W.seq ?_
    refine W.region ?_
    refine WL.vS hS hE (runs_plain rfl) (Gives.loadBA hE 0 rfl rfl ty35) rfl ?_; clear hE a; intro a hE
    refine WL.fn hE (FleetCheckLimits_ok hS  rfl) (runs_plain rfl) bd36 rfl rfl ?_
    clear hE hS; rintro e w ⟨rfl, hS⟩; refine ⟨_, rfl, ?_⟩; clear a; intro a hE
    refine WL.vS hS hE (runs_plain rfl) (Gives.p hE rfl) rfl ?_; clear hE a; intro a hE
    refine WL.nil ?_
    refine W.ret ?_
    refine finG (fn := Try.f52) (rs := [.tmp 4]) (vs := [_]) hE rfl ⟨rfl, trivial⟩ ?_
    subst hr
    replace hS := hS.tail
    exact ⟨rfl, hS⟩
end Go.Proofs.Ytpoooohaoekbaaa
