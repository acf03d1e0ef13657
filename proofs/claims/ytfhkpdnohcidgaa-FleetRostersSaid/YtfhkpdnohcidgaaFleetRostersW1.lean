/- The walks of the functions that FleetRosters reaches: each call comes to what its mirror says. The conditions are those of each contract. -/
import Derived.Test.YtfhkpdnohcidgaaProg
import Derived.Test.YtfhkpdnohcidgaaFleetRostersM
import Derived.Test.YtfhkpdnohcidgaaFpMore
namespace Go.Proofs.Ytfhkpdnohcidgaa
open Go Go.Fp
theorem ap101 : apOk Try.prog 101 4 1 = true := by kernel_rfl
theorem ap25 : apOk Try.prog 25 44 1 = true := by kernel_rfl
theorem ap44 : apOk Try.prog 44 3 1 = true := by kernel_rfl
theorem ar131 : arOk Try.prog 131 6 = true := by kernel_rfl
theorem ar166 : arOk Try.prog 166 7 = true := by kernel_rfl
theorem bd10 : bodied Try.prog 10 = true := by kernel_rfl
theorem bd11 : bodied Try.prog 11 = true := by kernel_rfl
theorem bd12 : bodied Try.prog 12 = true := by kernel_rfl
theorem bd128 : bodied Try.prog 128 = true := by kernel_rfl
theorem bd13 : bodied Try.prog 13 = true := by kernel_rfl
theorem bd24 : bodied Try.prog 24 = true := by kernel_rfl
theorem bd30 : bodied Try.prog 30 = true := by kernel_rfl
theorem bd35 : bodied Try.prog 35 = true := by kernel_rfl
theorem bd36 : bodied Try.prog 36 = true := by kernel_rfl
theorem bd37 : bodied Try.prog 37 = true := by kernel_rfl
theorem bd38 : bodied Try.prog 38 = true := by kernel_rfl
theorem bd39 : bodied Try.prog 39 = true := by kernel_rfl
theorem bd40 : bodied Try.prog 40 = true := by kernel_rfl
theorem bd41 : bodied Try.prog 41 = true := by kernel_rfl
theorem bd42 : bodied Try.prog 42 = true := by kernel_rfl
theorem bd43 : bodied Try.prog 43 = true := by kernel_rfl
theorem bd44 : bodied Try.prog 44 = true := by kernel_rfl
theorem bd45 : bodied Try.prog 45 = true := by kernel_rfl
theorem bd46 : bodied Try.prog 46 = true := by kernel_rfl
theorem bd47 : bodied Try.prog 47 = true := by kernel_rfl
theorem bd48 : bodied Try.prog 48 = true := by kernel_rfl
theorem bd49 : bodied Try.prog 49 = true := by kernel_rfl
theorem bd50 : bodied Try.prog 50 = true := by kernel_rfl
theorem bd51 : bodied Try.prog 51 = true := by kernel_rfl
theorem bd52 : bodied Try.prog 52 = true := by kernel_rfl
theorem bd53 : bodied Try.prog 53 = true := by kernel_rfl
theorem bd54 : bodied Try.prog 54 = true := by kernel_rfl
theorem bd71 : bodied Try.prog 71 = true := by kernel_rfl
theorem bd79 : bodied Try.prog 79 = true := by kernel_rfl
theorem bd94 : bodied Try.prog 94 = true := by kernel_rfl
theorem bd95 : bodied Try.prog 95 = true := by kernel_rfl
theorem bd96 : bodied Try.prog 96 = true := by kernel_rfl
theorem bd97 : bodied Try.prog 97 = true := by kernel_rfl
theorem bd98 : bodied Try.prog 98 = true := by kernel_rfl
theorem fl126_0 : fldOk Try.prog 126 0 0 = true := by kernel_rfl
theorem fl126_1 : fldOk Try.prog 126 1 1 = true := by kernel_rfl
theorem fl126_2 : fldOk Try.prog 126 2 2 = true := by kernel_rfl
theorem fl24_0 : fldOk Try.prog 24 0 0 = true := by kernel_rfl
theorem fl24_1 : fldOk Try.prog 24 1 1 = true := by kernel_rfl
theorem fl24_2 : fldOk Try.prog 24 2 2 = true := by kernel_rfl
theorem fl24_3 : fldOk Try.prog 24 3 3 = true := by kernel_rfl
theorem fl24_4 : fldOk Try.prog 24 4 4 = true := by kernel_rfl
theorem fl24_5 : fldOk Try.prog 24 5 5 = true := by kernel_rfl
theorem fl24_6 : fldOk Try.prog 24 6 6 = true := by kernel_rfl
theorem fl78_0 : fldOk Try.prog 78 0 0 = true := by kernel_rfl
theorem fl78_1 : fldOk Try.prog 78 1 1 = true := by kernel_rfl
theorem fl78_2 : fldOk Try.prog 78 2 2 = true := by kernel_rfl
theorem fl78_3 : fldOk Try.prog 78 3 3 = true := by kernel_rfl
theorem fl78_4 : fldOk Try.prog 78 4 4 = true := by kernel_rfl
theorem fl78_5 : fldOk Try.prog 78 5 5 = true := by kernel_rfl
theorem isl25 : isSl Try.prog 25 = true := by kernel_rfl
theorem isl44 : isSl Try.prog 44 = true := by kernel_rfl
theorem mixed : Try.prog.follows .mixedOrders = true := by kernel_rfl
theorem sl101 : slOk Try.prog 101 4 1 = true := by kernel_rfl
theorem sl22 : slOk Try.prog 22 126 3 = true := by kernel_rfl
theorem sl25 : slOk Try.prog 25 44 1 = true := by kernel_rfl
theorem sl32 : slOk Try.prog 32 78 6 = true := by kernel_rfl
theorem sl44 : slOk Try.prog 44 3 1 = true := by kernel_rfl
theorem ty126 : tyOk Try.prog 126 true 3 = true := by kernel_rfl
theorem ty166 : tyOk Try.prog 166 true 7 = true := by kernel_rfl
theorem ty22 : tyOk Try.prog 22 false 1 = true := by kernel_rfl
theorem ty24 : tyOk Try.prog 24 true 7 = true := by kernel_rfl
theorem ty25 : tyOk Try.prog 25 false 1 = true := by kernel_rfl
theorem ty3 : tyOk Try.prog 3 false 1 = true := by kernel_rfl
theorem ty4 : tyOk Try.prog 4 false 1 = true := by kernel_rfl
theorem ty44 : tyOk Try.prog 44 false 1 = true := by kernel_rfl
theorem ty66 : tyOk Try.prog 66 false 1 = true := by kernel_rfl
theorem ty78 : tyOk Try.prog 78 true 6 = true := by kernel_rfl
theorem zr126 : (Try.prog.info? 126).bind (fun i => i.zero.map fun z => z.cells.toList) = some [.int .i64 0, .int .i64 0, .int .i64 0] := by kernel_rfl
theorem zr166 : (Try.prog.info? 166).bind (fun i => i.zero.map fun z => z.cells.toList) = some [.int .i64 0, .int .i64 0, .int .i64 0, .int .i64 0, .int .i64 0, .int .i64 0, .int .i64 0] := by kernel_rfl
theorem zr25 : (Try.prog.info? 25).bind (fun i => i.zero.map fun z => z.cells.toList) = some [.slice none 0 0] := by kernel_rfl
theorem zr3 : (Try.prog.info? 3).bind (fun i => i.zero.map fun z => z.cells.toList) = some [.int .i64 0] := by kernel_rfl
theorem zr4 : (Try.prog.info? 4).bind (fun i => i.zero.map fun z => z.cells.toList) = some [.bool false] := by kernel_rfl
theorem zr44 : (Try.prog.info? 44).bind (fun i => i.zero.map fun z => z.cells.toList) = some [.slice none 0 0] := by kernel_rfl
theorem zr66 : (Try.prog.info? 66).bind (fun i => i.zero.map fun z => z.cells.toList) = some [.nilFunc] := by kernel_rfl
theorem zr78 : (Try.prog.info? 78).bind (fun i => i.zero.map fun z => z.cells.toList) = some [.int .i64 0, .int .i64 0, .int .i64 0, .int .i64 0, .int .i64 0, .int .i64 0] := by kernel_rfl
set_option maxHeartbeats 8000000 in
theorem Fleetwithin_ok  {w : World} {s : Sg} {R : List HP} {x0 : Int} {x1 : Int} {x2 : Int} (hS : St w s (R))  {r : Bool} (hr : Fleetwithin x0 x1 x2 = r) :
    Calls Try.prog 37 [.int .i64 x0, .int .i64 x1, .int .i64 x2].toArray w (fun e w => e = .returned (.bool r) ∧ St w s (R)) := by
  refine enter Try.func37 rfl rfl rfl fun a hE => ?_
  rw [Fleetwithin] at hr
  refine W.seq ?_
  refine W.region ?_
  refine WL.vS hS hE (runs_plain rfl) (Gives.p hE rfl) rfl ?_; clear hE a; intro a hE
  refine WL.nil ?_
  refine W.seq ?_
  obtain ⟨q52, hq51, hr⟩ := bndS hr
  refine W.cut (fun a w => ∃ (q55 : Bool), q55 = q52 ∧ Rep a 15 [(6, .bool q55)] ∧ St w s (R)) ?_ ?_
  · refine W.gen fun K56 hK56 => ?_
    refine W.region ?_
    refine WL.vS hS hE (runs_plain rfl) (Gives.p hE rfl) rfl ?_; clear hE a; intro a hE
    refine WL.vS hS hE (runs_plain rfl) (Gives.p hE rfl) rfl ?_; clear hE a; intro a hE
    refine WL.vS hS hE (runs_plain rfl) (Gives.p hE rfl) rfl ?_; clear hE a; intro a hE
    refine WL.vS hS hE (runs_plain rfl) (Gives.p hE rfl) rfl ?_; clear hE a; intro a hE
    rcases Bool.eq_false_or_eq_true (decide (x0 ≥ x1)) with hg57 | hg57
    · replace hq51 := iteT hg57 hq51
      refine WL.vS hS hE (runs_if hE rfl rfl rfl hg57) (Gives.p hE rfl) rfl ?_; clear hE a; intro a hE
      refine WL.vS hS hE (runs_if hE rfl rfl rfl hg57) (Gives.p hE rfl) rfl ?_; clear hE a; intro a hE
      refine WL.vS hS hE (runs_if hE rfl rfl rfl hg57) (Gives.p hE rfl) rfl ?_; clear hE a; intro a hE
      refine WL.vS hS hE (runs_plain rfl) (Gives.pickT hE rfl hg57 rfl) rfl ?_; clear hE a; intro a hE
      refine WL.vS hS hE (runs_plain rfl) (Gives.p hE rfl) rfl ?_; clear hE a; intro a hE
      refine WL.nil ?_
      subst hK56
      exact ⟨decide (x0 ≤ x2), hq51, hE.pick _ ⟨rfl, trivial⟩, hS⟩
    · replace hq51 := iteF hg57 hq51
      refine WL.no hE (runs_not hE rfl rfl rfl (by rw [hg57]; decide)) rfl ?_; clear hE a; intro a hE
      refine WL.no hE (runs_not hE rfl rfl rfl (by rw [hg57]; decide)) rfl ?_; clear hE a; intro a hE
      refine WL.no hE (runs_not hE rfl rfl rfl (by rw [hg57]; decide)) rfl ?_; clear hE a; intro a hE
      refine WL.vS hS hE (runs_plain rfl) (Gives.pickF hE rfl hg57 rfl) rfl ?_; clear hE a; intro a hE
      refine WL.vS hS hE (runs_plain rfl) (Gives.p hE rfl) rfl ?_; clear hE a; intro a hE
      refine WL.nil ?_
      subst hK56
      exact ⟨false, hq51, hE.pick _ ⟨rfl, trivial⟩, hS⟩
  · clear hE hS a w; rintro a w ⟨q55, rfl, hE, hS⟩
    refine W.ret ?_
    refine finG (fn := Try.f37) (rs := [.tmp 6]) (vs := [_]) hE rfl ⟨rfl, trivial⟩ ?_
    subst hr
    exact ⟨rfl, hS⟩
set_option maxHeartbeats 8000000 in
theorem FleetCheckShifts_ok  {w : World} {s : Sg} {R : List HP} {x0 : List FleetShift} {a0 : Option Addr} {c0 : Nat} (hS : St w s (R)) (h0 : Sl 3 RFleetShift s a0 c0 x0) {r : Int} (hr : FleetCheckShifts x0 = r) :
    Calls Try.prog 35 [.slice a0 x0.length c0].toArray w (fun e w => e = .returned (.int .i64 r) ∧ St w s (R)) := by
  refine enter Try.func35 rfl rfl rfl fun a hE => ?_
  rw [FleetCheckShifts] at hr
  refine W.seq ?_
  refine W.region ?_
  refine WL.vS hS hE (runs_plain rfl) (Gives.p hE rfl) rfl ?_; clear hE a; intro a hE
  refine WL.nil ?_
  refine W.seq ?_
  refine W.seq ?_
  refine W.region ?_
  refine WL.vS hS hE (runs_plain rfl) (Gives.p hE rfl) rfl ?_; clear hE a; intro a hE
  refine WL.vS hS hE (runs_plain rfl) (Gives.len hE rfl sl22) rfl ?_; clear hE a; intro a hE
  refine WL.vS hS hE (runs_plain rfl) (Gives.p hE rfl) rfl ?_; clear hE a; intro a hE
  refine WL.nil ?_
  refine W.cond hE rfl (fun hc51 => ?_) (fun hc51 => ?_)
  · replace hr := iteT hc51 hr
    refine W.seq ?_
    refine W.region ?_
    refine WL.vS hS hE (runs_plain rfl) (Gives.p hE rfl) rfl ?_; clear hE a; intro a hE
    refine WL.nil ?_
    refine W.ret ?_
    refine finG (fn := Try.f35) (rs := [.tmp 2]) (vs := [_]) hE rfl ⟨rfl, trivial⟩ ?_
    subst hr
    exact ⟨rfl, hS⟩
  · replace hr := iteF hc51 hr
    refine W.skip ?_
    refine W.seq ?_
    refine W.seq ?_
    refine W.region ?_
    refine WL.vS hS hE (runs_plain rfl) (Gives.p hE rfl) rfl ?_; clear hE a; intro a hE
    refine WL.vS hS hE (runs_plain rfl) (Gives.len hE rfl sl22) rfl ?_; clear hE a; intro a hE
    refine WL.vS hS hE (runs_plain rfl) (Gives.p hE rfl) rfl ?_; clear hE a; intro a hE
    refine WL.nil ?_
    obtain ⟨q53, hq52, hr⟩ := bndS hr
    refine W.cut (fun a w => (.next ()) = q53 ∧ Rep a 38 [] ∧ St w s (R)) ?_ ?_
    · refine W.block ?_
      refine W.loop (fun m a w => ∃ (rest56 : List FleetShift) (k54 : Nat), rest56.length = m ∧ x0.drop k54 = rest56 ∧ FleetCheckShifts.loop1 rest56 = q53 ∧ Rep a 38 [(8, .slice a0 x0.length c0), (9, .int .i64 ((x0).length : Int)), (10, .int .i64 ((k54 : Nat) : Int))] ∧ St w s (R)) (m := x0.length) ⟨x0, 0, rfl, rfl, hq52, hE.pick _ ⟨rfl, rfl, rfl, trivial⟩, hS⟩ ?_
      clear hE hS a w hq52; rintro m60 a w ⟨rest56, k54, rfl, hd57, hq52, hE, hS⟩
      refine W.gen fun K63 hK63 => ?_
      rcases rest56 with _ | ⟨x55, rest56⟩
      · have hlt58 := drop_nil hd57
        refine W.seq ?_
        refine W.region ?_
        refine WL.vS hS hE (runs_plain rfl) (Gives.p hE rfl) rfl ?_; clear hE a; intro a hE
        refine WL.nil ?_
        refine W.seq ?_
        refine W.condF hE rfl (decide_eq_false (by omega)) ?_
        subst hK63
        refine W.exit rfl ?_
        exact ⟨hq52, hE.pick _ trivial, hS⟩
      · obtain ⟨hlt58, hx59, hd57⟩ := drop_cons hd57
        rw [FleetCheckShifts.loop1] at hq52
        refine W.seq ?_
        refine W.region ?_
        refine WL.vS hS hE (runs_plain rfl) (Gives.p hE rfl) rfl ?_; clear hE a; intro a hE
        refine WL.nil ?_
        refine W.seq ?_
        refine W.condT hE rfl (decide_eq_true (by omega)) ?_
        refine W.skip ?_
        refine W.seq ?_
        refine W.block ?_
        refine W.seq ?_
        refine W.region ?_
        obtain ⟨cs64, hl65, hR66, hat67⟩ := h0.at hx59
        subst hR66
        refine WL.vS hS hE (runs_plain rfl) (Gives.idx hE k54 rfl rfl sl22 rfl hlt58 (h0.aok hlt58)) rfl ?_; clear hE a; intro a hE
        refine WL.vS hS hE (runs_plain rfl) (Gives.loadA hE rfl (fun w h => hat67 w _ h) ty126) rfl ?_; clear hE a; intro a hE
        refine WL.alloc hE hS (runs_plain rfl) zr126 rfl ?_; clear hE hS a w; intro b68 a w hE hS
        refine WL.storeI hE hS 0 rfl (FleetShift.cells x55) (runs_plain rfl) rfl rfl rfl ty126 rfl rfl rfl rfl ?_; clear hE hS a w; intro a w hE hS
        refine WL.nil ?_
        refine W.block ?_
        refine W.seq ?_
        obtain ⟨q70, hq69, hq52⟩ := bndS hq52
        refine W.cut (fun a w => ∃ (q73 : Bool), q73 = q70 ∧ Rep a 38 [(4, .pointer (some ⟨b68, 0, none⟩)), (8, .slice a0 x0.length c0), (9, .int .i64 ((x0).length : Int)), (10, .int .i64 ((k54 : Nat) : Int)), (14, .bool q73)] ∧ St w s (pt b68 (.cells (FleetShift.cells x55).toArray 126 (0, 0)) :: R)) ?_ ?_
        · refine W.gen fun K74 hK74 => ?_
          refine W.region ?_
          refine WL.vS hS hE (runs_plain rfl) (Gives.fld hE rfl fl126_0) rfl ?_; clear hE a; intro a hE
          refine WL.vS hS hE (runs_plain rfl) (Gives.loadB hE 0 rfl rfl rfl ty3) rfl ?_; clear hE a; intro a hE
          refine WL.fnq hE (Fleetwithin_ok hS  rfl (r := Fleetwithin x55.Day 0 6)) (runs_plain rfl) bd37 rfl rfl rfl ?_
          clear hE hS; rintro e w ⟨rfl, hS⟩; refine ⟨_, rfl, ?_⟩; clear a; intro a hE
          refine WL.vS hS hE (runs_plain rfl) (Gives.p hE rfl) rfl ?_; clear hE a; intro a hE
          refine WL.vS hS hE (runs_plain rfl) (Gives.p hE rfl) rfl ?_; clear hE a; intro a hE
          rcases Bool.eq_false_or_eq_true (!(Fleetwithin x55.Day 0 6)) with hg75 | hg75
          · replace hq69 := iteT hg75 hq69
            refine WL.no hE (runs_not hE rfl rfl rfl (by rw [hg75]; decide)) rfl ?_; clear hE a; intro a hE
            refine WL.no hE (runs_not hE rfl rfl rfl (by rw [hg75]; decide)) rfl ?_; clear hE a; intro a hE
            refine WL.no hE (runs_not hE rfl rfl rfl (by rw [hg75]; decide)) rfl ?_; clear hE a; intro a hE
            refine WL.no hE (runs_not hE rfl rfl rfl (by rw [hg75]; decide)) rfl ?_; clear hE a; intro a hE
            refine WL.vS hS hE (runs_plain rfl) (Gives.pickT hE rfl hg75 rfl) rfl ?_; clear hE a; intro a hE
            refine WL.vS hS hE (runs_plain rfl) (Gives.p hE rfl) rfl ?_; clear hE a; intro a hE
            refine WL.no hE (runs_not hE rfl rfl rfl (by decide)) rfl ?_; clear hE a; intro a hE
            refine WL.no hE (runs_not hE rfl rfl rfl (by decide)) rfl ?_; clear hE a; intro a hE
            refine WL.no hE (runs_not hE rfl rfl rfl (by decide)) rfl ?_; clear hE a; intro a hE
            refine WL.no hE (runs_not hE rfl rfl rfl (by decide)) rfl ?_; clear hE a; intro a hE
            refine WL.vS hS hE (runs_plain rfl) (Gives.pickT hE rfl rfl rfl) rfl ?_; clear hE a; intro a hE
            refine WL.vS hS hE (runs_plain rfl) (Gives.p hE rfl) rfl ?_; clear hE a; intro a hE
            refine WL.nil ?_
            subst hK74
            exact ⟨true, hq69, hE.pick _ ⟨rfl, rfl, rfl, rfl, rfl, trivial⟩, hS⟩
          · replace hq69 := iteF hg75 hq69
            refine WL.vS hS hE (runs_if hE rfl rfl rfl hg75) (Gives.fld hE rfl fl126_1) rfl ?_; clear hE a; intro a hE
            refine WL.vS hS hE (runs_if hE rfl rfl rfl hg75) (Gives.loadB hE 0 rfl rfl rfl ty3) rfl ?_; clear hE a; intro a hE
            refine WL.fnq hE (Fleetwithin_ok hS  rfl (r := Fleetwithin x55.Start 0 28800)) (runs_if hE rfl rfl rfl hg75) bd37 rfl rfl rfl ?_
            clear hE hS; rintro e w ⟨rfl, hS⟩; refine ⟨_, rfl, ?_⟩; clear a; intro a hE
            refine WL.vS hS hE (runs_if hE rfl rfl rfl hg75) (Gives.p hE rfl) rfl ?_; clear hE a; intro a hE
            refine WL.vS hS hE (runs_plain rfl) (Gives.pickF hE rfl hg75 rfl) rfl ?_; clear hE a; intro a hE
            refine WL.vS hS hE (runs_plain rfl) (Gives.p hE rfl) rfl ?_; clear hE a; intro a hE
            rcases Bool.eq_false_or_eq_true (!(Fleetwithin x55.Start 0 28800)) with hg76 | hg76
            · replace hq69 := iteT hg76 hq69
              refine WL.no hE (runs_not hE rfl rfl rfl (by rw [hg76]; decide)) rfl ?_; clear hE a; intro a hE
              refine WL.no hE (runs_not hE rfl rfl rfl (by rw [hg76]; decide)) rfl ?_; clear hE a; intro a hE
              refine WL.no hE (runs_not hE rfl rfl rfl (by rw [hg76]; decide)) rfl ?_; clear hE a; intro a hE
              refine WL.no hE (runs_not hE rfl rfl rfl (by rw [hg76]; decide)) rfl ?_; clear hE a; intro a hE
              refine WL.vS hS hE (runs_plain rfl) (Gives.pickT hE rfl hg76 rfl) rfl ?_; clear hE a; intro a hE
              refine WL.vS hS hE (runs_plain rfl) (Gives.p hE rfl) rfl ?_; clear hE a; intro a hE
              refine WL.nil ?_
              subst hK74
              exact ⟨true, hq69, hE.pick _ ⟨rfl, rfl, rfl, rfl, rfl, trivial⟩, hS⟩
            · replace hq69 := iteF hg76 hq69
              refine WL.vS hS hE (runs_if hE rfl rfl rfl hg76) (Gives.fld hE rfl fl126_2) rfl ?_; clear hE a; intro a hE
              refine WL.vS hS hE (runs_if hE rfl rfl rfl hg76) (Gives.loadB hE 0 rfl rfl rfl ty3) rfl ?_; clear hE a; intro a hE
              refine WL.fnq hE (Fleetwithin_ok hS  rfl (r := Fleetwithin x55.End 0 28800)) (runs_if hE rfl rfl rfl hg76) bd37 rfl rfl rfl ?_
              clear hE hS; rintro e w ⟨rfl, hS⟩; refine ⟨_, rfl, ?_⟩; clear a; intro a hE
              refine WL.vS hS hE (runs_if hE rfl rfl rfl hg76) (Gives.p hE rfl) rfl ?_; clear hE a; intro a hE
              refine WL.vS hS hE (runs_plain rfl) (Gives.pickF hE rfl hg76 rfl) rfl ?_; clear hE a; intro a hE
              refine WL.vS hS hE (runs_plain rfl) (Gives.p hE rfl) rfl ?_; clear hE a; intro a hE
              refine WL.nil ?_
              subst hK74
              exact ⟨!(Fleetwithin x55.End 0 28800), hq69, hE.pick _ ⟨rfl, rfl, rfl, rfl, rfl, trivial⟩, hS⟩
        · clear hE hS a w; rintro a w ⟨q73, rfl, hE, hS⟩
          refine W.cond hE rfl (fun hc77 => ?_) (fun hc77 => ?_)
          · replace hq52 := iteT hc77 hq52
            refine W.seq ?_
            refine W.region ?_
            refine WL.vS hS hE (runs_plain rfl) (Gives.p hE rfl) rfl ?_; clear hE a; intro a hE
            refine WL.nil ?_
            refine W.ret ?_
            subst hK63
            rw [← hq52] at hr
            dsimp only at hr
            refine finG (fn := Try.f35) (rs := [.tmp 2]) (vs := [_]) hE rfl ⟨rfl, trivial⟩ ?_
            subst hr
            replace hS := hS.tail
            exact ⟨rfl, hS⟩
          · replace hq52 := iteF hc77 hq52
            refine W.seq ?_
            refine W.region ?_
            refine WL.vS hS hE (runs_plain rfl) (Gives.fld hE rfl fl126_2) rfl ?_; clear hE a; intro a hE
            refine WL.vS hS hE (runs_plain rfl) (Gives.loadB hE 0 rfl rfl rfl ty3) rfl ?_; clear hE a; intro a hE
            refine WL.vS hS hE (runs_plain rfl) (Gives.fld hE rfl fl126_1) rfl ?_; clear hE a; intro a hE
            refine WL.vS hS hE (runs_plain rfl) (Gives.loadB hE 0 rfl rfl rfl ty3) rfl ?_; clear hE a; intro a hE
            refine WL.vS hS hE (runs_plain rfl) (Gives.p hE rfl) rfl ?_; clear hE a; intro a hE
            refine WL.vS hS hE (runs_plain rfl) (Gives.p hE rfl) rfl ?_; clear hE a; intro a hE
            refine WL.nil ?_
            refine W.cond hE rfl (fun hc78 => ?_) (fun hc78 => ?_)
            · replace hq52 := iteT hc78 hq52
              refine W.seq ?_
              refine W.region ?_
              refine WL.vS hS hE (runs_plain rfl) (Gives.p hE rfl) rfl ?_; clear hE a; intro a hE
              refine WL.nil ?_
              refine W.ret ?_
              subst hK63
              rw [← hq52] at hr
              dsimp only at hr
              refine finG (fn := Try.f35) (rs := [.tmp 2]) (vs := [_]) hE rfl ⟨rfl, trivial⟩ ?_
              subst hr
              replace hS := hS.tail
              exact ⟨rfl, hS⟩
            · replace hq52 := iteF hc78 hq52
              refine W.skip ?_
              refine W.region ?_
              refine WL.vS hS hE (runs_plain rfl) (Gives.inc hE rfl (by have := h0.small; omega)) rfl ?_; clear hE a; intro a hE
              refine WL.vS hS hE (runs_plain rfl) (Gives.p hE rfl) rfl ?_; clear hE a; intro a hE
              refine WL.nil ?_
              replace hS := hS.tail
              subst hK63
              exact ⟨rest56.length, Nat.lt_succ_self _, rest56, k54 + 1, rfl, hd57, hq52, hE.pick _ ⟨rfl, rfl, rfl, trivial⟩, hS⟩
    · clear hE hS a w; rintro a w ⟨rfl, hE, hS⟩
      dsimp only at hr
      refine W.seq ?_
      refine W.region ?_
      refine WL.vS hS hE (runs_plain rfl) (Gives.p hE rfl) rfl ?_; clear hE a; intro a hE
      refine WL.nil ?_
      refine W.ret ?_
      refine finG (fn := Try.f35) (rs := [.tmp 2]) (vs := [_]) hE rfl ⟨rfl, trivial⟩ ?_
      subst hr
      exact ⟨rfl, hS⟩
set_option maxHeartbeats 8000000 in
theorem FleetCheckLimits_ok  {w : World} {s : Sg} {R : List HP} {x0 : FleetLimits} (hS : St w s (R))  {r : Int} (hr : FleetCheckLimits x0 = r) :
    Calls Try.prog 36 [.agg (FleetLimits.cells x0).toArray].toArray w (fun e w => e = .returned (.int .i64 r) ∧ St w s (R)) := by
  refine enter Try.func36 rfl rfl rfl fun a hE => ?_
  rw [FleetCheckLimits] at hr
  refine W.seq ?_
  refine W.region ?_
  refine WL.box hE hS (runs_plain rfl) rfl rfl rfl ?_; clear hE hS a w; intro b51 a w hE hS
  refine WL.vS hS hE (runs_plain rfl) (Gives.p hE rfl) rfl ?_; clear hE a; intro a hE
  refine WL.nil ?_
  refine W.seq ?_
  refine W.seq ?_
  refine W.region ?_
  refine WL.vS hS hE (runs_plain rfl) (Gives.fld hE rfl fl24_0) rfl ?_; clear hE a; intro a hE
  refine WL.vS hS hE (runs_plain rfl) (Gives.loadB hE 0 rfl rfl rfl ty3) rfl ?_; clear hE a; intro a hE
  refine WL.vS hS hE (runs_plain rfl) (Gives.fld hE rfl fl24_1) rfl ?_; clear hE a; intro a hE
  refine WL.vS hS hE (runs_plain rfl) (Gives.loadB hE 0 rfl rfl rfl ty3) rfl ?_; clear hE a; intro a hE
  refine WL.vS hS hE (runs_plain rfl) (Gives.fld hE rfl fl24_2) rfl ?_; clear hE a; intro a hE
  refine WL.vS hS hE (runs_plain rfl) (Gives.loadB hE 0 rfl rfl rfl ty3) rfl ?_; clear hE a; intro a hE
  refine WL.vS hS hE (runs_plain rfl) (Gives.fld hE rfl fl24_3) rfl ?_; clear hE a; intro a hE
  refine WL.vS hS hE (runs_plain rfl) (Gives.loadB hE 0 rfl rfl rfl ty3) rfl ?_; clear hE a; intro a hE
  refine WL.vS hS hE (runs_plain rfl) (Gives.fld hE rfl fl24_4) rfl ?_; clear hE a; intro a hE
  refine WL.vS hS hE (runs_plain rfl) (Gives.loadB hE 0 rfl rfl rfl ty3) rfl ?_; clear hE a; intro a hE
  refine WL.vS hS hE (runs_plain rfl) (Gives.fld hE rfl fl24_5) rfl ?_; clear hE a; intro a hE
  refine WL.vS hS hE (runs_plain rfl) (Gives.loadB hE 0 rfl rfl rfl ty3) rfl ?_; clear hE a; intro a hE
  refine WL.vS hS hE (runs_plain rfl) (Gives.build hE (vs := [(0, .int .i64 x0.Change), (1, .int .i64 x0.Long), (2, .int .i64 x0.Work), (3, .int .i64 x0.After), (4, .int .i64 x0.Break), (5, .int .i64 x0.Rest)]) [.int .i64 x0.Change, .int .i64 x0.Long, .int .i64 x0.Work, .int .i64 x0.After, .int .i64 x0.Break, .int .i64 x0.Rest] rfl (by kernel_rfl)) rfl ?_; clear hE a; intro a hE
  refine WL.vS hS hE (runs_plain rfl) (Gives.p hE rfl) rfl ?_; clear hE a; intro a hE
  refine WL.nil ?_
  obtain ⟨q53, hq52, hr⟩ := bndS hr
  refine W.cut (fun a w => (.next ()) = q53 ∧ Rep a 29 [(1, .pointer (some ⟨b51, 0, none⟩))] ∧ St w s (pt b51 (.cells (FleetLimits.cells x0).toArray 24 (0, 0)) :: R)) ?_ ?_
  · refine W.block ?_
    refine W.loop (fun m a w => ∃ (rest56 : List Int) (k54 : Nat), rest56.length = m ∧ [x0.Change, x0.Long, x0.Work, x0.After, x0.Break, x0.Rest].drop k54 = rest56 ∧ FleetCheckLimits.loop1 rest56 = q53 ∧ Rep a 29 [(1, .pointer (some ⟨b51, 0, none⟩)), (17, .agg [.int .i64 x0.Change, .int .i64 x0.Long, .int .i64 x0.Work, .int .i64 x0.After, .int .i64 x0.Break, .int .i64 x0.Rest].toArray), (18, .int .i64 ((k54 : Nat) : Int))] ∧ St w s (pt b51 (.cells (FleetLimits.cells x0).toArray 24 (0, 0)) :: R)) (m := [x0.Change, x0.Long, x0.Work, x0.After, x0.Break, x0.Rest].length) ⟨[x0.Change, x0.Long, x0.Work, x0.After, x0.Break, x0.Rest], 0, rfl, rfl, hq52, hE.pick _ ⟨rfl, rfl, rfl, trivial⟩, hS⟩ ?_
    clear hE hS a w hq52; rintro m60 a w ⟨rest56, k54, rfl, hd57, hq52, hE, hS⟩
    refine W.gen fun K63 hK63 => ?_
    rcases rest56 with _ | ⟨x55, rest56⟩
    · have hlt58 : 6 ≤ k54 := drop_nil hd57
      refine W.seq ?_
      refine W.region ?_
      refine WL.vS hS hE (runs_plain rfl) (Gives.p hE rfl) rfl ?_; clear hE a; intro a hE
      refine WL.nil ?_
      refine W.seq ?_
      refine W.condF hE rfl (decide_eq_false (by omega)) ?_
      subst hK63
      refine W.exit rfl ?_
      exact ⟨hq52, hE.pick _ ⟨rfl, trivial⟩, hS⟩
    · obtain ⟨hlt58, hx59, hd57⟩ := drop_cons hd57
      replace hlt58 : k54 < 6 := hlt58
      rw [FleetCheckLimits.loop1] at hq52
      refine W.seq ?_
      refine W.region ?_
      refine WL.vS hS hE (runs_plain rfl) (Gives.p hE rfl) rfl ?_; clear hE a; intro a hE
      refine WL.nil ?_
      refine W.seq ?_
      refine W.condT hE rfl (decide_eq_true (by omega)) ?_
      refine W.skip ?_
      refine W.seq ?_
      refine W.block ?_
      refine W.seq ?_
      refine W.region ?_
      refine WL.vS hS hE (runs_plain rfl) (Gives.indexM hE (f := (Value.int .i64)) (l := [x0.Change, x0.Long, x0.Work, x0.After, x0.Break, x0.Rest]) (k := k54) ar131 rfl rfl rfl rfl hx59) rfl ?_; clear hE a; intro a hE
      refine WL.vS hS hE (runs_plain rfl) (Gives.p hE rfl) rfl ?_; clear hE a; intro a hE
      refine WL.nil ?_
      refine W.seq ?_
      refine W.region ?_
      refine WL.vS hS hE (runs_plain rfl) (Gives.p hE rfl) rfl ?_; clear hE a; intro a hE
      refine WL.fnq hE (Fleetwithin_ok hS  rfl (r := Fleetwithin x55 0 86400)) (runs_plain rfl) bd37 rfl rfl rfl ?_
      clear hE hS; rintro e w ⟨rfl, hS⟩; refine ⟨_, rfl, ?_⟩; clear a; intro a hE
      refine WL.vS hS hE (runs_plain rfl) (Gives.p hE rfl) rfl ?_; clear hE a; intro a hE
      refine WL.nil ?_
      refine W.cond hE rfl (fun hc64 => ?_) (fun hc64 => ?_)
      · replace hq52 := iteT hc64 hq52
        refine W.seq ?_
        refine W.region ?_
        refine WL.vS hS hE (runs_plain rfl) (Gives.p hE rfl) rfl ?_; clear hE a; intro a hE
        refine WL.nil ?_
        refine W.ret ?_
        subst hK63
        rw [← hq52] at hr
        dsimp only at hr
        refine finG (fn := Try.f36) (rs := [.tmp 2]) (vs := [_]) hE rfl ⟨rfl, trivial⟩ ?_
        subst hr
        replace hS := hS.tail
        exact ⟨rfl, hS⟩
      · replace hq52 := iteF hc64 hq52
        refine W.skip ?_
        refine W.region ?_
        refine WL.vS hS hE (runs_plain rfl) (Gives.inc hE rfl (by omega)) rfl ?_; clear hE a; intro a hE
        refine WL.vS hS hE (runs_plain rfl) (Gives.p hE rfl) rfl ?_; clear hE a; intro a hE
        refine WL.nil ?_
        subst hK63
        exact ⟨rest56.length, Nat.lt_succ_self _, rest56, k54 + 1, rfl, hd57, hq52, hE.pick _ ⟨rfl, rfl, rfl, trivial⟩, hS⟩
  · clear hE hS a w; rintro a w ⟨rfl, hE, hS⟩
    dsimp only at hr
    refine W.seq ?_
    refine W.seq ?_
    refine W.region ?_
    refine WL.vS hS hE (runs_plain rfl) (Gives.fld hE rfl fl24_6) rfl ?_; clear hE a; intro a hE
    refine WL.vS hS hE (runs_plain rfl) (Gives.loadB hE 0 rfl rfl rfl ty3) rfl ?_; clear hE a; intro a hE
    refine WL.fnq hE (Fleetwithin_ok hS  rfl (r := Fleetwithin x0.Row 1 7)) (runs_plain rfl) bd37 rfl rfl rfl ?_
    clear hE hS; rintro e w ⟨rfl, hS⟩; refine ⟨_, rfl, ?_⟩; clear a; intro a hE
    refine WL.vS hS hE (runs_plain rfl) (Gives.p hE rfl) rfl ?_; clear hE a; intro a hE
    refine WL.nil ?_
    refine W.cond hE rfl (fun hc65 => ?_) (fun hc65 => ?_)
    · replace hr := iteT hc65 hr
      refine W.seq ?_
      refine W.region ?_
      refine WL.vS hS hE (runs_plain rfl) (Gives.p hE rfl) rfl ?_; clear hE a; intro a hE
      refine WL.nil ?_
      refine W.ret ?_
      refine finG (fn := Try.f36) (rs := [.tmp 2]) (vs := [_]) hE rfl ⟨rfl, trivial⟩ ?_
      subst hr
      replace hS := hS.tail
      exact ⟨rfl, hS⟩
    · replace hr := iteF hc65 hr
      refine W.skip ?_
      refine W.seq ?_
      refine W.region ?_
      refine WL.vS hS hE (runs_plain rfl) (Gives.p hE rfl) rfl ?_; clear hE a; intro a hE
      refine WL.nil ?_
      refine W.ret ?_
      refine finG (fn := Try.f36) (rs := [.tmp 2]) (vs := [_]) hE rfl ⟨rfl, trivial⟩ ?_
      subst hr
      replace hS := hS.tail
      exact ⟨rfl, hS⟩
set_option maxHeartbeats 8000000 in
theorem Fleetload_ok  {w : World} {s : Sg} {R : List HP} {x0 : List FleetShift} {a0 : Option Addr} {c0 : Nat} {x1 : List Int} {a1 : Option Addr} {c1 : Nat} (hS : St w s (R)) (h0 : Sl 3 RFleetShift s a0 c0 x0) (h1 : Sl 1 (RI .i64) s a1 c1 x1) {r : Int} (hr : Fleetload x0 x1 = some r) :
    Calls Try.prog 39 [.slice a0 x0.length c0, .slice a1 x1.length c1].toArray w (fun e w => e = .returned (.int .i64 r) ∧ St w s (R)) := by
  refine enter Try.func39 rfl rfl rfl fun a hE => ?_
  rw [Fleetload] at hr
  refine W.seq ?_
  refine W.region ?_
  refine WL.vS hS hE (runs_plain rfl) (Gives.p hE rfl) rfl ?_; clear hE a; intro a hE
  refine WL.nil ?_
  refine W.seq ?_
  refine W.region ?_
  refine WL.vS hS hE (runs_plain rfl) (Gives.p hE rfl) rfl ?_; clear hE a; intro a hE
  refine WL.nil ?_
  refine W.seq ?_
  refine W.seq ?_
  refine W.region ?_
  refine WL.vS hS hE (runs_plain rfl) (Gives.p hE rfl) rfl ?_; clear hE a; intro a hE
  refine WL.vS hS hE (runs_plain rfl) (Gives.len hE rfl sl44) rfl ?_; clear hE a; intro a hE
  refine WL.vS hS hE (runs_plain rfl) (Gives.p hE rfl) rfl ?_; clear hE a; intro a hE
  refine WL.nil ?_
  obtain ⟨q52, hq51, hr⟩ := bindS hr
  refine W.cut (fun a w => ∃ (q62 : Int), q62 = q52 ∧ Rep a 29 [(5, .int .i64 q62)] ∧ St w s (R)) ?_ ?_
  · refine W.block ?_
    refine W.loop (fun m a w => ∃ (rest55 : List Int) (k53 : Nat), ∃ (q62 : Int), rest55.length = m ∧ x1.drop k53 = rest55 ∧ Fleetload.loop1 x0 rest55 q62 = some q52 ∧ Rep a 29 [(0, .slice a0 x0.length c0), (5, .int .i64 q62), (8, .slice a1 x1.length c1), (9, .int .i64 ((x1).length : Int)), (10, .int .i64 ((k53 : Nat) : Int))] ∧ St w s (R)) (m := x1.length) ⟨x1, 0, 0, rfl, rfl, hq51, hE.pick _ ⟨rfl, rfl, rfl, rfl, rfl, trivial⟩, hS⟩ ?_
    clear hE hS a w hq51; rintro m59 a w ⟨rest55, k53, q62, rfl, hd56, hq51, hE, hS⟩
    refine W.gen fun K63 hK63 => ?_
    rcases rest55 with _ | ⟨x54, rest55⟩
    · have hlt57 := drop_nil hd56
      refine W.seq ?_
      refine W.region ?_
      refine WL.vS hS hE (runs_plain rfl) (Gives.p hE rfl) rfl ?_; clear hE a; intro a hE
      refine WL.nil ?_
      refine W.seq ?_
      refine W.condF hE rfl (decide_eq_false (by omega)) ?_
      subst hK63
      refine W.exit rfl ?_
      exact ⟨q62, Option.some.inj hq51, hE.pick _ ⟨rfl, trivial⟩, hS⟩
    · obtain ⟨hlt57, hx58, hd56⟩ := drop_cons hd56
      rw [Fleetload.loop1] at hq51
      refine W.seq ?_
      refine W.region ?_
      refine WL.vS hS hE (runs_plain rfl) (Gives.p hE rfl) rfl ?_; clear hE a; intro a hE
      refine WL.nil ?_
      refine W.seq ?_
      refine W.condT hE rfl (decide_eq_true (by omega)) ?_
      refine W.skip ?_
      refine W.seq ?_
      refine W.block ?_
      refine W.seq ?_
      refine W.region ?_
      obtain ⟨cs64, hl65, hR66, hat67⟩ := h1.at hx58
      subst hR66
      refine WL.vS hS hE (runs_plain rfl) (Gives.idx hE k53 rfl rfl sl44 rfl hlt57 (h1.aok hlt57)) rfl ?_; clear hE a; intro a hE
      refine WL.vS hS hE (runs_plain rfl) (Gives.load1 hE rfl (fun w h => hat67 w _ h) ty3) rfl ?_; clear hE a; intro a hE
      refine WL.vS hS hE (runs_plain rfl) (Gives.p hE rfl) rfl ?_; clear hE a; intro a hE
      refine WL.nil ?_
      refine W.regionQ (C := fun w => St w s (R)) mixed (by kernel_rfl) hS.drew ?_
      refine QL.v hE (runs_plain rfl) (Gives.p hE rfl) rfl ?_; clear hE a; intro a hE
      refine QL.v hE (runs_plain rfl) (Gives.p hE rfl) rfl ?_; clear hE a; intro a hE
      refine QL.v hE (runs_plain rfl) (Gives.p hE rfl) rfl ?_; clear hE a; intro a hE
      obtain ⟨x68, hx69, hq51⟩ := bindS hq51
      obtain ⟨hi70, hlt71, hy72⟩ := gx_some hx69
      obtain ⟨cs73, hl74, hR75, hat76⟩ := h0.at hy72
      subst hR75
      refine QL.v hE (runs_plain rfl) (Gives.idx hE (x54).toNat rfl rfl sl22 hi70 hlt71 (h0.aok hlt71)) rfl ?_; clear hE a; intro a hE
      refine QL.v hE (runs_plain rfl) (Gives.fld hE rfl fl126_2) rfl ?_; clear hE a; intro a hE
      refine QL.v hE (runs_plain rfl) (Gives.load1 hE rfl (fun w h => (hat76 w _ h).one rfl) ty3) rfl ?_; clear hE a; intro a hE
      refine QL.v hE (runs_plain rfl) (Gives.p hE rfl) rfl ?_; clear hE a; intro a hE
      refine QL.v hE (runs_plain rfl) (Gives.p hE rfl) rfl ?_; clear hE a; intro a hE
      obtain ⟨x77, hx78, hq51⟩ := bindS hq51
      obtain ⟨hi79, hlt80, hy81⟩ := gx_some hx78
      obtain ⟨cs82, hl83, hR84, hat85⟩ := h0.at hy81
      subst hR84
      refine QL.v hE (runs_plain rfl) (Gives.idx hE (x54).toNat rfl rfl sl22 hi79 hlt80 (h0.aok hlt80)) rfl ?_; clear hE a; intro a hE
      refine QL.v hE (runs_plain rfl) (Gives.fld hE rfl fl126_1) rfl ?_; clear hE a; intro a hE
      refine QL.v hE (runs_plain rfl) (Gives.load1 hE rfl (fun w h => (hat85 w _ h).one rfl) ty3) rfl ?_; clear hE a; intro a hE
      refine QL.v hE (runs_plain rfl) (Gives.p hE rfl) rfl ?_; clear hE a; intro a hE
      refine QL.v hE (runs_plain rfl) (Gives.p hE rfl) rfl ?_; clear hE a; intro a hE
      refine QL.v hE (runs_plain rfl) (Gives.p hE rfl) rfl ?_; clear hE a; intro a hE
      refine QL.nil ?_; clear hS w; intro w hS
      refine W.region ?_
      refine WL.vS hS hE (runs_plain rfl) (Gives.inc hE rfl (by have := h1.small; omega)) rfl ?_; clear hE a; intro a hE
      refine WL.vS hS hE (runs_plain rfl) (Gives.p hE rfl) rfl ?_; clear hE a; intro a hE
      refine WL.nil ?_
      subst hK63
      exact ⟨rest55.length, Nat.lt_succ_self _, rest55, k53 + 1, (w64 (q62 + (w64 (x68.End - x77.Start)))), rfl, hd56, hq51, hE.pick _ ⟨rfl, rfl, rfl, rfl, rfl, trivial⟩, hS⟩
  · clear hE hS a w; rintro a w ⟨q62, rfl, hE, hS⟩
    refine W.seq ?_
    refine W.region ?_
    refine WL.vS hS hE (runs_plain rfl) (Gives.p hE rfl) rfl ?_; clear hE a; intro a hE
    refine WL.vS hS hE (runs_plain rfl) (Gives.p hE rfl) rfl ?_; clear hE a; intro a hE
    refine WL.nil ?_
    refine W.ret ?_
    refine finG (fn := Try.f39) (rs := [.tmp 4]) (vs := [_]) hE rfl ⟨rfl, trivial⟩ ?_
    obtain rfl := Option.some.inj hr
    exact ⟨rfl, hS⟩
set_option maxHeartbeats 8000000 in
theorem SlicesCloneLLint_v1_ok  {w : World} {s : Sg} {R : List HP} {x0 : List (List Int)} {a_v0 : Option Addr} {c_v0 n_v0 : Nat} {cs_v0 : List Value} (hS : St w s (vecC 44 1 a_v0 c_v0 n_v0 cs_v0 :: R)) (h_v0 : Ev 1 (RL 1 (RI .i64)) s cs_v0 x0) (hn_v0 : x0.length = n_v0) {r : (List (List Int))} (hr : SlicesCloneLLint_v1 x0 = some r) :
    Calls Try.prog 40 [.slice a_v0 n_v0 c_v0].toArray w (fun e w => ∃ (a0 : Option Addr) (c0 n0 : Nat) (cs0 : List Value), e = .returned (.slice a0 n0 c0) ∧ Ev 1 (RL 1 (RI .i64)) s cs0 r ∧ r.length = n0 ∧ St w s (vecC 44 1 a0 c0 n0 cs0 :: vecC 44 1 a_v0 c_v0 n_v0 cs_v0 :: R)) := by
  refine enter Try.func40 rfl rfl rfl fun a hE => ?_
  rw [SlicesCloneLLint_v1] at hr
  subst hn_v0
  refine W.seq ?_
  refine W.region ?_
  refine WL.vS hS hE (runs_plain rfl) (Gives.p hE rfl) rfl ?_; clear hE a; intro a hE
  refine WL.nil ?_
  refine W.seq ?_
  refine W.seq ?_
  refine W.region ?_
  refine WL.vS hS hE (runs_plain rfl) (Gives.p hE rfl) rfl ?_; clear hE a; intro a hE
  obtain ⟨_, hx51, hr⟩ := bindS hr
  refine WL.vS hS hE (runs_plain rfl) (Gives.isNilZ hE (hS.vecAok 0 rfl (k := 0) (by have := nz_pos hx51; omega)).isNone rfl rfl isl25) rfl ?_; clear hE a; intro a hE
  refine WL.nil ?_
  refine W.condF hE rfl rfl ?_
  refine W.skip ?_
  refine W.seq ?_
  refine W.region ?_
  refine WL.lit hE hS (e := 44) (es := 1) (vs := []) (cs := []) (runs_plain rfl) rfl (by kernel_rfl) rfl ?_; clear hE hS a w; intro b52 a w hE hS
  replace hS := hS.ptVec (es := 1) (m := 0) rfl (by decide)
  have h54 : Ev 1 (RL 1 (RI .i64)) s [] [] := (Ev.nil)
  refine WL.vS hS hE (runs_plain rfl) (Gives.p hE rfl) rfl ?_; clear hE a; intro a hE
  obtain ⟨x55, hx56, hr⟩ := bindS hr
  refine WL.appO hE hS 0 1 (runs_plain rfl) rfl rfl rfl rfl ap25 RL.one h54 (rfl) h_v0 (rfl) hx56 rfl ?_; clear hE hS a w; intro a57 c58 cs59 a w h60 hE hS
  refine WL.vS hS hE (runs_plain rfl) (Gives.p hE rfl) rfl ?_; clear hE a; intro a hE
  refine WL.nil ?_
  refine W.ret ?_
  refine finG (fn := Try.f40) (rs := [.tmp 2]) (vs := [_]) hE rfl ⟨rfl, trivial⟩ ?_
  obtain rfl := Option.some.inj hr
  exact ⟨a57, c58, x55.length, cs59, rfl, h60, (rfl), hS⟩
set_option maxHeartbeats 8000000 in
theorem SlicesCloneLint_ok  {w : World} {s : Sg} {R : List HP} {x0 : List Int} {a0 : Option Addr} {c0 : Nat} (hS : St w s (R)) (h0 : Sl 1 (RI .i64) s a0 c0 x0) {r : (List Int)} (hr : SlicesCloneLint x0 = some r) :
    Calls Try.prog 41 [.slice a0 x0.length c0].toArray w (fun e w => ∃ (a0 : Option Addr) (c0 n0 : Nat) (cs0 : List Value), e = .returned (.slice a0 n0 c0) ∧ Ev 1 (RI .i64) s cs0 r ∧ r.length = n0 ∧ St w s (vecC 3 1 a0 c0 n0 cs0 :: R)) := by
  refine enter Try.func41 rfl rfl rfl fun a hE => ?_
  rw [SlicesCloneLint] at hr
  refine W.seq ?_
  refine W.region ?_
  refine WL.vS hS hE (runs_plain rfl) (Gives.p hE rfl) rfl ?_; clear hE a; intro a hE
  refine WL.nil ?_
  refine W.seq ?_
  refine W.seq ?_
  refine W.region ?_
  refine WL.vS hS hE (runs_plain rfl) (Gives.p hE rfl) rfl ?_; clear hE a; intro a hE
  refine WL.vS hS hE (runs_plain rfl) (Gives.isNil hE rfl rfl isl44) rfl ?_; clear hE a; intro a hE
  refine WL.nil ?_
  rcases a0 with _ | g51
  · obtain rfl := h0.none_nil
    replace hr : some [] = _ := hr
    refine W.condT hE rfl rfl ?_
    refine W.seq ?_
    refine W.region ?_
    refine WL.vS hS hE (runs_plain rfl) (Gives.p hE rfl) rfl ?_; clear hE a; intro a hE
    refine WL.nil ?_
    refine W.ret ?_
    replace hS := hS.vecNil 3 1
    refine finG (fn := Try.f41) (rs := [.tmp 2]) (vs := [_]) hE rfl ⟨rfl, trivial⟩ ?_
    obtain rfl := Option.some.inj hr
    exact ⟨none, 0, 0, [], rfl, (Ev.nil), (rfl), hS⟩
  · skip
    refine W.condF hE rfl rfl ?_
    refine W.skip ?_
    refine W.seq ?_
    refine W.region ?_
    refine WL.lit hE hS (e := 3) (es := 1) (vs := []) (cs := []) (runs_plain rfl) rfl (by kernel_rfl) rfl ?_; clear hE hS a w; intro b53 a w hE hS
    replace hS := hS.ptVec (es := 1) (m := 0) rfl (by decide)
    have h55 : Ev 1 (RI .i64) s [] [] := (Ev.nil)
    refine WL.vS hS hE (runs_plain rfl) (Gives.p hE rfl) rfl ?_; clear hE a; intro a hE
    obtain ⟨x56, hx57, hr⟩ := bindS hr
    refine WL.appS hE hS 0 (runs_plain rfl) rfl rfl (xs := x0) rfl rfl ap44 RI.one h55 (rfl) h0 hx57 rfl ?_; clear hE hS a w; intro a58 c59 cs60 a w h61 hE hS
    refine WL.vS hS hE (runs_plain rfl) (Gives.p hE rfl) rfl ?_; clear hE a; intro a hE
    refine WL.nil ?_
    refine W.ret ?_
    refine finG (fn := Try.f41) (rs := [.tmp 2]) (vs := [_]) hE rfl ⟨rfl, trivial⟩ ?_
    obtain rfl := Option.some.inj hr
    exact ⟨a58, c59, x56.length, cs60, rfl, h61, (rfl), hS⟩
set_option maxHeartbeats 8000000 in
theorem FleetdriverBreaks_ok  {w : World} {s : Sg} {R : List HP} {x0 : List FleetShift} {a0 : Option Addr} {c0 : Nat} {x1 : List Int} {a1 : Option Addr} {c1 : Nat} {x2 : FleetLimits} (hS : St w s (R)) (h0 : Sl 3 RFleetShift s a0 c0 x0) (h1 : Sl 1 (RI .i64) s a1 c1 x1) {r : Bool × Bool × Bool} (hr : FleetdriverBreaks x0 x1 x2 = some r) :
    Calls Try.prog 94 [.slice a0 x0.length c0, .slice a1 x1.length c1, .agg (FleetLimits.cells x2).toArray].toArray w (fun e w => e = .returned (.tuple #[.bool r.1, .bool r.2.1, .bool r.2.2]) ∧ St w s (R)) := by
  refine enter Try.func94 rfl rfl rfl fun a hE => ?_
  rw [FleetdriverBreaks] at hr
  refine W.seq ?_
  refine W.region ?_
  refine WL.box hE hS (runs_plain rfl) rfl rfl rfl ?_; clear hE hS a w; intro b51 a w hE hS
  refine WL.vS hS hE (runs_plain rfl) (Gives.p hE rfl) rfl ?_; clear hE a; intro a hE
  refine WL.vS hS hE (runs_plain rfl) (Gives.p hE rfl) rfl ?_; clear hE a; intro a hE
  refine WL.vS hS hE (runs_plain rfl) (Gives.p hE rfl) rfl ?_; clear hE a; intro a hE
  refine WL.nil ?_
  refine W.seq ?_
  refine W.region ?_
  refine WL.vS hS hE (runs_plain rfl) (Gives.build hE (vs := []) [.int .i64 0, .int .i64 0, .int .i64 0, .int .i64 0, .int .i64 0, .int .i64 0, .int .i64 0] rfl (by kernel_rfl)) rfl ?_; clear hE a; intro a hE
  refine WL.alloc hE hS (runs_plain rfl) zr166 rfl ?_; clear hE hS a w; intro b52 a w hE hS
  replace hS := hS.ptVec (es := 1) (m := 7) rfl (by decide)
  have h53 : Ev 1 (RI .i64) s [.int .i64 0, .int .i64 0, .int .i64 0, .int .i64 0, .int .i64 0, .int .i64 0, .int .i64 0] [0, 0, 0, 0, 0, 0, 0] := (Ev.cons (c1 := [.int .i64 0]) rfl rfl (Ev.cons (c1 := [.int .i64 0]) rfl rfl (Ev.cons (c1 := [.int .i64 0]) rfl rfl (Ev.cons (c1 := [.int .i64 0]) rfl rfl (Ev.cons (c1 := [.int .i64 0]) rfl rfl (Ev.cons (c1 := [.int .i64 0]) rfl rfl (Ev.cons (c1 := [.int .i64 0]) rfl rfl (Ev.nil))))))))
  have h55 : Ev 1 (RI .i64) s [.int .i64 0, .int .i64 0, .int .i64 0, .int .i64 0, .int .i64 0, .int .i64 0, .int .i64 0] [0, 0, 0, 0, 0, 0, 0] := (Ev.cons (c1 := [.int .i64 0]) rfl rfl (Ev.cons (c1 := [.int .i64 0]) rfl rfl (Ev.cons (c1 := [.int .i64 0]) rfl rfl (Ev.cons (c1 := [.int .i64 0]) rfl rfl (Ev.cons (c1 := [.int .i64 0]) rfl rfl (Ev.cons (c1 := [.int .i64 0]) rfl rfl (Ev.cons (c1 := [.int .i64 0]) rfl rfl (Ev.nil))))))))
  have hn56 : ([0, 0, 0, 0, 0, 0, 0]).length = 7 := rfl
  refine WL.storeArr hE hS 0 rfl (runs_plain rfl) rfl rfl rfl ty166 (by decide) (by first | rfl | (rw [h55.ints]; simp [List.all_map, Function.comp_def, Value.oneCell'])) h55 hn56 rfl ?_; clear hE hS a w; intro a w hE hS
  refine WL.nil ?_
  refine W.seq ?_
  refine W.seq ?_
  refine W.region ?_
  refine WL.vS hS hE (runs_plain rfl) (Gives.p hE rfl) rfl ?_; clear hE a; intro a hE
  refine WL.vS hS hE (runs_plain rfl) (Gives.len hE rfl sl44) rfl ?_; clear hE a; intro a hE
  refine WL.vS hS hE (runs_plain rfl) (Gives.p hE rfl) rfl ?_; clear hE a; intro a hE
  refine WL.nil ?_
  obtain ⟨q58, hq57, hr⟩ := bindS hr
  refine W.cut (fun a w => ∃ (q68 : Bool), ∃ (q69 : List Int), ∃ (cs73 : List Value), (q68, q69) = q58 ∧ Ev 1 (RI .i64) s cs73 q69 ∧ q69.length = 7 ∧ Rep a 111 [(5, .pointer (some ⟨b51, 0, none⟩)), (6, .bool false), (7, .bool q68), (8, .bool false), (9, .pointer (some ⟨b52, 0, none⟩))] ∧ St w s (vecC 166 1 (some ⟨b52, 0, none⟩) 7 7 cs73 :: pt b51 (.cells (FleetLimits.cells x2).toArray 24 (0, 0)) :: R)) ?_ ?_
  · refine W.block ?_
    refine W.loop (fun m a w => ∃ (rest61 : List Int) (k59 : Nat), ∃ (q68 : Bool), ∃ (q69 : List Int), ∃ (cs73 : List Value), rest61.length = m ∧ x1.drop k59 = rest61 ∧ FleetdriverBreaks.loop1 x0 x1 x2 rest61 k59 q68 q69 = some q58 ∧ Ev 1 (RI .i64) s cs73 q69 ∧ q69.length = 7 ∧ Rep a 111 [(0, .slice a0 x0.length c0), (1, .slice a1 x1.length c1), (5, .pointer (some ⟨b51, 0, none⟩)), (6, .bool false), (7, .bool q68), (8, .bool false), (9, .pointer (some ⟨b52, 0, none⟩)), (20, .slice a1 x1.length c1), (21, .int .i64 ((x1).length : Int)), (22, .int .i64 ((k59 : Nat) : Int))] ∧ St w s (vecC 166 1 (some ⟨b52, 0, none⟩) 7 7 cs73 :: pt b51 (.cells (FleetLimits.cells x2).toArray 24 (0, 0)) :: R)) (m := x1.length) ⟨x1, 0, false, [0, 0, 0, 0, 0, 0, 0], [.int .i64 0, .int .i64 0, .int .i64 0, .int .i64 0, .int .i64 0, .int .i64 0, .int .i64 0], rfl, rfl, hq57, h55, hn56, hE.pick _ ⟨rfl, rfl, rfl, rfl, rfl, rfl, rfl, rfl, rfl, rfl, trivial⟩, hS⟩ ?_
    clear hE hS a w hq57; rintro m65 a w ⟨rest61, k59, q68, q69, cs73, rfl, hd62, hq57, h72, hn74, hE, hS⟩
    refine W.gen fun K75 hK75 => ?_
    rcases rest61 with _ | ⟨x60, rest61⟩
    · have hlt63 := drop_nil hd62
      refine W.seq ?_
      refine W.region ?_
      refine WL.vS hS hE (runs_plain rfl) (Gives.p hE rfl) rfl ?_; clear hE a; intro a hE
      refine WL.nil ?_
      refine W.seq ?_
      refine W.condF hE rfl (decide_eq_false (by omega)) ?_
      subst hK75
      refine W.exit rfl ?_
      exact ⟨q68, q69, cs73, Option.some.inj hq57, h72, hn74, hE.pick _ ⟨rfl, rfl, rfl, rfl, rfl, trivial⟩, hS⟩
    · obtain ⟨hlt63, hx64, hd62⟩ := drop_cons hd62
      rw [FleetdriverBreaks.loop1] at hq57
      refine W.seq ?_
      refine W.region ?_
      refine WL.vS hS hE (runs_plain rfl) (Gives.p hE rfl) rfl ?_; clear hE a; intro a hE
      refine WL.nil ?_
      refine W.seq ?_
      refine W.condT hE rfl (decide_eq_true (by omega)) ?_
      refine W.skip ?_
      refine W.seq ?_
      refine W.block ?_
      refine W.seq ?_
      refine W.region ?_
      refine WL.vS hS hE (runs_plain rfl) (Gives.p hE rfl) rfl ?_; clear hE a; intro a hE
      obtain ⟨cs76, hl77, hR78, hat79⟩ := h1.at hx64
      subst hR78
      refine WL.vS hS hE (runs_plain rfl) (Gives.idx hE k59 rfl rfl sl44 rfl hlt63 (h1.aok hlt63)) rfl ?_; clear hE a; intro a hE
      refine WL.vS hS hE (runs_plain rfl) (Gives.load1 hE rfl (fun w h => hat79 w _ h) ty3) rfl ?_; clear hE a; intro a hE
      refine WL.vS hS hE (runs_plain rfl) (Gives.p hE rfl) rfl ?_; clear hE a; intro a hE
      refine WL.vS hS hE (runs_plain rfl) (Gives.p hE rfl) rfl ?_; clear hE a; intro a hE
      refine WL.nil ?_
      refine W.seq ?_
      refine W.region ?_
      refine WL.vS hS hE (runs_plain rfl) (Gives.p hE rfl) rfl ?_; clear hE a; intro a hE
      refine WL.vS hS hE (runs_plain rfl) (Gives.p hE rfl) rfl ?_; clear hE a; intro a hE
      obtain ⟨x80, hx81, hq57⟩ := bindS hq57
      obtain ⟨hi82, hlt83, hy84⟩ := gx_some hx81
      obtain ⟨cs85, hl86, hR87, hat88⟩ := h0.at hy84
      subst hR87
      refine WL.vS hS hE (runs_plain rfl) (Gives.idx hE (x60).toNat rfl rfl sl22 hi82 hlt83 (h0.aok hlt83)) rfl ?_; clear hE a; intro a hE
      refine WL.vS hS hE (runs_plain rfl) (Gives.fld hE rfl fl126_0) rfl ?_; clear hE a; intro a hE
      refine WL.vS hS hE (runs_plain rfl) (Gives.load1 hE rfl (fun w h => (hat88 w _ h).one rfl) ty3) rfl ?_; clear hE a; intro a hE
      obtain ⟨x89, hx90, hq57⟩ := bindS hq57
      obtain ⟨hi91, hlt92, hy93⟩ := gx_some hx90
      obtain ⟨vs94, hl95, hR96, hd97, hget98⟩ := h72.at hy93
      subst hR96
      refine WL.vS hS hE (runs_plain rfl) (Gives.idxA hE ((x80.Day).toNat) rfl rfl ar166 hi91 (by have := hn74; omega) (hS.vecAok 0 rfl (by have := hn74; omega : (x80.Day).toNat < 7))) rfl ?_; clear hE a; intro a hE
      refine WL.vS hS hE (runs_plain rfl) (Gives.load1 hE rfl (fun w h => St.vecSees h 0 rfl ((x80.Day).toNat * 1) _ hget98) ty3) rfl ?_; clear hE a; intro a hE
      refine WL.vS hS hE (runs_plain rfl) (Gives.p hE rfl) rfl ?_; clear hE a; intro a hE
      obtain ⟨_, hx100, hq57⟩ := bindS hq57
      obtain ⟨h101, h102⟩ := ix_some hx100
      refine WL.vS hS hE (runs_plain rfl) (Gives.idxA hE ((x80.Day).toNat) rfl rfl ar166 h101 (by have := hn74; omega) (hS.vecAok 0 rfl (by have := hn74; omega : (x80.Day).toNat < 7))) rfl ?_; clear hE a; intro a hE
      obtain ⟨x104, hx105, hq57⟩ := bindS hq57
      refine WL.setD hE hS 0 rfl (runs_plain rfl) rfl rfl (vs := [.int .i64 (w64 (x89 + 1))]) rfl ty3 rfl rfl rfl h72 hn74 (sx_some hx105).1 hx105 rfl rfl ?_; clear hE hS a w; intro cs106 a w h107 hn108 hE hS
      refine WL.nil ?_
      refine W.seq ?_
      refine W.region ?_
      refine WL.vS hS hE (runs_plain rfl) (Gives.p hE rfl) rfl ?_; clear hE a; intro a hE
      refine WL.vS hS hE (runs_plain rfl) (Gives.p hE rfl) rfl ?_; clear hE a; intro a hE
      obtain ⟨x109, hx110, hq57⟩ := bindS hq57
      obtain ⟨a111, c112, heq113, h114⟩ := h1.cut hx110
      obtain ⟨h115, h116, h117, _⟩ := cutl_some hx110
      refine WL.vS hS hE (runs_plain rfl) (Gives.slH hE sl44 rfl rfl (by omega) (by have := h1.len; omega) heq113) rfl ?_; clear hE a; intro a hE
      refine WL.vS hS hE (runs_plain rfl) (Gives.len hE rfl sl44) rfl ?_; clear hE a; intro a hE
      refine WL.vS hS hE (runs_plain rfl) (Gives.p hE rfl) rfl ?_; clear hE a; intro a hE
      refine WL.nil ?_
      obtain ⟨q119, hq118, hq57⟩ := bindS hq57
      refine W.cut (fun a w => ∃ (q129 : Bool), q129 = q119 ∧ Rep a 111 [(0, .slice a0 x0.length c0), (1, .slice a1 x1.length c1), (5, .pointer (some ⟨b51, 0, none⟩)), (6, .bool false), (7, .bool q129), (8, .bool false), (9, .pointer (some ⟨b52, 0, none⟩)), (20, .slice a1 x1.length c1), (21, .int .i64 ((x1).length : Int)), (22, .int .i64 ((k59 : Nat) : Int))] ∧ St w s (vecC 166 1 (some ⟨b52, 0, none⟩) 7 7 cs106 :: pt b51 (.cells (FleetLimits.cells x2).toArray 24 (0, 0)) :: R)) ?_ ?_
      · refine W.block ?_
        refine W.loop (fun m a w => ∃ (rest122 : List Int) (k120 : Nat), ∃ (q129 : Bool), rest122.length = m ∧ x109.drop k120 = rest122 ∧ FleetdriverBreaks.loop2 x0 x2 x60 rest122 q129 = some q119 ∧ Rep a 111 [(0, .slice a0 x0.length c0), (1, .slice a1 x1.length c1), (5, .pointer (some ⟨b51, 0, none⟩)), (6, .bool false), (7, .bool q129), (8, .bool false), (9, .pointer (some ⟨b52, 0, none⟩)), (11, .int .i64 x60), (20, .slice a1 x1.length c1), (21, .int .i64 ((x1).length : Int)), (22, .int .i64 ((k59 : Nat) : Int)), (38, .slice a111 x109.length c112), (39, .int .i64 ((x109).length : Int)), (40, .int .i64 ((k120 : Nat) : Int))] ∧ St w s (vecC 166 1 (some ⟨b52, 0, none⟩) 7 7 cs106 :: pt b51 (.cells (FleetLimits.cells x2).toArray 24 (0, 0)) :: R)) (m := x109.length) ⟨x109, 0, q68, rfl, rfl, hq118, hE.pick _ ⟨rfl, rfl, rfl, rfl, rfl, rfl, rfl, rfl, rfl, rfl, rfl, rfl, rfl, rfl, trivial⟩, hS⟩ ?_
        clear hE hS a w hq118; rintro m126 a w ⟨rest122, k120, q129, rfl, hd123, hq118, hE, hS⟩
        refine W.gen fun K130 hK130 => ?_
        rcases rest122 with _ | ⟨x121, rest122⟩
        · have hlt124 := drop_nil hd123
          refine W.seq ?_
          refine W.region ?_
          refine WL.vS hS hE (runs_plain rfl) (Gives.p hE rfl) rfl ?_; clear hE a; intro a hE
          refine WL.nil ?_
          refine W.seq ?_
          refine W.condF hE rfl (decide_eq_false (by omega)) ?_
          subst hK130
          refine W.exit rfl ?_
          exact ⟨q129, Option.some.inj hq118, hE.pick _ ⟨rfl, rfl, rfl, rfl, rfl, rfl, rfl, rfl, rfl, rfl, trivial⟩, hS⟩
        · obtain ⟨hlt124, hx125, hd123⟩ := drop_cons hd123
          rw [FleetdriverBreaks.loop2] at hq118
          refine W.seq ?_
          refine W.region ?_
          refine WL.vS hS hE (runs_plain rfl) (Gives.p hE rfl) rfl ?_; clear hE a; intro a hE
          refine WL.nil ?_
          refine W.seq ?_
          refine W.condT hE rfl (decide_eq_true (by omega)) ?_
          refine W.skip ?_
          refine W.seq ?_
          refine W.block ?_
          refine W.seq ?_
          refine W.region ?_
          obtain ⟨cs131, hl132, hR133, hat134⟩ := h114.at hx125
          subst hR133
          refine WL.vS hS hE (runs_plain rfl) (Gives.idx hE k120 rfl rfl sl44 rfl hlt124 (h114.aok hlt124)) rfl ?_; clear hE a; intro a hE
          refine WL.vS hS hE (runs_plain rfl) (Gives.load1 hE rfl (fun w h => hat134 w _ h) ty3) rfl ?_; clear hE a; intro a hE
          refine WL.vS hS hE (runs_plain rfl) (Gives.p hE rfl) rfl ?_; clear hE a; intro a hE
          refine WL.nil ?_
          refine W.seq ?_
          refine W.gen fun K135 hK135 => ?_
          refine W.regionE (sel (fun w => St w s (vecC 166 1 (some ⟨b52, 0, none⟩) 7 7 cs106 :: pt b51 (.cells (FleetLimits.cells x2).toArray 24 (0, 0)) :: R)) (fun w => St w s (vecC 166 1 (some ⟨b52, 0, none⟩) 7 7 cs106 :: pt b51 (.cells (FleetLimits.cells x2).toArray 24 (0, 0)) :: R))) (fun b i => cond b ([0, 1, 2, 3, 4, 5, 6, 7, 8, 9, 10, 11].contains i) ([0, 1, 2, 3, 4, 5, 6, 7, 8, 9, 10, 11].contains i)) mixed ?_
          replace hS := hS.drew
          refine Rg.takeP (i := 0) hE rfl (by kernel_rfl) (runs_plain rfl) (Gives.p hE rfl) rfl (tw_sel (fun _ => hS) (fun _ => hS)) ?_; clear hE a; intro a hE
          refine Rg.takeP (i := 1) hE rfl (by kernel_rfl) (runs_plain rfl) (Gives.p hE rfl) rfl (tw_sel (fun _ => hS) (fun _ => hS)) ?_; clear hE a; intro a hE
          obtain ⟨x136, hx137, hq118⟩ := bindS hq118
          obtain ⟨hi138, hlt139, hy140⟩ := gx_some hx137
          obtain ⟨cs141, hl142, hR143, hat144⟩ := h0.at hy140
          subst hR143
          refine Rg.takeP (i := 2) hE rfl (by kernel_rfl) (runs_plain rfl) (Gives.idx hE (x60).toNat rfl rfl sl22 hi138 hlt139 (h0.aok hlt139)) rfl (tw_sel (fun _ => hS) (fun _ => hS)) ?_; clear hE a; intro a hE
          have hT := tw_sel (A := fun w => St w s (vecC 166 1 (some ⟨b52, 0, none⟩) 7 7 cs106 :: pt b51 (.cells (FleetLimits.cells x2).toArray 24 (0, 0)) :: R)) (B := fun w => St w s (vecC 166 1 (some ⟨b52, 0, none⟩) 7 7 cs106 :: pt b51 (.cells (FleetLimits.cells x2).toArray 24 (0, 0)) :: R)) (w := _) (x := true) (y := true) (fun _ => hS) (fun _ => hS)
          have hF := hS; replace hS := hS
          refine Rg.take (i := 3) true rfl hE rfl (by kernel_rfl) (runs_plain rfl) (Gives.loadA hE rfl (fun w h => hat144 w _ h) ty126) rfl hT ?_; clear hE a; intro a hE
          replace hS := hF; clear hF hT
          refine Rg.takeP (i := 4) hE rfl (by kernel_rfl) (runs_plain rfl) (Gives.p hE rfl) rfl (tw_sel (fun _ => hS) (fun _ => hS)) ?_; clear hE a; intro a hE
          refine Rg.takeP (i := 5) hE rfl (by kernel_rfl) (runs_plain rfl) (Gives.p hE rfl) rfl (tw_sel (fun _ => hS) (fun _ => hS)) ?_; clear hE a; intro a hE
          obtain ⟨x145, hx146, hq118⟩ := bindS hq118
          obtain ⟨hi147, hlt148, hy149⟩ := gx_some hx146
          obtain ⟨cs150, hl151, hR152, hat153⟩ := h0.at hy149
          subst hR152
          refine Rg.takeP (i := 6) hE rfl (by kernel_rfl) (runs_plain rfl) (Gives.idx hE (x121).toNat rfl rfl sl22 hi147 hlt148 (h0.aok hlt148)) rfl (tw_sel (fun _ => hS) (fun _ => hS)) ?_; clear hE a; intro a hE
          have hT := tw_sel (A := fun w => St w s (vecC 166 1 (some ⟨b52, 0, none⟩) 7 7 cs106 :: pt b51 (.cells (FleetLimits.cells x2).toArray 24 (0, 0)) :: R)) (B := fun w => St w s (vecC 166 1 (some ⟨b52, 0, none⟩) 7 7 cs106 :: pt b51 (.cells (FleetLimits.cells x2).toArray 24 (0, 0)) :: R)) (w := _) (x := true) (y := true) (fun _ => hS) (fun _ => hS)
          have hF := hS; replace hS := hS
          refine Rg.take (i := 7) true rfl hE rfl (by kernel_rfl) (runs_plain rfl) (Gives.loadA hE rfl (fun w h => hat153 w _ h) ty126) rfl hT ?_; clear hE a; intro a hE
          replace hS := hF; clear hF hT
          suffices key : ∀ b154 b155 (a : Act) (w : World), Sl 3 RFleetShift s a0 c0 x0 → Sl 1 (RI .i64) s a1 c1 x1 → Sl 1 (RI .i64) s a111 c112 x109 → Ev 1 (RI .i64) s cs106 x104 → (x104).length = 7 → Rep a 111 [(0, .slice a0 x0.length c0), (1, .slice a1 x1.length c1), (5, .pointer (some ⟨b51, 0, none⟩)), (6, .bool false), (7, .bool q129), (8, .bool false), (9, .pointer (some ⟨b52, 0, none⟩)), (11, .int .i64 x60), (14, .pointer (some ⟨b154, 0, none⟩)), (15, .pointer (some ⟨b155, 0, none⟩)), (20, .slice a1 x1.length c1), (21, .int .i64 ((x1).length : Int)), (22, .int .i64 ((k59 : Nat) : Int)), (38, .slice a111 x109.length c112), (39, .int .i64 ((x109).length : Int)), (40, .int .i64 ((k120 : Nat) : Int))] → St w s (pt b155 (.cells (FleetShift.cells x145).toArray 126 (0, 0)) :: pt b154 (.cells (FleetShift.cells x136).toArray 126 (0, 0)) :: vecC 166 1 (some ⟨b52, 0, none⟩) 7 7 cs106 :: pt b51 (.cells (FleetLimits.cells x2).toArray 24 (0, 0)) :: R) → K135.nor a w by
            refine Rg.many 8 [9] (by kernel_rfl) ⟨?_, ?_, trivial⟩
            · refine Br.mk (i := 8) true true rfl (by kernel_rfl) (by kernel_rfl) ?_
              refine WL.alloc hE hS (runs_plain rfl) zr126 rfl ?_; clear hE hS a w; intro b154 a w hE hS
              refine WL.nil ?_
              refine ⟨⟨fun _ => (hS.tail), fun _ => (hS.tail)⟩, ?_⟩
              refine Rg.one (i := 9) true true rfl (by kernel_rfl) (by kernel_rfl) (by kernel_rfl) ?_
              refine WL.alloc hE hS (runs_plain rfl) zr126 rfl ?_; clear hE hS a w; intro b155 a w hE hS
              refine WL.nil ?_
              refine ⟨⟨fun _ => ((hS.tail).tail), fun _ => ((hS.tail).tail)⟩, ?_⟩
              refine Rg.one (i := 10) true true rfl (by kernel_rfl) (by kernel_rfl) (by kernel_rfl) ?_
              refine WL.storeI hE hS 1 rfl (FleetShift.cells x136) (runs_plain rfl) rfl rfl rfl ty126 rfl rfl rfl rfl ?_; clear hE hS a w; intro a w hE hS
              refine WL.nil ?_
              refine ⟨⟨fun _ => ((hS.tail).tail), fun _ => ((hS.tail).tail)⟩, ?_⟩
              refine Rg.one (i := 11) true true rfl (by kernel_rfl) (by kernel_rfl) (by kernel_rfl) ?_
              refine WL.storeI hE hS 0 rfl (FleetShift.cells x145) (runs_plain rfl) rfl rfl rfl ty126 rfl rfl rfl rfl ?_; clear hE hS a w; intro a w hE hS
              refine WL.nil ?_
              refine ⟨⟨fun _ => ((hS.tail).tail), fun _ => ((hS.tail).tail)⟩, ?_⟩
              refine Rg.done (by kernel_rfl) ?_
              exact key _ _ _ _ h0 h1 h114 h107 hn108 (hE.pick _ ⟨rfl, rfl, rfl, rfl, rfl, rfl, rfl, rfl, rfl, rfl, rfl, rfl, rfl, rfl, rfl, rfl, trivial⟩) hS
            · refine Br.mk (i := 9) true true rfl (by kernel_rfl) (by kernel_rfl) ?_
              refine WL.alloc hE hS (runs_plain rfl) zr126 rfl ?_; clear hE hS a w; intro b155 a w hE hS
              refine WL.nil ?_
              refine ⟨⟨fun _ => (hS.tail), fun _ => (hS.tail)⟩, ?_⟩
              refine Rg.one (i := 8) true true rfl (by kernel_rfl) (by kernel_rfl) (by kernel_rfl) ?_
              refine WL.alloc hE hS (runs_plain rfl) zr126 rfl ?_; clear hE hS a w; intro b154 a w hE hS
              refine WL.nil ?_
              refine ⟨⟨fun _ => ((hS.tail).tail), fun _ => ((hS.tail).tail)⟩, ?_⟩
              refine Rg.one (i := 10) true true rfl (by kernel_rfl) (by kernel_rfl) (by kernel_rfl) ?_
              refine WL.storeI hE hS 0 rfl (FleetShift.cells x136) (runs_plain rfl) rfl rfl rfl ty126 rfl rfl rfl rfl ?_; clear hE hS a w; intro a w hE hS
              refine WL.nil ?_
              refine ⟨⟨fun _ => ((hS.tail).tail), fun _ => ((hS.tail).tail)⟩, ?_⟩
              refine Rg.one (i := 11) true true rfl (by kernel_rfl) (by kernel_rfl) (by kernel_rfl) ?_
              refine WL.storeI hE hS 1 rfl (FleetShift.cells x145) (runs_plain rfl) rfl rfl rfl ty126 rfl rfl rfl rfl ?_; clear hE hS a w; intro a w hE hS
              refine WL.nil ?_
              refine ⟨⟨fun _ => ((hS.tail).tail), fun _ => ((hS.tail).tail)⟩, ?_⟩
              refine Rg.done (by kernel_rfl) ?_
              replace hS := hS.front 3 rfl
              replace hS := hS.front 3 rfl
              replace hS := hS.front 2 rfl
              replace hS := hS.front 3 rfl
              exact key _ _ _ _ h0 h1 h114 h107 hn108 (hE.pick _ ⟨rfl, rfl, rfl, rfl, rfl, rfl, rfl, rfl, rfl, rfl, rfl, rfl, rfl, rfl, rfl, rfl, trivial⟩) hS
          clear hE hS a w; intro b154 b155 a w h0 h1 h114 h107 hn108 hE hS
          subst hK135
          refine W.seq ?_
          refine W.seq ?_
          refine W.region ?_
          refine WL.vS hS hE (runs_plain rfl) (Gives.fld hE rfl fl126_0) rfl ?_; clear hE a; intro a hE
          refine WL.vS hS hE (runs_plain rfl) (Gives.loadB hE 1 rfl rfl rfl ty3) rfl ?_; clear hE a; intro a hE
          refine WL.vS hS hE (runs_plain rfl) (Gives.fld hE rfl fl126_0) rfl ?_; clear hE a; intro a hE
          refine WL.vS hS hE (runs_plain rfl) (Gives.loadB hE 0 rfl rfl rfl ty3) rfl ?_; clear hE a; intro a hE
          refine WL.vS hS hE (runs_plain rfl) (Gives.p hE rfl) rfl ?_; clear hE a; intro a hE
          refine WL.nil ?_
          obtain ⟨q158, hq157, hq118⟩ := bndS hq118
          refine W.cut (fun a w => ∃ (q161 : Int), ∃ (q162 : Int), ∃ (q163 : Int), ∃ (q164 : Int), ∃ (q165 : Int), ∃ (q166 : Int), (q161, q162, q163, q164, q165, q166) = q158 ∧ Rep a 111 [(0, .slice a0 x0.length c0), (1, .slice a1 x1.length c1), (5, .pointer (some ⟨b51, 0, none⟩)), (6, .bool false), (7, .bool q129), (8, .bool false), (9, .pointer (some ⟨b52, 0, none⟩)), (11, .int .i64 x60), (14, .pointer (some ⟨b154, 0, none⟩)), (15, .pointer (some ⟨b155, 0, none⟩)), (20, .slice a1 x1.length c1), (21, .int .i64 ((x1).length : Int)), (22, .int .i64 ((k59 : Nat) : Int)), (38, .slice a111 x109.length c112), (39, .int .i64 ((x109).length : Int)), (40, .int .i64 ((k120 : Nat) : Int))] ∧ St w s (pt b155 (.cells #[.int .i64 q164, .int .i64 q165, .int .i64 q166] 126 (0, 0)) :: pt b154 (.cells #[.int .i64 q161, .int .i64 q162, .int .i64 q163] 126 (0, 0)) :: vecC 166 1 (some ⟨b52, 0, none⟩) 7 7 cs106 :: pt b51 (.cells (FleetLimits.cells x2).toArray 24 (0, 0)) :: R)) ?_ ?_
          · refine W.gen fun K167 hK167 => ?_
            refine W.cond hE rfl (fun hc168 => ?_) (fun hc168 => ?_)
            · replace hq157 := iteT hc168 hq157
              refine W.region ?_
              refine WL.vS hS hE (runs_plain rfl) (Gives.loadBA hE 0 rfl rfl ty126) rfl ?_; clear hE a; intro a hE
              refine WL.vS hS hE (runs_plain rfl) (Gives.loadBA hE 1 rfl rfl ty126) rfl ?_; clear hE a; intro a hE
              refine WL.storeI hE hS 1 rfl (FleetShift.cells x145) (runs_plain rfl) rfl rfl rfl ty126 rfl rfl rfl rfl ?_; clear hE hS a w; intro a w hE hS
              refine WL.storeI hE hS 0 rfl (FleetShift.cells x136) (runs_plain rfl) rfl rfl rfl ty126 rfl rfl rfl rfl ?_; clear hE hS a w; intro a w hE hS
              refine WL.nil ?_
              subst hK167
              exact ⟨x145.Day, x145.Start, x145.End, x136.Day, x136.Start, x136.End, hq157, hE.pick _ ⟨rfl, rfl, rfl, rfl, rfl, rfl, rfl, rfl, rfl, rfl, rfl, rfl, rfl, rfl, rfl, rfl, trivial⟩, hS⟩
            · replace hq157 := iteF hc168 hq157
              refine W.skip ?_
              subst hK167
              exact ⟨x136.Day, x136.Start, x136.End, x145.Day, x145.Start, x145.End, hq157, hE.pick _ ⟨rfl, rfl, rfl, rfl, rfl, rfl, rfl, rfl, rfl, rfl, rfl, rfl, rfl, rfl, rfl, rfl, trivial⟩, hS⟩
          · clear hE hS a w; rintro a w ⟨q161, q162, q163, q164, q165, q166, rfl, hE, hS⟩
            dsimp only at hq118
            obtain ⟨q170, hq169, hq118⟩ := bndS hq118
            refine W.cut (fun a w => ∃ (q173 : Bool), q173 = q170 ∧ Rep a 111 [(0, .slice a0 x0.length c0), (1, .slice a1 x1.length c1), (5, .pointer (some ⟨b51, 0, none⟩)), (6, .bool false), (7, .bool q173), (8, .bool false), (9, .pointer (some ⟨b52, 0, none⟩)), (11, .int .i64 x60), (20, .slice a1 x1.length c1), (21, .int .i64 ((x1).length : Int)), (22, .int .i64 ((k59 : Nat) : Int)), (38, .slice a111 x109.length c112), (39, .int .i64 ((x109).length : Int)), (40, .int .i64 ((k120 : Nat) : Int))] ∧ St w s (pt b155 (.cells #[.int .i64 q164, .int .i64 q165, .int .i64 q166] 126 (0, 0)) :: pt b154 (.cells #[.int .i64 q161, .int .i64 q162, .int .i64 q163] 126 (0, 0)) :: vecC 166 1 (some ⟨b52, 0, none⟩) 7 7 cs106 :: pt b51 (.cells (FleetLimits.cells x2).toArray 24 (0, 0)) :: R)) ?_ ?_
            · refine W.gen fun K174 hK174 => ?_
              refine W.region ?_
              refine WL.vS hS hE (runs_plain rfl) (Gives.p hE rfl) rfl ?_; clear hE a; intro a hE
              refine WL.vS hS hE (runs_plain rfl) (Gives.p hE rfl) rfl ?_; clear hE a; intro a hE
              rcases Bool.eq_false_or_eq_true q129 with hg175 | hg175
              · replace hq169 := iteT hg175 hq169
                refine WL.no hE (runs_not hE rfl rfl rfl (by rw [hg175]; decide)) rfl ?_; clear hE a; intro a hE
                refine WL.no hE (runs_not hE rfl rfl rfl (by rw [hg175]; decide)) rfl ?_; clear hE a; intro a hE
                refine WL.no hE (runs_not hE rfl rfl rfl (by rw [hg175]; decide)) rfl ?_; clear hE a; intro a hE
                refine WL.no hE (runs_not hE rfl rfl rfl (by rw [hg175]; decide)) rfl ?_; clear hE a; intro a hE
                refine WL.no hE (runs_not hE rfl rfl rfl (by rw [hg175]; decide)) rfl ?_; clear hE a; intro a hE
                refine WL.no hE (runs_not hE rfl rfl rfl (by rw [hg175]; decide)) rfl ?_; clear hE a; intro a hE
                refine WL.no hE (runs_undef hE rfl rfl rfl) rfl ?_; clear hE a; intro a hE
                refine WL.no hE (runs_undef hE rfl rfl rfl) rfl ?_; clear hE a; intro a hE
                refine WL.no hE (runs_undef hE rfl rfl rfl) rfl ?_; clear hE a; intro a hE
                refine WL.no hE (runs_undef hE rfl rfl rfl) rfl ?_; clear hE a; intro a hE
                refine WL.no hE (runs_undef hE rfl rfl rfl) rfl ?_; clear hE a; intro a hE
                refine WL.no hE (runs_undef hE rfl rfl rfl) rfl ?_; clear hE a; intro a hE
                refine WL.no hE (runs_undef hE rfl rfl rfl) rfl ?_; clear hE a; intro a hE
                refine WL.no hE (runs_undef hE rfl rfl rfl) rfl ?_; clear hE a; intro a hE
                refine WL.no hE (runs_undef hE rfl rfl rfl) rfl ?_; clear hE a; intro a hE
                refine WL.no hE (runs_undef hE rfl rfl rfl) rfl ?_; clear hE a; intro a hE
                refine WL.no hE (runs_undef hE rfl rfl rfl) rfl ?_; clear hE a; intro a hE
                refine WL.no hE (runs_undef hE rfl rfl rfl) rfl ?_; clear hE a; intro a hE
                refine WL.no hE (runs_undef hE rfl rfl rfl) rfl ?_; clear hE a; intro a hE
                refine WL.no hE (runs_undef hE rfl rfl rfl) rfl ?_; clear hE a; intro a hE
                refine WL.no hE (runs_undef hE rfl rfl rfl) rfl ?_; clear hE a; intro a hE
                refine WL.no hE (runs_undef hE rfl rfl rfl) rfl ?_; clear hE a; intro a hE
                refine WL.no hE (runs_not hE rfl rfl rfl (by rw [hg175]; decide)) rfl ?_; clear hE a; intro a hE
                refine WL.vS hS hE (runs_plain rfl) (Gives.pickT hE rfl hg175 rfl) rfl ?_; clear hE a; intro a hE
                refine WL.vS hS hE (runs_plain rfl) (Gives.p hE rfl) rfl ?_; clear hE a; intro a hE
                refine WL.nil ?_
                subst hK174
                exact ⟨true, hq169, hE.pick _ ⟨rfl, rfl, rfl, rfl, rfl, rfl, rfl, rfl, rfl, rfl, rfl, rfl, rfl, rfl, trivial⟩, hS⟩
              · replace hq169 := iteF hg175 hq169
                refine WL.vS hS hE (runs_if hE rfl rfl rfl hg175) (Gives.fld hE rfl fl126_0) rfl ?_; clear hE a; intro a hE
                refine WL.vS hS hE (runs_if hE rfl rfl rfl hg175) (Gives.loadB hE 1 rfl rfl rfl ty3) rfl ?_; clear hE a; intro a hE
                refine WL.vS hS hE (runs_if hE rfl rfl rfl hg175) (Gives.fld hE rfl fl126_0) rfl ?_; clear hE a; intro a hE
                refine WL.vS hS hE (runs_if hE rfl rfl rfl hg175) (Gives.loadB hE 0 rfl rfl rfl ty3) rfl ?_; clear hE a; intro a hE
                refine WL.vS hS hE (runs_if hE rfl rfl rfl hg175) (Gives.p hE rfl) rfl ?_; clear hE a; intro a hE
                refine WL.vS hS hE (runs_if hE rfl rfl rfl hg175) (Gives.p hE rfl) rfl ?_; clear hE a; intro a hE
                rcases Bool.eq_false_or_eq_true (q161 != q164) with hg176 | hg176
                · replace hq169 := iteT hg176 hq169
                  refine WL.vS hS hE (runs_if hE rfl rfl rfl hg176) (Gives.fld hE rfl fl126_0) rfl ?_; clear hE a; intro a hE
                  refine WL.vS hS hE (runs_if hE rfl rfl rfl hg176) (Gives.loadB hE 0 rfl rfl rfl ty3) rfl ?_; clear hE a; intro a hE
                  refine WL.vS hS hE (runs_if hE rfl rfl rfl hg176) (Gives.p hE rfl) rfl ?_; clear hE a; intro a hE
                  refine WL.vS hS hE (runs_if hE rfl rfl rfl hg176) (Gives.fld hE rfl fl126_1) rfl ?_; clear hE a; intro a hE
                  refine WL.vS hS hE (runs_if hE rfl rfl rfl hg176) (Gives.loadB hE 0 rfl rfl rfl ty3) rfl ?_; clear hE a; intro a hE
                  refine WL.vS hS hE (runs_if hE rfl rfl rfl hg176) (Gives.p hE rfl) rfl ?_; clear hE a; intro a hE
                  refine WL.vS hS hE (runs_if hE rfl rfl rfl hg176) (Gives.fld hE rfl fl126_0) rfl ?_; clear hE a; intro a hE
                  refine WL.vS hS hE (runs_if hE rfl rfl rfl hg176) (Gives.loadB hE 1 rfl rfl rfl ty3) rfl ?_; clear hE a; intro a hE
                  refine WL.vS hS hE (runs_if hE rfl rfl rfl hg176) (Gives.p hE rfl) rfl ?_; clear hE a; intro a hE
                  refine WL.vS hS hE (runs_if hE rfl rfl rfl hg176) (Gives.p hE rfl) rfl ?_; clear hE a; intro a hE
                  refine WL.vS hS hE (runs_if hE rfl rfl rfl hg176) (Gives.fld hE rfl fl126_2) rfl ?_; clear hE a; intro a hE
                  refine WL.vS hS hE (runs_if hE rfl rfl rfl hg176) (Gives.loadB hE 1 rfl rfl rfl ty3) rfl ?_; clear hE a; intro a hE
                  refine WL.vS hS hE (runs_if hE rfl rfl rfl hg176) (Gives.p hE rfl) rfl ?_; clear hE a; intro a hE
                  refine WL.vS hS hE (runs_if hE rfl rfl rfl hg176) (Gives.fld hE rfl fl24_5) rfl ?_; clear hE a; intro a hE
                  refine WL.vS hS hE (runs_if hE rfl rfl rfl hg176) (Gives.loadB hE 3 rfl rfl rfl ty3) rfl ?_; clear hE a; intro a hE
                  refine WL.vS hS hE (runs_if hE rfl rfl rfl hg176) (Gives.p hE rfl) rfl ?_; clear hE a; intro a hE
                  refine WL.vS hS hE (runs_if hE rfl rfl rfl hg175) (Gives.pickT hE rfl hg176 rfl) rfl ?_; clear hE a; intro a hE
                  refine WL.vS hS hE (runs_plain rfl) (Gives.pickF hE rfl hg175 rfl) rfl ?_; clear hE a; intro a hE
                  refine WL.vS hS hE (runs_plain rfl) (Gives.p hE rfl) rfl ?_; clear hE a; intro a hE
                  refine WL.nil ?_
                  subst hK174
                  exact ⟨decide ((w64 ((w64 ((w64 ((w64 (q164 * 86400)) + q165)) - (w64 (q161 * 86400)))) - q163)) < x2.Rest), hq169, hE.pick _ ⟨rfl, rfl, rfl, rfl, rfl, rfl, rfl, rfl, rfl, rfl, rfl, rfl, rfl, rfl, trivial⟩, hS⟩
                · replace hq169 := iteF hg176 hq169
                  refine WL.no hE (runs_not hE rfl rfl rfl (by rw [hg176]; decide)) rfl ?_; clear hE a; intro a hE
                  refine WL.no hE (runs_not hE rfl rfl rfl (by rw [hg176]; decide)) rfl ?_; clear hE a; intro a hE
                  refine WL.no hE (runs_not hE rfl rfl rfl (by rw [hg176]; decide)) rfl ?_; clear hE a; intro a hE
                  refine WL.no hE (runs_not hE rfl rfl rfl (by rw [hg176]; decide)) rfl ?_; clear hE a; intro a hE
                  refine WL.no hE (runs_not hE rfl rfl rfl (by rw [hg176]; decide)) rfl ?_; clear hE a; intro a hE
                  refine WL.no hE (runs_not hE rfl rfl rfl (by rw [hg176]; decide)) rfl ?_; clear hE a; intro a hE
                  refine WL.no hE (runs_not hE rfl rfl rfl (by rw [hg176]; decide)) rfl ?_; clear hE a; intro a hE
                  refine WL.no hE (runs_not hE rfl rfl rfl (by rw [hg176]; decide)) rfl ?_; clear hE a; intro a hE
                  refine WL.no hE (runs_not hE rfl rfl rfl (by rw [hg176]; decide)) rfl ?_; clear hE a; intro a hE
                  refine WL.no hE (runs_not hE rfl rfl rfl (by rw [hg176]; decide)) rfl ?_; clear hE a; intro a hE
                  refine WL.no hE (runs_not hE rfl rfl rfl (by rw [hg176]; decide)) rfl ?_; clear hE a; intro a hE
                  refine WL.no hE (runs_not hE rfl rfl rfl (by rw [hg176]; decide)) rfl ?_; clear hE a; intro a hE
                  refine WL.no hE (runs_not hE rfl rfl rfl (by rw [hg176]; decide)) rfl ?_; clear hE a; intro a hE
                  refine WL.no hE (runs_not hE rfl rfl rfl (by rw [hg176]; decide)) rfl ?_; clear hE a; intro a hE
                  refine WL.no hE (runs_not hE rfl rfl rfl (by rw [hg176]; decide)) rfl ?_; clear hE a; intro a hE
                  refine WL.no hE (runs_not hE rfl rfl rfl (by rw [hg176]; decide)) rfl ?_; clear hE a; intro a hE
                  refine WL.vS hS hE (runs_if hE rfl rfl rfl hg175) (Gives.pickF hE rfl hg176 rfl) rfl ?_; clear hE a; intro a hE
                  refine WL.vS hS hE (runs_plain rfl) (Gives.pickF hE rfl hg175 rfl) rfl ?_; clear hE a; intro a hE
                  refine WL.vS hS hE (runs_plain rfl) (Gives.p hE rfl) rfl ?_; clear hE a; intro a hE
                  refine WL.nil ?_
                  subst hK174
                  exact ⟨false, hq169, hE.pick _ ⟨rfl, rfl, rfl, rfl, rfl, rfl, rfl, rfl, rfl, rfl, rfl, rfl, rfl, rfl, trivial⟩, hS⟩
            · clear hE hS a w; rintro a w ⟨q173, rfl, hE, hS⟩
              refine W.region ?_
              refine WL.vS hS hE (runs_plain rfl) (Gives.inc hE rfl (by have := h114.small; omega)) rfl ?_; clear hE a; intro a hE
              refine WL.vS hS hE (runs_plain rfl) (Gives.p hE rfl) rfl ?_; clear hE a; intro a hE
              refine WL.nil ?_
              replace hS := hS.tail
              replace hS := hS.tail
              subst hK130
              exact ⟨rest122.length, Nat.lt_succ_self _, rest122, k120 + 1, q173, rfl, hd123, hq118, hE.pick _ ⟨rfl, rfl, rfl, rfl, rfl, rfl, rfl, rfl, rfl, rfl, rfl, rfl, rfl, rfl, trivial⟩, hS⟩
      · clear hE hS a w; rintro a w ⟨q129, rfl, hE, hS⟩
        refine W.region ?_
        refine WL.vS hS hE (runs_plain rfl) (Gives.inc hE rfl (by have := h1.small; omega)) rfl ?_; clear hE a; intro a hE
        refine WL.vS hS hE (runs_plain rfl) (Gives.p hE rfl) rfl ?_; clear hE a; intro a hE
        refine WL.nil ?_
        subst hK75
        exact ⟨rest61.length, Nat.lt_succ_self _, rest61, k59 + 1, q129, x104, cs106, rfl, hd62, hq57, h107, hn108, hE.pick _ ⟨rfl, rfl, rfl, rfl, rfl, rfl, rfl, rfl, rfl, rfl, trivial⟩, hS⟩
  · clear hE hS a w; rintro a w ⟨q68, q69, cs73, rfl, h72, hn74, hE, hS⟩
    dsimp only at hr
    refine W.seq ?_
    refine W.region ?_
    refine WL.vS hS hE (runs_plain rfl) (Gives.p hE rfl) rfl ?_; clear hE a; intro a hE
    refine WL.nil ?_
    refine W.seq ?_
    refine W.seq ?_
    refine W.region ?_
    refine WL.vS hS hE (runs_plain rfl) (Gives.loadArr hE 0 rfl rfl (by decide) ty166) rfl ?_; clear hE a; intro a hE
    refine WL.vS hS hE (runs_plain rfl) (Gives.p hE rfl) rfl ?_; clear hE a; intro a hE
    refine WL.nil ?_
    replace hS := hS.tail
    obtain ⟨q178, hq177, hr⟩ := bndS hr
    refine W.cut (fun a w => ∃ (q188 : Bool), ∃ (q189 : Bool), ∃ (q190 : Int), (q188, q189, q190) = q178 ∧ Rep a 111 [(6, .bool q188), (7, .bool q68), (8, .bool q189)] ∧ St w s (pt b51 (.cells (FleetLimits.cells x2).toArray 24 (0, 0)) :: R)) ?_ ?_
    · refine W.block ?_
      refine W.loop (fun m a w => ∃ (rest181 : List Int) (k179 : Nat), ∃ (q188 : Bool), ∃ (q189 : Bool), ∃ (q190 : Int), rest181.length = m ∧ q69.drop k179 = rest181 ∧ FleetdriverBreaks.loop3 x2 rest181 q188 q189 q190 = q178 ∧ Rep a 111 [(5, .pointer (some ⟨b51, 0, none⟩)), (6, .bool q188), (7, .bool q68), (8, .bool q189), (16, .int .i64 q190), (87, .agg cs73.toArray), (88, .int .i64 ((k179 : Nat) : Int))] ∧ St w s (pt b51 (.cells (FleetLimits.cells x2).toArray 24 (0, 0)) :: R)) (m := q69.length) ⟨q69, 0, false, false, 0, rfl, rfl, hq177, hE.pick _ ⟨rfl, rfl, rfl, rfl, rfl, rfl, rfl, trivial⟩, hS⟩ ?_
      clear hE hS a w hq177; rintro m185 a w ⟨rest181, k179, q188, q189, q190, rfl, hd182, hq177, hE, hS⟩
      refine W.gen fun K191 hK191 => ?_
      rcases rest181 with _ | ⟨x180, rest181⟩
      · have hlt183 : 7 ≤ k179 := (by have h1 := drop_nil hd182; have h2 := hn74; omega)
        refine W.seq ?_
        refine W.region ?_
        refine WL.vS hS hE (runs_plain rfl) (Gives.p hE rfl) rfl ?_; clear hE a; intro a hE
        refine WL.nil ?_
        refine W.seq ?_
        refine W.condF hE rfl (decide_eq_false (by omega)) ?_
        subst hK191
        refine W.exit rfl ?_
        exact ⟨q188, q189, q190, hq177, hE.pick _ ⟨rfl, rfl, rfl, trivial⟩, hS⟩
      · obtain ⟨hlt183, hx184, hd182⟩ := drop_cons hd182
        replace hlt183 : k179 < 7 := (by have h1 := hlt183; have h2 := hn74; omega)
        rw [FleetdriverBreaks.loop3] at hq177
        refine W.seq ?_
        refine W.region ?_
        refine WL.vS hS hE (runs_plain rfl) (Gives.p hE rfl) rfl ?_; clear hE a; intro a hE
        refine WL.nil ?_
        refine W.seq ?_
        refine W.condT hE rfl (decide_eq_true (by omega)) ?_
        refine W.skip ?_
        refine W.seq ?_
        refine W.block ?_
        refine W.seq ?_
        refine W.region ?_
        refine WL.vS hS hE (runs_plain rfl) (Gives.indexM hE (f := (Value.int .i64)) (l := q69) (k := k179) ar166 rfl rfl h72.ints hn74 hx184) rfl ?_; clear hE a; intro a hE
        refine WL.vS hS hE (runs_plain rfl) (Gives.p hE rfl) rfl ?_; clear hE a; intro a hE
        refine WL.nil ?_
        refine W.seq ?_
        obtain ⟨q193, hq192, hq177⟩ := bndS hq177
        refine W.cut (fun a w => ∃ (q196 : Bool), q196 = q193 ∧ Rep a 111 [(5, .pointer (some ⟨b51, 0, none⟩)), (6, .bool q196), (7, .bool q68), (8, .bool q189), (16, .int .i64 q190), (18, .int .i64 x180), (87, .agg cs73.toArray), (88, .int .i64 ((k179 : Nat) : Int))] ∧ St w s (pt b51 (.cells (FleetLimits.cells x2).toArray 24 (0, 0)) :: R)) ?_ ?_
        · refine W.gen fun K197 hK197 => ?_
          refine W.region ?_
          refine WL.vS hS hE (runs_plain rfl) (Gives.p hE rfl) rfl ?_; clear hE a; intro a hE
          refine WL.vS hS hE (runs_plain rfl) (Gives.p hE rfl) rfl ?_; clear hE a; intro a hE
          rcases Bool.eq_false_or_eq_true q188 with hg198 | hg198
          · replace hq192 := iteT hg198 hq192
            refine WL.no hE (runs_not hE rfl rfl rfl (by rw [hg198]; decide)) rfl ?_; clear hE a; intro a hE
            refine WL.no hE (runs_not hE rfl rfl rfl (by rw [hg198]; decide)) rfl ?_; clear hE a; intro a hE
            refine WL.vS hS hE (runs_plain rfl) (Gives.pickT hE rfl hg198 rfl) rfl ?_; clear hE a; intro a hE
            refine WL.vS hS hE (runs_plain rfl) (Gives.p hE rfl) rfl ?_; clear hE a; intro a hE
            refine WL.nil ?_
            subst hK197
            exact ⟨true, hq192, hE.pick _ ⟨rfl, rfl, rfl, rfl, rfl, rfl, rfl, rfl, trivial⟩, hS⟩
          · replace hq192 := iteF hg198 hq192
            refine WL.vS hS hE (runs_if hE rfl rfl rfl hg198) (Gives.p hE rfl) rfl ?_; clear hE a; intro a hE
            refine WL.vS hS hE (runs_if hE rfl rfl rfl hg198) (Gives.p hE rfl) rfl ?_; clear hE a; intro a hE
            refine WL.vS hS hE (runs_plain rfl) (Gives.pickF hE rfl hg198 rfl) rfl ?_; clear hE a; intro a hE
            refine WL.vS hS hE (runs_plain rfl) (Gives.p hE rfl) rfl ?_; clear hE a; intro a hE
            refine WL.nil ?_
            subst hK197
            exact ⟨decide (x180 > 1), hq192, hE.pick _ ⟨rfl, rfl, rfl, rfl, rfl, rfl, rfl, rfl, trivial⟩, hS⟩
        · clear hE hS a w; rintro a w ⟨q196, rfl, hE, hS⟩
          refine W.seq ?_
          refine W.seq ?_
          refine W.region ?_
          refine WL.vS hS hE (runs_plain rfl) (Gives.p hE rfl) rfl ?_; clear hE a; intro a hE
          refine WL.vS hS hE (runs_plain rfl) (Gives.p hE rfl) rfl ?_; clear hE a; intro a hE
          refine WL.nil ?_
          refine W.cond hE rfl (fun hc199 => ?_) (fun hc199 => ?_)
          · replace hq177 := iteT hc199 hq177
            refine W.seq ?_
            refine W.region ?_
            refine WL.vS hS hE (runs_plain rfl) (Gives.p hE rfl) rfl ?_; clear hE a; intro a hE
            refine WL.nil ?_
            refine W.exit rfl ?_
            refine W.region ?_
            refine WL.vS hS hE (runs_plain rfl) (Gives.inc hE rfl (by omega)) rfl ?_; clear hE a; intro a hE
            refine WL.vS hS hE (runs_plain rfl) (Gives.p hE rfl) rfl ?_; clear hE a; intro a hE
            refine WL.nil ?_
            subst hK191
            exact ⟨rest181.length, Nat.lt_succ_self _, rest181, k179 + 1, q196, q189, 0, rfl, hd182, hq177, hE.pick _ ⟨rfl, rfl, rfl, rfl, rfl, rfl, rfl, trivial⟩, hS⟩
          · replace hq177 := iteF hc199 hq177
            refine W.skip ?_
            refine W.seq ?_
            refine W.region ?_
            refine WL.vS hS hE (runs_plain rfl) (Gives.p hE rfl) rfl ?_; clear hE a; intro a hE
            refine WL.vS hS hE (runs_plain rfl) (Gives.p hE rfl) rfl ?_; clear hE a; intro a hE
            refine WL.vS hS hE (runs_plain rfl) (Gives.p hE rfl) rfl ?_; clear hE a; intro a hE
            refine WL.nil ?_
            obtain ⟨q201, hq200, hq177⟩ := bndS hq177
            refine W.cut (fun a w => ∃ (q204 : Bool), q204 = q201 ∧ Rep a 111 [(5, .pointer (some ⟨b51, 0, none⟩)), (6, .bool q196), (7, .bool q68), (8, .bool q204), (16, .int .i64 (w64 (q190 + 1))), (87, .agg cs73.toArray), (88, .int .i64 ((k179 : Nat) : Int))] ∧ St w s (pt b51 (.cells (FleetLimits.cells x2).toArray 24 (0, 0)) :: R)) ?_ ?_
            · refine W.gen fun K205 hK205 => ?_
              refine W.region ?_
              refine WL.vS hS hE (runs_plain rfl) (Gives.p hE rfl) rfl ?_; clear hE a; intro a hE
              refine WL.vS hS hE (runs_plain rfl) (Gives.p hE rfl) rfl ?_; clear hE a; intro a hE
              rcases Bool.eq_false_or_eq_true q189 with hg206 | hg206
              · replace hq200 := iteT hg206 hq200
                refine WL.no hE (runs_not hE rfl rfl rfl (by rw [hg206]; decide)) rfl ?_; clear hE a; intro a hE
                refine WL.no hE (runs_not hE rfl rfl rfl (by rw [hg206]; decide)) rfl ?_; clear hE a; intro a hE
                refine WL.no hE (runs_not hE rfl rfl rfl (by rw [hg206]; decide)) rfl ?_; clear hE a; intro a hE
                refine WL.no hE (runs_not hE rfl rfl rfl (by rw [hg206]; decide)) rfl ?_; clear hE a; intro a hE
                refine WL.vS hS hE (runs_plain rfl) (Gives.pickT hE rfl hg206 rfl) rfl ?_; clear hE a; intro a hE
                refine WL.vS hS hE (runs_plain rfl) (Gives.p hE rfl) rfl ?_; clear hE a; intro a hE
                refine WL.nil ?_
                subst hK205
                exact ⟨true, hq200, hE.pick _ ⟨rfl, rfl, rfl, rfl, rfl, rfl, rfl, trivial⟩, hS⟩
              · replace hq200 := iteF hg206 hq200
                refine WL.vS hS hE (runs_if hE rfl rfl rfl hg206) (Gives.p hE rfl) rfl ?_; clear hE a; intro a hE
                refine WL.vS hS hE (runs_if hE rfl rfl rfl hg206) (Gives.fld hE rfl fl24_6) rfl ?_; clear hE a; intro a hE
                refine WL.vS hS hE (runs_if hE rfl rfl rfl hg206) (Gives.loadB hE 0 rfl rfl rfl ty3) rfl ?_; clear hE a; intro a hE
                refine WL.vS hS hE (runs_if hE rfl rfl rfl hg206) (Gives.p hE rfl) rfl ?_; clear hE a; intro a hE
                refine WL.vS hS hE (runs_plain rfl) (Gives.pickF hE rfl hg206 rfl) rfl ?_; clear hE a; intro a hE
                refine WL.vS hS hE (runs_plain rfl) (Gives.p hE rfl) rfl ?_; clear hE a; intro a hE
                refine WL.nil ?_
                subst hK205
                exact ⟨decide ((w64 (q190 + 1)) > x2.Row), hq200, hE.pick _ ⟨rfl, rfl, rfl, rfl, rfl, rfl, rfl, trivial⟩, hS⟩
            · clear hE hS a w; rintro a w ⟨q204, rfl, hE, hS⟩
              refine W.region ?_
              refine WL.vS hS hE (runs_plain rfl) (Gives.inc hE rfl (by omega)) rfl ?_; clear hE a; intro a hE
              refine WL.vS hS hE (runs_plain rfl) (Gives.p hE rfl) rfl ?_; clear hE a; intro a hE
              refine WL.nil ?_
              subst hK191
              exact ⟨rest181.length, Nat.lt_succ_self _, rest181, k179 + 1, q196, q204, (w64 (q190 + 1)), rfl, hd182, hq177, hE.pick _ ⟨rfl, rfl, rfl, rfl, rfl, rfl, rfl, trivial⟩, hS⟩
    · clear hE hS a w; rintro a w ⟨q188, q189, q190, rfl, hE, hS⟩
      dsimp only at hr
      refine W.seq ?_
      refine W.region ?_
      refine WL.vS hS hE (runs_plain rfl) (Gives.p hE rfl) rfl ?_; clear hE a; intro a hE
      refine WL.vS hS hE (runs_plain rfl) (Gives.p hE rfl) rfl ?_; clear hE a; intro a hE
      refine WL.vS hS hE (runs_plain rfl) (Gives.p hE rfl) rfl ?_; clear hE a; intro a hE
      refine WL.vS hS hE (runs_plain rfl) (Gives.p hE rfl) rfl ?_; clear hE a; intro a hE
      refine WL.vS hS hE (runs_plain rfl) (Gives.p hE rfl) rfl ?_; clear hE a; intro a hE
      refine WL.vS hS hE (runs_plain rfl) (Gives.p hE rfl) rfl ?_; clear hE a; intro a hE
      refine WL.nil ?_
      refine W.ret ?_
      refine finG (fn := Try.f94) (rs := [.tmp 6, .tmp 7, .tmp 8]) (vs := [_, _, _]) hE rfl ⟨rfl, rfl, rfl, trivial⟩ ?_
      obtain rfl := Option.some.inj hr
      replace hS := hS.tail
      exact ⟨rfl, hS⟩
set_option maxHeartbeats 8000000 in
theorem Fleetfits_ok  {w : World} {s : Sg} {R : List HP} {x0 : List FleetShift} {a0 : Option Addr} {c0 : Nat} {x1 : List Int} {a1 : Option Addr} {c1 : Nat} {x2 : FleetLimits} (hS : St w s (R)) (h0 : Sl 3 RFleetShift s a0 c0 x0) (h1 : Sl 1 (RI .i64) s a1 c1 x1) {r : Bool} (hr : Fleetfits x0 x1 x2 = some r) :
    Calls Try.prog 42 [.slice a0 x0.length c0, .slice a1 x1.length c1, .agg (FleetLimits.cells x2).toArray].toArray w (fun e w => e = .returned (.bool r) ∧ St w s (R)) := by
  refine enter Try.func42 rfl rfl rfl fun a hE => ?_
  rw [Fleetfits] at hr
  refine W.seq ?_
  refine W.region ?_
  refine WL.box hE hS (runs_plain rfl) rfl rfl rfl ?_; clear hE hS a w; intro b51 a w hE hS
  refine WL.vS hS hE (runs_plain rfl) (Gives.p hE rfl) rfl ?_; clear hE a; intro a hE
  refine WL.nil ?_
  refine W.seq ?_
  refine W.region ?_
  refine WL.vS hS hE (runs_plain rfl) (Gives.p hE rfl) rfl ?_; clear hE a; intro a hE
  refine WL.vS hS hE (runs_plain rfl) (Gives.p hE rfl) rfl ?_; clear hE a; intro a hE
  refine WL.vS hS hE (runs_plain rfl) (Gives.loadBA hE 0 rfl rfl ty24) rfl ?_; clear hE a; intro a hE
  obtain ⟨q52, hq53, hr⟩ := bindS hr
  have hc_ := FleetdriverBreaks_ok hS h0 h1 hq53
  refine WL.fnq hE (hc_) (runs_plain rfl) bd94 rfl rfl rfl ?_
  clear hE hS hc_; rintro e w ⟨rfl, hS⟩; refine ⟨_, rfl, ?_⟩; clear a; intro a hE
  refine WL.vS hS hE (runs_plain rfl) (Gives.p hE rfl) rfl ?_; clear hE a; intro a hE
  refine WL.vS hS hE (runs_plain rfl) (Gives.p hE rfl) rfl ?_; clear hE a; intro a hE
  refine WL.vS hS hE (runs_plain rfl) (Gives.p hE rfl) rfl ?_; clear hE a; intro a hE
  refine WL.vS hS hE (runs_plain rfl) (Gives.p hE rfl) rfl ?_; clear hE a; intro a hE
  refine WL.vS hS hE (runs_plain rfl) (Gives.p hE rfl) rfl ?_; clear hE a; intro a hE
  refine WL.vS hS hE (runs_plain rfl) (Gives.p hE rfl) rfl ?_; clear hE a; intro a hE
  refine WL.vS hS hE (runs_plain rfl) (Gives.p hE rfl) rfl ?_; clear hE a; intro a hE
  refine WL.nil ?_
  refine W.seq ?_
  obtain ⟨q55, hq54, hr⟩ := bndS hr
  refine W.cut (fun a w => ∃ (q58 : Bool), q58 = q55 ∧ Rep a 28 [(6, .bool q58)] ∧ St w s (pt b51 (.cells (FleetLimits.cells x2).toArray 24 (0, 0)) :: R)) ?_ ?_
  · refine W.gen fun K59 hK59 => ?_
    refine W.region ?_
    refine WL.vS hS hE (runs_plain rfl) (Gives.p hE rfl) rfl ?_; clear hE a; intro a hE
    refine WL.vS hS hE (runs_plain rfl) (Gives.p hE rfl) rfl ?_; clear hE a; intro a hE
    refine WL.vS hS hE (runs_plain rfl) (Gives.p hE rfl) rfl ?_; clear hE a; intro a hE
    rcases Bool.eq_false_or_eq_true !q52.1 with hg60 | hg60
    · replace hq54 := iteT hg60 hq54
      refine WL.vS hS hE (runs_if hE rfl rfl rfl hg60) (Gives.p hE rfl) rfl ?_; clear hE a; intro a hE
      refine WL.vS hS hE (runs_if hE rfl rfl rfl hg60) (Gives.p hE rfl) rfl ?_; clear hE a; intro a hE
      refine WL.vS hS hE (runs_plain rfl) (Gives.pickT hE rfl hg60 rfl) rfl ?_; clear hE a; intro a hE
      refine WL.vS hS hE (runs_plain rfl) (Gives.p hE rfl) rfl ?_; clear hE a; intro a hE
      rcases Bool.eq_false_or_eq_true !q52.2.1 with hg61 | hg61
      · replace hq54 := iteT hg61 hq54
        refine WL.vS hS hE (runs_if hE rfl rfl rfl hg61) (Gives.p hE rfl) rfl ?_; clear hE a; intro a hE
        refine WL.vS hS hE (runs_if hE rfl rfl rfl hg61) (Gives.p hE rfl) rfl ?_; clear hE a; intro a hE
        refine WL.vS hS hE (runs_plain rfl) (Gives.pickT hE rfl hg61 rfl) rfl ?_; clear hE a; intro a hE
        refine WL.vS hS hE (runs_plain rfl) (Gives.p hE rfl) rfl ?_; clear hE a; intro a hE
        refine WL.nil ?_
        subst hK59
        exact ⟨!q52.2.2, hq54, hE.pick _ ⟨rfl, trivial⟩, hS⟩
      · replace hq54 := iteF hg61 hq54
        refine WL.no hE (runs_not hE rfl rfl rfl (by rw [hg61]; decide)) rfl ?_; clear hE a; intro a hE
        refine WL.no hE (runs_not hE rfl rfl rfl (by rw [hg61]; decide)) rfl ?_; clear hE a; intro a hE
        refine WL.vS hS hE (runs_plain rfl) (Gives.pickF hE rfl hg61 rfl) rfl ?_; clear hE a; intro a hE
        refine WL.vS hS hE (runs_plain rfl) (Gives.p hE rfl) rfl ?_; clear hE a; intro a hE
        refine WL.nil ?_
        subst hK59
        exact ⟨false, hq54, hE.pick _ ⟨rfl, trivial⟩, hS⟩
    · replace hq54 := iteF hg60 hq54
      refine WL.no hE (runs_not hE rfl rfl rfl (by rw [hg60]; decide)) rfl ?_; clear hE a; intro a hE
      refine WL.no hE (runs_not hE rfl rfl rfl (by rw [hg60]; decide)) rfl ?_; clear hE a; intro a hE
      refine WL.vS hS hE (runs_plain rfl) (Gives.pickF hE rfl hg60 rfl) rfl ?_; clear hE a; intro a hE
      refine WL.vS hS hE (runs_plain rfl) (Gives.p hE rfl) rfl ?_; clear hE a; intro a hE
      refine WL.no hE (runs_not hE rfl rfl rfl (by decide)) rfl ?_; clear hE a; intro a hE
      refine WL.no hE (runs_not hE rfl rfl rfl (by decide)) rfl ?_; clear hE a; intro a hE
      refine WL.vS hS hE (runs_plain rfl) (Gives.pickF hE rfl rfl rfl) rfl ?_; clear hE a; intro a hE
      refine WL.vS hS hE (runs_plain rfl) (Gives.p hE rfl) rfl ?_; clear hE a; intro a hE
      refine WL.nil ?_
      subst hK59
      exact ⟨false, hq54, hE.pick _ ⟨rfl, trivial⟩, hS⟩
  · clear hE hS a w; rintro a w ⟨q58, rfl, hE, hS⟩
    refine W.ret ?_
    refine finG (fn := Try.f42) (rs := [.tmp 6]) (vs := [_]) hE rfl ⟨rfl, trivial⟩ ?_
    obtain rfl := Option.some.inj hr
    replace hS := hS.tail
    exact ⟨rfl, hS⟩
set_option maxHeartbeats 8000000 in
theorem FleetRoster_1_v1_ok : ∀ {fu : Nat} {w : World} {s : Sg} {R : List HP} {pb0 : Nat} {pb1 : Nat} {pb2 : Nat} {pb3 : Nat} {pb4 : Nat} {pb5 : Nat} {x0 : Int} {y0 : List FleetShift} {a_y0_0 : Option Addr} {c_y0_0 : Nat} {y1 : List (List Int)} {a_v0 : Option Addr} {c_v0 n_v0 : Nat} {cs_v0 : List Value} {y2 : Int} {y3 : List (List Int)} {a_y3_0 : Option Addr} {c_y3_0 : Nat} {y4 : FleetLimits} (_hS : St w s (pt pb0 (.cells #[.slice a_y0_0 y0.length c_y0_0] 22 (0, 0)) :: pt pb1 (.cells #[.slice a_v0 n_v0 c_v0] 25 (0, 0)) :: pt pb2 (.cells #[.int .i64 y2] 3 (0, 0)) :: pt pb3 (.cells #[.slice a_y3_0 y3.length c_y3_0] 25 (0, 0)) :: pt pb4 (.cells #[.int .i64 y4.Change, .int .i64 y4.Long, .int .i64 y4.Work, .int .i64 y4.After, .int .i64 y4.Break, .int .i64 y4.Rest, .int .i64 y4.Row] 24 (0, 0)) :: pt pb5 (.cells #[.func (.func 38) #[] #[.pointer (some ⟨pb0, 0, none⟩), .pointer (some ⟨pb1, 0, none⟩), .pointer (some ⟨pb2, 0, none⟩), .pointer (some ⟨pb3, 0, none⟩), .pointer (some ⟨pb4, 0, none⟩), .pointer (some ⟨pb5, 0, none⟩)]] 66 (0, 0)) :: vecC 44 1 a_v0 c_v0 n_v0 cs_v0 :: R)) (_h_y0_0 : Sl 3 RFleetShift s a_y0_0 c_y0_0 y0) (_h_v0 : Ev 1 (RL 1 (RI .i64)) s cs_v0 y1) (_hn_v0 : y1.length = n_v0) (_h_y3_0 : Sl 1 (RL 1 (RI .i64)) s a_y3_0 c_y3_0 y3) {r : (List (List Int)) × Int × (List (List Int))} (_hr : FleetRoster_1_v1 fu x0 y0 y1 y2 y3 y4 = some r),
    Calls Try.prog 38 [.int .i64 x0, .pointer (some ⟨pb0, 0, none⟩), .pointer (some ⟨pb1, 0, none⟩), .pointer (some ⟨pb2, 0, none⟩), .pointer (some ⟨pb3, 0, none⟩), .pointer (some ⟨pb4, 0, none⟩), .pointer (some ⟨pb5, 0, none⟩)].toArray w (fun e w => ∃ (cs66 : List Value) (a70 : Option Addr) (c71 : Nat) (t : Sg), e = .returned (.tuple #[]) ∧ s.Le t ∧ Ev 1 (RL 1 (RI .i64)) t cs66 r.1 ∧ r.1.length = n_v0 ∧ Sl 1 (RL 1 (RI .i64)) t a70 c71 r.2.2 ∧ St w t (pt pb0 (.cells #[.slice a_y0_0 y0.length c_y0_0] 22 (0, 0)) :: pt pb1 (.cells #[.slice a_v0 n_v0 c_v0] 25 (0, 0)) :: pt pb2 (.cells #[.int .i64 r.2.1] 3 (0, 0)) :: pt pb3 (.cells #[.slice a70 r.2.2.length c71] 25 (0, 0)) :: pt pb4 (.cells #[.int .i64 y4.Change, .int .i64 y4.Long, .int .i64 y4.Work, .int .i64 y4.After, .int .i64 y4.Break, .int .i64 y4.Rest, .int .i64 y4.Row] 24 (0, 0)) :: pt pb5 (.cells #[.func (.func 38) #[] #[.pointer (some ⟨pb0, 0, none⟩), .pointer (some ⟨pb1, 0, none⟩), .pointer (some ⟨pb2, 0, none⟩), .pointer (some ⟨pb3, 0, none⟩), .pointer (some ⟨pb4, 0, none⟩), .pointer (some ⟨pb5, 0, none⟩)]] 66 (0, 0)) :: vecC 44 1 a_v0 c_v0 n_v0 cs66 :: R)) := by
  intro fu
  induction fu with
  | zero => intro w s R pb0 pb1 pb2 pb3 pb4 pb5 x0 y0 a_y0_0 c_y0_0 y1 a_v0 c_v0 n_v0 cs_v0 y2 y3 a_y3_0 c_y3_0 y4 hS h_y0_0 h_v0 hn_v0 h_y3_0 r hr; rw [FleetRoster_1_v1] at hr; exact absurd hr (by simp)
  | succ fu ih_FleetRoster_1_v1 =>
    intro w s R pb0 pb1 pb2 pb3 pb4 pb5 x0 y0 a_y0_0 c_y0_0 y1 a_v0 c_v0 n_v0 cs_v0 y2 y3 a_y3_0 c_y3_0 y4 hS h_y0_0 h_v0 hn_v0 h_y3_0 r hr
    rw [FleetRoster_1_v1] at hr
    generalize FleetRoster_1_v1 fu = self_FleetRoster_1_v1 at hr ih_FleetRoster_1_v1
    refine enter Try.func38 rfl rfl rfl fun a hE => ?_
    subst hn_v0
    refine W.seq ?_
    refine W.seq ?_
    refine W.region ?_
    refine WL.vS hS hE (runs_plain rfl) (Gives.p hE rfl) rfl ?_; clear hE a; intro a hE
    refine WL.vS hS hE (runs_plain rfl) (Gives.loadB hE 0 rfl rfl rfl ty22) rfl ?_; clear hE a; intro a hE
    refine WL.vS hS hE (runs_plain rfl) (Gives.len hE rfl sl22) rfl ?_; clear hE a; intro a hE
    refine WL.vS hS hE (runs_plain rfl) (Gives.p hE rfl) rfl ?_; clear hE a; intro a hE
    refine WL.nil ?_
    refine W.cond hE rfl (fun hc73 => ?_) (fun hc73 => ?_)
    · replace hr := iteT hc73 hr
      refine W.seq ?_
      refine W.region ?_
      refine WL.vS hS hE (runs_plain rfl) (Gives.p hE rfl) rfl ?_; clear hE a; intro a hE
      refine WL.nil ?_
      refine W.seq ?_
      refine W.seq ?_
      refine W.region ?_
      refine WL.vS hS hE (runs_plain rfl) (Gives.loadB hE 1 rfl rfl rfl ty25) rfl ?_; clear hE a; intro a hE
      refine WL.vS hS hE (runs_plain rfl) (Gives.len hE rfl sl25) rfl ?_; clear hE a; intro a hE
      refine WL.vS hS hE (runs_plain rfl) (Gives.p hE rfl) rfl ?_; clear hE a; intro a hE
      refine WL.nil ?_
      have hb85 : y1.length ≤ 9223372036854775807 := by have := hS.vecCap 6 rfl; unfold maxLen at this; omega
      obtain ⟨q75, hq74, hr⟩ := bindS hr
      refine W.cut (fun a w => ∃ (q86 : Int), q86 = q75 ∧ Rep a 70 [(2, .pointer (some ⟨pb1, 0, none⟩)), (3, .pointer (some ⟨pb2, 0, none⟩)), (4, .pointer (some ⟨pb3, 0, none⟩)), (8, .int .i64 q86)] ∧ St w s (pt pb0 (.cells #[.slice a_y0_0 y0.length c_y0_0] 22 (0, 0)) :: pt pb1 (.cells #[.slice a_v0 y1.length c_v0] 25 (0, 0)) :: pt pb2 (.cells #[.int .i64 y2] 3 (0, 0)) :: pt pb3 (.cells #[.slice a_y3_0 y3.length c_y3_0] 25 (0, 0)) :: pt pb4 (.cells #[.int .i64 y4.Change, .int .i64 y4.Long, .int .i64 y4.Work, .int .i64 y4.After, .int .i64 y4.Break, .int .i64 y4.Rest, .int .i64 y4.Row] 24 (0, 0)) :: pt pb5 (.cells #[.func (.func 38) #[] #[.pointer (some ⟨pb0, 0, none⟩), .pointer (some ⟨pb1, 0, none⟩), .pointer (some ⟨pb2, 0, none⟩), .pointer (some ⟨pb3, 0, none⟩), .pointer (some ⟨pb4, 0, none⟩), .pointer (some ⟨pb5, 0, none⟩)]] 66 (0, 0)) :: vecC 44 1 a_v0 c_v0 y1.length cs_v0 :: R)) ?_ ?_
      · refine W.block ?_
        refine W.loop (fun m a w => ∃ (rest78 : Nat) (k76 : Nat), ∃ (q86 : Int), rest78 = m ∧ k76 + rest78 = y1.length ∧ FleetRoster_1_v1.loop1 y0 y1 rest78 k76 q86 = some q75 ∧ Rep a 70 [(1, .pointer (some ⟨pb0, 0, none⟩)), (2, .pointer (some ⟨pb1, 0, none⟩)), (3, .pointer (some ⟨pb2, 0, none⟩)), (4, .pointer (some ⟨pb3, 0, none⟩)), (8, .int .i64 q86), (17, .slice a_v0 y1.length c_v0), (18, .int .i64 ((y1.length : Nat) : Int)), (19, .int .i64 ((k76 : Nat) : Int))] ∧ St w s (pt pb0 (.cells #[.slice a_y0_0 y0.length c_y0_0] 22 (0, 0)) :: pt pb1 (.cells #[.slice a_v0 y1.length c_v0] 25 (0, 0)) :: pt pb2 (.cells #[.int .i64 y2] 3 (0, 0)) :: pt pb3 (.cells #[.slice a_y3_0 y3.length c_y3_0] 25 (0, 0)) :: pt pb4 (.cells #[.int .i64 y4.Change, .int .i64 y4.Long, .int .i64 y4.Work, .int .i64 y4.After, .int .i64 y4.Break, .int .i64 y4.Rest, .int .i64 y4.Row] 24 (0, 0)) :: pt pb5 (.cells #[.func (.func 38) #[] #[.pointer (some ⟨pb0, 0, none⟩), .pointer (some ⟨pb1, 0, none⟩), .pointer (some ⟨pb2, 0, none⟩), .pointer (some ⟨pb3, 0, none⟩), .pointer (some ⟨pb4, 0, none⟩), .pointer (some ⟨pb5, 0, none⟩)]] 66 (0, 0)) :: vecC 44 1 a_v0 c_v0 y1.length cs_v0 :: R)) (m := y1.length) ⟨y1.length, 0, 0, rfl, by omega, hq74, hE.pick _ ⟨rfl, rfl, rfl, rfl, rfl, rfl, rfl, rfl, trivial⟩, hS⟩ ?_
        clear hE hS a w hq74; rintro m82 a w ⟨rest78, k76, q86, rfl, hd79, hq74, hE, hS⟩
        refine W.gen fun K87 hK87 => ?_
        rcases rest78 with _ | rest78
        · skip
          refine W.seq ?_
          refine W.region ?_
          refine WL.vS hS hE (runs_plain rfl) (Gives.p hE rfl) rfl ?_; clear hE a; intro a hE
          refine WL.nil ?_
          refine W.seq ?_
          refine W.condF hE rfl (decide_eq_false (by omega)) ?_
          subst hK87
          refine W.exit rfl ?_
          exact ⟨q86, Option.some.inj hq74, hE.pick _ ⟨rfl, rfl, rfl, rfl, trivial⟩, hS⟩
        · have hlt80 : k76 < y1.length := by omega
          rw [FleetRoster_1_v1.loop1] at hq74
          refine W.seq ?_
          refine W.region ?_
          refine WL.vS hS hE (runs_plain rfl) (Gives.p hE rfl) rfl ?_; clear hE a; intro a hE
          refine WL.nil ?_
          refine W.seq ?_
          refine W.condT hE rfl (decide_eq_true (by omega)) ?_
          refine W.skip ?_
          refine W.seq ?_
          refine W.block ?_
          refine W.seq ?_
          refine W.region ?_
          obtain ⟨x88, hx89, hq74⟩ := bindS hq74
          obtain ⟨hi90, hlt91, hy92⟩ := gx_some hx89
          obtain ⟨vs93, hl94, hR95, hd96, hget97⟩ := h_v0.at hy92
          obtain ⟨a98, c99, rfl, h100⟩ := hR95
          refine WL.vS hS hE (runs_plain rfl) (Gives.idx hE ((((k76 : Nat) : Int)).toNat) rfl rfl sl25 hi90 (by omega) (hS.vecAok 6 rfl (by omega : (((k76 : Nat) : Int)).toNat < y1.length))) rfl ?_; clear hE a; intro a hE
          refine WL.vS hS hE (runs_plain rfl) (Gives.load1 hE rfl (fun w h => St.vecSees h 6 rfl ((((k76 : Nat) : Int)).toNat * 1) _ hget97) ty44) rfl ?_; clear hE a; intro a hE
          refine WL.vS hS hE (runs_plain rfl) (Gives.p hE rfl) rfl ?_; clear hE a; intro a hE
          refine WL.nil ?_
          refine W.region ?_
          refine WL.vS hS hE (runs_plain rfl) (Gives.p hE rfl) rfl ?_; clear hE a; intro a hE
          refine WL.vS hS hE (runs_plain rfl) (Gives.loadB hE 0 rfl rfl rfl ty22) rfl ?_; clear hE a; intro a hE
          refine WL.vS hS hE (runs_plain rfl) (Gives.p hE rfl) rfl ?_; clear hE a; intro a hE
          obtain ⟨q101, hq102, hq74⟩ := bindS hq74
          have hc_ := Fleetload_ok hS h_y0_0 h100 hq102
          refine WL.fnq hE (hc_) (runs_plain rfl) bd39 rfl rfl rfl ?_
          clear hE hS hc_; rintro e w ⟨rfl, hS⟩; refine ⟨_, rfl, ?_⟩; clear a; intro a hE
          refine WL.vS hS hE (runs_plain rfl) (Gives.max2 hE rfl rfl) rfl ?_; clear hE a; intro a hE
          refine WL.vS hS hE (runs_plain rfl) (Gives.p hE rfl) rfl ?_; clear hE a; intro a hE
          refine WL.nil ?_
          refine W.region ?_
          refine WL.vS hS hE (runs_plain rfl) (Gives.inc hE rfl (by omega)) rfl ?_; clear hE a; intro a hE
          refine WL.vS hS hE (runs_plain rfl) (Gives.p hE rfl) rfl ?_; clear hE a; intro a hE
          refine WL.nil ?_
          subst hK87
          exact ⟨rest78, Nat.lt_succ_self _, rest78, k76 + 1, (mx q86 q101), rfl, (by omega), hq74, hE.pick _ ⟨rfl, rfl, rfl, rfl, rfl, rfl, rfl, rfl, trivial⟩, hS⟩
      · clear hE hS a w; rintro a w ⟨q86, rfl, hE, hS⟩
        refine W.seq ?_
        refine W.seq ?_
        obtain ⟨q104, hq103, hr⟩ := bndS hr
        refine W.cut (fun a w => ∃ (q107 : Bool), q107 = q104 ∧ Rep a 70 [(2, .pointer (some ⟨pb1, 0, none⟩)), (3, .pointer (some ⟨pb2, 0, none⟩)), (4, .pointer (some ⟨pb3, 0, none⟩)), (8, .int .i64 q86), (35, .bool q107)] ∧ St w s (pt pb0 (.cells #[.slice a_y0_0 y0.length c_y0_0] 22 (0, 0)) :: pt pb1 (.cells #[.slice a_v0 y1.length c_v0] 25 (0, 0)) :: pt pb2 (.cells #[.int .i64 y2] 3 (0, 0)) :: pt pb3 (.cells #[.slice a_y3_0 y3.length c_y3_0] 25 (0, 0)) :: pt pb4 (.cells #[.int .i64 y4.Change, .int .i64 y4.Long, .int .i64 y4.Work, .int .i64 y4.After, .int .i64 y4.Break, .int .i64 y4.Rest, .int .i64 y4.Row] 24 (0, 0)) :: pt pb5 (.cells #[.func (.func 38) #[] #[.pointer (some ⟨pb0, 0, none⟩), .pointer (some ⟨pb1, 0, none⟩), .pointer (some ⟨pb2, 0, none⟩), .pointer (some ⟨pb3, 0, none⟩), .pointer (some ⟨pb4, 0, none⟩), .pointer (some ⟨pb5, 0, none⟩)]] 66 (0, 0)) :: vecC 44 1 a_v0 c_v0 y1.length cs_v0 :: R)) ?_ ?_
        · refine W.gen fun K108 hK108 => ?_
          refine W.region ?_
          refine WL.vS hS hE (runs_plain rfl) (Gives.loadB hE 2 rfl rfl rfl ty3) rfl ?_; clear hE a; intro a hE
          refine WL.vS hS hE (runs_plain rfl) (Gives.p hE rfl) rfl ?_; clear hE a; intro a hE
          refine WL.vS hS hE (runs_plain rfl) (Gives.p hE rfl) rfl ?_; clear hE a; intro a hE
          rcases Bool.eq_false_or_eq_true (decide (y2 < 0)) with hg109 | hg109
          · replace hq103 := iteT hg109 hq103
            refine WL.no hE (runs_not hE rfl rfl rfl (by rw [hg109]; decide)) rfl ?_; clear hE a; intro a hE
            refine WL.no hE (runs_not hE rfl rfl rfl (by rw [hg109]; decide)) rfl ?_; clear hE a; intro a hE
            refine WL.no hE (runs_not hE rfl rfl rfl (by rw [hg109]; decide)) rfl ?_; clear hE a; intro a hE
            refine WL.vS hS hE (runs_plain rfl) (Gives.pickT hE rfl hg109 rfl) rfl ?_; clear hE a; intro a hE
            refine WL.nil ?_
            subst hK108
            exact ⟨true, hq103, hE.pick _ ⟨rfl, rfl, rfl, rfl, rfl, trivial⟩, hS⟩
          · replace hq103 := iteF hg109 hq103
            refine WL.vS hS hE (runs_if hE rfl rfl rfl hg109) (Gives.p hE rfl) rfl ?_; clear hE a; intro a hE
            refine WL.vS hS hE (runs_if hE rfl rfl rfl hg109) (Gives.loadB hE 2 rfl rfl rfl ty3) rfl ?_; clear hE a; intro a hE
            refine WL.vS hS hE (runs_if hE rfl rfl rfl hg109) (Gives.p hE rfl) rfl ?_; clear hE a; intro a hE
            refine WL.vS hS hE (runs_plain rfl) (Gives.pickF hE rfl hg109 rfl) rfl ?_; clear hE a; intro a hE
            refine WL.nil ?_
            subst hK108
            exact ⟨decide (q86 < y2), hq103, hE.pick _ ⟨rfl, rfl, rfl, rfl, rfl, trivial⟩, hS⟩
        · clear hE hS a w; rintro a w ⟨q107, rfl, hE, hS⟩
          obtain ⟨q111, hq110, hr⟩ := bindS hr
          refine W.cut (fun a w => ∃ (q114 : Int), ∃ (q115 : List (List Int)), ∃ (a116 : Option Addr), ∃ (c117 : Nat), ∃ (s112 : Sg), s.Le s112 ∧ (q114, q115) = q111 ∧ Sl 1 (RL 1 (RI .i64)) s112 a116 c117 q115 ∧ Rep a 70 [] ∧ St w s112 (pt pb0 (.cells #[.slice a_y0_0 y0.length c_y0_0] 22 (0, 0)) :: pt pb1 (.cells #[.slice a_v0 y1.length c_v0] 25 (0, 0)) :: pt pb2 (.cells #[.int .i64 q114] 3 (0, 0)) :: pt pb3 (.cells #[.slice a116 q115.length c117] 25 (0, 0)) :: pt pb4 (.cells #[.int .i64 y4.Change, .int .i64 y4.Long, .int .i64 y4.Work, .int .i64 y4.After, .int .i64 y4.Break, .int .i64 y4.Rest, .int .i64 y4.Row] 24 (0, 0)) :: pt pb5 (.cells #[.func (.func 38) #[] #[.pointer (some ⟨pb0, 0, none⟩), .pointer (some ⟨pb1, 0, none⟩), .pointer (some ⟨pb2, 0, none⟩), .pointer (some ⟨pb3, 0, none⟩), .pointer (some ⟨pb4, 0, none⟩), .pointer (some ⟨pb5, 0, none⟩)]] 66 (0, 0)) :: vecC 44 1 a_v0 c_v0 y1.length cs_v0 :: R)) ?_ ?_
          · refine W.gen fun K119 hK119 => ?_
            refine W.cond hE rfl (fun hc120 => ?_) (fun hc120 => ?_)
            · replace hq110 := iteT hc120 hq110
              refine W.region ?_
              refine WL.vS hS hE (runs_plain rfl) (Gives.loadB hE 1 rfl rfl rfl ty25) rfl ?_; clear hE a; intro a hE
              obtain ⟨q121, hq122, hq110⟩ := bindS hq110
              replace hS := hS.front 6 rfl
              have hc_ := SlicesCloneLLint_v1_ok hS h_v0 (rfl) hq122
              refine WL.fnq hE (hc_) (runs_plain rfl) bd40 rfl rfl rfl ?_
              clear hE hS hc_; rintro e w ⟨a123, c124, n125, cs126, rfl, h127, rfl, hS⟩; refine ⟨_, rfl, ?_⟩; clear a; intro a hE
              refine WL.vS hS hE (runs_plain rfl) (Gives.p hE rfl) rfl ?_; clear hE a; intro a hE
              refine WL.storeI hE hS 5 rfl [.slice a123 q121.length c124] (runs_plain rfl) rfl rfl rfl ty25 rfl rfl rfl rfl ?_; clear hE hS a w; intro a w hE hS
              refine WL.storeI hE hS 4 rfl [.int .i64 q86] (runs_plain rfl) rfl rfl rfl ty3 rfl rfl rfl rfl ?_; clear hE hS a w; intro a w hE hS
              refine WL.nil ?_
              have hF := hS.fixD (RL.mono RI.mono) 0 rfl h127 rfl; clear hS; obtain ⟨s129, hle130, hS, h131⟩ := hF
              replace h_v0 := Ev.mono (RL.mono RI.mono) hle130 h_v0
              replace h_y0_0 := Sl.mono RFleetShift.mono hle130 h_y0_0
              replace hS := hS.front 6 rfl
              replace hS := hS.front 6 rfl
              replace hS := hS.front 6 rfl
              replace hS := hS.front 6 rfl
              replace hS := hS.front 6 rfl
              replace hS := hS.front 6 rfl
              subst hK119
              exact ⟨q86, q121, a123, c124, s129, hle130, Option.some.inj hq110, h131, hE.pick _ trivial, hS⟩
            · replace hq110 := iteF hc120 hq110
              refine W.skip ?_
              subst hK119
              exact ⟨y2, y3, a_y3_0, c_y3_0, s, (Sg.Le.refl _), Option.some.inj hq110, h_y3_0, hE.pick _ trivial, hS⟩
          · clear hE hS a w; rintro a w ⟨q114, q115, a116, c117, s112, hle113, rfl, h118, hE, hS⟩
            dsimp only at hr
            replace h_y0_0 := Sl.mono RFleetShift.mono hle113 h_y0_0
            replace h_y3_0 := Sl.mono (RL.mono RI.mono) hle113 h_y3_0
            replace h_v0 := Ev.mono (RL.mono RI.mono) hle113 h_v0
            refine W.ret ?_
            refine finG (fn := Try.f38) (rs := []) (vs := []) hE rfl trivial ?_
            obtain rfl := Option.some.inj hr
            exact ⟨cs_v0, a116, c117, s112, rfl, hle113, h_v0, (rfl), h118, hS⟩
    · replace hr := iteF hc73 hr
      refine W.skip ?_
      refine W.seq ?_
      refine W.region ?_
      refine WL.vS hS hE (runs_plain rfl) (Gives.loadB hE 1 rfl rfl rfl ty25) rfl ?_; clear hE a; intro a hE
      refine WL.vS hS hE (runs_plain rfl) (Gives.len hE rfl sl25) rfl ?_; clear hE a; intro a hE
      refine WL.vS hS hE (runs_plain rfl) (Gives.p hE rfl) rfl ?_; clear hE a; intro a hE
      refine WL.nil ?_
      have hb143 : y1.length ≤ 9223372036854775807 := by have := hS.vecCap 6 rfl; unfold maxLen at this; omega
      obtain ⟨q133, hq132, hr⟩ := bindS hr
      refine W.cut (fun a w => ∃ (q144 : List (List Int)), ∃ (q150 : Int), ∃ (q151 : List (List Int)), ∃ (cs148 : List Value), ∃ (a152 : Option Addr), ∃ (c153 : Nat), ∃ (s141 : Sg), s.Le s141 ∧ (q144, q150, q151) = q133 ∧ Ev 1 (RL 1 (RI .i64)) s141 cs148 q144 ∧ q144.length = y1.length ∧ Sl 1 (RL 1 (RI .i64)) s141 a152 c153 q151 ∧ Rep a 70 [] ∧ St w s141 (pt pb0 (.cells #[.slice a_y0_0 y0.length c_y0_0] 22 (0, 0)) :: pt pb1 (.cells #[.slice a_v0 y1.length c_v0] 25 (0, 0)) :: pt pb2 (.cells #[.int .i64 q150] 3 (0, 0)) :: pt pb3 (.cells #[.slice a152 q151.length c153] 25 (0, 0)) :: pt pb4 (.cells #[.int .i64 y4.Change, .int .i64 y4.Long, .int .i64 y4.Work, .int .i64 y4.After, .int .i64 y4.Break, .int .i64 y4.Rest, .int .i64 y4.Row] 24 (0, 0)) :: pt pb5 (.cells #[.func (.func 38) #[] #[.pointer (some ⟨pb0, 0, none⟩), .pointer (some ⟨pb1, 0, none⟩), .pointer (some ⟨pb2, 0, none⟩), .pointer (some ⟨pb3, 0, none⟩), .pointer (some ⟨pb4, 0, none⟩), .pointer (some ⟨pb5, 0, none⟩)]] 66 (0, 0)) :: vecC 44 1 a_v0 c_v0 y1.length cs148 :: R)) ?_ ?_
      · refine W.block ?_
        refine W.loop (fun m a w => ∃ (rest136 : Nat) (k134 : Nat), ∃ (q144 : List (List Int)), ∃ (q150 : Int), ∃ (q151 : List (List Int)), ∃ (cs148 : List Value), ∃ (a152 : Option Addr), ∃ (c153 : Nat), ∃ (s141 : Sg), rest136 = m ∧ k134 + rest136 = y1.length ∧ s.Le s141 ∧ FleetRoster_1_v1.loop2 x0 y0 y4 self_FleetRoster_1_v1 rest136 k134 q144 q150 q151 = some q133 ∧ Ev 1 (RL 1 (RI .i64)) s141 cs148 q144 ∧ q144.length = y1.length ∧ Sl 1 (RL 1 (RI .i64)) s141 a152 c153 q151 ∧ Rep a 70 [(0, .int .i64 x0), (1, .pointer (some ⟨pb0, 0, none⟩)), (2, .pointer (some ⟨pb1, 0, none⟩)), (5, .pointer (some ⟨pb4, 0, none⟩)), (6, .pointer (some ⟨pb5, 0, none⟩)), (39, .slice a_v0 y1.length c_v0), (40, .int .i64 ((y1.length : Nat) : Int)), (41, .int .i64 ((k134 : Nat) : Int))] ∧ St w s141 (pt pb0 (.cells #[.slice a_y0_0 y0.length c_y0_0] 22 (0, 0)) :: pt pb1 (.cells #[.slice a_v0 y1.length c_v0] 25 (0, 0)) :: pt pb2 (.cells #[.int .i64 q150] 3 (0, 0)) :: pt pb3 (.cells #[.slice a152 q151.length c153] 25 (0, 0)) :: pt pb4 (.cells #[.int .i64 y4.Change, .int .i64 y4.Long, .int .i64 y4.Work, .int .i64 y4.After, .int .i64 y4.Break, .int .i64 y4.Rest, .int .i64 y4.Row] 24 (0, 0)) :: pt pb5 (.cells #[.func (.func 38) #[] #[.pointer (some ⟨pb0, 0, none⟩), .pointer (some ⟨pb1, 0, none⟩), .pointer (some ⟨pb2, 0, none⟩), .pointer (some ⟨pb3, 0, none⟩), .pointer (some ⟨pb4, 0, none⟩), .pointer (some ⟨pb5, 0, none⟩)]] 66 (0, 0)) :: vecC 44 1 a_v0 c_v0 y1.length cs148 :: R)) (m := y1.length) ⟨y1.length, 0, y1, y2, y3, cs_v0, a_y3_0, c_y3_0, s, rfl, by omega, (Sg.Le.refl _), hq132, h_v0, (rfl), h_y3_0, hE.pick _ ⟨rfl, rfl, rfl, rfl, rfl, rfl, rfl, rfl, trivial⟩, hS⟩ ?_
        clear hE hS a w hq132; rintro m140 a w ⟨rest136, k134, q144, q150, q151, cs148, a152, c153, s141, rfl, hd137, hle142, hq132, h147, hn149, h154, hE, hS⟩
        refine W.gen fun K155 hK155 => ?_
        replace h_y0_0 := Sl.mono RFleetShift.mono hle142 h_y0_0
        replace h_y3_0 := Sl.mono (RL.mono RI.mono) hle142 h_y3_0
        replace h_v0 := Ev.mono (RL.mono RI.mono) hle142 h_v0
        rcases rest136 with _ | rest136
        · skip
          refine W.seq ?_
          refine W.region ?_
          refine WL.vS hS hE (runs_plain rfl) (Gives.p hE rfl) rfl ?_; clear hE a; intro a hE
          refine WL.nil ?_
          refine W.seq ?_
          refine W.condF hE rfl (decide_eq_false (by omega)) ?_
          subst hK155
          refine W.exit rfl ?_
          exact ⟨q144, q150, q151, cs148, a152, c153, s141, hle142, Option.some.inj hq132, h147, hn149, h154, hE.pick _ trivial, hS⟩
        · have hlt138 : k134 < y1.length := by omega
          rw [FleetRoster_1_v1.loop2] at hq132
          refine W.seq ?_
          refine W.region ?_
          refine WL.vS hS hE (runs_plain rfl) (Gives.p hE rfl) rfl ?_; clear hE a; intro a hE
          refine WL.nil ?_
          refine W.seq ?_
          refine W.condT hE rfl (decide_eq_true (by omega)) ?_
          refine W.skip ?_
          refine W.seq ?_
          refine W.block ?_
          refine W.seq ?_
          refine W.region ?_
          refine WL.vS hS hE (runs_plain rfl) (Gives.p hE rfl) rfl ?_; clear hE a; intro a hE
          obtain ⟨x156, hx157, hq132⟩ := bindS hq132
          obtain ⟨hi158, hlt159, hy160⟩ := gx_some hx157
          obtain ⟨vs161, hl162, hR163, hd164, hget165⟩ := h147.at hy160
          obtain ⟨a166, c167, rfl, h168⟩ := hR163
          refine WL.vS hS hE (runs_plain rfl) (Gives.idx hE ((((k134 : Nat) : Int)).toNat) rfl rfl sl25 hi158 (by have := hn149; omega) (hS.vecAok 6 rfl (by have := hn149; omega : (((k134 : Nat) : Int)).toNat < y1.length))) rfl ?_; clear hE a; intro a hE
          refine WL.vS hS hE (runs_plain rfl) (Gives.load1 hE rfl (fun w h => St.vecSees h 6 rfl ((((k134 : Nat) : Int)).toNat * 1) _ hget165) ty44) rfl ?_; clear hE a; intro a hE
          refine WL.vS hS hE (runs_plain rfl) (Gives.p hE rfl) rfl ?_; clear hE a; intro a hE
          refine WL.vS hS hE (runs_plain rfl) (Gives.p hE rfl) rfl ?_; clear hE a; intro a hE
          refine WL.nil ?_
          refine W.seq ?_
          refine W.gen fun K169 hK169 => ?_
          refine W.regionE (sel (fun w => St w s141 (pt pb0 (.cells #[.slice a_y0_0 y0.length c_y0_0] 22 (0, 0)) :: pt pb1 (.cells #[.slice a_v0 y1.length c_v0] 25 (0, 0)) :: pt pb2 (.cells #[.int .i64 q150] 3 (0, 0)) :: pt pb3 (.cells #[.slice a152 q151.length c153] 25 (0, 0)) :: pt pb4 (.cells #[.int .i64 y4.Change, .int .i64 y4.Long, .int .i64 y4.Work, .int .i64 y4.After, .int .i64 y4.Break, .int .i64 y4.Rest, .int .i64 y4.Row] 24 (0, 0)) :: pt pb5 (.cells #[.func (.func 38) #[] #[.pointer (some ⟨pb0, 0, none⟩), .pointer (some ⟨pb1, 0, none⟩), .pointer (some ⟨pb2, 0, none⟩), .pointer (some ⟨pb3, 0, none⟩), .pointer (some ⟨pb4, 0, none⟩), .pointer (some ⟨pb5, 0, none⟩)]] 66 (0, 0)) :: vecC 44 1 a_v0 c_v0 y1.length cs148 :: R)) (fun w => St w s141 (pt pb0 (.cells #[.slice a_y0_0 y0.length c_y0_0] 22 (0, 0)) :: pt pb1 (.cells #[.slice a_v0 y1.length c_v0] 25 (0, 0)) :: pt pb2 (.cells #[.int .i64 q150] 3 (0, 0)) :: pt pb3 (.cells #[.slice a152 q151.length c153] 25 (0, 0)) :: pt pb4 (.cells #[.int .i64 y4.Change, .int .i64 y4.Long, .int .i64 y4.Work, .int .i64 y4.After, .int .i64 y4.Break, .int .i64 y4.Rest, .int .i64 y4.Row] 24 (0, 0)) :: pt pb5 (.cells #[.func (.func 38) #[] #[.pointer (some ⟨pb0, 0, none⟩), .pointer (some ⟨pb1, 0, none⟩), .pointer (some ⟨pb2, 0, none⟩), .pointer (some ⟨pb3, 0, none⟩), .pointer (some ⟨pb4, 0, none⟩), .pointer (some ⟨pb5, 0, none⟩)]] 66 (0, 0)) :: R))) (fun b i => cond b ([0, 1, 2, 3, 4, 5, 6, 7].contains i) ([0, 1, 2, 3, 4, 5, 6, 7, 8].contains i)) mixed ?_
          replace hS := hS.drew
          have hT := tw_sel (A := fun w => St w s141 (pt pb0 (.cells #[.slice a_y0_0 y0.length c_y0_0] 22 (0, 0)) :: pt pb1 (.cells #[.slice a_v0 y1.length c_v0] 25 (0, 0)) :: pt pb2 (.cells #[.int .i64 q150] 3 (0, 0)) :: pt pb3 (.cells #[.slice a152 q151.length c153] 25 (0, 0)) :: pt pb4 (.cells #[.int .i64 y4.Change, .int .i64 y4.Long, .int .i64 y4.Work, .int .i64 y4.After, .int .i64 y4.Break, .int .i64 y4.Rest, .int .i64 y4.Row] 24 (0, 0)) :: pt pb5 (.cells #[.func (.func 38) #[] #[.pointer (some ⟨pb0, 0, none⟩), .pointer (some ⟨pb1, 0, none⟩), .pointer (some ⟨pb2, 0, none⟩), .pointer (some ⟨pb3, 0, none⟩), .pointer (some ⟨pb4, 0, none⟩), .pointer (some ⟨pb5, 0, none⟩)]] 66 (0, 0)) :: vecC 44 1 a_v0 c_v0 y1.length cs148 :: R)) (B := fun w => St w s141 (pt pb0 (.cells #[.slice a_y0_0 y0.length c_y0_0] 22 (0, 0)) :: pt pb1 (.cells #[.slice a_v0 y1.length c_v0] 25 (0, 0)) :: pt pb2 (.cells #[.int .i64 q150] 3 (0, 0)) :: pt pb3 (.cells #[.slice a152 q151.length c153] 25 (0, 0)) :: pt pb4 (.cells #[.int .i64 y4.Change, .int .i64 y4.Long, .int .i64 y4.Work, .int .i64 y4.After, .int .i64 y4.Break, .int .i64 y4.Rest, .int .i64 y4.Row] 24 (0, 0)) :: pt pb5 (.cells #[.func (.func 38) #[] #[.pointer (some ⟨pb0, 0, none⟩), .pointer (some ⟨pb1, 0, none⟩), .pointer (some ⟨pb2, 0, none⟩), .pointer (some ⟨pb3, 0, none⟩), .pointer (some ⟨pb4, 0, none⟩), .pointer (some ⟨pb5, 0, none⟩)]] 66 (0, 0)) :: R)) (w := _) (x := true) (y := true) (fun _ => hS) (fun _ => (hS.dropAt 6))
          have hF := hS; replace hS := hS
          refine Rg.take (i := 0) true rfl hE rfl (by kernel_rfl) (runs_plain rfl) (Gives.loadB hE 1 rfl rfl rfl ty25) rfl hT ?_; clear hE a; intro a hE
          replace hS := hF; clear hF hT
          refine Rg.takeP (i := 1) hE rfl (by kernel_rfl) (runs_plain rfl) (Gives.p hE rfl) rfl (tw_sel (fun _ => hS) (fun _ => (hS.dropAt 6))) ?_; clear hE a; intro a hE
          refine Rg.takeP (i := 2) hE rfl (by kernel_rfl) (runs_plain rfl) (Gives.p hE rfl) rfl (tw_sel (fun _ => hS) (fun _ => (hS.dropAt 6))) ?_; clear hE a; intro a hE
          refine Rg.takeP (i := 4) hE rfl (by kernel_rfl) (runs_plain rfl) (Gives.p hE rfl) rfl (tw_sel (fun _ => hS) (fun _ => (hS.dropAt 6))) ?_; clear hE a; intro a hE
          obtain ⟨q170, hq171, hq132⟩ := bindS hq132
          obtain ⟨x179, hx180, hq132⟩ := bindS hq132
          obtain ⟨_, hx186, hq132⟩ := bindS hq132
          obtain ⟨x193, hx194, hq132⟩ := bindS hq132
          suffices key : ∀ s190 cs195 (a : Act) (w : World), s141.Le s190 → Sl 1 (RI .i64) s190 a166 c167 x156 → Sl 3 RFleetShift s190 a_y0_0 c_y0_0 y0 → Sl 1 (RL 1 (RI .i64)) s190 a152 c153 q151 → Ev 1 (RL 1 (RI .i64)) s190 cs195 x193 → (x193).length = y1.length → Rep a 70 [(0, .int .i64 x0), (1, .pointer (some ⟨pb0, 0, none⟩)), (2, .pointer (some ⟨pb1, 0, none⟩)), (5, .pointer (some ⟨pb4, 0, none⟩)), (6, .pointer (some ⟨pb5, 0, none⟩)), (11, .int .i64 ((k134 : Nat) : Int)), (12, .slice a166 x156.length c167), (39, .slice a_v0 y1.length c_v0), (40, .int .i64 ((y1.length : Nat) : Int)), (41, .int .i64 ((k134 : Nat) : Int))] → St w s190 (pt pb0 (.cells #[.slice a_y0_0 y0.length c_y0_0] 22 (0, 0)) :: pt pb1 (.cells #[.slice a_v0 y1.length c_v0] 25 (0, 0)) :: pt pb2 (.cells #[.int .i64 q150] 3 (0, 0)) :: pt pb3 (.cells #[.slice a152 q151.length c153] 25 (0, 0)) :: pt pb4 (.cells #[.int .i64 y4.Change, .int .i64 y4.Long, .int .i64 y4.Work, .int .i64 y4.After, .int .i64 y4.Break, .int .i64 y4.Rest, .int .i64 y4.Row] 24 (0, 0)) :: pt pb5 (.cells #[.func (.func 38) #[] #[.pointer (some ⟨pb0, 0, none⟩), .pointer (some ⟨pb1, 0, none⟩), .pointer (some ⟨pb2, 0, none⟩), .pointer (some ⟨pb3, 0, none⟩), .pointer (some ⟨pb4, 0, none⟩), .pointer (some ⟨pb5, 0, none⟩)]] 66 (0, 0)) :: vecC 44 1 a_v0 c_v0 y1.length cs195 :: R) → K169.nor a w by
            refine Rg.many 3 [5] (by kernel_rfl) ⟨?_, ?_, trivial⟩
            · refine Br.mk (i := 3) true true rfl (by kernel_rfl) (by kernel_rfl) ?_
              have hc_ := SlicesCloneLint_ok hS h168 hq171
              refine WL.fnq hE (hc_) (runs_plain rfl) bd41 rfl rfl rfl ?_
              clear hE hS hc_; rintro e w ⟨a172, c173, n174, cs175, rfl, h176, rfl, hS⟩; refine ⟨_, rfl, ?_⟩; clear a; intro a hE
              refine WL.nil ?_
              refine ⟨⟨fun _ => (hS.tail), fun _ => ((hS.tail).dropAt 6)⟩, ?_⟩
              refine Rg.one (i := 5) true true rfl (by kernel_rfl) (by kernel_rfl) (by kernel_rfl) ?_
              refine WL.lit hE hS (e := 3) (es := 1) (vs := [(0, .int .i64 x0)]) (cs := [.int .i64 x0]) (runs_plain rfl) rfl (by kernel_rfl) rfl ?_; clear hE hS a w; intro b178 a w hE hS
              refine WL.nil ?_
              refine ⟨⟨fun _ => ((hS.tail).tail), fun _ => (((hS.tail).tail).dropAt 6)⟩, ?_⟩
              refine Rg.one (i := 6) true true rfl (by kernel_rfl) (by kernel_rfl) (by kernel_rfl) ?_
              refine WL.appD hE hS 0 (m := 1) (runs_plain rfl) rfl rfl rfl ap44 rfl h176 rfl (xs := [x0]) (Ev.cons (c1 := [.int .i64 x0]) rfl rfl (Ev.nil)) rfl rfl hx180 rfl ?_; clear hE hS a w; intro a181 c182 cs183 a w h184 hE hS
              refine WL.nil ?_
              refine ⟨⟨fun _ => (hS.tail), fun _ => ((hS.tail).dropAt 6)⟩, ?_⟩
              obtain ⟨h187, h188⟩ := ix_some hx186
              refine Rg.takeP (i := 7) hE rfl (by kernel_rfl) (runs_plain rfl) (Gives.idx hE ((((k134 : Nat) : Int)).toNat) rfl rfl sl25 h187 (by have := hn149; omega) (hS.vecAok 7 rfl (by have := hn149; omega : (((k134 : Nat) : Int)).toNat < y1.length))) rfl (tw_sel (fun _ => (hS.tail)) (fun _ => ((hS.tail).dropAt 6))) ?_; clear hE a; intro a hE
              refine Rg.one (i := 8) false true rfl (by kernel_rfl) (by kernel_rfl) (by kernel_rfl) ?_
              have hF := hS.fixD RI.mono 0 rfl h184 (rfl); clear hS; obtain ⟨s190, hle191, hS, h192⟩ := hF
              replace h168 := Sl.mono RI.mono hle191 h168
              replace h_y0_0 := Sl.mono RFleetShift.mono hle191 h_y0_0
              replace h154 := Sl.mono (RL.mono RI.mono) hle191 h154
              replace h147 := Ev.mono (RL.mono RI.mono) hle191 h147
              refine WL.setD hE hS 6 rfl (runs_plain rfl) rfl rfl (vs := [.slice a181 x179.length c182]) rfl ty44 rfl rfl rfl h147 hn149 (sx_some hx194).1 hx194 ⟨_, _, rfl, h192⟩ rfl ?_; clear hE hS a w; intro cs195 a w h196 hn197 hE hS
              refine WL.nil ?_
              refine ⟨⟨fun h => absurd h (by decide), fun _ => (St.down hle191 (hS.dropAt 6))⟩, ?_⟩
              refine Rg.done (by kernel_rfl) ?_
              exact key _ _ _ _ hle191 h168 h_y0_0 h154 h196 hn197 (hE.pick _ ⟨rfl, rfl, rfl, rfl, rfl, rfl, rfl, rfl, rfl, rfl, trivial⟩) hS
            · refine Br.mk (i := 5) true true rfl (by kernel_rfl) (by kernel_rfl) ?_
              refine WL.lit hE hS (e := 3) (es := 1) (vs := [(0, .int .i64 x0)]) (cs := [.int .i64 x0]) (runs_plain rfl) rfl (by kernel_rfl) rfl ?_; clear hE hS a w; intro b178 a w hE hS
              refine WL.nil ?_
              refine ⟨⟨fun _ => (hS.tail), fun _ => ((hS.tail).dropAt 6)⟩, ?_⟩
              refine Rg.one (i := 3) true true rfl (by kernel_rfl) (by kernel_rfl) (by kernel_rfl) ?_
              have hc_ := SlicesCloneLint_ok hS h168 hq171
              refine WL.fnq hE (hc_) (runs_plain rfl) bd41 rfl rfl rfl ?_
              clear hE hS hc_; rintro e w ⟨a172, c173, n174, cs175, rfl, h176, rfl, hS⟩; refine ⟨_, rfl, ?_⟩; clear a; intro a hE
              refine WL.nil ?_
              refine ⟨⟨fun _ => ((hS.tail).tail), fun _ => (((hS.tail).tail).dropAt 6)⟩, ?_⟩
              refine Rg.one (i := 6) true true rfl (by kernel_rfl) (by kernel_rfl) (by kernel_rfl) ?_
              replace hS := hS.front 1 rfl
              refine WL.appD hE hS 0 (m := 1) (runs_plain rfl) rfl rfl rfl ap44 rfl h176 rfl (xs := [x0]) (Ev.cons (c1 := [.int .i64 x0]) rfl rfl (Ev.nil)) rfl rfl hx180 rfl ?_; clear hE hS a w; intro a181 c182 cs183 a w h184 hE hS
              refine WL.nil ?_
              refine ⟨⟨fun _ => (hS.tail), fun _ => ((hS.tail).dropAt 6)⟩, ?_⟩
              obtain ⟨h187, h188⟩ := ix_some hx186
              refine Rg.takeP (i := 7) hE rfl (by kernel_rfl) (runs_plain rfl) (Gives.idx hE ((((k134 : Nat) : Int)).toNat) rfl rfl sl25 h187 (by have := hn149; omega) (hS.vecAok 7 rfl (by have := hn149; omega : (((k134 : Nat) : Int)).toNat < y1.length))) rfl (tw_sel (fun _ => (hS.tail)) (fun _ => ((hS.tail).dropAt 6))) ?_; clear hE a; intro a hE
              refine Rg.one (i := 8) false true rfl (by kernel_rfl) (by kernel_rfl) (by kernel_rfl) ?_
              have hF := hS.fixD RI.mono 0 rfl h184 (rfl); clear hS; obtain ⟨s190, hle191, hS, h192⟩ := hF
              replace h168 := Sl.mono RI.mono hle191 h168
              replace h_y0_0 := Sl.mono RFleetShift.mono hle191 h_y0_0
              replace h154 := Sl.mono (RL.mono RI.mono) hle191 h154
              replace h147 := Ev.mono (RL.mono RI.mono) hle191 h147
              refine WL.setD hE hS 6 rfl (runs_plain rfl) rfl rfl (vs := [.slice a181 x179.length c182]) rfl ty44 rfl rfl rfl h147 hn149 (sx_some hx194).1 hx194 ⟨_, _, rfl, h192⟩ rfl ?_; clear hE hS a w; intro cs195 a w h196 hn197 hE hS
              refine WL.nil ?_
              refine ⟨⟨fun h => absurd h (by decide), fun _ => (St.down hle191 (hS.dropAt 6))⟩, ?_⟩
              refine Rg.done (by kernel_rfl) ?_
              exact key _ _ _ _ hle191 h168 h_y0_0 h154 h196 hn197 (hE.pick _ ⟨rfl, rfl, rfl, rfl, rfl, rfl, rfl, rfl, rfl, rfl, trivial⟩) hS
          clear hE hS a w; intro s190 cs195 a w hle198 h168 h_y0_0 h154 h196 hn197 hE hS
          subst hK169
          refine W.seq ?_
          refine W.seq ?_
          refine W.regionQ (C := fun w => St w s190 (pt pb0 (.cells #[.slice a_y0_0 y0.length c_y0_0] 22 (0, 0)) :: pt pb1 (.cells #[.slice a_v0 y1.length c_v0] 25 (0, 0)) :: pt pb2 (.cells #[.int .i64 q150] 3 (0, 0)) :: pt pb3 (.cells #[.slice a152 q151.length c153] 25 (0, 0)) :: pt pb4 (.cells #[.int .i64 y4.Change, .int .i64 y4.Long, .int .i64 y4.Work, .int .i64 y4.After, .int .i64 y4.Break, .int .i64 y4.Rest, .int .i64 y4.Row] 24 (0, 0)) :: pt pb5 (.cells #[.func (.func 38) #[] #[.pointer (some ⟨pb0, 0, none⟩), .pointer (some ⟨pb1, 0, none⟩), .pointer (some ⟨pb2, 0, none⟩), .pointer (some ⟨pb3, 0, none⟩), .pointer (some ⟨pb4, 0, none⟩), .pointer (some ⟨pb5, 0, none⟩)]] 66 (0, 0)) :: vecC 44 1 a_v0 c_v0 y1.length cs195 :: R)) mixed (by kernel_rfl) hS.drew ?_
          refine QL.v hE (runs_plain rfl) (Gives.loadB hE 0 rfl rfl rfl ty22) rfl ?_; clear hE a; intro a hE
          refine QL.v hE (runs_plain rfl) (Gives.loadB hE 1 rfl rfl rfl ty25) rfl ?_; clear hE a; intro a hE
          refine QL.v hE (runs_plain rfl) (Gives.p hE rfl) rfl ?_; clear hE a; intro a hE
          obtain ⟨x199, hx200, hq132⟩ := bindS hq132
          obtain ⟨hi201, hlt202, hy203⟩ := gx_some hx200
          obtain ⟨vs204, hl205, hR206, hd207, hget208⟩ := h196.at hy203
          obtain ⟨a209, c210, rfl, h211⟩ := hR206
          refine QL.v hE (runs_plain rfl) (Gives.idx hE ((((k134 : Nat) : Int)).toNat) rfl rfl sl25 hi201 (by have := hn197; omega) (hS.vecAok 6 rfl (by have := hn197; omega : (((k134 : Nat) : Int)).toNat < y1.length))) rfl ?_; clear hE a; intro a hE
          refine QL.v hE (runs_plain rfl) (Gives.load1 hE rfl (fun w h => St.vecSees h 6 rfl ((((k134 : Nat) : Int)).toNat * 1) _ hget208) ty44) rfl ?_; clear hE a; intro a hE
          refine QL.v hE (runs_plain rfl) (Gives.loadBA hE 4 rfl rfl ty24) rfl ?_; clear hE a; intro a hE
          obtain ⟨q212, hq213, hq132⟩ := bindS hq132
          refine QL.fnq hE (fun w hS => Fleetfits_ok hS h_y0_0 h211 hq213) (runs_plain rfl) bd42 rfl rfl rfl ?_; clear hE a; intro a hE
          refine QL.nil ?_; clear hS w; intro w hS
          refine W.cond hE rfl (fun hc214 => ?_) (fun hc214 => ?_)
          · replace hq132 := iteT hc214 hq132
            refine W.region ?_
            refine WL.vS hS hE (runs_plain rfl) (Gives.loadB hE 5 rfl rfl rfl ty66) rfl ?_; clear hE a; intro a hE
            refine WL.vS hS hE (runs_plain rfl) (Gives.p hE rfl) rfl ?_; clear hE a; intro a hE
            refine WL.vS hS hE (runs_plain rfl) (Gives.p hE rfl) rfl ?_; clear hE a; intro a hE
            obtain ⟨q215, hq216, hq132⟩ := bindS hq132
            have hc_ := ih_FleetRoster_1_v1 (y4 := y4) hS h_y0_0 h196 hn197 h154 hq216
            refine WL.fnw hE (hc_) rfl (runs_plain rfl) bd38 rfl rfl rfl ?_
            clear hE hS hc_; rintro e w ⟨cs217, a220, c221, s223, rfl, hle224, h218, hn219, h222, hS⟩; refine ⟨_, rfl, ?_⟩; clear a; intro a hE
            replace h168 := Sl.mono RI.mono hle224 h168
            replace h_y0_0 := Sl.mono RFleetShift.mono hle224 h_y0_0
            replace h211 := Sl.mono RI.mono hle224 h211
            replace h154 := Sl.mono (RL.mono RI.mono) hle224 h154
            replace h196 := Ev.mono (RL.mono RI.mono) hle224 h196
            refine WL.nil ?_
            refine W.region ?_
            refine WL.vS hS hE (runs_plain rfl) (Gives.loadB hE 1 rfl rfl rfl ty25) rfl ?_; clear hE a; intro a hE
            refine WL.vS hS hE (runs_plain rfl) (Gives.p hE rfl) rfl ?_; clear hE a; intro a hE
            refine WL.vS hS hE (runs_plain rfl) (Gives.p hE rfl) rfl ?_; clear hE a; intro a hE
            obtain ⟨_, hx226, hq132⟩ := bindS hq132
            obtain ⟨h227, h228⟩ := ix_some hx226
            refine WL.vS hS hE (runs_plain rfl) (Gives.idx hE ((((k134 : Nat) : Int)).toNat) rfl rfl sl25 h227 (by have := hn219; omega) (hS.vecAok 6 rfl (by have := hn219; omega : (((k134 : Nat) : Int)).toNat < y1.length))) rfl ?_; clear hE a; intro a hE
            obtain ⟨x230, hx231, hq132⟩ := bindS hq132
            refine WL.setD hE hS 6 rfl (runs_plain rfl) rfl rfl (vs := [.slice a166 x156.length c167]) rfl ty44 rfl rfl rfl h218 hn219 (sx_some hx231).1 hx231 ⟨_, _, rfl, h168⟩ rfl ?_; clear hE hS a w; intro cs232 a w h233 hn234 hE hS
            refine WL.nil ?_
            refine W.region ?_
            refine WL.vS hS hE (runs_plain rfl) (Gives.inc hE rfl (by omega)) rfl ?_; clear hE a; intro a hE
            refine WL.vS hS hE (runs_plain rfl) (Gives.p hE rfl) rfl ?_; clear hE a; intro a hE
            refine WL.nil ?_
            subst hK155
            exact ⟨rest136, Nat.lt_succ_self _, rest136, k134 + 1, x230, q215.2.1, q215.2.2, cs232, a220, c221, s223, rfl, (by omega), (Sg.Le.trans (Sg.Le.trans hle142 hle198) hle224), hq132, h233, hn234, h222, hE.pick _ ⟨rfl, rfl, rfl, rfl, rfl, rfl, rfl, rfl, trivial⟩, hS⟩
          · replace hq132 := iteF hc214 hq132
            refine W.skip ?_
            refine W.region ?_
            refine WL.vS hS hE (runs_plain rfl) (Gives.loadB hE 1 rfl rfl rfl ty25) rfl ?_; clear hE a; intro a hE
            refine WL.vS hS hE (runs_plain rfl) (Gives.p hE rfl) rfl ?_; clear hE a; intro a hE
            refine WL.vS hS hE (runs_plain rfl) (Gives.p hE rfl) rfl ?_; clear hE a; intro a hE
            obtain ⟨_, hx236, hq132⟩ := bindS hq132
            obtain ⟨h237, h238⟩ := ix_some hx236
            refine WL.vS hS hE (runs_plain rfl) (Gives.idx hE ((((k134 : Nat) : Int)).toNat) rfl rfl sl25 h237 (by have := hn197; omega) (hS.vecAok 6 rfl (by have := hn197; omega : (((k134 : Nat) : Int)).toNat < y1.length))) rfl ?_; clear hE a; intro a hE
            obtain ⟨x240, hx241, hq132⟩ := bindS hq132
            refine WL.setD hE hS 6 rfl (runs_plain rfl) rfl rfl (vs := [.slice a166 x156.length c167]) rfl ty44 rfl rfl rfl h196 hn197 (sx_some hx241).1 hx241 ⟨_, _, rfl, h168⟩ rfl ?_; clear hE hS a w; intro cs242 a w h243 hn244 hE hS
            refine WL.nil ?_
            refine W.region ?_
            refine WL.vS hS hE (runs_plain rfl) (Gives.inc hE rfl (by omega)) rfl ?_; clear hE a; intro a hE
            refine WL.vS hS hE (runs_plain rfl) (Gives.p hE rfl) rfl ?_; clear hE a; intro a hE
            refine WL.nil ?_
            subst hK155
            exact ⟨rest136, Nat.lt_succ_self _, rest136, k134 + 1, x240, q150, q151, cs242, a152, c153, s190, rfl, (by omega), (Sg.Le.trans hle142 hle198), hq132, h243, hn244, h154, hE.pick _ ⟨rfl, rfl, rfl, rfl, rfl, rfl, rfl, rfl, trivial⟩, hS⟩
      · clear hE hS a w; rintro a w ⟨q144, q150, q151, cs148, a152, c153, s141, hle142, rfl, h147, hn149, h154, hE, hS⟩
        dsimp only at hr
        replace h_y0_0 := Sl.mono RFleetShift.mono hle142 h_y0_0
        replace h_y3_0 := Sl.mono (RL.mono RI.mono) hle142 h_y3_0
        replace h_v0 := Ev.mono (RL.mono RI.mono) hle142 h_v0
        refine finG (fn := Try.f38) (rs := []) (vs := []) hE rfl trivial ?_
        obtain rfl := Option.some.inj hr
        exact ⟨cs148, a152, c153, s141, rfl, hle142, h147, hn149, h154, hS⟩
set_option maxHeartbeats 8000000 in
theorem FleetRoster_ok {fu : Nat}  {w : World} {s : Sg} {R : List HP} {x0 : List FleetShift} {a0 : Option Addr} {c0 : Nat} {x1 : Int} {x2 : FleetLimits} (hS : St w s (R)) (h0 : Sl 3 RFleetShift s a0 c0 x0) {r : (List (List Int)) × Int} (hr : FleetRoster fu x0 x1 x2 = some r) :
    Calls Try.prog 10 [.slice a0 x0.length c0, .int .i64 x1, .agg (FleetLimits.cells x2).toArray].toArray w (fun e w => ∃ (a0 : Option Addr) (c0 : Nat) (t : Sg), e = .returned (.tuple #[.slice a0 r.1.length c0, .int .i64 r.2]) ∧ s.Le t ∧ Sl 1 (RL 1 (RI .i64)) t a0 c0 r.1 ∧ St w t (R)) := by
  refine enter Try.func10 rfl rfl rfl fun a hE => ?_
  rw [FleetRoster] at hr
  refine W.seq ?_
  refine W.region ?_
  refine WL.box hE hS (runs_plain rfl) rfl rfl rfl ?_; clear hE hS a w; intro b51 a w hE hS
  refine WL.box hE hS (runs_plain rfl) rfl rfl rfl ?_; clear hE hS a w; intro b52 a w hE hS
  refine WL.vS hS hE (runs_plain rfl) (Gives.p hE rfl) rfl ?_; clear hE a; intro a hE
  refine WL.vS hS hE (runs_plain rfl) (Gives.p hE rfl) rfl ?_; clear hE a; intro a hE
  refine WL.nil ?_
  refine W.seq ?_
  refine W.seq ?_
  refine W.region ?_
  refine WL.vS hS hE (runs_plain rfl) (Gives.loadB hE 1 rfl rfl rfl ty22) rfl ?_; clear hE a; intro a hE
  refine WL.fnq hE (FleetCheckShifts_ok hS h0 rfl (r := FleetCheckShifts x0)) (runs_plain rfl) bd35 rfl rfl rfl ?_
  clear hE hS; rintro e w ⟨rfl, hS⟩; refine ⟨_, rfl, ?_⟩; clear a; intro a hE
  refine WL.vS hS hE (runs_plain rfl) (Gives.p hE rfl) rfl ?_; clear hE a; intro a hE
  refine WL.nil ?_
  refine W.seq ?_
  refine W.region ?_
  refine WL.vS hS hE (runs_plain rfl) (Gives.p hE rfl) rfl ?_; clear hE a; intro a hE
  refine WL.vS hS hE (runs_plain rfl) (Gives.p hE rfl) rfl ?_; clear hE a; intro a hE
  refine WL.nil ?_
  refine W.cond hE rfl (fun hc53 => ?_) (fun hc53 => ?_)
  · replace hr := iteT hc53 hr
    refine W.seq ?_
    refine W.region ?_
    refine WL.vS hS hE (runs_plain rfl) (Gives.p hE rfl) rfl ?_; clear hE a; intro a hE
    refine WL.vS hS hE (runs_plain rfl) (Gives.p hE rfl) rfl ?_; clear hE a; intro a hE
    refine WL.vS hS hE (runs_plain rfl) (Gives.p hE rfl) rfl ?_; clear hE a; intro a hE
    refine WL.nil ?_
    refine W.ret ?_
    refine finG (fn := Try.f10) (rs := [.tmp 6, .tmp 7]) (vs := [_, _]) hE rfl ⟨rfl, rfl, trivial⟩ ?_
    obtain rfl := Option.some.inj hr
    replace hS := hS.tail
    replace hS := hS.tail
    exact ⟨none, 0, s, rfl, (Sg.Le.refl _), Sl.nil, hS⟩
  · replace hr := iteF hc53 hr
    refine W.skip ?_
    refine W.seq ?_
    refine W.seq ?_
    refine W.region ?_
    refine WL.vS hS hE (runs_plain rfl) (Gives.loadBA hE 0 rfl rfl ty24) rfl ?_; clear hE a; intro a hE
    refine WL.fnq hE (FleetCheckLimits_ok hS  rfl (r := FleetCheckLimits x2)) (runs_plain rfl) bd36 rfl rfl rfl ?_
    clear hE hS; rintro e w ⟨rfl, hS⟩; refine ⟨_, rfl, ?_⟩; clear a; intro a hE
    refine WL.vS hS hE (runs_plain rfl) (Gives.p hE rfl) rfl ?_; clear hE a; intro a hE
    refine WL.nil ?_
    refine W.seq ?_
    refine W.region ?_
    refine WL.vS hS hE (runs_plain rfl) (Gives.p hE rfl) rfl ?_; clear hE a; intro a hE
    refine WL.vS hS hE (runs_plain rfl) (Gives.p hE rfl) rfl ?_; clear hE a; intro a hE
    refine WL.nil ?_
    refine W.cond hE rfl (fun hc54 => ?_) (fun hc54 => ?_)
    · replace hr := iteT hc54 hr
      refine W.seq ?_
      refine W.region ?_
      refine WL.vS hS hE (runs_plain rfl) (Gives.p hE rfl) rfl ?_; clear hE a; intro a hE
      refine WL.vS hS hE (runs_plain rfl) (Gives.p hE rfl) rfl ?_; clear hE a; intro a hE
      refine WL.vS hS hE (runs_plain rfl) (Gives.p hE rfl) rfl ?_; clear hE a; intro a hE
      refine WL.nil ?_
      refine W.ret ?_
      refine finG (fn := Try.f10) (rs := [.tmp 6, .tmp 7]) (vs := [_, _]) hE rfl ⟨rfl, rfl, trivial⟩ ?_
      obtain rfl := Option.some.inj hr
      replace hS := hS.tail
      replace hS := hS.tail
      exact ⟨none, 0, s, rfl, (Sg.Le.refl _), Sl.nil, hS⟩
    · replace hr := iteF hc54 hr
      refine W.skip ?_
      refine W.seq ?_
      refine W.seq ?_
      refine W.region ?_
      refine WL.vS hS hE (runs_plain rfl) (Gives.p hE rfl) rfl ?_; clear hE a; intro a hE
      refine WL.fnq hE (Fleetwithin_ok hS  rfl (r := Fleetwithin x1 1 4)) (runs_plain rfl) bd37 rfl rfl rfl ?_
      clear hE hS; rintro e w ⟨rfl, hS⟩; refine ⟨_, rfl, ?_⟩; clear a; intro a hE
      refine WL.vS hS hE (runs_plain rfl) (Gives.p hE rfl) rfl ?_; clear hE a; intro a hE
      refine WL.nil ?_
      refine W.cond hE rfl (fun hc55 => ?_) (fun hc55 => ?_)
      · replace hr := iteT hc55 hr
        refine W.seq ?_
        refine W.region ?_
        refine WL.vS hS hE (runs_plain rfl) (Gives.p hE rfl) rfl ?_; clear hE a; intro a hE
        refine WL.vS hS hE (runs_plain rfl) (Gives.p hE rfl) rfl ?_; clear hE a; intro a hE
        refine WL.nil ?_
        refine W.ret ?_
        refine finG (fn := Try.f10) (rs := [.tmp 6, .tmp 7]) (vs := [_, _]) hE rfl ⟨rfl, rfl, trivial⟩ ?_
        obtain rfl := Option.some.inj hr
        replace hS := hS.tail
        replace hS := hS.tail
        exact ⟨none, 0, s, rfl, (Sg.Le.refl _), Sl.nil, hS⟩
      · replace hr := iteF hc55 hr
        refine W.skip ?_
        refine W.seq ?_
        refine W.region ?_
        refine WL.vS hS hE (runs_plain rfl) (Gives.p hE rfl) rfl ?_; clear hE a; intro a hE
        obtain ⟨x56, hx57, hr⟩ := bindS hr
        refine WL.mkD (Rr := RL 1 (RI .i64)) hE hS (runs_plain rfl) rfl rfl ap25 zr44 ⟨_, _, rfl, Sl.nil⟩ hx57 rfl ?_; clear hE hS a w; intro b58 cs59 a w h60 hE hS
        refine WL.alloc hE hS (runs_plain rfl) zr25 rfl ?_; clear hE hS a w; intro b62 a w hE hS
        refine WL.storeI hE hS 0 rfl [.slice (some ⟨b58, 0, none⟩) x56.length x56.length] (runs_plain rfl) rfl rfl rfl ty25 rfl rfl rfl rfl ?_; clear hE hS a w; intro a w hE hS
        refine WL.nil ?_
        refine W.seq ?_
        refine W.region ?_
        refine WL.alloc hE hS (runs_plain rfl) zr25 rfl ?_; clear hE hS a w; intro b63 a w hE hS
        refine WL.nil ?_
        refine W.seq ?_
        refine W.region ?_
        refine WL.alloc hE hS (runs_plain rfl) zr3 rfl ?_; clear hE hS a w; intro b64 a w hE hS
        refine WL.storeI hE hS 0 rfl [.int .i64 (-1)] (runs_plain rfl) rfl rfl rfl ty3 rfl rfl rfl rfl ?_; clear hE hS a w; intro a w hE hS
        refine WL.nil ?_
        refine W.seq ?_
        refine W.region ?_
        refine WL.alloc hE hS (runs_plain rfl) zr66 rfl ?_; clear hE hS a w; intro b65 a w hE hS
        refine WL.nil ?_
        refine W.seq ?_
        refine W.region ?_
        refine WL.vS hS hE (runs_plain rfl) (Gives.mkfn hE (vs := [.pointer (some ⟨b51, 0, none⟩), .pointer (some ⟨b62, 0, none⟩), .pointer (some ⟨b64, 0, none⟩), .pointer (some ⟨b63, 0, none⟩), .pointer (some ⟨b52, 0, none⟩), .pointer (some ⟨b65, 0, none⟩)]) rfl) rfl ?_; clear hE a; intro a hE
        refine WL.storeI hE hS 0 rfl [.func (.func 38) #[] #[.pointer (some ⟨b51, 0, none⟩), .pointer (some ⟨b62, 0, none⟩), .pointer (some ⟨b64, 0, none⟩), .pointer (some ⟨b63, 0, none⟩), .pointer (some ⟨b52, 0, none⟩), .pointer (some ⟨b65, 0, none⟩)]] (runs_plain rfl) rfl rfl rfl ty66 rfl rfl rfl rfl ?_; clear hE hS a w; intro a w hE hS
        refine WL.nil ?_
        refine W.seq ?_
        refine W.region ?_
        refine WL.vS hS hE (runs_plain rfl) (Gives.loadB hE 0 rfl rfl rfl ty66) rfl ?_; clear hE a; intro a hE
        obtain ⟨q66, hq67, hr⟩ := bindS hr
        replace hS := hS.front 4 rfl
        replace hS := hS.front 1 rfl
        replace hS := hS.front 5 rfl
        replace hS := hS.front 4 rfl
        replace hS := hS.front 4 rfl
        replace hS := hS.front 5 rfl
        replace hS := hS.front 6 rfl
        have hc_ := FleetRoster_1_v1_ok (y4 := x2) hS h0 h60 (rfl) Sl.nil hq67
        refine WL.fnw hE (hc_) rfl (runs_plain rfl) bd38 rfl rfl rfl ?_
        clear hE hS hc_; rintro e w ⟨cs68, a71, c72, s74, rfl, hle75, h69, hn70, h73, hS⟩; refine ⟨_, rfl, ?_⟩; clear a; intro a hE
        replace h0 := Sl.mono RFleetShift.mono hle75 h0
        replace h60 := Ev.mono (RL.mono RI.mono) hle75 h60
        refine WL.nil ?_
        refine W.seq ?_
        refine W.seq ?_
        refine W.region ?_
        refine WL.vS hS hE (runs_plain rfl) (Gives.loadB hE 2 rfl rfl rfl ty3) rfl ?_; clear hE a; intro a hE
        refine WL.vS hS hE (runs_plain rfl) (Gives.p hE rfl) rfl ?_; clear hE a; intro a hE
        refine WL.nil ?_
        refine W.cond hE rfl (fun hc76 => ?_) (fun hc76 => ?_)
        · replace hr := iteT hc76 hr
          refine W.seq ?_
          refine W.region ?_
          refine WL.vS hS hE (runs_plain rfl) (Gives.p hE rfl) rfl ?_; clear hE a; intro a hE
          refine WL.vS hS hE (runs_plain rfl) (Gives.p hE rfl) rfl ?_; clear hE a; intro a hE
          refine WL.nil ?_
          refine W.ret ?_
          refine finG (fn := Try.f10) (rs := [.tmp 6, .tmp 7]) (vs := [_, _]) hE rfl ⟨rfl, rfl, trivial⟩ ?_
          obtain rfl := Option.some.inj hr
          replace hS := hS.tail
          replace hS := hS.tail
          replace hS := hS.tail
          replace hS := hS.tail
          replace hS := hS.tail
          replace hS := hS.tail
          replace hS := hS.tail
          exact ⟨none, 0, s74, rfl, hle75, Sl.nil, hS⟩
        · replace hr := iteF hc76 hr
          refine W.skip ?_
          refine W.seq ?_
          refine W.region ?_
          refine WL.vS hS hE (runs_plain rfl) (Gives.loadB hE 3 rfl rfl rfl ty25) rfl ?_; clear hE a; intro a hE
          refine WL.vS hS hE (runs_plain rfl) (Gives.p hE rfl) rfl ?_; clear hE a; intro a hE
          refine WL.vS hS hE (runs_plain rfl) (Gives.p hE rfl) rfl ?_; clear hE a; intro a hE
          refine WL.nil ?_
          refine W.ret ?_
          refine finG (fn := Try.f10) (rs := [.tmp 6, .tmp 7]) (vs := [_, _]) hE rfl ⟨rfl, rfl, trivial⟩ ?_
          obtain rfl := Option.some.inj hr
          replace hS := hS.tail
          replace hS := hS.tail
          replace hS := hS.tail
          replace hS := hS.tail
          replace hS := hS.tail
          replace hS := hS.tail
          replace hS := hS.tail
          exact ⟨a71, c72, s74, rfl, hle75, h73, hS⟩
set_option maxHeartbeats 8000000 in
theorem Fishref2within_ok  {w : World} {s : Sg} {R : List HP} {x0 : Int} {x1 : Int} {x2 : Int} (hS : St w s (R))  {r : Bool} (hr : Fishref2within x0 x1 x2 = r) :
    Calls Try.prog 45 [.int .i64 x0, .int .i64 x1, .int .i64 x2].toArray w (fun e w => e = .returned (.bool r) ∧ St w s (R)) := by
  refine enter Try.func45 rfl rfl rfl fun a hE => ?_
  rw [Fishref2within] at hr
  refine W.seq ?_
  refine W.region ?_
  refine WL.vS hS hE (runs_plain rfl) (Gives.p hE rfl) rfl ?_; clear hE a; intro a hE
  refine WL.nil ?_
  refine W.seq ?_
  obtain ⟨q52, hq51, hr⟩ := bndS hr
  refine W.cut (fun a w => ∃ (q55 : Bool), q55 = q52 ∧ Rep a 15 [(6, .bool q55)] ∧ St w s (R)) ?_ ?_
  · refine W.gen fun K56 hK56 => ?_
    refine W.region ?_
    refine WL.vS hS hE (runs_plain rfl) (Gives.p hE rfl) rfl ?_; clear hE a; intro a hE
    refine WL.vS hS hE (runs_plain rfl) (Gives.p hE rfl) rfl ?_; clear hE a; intro a hE
    refine WL.vS hS hE (runs_plain rfl) (Gives.p hE rfl) rfl ?_; clear hE a; intro a hE
    refine WL.vS hS hE (runs_plain rfl) (Gives.p hE rfl) rfl ?_; clear hE a; intro a hE
    rcases Bool.eq_false_or_eq_true (decide (x0 ≥ x1)) with hg57 | hg57
    · replace hq51 := iteT hg57 hq51
      refine WL.vS hS hE (runs_if hE rfl rfl rfl hg57) (Gives.p hE rfl) rfl ?_; clear hE a; intro a hE
      refine WL.vS hS hE (runs_if hE rfl rfl rfl hg57) (Gives.p hE rfl) rfl ?_; clear hE a; intro a hE
      refine WL.vS hS hE (runs_if hE rfl rfl rfl hg57) (Gives.p hE rfl) rfl ?_; clear hE a; intro a hE
      refine WL.vS hS hE (runs_plain rfl) (Gives.pickT hE rfl hg57 rfl) rfl ?_; clear hE a; intro a hE
      refine WL.vS hS hE (runs_plain rfl) (Gives.p hE rfl) rfl ?_; clear hE a; intro a hE
      refine WL.nil ?_
      subst hK56
      exact ⟨decide (x0 ≤ x2), hq51, hE.pick _ ⟨rfl, trivial⟩, hS⟩
    · replace hq51 := iteF hg57 hq51
      refine WL.no hE (runs_not hE rfl rfl rfl (by rw [hg57]; decide)) rfl ?_; clear hE a; intro a hE
      refine WL.no hE (runs_not hE rfl rfl rfl (by rw [hg57]; decide)) rfl ?_; clear hE a; intro a hE
      refine WL.no hE (runs_not hE rfl rfl rfl (by rw [hg57]; decide)) rfl ?_; clear hE a; intro a hE
      refine WL.vS hS hE (runs_plain rfl) (Gives.pickF hE rfl hg57 rfl) rfl ?_; clear hE a; intro a hE
      refine WL.vS hS hE (runs_plain rfl) (Gives.p hE rfl) rfl ?_; clear hE a; intro a hE
      refine WL.nil ?_
      subst hK56
      exact ⟨false, hq51, hE.pick _ ⟨rfl, trivial⟩, hS⟩
  · clear hE hS a w; rintro a w ⟨q55, rfl, hE, hS⟩
    refine W.ret ?_
    refine finG (fn := Try.f45) (rs := [.tmp 6]) (vs := [_]) hE rfl ⟨rfl, trivial⟩ ?_
    subst hr
    exact ⟨rfl, hS⟩
set_option maxHeartbeats 8000000 in
theorem Fishref2ShiftsFault_ok  {w : World} {s : Sg} {R : List HP} {x0 : List FleetShift} {a0 : Option Addr} {c0 : Nat} (hS : St w s (R)) (h0 : Sl 3 RFleetShift s a0 c0 x0) {r : Int} (hr : Fishref2ShiftsFault x0 = r) :
    Calls Try.prog 43 [.slice a0 x0.length c0].toArray w (fun e w => e = .returned (.int .i64 r) ∧ St w s (R)) := by
  refine enter Try.func43 rfl rfl rfl fun a hE => ?_
  rw [Fishref2ShiftsFault] at hr
  refine W.seq ?_
  refine W.region ?_
  refine WL.vS hS hE (runs_plain rfl) (Gives.p hE rfl) rfl ?_; clear hE a; intro a hE
  refine WL.nil ?_
  refine W.seq ?_
  refine W.seq ?_
  refine W.region ?_
  refine WL.vS hS hE (runs_plain rfl) (Gives.p hE rfl) rfl ?_; clear hE a; intro a hE
  refine WL.vS hS hE (runs_plain rfl) (Gives.len hE rfl sl22) rfl ?_; clear hE a; intro a hE
  refine WL.vS hS hE (runs_plain rfl) (Gives.p hE rfl) rfl ?_; clear hE a; intro a hE
  refine WL.nil ?_
  refine W.cond hE rfl (fun hc51 => ?_) (fun hc51 => ?_)
  · replace hr := iteT hc51 hr
    refine W.seq ?_
    refine W.region ?_
    refine WL.vS hS hE (runs_plain rfl) (Gives.p hE rfl) rfl ?_; clear hE a; intro a hE
    refine WL.nil ?_
    refine W.ret ?_
    refine finG (fn := Try.f43) (rs := [.tmp 2]) (vs := [_]) hE rfl ⟨rfl, trivial⟩ ?_
    subst hr
    exact ⟨rfl, hS⟩
  · replace hr := iteF hc51 hr
    refine W.skip ?_
    refine W.seq ?_
    refine W.seq ?_
    refine W.region ?_
    refine WL.vS hS hE (runs_plain rfl) (Gives.p hE rfl) rfl ?_; clear hE a; intro a hE
    refine WL.vS hS hE (runs_plain rfl) (Gives.len hE rfl sl22) rfl ?_; clear hE a; intro a hE
    refine WL.vS hS hE (runs_plain rfl) (Gives.p hE rfl) rfl ?_; clear hE a; intro a hE
    refine WL.nil ?_
    obtain ⟨q53, hq52, hr⟩ := bndS hr
    refine W.cut (fun a w => (.next ()) = q53 ∧ Rep a 36 [] ∧ St w s (R)) ?_ ?_
    · refine W.block ?_
      refine W.loop (fun m a w => ∃ (rest56 : List FleetShift) (k54 : Nat), rest56.length = m ∧ x0.drop k54 = rest56 ∧ Fishref2ShiftsFault.loop1 rest56 = q53 ∧ Rep a 36 [(8, .slice a0 x0.length c0), (9, .int .i64 ((x0).length : Int)), (10, .int .i64 ((k54 : Nat) : Int))] ∧ St w s (R)) (m := x0.length) ⟨x0, 0, rfl, rfl, hq52, hE.pick _ ⟨rfl, rfl, rfl, trivial⟩, hS⟩ ?_
      clear hE hS a w hq52; rintro m60 a w ⟨rest56, k54, rfl, hd57, hq52, hE, hS⟩
      refine W.gen fun K63 hK63 => ?_
      rcases rest56 with _ | ⟨x55, rest56⟩
      · have hlt58 := drop_nil hd57
        refine W.seq ?_
        refine W.region ?_
        refine WL.vS hS hE (runs_plain rfl) (Gives.p hE rfl) rfl ?_; clear hE a; intro a hE
        refine WL.nil ?_
        refine W.seq ?_
        refine W.condF hE rfl (decide_eq_false (by omega)) ?_
        subst hK63
        refine W.exit rfl ?_
        exact ⟨hq52, hE.pick _ trivial, hS⟩
      · obtain ⟨hlt58, hx59, hd57⟩ := drop_cons hd57
        rw [Fishref2ShiftsFault.loop1] at hq52
        refine W.seq ?_
        refine W.region ?_
        refine WL.vS hS hE (runs_plain rfl) (Gives.p hE rfl) rfl ?_; clear hE a; intro a hE
        refine WL.nil ?_
        refine W.seq ?_
        refine W.condT hE rfl (decide_eq_true (by omega)) ?_
        refine W.skip ?_
        refine W.seq ?_
        refine W.block ?_
        refine W.seq ?_
        refine W.region ?_
        obtain ⟨cs64, hl65, hR66, hat67⟩ := h0.at hx59
        subst hR66
        refine WL.vS hS hE (runs_plain rfl) (Gives.idx hE k54 rfl rfl sl22 rfl hlt58 (h0.aok hlt58)) rfl ?_; clear hE a; intro a hE
        refine WL.vS hS hE (runs_plain rfl) (Gives.loadA hE rfl (fun w h => hat67 w _ h) ty126) rfl ?_; clear hE a; intro a hE
        refine WL.alloc hE hS (runs_plain rfl) zr126 rfl ?_; clear hE hS a w; intro b68 a w hE hS
        refine WL.storeI hE hS 0 rfl (FleetShift.cells x55) (runs_plain rfl) rfl rfl rfl ty126 rfl rfl rfl rfl ?_; clear hE hS a w; intro a w hE hS
        refine WL.nil ?_
        refine W.seq ?_
        refine W.seq ?_
        obtain ⟨q70, hq69, hq52⟩ := bndS hq52
        refine W.cut (fun a w => ∃ (q73 : Bool), q73 = q70 ∧ Rep a 36 [(4, .pointer (some ⟨b68, 0, none⟩)), (8, .slice a0 x0.length c0), (9, .int .i64 ((x0).length : Int)), (10, .int .i64 ((k54 : Nat) : Int)), (29, .bool q73)] ∧ St w s (pt b68 (.cells (FleetShift.cells x55).toArray 126 (0, 0)) :: R)) ?_ ?_
        · refine W.gen fun K74 hK74 => ?_
          refine W.region ?_
          refine WL.vS hS hE (runs_plain rfl) (Gives.fld hE rfl fl126_0) rfl ?_; clear hE a; intro a hE
          refine WL.vS hS hE (runs_plain rfl) (Gives.loadB hE 0 rfl rfl rfl ty3) rfl ?_; clear hE a; intro a hE
          refine WL.fnq hE (Fishref2within_ok hS  rfl (r := Fishref2within x55.Day 0 6)) (runs_plain rfl) bd45 rfl rfl rfl ?_
          clear hE hS; rintro e w ⟨rfl, hS⟩; refine ⟨_, rfl, ?_⟩; clear a; intro a hE
          refine WL.vS hS hE (runs_plain rfl) (Gives.p hE rfl) rfl ?_; clear hE a; intro a hE
          refine WL.vS hS hE (runs_plain rfl) (Gives.p hE rfl) rfl ?_; clear hE a; intro a hE
          rcases Bool.eq_false_or_eq_true (!(Fishref2within x55.Day 0 6)) with hg75 | hg75
          · replace hq69 := iteT hg75 hq69
            refine WL.no hE (runs_not hE rfl rfl rfl (by rw [hg75]; decide)) rfl ?_; clear hE a; intro a hE
            refine WL.no hE (runs_not hE rfl rfl rfl (by rw [hg75]; decide)) rfl ?_; clear hE a; intro a hE
            refine WL.no hE (runs_not hE rfl rfl rfl (by rw [hg75]; decide)) rfl ?_; clear hE a; intro a hE
            refine WL.no hE (runs_not hE rfl rfl rfl (by rw [hg75]; decide)) rfl ?_; clear hE a; intro a hE
            refine WL.vS hS hE (runs_plain rfl) (Gives.pickT hE rfl hg75 rfl) rfl ?_; clear hE a; intro a hE
            refine WL.vS hS hE (runs_plain rfl) (Gives.p hE rfl) rfl ?_; clear hE a; intro a hE
            refine WL.no hE (runs_not hE rfl rfl rfl (by decide)) rfl ?_; clear hE a; intro a hE
            refine WL.no hE (runs_not hE rfl rfl rfl (by decide)) rfl ?_; clear hE a; intro a hE
            refine WL.no hE (runs_not hE rfl rfl rfl (by decide)) rfl ?_; clear hE a; intro a hE
            refine WL.no hE (runs_not hE rfl rfl rfl (by decide)) rfl ?_; clear hE a; intro a hE
            refine WL.vS hS hE (runs_plain rfl) (Gives.pickT hE rfl rfl rfl) rfl ?_; clear hE a; intro a hE
            refine WL.nil ?_
            subst hK74
            exact ⟨true, hq69, hE.pick _ ⟨rfl, rfl, rfl, rfl, rfl, trivial⟩, hS⟩
          · replace hq69 := iteF hg75 hq69
            refine WL.vS hS hE (runs_if hE rfl rfl rfl hg75) (Gives.fld hE rfl fl126_1) rfl ?_; clear hE a; intro a hE
            refine WL.vS hS hE (runs_if hE rfl rfl rfl hg75) (Gives.loadB hE 0 rfl rfl rfl ty3) rfl ?_; clear hE a; intro a hE
            refine WL.fnq hE (Fishref2within_ok hS  rfl (r := Fishref2within x55.Start 0 28800)) (runs_if hE rfl rfl rfl hg75) bd45 rfl rfl rfl ?_
            clear hE hS; rintro e w ⟨rfl, hS⟩; refine ⟨_, rfl, ?_⟩; clear a; intro a hE
            refine WL.vS hS hE (runs_if hE rfl rfl rfl hg75) (Gives.p hE rfl) rfl ?_; clear hE a; intro a hE
            refine WL.vS hS hE (runs_plain rfl) (Gives.pickF hE rfl hg75 rfl) rfl ?_; clear hE a; intro a hE
            refine WL.vS hS hE (runs_plain rfl) (Gives.p hE rfl) rfl ?_; clear hE a; intro a hE
            rcases Bool.eq_false_or_eq_true (!(Fishref2within x55.Start 0 28800)) with hg76 | hg76
            · replace hq69 := iteT hg76 hq69
              refine WL.no hE (runs_not hE rfl rfl rfl (by rw [hg76]; decide)) rfl ?_; clear hE a; intro a hE
              refine WL.no hE (runs_not hE rfl rfl rfl (by rw [hg76]; decide)) rfl ?_; clear hE a; intro a hE
              refine WL.no hE (runs_not hE rfl rfl rfl (by rw [hg76]; decide)) rfl ?_; clear hE a; intro a hE
              refine WL.no hE (runs_not hE rfl rfl rfl (by rw [hg76]; decide)) rfl ?_; clear hE a; intro a hE
              refine WL.vS hS hE (runs_plain rfl) (Gives.pickT hE rfl hg76 rfl) rfl ?_; clear hE a; intro a hE
              refine WL.nil ?_
              subst hK74
              exact ⟨true, hq69, hE.pick _ ⟨rfl, rfl, rfl, rfl, rfl, trivial⟩, hS⟩
            · replace hq69 := iteF hg76 hq69
              refine WL.vS hS hE (runs_if hE rfl rfl rfl hg76) (Gives.fld hE rfl fl126_2) rfl ?_; clear hE a; intro a hE
              refine WL.vS hS hE (runs_if hE rfl rfl rfl hg76) (Gives.loadB hE 0 rfl rfl rfl ty3) rfl ?_; clear hE a; intro a hE
              refine WL.fnq hE (Fishref2within_ok hS  rfl (r := Fishref2within x55.End 0 28800)) (runs_if hE rfl rfl rfl hg76) bd45 rfl rfl rfl ?_
              clear hE hS; rintro e w ⟨rfl, hS⟩; refine ⟨_, rfl, ?_⟩; clear a; intro a hE
              refine WL.vS hS hE (runs_if hE rfl rfl rfl hg76) (Gives.p hE rfl) rfl ?_; clear hE a; intro a hE
              refine WL.vS hS hE (runs_plain rfl) (Gives.pickF hE rfl hg76 rfl) rfl ?_; clear hE a; intro a hE
              refine WL.nil ?_
              subst hK74
              exact ⟨!(Fishref2within x55.End 0 28800), hq69, hE.pick _ ⟨rfl, rfl, rfl, rfl, rfl, trivial⟩, hS⟩
        · clear hE hS a w; rintro a w ⟨q73, rfl, hE, hS⟩
          refine W.cond hE rfl (fun hc77 => ?_) (fun hc77 => ?_)
          · replace hq52 := iteT hc77 hq52
            refine W.seq ?_
            refine W.region ?_
            refine WL.vS hS hE (runs_plain rfl) (Gives.p hE rfl) rfl ?_; clear hE a; intro a hE
            refine WL.nil ?_
            refine W.ret ?_
            subst hK63
            rw [← hq52] at hr
            dsimp only at hr
            refine finG (fn := Try.f43) (rs := [.tmp 2]) (vs := [_]) hE rfl ⟨rfl, trivial⟩ ?_
            subst hr
            replace hS := hS.tail
            exact ⟨rfl, hS⟩
          · replace hq52 := iteF hc77 hq52
            refine W.skip ?_
            refine W.seq ?_
            refine W.region ?_
            refine WL.vS hS hE (runs_plain rfl) (Gives.fld hE rfl fl126_2) rfl ?_; clear hE a; intro a hE
            refine WL.vS hS hE (runs_plain rfl) (Gives.loadB hE 0 rfl rfl rfl ty3) rfl ?_; clear hE a; intro a hE
            refine WL.vS hS hE (runs_plain rfl) (Gives.fld hE rfl fl126_1) rfl ?_; clear hE a; intro a hE
            refine WL.vS hS hE (runs_plain rfl) (Gives.loadB hE 0 rfl rfl rfl ty3) rfl ?_; clear hE a; intro a hE
            refine WL.vS hS hE (runs_plain rfl) (Gives.p hE rfl) rfl ?_; clear hE a; intro a hE
            refine WL.nil ?_
            refine W.cond hE rfl (fun hc78 => ?_) (fun hc78 => ?_)
            · replace hq52 := iteT hc78 hq52
              refine W.seq ?_
              refine W.region ?_
              refine WL.vS hS hE (runs_plain rfl) (Gives.p hE rfl) rfl ?_; clear hE a; intro a hE
              refine WL.nil ?_
              refine W.ret ?_
              subst hK63
              rw [← hq52] at hr
              dsimp only at hr
              refine finG (fn := Try.f43) (rs := [.tmp 2]) (vs := [_]) hE rfl ⟨rfl, trivial⟩ ?_
              subst hr
              replace hS := hS.tail
              exact ⟨rfl, hS⟩
            · replace hq52 := iteF hc78 hq52
              refine W.skip ?_
              refine W.region ?_
              refine WL.vS hS hE (runs_plain rfl) (Gives.inc hE rfl (by have := h0.small; omega)) rfl ?_; clear hE a; intro a hE
              refine WL.vS hS hE (runs_plain rfl) (Gives.p hE rfl) rfl ?_; clear hE a; intro a hE
              refine WL.nil ?_
              replace hS := hS.tail
              subst hK63
              exact ⟨rest56.length, Nat.lt_succ_self _, rest56, k54 + 1, rfl, hd57, hq52, hE.pick _ ⟨rfl, rfl, rfl, trivial⟩, hS⟩
    · clear hE hS a w; rintro a w ⟨rfl, hE, hS⟩
      dsimp only at hr
      refine W.seq ?_
      refine W.region ?_
      refine WL.vS hS hE (runs_plain rfl) (Gives.p hE rfl) rfl ?_; clear hE a; intro a hE
      refine WL.nil ?_
      refine W.ret ?_
      refine finG (fn := Try.f43) (rs := [.tmp 2]) (vs := [_]) hE rfl ⟨rfl, trivial⟩ ?_
      subst hr
      exact ⟨rfl, hS⟩
set_option maxHeartbeats 8000000 in
theorem Fishref2LimitsFault_ok  {w : World} {s : Sg} {R : List HP} {x0 : FleetLimits} (hS : St w s (R))  {r : Int} (hr : Fishref2LimitsFault x0 = r) :
    Calls Try.prog 44 [.agg (FleetLimits.cells x0).toArray].toArray w (fun e w => e = .returned (.int .i64 r) ∧ St w s (R)) := by
  refine enter Try.func44 rfl rfl rfl fun a hE => ?_
  rw [Fishref2LimitsFault] at hr
  refine W.seq ?_
  refine W.region ?_
  refine WL.box hE hS (runs_plain rfl) rfl rfl rfl ?_; clear hE hS a w; intro b51 a w hE hS
  refine WL.vS hS hE (runs_plain rfl) (Gives.p hE rfl) rfl ?_; clear hE a; intro a hE
  refine WL.nil ?_
  refine W.seq ?_
  refine W.seq ?_
  refine W.region ?_
  refine WL.vS hS hE (runs_plain rfl) (Gives.fld hE rfl fl24_0) rfl ?_; clear hE a; intro a hE
  refine WL.vS hS hE (runs_plain rfl) (Gives.loadB hE 0 rfl rfl rfl ty3) rfl ?_; clear hE a; intro a hE
  refine WL.vS hS hE (runs_plain rfl) (Gives.fld hE rfl fl24_1) rfl ?_; clear hE a; intro a hE
  refine WL.vS hS hE (runs_plain rfl) (Gives.loadB hE 0 rfl rfl rfl ty3) rfl ?_; clear hE a; intro a hE
  refine WL.vS hS hE (runs_plain rfl) (Gives.fld hE rfl fl24_2) rfl ?_; clear hE a; intro a hE
  refine WL.vS hS hE (runs_plain rfl) (Gives.loadB hE 0 rfl rfl rfl ty3) rfl ?_; clear hE a; intro a hE
  refine WL.vS hS hE (runs_plain rfl) (Gives.fld hE rfl fl24_3) rfl ?_; clear hE a; intro a hE
  refine WL.vS hS hE (runs_plain rfl) (Gives.loadB hE 0 rfl rfl rfl ty3) rfl ?_; clear hE a; intro a hE
  refine WL.vS hS hE (runs_plain rfl) (Gives.fld hE rfl fl24_4) rfl ?_; clear hE a; intro a hE
  refine WL.vS hS hE (runs_plain rfl) (Gives.loadB hE 0 rfl rfl rfl ty3) rfl ?_; clear hE a; intro a hE
  refine WL.vS hS hE (runs_plain rfl) (Gives.fld hE rfl fl24_5) rfl ?_; clear hE a; intro a hE
  refine WL.vS hS hE (runs_plain rfl) (Gives.loadB hE 0 rfl rfl rfl ty3) rfl ?_; clear hE a; intro a hE
  refine WL.lit hE hS (e := 3) (es := 1) (vs := [(0, .int .i64 x0.Change), (1, .int .i64 x0.Long), (2, .int .i64 x0.Work), (3, .int .i64 x0.After), (4, .int .i64 x0.Break), (5, .int .i64 x0.Rest)]) (cs := [.int .i64 x0.Change, .int .i64 x0.Long, .int .i64 x0.Work, .int .i64 x0.After, .int .i64 x0.Break, .int .i64 x0.Rest]) (runs_plain rfl) rfl (by kernel_rfl) rfl ?_; clear hE hS a w; intro b52 a w hE hS
  replace hS := hS.ptVec (es := 1) (m := 6) rfl (by decide)
  have h54 : Ev 1 (RI .i64) s [.int .i64 x0.Change, .int .i64 x0.Long, .int .i64 x0.Work, .int .i64 x0.After, .int .i64 x0.Break, .int .i64 x0.Rest] [x0.Change, x0.Long, x0.Work, x0.After, x0.Break, x0.Rest] := (Ev.cons (c1 := [.int .i64 x0.Change]) rfl rfl (Ev.cons (c1 := [.int .i64 x0.Long]) rfl rfl (Ev.cons (c1 := [.int .i64 x0.Work]) rfl rfl (Ev.cons (c1 := [.int .i64 x0.After]) rfl rfl (Ev.cons (c1 := [.int .i64 x0.Break]) rfl rfl (Ev.cons (c1 := [.int .i64 x0.Rest]) rfl rfl (Ev.nil)))))))
  have hF := hS.fixD RI.mono 0 rfl h54 (rfl); clear hS; obtain ⟨s55, hle56, hS, h57⟩ := hF
  refine WL.vS hS hE (runs_plain rfl) (Gives.len hE rfl sl44) rfl ?_; clear hE a; intro a hE
  refine WL.vS hS hE (runs_plain rfl) (Gives.p hE rfl) rfl ?_; clear hE a; intro a hE
  refine WL.nil ?_
  obtain ⟨q59, hq58, hr⟩ := bndS hr
  refine W.cut (fun a w => (.next ()) = q59 ∧ Rep a 31 [(1, .pointer (some ⟨b51, 0, none⟩))] ∧ St w s55 (pt b51 (.cells (FleetLimits.cells x0).toArray 24 (0, 0)) :: R)) ?_ ?_
  · refine W.block ?_
    refine W.loop (fun m a w => ∃ (rest62 : List Int) (k60 : Nat), rest62.length = m ∧ [x0.Change, x0.Long, x0.Work, x0.After, x0.Break, x0.Rest].drop k60 = rest62 ∧ Fishref2LimitsFault.loop1 rest62 = q59 ∧ Rep a 31 [(1, .pointer (some ⟨b51, 0, none⟩)), (17, .slice (some ⟨b52, 0, none⟩) 6 6), (18, .int .i64 (([x0.Change, x0.Long, x0.Work, x0.After, x0.Break, x0.Rest]).length : Int)), (19, .int .i64 ((k60 : Nat) : Int))] ∧ St w s55 (pt b51 (.cells (FleetLimits.cells x0).toArray 24 (0, 0)) :: R)) (m := [x0.Change, x0.Long, x0.Work, x0.After, x0.Break, x0.Rest].length) ⟨[x0.Change, x0.Long, x0.Work, x0.After, x0.Break, x0.Rest], 0, rfl, rfl, hq58, hE.pick _ ⟨rfl, rfl, rfl, rfl, trivial⟩, hS⟩ ?_
    clear hE hS a w hq58; rintro m66 a w ⟨rest62, k60, rfl, hd63, hq58, hE, hS⟩
    refine W.gen fun K69 hK69 => ?_
    rcases rest62 with _ | ⟨x61, rest62⟩
    · have hlt64 := drop_nil hd63
      refine W.seq ?_
      refine W.region ?_
      refine WL.vS hS hE (runs_plain rfl) (Gives.p hE rfl) rfl ?_; clear hE a; intro a hE
      refine WL.nil ?_
      refine W.seq ?_
      refine W.condF hE rfl (decide_eq_false (by omega)) ?_
      subst hK69
      refine W.exit rfl ?_
      exact ⟨hq58, hE.pick _ ⟨rfl, trivial⟩, hS⟩
    · obtain ⟨hlt64, hx65, hd63⟩ := drop_cons hd63
      rw [Fishref2LimitsFault.loop1] at hq58
      refine W.seq ?_
      refine W.region ?_
      refine WL.vS hS hE (runs_plain rfl) (Gives.p hE rfl) rfl ?_; clear hE a; intro a hE
      refine WL.nil ?_
      refine W.seq ?_
      refine W.condT hE rfl (decide_eq_true (by omega)) ?_
      refine W.skip ?_
      refine W.seq ?_
      refine W.block ?_
      refine W.seq ?_
      refine W.region ?_
      obtain ⟨cs70, hl71, hR72, hat73⟩ := h57.at hx65
      subst hR72
      refine WL.vS hS hE (runs_plain rfl) (Gives.idx hE k60 rfl rfl sl44 rfl hlt64 (h57.aok hlt64)) rfl ?_; clear hE a; intro a hE
      refine WL.vS hS hE (runs_plain rfl) (Gives.load1 hE rfl (fun w h => hat73 w _ h) ty3) rfl ?_; clear hE a; intro a hE
      refine WL.vS hS hE (runs_plain rfl) (Gives.p hE rfl) rfl ?_; clear hE a; intro a hE
      refine WL.nil ?_
      refine W.seq ?_
      refine W.region ?_
      refine WL.vS hS hE (runs_plain rfl) (Gives.p hE rfl) rfl ?_; clear hE a; intro a hE
      refine WL.fnq hE (Fishref2within_ok hS  rfl (r := Fishref2within x61 0 86400)) (runs_plain rfl) bd45 rfl rfl rfl ?_
      clear hE hS; rintro e w ⟨rfl, hS⟩; refine ⟨_, rfl, ?_⟩; clear a; intro a hE
      refine WL.vS hS hE (runs_plain rfl) (Gives.p hE rfl) rfl ?_; clear hE a; intro a hE
      refine WL.nil ?_
      refine W.cond hE rfl (fun hc74 => ?_) (fun hc74 => ?_)
      · replace hq58 := iteT hc74 hq58
        refine W.seq ?_
        refine W.region ?_
        refine WL.vS hS hE (runs_plain rfl) (Gives.p hE rfl) rfl ?_; clear hE a; intro a hE
        refine WL.nil ?_
        refine W.ret ?_
        subst hK69
        rw [← hq58] at hr
        dsimp only at hr
        refine finG (fn := Try.f44) (rs := [.tmp 2]) (vs := [_]) hE rfl ⟨rfl, trivial⟩ ?_
        subst hr
        replace hS := hS.tail
        exact ⟨rfl, (hS.down hle56)⟩
      · replace hq58 := iteF hc74 hq58
        refine W.skip ?_
        refine W.region ?_
        refine WL.vS hS hE (runs_plain rfl) (Gives.inc hE rfl (by have := h57.small; omega)) rfl ?_; clear hE a; intro a hE
        refine WL.vS hS hE (runs_plain rfl) (Gives.p hE rfl) rfl ?_; clear hE a; intro a hE
        refine WL.nil ?_
        subst hK69
        exact ⟨rest62.length, Nat.lt_succ_self _, rest62, k60 + 1, rfl, hd63, hq58, hE.pick _ ⟨rfl, rfl, rfl, rfl, trivial⟩, hS⟩
  · clear hE hS a w; rintro a w ⟨rfl, hE, hS⟩
    dsimp only at hr
    refine W.seq ?_
    refine W.seq ?_
    refine W.region ?_
    refine WL.vS hS hE (runs_plain rfl) (Gives.fld hE rfl fl24_6) rfl ?_; clear hE a; intro a hE
    refine WL.vS hS hE (runs_plain rfl) (Gives.loadB hE 0 rfl rfl rfl ty3) rfl ?_; clear hE a; intro a hE
    refine WL.fnq hE (Fishref2within_ok hS  rfl (r := Fishref2within x0.Row 1 7)) (runs_plain rfl) bd45 rfl rfl rfl ?_
    clear hE hS; rintro e w ⟨rfl, hS⟩; refine ⟨_, rfl, ?_⟩; clear a; intro a hE
    refine WL.vS hS hE (runs_plain rfl) (Gives.p hE rfl) rfl ?_; clear hE a; intro a hE
    refine WL.nil ?_
    refine W.cond hE rfl (fun hc75 => ?_) (fun hc75 => ?_)
    · replace hr := iteT hc75 hr
      refine W.seq ?_
      refine W.region ?_
      refine WL.vS hS hE (runs_plain rfl) (Gives.p hE rfl) rfl ?_; clear hE a; intro a hE
      refine WL.nil ?_
      refine W.ret ?_
      refine finG (fn := Try.f44) (rs := [.tmp 2]) (vs := [_]) hE rfl ⟨rfl, trivial⟩ ?_
      subst hr
      replace hS := hS.tail
      exact ⟨rfl, (hS.down hle56)⟩
    · replace hr := iteF hc75 hr
      refine W.skip ?_
      refine W.seq ?_
      refine W.region ?_
      refine WL.vS hS hE (runs_plain rfl) (Gives.p hE rfl) rfl ?_; clear hE a; intro a hE
      refine WL.nil ?_
      refine W.ret ?_
      refine finG (fn := Try.f44) (rs := [.tmp 2]) (vs := [_]) hE rfl ⟨rfl, trivial⟩ ?_
      subst hr
      replace hS := hS.tail
      exact ⟨rfl, (hS.down hle56)⟩
set_option maxHeartbeats 8000000 in
theorem Fishref2given_ok  {w : World} {s : Sg} {R : List HP} {x0 : Int} {x1 : List Int} {a1 : Option Addr} {c1 : Nat} (hS : St w s (R)) (h1 : Sl 1 (RI .i64) s a1 c1 x1) {r : (List (List Int))} (hr : Fishref2given x0 x1 = some r) :
    Calls Try.prog 48 [.int .i64 x0, .slice a1 x1.length c1].toArray w (fun e w => ∃ (a0 : Option Addr) (c0 : Nat) (t : Sg), e = .returned (.slice a0 r.length c0) ∧ s.Le t ∧ Sl 1 (RL 1 (RI .i64)) t a0 c0 r ∧ St w t (R)) := by
  refine enter Try.func48 rfl rfl rfl fun a hE => ?_
  rw [Fishref2given] at hr
  refine W.seq ?_
  refine W.region ?_
  refine WL.vS hS hE (runs_plain rfl) (Gives.p hE rfl) rfl ?_; clear hE a; intro a hE
  refine WL.nil ?_
  refine W.seq ?_
  refine W.region ?_
  refine WL.vS hS hE (runs_plain rfl) (Gives.p hE rfl) rfl ?_; clear hE a; intro a hE
  obtain ⟨x51, hx52, hr⟩ := bindS hr
  refine WL.mkND (Rr := RI .i64) (Ti := 3) (es := 1) hE hS (runs_plain rfl) rfl rfl ap25 zr44 hx52 rfl ?_; clear hE hS a w; intro b53 ds54 a w h55 hE hS
  refine WL.vS hS hE (runs_plain rfl) (Gives.p hE rfl) rfl ?_; clear hE a; intro a hE
  refine WL.nil ?_
  refine W.seq ?_
  refine W.seq ?_
  refine W.region ?_
  refine WL.vS hS hE (runs_plain rfl) (Gives.p hE rfl) rfl ?_; clear hE a; intro a hE
  refine WL.vS hS hE (runs_plain rfl) (Gives.len hE rfl sl44) rfl ?_; clear hE a; intro a hE
  refine WL.vS hS hE (runs_plain rfl) (Gives.p hE rfl) rfl ?_; clear hE a; intro a hE
  refine WL.nil ?_
  obtain ⟨q58, hq57, hr⟩ := bindS hr
  refine W.cut (fun a w => ∃ (q68 : List (List Int)), ∃ (ds72 : List In), q68 = q58 ∧ NEv 1 (RI .i64) s ds72 q68 ∧ q68.length = x51.length ∧ Rep a 32 [(5, .slice (some ⟨b53, 0, none⟩) x51.length x51.length)] ∧ St w s (nestC 44 3 1 (some ⟨b53, 0, none⟩) x51.length x51.length ds72 :: R)) ?_ ?_
  · refine W.block ?_
    refine W.loop (fun m a w => ∃ (rest61 : List Int) (k59 : Nat), ∃ (q68 : List (List Int)), ∃ (ds72 : List In), rest61.length = m ∧ x1.drop k59 = rest61 ∧ Fishref2given.loop1 x0 rest61 k59 q68 = some q58 ∧ NEv 1 (RI .i64) s ds72 q68 ∧ q68.length = x51.length ∧ Rep a 32 [(0, .int .i64 x0), (5, .slice (some ⟨b53, 0, none⟩) x51.length x51.length), (10, .slice a1 x1.length c1), (11, .int .i64 ((x1).length : Int)), (12, .int .i64 ((k59 : Nat) : Int))] ∧ St w s (nestC 44 3 1 (some ⟨b53, 0, none⟩) x51.length x51.length ds72 :: R)) (m := x1.length) ⟨x1, 0, x51, ds54, rfl, rfl, hq57, h55, (rfl), hE.pick _ ⟨rfl, rfl, rfl, rfl, rfl, trivial⟩, hS⟩ ?_
    clear hE hS a w hq57; rintro m65 a w ⟨rest61, k59, q68, ds72, rfl, hd62, hq57, h73, hn74, hE, hS⟩
    refine W.gen fun K75 hK75 => ?_
    rcases rest61 with _ | ⟨x60, rest61⟩
    · have hlt63 := drop_nil hd62
      refine W.seq ?_
      refine W.region ?_
      refine WL.vS hS hE (runs_plain rfl) (Gives.p hE rfl) rfl ?_; clear hE a; intro a hE
      refine WL.nil ?_
      refine W.seq ?_
      refine W.condF hE rfl (decide_eq_false (by omega)) ?_
      subst hK75
      refine W.exit rfl ?_
      exact ⟨q68, ds72, Option.some.inj hq57, h73, hn74, hE.pick _ ⟨rfl, trivial⟩, hS⟩
    · obtain ⟨hlt63, hx64, hd62⟩ := drop_cons hd62
      rw [Fishref2given.loop1] at hq57
      refine W.seq ?_
      refine W.region ?_
      refine WL.vS hS hE (runs_plain rfl) (Gives.p hE rfl) rfl ?_; clear hE a; intro a hE
      refine WL.nil ?_
      refine W.seq ?_
      refine W.condT hE rfl (decide_eq_true (by omega)) ?_
      refine W.skip ?_
      refine W.seq ?_
      refine W.block ?_
      refine W.seq ?_
      refine W.region ?_
      refine WL.vS hS hE (runs_plain rfl) (Gives.p hE rfl) rfl ?_; clear hE a; intro a hE
      obtain ⟨cs76, hl77, hR78, hat79⟩ := h1.at hx64
      subst hR78
      refine WL.vS hS hE (runs_plain rfl) (Gives.idx hE k59 rfl rfl sl44 rfl hlt63 (h1.aok hlt63)) rfl ?_; clear hE a; intro a hE
      refine WL.vS hS hE (runs_plain rfl) (Gives.load1 hE rfl (fun w h => hat79 w _ h) ty3) rfl ?_; clear hE a; intro a hE
      refine WL.vS hS hE (runs_plain rfl) (Gives.p hE rfl) rfl ?_; clear hE a; intro a hE
      refine WL.vS hS hE (runs_plain rfl) (Gives.p hE rfl) rfl ?_; clear hE a; intro a hE
      refine WL.nil ?_
      refine W.seq ?_
      refine W.region ?_
      refine WL.vS hS hE (runs_plain rfl) (Gives.p hE rfl) rfl ?_; clear hE a; intro a hE
      refine WL.vS hS hE (runs_plain rfl) (Gives.p hE rfl) rfl ?_; clear hE a; intro a hE
      refine WL.vS hS hE (runs_plain rfl) (Gives.p hE rfl) rfl ?_; clear hE a; intro a hE
      refine WL.nil ?_
      obtain ⟨q81, hq80, hq57⟩ := bindS hq57
      refine W.cut (fun a w => ∃ (q84 : List (List Int)), ∃ (ds88 : List In), q84 = q81 ∧ NEv 1 (RI .i64) s ds88 q84 ∧ q84.length = x51.length ∧ Rep a 32 [(0, .int .i64 x0), (5, .slice (some ⟨b53, 0, none⟩) x51.length x51.length), (10, .slice a1 x1.length c1), (11, .int .i64 ((x1).length : Int)), (12, .int .i64 ((k59 : Nat) : Int))] ∧ St w s (nestC 44 3 1 (some ⟨b53, 0, none⟩) x51.length x51.length ds88 :: R)) ?_ ?_
      · refine W.gen fun K91 hK91 => ?_
        refine W.cond hE rfl (fun hc92 => ?_) (fun hc92 => ?_)
        · replace hq80 := iteT hc92 hq80
          refine W.region ?_
          refine WL.vS hS hE (runs_plain rfl) (Gives.p hE rfl) rfl ?_; clear hE a; intro a hE
          refine WL.vS hS hE (runs_plain rfl) (Gives.p hE rfl) rfl ?_; clear hE a; intro a hE
          refine WL.vS hS hE (runs_plain rfl) (Gives.p hE rfl) rfl ?_; clear hE a; intro a hE
          refine WL.vS hS hE (runs_plain rfl) (Gives.p hE rfl) rfl ?_; clear hE a; intro a hE
          obtain ⟨x93, hx94, hq80⟩ := bindS hq80
          obtain ⟨hi95, hlt96, hy97⟩ := gx_some hx94
          obtain ⟨a98, c99, cs100, hd101, hev102⟩ := h73.at hy97
          refine WL.vS hS hE (runs_plain rfl) (Gives.idx hE ((x60).toNat) rfl rfl sl25 hi95 (by have := hn74; omega) (hS.nAok 0 rfl (by have := hn74; omega : (x60).toNat < x51.length))) rfl ?_; clear hE a; intro a hE
          refine WL.vS hS hE (runs_plain rfl) (Gives.load1 (v := .slice a98 x93.length c99) hE rfl (fun w h => St.nSees h 0 rfl hd101) ty44) rfl ?_; clear hE a; intro a hE
          refine WL.vS hS hE (runs_plain rfl) (Gives.p hE rfl) rfl ?_; clear hE a; intro a hE
          refine WL.lit hE hS (e := 3) (es := 1) (vs := [(0, .int .i64 ((k59 : Nat) : Int))]) (cs := [.int .i64 ((k59 : Nat) : Int)]) (runs_plain rfl) rfl (by kernel_rfl) rfl ?_; clear hE hS a w; intro b103 a w hE hS
          replace hS := hS.borrowM 1 rfl hd101
          replace hS := hS.front 1 rfl
          obtain ⟨x105, hx106, hq80⟩ := bindS hq80
          refine WL.appD hE hS 0 (m := 1) (runs_plain rfl) rfl rfl rfl ap44 rfl hev102 (rfl) (xs := [((k59 : Nat) : Int)]) (Ev.cons (c1 := [.int .i64 ((k59 : Nat) : Int)]) rfl rfl (Ev.nil)) rfl rfl hx106 rfl ?_; clear hE hS a w; intro a107 c108 cs109 a w h110 hE hS
          obtain ⟨_, hx111, hq80⟩ := bindS hq80
          obtain ⟨h112, h113⟩ := ix_some hx111
          refine WL.vS hS hE (runs_plain rfl) (Gives.idx hE ((x60).toNat) rfl rfl sl25 h112 (by have := hn74; omega) (hS.hAok 1 rfl (by have := hn74; omega : (x60).toNat < x51.length))) rfl ?_; clear hE a; intro a hE
          obtain ⟨x114, hx115, hq80⟩ := bindS hq80
          refine WL.storeND hE hS 0 rfl (runs_plain rfl) rfl rfl ty44 h73 hn74 (by have := (sx_some hx115).1; omega) hx115 h110 (rfl) rfl ?_; clear hE hS a w; intro ds116 a w h117 hn118 hE hS
          refine WL.nil ?_
          subst hK91
          exact ⟨x114, ds116, Option.some.inj hq80, h117, hn118, hE.pick _ ⟨rfl, rfl, rfl, rfl, rfl, trivial⟩, hS⟩
        · replace hq80 := iteF hc92 hq80
          refine W.skip ?_
          subst hK91
          exact ⟨q68, ds72, Option.some.inj hq80, h73, hn74, hE.pick _ ⟨rfl, rfl, rfl, rfl, rfl, trivial⟩, hS⟩
      · clear hE hS a w; rintro a w ⟨q84, ds88, rfl, h89, hn90, hE, hS⟩
        refine W.region ?_
        refine WL.vS hS hE (runs_plain rfl) (Gives.inc hE rfl (by have := h1.small; omega)) rfl ?_; clear hE a; intro a hE
        refine WL.vS hS hE (runs_plain rfl) (Gives.p hE rfl) rfl ?_; clear hE a; intro a hE
        refine WL.nil ?_
        subst hK75
        exact ⟨rest61.length, Nat.lt_succ_self _, rest61, k59 + 1, q84, ds88, rfl, hd62, hq57, h89, hn90, hE.pick _ ⟨rfl, rfl, rfl, rfl, rfl, trivial⟩, hS⟩
  · clear hE hS a w; rintro a w ⟨q68, ds72, rfl, h73, hn74, hE, hS⟩
    refine W.seq ?_
    refine W.region ?_
    refine WL.vS hS hE (runs_plain rfl) (Gives.p hE rfl) rfl ?_; clear hE a; intro a hE
    refine WL.vS hS hE (runs_plain rfl) (Gives.p hE rfl) rfl ?_; clear hE a; intro a hE
    refine WL.nil ?_
    refine W.ret ?_
    have hF := hS.fixN RI.mono 0 rfl h73 hn74; clear hS; obtain ⟨s119, hle120, hS, h121⟩ := hF
    (try rw [← hn74] at hE)
    (try rw [← hn74] at hS)
    (try rw [← hn74] at h121)
    refine finG (fn := Try.f48) (rs := [.tmp 4]) (vs := [_]) hE rfl ⟨rfl, trivial⟩ ?_
    obtain rfl := Option.some.inj hr
    exact ⟨(some ⟨b53, 0, none⟩), q68.length, s119, rfl, hle120, h121, hS⟩
set_option maxHeartbeats 8000000 in
theorem Fishref2later_1_v1_ok  {w : World} {s : Sg} {R : List HP} {pb0 : Nat} {x0 : Int} {y0 : Int} (hS : St w s (pt pb0 (.cells #[.int .i64 y0] 3 (0, 0)) :: R))  {r : Int} (hr : Fishref2later_1_v1 x0 y0 = r) :
    Calls Try.prog 95 [.int .i64 x0, .pointer (some ⟨pb0, 0, none⟩)].toArray w (fun e w => e = .returned (.tuple #[]) ∧ St w s (pt pb0 (.cells #[.int .i64 r] 3 (0, 0)) :: R)) := by
  refine enter Try.func95 rfl rfl rfl fun a hE => ?_
  rw [Fishref2later_1_v1] at hr
  refine W.seq ?_
  obtain ⟨q53, hq52, hr⟩ := bndS hr
  refine W.cut (fun a w => ∃ (q56 : Bool), q56 = q53 ∧ Rep a 11 [(0, .int .i64 x0), (1, .pointer (some ⟨pb0, 0, none⟩)), (9, .bool q56)] ∧ St w s (pt pb0 (.cells #[.int .i64 y0] 3 (0, 0)) :: R)) ?_ ?_
  · refine W.gen fun K57 hK57 => ?_
    refine W.region ?_
    refine WL.vS hS hE (runs_plain rfl) (Gives.loadB hE 0 rfl rfl rfl ty3) rfl ?_; clear hE a; intro a hE
    refine WL.vS hS hE (runs_plain rfl) (Gives.p hE rfl) rfl ?_; clear hE a; intro a hE
    refine WL.vS hS hE (runs_plain rfl) (Gives.p hE rfl) rfl ?_; clear hE a; intro a hE
    rcases Bool.eq_false_or_eq_true (y0 == 0) with hg58 | hg58
    · replace hq52 := iteT hg58 hq52
      refine WL.no hE (runs_not hE rfl rfl rfl (by rw [hg58]; decide)) rfl ?_; clear hE a; intro a hE
      refine WL.no hE (runs_not hE rfl rfl rfl (by rw [hg58]; decide)) rfl ?_; clear hE a; intro a hE
      refine WL.no hE (runs_not hE rfl rfl rfl (by rw [hg58]; decide)) rfl ?_; clear hE a; intro a hE
      refine WL.vS hS hE (runs_plain rfl) (Gives.pickT hE rfl hg58 rfl) rfl ?_; clear hE a; intro a hE
      refine WL.nil ?_
      subst hK57
      exact ⟨true, hq52, hE.pick _ ⟨rfl, rfl, rfl, trivial⟩, hS⟩
    · replace hq52 := iteF hg58 hq52
      refine WL.vS hS hE (runs_if hE rfl rfl rfl hg58) (Gives.p hE rfl) rfl ?_; clear hE a; intro a hE
      refine WL.vS hS hE (runs_if hE rfl rfl rfl hg58) (Gives.loadB hE 0 rfl rfl rfl ty3) rfl ?_; clear hE a; intro a hE
      refine WL.vS hS hE (runs_if hE rfl rfl rfl hg58) (Gives.p hE rfl) rfl ?_; clear hE a; intro a hE
      refine WL.vS hS hE (runs_plain rfl) (Gives.pickF hE rfl hg58 rfl) rfl ?_; clear hE a; intro a hE
      refine WL.nil ?_
      subst hK57
      exact ⟨decide (x0 < y0), hq52, hE.pick _ ⟨rfl, rfl, rfl, trivial⟩, hS⟩
  · clear hE hS a w; rintro a w ⟨q56, rfl, hE, hS⟩
    obtain ⟨q60, hq59, hr⟩ := bndS hr
    refine W.cut (fun a w => ∃ (q63 : Int), q63 = q60 ∧ Rep a 11 [] ∧ St w s (pt pb0 (.cells #[.int .i64 q63] 3 (0, 0)) :: R)) ?_ ?_
    · refine W.gen fun K64 hK64 => ?_
      refine W.cond hE rfl (fun hc65 => ?_) (fun hc65 => ?_)
      · replace hq59 := iteT hc65 hq59
        refine W.region ?_
        refine WL.vS hS hE (runs_plain rfl) (Gives.p hE rfl) rfl ?_; clear hE a; intro a hE
        refine WL.storeI hE hS 0 rfl [.int .i64 x0] (runs_plain rfl) rfl rfl rfl ty3 rfl rfl rfl rfl ?_; clear hE hS a w; intro a w hE hS
        refine WL.nil ?_
        subst hK64
        exact ⟨x0, hq59, hE.pick _ trivial, hS⟩
      · replace hq59 := iteF hc65 hq59
        refine W.skip ?_
        subst hK64
        exact ⟨y0, hq59, hE.pick _ trivial, hS⟩
    · clear hE hS a w; rintro a w ⟨q63, rfl, hE, hS⟩
      refine finG (fn := Try.f95) (rs := []) (vs := []) hE rfl trivial ?_
      subst hr
      exact ⟨rfl, hS⟩
set_option maxHeartbeats 8000000 in
theorem Fishref2begins_ok  {w : World} {s : Sg} {R : List HP} {x0 : FleetShift} (hS : St w s (R))  {r : Int} (hr : Fishref2begins x0 = r) :
    Calls Try.prog 96 [.agg (FleetShift.cells x0).toArray].toArray w (fun e w => e = .returned (.int .i64 r) ∧ St w s (R)) := by
  refine enter Try.func96 rfl rfl rfl fun a hE => ?_
  rw [Fishref2begins] at hr
  refine W.seq ?_
  refine W.region ?_
  refine WL.box hE hS (runs_plain rfl) rfl rfl rfl ?_; clear hE hS a w; intro b51 a w hE hS
  refine WL.vS hS hE (runs_plain rfl) (Gives.p hE rfl) rfl ?_; clear hE a; intro a hE
  refine WL.nil ?_
  refine W.seq ?_
  refine W.region ?_
  refine WL.vS hS hE (runs_plain rfl) (Gives.fld hE rfl fl126_0) rfl ?_; clear hE a; intro a hE
  refine WL.vS hS hE (runs_plain rfl) (Gives.loadB hE 0 rfl rfl rfl ty3) rfl ?_; clear hE a; intro a hE
  refine WL.vS hS hE (runs_plain rfl) (Gives.p hE rfl) rfl ?_; clear hE a; intro a hE
  refine WL.vS hS hE (runs_plain rfl) (Gives.fld hE rfl fl126_1) rfl ?_; clear hE a; intro a hE
  refine WL.vS hS hE (runs_plain rfl) (Gives.loadB hE 0 rfl rfl rfl ty3) rfl ?_; clear hE a; intro a hE
  refine WL.vS hS hE (runs_plain rfl) (Gives.p hE rfl) rfl ?_; clear hE a; intro a hE
  refine WL.vS hS hE (runs_plain rfl) (Gives.p hE rfl) rfl ?_; clear hE a; intro a hE
  refine WL.nil ?_
  refine W.ret ?_
  refine finG (fn := Try.f96) (rs := [.tmp 2]) (vs := [_]) hE rfl ⟨rfl, trivial⟩ ?_
  subst hr
  replace hS := hS.tail
  exact ⟨rfl, hS⟩
set_option maxHeartbeats 8000000 in
theorem Fishref2ends_ok  {w : World} {s : Sg} {R : List HP} {x0 : FleetShift} (hS : St w s (R))  {r : Int} (hr : Fishref2ends x0 = r) :
    Calls Try.prog 97 [.agg (FleetShift.cells x0).toArray].toArray w (fun e w => e = .returned (.int .i64 r) ∧ St w s (R)) := by
  refine enter Try.func97 rfl rfl rfl fun a hE => ?_
  rw [Fishref2ends] at hr
  refine W.seq ?_
  refine W.region ?_
  refine WL.box hE hS (runs_plain rfl) rfl rfl rfl ?_; clear hE hS a w; intro b51 a w hE hS
  refine WL.vS hS hE (runs_plain rfl) (Gives.p hE rfl) rfl ?_; clear hE a; intro a hE
  refine WL.nil ?_
  refine W.seq ?_
  refine W.region ?_
  refine WL.vS hS hE (runs_plain rfl) (Gives.fld hE rfl fl126_0) rfl ?_; clear hE a; intro a hE
  refine WL.vS hS hE (runs_plain rfl) (Gives.loadB hE 0 rfl rfl rfl ty3) rfl ?_; clear hE a; intro a hE
  refine WL.vS hS hE (runs_plain rfl) (Gives.p hE rfl) rfl ?_; clear hE a; intro a hE
  refine WL.vS hS hE (runs_plain rfl) (Gives.fld hE rfl fl126_2) rfl ?_; clear hE a; intro a hE
  refine WL.vS hS hE (runs_plain rfl) (Gives.loadB hE 0 rfl rfl rfl ty3) rfl ?_; clear hE a; intro a hE
  refine WL.vS hS hE (runs_plain rfl) (Gives.p hE rfl) rfl ?_; clear hE a; intro a hE
  refine WL.vS hS hE (runs_plain rfl) (Gives.p hE rfl) rfl ?_; clear hE a; intro a hE
  refine WL.nil ?_
  refine W.ret ?_
  refine finG (fn := Try.f97) (rs := [.tmp 2]) (vs := [_]) hE rfl ⟨rfl, trivial⟩ ?_
  subst hr
  replace hS := hS.tail
  exact ⟨rfl, hS⟩
set_option maxHeartbeats 8000000 in
theorem Fishref2later_ok  {w : World} {s : Sg} {R : List HP} {x0 : List FleetShift} {a0 : Option Addr} {c0 : Nat} {x1 : List (List Int)} {a1 : Option Addr} {c1 : Nat} {x2 : FleetLimits} (hS : St w s (R)) (h0 : Sl 3 RFleetShift s a0 c0 x0) (h1 : Sl 1 (RL 1 (RI .i64)) s a1 c1 x1) {r : Int} (hr : Fishref2later x0 x1 x2 = some r) :
    Calls Try.prog 49 [.slice a0 x0.length c0, .slice a1 x1.length c1, .agg (FleetLimits.cells x2).toArray].toArray w (fun e w => e = .returned (.int .i64 r) ∧ St w s (R)) := by
  refine enter Try.func49 rfl rfl rfl fun a hE => ?_
  rw [Fishref2later] at hr
  refine W.seq ?_
  refine W.region ?_
  refine WL.box hE hS (runs_plain rfl) rfl rfl rfl ?_; clear hE hS a w; intro b51 a w hE hS
  refine WL.vS hS hE (runs_plain rfl) (Gives.p hE rfl) rfl ?_; clear hE a; intro a hE
  refine WL.nil ?_
  refine W.seq ?_
  refine W.region ?_
  refine WL.alloc hE hS (runs_plain rfl) zr3 rfl ?_; clear hE hS a w; intro b52 a w hE hS
  refine WL.storeI hE hS 0 rfl [.int .i64 0] (runs_plain rfl) rfl rfl rfl ty3 rfl rfl rfl rfl ?_; clear hE hS a w; intro a w hE hS
  refine WL.nil ?_
  refine W.seq ?_
  refine W.region ?_
  refine WL.vS hS hE (runs_plain rfl) (Gives.mkfn hE (vs := [.pointer (some ⟨b52, 0, none⟩)]) rfl) rfl ?_; clear hE a; intro a hE
  refine WL.vS hS hE (runs_plain rfl) (Gives.p hE rfl) rfl ?_; clear hE a; intro a hE
  refine WL.nil ?_
  refine W.seq ?_
  refine W.seq ?_
  refine W.region ?_
  refine WL.vS hS hE (runs_plain rfl) (Gives.p hE rfl) rfl ?_; clear hE a; intro a hE
  refine WL.vS hS hE (runs_plain rfl) (Gives.len hE rfl sl25) rfl ?_; clear hE a; intro a hE
  refine WL.vS hS hE (runs_plain rfl) (Gives.p hE rfl) rfl ?_; clear hE a; intro a hE
  refine WL.nil ?_
  obtain ⟨q54, hq53, hr⟩ := bindS hr
  refine W.cut (fun a w => ∃ (q64 : Int), q64 = q54 ∧ Rep a 114 [(7, .pointer (some ⟨b52, 0, none⟩))] ∧ St w s (pt b52 (.cells #[.int .i64 q64] 3 (0, 0)) :: pt b51 (.cells (FleetLimits.cells x2).toArray 24 (0, 0)) :: R)) ?_ ?_
  · refine W.block ?_
    refine W.loop (fun m a w => ∃ (rest57 : List (List Int)) (k55 : Nat), ∃ (q64 : Int), rest57.length = m ∧ x1.drop k55 = rest57 ∧ Fishref2later.loop1 x0 x2 rest57 q64 = some q54 ∧ Rep a 114 [(0, .slice a0 x0.length c0), (5, .pointer (some ⟨b51, 0, none⟩)), (7, .pointer (some ⟨b52, 0, none⟩)), (8, .func (.func 95) #[] #[.pointer (some ⟨b52, 0, none⟩)]), (21, .slice a1 x1.length c1), (22, .int .i64 ((x1).length : Int)), (23, .int .i64 ((k55 : Nat) : Int))] ∧ St w s (pt b52 (.cells #[.int .i64 q64] 3 (0, 0)) :: pt b51 (.cells (FleetLimits.cells x2).toArray 24 (0, 0)) :: R)) (m := x1.length) ⟨x1, 0, 0, rfl, rfl, hq53, hE.pick _ ⟨rfl, rfl, rfl, rfl, rfl, rfl, rfl, trivial⟩, hS⟩ ?_
    clear hE hS a w hq53; rintro m61 a w ⟨rest57, k55, q64, rfl, hd58, hq53, hE, hS⟩
    refine W.gen fun K65 hK65 => ?_
    rcases rest57 with _ | ⟨x56, rest57⟩
    · have hlt59 := drop_nil hd58
      refine W.seq ?_
      refine W.region ?_
      refine WL.vS hS hE (runs_plain rfl) (Gives.p hE rfl) rfl ?_; clear hE a; intro a hE
      refine WL.nil ?_
      refine W.seq ?_
      refine W.condF hE rfl (decide_eq_false (by omega)) ?_
      subst hK65
      refine W.exit rfl ?_
      exact ⟨q64, Option.some.inj hq53, hE.pick _ ⟨rfl, trivial⟩, hS⟩
    · obtain ⟨hlt59, hx60, hd58⟩ := drop_cons hd58
      rw [Fishref2later.loop1] at hq53
      refine W.seq ?_
      refine W.region ?_
      refine WL.vS hS hE (runs_plain rfl) (Gives.p hE rfl) rfl ?_; clear hE a; intro a hE
      refine WL.nil ?_
      refine W.seq ?_
      refine W.condT hE rfl (decide_eq_true (by omega)) ?_
      refine W.skip ?_
      refine W.seq ?_
      refine W.block ?_
      refine W.seq ?_
      refine W.region ?_
      obtain ⟨cs66, hl67, hR68, hat69⟩ := h1.at hx60
      obtain ⟨a70, c71, rfl, h72⟩ := hR68
      refine WL.vS hS hE (runs_plain rfl) (Gives.idx hE k55 rfl rfl sl25 rfl hlt59 (h1.aok hlt59)) rfl ?_; clear hE a; intro a hE
      refine WL.vS hS hE (runs_plain rfl) (Gives.load1 hE rfl (fun w h => hat69 w _ h) ty44) rfl ?_; clear hE a; intro a hE
      refine WL.vS hS hE (runs_plain rfl) (Gives.p hE rfl) rfl ?_; clear hE a; intro a hE
      refine WL.nil ?_
      refine W.seq ?_
      refine W.region ?_
      obtain ⟨x73, hx74, hq53⟩ := bindS hq53
      refine WL.mkD (Rr := RB) hE hS (runs_plain rfl) rfl rfl ap101 zr4 rfl hx74 rfl ?_; clear hE hS a w; intro b75 cs76 a w h77 hE hS
      refine WL.vS hS hE (runs_plain rfl) (Gives.p hE rfl) rfl ?_; clear hE a; intro a hE
      refine WL.nil ?_
      refine W.seq ?_
      refine W.seq ?_
      refine W.region ?_
      refine WL.vS hS hE (runs_plain rfl) (Gives.p hE rfl) rfl ?_; clear hE a; intro a hE
      refine WL.vS hS hE (runs_plain rfl) (Gives.len hE rfl sl44) rfl ?_; clear hE a; intro a hE
      refine WL.vS hS hE (runs_plain rfl) (Gives.p hE rfl) rfl ?_; clear hE a; intro a hE
      refine WL.nil ?_
      obtain ⟨q80, hq79, hq53⟩ := bindS hq53
      refine W.cut (fun a w => ∃ (q90 : List Bool), ∃ (q96 : Int), ∃ (cs94 : List Value), (q90, q96) = q80 ∧ Ev 1 RB s cs94 q90 ∧ q90.length = x73.length ∧ Rep a 114 [(0, .slice a0 x0.length c0), (5, .pointer (some ⟨b51, 0, none⟩)), (7, .pointer (some ⟨b52, 0, none⟩)), (8, .func (.func 95) #[] #[.pointer (some ⟨b52, 0, none⟩)]), (11, .slice (some ⟨b75, 0, none⟩) x73.length x73.length), (21, .slice a1 x1.length c1), (22, .int .i64 ((x1).length : Int)), (23, .int .i64 ((k55 : Nat) : Int))] ∧ St w s (vecC 4 1 (some ⟨b75, 0, none⟩) x73.length x73.length cs94 :: pt b52 (.cells #[.int .i64 q96] 3 (0, 0)) :: pt b51 (.cells (FleetLimits.cells x2).toArray 24 (0, 0)) :: R)) ?_ ?_
      · refine W.block ?_
        refine W.loop (fun m a w => ∃ (rest83 : List Int) (k81 : Nat), ∃ (q90 : List Bool), ∃ (q96 : Int), ∃ (cs94 : List Value), rest83.length = m ∧ x56.drop k81 = rest83 ∧ Fishref2later.loop2 x0 x2 x56 rest83 k81 q90 q96 = some q80 ∧ Ev 1 RB s cs94 q90 ∧ q90.length = x73.length ∧ Rep a 114 [(0, .slice a0 x0.length c0), (5, .pointer (some ⟨b51, 0, none⟩)), (7, .pointer (some ⟨b52, 0, none⟩)), (8, .func (.func 95) #[] #[.pointer (some ⟨b52, 0, none⟩)]), (10, .slice a70 x56.length c71), (11, .slice (some ⟨b75, 0, none⟩) x73.length x73.length), (21, .slice a1 x1.length c1), (22, .int .i64 ((x1).length : Int)), (23, .int .i64 ((k55 : Nat) : Int)), (28, .slice a70 x56.length c71), (29, .int .i64 ((x56).length : Int)), (30, .int .i64 ((k81 : Nat) : Int))] ∧ St w s (vecC 4 1 (some ⟨b75, 0, none⟩) x73.length x73.length cs94 :: pt b52 (.cells #[.int .i64 q96] 3 (0, 0)) :: pt b51 (.cells (FleetLimits.cells x2).toArray 24 (0, 0)) :: R)) (m := x56.length) ⟨x56, 0, x73, q64, cs76, rfl, rfl, hq79, h77, (rfl), hE.pick _ ⟨rfl, rfl, rfl, rfl, rfl, rfl, rfl, rfl, rfl, rfl, rfl, rfl, trivial⟩, hS⟩ ?_
        clear hE hS a w hq79; rintro m87 a w ⟨rest83, k81, q90, q96, cs94, rfl, hd84, hq79, h93, hn95, hE, hS⟩
        refine W.gen fun K97 hK97 => ?_
        rcases rest83 with _ | ⟨x82, rest83⟩
        · have hlt85 := drop_nil hd84
          refine W.seq ?_
          refine W.region ?_
          refine WL.vS hS hE (runs_plain rfl) (Gives.p hE rfl) rfl ?_; clear hE a; intro a hE
          refine WL.nil ?_
          refine W.seq ?_
          refine W.condF hE rfl (decide_eq_false (by omega)) ?_
          subst hK97
          refine W.exit rfl ?_
          exact ⟨q90, q96, cs94, Option.some.inj hq79, h93, hn95, hE.pick _ ⟨rfl, rfl, rfl, rfl, rfl, rfl, rfl, rfl, trivial⟩, hS⟩
        · obtain ⟨hlt85, hx86, hd84⟩ := drop_cons hd84
          rw [Fishref2later.loop2] at hq79
          refine W.seq ?_
          refine W.region ?_
          refine WL.vS hS hE (runs_plain rfl) (Gives.p hE rfl) rfl ?_; clear hE a; intro a hE
          refine WL.nil ?_
          refine W.seq ?_
          refine W.condT hE rfl (decide_eq_true (by omega)) ?_
          refine W.skip ?_
          refine W.seq ?_
          refine W.block ?_
          refine W.seq ?_
          refine W.region ?_
          refine WL.vS hS hE (runs_plain rfl) (Gives.p hE rfl) rfl ?_; clear hE a; intro a hE
          obtain ⟨cs98, hl99, hR100, hat101⟩ := h72.at hx86
          subst hR100
          refine WL.vS hS hE (runs_plain rfl) (Gives.idx hE k81 rfl rfl sl44 rfl hlt85 (h72.aok hlt85)) rfl ?_; clear hE a; intro a hE
          refine WL.vS hS hE (runs_plain rfl) (Gives.load1 hE rfl (fun w h => hat101 w _ h) ty3) rfl ?_; clear hE a; intro a hE
          refine WL.vS hS hE (runs_plain rfl) (Gives.p hE rfl) rfl ?_; clear hE a; intro a hE
          refine WL.vS hS hE (runs_plain rfl) (Gives.p hE rfl) rfl ?_; clear hE a; intro a hE
          refine WL.nil ?_
          refine W.seq ?_
          refine W.region ?_
          refine WL.vS hS hE (runs_plain rfl) (Gives.p hE rfl) rfl ?_; clear hE a; intro a hE
          refine WL.vS hS hE (runs_plain rfl) (Gives.p hE rfl) rfl ?_; clear hE a; intro a hE
          refine WL.vS hS hE (runs_plain rfl) (Gives.p hE rfl) rfl ?_; clear hE a; intro a hE
          obtain ⟨x102, hx103, hq79⟩ := bindS hq79
          obtain ⟨hi104, hlt105, hy106⟩ := gx_some hx103
          obtain ⟨cs107, hl108, hR109, hat110⟩ := h0.at hy106
          subst hR109
          refine WL.vS hS hE (runs_plain rfl) (Gives.idx hE (x82).toNat rfl rfl sl22 hi104 hlt105 (h0.aok hlt105)) rfl ?_; clear hE a; intro a hE
          refine WL.vS hS hE (runs_plain rfl) (Gives.fld hE rfl fl126_0) rfl ?_; clear hE a; intro a hE
          refine WL.vS hS hE (runs_plain rfl) (Gives.load1 hE rfl (fun w h => (hat110 w _ h).one rfl) ty3) rfl ?_; clear hE a; intro a hE
          obtain ⟨_, hx112, hq79⟩ := bindS hq79
          obtain ⟨h113, h114⟩ := ix_some hx112
          refine WL.vS hS hE (runs_plain rfl) (Gives.idx hE ((x102.Day).toNat) rfl rfl sl101 h113 (by have := hn95; omega) (hS.vecAok 0 rfl (by have := hn95; omega : (x102.Day).toNat < x73.length))) rfl ?_; clear hE a; intro a hE
          obtain ⟨x116, hx117, hq79⟩ := bindS hq79
          refine WL.setD hE hS 0 rfl (runs_plain rfl) rfl rfl (vs := [.bool true]) rfl ty4 rfl rfl rfl h93 hn95 (sx_some hx117).1 hx117 rfl rfl ?_; clear hE hS a w; intro cs118 a w h119 hn120 hE hS
          refine WL.nil ?_
          refine W.seq ?_
          refine W.region ?_
          refine WL.vS hS hE (runs_plain rfl) (Gives.p hE rfl) rfl ?_; clear hE a; intro a hE
          refine WL.vS hS hE (runs_plain rfl) (Gives.p hE rfl) rfl ?_; clear hE a; intro a hE
          refine WL.vS hS hE (runs_plain rfl) (Gives.inc hE rfl (by have := h72.small; omega)) rfl ?_; clear hE a; intro a hE
          obtain ⟨x121, hx122, hq79⟩ := bindS hq79
          obtain ⟨a123, c124, heq125, h126⟩ := h72.cut hx122
          obtain ⟨h127, h128, h129, _⟩ := cutl_some hx122
          refine WL.vS hS hE (runs_plain rfl) (Gives.slL hE sl44 rfl rfl h127 (by omega) (by simpa using heq125)) rfl ?_; clear hE a; intro a hE
          refine WL.vS hS hE (runs_plain rfl) (Gives.len hE rfl sl44) rfl ?_; clear hE a; intro a hE
          refine WL.vS hS hE (runs_plain rfl) (Gives.p hE rfl) rfl ?_; clear hE a; intro a hE
          refine WL.nil ?_
          obtain ⟨q131, hq130, hq79⟩ := bindS hq79
          refine W.cut (fun a w => ∃ (q141 : Int), q141 = q131 ∧ Rep a 114 [(0, .slice a0 x0.length c0), (5, .pointer (some ⟨b51, 0, none⟩)), (7, .pointer (some ⟨b52, 0, none⟩)), (8, .func (.func 95) #[] #[.pointer (some ⟨b52, 0, none⟩)]), (10, .slice a70 x56.length c71), (11, .slice (some ⟨b75, 0, none⟩) x73.length x73.length), (21, .slice a1 x1.length c1), (22, .int .i64 ((x1).length : Int)), (23, .int .i64 ((k55 : Nat) : Int)), (28, .slice a70 x56.length c71), (29, .int .i64 ((x56).length : Int)), (30, .int .i64 ((k81 : Nat) : Int))] ∧ St w s (vecC 4 1 (some ⟨b75, 0, none⟩) x73.length x73.length cs118 :: pt b52 (.cells #[.int .i64 q141] 3 (0, 0)) :: pt b51 (.cells (FleetLimits.cells x2).toArray 24 (0, 0)) :: R)) ?_ ?_
          · refine W.block ?_
            refine W.loop (fun m a w => ∃ (rest134 : List Int) (k132 : Nat), ∃ (q141 : Int), rest134.length = m ∧ x121.drop k132 = rest134 ∧ Fishref2later.loop3 x0 x2 x82 rest134 q141 = some q131 ∧ Rep a 114 [(0, .slice a0 x0.length c0), (5, .pointer (some ⟨b51, 0, none⟩)), (7, .pointer (some ⟨b52, 0, none⟩)), (8, .func (.func 95) #[] #[.pointer (some ⟨b52, 0, none⟩)]), (10, .slice a70 x56.length c71), (11, .slice (some ⟨b75, 0, none⟩) x73.length x73.length), (13, .int .i64 x82), (21, .slice a1 x1.length c1), (22, .int .i64 ((x1).length : Int)), (23, .int .i64 ((k55 : Nat) : Int)), (28, .slice a70 x56.length c71), (29, .int .i64 ((x56).length : Int)), (30, .int .i64 ((k81 : Nat) : Int)), (45, .slice a123 x121.length c124), (46, .int .i64 ((x121).length : Int)), (47, .int .i64 ((k132 : Nat) : Int))] ∧ St w s (vecC 4 1 (some ⟨b75, 0, none⟩) x73.length x73.length cs118 :: pt b52 (.cells #[.int .i64 q141] 3 (0, 0)) :: pt b51 (.cells (FleetLimits.cells x2).toArray 24 (0, 0)) :: R)) (m := x121.length) ⟨x121, 0, q96, rfl, rfl, hq130, hE.pick _ ⟨rfl, rfl, rfl, rfl, rfl, rfl, rfl, rfl, rfl, rfl, rfl, rfl, rfl, rfl, rfl, rfl, trivial⟩, hS⟩ ?_
            clear hE hS a w hq130; rintro m138 a w ⟨rest134, k132, q141, rfl, hd135, hq130, hE, hS⟩
            refine W.gen fun K142 hK142 => ?_
            rcases rest134 with _ | ⟨x133, rest134⟩
            · have hlt136 := drop_nil hd135
              refine W.seq ?_
              refine W.region ?_
              refine WL.vS hS hE (runs_plain rfl) (Gives.p hE rfl) rfl ?_; clear hE a; intro a hE
              refine WL.nil ?_
              refine W.seq ?_
              refine W.condF hE rfl (decide_eq_false (by omega)) ?_
              subst hK142
              refine W.exit rfl ?_
              exact ⟨q141, Option.some.inj hq130, hE.pick _ ⟨rfl, rfl, rfl, rfl, rfl, rfl, rfl, rfl, rfl, rfl, rfl, rfl, trivial⟩, hS⟩
            · obtain ⟨hlt136, hx137, hd135⟩ := drop_cons hd135
              rw [Fishref2later.loop3] at hq130
              refine W.seq ?_
              refine W.region ?_
              refine WL.vS hS hE (runs_plain rfl) (Gives.p hE rfl) rfl ?_; clear hE a; intro a hE
              refine WL.nil ?_
              refine W.seq ?_
              refine W.condT hE rfl (decide_eq_true (by omega)) ?_
              refine W.skip ?_
              refine W.seq ?_
              refine W.block ?_
              refine W.seq ?_
              refine W.region ?_
              obtain ⟨cs143, hl144, hR145, hat146⟩ := h126.at hx137
              subst hR145
              refine WL.vS hS hE (runs_plain rfl) (Gives.idx hE k132 rfl rfl sl44 rfl hlt136 (h126.aok hlt136)) rfl ?_; clear hE a; intro a hE
              refine WL.vS hS hE (runs_plain rfl) (Gives.load1 hE rfl (fun w h => hat146 w _ h) ty3) rfl ?_; clear hE a; intro a hE
              refine WL.vS hS hE (runs_plain rfl) (Gives.p hE rfl) rfl ?_; clear hE a; intro a hE
              refine WL.nil ?_
              refine W.seq ?_
              refine W.seq ?_
              refine W.regionQ (C := fun w => St w s (vecC 4 1 (some ⟨b75, 0, none⟩) x73.length x73.length cs118 :: pt b52 (.cells #[.int .i64 q141] 3 (0, 0)) :: pt b51 (.cells (FleetLimits.cells x2).toArray 24 (0, 0)) :: R)) mixed (by kernel_rfl) hS.drew ?_
              refine QL.v hE (runs_plain rfl) (Gives.p hE rfl) rfl ?_; clear hE a; intro a hE
              refine QL.v hE (runs_plain rfl) (Gives.p hE rfl) rfl ?_; clear hE a; intro a hE
              obtain ⟨x147, hx148, hq130⟩ := bindS hq130
              obtain ⟨hi149, hlt150, hy151⟩ := gx_some hx148
              obtain ⟨cs152, hl153, hR154, hat155⟩ := h0.at hy151
              subst hR154
              refine QL.v hE (runs_plain rfl) (Gives.idx hE (x82).toNat rfl rfl sl22 hi149 hlt150 (h0.aok hlt150)) rfl ?_; clear hE a; intro a hE
              refine QL.v hE (runs_plain rfl) (Gives.fld hE rfl fl126_0) rfl ?_; clear hE a; intro a hE
              refine QL.v hE (runs_plain rfl) (Gives.load1 hE rfl (fun w h => (hat155 w _ h).one rfl) ty3) rfl ?_; clear hE a; intro a hE
              refine QL.v hE (runs_plain rfl) (Gives.p hE rfl) rfl ?_; clear hE a; intro a hE
              refine QL.v hE (runs_plain rfl) (Gives.p hE rfl) rfl ?_; clear hE a; intro a hE
              obtain ⟨x156, hx157, hq130⟩ := bindS hq130
              obtain ⟨hi158, hlt159, hy160⟩ := gx_some hx157
              obtain ⟨cs161, hl162, hR163, hat164⟩ := h0.at hy160
              subst hR163
              refine QL.v hE (runs_plain rfl) (Gives.idx hE (x133).toNat rfl rfl sl22 hi158 hlt159 (h0.aok hlt159)) rfl ?_; clear hE a; intro a hE
              refine QL.v hE (runs_plain rfl) (Gives.fld hE rfl fl126_0) rfl ?_; clear hE a; intro a hE
              refine QL.v hE (runs_plain rfl) (Gives.load1 hE rfl (fun w h => (hat164 w _ h).one rfl) ty3) rfl ?_; clear hE a; intro a hE
              refine QL.v hE (runs_plain rfl) (Gives.p hE rfl) rfl ?_; clear hE a; intro a hE
              refine QL.nil ?_; clear hS w; intro w hS
              refine W.cond hE rfl (fun hc165 => ?_) (fun hc165 => ?_)
              · replace hq130 := iteT hc165 hq130
                refine W.region ?_
                refine WL.vS hS hE (runs_plain rfl) (Gives.p hE rfl) rfl ?_; clear hE a; intro a hE
                obtain ⟨q166, hq167, hq130⟩ := bndS hq130
                replace hS := hS.front 1 rfl
                have hc_ := Fishref2later_1_v1_ok hS  hq167
                refine WL.fnw hE (hc_) rfl (runs_plain rfl) bd95 rfl rfl rfl ?_
                clear hE hS hc_; rintro e w ⟨rfl, hS⟩; refine ⟨_, rfl, ?_⟩; clear a; intro a hE
                refine WL.nil ?_
                refine W.seq ?_
                refine W.regionQ (C := fun w => St w s (pt b52 (.cells #[.int .i64 q166] 3 (0, 0)) :: vecC 4 1 (some ⟨b75, 0, none⟩) x73.length x73.length cs118 :: pt b51 (.cells (FleetLimits.cells x2).toArray 24 (0, 0)) :: R)) mixed (by kernel_rfl) hS.drew ?_
                refine QL.v hE (runs_plain rfl) (Gives.p hE rfl) rfl ?_; clear hE a; intro a hE
                refine QL.v hE (runs_plain rfl) (Gives.p hE rfl) rfl ?_; clear hE a; intro a hE
                obtain ⟨x168, hx169, hq130⟩ := bindS hq130
                obtain ⟨hi170, hlt171, hy172⟩ := gx_some hx169
                obtain ⟨cs173, hl174, hR175, hat176⟩ := h0.at hy172
                subst hR175
                refine QL.v hE (runs_plain rfl) (Gives.idx hE (x133).toNat rfl rfl sl22 hi170 hlt171 (h0.aok hlt171)) rfl ?_; clear hE a; intro a hE
                refine QL.v hE (runs_plain rfl) (Gives.loadA hE rfl (fun w h => hat176 w _ h) ty126) rfl ?_; clear hE a; intro a hE
                refine QL.fnq hE (fun w hS => Fishref2begins_ok hS  rfl (r := Fishref2begins x168)) (runs_plain rfl) bd96 rfl rfl rfl ?_; clear hE a; intro a hE
                refine QL.v hE (runs_plain rfl) (Gives.p hE rfl) rfl ?_; clear hE a; intro a hE
                refine QL.v hE (runs_plain rfl) (Gives.p hE rfl) rfl ?_; clear hE a; intro a hE
                obtain ⟨x177, hx178, hq130⟩ := bindS hq130
                obtain ⟨hi179, hlt180, hy181⟩ := gx_some hx178
                obtain ⟨cs182, hl183, hR184, hat185⟩ := h0.at hy181
                subst hR184
                refine QL.v hE (runs_plain rfl) (Gives.idx hE (x82).toNat rfl rfl sl22 hi179 hlt180 (h0.aok hlt180)) rfl ?_; clear hE a; intro a hE
                refine QL.v hE (runs_plain rfl) (Gives.loadA hE rfl (fun w h => hat185 w _ h) ty126) rfl ?_; clear hE a; intro a hE
                refine QL.fnq hE (fun w hS => Fishref2ends_ok hS  rfl (r := Fishref2ends x177)) (runs_plain rfl) bd97 rfl rfl rfl ?_; clear hE a; intro a hE
                refine QL.v hE (runs_plain rfl) (Gives.p hE rfl) rfl ?_; clear hE a; intro a hE
                refine QL.v hE (runs_plain rfl) (Gives.p hE rfl) rfl ?_; clear hE a; intro a hE
                refine QL.v hE (runs_plain rfl) (Gives.p hE rfl) rfl ?_; clear hE a; intro a hE
                obtain ⟨x186, hx187, hq130⟩ := bindS hq130
                obtain ⟨hi188, hlt189, hy190⟩ := gx_some hx187
                obtain ⟨cs191, hl192, hR193, hat194⟩ := h0.at hy190
                subst hR193
                refine QL.v hE (runs_plain rfl) (Gives.idx hE (x82).toNat rfl rfl sl22 hi188 hlt189 (h0.aok hlt189)) rfl ?_; clear hE a; intro a hE
                refine QL.v hE (runs_plain rfl) (Gives.loadA hE rfl (fun w h => hat194 w _ h) ty126) rfl ?_; clear hE a; intro a hE
                refine QL.fnq hE (fun w hS => Fishref2begins_ok hS  rfl (r := Fishref2begins x186)) (runs_plain rfl) bd96 rfl rfl rfl ?_; clear hE a; intro a hE
                refine QL.v hE (runs_plain rfl) (Gives.p hE rfl) rfl ?_; clear hE a; intro a hE
                refine QL.v hE (runs_plain rfl) (Gives.p hE rfl) rfl ?_; clear hE a; intro a hE
                obtain ⟨x195, hx196, hq130⟩ := bindS hq130
                obtain ⟨hi197, hlt198, hy199⟩ := gx_some hx196
                obtain ⟨cs200, hl201, hR202, hat203⟩ := h0.at hy199
                subst hR202
                refine QL.v hE (runs_plain rfl) (Gives.idx hE (x133).toNat rfl rfl sl22 hi197 hlt198 (h0.aok hlt198)) rfl ?_; clear hE a; intro a hE
                refine QL.v hE (runs_plain rfl) (Gives.loadA hE rfl (fun w h => hat203 w _ h) ty126) rfl ?_; clear hE a; intro a hE
                refine QL.fnq hE (fun w hS => Fishref2ends_ok hS  rfl (r := Fishref2ends x195)) (runs_plain rfl) bd97 rfl rfl rfl ?_; clear hE a; intro a hE
                refine QL.v hE (runs_plain rfl) (Gives.p hE rfl) rfl ?_; clear hE a; intro a hE
                refine QL.v hE (runs_plain rfl) (Gives.max2 hE rfl rfl) rfl ?_; clear hE a; intro a hE
                refine QL.v hE (runs_plain rfl) (Gives.p hE rfl) rfl ?_; clear hE a; intro a hE
                refine QL.nil ?_; clear hS w; intro w hS
                refine W.seq ?_
                refine W.region ?_
                refine WL.vS hS hE (runs_plain rfl) (Gives.p hE rfl) rfl ?_; clear hE a; intro a hE
                refine WL.vS hS hE (runs_plain rfl) (Gives.fld hE rfl fl24_5) rfl ?_; clear hE a; intro a hE
                refine WL.vS hS hE (runs_plain rfl) (Gives.loadB hE 2 rfl rfl rfl ty3) rfl ?_; clear hE a; intro a hE
                refine WL.vS hS hE (runs_plain rfl) (Gives.p hE rfl) rfl ?_; clear hE a; intro a hE
                refine WL.nil ?_
                refine W.cond hE rfl (fun hc204 => ?_) (fun hc204 => ?_)
                · replace hq130 := iteT hc204 hq130
                  refine W.region ?_
                  refine WL.vS hS hE (runs_plain rfl) (Gives.p hE rfl) rfl ?_; clear hE a; intro a hE
                  obtain ⟨q205, hq206, hq130⟩ := bndS hq130
                  have hc_ := Fishref2later_1_v1_ok hS  hq206
                  refine WL.fnw hE (hc_) rfl (runs_plain rfl) bd95 rfl rfl rfl ?_
                  clear hE hS hc_; rintro e w ⟨rfl, hS⟩; refine ⟨_, rfl, ?_⟩; clear a; intro a hE
                  refine WL.nil ?_
                  refine W.region ?_
                  refine WL.vS hS hE (runs_plain rfl) (Gives.inc hE rfl (by have := h126.small; omega)) rfl ?_; clear hE a; intro a hE
                  refine WL.vS hS hE (runs_plain rfl) (Gives.p hE rfl) rfl ?_; clear hE a; intro a hE
                  refine WL.nil ?_
                  replace hS := hS.front 2 rfl
                  replace hS := hS.front 1 rfl
                  replace hS := hS.front 2 rfl
                  subst hK142
                  exact ⟨rest134.length, Nat.lt_succ_self _, rest134, k132 + 1, q205, rfl, hd135, hq130, hE.pick _ ⟨rfl, rfl, rfl, rfl, rfl, rfl, rfl, rfl, rfl, rfl, rfl, rfl, rfl, rfl, rfl, rfl, trivial⟩, hS⟩
                · replace hq130 := iteF hc204 hq130
                  refine W.skip ?_
                  refine W.region ?_
                  refine WL.vS hS hE (runs_plain rfl) (Gives.inc hE rfl (by have := h126.small; omega)) rfl ?_; clear hE a; intro a hE
                  refine WL.vS hS hE (runs_plain rfl) (Gives.p hE rfl) rfl ?_; clear hE a; intro a hE
                  refine WL.nil ?_
                  replace hS := hS.front 2 rfl
                  replace hS := hS.front 1 rfl
                  replace hS := hS.front 2 rfl
                  subst hK142
                  exact ⟨rest134.length, Nat.lt_succ_self _, rest134, k132 + 1, q166, rfl, hd135, hq130, hE.pick _ ⟨rfl, rfl, rfl, rfl, rfl, rfl, rfl, rfl, rfl, rfl, rfl, rfl, rfl, rfl, rfl, rfl, trivial⟩, hS⟩
              · replace hq130 := iteF hc165 hq130
                refine W.skip ?_
                refine W.seq ?_
                refine W.regionQ (C := fun w => St w s (vecC 4 1 (some ⟨b75, 0, none⟩) x73.length x73.length cs118 :: pt b52 (.cells #[.int .i64 q141] 3 (0, 0)) :: pt b51 (.cells (FleetLimits.cells x2).toArray 24 (0, 0)) :: R)) mixed (by kernel_rfl) hS.drew ?_
                refine QL.v hE (runs_plain rfl) (Gives.p hE rfl) rfl ?_; clear hE a; intro a hE
                refine QL.v hE (runs_plain rfl) (Gives.p hE rfl) rfl ?_; clear hE a; intro a hE
                obtain ⟨x207, hx208, hq130⟩ := bindS hq130
                obtain ⟨hi209, hlt210, hy211⟩ := gx_some hx208
                obtain ⟨cs212, hl213, hR214, hat215⟩ := h0.at hy211
                subst hR214
                refine QL.v hE (runs_plain rfl) (Gives.idx hE (x133).toNat rfl rfl sl22 hi209 hlt210 (h0.aok hlt210)) rfl ?_; clear hE a; intro a hE
                refine QL.v hE (runs_plain rfl) (Gives.loadA hE rfl (fun w h => hat215 w _ h) ty126) rfl ?_; clear hE a; intro a hE
                refine QL.fnq hE (fun w hS => Fishref2begins_ok hS  rfl (r := Fishref2begins x207)) (runs_plain rfl) bd96 rfl rfl rfl ?_; clear hE a; intro a hE
                refine QL.v hE (runs_plain rfl) (Gives.p hE rfl) rfl ?_; clear hE a; intro a hE
                refine QL.v hE (runs_plain rfl) (Gives.p hE rfl) rfl ?_; clear hE a; intro a hE
                obtain ⟨x216, hx217, hq130⟩ := bindS hq130
                obtain ⟨hi218, hlt219, hy220⟩ := gx_some hx217
                obtain ⟨cs221, hl222, hR223, hat224⟩ := h0.at hy220
                subst hR223
                refine QL.v hE (runs_plain rfl) (Gives.idx hE (x82).toNat rfl rfl sl22 hi218 hlt219 (h0.aok hlt219)) rfl ?_; clear hE a; intro a hE
                refine QL.v hE (runs_plain rfl) (Gives.loadA hE rfl (fun w h => hat224 w _ h) ty126) rfl ?_; clear hE a; intro a hE
                refine QL.fnq hE (fun w hS => Fishref2ends_ok hS  rfl (r := Fishref2ends x216)) (runs_plain rfl) bd97 rfl rfl rfl ?_; clear hE a; intro a hE
                refine QL.v hE (runs_plain rfl) (Gives.p hE rfl) rfl ?_; clear hE a; intro a hE
                refine QL.v hE (runs_plain rfl) (Gives.p hE rfl) rfl ?_; clear hE a; intro a hE
                refine QL.v hE (runs_plain rfl) (Gives.p hE rfl) rfl ?_; clear hE a; intro a hE
                obtain ⟨x225, hx226, hq130⟩ := bindS hq130
                obtain ⟨hi227, hlt228, hy229⟩ := gx_some hx226
                obtain ⟨cs230, hl231, hR232, hat233⟩ := h0.at hy229
                subst hR232
                refine QL.v hE (runs_plain rfl) (Gives.idx hE (x82).toNat rfl rfl sl22 hi227 hlt228 (h0.aok hlt228)) rfl ?_; clear hE a; intro a hE
                refine QL.v hE (runs_plain rfl) (Gives.loadA hE rfl (fun w h => hat233 w _ h) ty126) rfl ?_; clear hE a; intro a hE
                refine QL.fnq hE (fun w hS => Fishref2begins_ok hS  rfl (r := Fishref2begins x225)) (runs_plain rfl) bd96 rfl rfl rfl ?_; clear hE a; intro a hE
                refine QL.v hE (runs_plain rfl) (Gives.p hE rfl) rfl ?_; clear hE a; intro a hE
                refine QL.v hE (runs_plain rfl) (Gives.p hE rfl) rfl ?_; clear hE a; intro a hE
                obtain ⟨x234, hx235, hq130⟩ := bindS hq130
                obtain ⟨hi236, hlt237, hy238⟩ := gx_some hx235
                obtain ⟨cs239, hl240, hR241, hat242⟩ := h0.at hy238
                subst hR241
                refine QL.v hE (runs_plain rfl) (Gives.idx hE (x133).toNat rfl rfl sl22 hi236 hlt237 (h0.aok hlt237)) rfl ?_; clear hE a; intro a hE
                refine QL.v hE (runs_plain rfl) (Gives.loadA hE rfl (fun w h => hat242 w _ h) ty126) rfl ?_; clear hE a; intro a hE
                refine QL.fnq hE (fun w hS => Fishref2ends_ok hS  rfl (r := Fishref2ends x234)) (runs_plain rfl) bd97 rfl rfl rfl ?_; clear hE a; intro a hE
                refine QL.v hE (runs_plain rfl) (Gives.p hE rfl) rfl ?_; clear hE a; intro a hE
                refine QL.v hE (runs_plain rfl) (Gives.max2 hE rfl rfl) rfl ?_; clear hE a; intro a hE
                refine QL.v hE (runs_plain rfl) (Gives.p hE rfl) rfl ?_; clear hE a; intro a hE
                refine QL.nil ?_; clear hS w; intro w hS
                refine W.seq ?_
                refine W.region ?_
                refine WL.vS hS hE (runs_plain rfl) (Gives.p hE rfl) rfl ?_; clear hE a; intro a hE
                refine WL.vS hS hE (runs_plain rfl) (Gives.fld hE rfl fl24_5) rfl ?_; clear hE a; intro a hE
                refine WL.vS hS hE (runs_plain rfl) (Gives.loadB hE 2 rfl rfl rfl ty3) rfl ?_; clear hE a; intro a hE
                refine WL.vS hS hE (runs_plain rfl) (Gives.p hE rfl) rfl ?_; clear hE a; intro a hE
                refine WL.nil ?_
                refine W.cond hE rfl (fun hc243 => ?_) (fun hc243 => ?_)
                · replace hq130 := iteT hc243 hq130
                  refine W.region ?_
                  refine WL.vS hS hE (runs_plain rfl) (Gives.p hE rfl) rfl ?_; clear hE a; intro a hE
                  obtain ⟨q244, hq245, hq130⟩ := bndS hq130
                  replace hS := hS.front 1 rfl
                  have hc_ := Fishref2later_1_v1_ok hS  hq245
                  refine WL.fnw hE (hc_) rfl (runs_plain rfl) bd95 rfl rfl rfl ?_
                  clear hE hS hc_; rintro e w ⟨rfl, hS⟩; refine ⟨_, rfl, ?_⟩; clear a; intro a hE
                  refine WL.nil ?_
                  refine W.region ?_
                  refine WL.vS hS hE (runs_plain rfl) (Gives.inc hE rfl (by have := h126.small; omega)) rfl ?_; clear hE a; intro a hE
                  refine WL.vS hS hE (runs_plain rfl) (Gives.p hE rfl) rfl ?_; clear hE a; intro a hE
                  refine WL.nil ?_
                  replace hS := hS.front 2 rfl
                  replace hS := hS.front 1 rfl
                  replace hS := hS.front 2 rfl
                  subst hK142
                  exact ⟨rest134.length, Nat.lt_succ_self _, rest134, k132 + 1, q244, rfl, hd135, hq130, hE.pick _ ⟨rfl, rfl, rfl, rfl, rfl, rfl, rfl, rfl, rfl, rfl, rfl, rfl, rfl, rfl, rfl, rfl, trivial⟩, hS⟩
                · replace hq130 := iteF hc243 hq130
                  refine W.skip ?_
                  refine W.region ?_
                  refine WL.vS hS hE (runs_plain rfl) (Gives.inc hE rfl (by have := h126.small; omega)) rfl ?_; clear hE a; intro a hE
                  refine WL.vS hS hE (runs_plain rfl) (Gives.p hE rfl) rfl ?_; clear hE a; intro a hE
                  refine WL.nil ?_
                  subst hK142
                  exact ⟨rest134.length, Nat.lt_succ_self _, rest134, k132 + 1, q141, rfl, hd135, hq130, hE.pick _ ⟨rfl, rfl, rfl, rfl, rfl, rfl, rfl, rfl, rfl, rfl, rfl, rfl, rfl, rfl, rfl, rfl, trivial⟩, hS⟩
          · clear hE hS a w; rintro a w ⟨q141, rfl, hE, hS⟩
            refine W.region ?_
            refine WL.vS hS hE (runs_plain rfl) (Gives.inc hE rfl (by have := h72.small; omega)) rfl ?_; clear hE a; intro a hE
            refine WL.vS hS hE (runs_plain rfl) (Gives.p hE rfl) rfl ?_; clear hE a; intro a hE
            refine WL.nil ?_
            subst hK97
            exact ⟨rest83.length, Nat.lt_succ_self _, rest83, k81 + 1, x116, q141, cs118, rfl, hd84, hq79, h119, hn120, hE.pick _ ⟨rfl, rfl, rfl, rfl, rfl, rfl, rfl, rfl, rfl, rfl, rfl, rfl, trivial⟩, hS⟩
      · clear hE hS a w; rintro a w ⟨q90, q96, cs94, rfl, h93, hn95, hE, hS⟩
        dsimp only at hq53
        refine W.seq ?_
        refine W.region ?_
        refine WL.vS hS hE (runs_plain rfl) (Gives.p hE rfl) rfl ?_; clear hE a; intro a hE
        refine WL.nil ?_
        refine W.seq ?_
        refine W.region ?_
        refine WL.vS hS hE (runs_plain rfl) (Gives.p hE rfl) rfl ?_; clear hE a; intro a hE
        refine WL.vS hS hE (runs_plain rfl) (Gives.len hE rfl sl101) rfl ?_; clear hE a; intro a hE
        refine WL.vS hS hE (runs_plain rfl) (Gives.p hE rfl) rfl ?_; clear hE a; intro a hE
        refine WL.nil ?_
        have hb257 : x73.length ≤ 9223372036854775807 := by have := hS.vecCap 0 rfl; unfold maxLen at this; omega
        obtain ⟨q247, hq246, hq53⟩ := bindS hq53
        refine W.cut (fun a w => ∃ (q258 : Int), ∃ (q259 : Int), (q258, q259) = q247 ∧ Rep a 114 [(0, .slice a0 x0.length c0), (5, .pointer (some ⟨b51, 0, none⟩)), (7, .pointer (some ⟨b52, 0, none⟩)), (8, .func (.func 95) #[] #[.pointer (some ⟨b52, 0, none⟩)]), (21, .slice a1 x1.length c1), (22, .int .i64 ((x1).length : Int)), (23, .int .i64 ((k55 : Nat) : Int))] ∧ St w s (vecC 4 1 (some ⟨b75, 0, none⟩) x73.length x73.length cs94 :: pt b52 (.cells #[.int .i64 q259] 3 (0, 0)) :: pt b51 (.cells (FleetLimits.cells x2).toArray 24 (0, 0)) :: R)) ?_ ?_
        · refine W.block ?_
          refine W.loop (fun m a w => ∃ (rest250 : Nat) (k248 : Nat), ∃ (q258 : Int), ∃ (q259 : Int), rest250 = m ∧ k248 + rest250 = x73.length ∧ Fishref2later.loop4 x2 q90 rest250 k248 q258 q259 = some q247 ∧ Rep a 114 [(0, .slice a0 x0.length c0), (5, .pointer (some ⟨b51, 0, none⟩)), (7, .pointer (some ⟨b52, 0, none⟩)), (8, .func (.func 95) #[] #[.pointer (some ⟨b52, 0, none⟩)]), (17, .int .i64 q258), (21, .slice a1 x1.length c1), (22, .int .i64 ((x1).length : Int)), (23, .int .i64 ((k55 : Nat) : Int)), (95, .slice (some ⟨b75, 0, none⟩) x73.length x73.length), (96, .int .i64 ((x73.length : Nat) : Int)), (97, .int .i64 ((k248 : Nat) : Int))] ∧ St w s (vecC 4 1 (some ⟨b75, 0, none⟩) x73.length x73.length cs94 :: pt b52 (.cells #[.int .i64 q259] 3 (0, 0)) :: pt b51 (.cells (FleetLimits.cells x2).toArray 24 (0, 0)) :: R)) (m := x73.length) ⟨x73.length, 0, 0, q96, rfl, by omega, hq246, hE.pick _ ⟨rfl, rfl, rfl, rfl, rfl, rfl, rfl, rfl, rfl, rfl, rfl, trivial⟩, hS⟩ ?_
          clear hE hS a w hq246; rintro m254 a w ⟨rest250, k248, q258, q259, rfl, hd251, hq246, hE, hS⟩
          refine W.gen fun K260 hK260 => ?_
          rcases rest250 with _ | rest250
          · skip
            refine W.seq ?_
            refine W.region ?_
            refine WL.vS hS hE (runs_plain rfl) (Gives.p hE rfl) rfl ?_; clear hE a; intro a hE
            refine WL.nil ?_
            refine W.seq ?_
            refine W.condF hE rfl (decide_eq_false (by omega)) ?_
            subst hK260
            refine W.exit rfl ?_
            exact ⟨q258, q259, Option.some.inj hq246, hE.pick _ ⟨rfl, rfl, rfl, rfl, rfl, rfl, rfl, trivial⟩, hS⟩
          · have hlt252 : k248 < x73.length := by omega
            rw [Fishref2later.loop4] at hq246
            refine W.seq ?_
            refine W.region ?_
            refine WL.vS hS hE (runs_plain rfl) (Gives.p hE rfl) rfl ?_; clear hE a; intro a hE
            refine WL.nil ?_
            refine W.seq ?_
            refine W.condT hE rfl (decide_eq_true (by omega)) ?_
            refine W.skip ?_
            refine W.seq ?_
            refine W.block ?_
            refine W.seq ?_
            refine W.region ?_
            obtain ⟨x261, hx262, hq246⟩ := bindS hq246
            obtain ⟨hi263, hlt264, hy265⟩ := gx_some hx262
            obtain ⟨vs266, hl267, hR268, hd269, hget270⟩ := h93.at hy265
            subst hR268
            refine WL.vS hS hE (runs_plain rfl) (Gives.idx hE ((((k248 : Nat) : Int)).toNat) rfl rfl sl101 hi263 (by have := hn95; omega) (hS.vecAok 0 rfl (by have := hn95; omega : (((k248 : Nat) : Int)).toNat < x73.length))) rfl ?_; clear hE a; intro a hE
            refine WL.vS hS hE (runs_plain rfl) (Gives.load1 hE rfl (fun w h => St.vecSees h 0 rfl ((((k248 : Nat) : Int)).toNat * 1) _ hget270) ty4) rfl ?_; clear hE a; intro a hE
            refine WL.vS hS hE (runs_plain rfl) (Gives.p hE rfl) rfl ?_; clear hE a; intro a hE
            refine WL.nil ?_
            refine W.seq ?_
            refine W.seq ?_
            refine W.region ?_
            refine WL.vS hS hE (runs_plain rfl) (Gives.p hE rfl) rfl ?_; clear hE a; intro a hE
            refine WL.vS hS hE (runs_plain rfl) (Gives.p hE rfl) rfl ?_; clear hE a; intro a hE
            refine WL.vS hS hE (runs_plain rfl) (Gives.p hE rfl) rfl ?_; clear hE a; intro a hE
            refine WL.nil ?_
            refine W.seq ?_
            refine W.region ?_
            refine WL.vS hS hE (runs_plain rfl) (Gives.p hE rfl) rfl ?_; clear hE a; intro a hE
            refine WL.vS hS hE (runs_plain rfl) (Gives.p hE rfl) rfl ?_; clear hE a; intro a hE
            refine WL.nil ?_
            obtain ⟨q272, hq271, hq246⟩ := bndS hq246
            refine W.cut (fun a w => ∃ (q275 : Int), q275 = q272 ∧ Rep a 114 [(0, .slice a0 x0.length c0), (5, .pointer (some ⟨b51, 0, none⟩)), (7, .pointer (some ⟨b52, 0, none⟩)), (8, .func (.func 95) #[] #[.pointer (some ⟨b52, 0, none⟩)]), (17, .int .i64 q275), (21, .slice a1 x1.length c1), (22, .int .i64 ((x1).length : Int)), (23, .int .i64 ((k55 : Nat) : Int)), (95, .slice (some ⟨b75, 0, none⟩) x73.length x73.length), (96, .int .i64 ((x73.length : Nat) : Int)), (97, .int .i64 ((k248 : Nat) : Int))] ∧ St w s (vecC 4 1 (some ⟨b75, 0, none⟩) x73.length x73.length cs94 :: pt b52 (.cells #[.int .i64 q259] 3 (0, 0)) :: pt b51 (.cells (FleetLimits.cells x2).toArray 24 (0, 0)) :: R)) ?_ ?_
            · refine W.gen fun K276 hK276 => ?_
              refine W.cond hE rfl (fun hc277 => ?_) (fun hc277 => ?_)
              · replace hq271 := iteT hc277 hq271
                refine W.region ?_
                refine WL.vS hS hE (runs_plain rfl) (Gives.p hE rfl) rfl ?_; clear hE a; intro a hE
                refine WL.nil ?_
                subst hK276
                exact ⟨0, hq271, hE.pick _ ⟨rfl, rfl, rfl, rfl, rfl, rfl, rfl, rfl, rfl, rfl, rfl, trivial⟩, hS⟩
              · replace hq271 := iteF hc277 hq271
                refine W.skip ?_
                subst hK276
                exact ⟨w64 (q258 + 1), hq271, hE.pick _ ⟨rfl, rfl, rfl, rfl, rfl, rfl, rfl, rfl, rfl, rfl, rfl, trivial⟩, hS⟩
            · clear hE hS a w; rintro a w ⟨q275, rfl, hE, hS⟩
              refine W.seq ?_
              refine W.region ?_
              refine WL.vS hS hE (runs_plain rfl) (Gives.p hE rfl) rfl ?_; clear hE a; intro a hE
              refine WL.vS hS hE (runs_plain rfl) (Gives.fld hE rfl fl24_6) rfl ?_; clear hE a; intro a hE
              refine WL.vS hS hE (runs_plain rfl) (Gives.loadB hE 2 rfl rfl rfl ty3) rfl ?_; clear hE a; intro a hE
              refine WL.vS hS hE (runs_plain rfl) (Gives.p hE rfl) rfl ?_; clear hE a; intro a hE
              refine WL.nil ?_
              refine W.cond hE rfl (fun hc278 => ?_) (fun hc278 => ?_)
              · replace hq246 := iteT hc278 hq246
                refine W.region ?_
                refine WL.vS hS hE (runs_plain rfl) (Gives.p hE rfl) rfl ?_; clear hE a; intro a hE
                obtain ⟨q279, hq280, hq246⟩ := bndS hq246
                replace hS := hS.front 1 rfl
                have hc_ := Fishref2later_1_v1_ok hS  hq280
                refine WL.fnw hE (hc_) rfl (runs_plain rfl) bd95 rfl rfl rfl ?_
                clear hE hS hc_; rintro e w ⟨rfl, hS⟩; refine ⟨_, rfl, ?_⟩; clear a; intro a hE
                refine WL.nil ?_
                refine W.region ?_
                refine WL.vS hS hE (runs_plain rfl) (Gives.inc hE rfl (by omega)) rfl ?_; clear hE a; intro a hE
                refine WL.vS hS hE (runs_plain rfl) (Gives.p hE rfl) rfl ?_; clear hE a; intro a hE
                refine WL.nil ?_
                replace hS := hS.front 2 rfl
                replace hS := hS.front 1 rfl
                replace hS := hS.front 2 rfl
                subst hK260
                exact ⟨rest250, Nat.lt_succ_self _, rest250, k248 + 1, q275, q279, rfl, (by omega), hq246, hE.pick _ ⟨rfl, rfl, rfl, rfl, rfl, rfl, rfl, rfl, rfl, rfl, rfl, trivial⟩, hS⟩
              · replace hq246 := iteF hc278 hq246
                refine W.skip ?_
                refine W.region ?_
                refine WL.vS hS hE (runs_plain rfl) (Gives.inc hE rfl (by omega)) rfl ?_; clear hE a; intro a hE
                refine WL.vS hS hE (runs_plain rfl) (Gives.p hE rfl) rfl ?_; clear hE a; intro a hE
                refine WL.nil ?_
                subst hK260
                exact ⟨rest250, Nat.lt_succ_self _, rest250, k248 + 1, q275, q259, rfl, (by omega), hq246, hE.pick _ ⟨rfl, rfl, rfl, rfl, rfl, rfl, rfl, rfl, rfl, rfl, rfl, trivial⟩, hS⟩
        · clear hE hS a w; rintro a w ⟨q258, q259, rfl, hE, hS⟩
          dsimp only at hq53
          refine W.region ?_
          refine WL.vS hS hE (runs_plain rfl) (Gives.inc hE rfl (by have := h1.small; omega)) rfl ?_; clear hE a; intro a hE
          refine WL.vS hS hE (runs_plain rfl) (Gives.p hE rfl) rfl ?_; clear hE a; intro a hE
          refine WL.nil ?_
          replace hS := hS.tail
          subst hK65
          exact ⟨rest57.length, Nat.lt_succ_self _, rest57, k55 + 1, q259, rfl, hd58, hq53, hE.pick _ ⟨rfl, rfl, rfl, rfl, rfl, rfl, rfl, trivial⟩, hS⟩
  · clear hE hS a w; rintro a w ⟨q64, rfl, hE, hS⟩
    refine W.seq ?_
    refine W.region ?_
    refine WL.vS hS hE (runs_plain rfl) (Gives.loadB hE 0 rfl rfl rfl ty3) rfl ?_; clear hE a; intro a hE
    refine WL.vS hS hE (runs_plain rfl) (Gives.p hE rfl) rfl ?_; clear hE a; intro a hE
    refine WL.nil ?_
    refine W.ret ?_
    refine finG (fn := Try.f49) (rs := [.tmp 6]) (vs := [_]) hE rfl ⟨rfl, trivial⟩ ?_
    obtain rfl := Option.some.inj hr
    replace hS := hS.tail
    replace hS := hS.tail
    exact ⟨rfl, hS⟩
set_option maxHeartbeats 8000000 in
theorem Fishref2LoadsOf_ok  {w : World} {s : Sg} {R : List HP} {x0 : List FleetShift} {a0 : Option Addr} {c0 : Nat} {x1 : List (List Int)} {a1 : Option Addr} {c1 : Nat} (hS : St w s (R)) (h0 : Sl 3 RFleetShift s a0 c0 x0) (h1 : Sl 1 (RL 1 (RI .i64)) s a1 c1 x1) {r : (List Int)} (hr : Fishref2LoadsOf x0 x1 = some r) :
    Calls Try.prog 51 [.slice a0 x0.length c0, .slice a1 x1.length c1].toArray w (fun e w => ∃ (a0 : Option Addr) (c0 n0 : Nat) (cs0 : List Value), e = .returned (.slice a0 n0 c0) ∧ Ev 1 (RI .i64) s cs0 r ∧ r.length = n0 ∧ St w s (vecC 3 1 a0 c0 n0 cs0 :: R)) := by
  refine enter Try.func51 rfl rfl rfl fun a hE => ?_
  rw [Fishref2LoadsOf] at hr
  refine W.seq ?_
  refine W.region ?_
  refine WL.vS hS hE (runs_plain rfl) (Gives.p hE rfl) rfl ?_; clear hE a; intro a hE
  refine WL.nil ?_
  refine W.seq ?_
  refine W.region ?_
  replace hS := hS.vecNil 3 1
  refine WL.vS hS hE (runs_plain rfl) (Gives.p hE rfl) rfl ?_; clear hE a; intro a hE
  refine WL.nil ?_
  refine W.seq ?_
  refine W.seq ?_
  refine W.region ?_
  refine WL.vS hS hE (runs_plain rfl) (Gives.p hE rfl) rfl ?_; clear hE a; intro a hE
  refine WL.vS hS hE (runs_plain rfl) (Gives.len hE rfl sl25) rfl ?_; clear hE a; intro a hE
  refine WL.vS hS hE (runs_plain rfl) (Gives.p hE rfl) rfl ?_; clear hE a; intro a hE
  refine WL.nil ?_
  obtain ⟨q53, hq52, hr⟩ := bindS hr
  refine W.cut (fun a w => ∃ (q63 : List Int), ∃ (a64 : Option Addr), ∃ (c65 : Nat), ∃ (n67 : Nat), ∃ (cs68 : List Value), q63 = q53 ∧ Ev 1 (RI .i64) s cs68 q63 ∧ q63.length = n67 ∧ Rep a 43 [(5, .slice a64 n67 c65)] ∧ St w s (vecC 3 1 a64 c65 n67 cs68 :: R)) ?_ ?_
  · refine W.block ?_
    refine W.loop (fun m a w => ∃ (rest56 : List (List Int)) (k54 : Nat), ∃ (q63 : List Int), ∃ (a64 : Option Addr), ∃ (c65 : Nat), ∃ (n67 : Nat), ∃ (cs68 : List Value), rest56.length = m ∧ x1.drop k54 = rest56 ∧ Fishref2LoadsOf.loop1 x0 rest56 q63 = some q53 ∧ Ev 1 (RI .i64) s cs68 q63 ∧ q63.length = n67 ∧ Rep a 43 [(0, .slice a0 x0.length c0), (5, .slice a64 n67 c65), (11, .slice a1 x1.length c1), (12, .int .i64 ((x1).length : Int)), (13, .int .i64 ((k54 : Nat) : Int))] ∧ St w s (vecC 3 1 a64 c65 n67 cs68 :: R)) (m := x1.length) ⟨x1, 0, [], none, 0, 0, [], rfl, rfl, hq52, (Ev.nil), (rfl), hE.pick _ ⟨rfl, rfl, rfl, rfl, rfl, trivial⟩, hS⟩ ?_
    clear hE hS a w hq52; rintro m60 a w ⟨rest56, k54, q63, a64, c65, n67, cs68, rfl, hd57, hq52, h66, rfl, hE, hS⟩
    refine W.gen fun K70 hK70 => ?_
    rcases rest56 with _ | ⟨x55, rest56⟩
    · have hlt58 := drop_nil hd57
      refine W.seq ?_
      refine W.region ?_
      refine WL.vS hS hE (runs_plain rfl) (Gives.p hE rfl) rfl ?_; clear hE a; intro a hE
      refine WL.nil ?_
      refine W.seq ?_
      refine W.condF hE rfl (decide_eq_false (by omega)) ?_
      subst hK70
      refine W.exit rfl ?_
      exact ⟨q63, a64, c65, q63.length, cs68, Option.some.inj hq52, h66, rfl, hE.pick _ ⟨rfl, trivial⟩, hS⟩
    · obtain ⟨hlt58, hx59, hd57⟩ := drop_cons hd57
      rw [Fishref2LoadsOf.loop1] at hq52
      refine W.seq ?_
      refine W.region ?_
      refine WL.vS hS hE (runs_plain rfl) (Gives.p hE rfl) rfl ?_; clear hE a; intro a hE
      refine WL.nil ?_
      refine W.seq ?_
      refine W.condT hE rfl (decide_eq_true (by omega)) ?_
      refine W.skip ?_
      refine W.seq ?_
      refine W.block ?_
      refine W.seq ?_
      refine W.region ?_
      obtain ⟨cs71, hl72, hR73, hat74⟩ := h1.at hx59
      obtain ⟨a75, c76, rfl, h77⟩ := hR73
      refine WL.vS hS hE (runs_plain rfl) (Gives.idx hE k54 rfl rfl sl25 rfl hlt58 (h1.aok hlt58)) rfl ?_; clear hE a; intro a hE
      refine WL.vS hS hE (runs_plain rfl) (Gives.load1 hE rfl (fun w h => hat74 w _ h) ty44) rfl ?_; clear hE a; intro a hE
      refine WL.vS hS hE (runs_plain rfl) (Gives.p hE rfl) rfl ?_; clear hE a; intro a hE
      refine WL.nil ?_
      refine W.seq ?_
      refine W.region ?_
      refine WL.vS hS hE (runs_plain rfl) (Gives.p hE rfl) rfl ?_; clear hE a; intro a hE
      refine WL.nil ?_
      refine W.seq ?_
      refine W.seq ?_
      refine W.region ?_
      refine WL.vS hS hE (runs_plain rfl) (Gives.p hE rfl) rfl ?_; clear hE a; intro a hE
      refine WL.vS hS hE (runs_plain rfl) (Gives.len hE rfl sl44) rfl ?_; clear hE a; intro a hE
      refine WL.vS hS hE (runs_plain rfl) (Gives.p hE rfl) rfl ?_; clear hE a; intro a hE
      refine WL.nil ?_
      obtain ⟨q79, hq78, hq52⟩ := bindS hq52
      refine W.cut (fun a w => ∃ (q89 : Int), q89 = q79 ∧ Rep a 43 [(0, .slice a0 x0.length c0), (5, .slice a64 q63.length c65), (8, .int .i64 q89), (11, .slice a1 x1.length c1), (12, .int .i64 ((x1).length : Int)), (13, .int .i64 ((k54 : Nat) : Int))] ∧ St w s (vecC 3 1 a64 c65 q63.length cs68 :: R)) ?_ ?_
      · refine W.block ?_
        refine W.loop (fun m a w => ∃ (rest82 : List Int) (k80 : Nat), ∃ (q89 : Int), rest82.length = m ∧ x55.drop k80 = rest82 ∧ Fishref2LoadsOf.loop2 x0 rest82 q89 = some q79 ∧ Rep a 43 [(0, .slice a0 x0.length c0), (5, .slice a64 q63.length c65), (8, .int .i64 q89), (11, .slice a1 x1.length c1), (12, .int .i64 ((x1).length : Int)), (13, .int .i64 ((k54 : Nat) : Int)), (17, .slice a75 x55.length c76), (18, .int .i64 ((x55).length : Int)), (19, .int .i64 ((k80 : Nat) : Int))] ∧ St w s (vecC 3 1 a64 c65 q63.length cs68 :: R)) (m := x55.length) ⟨x55, 0, 0, rfl, rfl, hq78, hE.pick _ ⟨rfl, rfl, rfl, rfl, rfl, rfl, rfl, rfl, rfl, trivial⟩, hS⟩ ?_
        clear hE hS a w hq78; rintro m86 a w ⟨rest82, k80, q89, rfl, hd83, hq78, hE, hS⟩
        refine W.gen fun K90 hK90 => ?_
        rcases rest82 with _ | ⟨x81, rest82⟩
        · have hlt84 := drop_nil hd83
          refine W.seq ?_
          refine W.region ?_
          refine WL.vS hS hE (runs_plain rfl) (Gives.p hE rfl) rfl ?_; clear hE a; intro a hE
          refine WL.nil ?_
          refine W.seq ?_
          refine W.condF hE rfl (decide_eq_false (by omega)) ?_
          subst hK90
          refine W.exit rfl ?_
          exact ⟨q89, Option.some.inj hq78, hE.pick _ ⟨rfl, rfl, rfl, rfl, rfl, rfl, trivial⟩, hS⟩
        · obtain ⟨hlt84, hx85, hd83⟩ := drop_cons hd83
          rw [Fishref2LoadsOf.loop2] at hq78
          refine W.seq ?_
          refine W.region ?_
          refine WL.vS hS hE (runs_plain rfl) (Gives.p hE rfl) rfl ?_; clear hE a; intro a hE
          refine WL.nil ?_
          refine W.seq ?_
          refine W.condT hE rfl (decide_eq_true (by omega)) ?_
          refine W.skip ?_
          refine W.seq ?_
          refine W.block ?_
          refine W.seq ?_
          refine W.region ?_
          obtain ⟨cs91, hl92, hR93, hat94⟩ := h77.at hx85
          subst hR93
          refine WL.vS hS hE (runs_plain rfl) (Gives.idx hE k80 rfl rfl sl44 rfl hlt84 (h77.aok hlt84)) rfl ?_; clear hE a; intro a hE
          refine WL.vS hS hE (runs_plain rfl) (Gives.load1 hE rfl (fun w h => hat94 w _ h) ty3) rfl ?_; clear hE a; intro a hE
          refine WL.vS hS hE (runs_plain rfl) (Gives.p hE rfl) rfl ?_; clear hE a; intro a hE
          refine WL.nil ?_
          refine W.regionQ (C := fun w => St w s (vecC 3 1 a64 c65 q63.length cs68 :: R)) mixed (by kernel_rfl) hS.drew ?_
          refine QL.v hE (runs_plain rfl) (Gives.p hE rfl) rfl ?_; clear hE a; intro a hE
          refine QL.v hE (runs_plain rfl) (Gives.p hE rfl) rfl ?_; clear hE a; intro a hE
          refine QL.v hE (runs_plain rfl) (Gives.p hE rfl) rfl ?_; clear hE a; intro a hE
          obtain ⟨x95, hx96, hq78⟩ := bindS hq78
          obtain ⟨hi97, hlt98, hy99⟩ := gx_some hx96
          obtain ⟨cs100, hl101, hR102, hat103⟩ := h0.at hy99
          subst hR102
          refine QL.v hE (runs_plain rfl) (Gives.idx hE (x81).toNat rfl rfl sl22 hi97 hlt98 (h0.aok hlt98)) rfl ?_; clear hE a; intro a hE
          refine QL.v hE (runs_plain rfl) (Gives.fld hE rfl fl126_2) rfl ?_; clear hE a; intro a hE
          refine QL.v hE (runs_plain rfl) (Gives.load1 hE rfl (fun w h => (hat103 w _ h).one rfl) ty3) rfl ?_; clear hE a; intro a hE
          refine QL.v hE (runs_plain rfl) (Gives.p hE rfl) rfl ?_; clear hE a; intro a hE
          refine QL.v hE (runs_plain rfl) (Gives.p hE rfl) rfl ?_; clear hE a; intro a hE
          obtain ⟨x104, hx105, hq78⟩ := bindS hq78
          obtain ⟨hi106, hlt107, hy108⟩ := gx_some hx105
          obtain ⟨cs109, hl110, hR111, hat112⟩ := h0.at hy108
          subst hR111
          refine QL.v hE (runs_plain rfl) (Gives.idx hE (x81).toNat rfl rfl sl22 hi106 hlt107 (h0.aok hlt107)) rfl ?_; clear hE a; intro a hE
          refine QL.v hE (runs_plain rfl) (Gives.fld hE rfl fl126_1) rfl ?_; clear hE a; intro a hE
          refine QL.v hE (runs_plain rfl) (Gives.load1 hE rfl (fun w h => (hat112 w _ h).one rfl) ty3) rfl ?_; clear hE a; intro a hE
          refine QL.v hE (runs_plain rfl) (Gives.p hE rfl) rfl ?_; clear hE a; intro a hE
          refine QL.v hE (runs_plain rfl) (Gives.p hE rfl) rfl ?_; clear hE a; intro a hE
          refine QL.v hE (runs_plain rfl) (Gives.p hE rfl) rfl ?_; clear hE a; intro a hE
          refine QL.nil ?_; clear hS w; intro w hS
          refine W.region ?_
          refine WL.vS hS hE (runs_plain rfl) (Gives.inc hE rfl (by have := h77.small; omega)) rfl ?_; clear hE a; intro a hE
          refine WL.vS hS hE (runs_plain rfl) (Gives.p hE rfl) rfl ?_; clear hE a; intro a hE
          refine WL.nil ?_
          subst hK90
          exact ⟨rest82.length, Nat.lt_succ_self _, rest82, k80 + 1, (w64 (q89 + (w64 (x95.End - x104.Start)))), rfl, hd83, hq78, hE.pick _ ⟨rfl, rfl, rfl, rfl, rfl, rfl, rfl, rfl, rfl, trivial⟩, hS⟩
      · clear hE hS a w; rintro a w ⟨q89, rfl, hE, hS⟩
        refine W.region ?_
        refine WL.vS hS hE (runs_plain rfl) (Gives.p hE rfl) rfl ?_; clear hE a; intro a hE
        refine WL.vS hS hE (runs_plain rfl) (Gives.p hE rfl) rfl ?_; clear hE a; intro a hE
        refine WL.lit hE hS (e := 3) (es := 1) (vs := [(0, .int .i64 q89)]) (cs := [.int .i64 q89]) (runs_plain rfl) rfl (by kernel_rfl) rfl ?_; clear hE hS a w; intro b113 a w hE hS
        obtain ⟨x114, hx115, hq52⟩ := bindS hq52
        refine WL.appD hE hS 0 (m := 1) (runs_plain rfl) rfl rfl rfl ap44 rfl h66 rfl (xs := [q89]) (Ev.cons (c1 := [.int .i64 q89]) rfl rfl (Ev.nil)) rfl rfl hx115 rfl ?_; clear hE hS a w; intro a116 c117 cs118 a w h119 hE hS
        refine WL.vS hS hE (runs_plain rfl) (Gives.p hE rfl) rfl ?_; clear hE a; intro a hE
        refine WL.nil ?_
        refine W.region ?_
        refine WL.vS hS hE (runs_plain rfl) (Gives.inc hE rfl (by have := h1.small; omega)) rfl ?_; clear hE a; intro a hE
        refine WL.vS hS hE (runs_plain rfl) (Gives.p hE rfl) rfl ?_; clear hE a; intro a hE
        refine WL.nil ?_
        subst hK70
        exact ⟨rest56.length, Nat.lt_succ_self _, rest56, k54 + 1, x114, a116, c117, x114.length, cs118, rfl, hd57, hq52, h119, (rfl), hE.pick _ ⟨rfl, rfl, rfl, rfl, rfl, trivial⟩, hS⟩
  · clear hE hS a w; rintro a w ⟨q63, a64, c65, n67, cs68, rfl, h66, rfl, hE, hS⟩
    refine W.seq ?_
    refine W.region ?_
    refine WL.vS hS hE (runs_plain rfl) (Gives.p hE rfl) rfl ?_; clear hE a; intro a hE
    refine WL.vS hS hE (runs_plain rfl) (Gives.p hE rfl) rfl ?_; clear hE a; intro a hE
    refine WL.nil ?_
    refine W.ret ?_
    refine finG (fn := Try.f51) (rs := [.tmp 4]) (vs := [_]) hE rfl ⟨rfl, trivial⟩ ?_
    obtain rfl := Option.some.inj hr
    exact ⟨a64, c65, q63.length, cs68, rfl, h66, rfl, hS⟩
set_option maxHeartbeats 8000000 in
theorem SlicesMaxLint_ok {fu : Nat}  {w : World} {s : Sg} {R : List HP} {x0 : List Int} {a0 : Option Addr} {c0 : Nat} (hS : St w s (R)) (h0 : Sl 1 (RI .i64) s a0 c0 x0) {r : Int} (hr : SlicesMaxLint fu x0 = some r) :
    Calls Try.prog 50 [.slice a0 x0.length c0].toArray w (fun e w => e = .returned (.int .i64 r) ∧ St w s (R)) := by
  refine enter Try.func50 rfl rfl rfl fun a hE => ?_
  rw [SlicesMaxLint] at hr
  refine W.seq ?_
  refine W.region ?_
  refine WL.vS hS hE (runs_plain rfl) (Gives.p hE rfl) rfl ?_; clear hE a; intro a hE
  refine WL.nil ?_
  refine W.seq ?_
  refine W.seq ?_
  refine W.region ?_
  refine WL.vS hS hE (runs_plain rfl) (Gives.p hE rfl) rfl ?_; clear hE a; intro a hE
  refine WL.vS hS hE (runs_plain rfl) (Gives.len hE rfl sl44) rfl ?_; clear hE a; intro a hE
  refine WL.vS hS hE (runs_plain rfl) (Gives.p hE rfl) rfl ?_; clear hE a; intro a hE
  refine WL.nil ?_
  refine W.cond hE rfl (fun hc51 => ?_) (fun hc51 => ?_)
  · replace hr := iteT hc51 hr
    refine W.region ?_
    exact absurd hr (by simp)
  · replace hr := iteF hc51 hr
    refine W.skip ?_
    refine W.seq ?_
    refine W.region ?_
    refine WL.vS hS hE (runs_plain rfl) (Gives.p hE rfl) rfl ?_; clear hE a; intro a hE
    obtain ⟨x52, hx53, hr⟩ := bindS hr
    obtain ⟨hi54, hlt55, hy56⟩ := gx_some hx53
    obtain ⟨cs57, hl58, hR59, hat60⟩ := h0.at hy56
    subst hR59
    refine WL.vS hS hE (runs_plain rfl) (Gives.idx hE ((0 : Int)).toNat rfl rfl sl44 hi54 hlt55 (h0.aok hlt55)) rfl ?_; clear hE a; intro a hE
    refine WL.vS hS hE (runs_plain rfl) (Gives.load1 hE rfl (fun w h => hat60 w _ h) ty3) rfl ?_; clear hE a; intro a hE
    refine WL.vS hS hE (runs_plain rfl) (Gives.p hE rfl) rfl ?_; clear hE a; intro a hE
    refine WL.nil ?_
    refine W.seq ?_
    refine W.seq ?_
    refine W.region ?_
    refine WL.vS hS hE (runs_plain rfl) (Gives.p hE rfl) rfl ?_; clear hE a; intro a hE
    refine WL.nil ?_
    obtain ⟨q62, hq61, hr⟩ := bindS hr
    refine W.cut (fun a w => ∃ (q67 : Int), ∃ (q68 : Int), (q67, q68) = q62 ∧ Rep a 25 [(3, .int .i64 q67)] ∧ St w s (R)) ?_ ?_
    · refine W.block ?_
      refine W.loop (fun m a w => ∃ (n63 : Nat), ∃ (q67 : Int), ∃ (q68 : Int), n63 = m ∧ SlicesMaxLint.loop1 x0 n63 q67 q68 = some q62 ∧ Rep a 25 [(0, .slice a0 x0.length c0), (3, .int .i64 q67), (4, .int .i64 q68)] ∧ St w s (R)) (m := fu) ⟨fu, x52, 1, rfl, hq61, hE.pick _ ⟨rfl, rfl, rfl, trivial⟩, hS⟩ ?_
      clear hE hS a w hq61; rintro m64 a w ⟨n63, q67, q68, rfl, hq61, hE, hS⟩
      refine W.gen fun K69 hK69 => ?_
      rcases n63 with _ | n63
      · rw [SlicesMaxLint.loop1] at hq61; exact absurd hq61 (by simp)
      rw [SlicesMaxLint.loop1] at hq61
      refine W.seq ?_
      refine W.seq ?_
      refine W.region ?_
      refine WL.vS hS hE (runs_plain rfl) (Gives.p hE rfl) rfl ?_; clear hE a; intro a hE
      refine WL.vS hS hE (runs_plain rfl) (Gives.p hE rfl) rfl ?_; clear hE a; intro a hE
      refine WL.vS hS hE (runs_plain rfl) (Gives.len hE rfl sl44) rfl ?_; clear hE a; intro a hE
      refine WL.vS hS hE (runs_plain rfl) (Gives.p hE rfl) rfl ?_; clear hE a; intro a hE
      refine WL.nil ?_
      refine W.cond hE rfl (fun hc70 => ?_) (fun hc70 => ?_)
      · replace hq61 := iteT hc70 hq61
        refine W.skip ?_
        refine W.seq ?_
        refine W.block ?_
        refine W.region ?_
        refine WL.vS hS hE (runs_plain rfl) (Gives.p hE rfl) rfl ?_; clear hE a; intro a hE
        refine WL.vS hS hE (runs_plain rfl) (Gives.p hE rfl) rfl ?_; clear hE a; intro a hE
        refine WL.vS hS hE (runs_plain rfl) (Gives.p hE rfl) rfl ?_; clear hE a; intro a hE
        obtain ⟨x71, hx72, hq61⟩ := bindS hq61
        obtain ⟨hi73, hlt74, hy75⟩ := gx_some hx72
        obtain ⟨cs76, hl77, hR78, hat79⟩ := h0.at hy75
        subst hR78
        refine WL.vS hS hE (runs_plain rfl) (Gives.idx hE (q68).toNat rfl rfl sl44 hi73 hlt74 (h0.aok hlt74)) rfl ?_; clear hE a; intro a hE
        refine WL.vS hS hE (runs_plain rfl) (Gives.load1 hE rfl (fun w h => hat79 w _ h) ty3) rfl ?_; clear hE a; intro a hE
        refine WL.vS hS hE (runs_plain rfl) (Gives.max2 hE rfl rfl) rfl ?_; clear hE a; intro a hE
        refine WL.vS hS hE (runs_plain rfl) (Gives.p hE rfl) rfl ?_; clear hE a; intro a hE
        refine WL.nil ?_
        refine W.region ?_
        refine WL.vS hS hE (runs_plain rfl) (Gives.p hE rfl) rfl ?_; clear hE a; intro a hE
        refine WL.vS hS hE (runs_plain rfl) (Gives.p hE rfl) rfl ?_; clear hE a; intro a hE
        refine WL.vS hS hE (runs_plain rfl) (Gives.p hE rfl) rfl ?_; clear hE a; intro a hE
        refine WL.nil ?_
        subst hK69
        exact ⟨n63, Nat.lt_succ_self _, n63, (mx q67 x71), (w64 (q68 + 1)), rfl, hq61, hE.pick _ ⟨rfl, rfl, rfl, trivial⟩, hS⟩
      · replace hq61 := iteF hc70 hq61
        subst hK69
        refine W.exit rfl ?_
        exact ⟨q67, q68, Option.some.inj hq61, hE.pick _ ⟨rfl, trivial⟩, hS⟩
    · clear hE hS a w; rintro a w ⟨q67, q68, rfl, hE, hS⟩
      dsimp only at hr
      refine W.seq ?_
      refine W.region ?_
      refine WL.vS hS hE (runs_plain rfl) (Gives.p hE rfl) rfl ?_; clear hE a; intro a hE
      refine WL.vS hS hE (runs_plain rfl) (Gives.p hE rfl) rfl ?_; clear hE a; intro a hE
      refine WL.nil ?_
      refine W.ret ?_
      refine finG (fn := Try.f50) (rs := [.tmp 2]) (vs := [_]) hE rfl ⟨rfl, trivial⟩ ?_
      obtain rfl := Option.some.inj hr
      exact ⟨rfl, hS⟩
set_option maxHeartbeats 8000000 in
theorem Fishref2RosterOf_1_v1_ok {fu : Nat}  {w : World} {s : Sg} {R : List HP} {pb0 : Nat} {pb1 : Nat} {pb2 : Nat} {pb3 : Nat} {pb4 : Nat} {x0 : List Int} {a0 : Option Addr} {c0 : Nat} {y0 : Int} {y1 : List FleetShift} {a_y1_0 : Option Addr} {c_y1_0 : Nat} {y2 : FleetLimits} {y3 : Int} {y4 : List (List Int)} {a_y4_0 : Option Addr} {c_y4_0 : Nat} (hS : St w s (pt pb0 (.cells #[.int .i64 y0] 3 (0, 0)) :: pt pb1 (.cells #[.slice a_y1_0 y1.length c_y1_0] 22 (0, 0)) :: pt pb2 (.cells #[.int .i64 y2.Change, .int .i64 y2.Long, .int .i64 y2.Work, .int .i64 y2.After, .int .i64 y2.Break, .int .i64 y2.Rest, .int .i64 y2.Row] 24 (0, 0)) :: pt pb3 (.cells #[.int .i64 y3] 3 (0, 0)) :: pt pb4 (.cells #[.slice a_y4_0 y4.length c_y4_0] 25 (0, 0)) :: R)) (h0 : Sl 1 (RI .i64) s a0 c0 x0) (h_y1_0 : Sl 3 RFleetShift s a_y1_0 c_y1_0 y1) (h_y4_0 : Sl 1 (RL 1 (RI .i64)) s a_y4_0 c_y4_0 y4) {r : Bool × Int × (List (List Int))} (hr : Fishref2RosterOf_1_v1 fu x0 y0 y1 y2 y3 y4 = some r) :
    Calls Try.prog 47 [.slice a0 x0.length c0, .pointer (some ⟨pb0, 0, none⟩), .pointer (some ⟨pb1, 0, none⟩), .pointer (some ⟨pb2, 0, none⟩), .pointer (some ⟨pb3, 0, none⟩), .pointer (some ⟨pb4, 0, none⟩)].toArray w (fun e w => ∃ (a58 : Option Addr) (c59 : Nat) (t : Sg), e = .returned (.bool r.1) ∧ s.Le t ∧ Sl 1 (RL 1 (RI .i64)) t a58 c59 r.2.2 ∧ St w t (pt pb0 (.cells #[.int .i64 y0] 3 (0, 0)) :: pt pb1 (.cells #[.slice a_y1_0 y1.length c_y1_0] 22 (0, 0)) :: pt pb2 (.cells #[.int .i64 y2.Change, .int .i64 y2.Long, .int .i64 y2.Work, .int .i64 y2.After, .int .i64 y2.Break, .int .i64 y2.Rest, .int .i64 y2.Row] 24 (0, 0)) :: pt pb3 (.cells #[.int .i64 r.2.1] 3 (0, 0)) :: pt pb4 (.cells #[.slice a58 r.2.2.length c59] 25 (0, 0)) :: R)) := by
  refine enter Try.func47 rfl rfl rfl fun a hE => ?_
  rw [Fishref2RosterOf_1_v1] at hr
  refine W.seq ?_
  refine W.region ?_
  refine WL.vS hS hE (runs_plain rfl) (Gives.p hE rfl) rfl ?_; clear hE a; intro a hE
  refine WL.nil ?_
  refine W.seq ?_
  refine W.region ?_
  refine WL.vS hS hE (runs_plain rfl) (Gives.loadB hE 0 rfl rfl rfl ty3) rfl ?_; clear hE a; intro a hE
  refine WL.vS hS hE (runs_plain rfl) (Gives.p hE rfl) rfl ?_; clear hE a; intro a hE
  obtain ⟨q61, hq62, hr⟩ := bindS hr
  have hc_ := Fishref2given_ok hS h0 hq62
  refine WL.fnq hE (hc_) (runs_plain rfl) bd48 rfl rfl rfl ?_
  clear hE hS hc_; rintro e w ⟨a63, c64, s66, rfl, hle67, h65, hS⟩; refine ⟨_, rfl, ?_⟩; clear a; intro a hE
  replace h0 := Sl.mono RI.mono hle67 h0
  replace h_y1_0 := Sl.mono RFleetShift.mono hle67 h_y1_0
  replace h_y4_0 := Sl.mono (RL.mono RI.mono) hle67 h_y4_0
  refine WL.vS hS hE (runs_plain rfl) (Gives.p hE rfl) rfl ?_; clear hE a; intro a hE
  refine WL.nil ?_
  refine W.seq ?_
  refine W.seq ?_
  refine W.region ?_
  refine WL.vS hS hE (runs_plain rfl) (Gives.loadB hE 1 rfl rfl rfl ty22) rfl ?_; clear hE a; intro a hE
  refine WL.vS hS hE (runs_plain rfl) (Gives.p hE rfl) rfl ?_; clear hE a; intro a hE
  refine WL.vS hS hE (runs_plain rfl) (Gives.loadBA hE 2 rfl rfl ty24) rfl ?_; clear hE a; intro a hE
  obtain ⟨q68, hq69, hr⟩ := bindS hr
  have hc_ := Fishref2later_ok hS h_y1_0 h65 hq69
  refine WL.fnq hE (hc_) (runs_plain rfl) bd49 rfl rfl rfl ?_
  clear hE hS hc_; rintro e w ⟨rfl, hS⟩; refine ⟨_, rfl, ?_⟩; clear a; intro a hE
  refine WL.vS hS hE (runs_plain rfl) (Gives.p hE rfl) rfl ?_; clear hE a; intro a hE
  refine WL.nil ?_
  refine W.cond hE rfl (fun hc70 => ?_) (fun hc70 => ?_)
  · replace hr := iteT hc70 hr
    refine W.seq ?_
    refine W.region ?_
    refine WL.vS hS hE (runs_plain rfl) (Gives.p hE rfl) rfl ?_; clear hE a; intro a hE
    refine WL.nil ?_
    refine W.ret ?_
    refine finG (fn := Try.f47) (rs := [.tmp 7]) (vs := [_]) hE rfl ⟨rfl, trivial⟩ ?_
    obtain rfl := Option.some.inj hr
    exact ⟨a_y4_0, c_y4_0, s66, rfl, hle67, h_y4_0, hS⟩
  · replace hr := iteF hc70 hr
    refine W.skip ?_
    refine W.seq ?_
    refine W.seq ?_
    refine W.region ?_
    refine WL.vS hS hE (runs_plain rfl) (Gives.loadB hE 1 rfl rfl rfl ty22) rfl ?_; clear hE a; intro a hE
    refine WL.vS hS hE (runs_plain rfl) (Gives.p hE rfl) rfl ?_; clear hE a; intro a hE
    obtain ⟨q71, hq72, hr⟩ := bindS hr
    have hc_ := Fishref2LoadsOf_ok hS h_y1_0 h65 hq72
    refine WL.fnq hE (hc_) (runs_plain rfl) bd51 rfl rfl rfl ?_
    clear hE hS hc_; rintro e w ⟨a73, c74, n75, cs76, rfl, h77, rfl, hS⟩; refine ⟨_, rfl, ?_⟩; clear a; intro a hE
    obtain ⟨q79, hq80, hr⟩ := bindS hr
    have hF := hS.lendV RI.mono 0 rfl h77 rfl; clear hS; obtain ⟨t81, hle82, hS, hs83, bk84⟩ := hF
    have hc_ := SlicesMaxLint_ok hS hs83 hq80
    refine WL.fnq hE (hc_) (runs_plain rfl) bd50 rfl rfl rfl ?_
    clear hE hS hc_; rintro e w ⟨rfl, hS⟩; refine ⟨_, rfl, ?_⟩; clear a; intro a hE
    replace hS := bk84 _ _ hS
    refine WL.vS hS hE (runs_plain rfl) (Gives.p hE rfl) rfl ?_; clear hE a; intro a hE
    refine WL.nil ?_
    refine W.seq ?_
    obtain ⟨q86, hq85, hr⟩ := bndS hr
    refine W.cut (fun a w => ∃ (q89 : Bool), q89 = q86 ∧ Rep a 31 [(4, .pointer (some ⟨pb3, 0, none⟩)), (5, .pointer (some ⟨pb4, 0, none⟩)), (8, .slice a63 q61.length c64), (9, .int .i64 q79), (28, .bool q89)] ∧ St w s66 (pt pb0 (.cells #[.int .i64 y0] 3 (0, 0)) :: pt pb1 (.cells #[.slice a_y1_0 y1.length c_y1_0] 22 (0, 0)) :: pt pb2 (.cells #[.int .i64 y2.Change, .int .i64 y2.Long, .int .i64 y2.Work, .int .i64 y2.After, .int .i64 y2.Break, .int .i64 y2.Rest, .int .i64 y2.Row] 24 (0, 0)) :: pt pb3 (.cells #[.int .i64 y3] 3 (0, 0)) :: pt pb4 (.cells #[.slice a_y4_0 y4.length c_y4_0] 25 (0, 0)) :: R)) ?_ ?_
    · refine W.gen fun K90 hK90 => ?_
      refine W.region ?_
      refine WL.vS hS hE (runs_plain rfl) (Gives.loadB hE 4 rfl rfl rfl ty3) rfl ?_; clear hE a; intro a hE
      refine WL.vS hS hE (runs_plain rfl) (Gives.p hE rfl) rfl ?_; clear hE a; intro a hE
      refine WL.vS hS hE (runs_plain rfl) (Gives.p hE rfl) rfl ?_; clear hE a; intro a hE
      rcases Bool.eq_false_or_eq_true (decide (y3 < 0)) with hg91 | hg91
      · replace hq85 := iteT hg91 hq85
        refine WL.no hE (runs_not hE rfl rfl rfl (by rw [hg91]; decide)) rfl ?_; clear hE a; intro a hE
        refine WL.no hE (runs_not hE rfl rfl rfl (by rw [hg91]; decide)) rfl ?_; clear hE a; intro a hE
        refine WL.no hE (runs_not hE rfl rfl rfl (by rw [hg91]; decide)) rfl ?_; clear hE a; intro a hE
        refine WL.vS hS hE (runs_plain rfl) (Gives.pickT hE rfl hg91 rfl) rfl ?_; clear hE a; intro a hE
        refine WL.nil ?_
        replace hS := hS.tail
        subst hK90
        exact ⟨true, hq85, hE.pick _ ⟨rfl, rfl, rfl, rfl, rfl, trivial⟩, hS⟩
      · replace hq85 := iteF hg91 hq85
        refine WL.vS hS hE (runs_if hE rfl rfl rfl hg91) (Gives.p hE rfl) rfl ?_; clear hE a; intro a hE
        refine WL.vS hS hE (runs_if hE rfl rfl rfl hg91) (Gives.loadB hE 4 rfl rfl rfl ty3) rfl ?_; clear hE a; intro a hE
        refine WL.vS hS hE (runs_if hE rfl rfl rfl hg91) (Gives.p hE rfl) rfl ?_; clear hE a; intro a hE
        refine WL.vS hS hE (runs_plain rfl) (Gives.pickF hE rfl hg91 rfl) rfl ?_; clear hE a; intro a hE
        refine WL.nil ?_
        replace hS := hS.tail
        subst hK90
        exact ⟨decide (q79 < y3), hq85, hE.pick _ ⟨rfl, rfl, rfl, rfl, rfl, trivial⟩, hS⟩
    · clear hE hS a w; rintro a w ⟨q89, rfl, hE, hS⟩
      obtain ⟨q93, hq92, hr⟩ := bndS hr
      refine W.cut (fun a w => ∃ (q96 : Int), ∃ (q97 : List (List Int)), ∃ (a98 : Option Addr), ∃ (c99 : Nat), (q96, q97) = q93 ∧ Sl 1 (RL 1 (RI .i64)) s66 a98 c99 q97 ∧ Rep a 31 [] ∧ St w s66 (pt pb0 (.cells #[.int .i64 y0] 3 (0, 0)) :: pt pb1 (.cells #[.slice a_y1_0 y1.length c_y1_0] 22 (0, 0)) :: pt pb2 (.cells #[.int .i64 y2.Change, .int .i64 y2.Long, .int .i64 y2.Work, .int .i64 y2.After, .int .i64 y2.Break, .int .i64 y2.Rest, .int .i64 y2.Row] 24 (0, 0)) :: pt pb3 (.cells #[.int .i64 q96] 3 (0, 0)) :: pt pb4 (.cells #[.slice a98 q97.length c99] 25 (0, 0)) :: R)) ?_ ?_
      · refine W.gen fun K101 hK101 => ?_
        refine W.cond hE rfl (fun hc102 => ?_) (fun hc102 => ?_)
        · replace hq92 := iteT hc102 hq92
          refine W.region ?_
          refine WL.vS hS hE (runs_plain rfl) (Gives.p hE rfl) rfl ?_; clear hE a; intro a hE
          refine WL.vS hS hE (runs_plain rfl) (Gives.p hE rfl) rfl ?_; clear hE a; intro a hE
          refine WL.storeI hE hS 4 rfl [.slice a63 q61.length c64] (runs_plain rfl) rfl rfl rfl ty25 rfl rfl rfl rfl ?_; clear hE hS a w; intro a w hE hS
          refine WL.storeI hE hS 3 rfl [.int .i64 q79] (runs_plain rfl) rfl rfl rfl ty3 rfl rfl rfl rfl ?_; clear hE hS a w; intro a w hE hS
          refine WL.nil ?_
          subst hK101
          exact ⟨q79, q61, a63, c64, hq92, h65, hE.pick _ trivial, hS⟩
        · replace hq92 := iteF hc102 hq92
          refine W.skip ?_
          subst hK101
          exact ⟨y3, y4, a_y4_0, c_y4_0, hq92, h_y4_0, hE.pick _ trivial, hS⟩
      · clear hE hS a w; rintro a w ⟨q96, q97, a98, c99, rfl, h100, hE, hS⟩
        dsimp only at hr
        refine W.seq ?_
        refine W.region ?_
        refine WL.vS hS hE (runs_plain rfl) (Gives.p hE rfl) rfl ?_; clear hE a; intro a hE
        refine WL.nil ?_
        refine W.ret ?_
        refine finG (fn := Try.f47) (rs := [.tmp 7]) (vs := [_]) hE rfl ⟨rfl, trivial⟩ ?_
        obtain rfl := Option.some.inj hr
        exact ⟨a98, c99, s66, rfl, hle67, h100, hS⟩
set_option maxHeartbeats 8000000 in
theorem Fishref2given_v1_ok  {w : World} {s : Sg} {R : List HP} {x0 : Int} {x1 : List Int} {a_v0 : Option Addr} {c_v0 n_v0 : Nat} {cs_v0 : List Value} (hS : St w s (vecC 3 1 a_v0 c_v0 n_v0 cs_v0 :: R)) (h_v0 : Ev 1 (RI .i64) s cs_v0 x1) (hn_v0 : x1.length = n_v0) {r : (List (List Int))} (hr : Fishref2given_v1 x0 x1 = some r) :
    Calls Try.prog 48 [.int .i64 x0, .slice a_v0 n_v0 c_v0].toArray w (fun e w => ∃ (a0 : Option Addr) (c0 : Nat) (t : Sg), e = .returned (.slice a0 r.length c0) ∧ s.Le t ∧ Sl 1 (RL 1 (RI .i64)) t a0 c0 r ∧ St w t (vecC 3 1 a_v0 c_v0 n_v0 cs_v0 :: R)) := by
  refine enter Try.func48 rfl rfl rfl fun a hE => ?_
  rw [Fishref2given_v1] at hr
  subst hn_v0
  refine W.seq ?_
  refine W.region ?_
  refine WL.vS hS hE (runs_plain rfl) (Gives.p hE rfl) rfl ?_; clear hE a; intro a hE
  refine WL.nil ?_
  refine W.seq ?_
  refine W.region ?_
  refine WL.vS hS hE (runs_plain rfl) (Gives.p hE rfl) rfl ?_; clear hE a; intro a hE
  obtain ⟨x51, hx52, hr⟩ := bindS hr
  refine WL.mkND (Rr := RI .i64) (Ti := 3) (es := 1) hE hS (runs_plain rfl) rfl rfl ap25 zr44 hx52 rfl ?_; clear hE hS a w; intro b53 ds54 a w h55 hE hS
  refine WL.vS hS hE (runs_plain rfl) (Gives.p hE rfl) rfl ?_; clear hE a; intro a hE
  refine WL.nil ?_
  refine W.seq ?_
  refine W.seq ?_
  refine W.region ?_
  refine WL.vS hS hE (runs_plain rfl) (Gives.p hE rfl) rfl ?_; clear hE a; intro a hE
  refine WL.vS hS hE (runs_plain rfl) (Gives.len hE rfl sl44) rfl ?_; clear hE a; intro a hE
  refine WL.vS hS hE (runs_plain rfl) (Gives.p hE rfl) rfl ?_; clear hE a; intro a hE
  refine WL.nil ?_
  have hb68 : x1.length ≤ 9223372036854775807 := by have := hS.vecCap 1 rfl; unfold maxLen at this; omega
  obtain ⟨q58, hq57, hr⟩ := bindS hr
  refine W.cut (fun a w => ∃ (q69 : List (List Int)), ∃ (ds73 : List In), q69 = q58 ∧ NEv 1 (RI .i64) s ds73 q69 ∧ q69.length = x51.length ∧ Rep a 32 [(5, .slice (some ⟨b53, 0, none⟩) x51.length x51.length)] ∧ St w s (nestC 44 3 1 (some ⟨b53, 0, none⟩) x51.length x51.length ds73 :: vecC 3 1 a_v0 c_v0 x1.length cs_v0 :: R)) ?_ ?_
  · refine W.block ?_
    refine W.loop (fun m a w => ∃ (rest61 : Nat) (k59 : Nat), ∃ (q69 : List (List Int)), ∃ (ds73 : List In), rest61 = m ∧ k59 + rest61 = x1.length ∧ Fishref2given_v1.loop1 x0 x1 rest61 k59 q69 = some q58 ∧ NEv 1 (RI .i64) s ds73 q69 ∧ q69.length = x51.length ∧ Rep a 32 [(0, .int .i64 x0), (5, .slice (some ⟨b53, 0, none⟩) x51.length x51.length), (10, .slice a_v0 x1.length c_v0), (11, .int .i64 ((x1.length : Nat) : Int)), (12, .int .i64 ((k59 : Nat) : Int))] ∧ St w s (nestC 44 3 1 (some ⟨b53, 0, none⟩) x51.length x51.length ds73 :: vecC 3 1 a_v0 c_v0 x1.length cs_v0 :: R)) (m := x1.length) ⟨x1.length, 0, x51, ds54, rfl, by omega, hq57, h55, (rfl), hE.pick _ ⟨rfl, rfl, rfl, rfl, rfl, trivial⟩, hS⟩ ?_
    clear hE hS a w hq57; rintro m65 a w ⟨rest61, k59, q69, ds73, rfl, hd62, hq57, h74, hn75, hE, hS⟩
    refine W.gen fun K76 hK76 => ?_
    rcases rest61 with _ | rest61
    · skip
      refine W.seq ?_
      refine W.region ?_
      refine WL.vS hS hE (runs_plain rfl) (Gives.p hE rfl) rfl ?_; clear hE a; intro a hE
      refine WL.nil ?_
      refine W.seq ?_
      refine W.condF hE rfl (decide_eq_false (by omega)) ?_
      subst hK76
      refine W.exit rfl ?_
      exact ⟨q69, ds73, Option.some.inj hq57, h74, hn75, hE.pick _ ⟨rfl, trivial⟩, hS⟩
    · have hlt63 : k59 < x1.length := by omega
      rw [Fishref2given_v1.loop1] at hq57
      refine W.seq ?_
      refine W.region ?_
      refine WL.vS hS hE (runs_plain rfl) (Gives.p hE rfl) rfl ?_; clear hE a; intro a hE
      refine WL.nil ?_
      refine W.seq ?_
      refine W.condT hE rfl (decide_eq_true (by omega)) ?_
      refine W.skip ?_
      refine W.seq ?_
      refine W.block ?_
      refine W.seq ?_
      refine W.region ?_
      refine WL.vS hS hE (runs_plain rfl) (Gives.p hE rfl) rfl ?_; clear hE a; intro a hE
      obtain ⟨x77, hx78, hq57⟩ := bindS hq57
      obtain ⟨hi79, hlt80, hy81⟩ := gx_some hx78
      obtain ⟨vs82, hl83, hR84, hd85, hget86⟩ := h_v0.at hy81
      subst hR84
      refine WL.vS hS hE (runs_plain rfl) (Gives.idx hE ((((k59 : Nat) : Int)).toNat) rfl rfl sl44 hi79 (by omega) (hS.vecAok 1 rfl (by omega : (((k59 : Nat) : Int)).toNat < x1.length))) rfl ?_; clear hE a; intro a hE
      refine WL.vS hS hE (runs_plain rfl) (Gives.load1 hE rfl (fun w h => St.vecSees h 1 rfl ((((k59 : Nat) : Int)).toNat * 1) _ hget86) ty3) rfl ?_; clear hE a; intro a hE
      refine WL.vS hS hE (runs_plain rfl) (Gives.p hE rfl) rfl ?_; clear hE a; intro a hE
      refine WL.vS hS hE (runs_plain rfl) (Gives.p hE rfl) rfl ?_; clear hE a; intro a hE
      refine WL.nil ?_
      refine W.seq ?_
      refine W.region ?_
      refine WL.vS hS hE (runs_plain rfl) (Gives.p hE rfl) rfl ?_; clear hE a; intro a hE
      refine WL.vS hS hE (runs_plain rfl) (Gives.p hE rfl) rfl ?_; clear hE a; intro a hE
      refine WL.vS hS hE (runs_plain rfl) (Gives.p hE rfl) rfl ?_; clear hE a; intro a hE
      refine WL.nil ?_
      obtain ⟨q88, hq87, hq57⟩ := bindS hq57
      refine W.cut (fun a w => ∃ (q91 : List (List Int)), ∃ (ds95 : List In), q91 = q88 ∧ NEv 1 (RI .i64) s ds95 q91 ∧ q91.length = x51.length ∧ Rep a 32 [(0, .int .i64 x0), (5, .slice (some ⟨b53, 0, none⟩) x51.length x51.length), (10, .slice a_v0 x1.length c_v0), (11, .int .i64 ((x1.length : Nat) : Int)), (12, .int .i64 ((k59 : Nat) : Int))] ∧ St w s (nestC 44 3 1 (some ⟨b53, 0, none⟩) x51.length x51.length ds95 :: vecC 3 1 a_v0 c_v0 x1.length cs_v0 :: R)) ?_ ?_
      · refine W.gen fun K98 hK98 => ?_
        refine W.cond hE rfl (fun hc99 => ?_) (fun hc99 => ?_)
        · replace hq87 := iteT hc99 hq87
          refine W.region ?_
          refine WL.vS hS hE (runs_plain rfl) (Gives.p hE rfl) rfl ?_; clear hE a; intro a hE
          refine WL.vS hS hE (runs_plain rfl) (Gives.p hE rfl) rfl ?_; clear hE a; intro a hE
          refine WL.vS hS hE (runs_plain rfl) (Gives.p hE rfl) rfl ?_; clear hE a; intro a hE
          refine WL.vS hS hE (runs_plain rfl) (Gives.p hE rfl) rfl ?_; clear hE a; intro a hE
          obtain ⟨x100, hx101, hq87⟩ := bindS hq87
          obtain ⟨hi102, hlt103, hy104⟩ := gx_some hx101
          obtain ⟨a105, c106, cs107, hd108, hev109⟩ := h74.at hy104
          refine WL.vS hS hE (runs_plain rfl) (Gives.idx hE ((x77).toNat) rfl rfl sl25 hi102 (by have := hn75; omega) (hS.nAok 0 rfl (by have := hn75; omega : (x77).toNat < x51.length))) rfl ?_; clear hE a; intro a hE
          refine WL.vS hS hE (runs_plain rfl) (Gives.load1 (v := .slice a105 x100.length c106) hE rfl (fun w h => St.nSees h 0 rfl hd108) ty44) rfl ?_; clear hE a; intro a hE
          refine WL.vS hS hE (runs_plain rfl) (Gives.p hE rfl) rfl ?_; clear hE a; intro a hE
          refine WL.lit hE hS (e := 3) (es := 1) (vs := [(0, .int .i64 ((k59 : Nat) : Int))]) (cs := [.int .i64 ((k59 : Nat) : Int)]) (runs_plain rfl) rfl (by kernel_rfl) rfl ?_; clear hE hS a w; intro b110 a w hE hS
          replace hS := hS.borrowM 1 rfl hd108
          replace hS := hS.front 1 rfl
          obtain ⟨x112, hx113, hq87⟩ := bindS hq87
          refine WL.appD hE hS 0 (m := 1) (runs_plain rfl) rfl rfl rfl ap44 rfl hev109 (rfl) (xs := [((k59 : Nat) : Int)]) (Ev.cons (c1 := [.int .i64 ((k59 : Nat) : Int)]) rfl rfl (Ev.nil)) rfl rfl hx113 rfl ?_; clear hE hS a w; intro a114 c115 cs116 a w h117 hE hS
          obtain ⟨_, hx118, hq87⟩ := bindS hq87
          obtain ⟨h119, h120⟩ := ix_some hx118
          refine WL.vS hS hE (runs_plain rfl) (Gives.idx hE ((x77).toNat) rfl rfl sl25 h119 (by have := hn75; omega) (hS.hAok 1 rfl (by have := hn75; omega : (x77).toNat < x51.length))) rfl ?_; clear hE a; intro a hE
          obtain ⟨x121, hx122, hq87⟩ := bindS hq87
          refine WL.storeND hE hS 0 rfl (runs_plain rfl) rfl rfl ty44 h74 hn75 (by have := (sx_some hx122).1; omega) hx122 h117 (rfl) rfl ?_; clear hE hS a w; intro ds123 a w h124 hn125 hE hS
          refine WL.nil ?_
          subst hK98
          exact ⟨x121, ds123, Option.some.inj hq87, h124, hn125, hE.pick _ ⟨rfl, rfl, rfl, rfl, rfl, trivial⟩, hS⟩
        · replace hq87 := iteF hc99 hq87
          refine W.skip ?_
          subst hK98
          exact ⟨q69, ds73, Option.some.inj hq87, h74, hn75, hE.pick _ ⟨rfl, rfl, rfl, rfl, rfl, trivial⟩, hS⟩
      · clear hE hS a w; rintro a w ⟨q91, ds95, rfl, h96, hn97, hE, hS⟩
        refine W.region ?_
        refine WL.vS hS hE (runs_plain rfl) (Gives.inc hE rfl (by omega)) rfl ?_; clear hE a; intro a hE
        refine WL.vS hS hE (runs_plain rfl) (Gives.p hE rfl) rfl ?_; clear hE a; intro a hE
        refine WL.nil ?_
        subst hK76
        exact ⟨rest61, Nat.lt_succ_self _, rest61, k59 + 1, q91, ds95, rfl, (by omega), hq57, h96, hn97, hE.pick _ ⟨rfl, rfl, rfl, rfl, rfl, trivial⟩, hS⟩
  · clear hE hS a w; rintro a w ⟨q69, ds73, rfl, h74, hn75, hE, hS⟩
    refine W.seq ?_
    refine W.region ?_
    refine WL.vS hS hE (runs_plain rfl) (Gives.p hE rfl) rfl ?_; clear hE a; intro a hE
    refine WL.vS hS hE (runs_plain rfl) (Gives.p hE rfl) rfl ?_; clear hE a; intro a hE
    refine WL.nil ?_
    refine W.ret ?_
    have hF := hS.fixN RI.mono 0 rfl h74 hn75; clear hS; obtain ⟨s126, hle127, hS, h128⟩ := hF
    (try rw [← hn75] at hE)
    (try rw [← hn75] at hS)
    (try rw [← hn75] at h128)
    replace h_v0 := Ev.mono RI.mono hle127 h_v0
    refine finG (fn := Try.f48) (rs := [.tmp 4]) (vs := [_]) hE rfl ⟨rfl, trivial⟩ ?_
    obtain rfl := Option.some.inj hr
    exact ⟨(some ⟨b53, 0, none⟩), q69.length, s126, rfl, hle127, h128, hS⟩
set_option maxHeartbeats 8000000 in
theorem Fishref2RosterOf_1_v2_ok {fu : Nat}  {w : World} {s : Sg} {R : List HP} {pb0 : Nat} {pb1 : Nat} {pb2 : Nat} {pb3 : Nat} {pb4 : Nat} {x0 : List Int} {a_v0 : Option Addr} {c_v0 n_v0 : Nat} {cs_v0 : List Value} {y0 : Int} {y1 : List FleetShift} {a_y1_0 : Option Addr} {c_y1_0 : Nat} {y2 : FleetLimits} {y3 : Int} {y4 : List (List Int)} {a_y4_0 : Option Addr} {c_y4_0 : Nat} (hS : St w s (pt pb0 (.cells #[.int .i64 y0] 3 (0, 0)) :: pt pb1 (.cells #[.slice a_y1_0 y1.length c_y1_0] 22 (0, 0)) :: pt pb2 (.cells #[.int .i64 y2.Change, .int .i64 y2.Long, .int .i64 y2.Work, .int .i64 y2.After, .int .i64 y2.Break, .int .i64 y2.Rest, .int .i64 y2.Row] 24 (0, 0)) :: pt pb3 (.cells #[.int .i64 y3] 3 (0, 0)) :: pt pb4 (.cells #[.slice a_y4_0 y4.length c_y4_0] 25 (0, 0)) :: vecC 3 1 a_v0 c_v0 n_v0 cs_v0 :: R)) (h_v0 : Ev 1 (RI .i64) s cs_v0 x0) (hn_v0 : x0.length = n_v0) (h_y1_0 : Sl 3 RFleetShift s a_y1_0 c_y1_0 y1) (h_y4_0 : Sl 1 (RL 1 (RI .i64)) s a_y4_0 c_y4_0 y4) {r : Bool × Int × (List (List Int))} (hr : Fishref2RosterOf_1_v2 fu x0 y0 y1 y2 y3 y4 = some r) :
    Calls Try.prog 47 [.slice a_v0 n_v0 c_v0, .pointer (some ⟨pb0, 0, none⟩), .pointer (some ⟨pb1, 0, none⟩), .pointer (some ⟨pb2, 0, none⟩), .pointer (some ⟨pb3, 0, none⟩), .pointer (some ⟨pb4, 0, none⟩)].toArray w (fun e w => ∃ (a58 : Option Addr) (c59 : Nat) (t : Sg), e = .returned (.bool r.1) ∧ s.Le t ∧ Sl 1 (RL 1 (RI .i64)) t a58 c59 r.2.2 ∧ St w t (pt pb0 (.cells #[.int .i64 y0] 3 (0, 0)) :: pt pb1 (.cells #[.slice a_y1_0 y1.length c_y1_0] 22 (0, 0)) :: pt pb2 (.cells #[.int .i64 y2.Change, .int .i64 y2.Long, .int .i64 y2.Work, .int .i64 y2.After, .int .i64 y2.Break, .int .i64 y2.Rest, .int .i64 y2.Row] 24 (0, 0)) :: pt pb3 (.cells #[.int .i64 r.2.1] 3 (0, 0)) :: pt pb4 (.cells #[.slice a58 r.2.2.length c59] 25 (0, 0)) :: vecC 3 1 a_v0 c_v0 n_v0 cs_v0 :: R)) := by
  refine enter Try.func47 rfl rfl rfl fun a hE => ?_
  rw [Fishref2RosterOf_1_v2] at hr
  subst hn_v0
  refine W.seq ?_
  refine W.region ?_
  refine WL.vS hS hE (runs_plain rfl) (Gives.p hE rfl) rfl ?_; clear hE a; intro a hE
  refine WL.nil ?_
  refine W.seq ?_
  refine W.region ?_
  refine WL.vS hS hE (runs_plain rfl) (Gives.loadB hE 0 rfl rfl rfl ty3) rfl ?_; clear hE a; intro a hE
  refine WL.vS hS hE (runs_plain rfl) (Gives.p hE rfl) rfl ?_; clear hE a; intro a hE
  obtain ⟨q61, hq62, hr⟩ := bindS hr
  replace hS := hS.front 5 rfl
  have hc_ := Fishref2given_v1_ok hS h_v0 (rfl) hq62
  refine WL.fnq hE (hc_) (runs_plain rfl) bd48 rfl rfl rfl ?_
  clear hE hS hc_; rintro e w ⟨a63, c64, s66, rfl, hle67, h65, hS⟩; refine ⟨_, rfl, ?_⟩; clear a; intro a hE
  replace h_v0 := Ev.mono RI.mono hle67 h_v0
  replace h_y1_0 := Sl.mono RFleetShift.mono hle67 h_y1_0
  replace h_y4_0 := Sl.mono (RL.mono RI.mono) hle67 h_y4_0
  refine WL.vS hS hE (runs_plain rfl) (Gives.p hE rfl) rfl ?_; clear hE a; intro a hE
  refine WL.nil ?_
  refine W.seq ?_
  refine W.seq ?_
  refine W.region ?_
  refine WL.vS hS hE (runs_plain rfl) (Gives.loadB hE 2 rfl rfl rfl ty22) rfl ?_; clear hE a; intro a hE
  refine WL.vS hS hE (runs_plain rfl) (Gives.p hE rfl) rfl ?_; clear hE a; intro a hE
  refine WL.vS hS hE (runs_plain rfl) (Gives.loadBA hE 3 rfl rfl ty24) rfl ?_; clear hE a; intro a hE
  obtain ⟨q68, hq69, hr⟩ := bindS hr
  have hc_ := Fishref2later_ok hS h_y1_0 h65 hq69
  refine WL.fnq hE (hc_) (runs_plain rfl) bd49 rfl rfl rfl ?_
  clear hE hS hc_; rintro e w ⟨rfl, hS⟩; refine ⟨_, rfl, ?_⟩; clear a; intro a hE
  refine WL.vS hS hE (runs_plain rfl) (Gives.p hE rfl) rfl ?_; clear hE a; intro a hE
  refine WL.nil ?_
  refine W.cond hE rfl (fun hc70 => ?_) (fun hc70 => ?_)
  · replace hr := iteT hc70 hr
    refine W.seq ?_
    refine W.region ?_
    refine WL.vS hS hE (runs_plain rfl) (Gives.p hE rfl) rfl ?_; clear hE a; intro a hE
    refine WL.nil ?_
    refine W.ret ?_
    refine finG (fn := Try.f47) (rs := [.tmp 7]) (vs := [_]) hE rfl ⟨rfl, trivial⟩ ?_
    obtain rfl := Option.some.inj hr
    replace hS := hS.front 5 rfl
    replace hS := hS.front 5 rfl
    replace hS := hS.front 5 rfl
    replace hS := hS.front 5 rfl
    replace hS := hS.front 5 rfl
    exact ⟨a_y4_0, c_y4_0, s66, rfl, hle67, h_y4_0, hS⟩
  · replace hr := iteF hc70 hr
    refine W.skip ?_
    refine W.seq ?_
    refine W.seq ?_
    refine W.region ?_
    refine WL.vS hS hE (runs_plain rfl) (Gives.loadB hE 2 rfl rfl rfl ty22) rfl ?_; clear hE a; intro a hE
    refine WL.vS hS hE (runs_plain rfl) (Gives.p hE rfl) rfl ?_; clear hE a; intro a hE
    obtain ⟨q71, hq72, hr⟩ := bindS hr
    have hc_ := Fishref2LoadsOf_ok hS h_y1_0 h65 hq72
    refine WL.fnq hE (hc_) (runs_plain rfl) bd51 rfl rfl rfl ?_
    clear hE hS hc_; rintro e w ⟨a73, c74, n75, cs76, rfl, h77, rfl, hS⟩; refine ⟨_, rfl, ?_⟩; clear a; intro a hE
    obtain ⟨q79, hq80, hr⟩ := bindS hr
    have hF := hS.lendV RI.mono 0 rfl h77 rfl; clear hS; obtain ⟨t81, hle82, hS, hs83, bk84⟩ := hF
    have hc_ := SlicesMaxLint_ok hS hs83 hq80
    refine WL.fnq hE (hc_) (runs_plain rfl) bd50 rfl rfl rfl ?_
    clear hE hS hc_; rintro e w ⟨rfl, hS⟩; refine ⟨_, rfl, ?_⟩; clear a; intro a hE
    replace hS := bk84 _ _ hS
    refine WL.vS hS hE (runs_plain rfl) (Gives.p hE rfl) rfl ?_; clear hE a; intro a hE
    refine WL.nil ?_
    refine W.seq ?_
    obtain ⟨q86, hq85, hr⟩ := bndS hr
    refine W.cut (fun a w => ∃ (q89 : Bool), q89 = q86 ∧ Rep a 31 [(4, .pointer (some ⟨pb3, 0, none⟩)), (5, .pointer (some ⟨pb4, 0, none⟩)), (8, .slice a63 q61.length c64), (9, .int .i64 q79), (28, .bool q89)] ∧ St w s66 (vecC 3 1 a_v0 c_v0 x0.length cs_v0 :: pt pb0 (.cells #[.int .i64 y0] 3 (0, 0)) :: pt pb1 (.cells #[.slice a_y1_0 y1.length c_y1_0] 22 (0, 0)) :: pt pb2 (.cells #[.int .i64 y2.Change, .int .i64 y2.Long, .int .i64 y2.Work, .int .i64 y2.After, .int .i64 y2.Break, .int .i64 y2.Rest, .int .i64 y2.Row] 24 (0, 0)) :: pt pb3 (.cells #[.int .i64 y3] 3 (0, 0)) :: pt pb4 (.cells #[.slice a_y4_0 y4.length c_y4_0] 25 (0, 0)) :: R)) ?_ ?_
    · refine W.gen fun K90 hK90 => ?_
      refine W.region ?_
      refine WL.vS hS hE (runs_plain rfl) (Gives.loadB hE 5 rfl rfl rfl ty3) rfl ?_; clear hE a; intro a hE
      refine WL.vS hS hE (runs_plain rfl) (Gives.p hE rfl) rfl ?_; clear hE a; intro a hE
      refine WL.vS hS hE (runs_plain rfl) (Gives.p hE rfl) rfl ?_; clear hE a; intro a hE
      rcases Bool.eq_false_or_eq_true (decide (y3 < 0)) with hg91 | hg91
      · replace hq85 := iteT hg91 hq85
        refine WL.no hE (runs_not hE rfl rfl rfl (by rw [hg91]; decide)) rfl ?_; clear hE a; intro a hE
        refine WL.no hE (runs_not hE rfl rfl rfl (by rw [hg91]; decide)) rfl ?_; clear hE a; intro a hE
        refine WL.no hE (runs_not hE rfl rfl rfl (by rw [hg91]; decide)) rfl ?_; clear hE a; intro a hE
        refine WL.vS hS hE (runs_plain rfl) (Gives.pickT hE rfl hg91 rfl) rfl ?_; clear hE a; intro a hE
        refine WL.nil ?_
        replace hS := hS.tail
        subst hK90
        exact ⟨true, hq85, hE.pick _ ⟨rfl, rfl, rfl, rfl, rfl, trivial⟩, hS⟩
      · replace hq85 := iteF hg91 hq85
        refine WL.vS hS hE (runs_if hE rfl rfl rfl hg91) (Gives.p hE rfl) rfl ?_; clear hE a; intro a hE
        refine WL.vS hS hE (runs_if hE rfl rfl rfl hg91) (Gives.loadB hE 5 rfl rfl rfl ty3) rfl ?_; clear hE a; intro a hE
        refine WL.vS hS hE (runs_if hE rfl rfl rfl hg91) (Gives.p hE rfl) rfl ?_; clear hE a; intro a hE
        refine WL.vS hS hE (runs_plain rfl) (Gives.pickF hE rfl hg91 rfl) rfl ?_; clear hE a; intro a hE
        refine WL.nil ?_
        replace hS := hS.tail
        subst hK90
        exact ⟨decide (q79 < y3), hq85, hE.pick _ ⟨rfl, rfl, rfl, rfl, rfl, trivial⟩, hS⟩
    · clear hE hS a w; rintro a w ⟨q89, rfl, hE, hS⟩
      obtain ⟨q93, hq92, hr⟩ := bndS hr
      refine W.cut (fun a w => ∃ (q96 : Int), ∃ (q97 : List (List Int)), ∃ (a98 : Option Addr), ∃ (c99 : Nat), (q96, q97) = q93 ∧ Sl 1 (RL 1 (RI .i64)) s66 a98 c99 q97 ∧ Rep a 31 [] ∧ St w s66 (vecC 3 1 a_v0 c_v0 x0.length cs_v0 :: pt pb0 (.cells #[.int .i64 y0] 3 (0, 0)) :: pt pb1 (.cells #[.slice a_y1_0 y1.length c_y1_0] 22 (0, 0)) :: pt pb2 (.cells #[.int .i64 y2.Change, .int .i64 y2.Long, .int .i64 y2.Work, .int .i64 y2.After, .int .i64 y2.Break, .int .i64 y2.Rest, .int .i64 y2.Row] 24 (0, 0)) :: pt pb3 (.cells #[.int .i64 q96] 3 (0, 0)) :: pt pb4 (.cells #[.slice a98 q97.length c99] 25 (0, 0)) :: R)) ?_ ?_
      · refine W.gen fun K101 hK101 => ?_
        refine W.cond hE rfl (fun hc102 => ?_) (fun hc102 => ?_)
        · replace hq92 := iteT hc102 hq92
          refine W.region ?_
          refine WL.vS hS hE (runs_plain rfl) (Gives.p hE rfl) rfl ?_; clear hE a; intro a hE
          refine WL.vS hS hE (runs_plain rfl) (Gives.p hE rfl) rfl ?_; clear hE a; intro a hE
          refine WL.storeI hE hS 5 rfl [.slice a63 q61.length c64] (runs_plain rfl) rfl rfl rfl ty25 rfl rfl rfl rfl ?_; clear hE hS a w; intro a w hE hS
          refine WL.storeI hE hS 4 rfl [.int .i64 q79] (runs_plain rfl) rfl rfl rfl ty3 rfl rfl rfl rfl ?_; clear hE hS a w; intro a w hE hS
          refine WL.nil ?_
          subst hK101
          exact ⟨q79, q61, a63, c64, hq92, h65, hE.pick _ trivial, hS⟩
        · replace hq92 := iteF hc102 hq92
          refine W.skip ?_
          subst hK101
          exact ⟨y3, y4, a_y4_0, c_y4_0, hq92, h_y4_0, hE.pick _ trivial, hS⟩
      · clear hE hS a w; rintro a w ⟨q96, q97, a98, c99, rfl, h100, hE, hS⟩
        dsimp only at hr
        refine W.seq ?_
        refine W.region ?_
        refine WL.vS hS hE (runs_plain rfl) (Gives.p hE rfl) rfl ?_; clear hE a; intro a hE
        refine WL.nil ?_
        refine W.ret ?_
        refine finG (fn := Try.f47) (rs := [.tmp 7]) (vs := [_]) hE rfl ⟨rfl, trivial⟩ ?_
        obtain rfl := Option.some.inj hr
        replace hS := hS.front 5 rfl
        replace hS := hS.front 5 rfl
        replace hS := hS.front 5 rfl
        replace hS := hS.front 5 rfl
        replace hS := hS.front 5 rfl
        exact ⟨a98, c99, s66, rfl, hle67, h100, hS⟩
end Go.Proofs.Ytfhkpdnohcidgaa
