/- The walks of the functions that FleetDuties reaches: each call comes to what its mirror says. The conditions are those of each contract. -/
import Derived.Test.YtfhkpdnohcidgaaProg
import Derived.Test.YtfhkpdnohcidgaaFleetDutiesM
import Derived.Test.YtfhkpdnohcidgaaFpMore
import Derived.Test.YtfhkpdnohcidgaaFpCalm
namespace Go.Proofs.Ytfhkpdnohcidgaa
open Go Go.Fp
theorem ap101 : apOk Try.prog 101 4 1 = true := by kernel_rfl
theorem ap25 : apOk Try.prog 25 44 1 = true := by kernel_rfl
theorem ap44 : apOk Try.prog 44 3 1 = true := by kernel_rfl
theorem ar131 : arOk Try.prog 131 6 = true := by kernel_rfl
theorem bd105 : bodied Try.prog 105 = true := by kernel_rfl
theorem bd119 : bodied Try.prog 119 = true := by kernel_rfl
theorem bd12 : bodied Try.prog 12 = true := by kernel_rfl
theorem bd120 : bodied Try.prog 120 = true := by kernel_rfl
theorem bd121 : bodied Try.prog 121 = true := by kernel_rfl
theorem bd122 : bodied Try.prog 122 = true := by kernel_rfl
theorem bd128 : bodied Try.prog 128 = true := by kernel_rfl
theorem bd13 : bodied Try.prog 13 = true := by kernel_rfl
theorem bd130 : bodied Try.prog 130 = true := by kernel_rfl
theorem bd136 : bodied Try.prog 136 = true := by kernel_rfl
theorem bd137 : bodied Try.prog 137 = true := by kernel_rfl
theorem bd146 : bodied Try.prog 146 = true := by kernel_rfl
theorem bd15 : bodied Try.prog 15 = true := by kernel_rfl
theorem bd24 : bodied Try.prog 24 = true := by kernel_rfl
theorem bd30 : bodied Try.prog 30 = true := by kernel_rfl
theorem bd31 : bodied Try.prog 31 = true := by kernel_rfl
theorem bd32 : bodied Try.prog 32 = true := by kernel_rfl
theorem bd36 : bodied Try.prog 36 = true := by kernel_rfl
theorem bd37 : bodied Try.prog 37 = true := by kernel_rfl
theorem bd41 : bodied Try.prog 41 = true := by kernel_rfl
theorem bd44 : bodied Try.prog 44 = true := by kernel_rfl
theorem bd45 : bodied Try.prog 45 = true := by kernel_rfl
theorem bd52 : bodied Try.prog 52 = true := by kernel_rfl
theorem bd53 : bodied Try.prog 53 = true := by kernel_rfl
theorem bd54 : bodied Try.prog 54 = true := by kernel_rfl
theorem bd65 : bodied Try.prog 65 = true := by kernel_rfl
theorem bd71 : bodied Try.prog 71 = true := by kernel_rfl
theorem bd79 : bodied Try.prog 79 = true := by kernel_rfl
theorem bd80 : bodied Try.prog 80 = true := by kernel_rfl
theorem bd81 : bodied Try.prog 81 = true := by kernel_rfl
theorem bd82 : bodied Try.prog 82 = true := by kernel_rfl
theorem bd83 : bodied Try.prog 83 = true := by kernel_rfl
theorem bd84 : bodied Try.prog 84 = true := by kernel_rfl
theorem bd85 : bodied Try.prog 85 = true := by kernel_rfl
theorem bd86 : bodied Try.prog 86 = true := by kernel_rfl
theorem bd98 : bodied Try.prog 98 = true := by kernel_rfl
theorem bl4 : isBl Try.prog 4 = true := by kernel_rfl
theorem fl114_0 : fldOk Try.prog 114 0 0 = true := by kernel_rfl
theorem fl114_1 : fldOk Try.prog 114 1 1 = true := by kernel_rfl
theorem fl114_2 : fldOk Try.prog 114 2 8 = true := by kernel_rfl
theorem fl114_3 : fldOk Try.prog 114 3 9 = true := by kernel_rfl
theorem fl24_0 : fldOk Try.prog 24 0 0 = true := by kernel_rfl
theorem fl24_1 : fldOk Try.prog 24 1 1 = true := by kernel_rfl
theorem fl24_2 : fldOk Try.prog 24 2 2 = true := by kernel_rfl
theorem fl24_3 : fldOk Try.prog 24 3 3 = true := by kernel_rfl
theorem fl24_4 : fldOk Try.prog 24 4 4 = true := by kernel_rfl
theorem fl24_5 : fldOk Try.prog 24 5 5 = true := by kernel_rfl
theorem fl24_6 : fldOk Try.prog 24 6 6 = true := by kernel_rfl
theorem fl78_0 : fldOk Try.prog 78 0 0 = true := by kernel_rfl
theorem fl78_1 : fldOk Try.prog 78 1 1 = true := by kernel_rfl
theorem fl78_2 : fldOk Try.prog 78 2 2 = true := by kernel_rfl
theorem fl78_3 : fldOk Try.prog 78 3 3 = true := by kernel_rfl
theorem fl78_4 : fldOk Try.prog 78 4 4 = true := by kernel_rfl
theorem fl78_5 : fldOk Try.prog 78 5 5 = true := by kernel_rfl
theorem hu187 : (Try.prog.underlying 187).isSome = true := by kernel_rfl
theorem hu3 : (Try.prog.underlying 3).isSome = true := by kernel_rfl
theorem hu5 : (Try.prog.underlying 5).isSome = true := by kernel_rfl
theorem isl44 : isSl Try.prog 44 = true := by kernel_rfl
theorem mixed : Try.prog.follows .mixedOrders = true := by kernel_rfl
theorem sl101 : slOk Try.prog 101 4 1 = true := by kernel_rfl
theorem sl25 : slOk Try.prog 25 44 1 = true := by kernel_rfl
theorem sl32 : slOk Try.prog 32 78 6 = true := by kernel_rfl
theorem sl44 : slOk Try.prog 44 3 1 = true := by kernel_rfl
theorem st9 : stOk Try.prog 9 = true := by kernel_rfl
theorem ty101 : tyOk Try.prog 101 false 1 = true := by kernel_rfl
theorem ty24 : tyOk Try.prog 24 true 7 = true := by kernel_rfl
theorem ty25 : tyOk Try.prog 25 false 1 = true := by kernel_rfl
theorem ty3 : tyOk Try.prog 3 false 1 = true := by kernel_rfl
theorem ty32 : tyOk Try.prog 32 false 1 = true := by kernel_rfl
theorem ty4 : tyOk Try.prog 4 false 1 = true := by kernel_rfl
theorem ty44 : tyOk Try.prog 44 false 1 = true := by kernel_rfl
theorem ty66 : tyOk Try.prog 66 false 1 = true := by kernel_rfl
theorem ty78 : tyOk Try.prog 78 true 6 = true := by kernel_rfl
theorem ui162 : Try.prog.underlying 162 = some (.int .u64) := by kernel_rfl
theorem ui3 : Try.prog.underlying 3 = some (.int .i64) := by kernel_rfl
theorem ui5 : Try.prog.underlying 5 = some (.int .u8) := by kernel_rfl
theorem zr25 : (Try.prog.info? 25).bind (fun i => i.zero.map fun z => z.cells.toList) = some [.slice none 0 0] := by kernel_rfl
theorem zr3 : (Try.prog.info? 3).bind (fun i => i.zero.map fun z => z.cells.toList) = some [.int .i64 0] := by kernel_rfl
theorem zr4 : (Try.prog.info? 4).bind (fun i => i.zero.map fun z => z.cells.toList) = some [.bool false] := by kernel_rfl
theorem zr44 : (Try.prog.info? 44).bind (fun i => i.zero.map fun z => z.cells.toList) = some [.slice none 0 0] := by kernel_rfl
theorem zr66 : (Try.prog.info? 66).bind (fun i => i.zero.map fun z => z.cells.toList) = some [.nilFunc] := by kernel_rfl
theorem zr78 : (Try.prog.info? 78).bind (fun i => i.zero.map fun z => z.cells.toList) = some [.int .i64 0, .int .i64 0, .int .i64 0, .int .i64 0, .int .i64 0, .int .i64 0] := by kernel_rfl
set_option maxHeartbeats 8000000 in
theorem Fleetwithin_ok  {w : World} {s : Sg} {R : List HP} {x0 : Int} {x1 : Int} {x2 : Int} (hS : St w s (R))  {r : Bool} (hr : Fleetwithin x0 x1 x2 = r) :
    Calls Try.prog 37 [.int .i64 x0, .int .i64 x1, .int .i64 x2].toArray w (fun e w => e = .returned (.bool r) ∧ St w s (R)) := by
  refine enter Try.func37 rfl rfl rfl fun a hE => ?_
  rw [Fleetwithin] at hr
  refine W.seq ?_
  refine W.region ?_
  refine WL.vS hS hE (runs_plain rfl) (Gives.p hE rfl) rfl ?_; clear hE a; intro a hE
  refine WL.nil ?_
  refine W.seq ?_
  obtain ⟨q52, hq51, hr⟩ := bndS hr
  refine W.cut (fun a w => ∃ (q55 : Bool), q55 = q52 ∧ Rep a 15 [(6, .bool q55)] ∧ St w s (R)) ?_ ?_
  · refine W.gen fun K56 hK56 => ?_
    refine W.region ?_
    refine WL.vS hS hE (runs_plain rfl) (Gives.p hE rfl) rfl ?_; clear hE a; intro a hE
    refine WL.vS hS hE (runs_plain rfl) (Gives.p hE rfl) rfl ?_; clear hE a; intro a hE
    refine WL.vS hS hE (runs_plain rfl) (Gives.p hE rfl) rfl ?_; clear hE a; intro a hE
    refine WL.vS hS hE (runs_plain rfl) (Gives.p hE rfl) rfl ?_; clear hE a; intro a hE
    rcases Bool.eq_false_or_eq_true (decide (x0 ≥ x1)) with hg57 | hg57
    · replace hq51 := iteT hg57 hq51
      refine WL.vS hS hE (runs_if hE rfl rfl rfl hg57) (Gives.p hE rfl) rfl ?_; clear hE a; intro a hE
      refine WL.vS hS hE (runs_if hE rfl rfl rfl hg57) (Gives.p hE rfl) rfl ?_; clear hE a; intro a hE
      refine WL.vS hS hE (runs_if hE rfl rfl rfl hg57) (Gives.p hE rfl) rfl ?_; clear hE a; intro a hE
      refine WL.vS hS hE (runs_plain rfl) (Gives.pickT hE rfl hg57 rfl) rfl ?_; clear hE a; intro a hE
      refine WL.vS hS hE (runs_plain rfl) (Gives.p hE rfl) rfl ?_; clear hE a; intro a hE
      refine WL.nil ?_
      subst hK56
      exact ⟨decide (x0 ≤ x2), hq51, hE.pick _ ⟨rfl, trivial⟩, hS⟩
    · replace hq51 := iteF hg57 hq51
      refine WL.no hE (runs_not hE rfl rfl rfl (by rw [hg57]; decide)) rfl ?_; clear hE a; intro a hE
      refine WL.no hE (runs_not hE rfl rfl rfl (by rw [hg57]; decide)) rfl ?_; clear hE a; intro a hE
      refine WL.no hE (runs_not hE rfl rfl rfl (by rw [hg57]; decide)) rfl ?_; clear hE a; intro a hE
      refine WL.vS hS hE (runs_plain rfl) (Gives.pickF hE rfl hg57 rfl) rfl ?_; clear hE a; intro a hE
      refine WL.vS hS hE (runs_plain rfl) (Gives.p hE rfl) rfl ?_; clear hE a; intro a hE
      refine WL.nil ?_
      subst hK56
      exact ⟨false, hq51, hE.pick _ ⟨rfl, trivial⟩, hS⟩
  · clear hE hS a w; rintro a w ⟨q55, rfl, hE, hS⟩
    refine W.ret ?_
    refine finG (fn := Try.f37) (rs := [.tmp 6]) (vs := [_]) hE rfl ⟨rfl, trivial⟩ ?_
    subst hr
    exact ⟨rfl, hS⟩
set_option maxHeartbeats 8000000 in
theorem FleetCheckTasks_ok  {w : World} {s : Sg} {R : List HP} {x0 : List FleetTask} {a0 : Option Addr} {c0 : Nat} (hS : St w s (R)) (h0 : Sl 6 RFleetTask s a0 c0 x0) {r : Int} (hr : FleetCheckTasks x0 = r) :
    Calls Try.prog 54 [.slice a0 x0.length c0].toArray w (fun e w => e = .returned (.int .i64 r) ∧ St w s (R)) := by
  refine enter Try.func54 rfl rfl rfl fun a hE => ?_
  rw [FleetCheckTasks] at hr
  refine W.seq ?_
  refine W.region ?_
  refine WL.vS hS hE (runs_plain rfl) (Gives.p hE rfl) rfl ?_; clear hE a; intro a hE
  refine WL.nil ?_
  refine W.seq ?_
  refine W.seq ?_
  refine W.region ?_
  refine WL.vS hS hE (runs_plain rfl) (Gives.p hE rfl) rfl ?_; clear hE a; intro a hE
  refine WL.vS hS hE (runs_plain rfl) (Gives.len hE rfl sl32) rfl ?_; clear hE a; intro a hE
  refine WL.vS hS hE (runs_plain rfl) (Gives.p hE rfl) rfl ?_; clear hE a; intro a hE
  refine WL.nil ?_
  refine W.cond hE rfl (fun hc51 => ?_) (fun hc51 => ?_)
  · replace hr := iteT hc51 hr
    refine W.seq ?_
    refine W.region ?_
    refine WL.vS hS hE (runs_plain rfl) (Gives.p hE rfl) rfl ?_; clear hE a; intro a hE
    refine WL.nil ?_
    refine W.ret ?_
    refine finG (fn := Try.f54) (rs := [.tmp 2]) (vs := [_]) hE rfl ⟨rfl, trivial⟩ ?_
    subst hr
    exact ⟨rfl, hS⟩
  · replace hr := iteF hc51 hr
    refine W.skip ?_
    refine W.seq ?_
    refine W.seq ?_
    refine W.region ?_
    refine WL.vS hS hE (runs_plain rfl) (Gives.p hE rfl) rfl ?_; clear hE a; intro a hE
    refine WL.vS hS hE (runs_plain rfl) (Gives.len hE rfl sl32) rfl ?_; clear hE a; intro a hE
    refine WL.vS hS hE (runs_plain rfl) (Gives.p hE rfl) rfl ?_; clear hE a; intro a hE
    refine WL.nil ?_
    obtain ⟨q53, hq52, hr⟩ := bndS hr
    refine W.cut (fun a w => (.next ()) = q53 ∧ Rep a 55 [] ∧ St w s (R)) ?_ ?_
    · refine W.block ?_
      refine W.loop (fun m a w => ∃ (rest56 : List FleetTask) (k54 : Nat), rest56.length = m ∧ x0.drop k54 = rest56 ∧ FleetCheckTasks.loop1 rest56 = q53 ∧ Rep a 55 [(8, .slice a0 x0.length c0), (9, .int .i64 ((x0).length : Int)), (10, .int .i64 ((k54 : Nat) : Int))] ∧ St w s (R)) (m := x0.length) ⟨x0, 0, rfl, rfl, hq52, hE.pick _ ⟨rfl, rfl, rfl, trivial⟩, hS⟩ ?_
      clear hE hS a w hq52; rintro m60 a w ⟨rest56, k54, rfl, hd57, hq52, hE, hS⟩
      refine W.gen fun K63 hK63 => ?_
      rcases rest56 with _ | ⟨x55, rest56⟩
      · have hlt58 := drop_nil hd57
        refine W.seq ?_
        refine W.region ?_
        refine WL.vS hS hE (runs_plain rfl) (Gives.p hE rfl) rfl ?_; clear hE a; intro a hE
        refine WL.nil ?_
        refine W.seq ?_
        refine W.condF hE rfl (decide_eq_false (by omega)) ?_
        subst hK63
        refine W.exit rfl ?_
        exact ⟨hq52, hE.pick _ trivial, hS⟩
      · obtain ⟨hlt58, hx59, hd57⟩ := drop_cons hd57
        rw [FleetCheckTasks.loop1] at hq52
        refine W.seq ?_
        refine W.region ?_
        refine WL.vS hS hE (runs_plain rfl) (Gives.p hE rfl) rfl ?_; clear hE a; intro a hE
        refine WL.nil ?_
        refine W.seq ?_
        refine W.condT hE rfl (decide_eq_true (by omega)) ?_
        refine W.skip ?_
        refine W.seq ?_
        refine W.block ?_
        refine W.seq ?_
        refine W.region ?_
        obtain ⟨cs64, hl65, hR66, hat67⟩ := h0.at hx59
        subst hR66
        refine WL.vS hS hE (runs_plain rfl) (Gives.idx hE k54 rfl rfl sl32 rfl hlt58 (h0.aok hlt58)) rfl ?_; clear hE a; intro a hE
        refine WL.vS hS hE (runs_plain rfl) (Gives.loadA hE rfl (fun w h => hat67 w _ h) ty78) rfl ?_; clear hE a; intro a hE
        refine WL.alloc hE hS (runs_plain rfl) zr78 rfl ?_; clear hE hS a w; intro b68 a w hE hS
        refine WL.storeI hE hS 0 rfl (FleetTask.cells x55) (runs_plain rfl) rfl rfl rfl ty78 rfl rfl rfl rfl ?_; clear hE hS a w; intro a w hE hS
        refine WL.nil ?_
        refine W.block ?_
        refine W.seq ?_
        obtain ⟨q70, hq69, hq52⟩ := bndS hq52
        refine W.cut (fun a w => ∃ (q73 : Bool), q73 = q70 ∧ Rep a 55 [(4, .pointer (some ⟨b68, 0, none⟩)), (8, .slice a0 x0.length c0), (9, .int .i64 ((x0).length : Int)), (10, .int .i64 ((k54 : Nat) : Int)), (14, .bool q73)] ∧ St w s (pt b68 (.cells (FleetTask.cells x55).toArray 78 (0, 0)) :: R)) ?_ ?_
        · refine W.gen fun K74 hK74 => ?_
          refine W.region ?_
          refine WL.vS hS hE (runs_plain rfl) (Gives.fld hE rfl fl78_0) rfl ?_; clear hE a; intro a hE
          refine WL.vS hS hE (runs_plain rfl) (Gives.loadB hE 0 rfl rfl rfl ty3) rfl ?_; clear hE a; intro a hE
          refine WL.fnq hE (Fleetwithin_ok hS  rfl (r := Fleetwithin x55.From 0 11)) (runs_plain rfl) bd37 rfl rfl rfl ?_
          clear hE hS; rintro e w ⟨rfl, hS⟩; refine ⟨_, rfl, ?_⟩; clear a; intro a hE
          refine WL.vS hS hE (runs_plain rfl) (Gives.p hE rfl) rfl ?_; clear hE a; intro a hE
          refine WL.vS hS hE (runs_plain rfl) (Gives.p hE rfl) rfl ?_; clear hE a; intro a hE
          rcases Bool.eq_false_or_eq_true (!(Fleetwithin x55.From 0 11)) with hg75 | hg75
          · replace hq69 := iteT hg75 hq69
            refine WL.no hE (runs_not hE rfl rfl rfl (by rw [hg75]; decide)) rfl ?_; clear hE a; intro a hE
            refine WL.no hE (runs_not hE rfl rfl rfl (by rw [hg75]; decide)) rfl ?_; clear hE a; intro a hE
            refine WL.no hE (runs_not hE rfl rfl rfl (by rw [hg75]; decide)) rfl ?_; clear hE a; intro a hE
            refine WL.no hE (runs_not hE rfl rfl rfl (by rw [hg75]; decide)) rfl ?_; clear hE a; intro a hE
            refine WL.vS hS hE (runs_plain rfl) (Gives.pickT hE rfl hg75 rfl) rfl ?_; clear hE a; intro a hE
            refine WL.vS hS hE (runs_plain rfl) (Gives.p hE rfl) rfl ?_; clear hE a; intro a hE
            refine WL.no hE (runs_not hE rfl rfl rfl (by decide)) rfl ?_; clear hE a; intro a hE
            refine WL.no hE (runs_not hE rfl rfl rfl (by decide)) rfl ?_; clear hE a; intro a hE
            refine WL.no hE (runs_not hE rfl rfl rfl (by decide)) rfl ?_; clear hE a; intro a hE
            refine WL.no hE (runs_not hE rfl rfl rfl (by decide)) rfl ?_; clear hE a; intro a hE
            refine WL.vS hS hE (runs_plain rfl) (Gives.pickT hE rfl rfl rfl) rfl ?_; clear hE a; intro a hE
            refine WL.vS hS hE (runs_plain rfl) (Gives.p hE rfl) rfl ?_; clear hE a; intro a hE
            refine WL.no hE (runs_not hE rfl rfl rfl (by decide)) rfl ?_; clear hE a; intro a hE
            refine WL.no hE (runs_not hE rfl rfl rfl (by decide)) rfl ?_; clear hE a; intro a hE
            refine WL.no hE (runs_not hE rfl rfl rfl (by decide)) rfl ?_; clear hE a; intro a hE
            refine WL.no hE (runs_not hE rfl rfl rfl (by decide)) rfl ?_; clear hE a; intro a hE
            refine WL.vS hS hE (runs_plain rfl) (Gives.pickT hE rfl rfl rfl) rfl ?_; clear hE a; intro a hE
            refine WL.vS hS hE (runs_plain rfl) (Gives.p hE rfl) rfl ?_; clear hE a; intro a hE
            refine WL.nil ?_
            subst hK74
            exact ⟨true, hq69, hE.pick _ ⟨rfl, rfl, rfl, rfl, rfl, trivial⟩, hS⟩
          · replace hq69 := iteF hg75 hq69
            refine WL.vS hS hE (runs_if hE rfl rfl rfl hg75) (Gives.fld hE rfl fl78_1) rfl ?_; clear hE a; intro a hE
            refine WL.vS hS hE (runs_if hE rfl rfl rfl hg75) (Gives.loadB hE 0 rfl rfl rfl ty3) rfl ?_; clear hE a; intro a hE
            refine WL.fnq hE (Fleetwithin_ok hS  rfl (r := Fleetwithin x55.To 0 11)) (runs_if hE rfl rfl rfl hg75) bd37 rfl rfl rfl ?_
            clear hE hS; rintro e w ⟨rfl, hS⟩; refine ⟨_, rfl, ?_⟩; clear a; intro a hE
            refine WL.vS hS hE (runs_if hE rfl rfl rfl hg75) (Gives.p hE rfl) rfl ?_; clear hE a; intro a hE
            refine WL.vS hS hE (runs_plain rfl) (Gives.pickF hE rfl hg75 rfl) rfl ?_; clear hE a; intro a hE
            refine WL.vS hS hE (runs_plain rfl) (Gives.p hE rfl) rfl ?_; clear hE a; intro a hE
            rcases Bool.eq_false_or_eq_true (!(Fleetwithin x55.To 0 11)) with hg76 | hg76
            · replace hq69 := iteT hg76 hq69
              refine WL.no hE (runs_not hE rfl rfl rfl (by rw [hg76]; decide)) rfl ?_; clear hE a; intro a hE
              refine WL.no hE (runs_not hE rfl rfl rfl (by rw [hg76]; decide)) rfl ?_; clear hE a; intro a hE
              refine WL.no hE (runs_not hE rfl rfl rfl (by rw [hg76]; decide)) rfl ?_; clear hE a; intro a hE
              refine WL.no hE (runs_not hE rfl rfl rfl (by rw [hg76]; decide)) rfl ?_; clear hE a; intro a hE
              refine WL.vS hS hE (runs_plain rfl) (Gives.pickT hE rfl hg76 rfl) rfl ?_; clear hE a; intro a hE
              refine WL.vS hS hE (runs_plain rfl) (Gives.p hE rfl) rfl ?_; clear hE a; intro a hE
              refine WL.no hE (runs_not hE rfl rfl rfl (by decide)) rfl ?_; clear hE a; intro a hE
              refine WL.no hE (runs_not hE rfl rfl rfl (by decide)) rfl ?_; clear hE a; intro a hE
              refine WL.no hE (runs_not hE rfl rfl rfl (by decide)) rfl ?_; clear hE a; intro a hE
              refine WL.no hE (runs_not hE rfl rfl rfl (by decide)) rfl ?_; clear hE a; intro a hE
              refine WL.vS hS hE (runs_plain rfl) (Gives.pickT hE rfl rfl rfl) rfl ?_; clear hE a; intro a hE
              refine WL.vS hS hE (runs_plain rfl) (Gives.p hE rfl) rfl ?_; clear hE a; intro a hE
              refine WL.nil ?_
              subst hK74
              exact ⟨true, hq69, hE.pick _ ⟨rfl, rfl, rfl, rfl, rfl, trivial⟩, hS⟩
            · replace hq69 := iteF hg76 hq69
              refine WL.vS hS hE (runs_if hE rfl rfl rfl hg76) (Gives.fld hE rfl fl78_2) rfl ?_; clear hE a; intro a hE
              refine WL.vS hS hE (runs_if hE rfl rfl rfl hg76) (Gives.loadB hE 0 rfl rfl rfl ty3) rfl ?_; clear hE a; intro a hE
              refine WL.fnq hE (Fleetwithin_ok hS  rfl (r := Fleetwithin x55.Dep 0 28800)) (runs_if hE rfl rfl rfl hg76) bd37 rfl rfl rfl ?_
              clear hE hS; rintro e w ⟨rfl, hS⟩; refine ⟨_, rfl, ?_⟩; clear a; intro a hE
              refine WL.vS hS hE (runs_if hE rfl rfl rfl hg76) (Gives.p hE rfl) rfl ?_; clear hE a; intro a hE
              refine WL.vS hS hE (runs_plain rfl) (Gives.pickF hE rfl hg76 rfl) rfl ?_; clear hE a; intro a hE
              refine WL.vS hS hE (runs_plain rfl) (Gives.p hE rfl) rfl ?_; clear hE a; intro a hE
              rcases Bool.eq_false_or_eq_true (!(Fleetwithin x55.Dep 0 28800)) with hg77 | hg77
              · replace hq69 := iteT hg77 hq69
                refine WL.no hE (runs_not hE rfl rfl rfl (by rw [hg77]; decide)) rfl ?_; clear hE a; intro a hE
                refine WL.no hE (runs_not hE rfl rfl rfl (by rw [hg77]; decide)) rfl ?_; clear hE a; intro a hE
                refine WL.no hE (runs_not hE rfl rfl rfl (by rw [hg77]; decide)) rfl ?_; clear hE a; intro a hE
                refine WL.no hE (runs_not hE rfl rfl rfl (by rw [hg77]; decide)) rfl ?_; clear hE a; intro a hE
                refine WL.vS hS hE (runs_plain rfl) (Gives.pickT hE rfl hg77 rfl) rfl ?_; clear hE a; intro a hE
                refine WL.vS hS hE (runs_plain rfl) (Gives.p hE rfl) rfl ?_; clear hE a; intro a hE
                refine WL.nil ?_
                subst hK74
                exact ⟨true, hq69, hE.pick _ ⟨rfl, rfl, rfl, rfl, rfl, trivial⟩, hS⟩
              · replace hq69 := iteF hg77 hq69
                refine WL.vS hS hE (runs_if hE rfl rfl rfl hg77) (Gives.fld hE rfl fl78_3) rfl ?_; clear hE a; intro a hE
                refine WL.vS hS hE (runs_if hE rfl rfl rfl hg77) (Gives.loadB hE 0 rfl rfl rfl ty3) rfl ?_; clear hE a; intro a hE
                refine WL.fnq hE (Fleetwithin_ok hS  rfl (r := Fleetwithin x55.Arr 0 28800)) (runs_if hE rfl rfl rfl hg77) bd37 rfl rfl rfl ?_
                clear hE hS; rintro e w ⟨rfl, hS⟩; refine ⟨_, rfl, ?_⟩; clear a; intro a hE
                refine WL.vS hS hE (runs_if hE rfl rfl rfl hg77) (Gives.p hE rfl) rfl ?_; clear hE a; intro a hE
                refine WL.vS hS hE (runs_plain rfl) (Gives.pickF hE rfl hg77 rfl) rfl ?_; clear hE a; intro a hE
                refine WL.vS hS hE (runs_plain rfl) (Gives.p hE rfl) rfl ?_; clear hE a; intro a hE
                refine WL.nil ?_
                subst hK74
                exact ⟨!(Fleetwithin x55.Arr 0 28800), hq69, hE.pick _ ⟨rfl, rfl, rfl, rfl, rfl, trivial⟩, hS⟩
        · clear hE hS a w; rintro a w ⟨q73, rfl, hE, hS⟩
          refine W.cond hE rfl (fun hc78 => ?_) (fun hc78 => ?_)
          · replace hq52 := iteT hc78 hq52
            refine W.seq ?_
            refine W.region ?_
            refine WL.vS hS hE (runs_plain rfl) (Gives.p hE rfl) rfl ?_; clear hE a; intro a hE
            refine WL.nil ?_
            refine W.ret ?_
            subst hK63
            rw [← hq52] at hr
            dsimp only at hr
            refine finG (fn := Try.f54) (rs := [.tmp 2]) (vs := [_]) hE rfl ⟨rfl, trivial⟩ ?_
            subst hr
            replace hS := hS.tail
            exact ⟨rfl, hS⟩
          · replace hq52 := iteF hc78 hq52
            refine W.seq ?_
            refine W.region ?_
            refine WL.vS hS hE (runs_plain rfl) (Gives.fld hE rfl fl78_3) rfl ?_; clear hE a; intro a hE
            refine WL.vS hS hE (runs_plain rfl) (Gives.loadB hE 0 rfl rfl rfl ty3) rfl ?_; clear hE a; intro a hE
            refine WL.vS hS hE (runs_plain rfl) (Gives.fld hE rfl fl78_2) rfl ?_; clear hE a; intro a hE
            refine WL.vS hS hE (runs_plain rfl) (Gives.loadB hE 0 rfl rfl rfl ty3) rfl ?_; clear hE a; intro a hE
            refine WL.vS hS hE (runs_plain rfl) (Gives.p hE rfl) rfl ?_; clear hE a; intro a hE
            refine WL.vS hS hE (runs_plain rfl) (Gives.p hE rfl) rfl ?_; clear hE a; intro a hE
            refine WL.nil ?_
            refine W.cond hE rfl (fun hc79 => ?_) (fun hc79 => ?_)
            · replace hq52 := iteT hc79 hq52
              refine W.seq ?_
              refine W.region ?_
              refine WL.vS hS hE (runs_plain rfl) (Gives.p hE rfl) rfl ?_; clear hE a; intro a hE
              refine WL.nil ?_
              refine W.ret ?_
              subst hK63
              rw [← hq52] at hr
              dsimp only at hr
              refine finG (fn := Try.f54) (rs := [.tmp 2]) (vs := [_]) hE rfl ⟨rfl, trivial⟩ ?_
              subst hr
              replace hS := hS.tail
              exact ⟨rfl, hS⟩
            · replace hq52 := iteF hc79 hq52
              refine W.seq ?_
              obtain ⟨q81, hq80, hq52⟩ := bndS hq52
              refine W.cut (fun a w => ∃ (q84 : Bool), q84 = q81 ∧ Rep a 55 [(8, .slice a0 x0.length c0), (9, .int .i64 ((x0).length : Int)), (10, .int .i64 ((k54 : Nat) : Int)), (43, .bool q84)] ∧ St w s (pt b68 (.cells (FleetTask.cells x55).toArray 78 (0, 0)) :: R)) ?_ ?_
              · refine W.gen fun K85 hK85 => ?_
                refine W.region ?_
                refine WL.vS hS hE (runs_plain rfl) (Gives.fld hE rfl fl78_4) rfl ?_; clear hE a; intro a hE
                refine WL.vS hS hE (runs_plain rfl) (Gives.loadB hE 0 rfl rfl rfl ty3) rfl ?_; clear hE a; intro a hE
                refine WL.fnq hE (Fleetwithin_ok hS  rfl (r := Fleetwithin x55.Km 0 10000)) (runs_plain rfl) bd37 rfl rfl rfl ?_
                clear hE hS; rintro e w ⟨rfl, hS⟩; refine ⟨_, rfl, ?_⟩; clear a; intro a hE
                refine WL.vS hS hE (runs_plain rfl) (Gives.p hE rfl) rfl ?_; clear hE a; intro a hE
                refine WL.vS hS hE (runs_plain rfl) (Gives.p hE rfl) rfl ?_; clear hE a; intro a hE
                rcases Bool.eq_false_or_eq_true (!(Fleetwithin x55.Km 0 10000)) with hg86 | hg86
                · replace hq80 := iteT hg86 hq80
                  refine WL.no hE (runs_not hE rfl rfl rfl (by rw [hg86]; decide)) rfl ?_; clear hE a; intro a hE
                  refine WL.no hE (runs_not hE rfl rfl rfl (by rw [hg86]; decide)) rfl ?_; clear hE a; intro a hE
                  refine WL.no hE (runs_not hE rfl rfl rfl (by rw [hg86]; decide)) rfl ?_; clear hE a; intro a hE
                  refine WL.no hE (runs_not hE rfl rfl rfl (by rw [hg86]; decide)) rfl ?_; clear hE a; intro a hE
                  refine WL.vS hS hE (runs_plain rfl) (Gives.pickT hE rfl hg86 rfl) rfl ?_; clear hE a; intro a hE
                  refine WL.vS hS hE (runs_plain rfl) (Gives.p hE rfl) rfl ?_; clear hE a; intro a hE
                  refine WL.nil ?_
                  subst hK85
                  exact ⟨true, hq80, hE.pick _ ⟨rfl, rfl, rfl, rfl, trivial⟩, hS⟩
                · replace hq80 := iteF hg86 hq80
                  refine WL.vS hS hE (runs_if hE rfl rfl rfl hg86) (Gives.fld hE rfl fl78_5) rfl ?_; clear hE a; intro a hE
                  refine WL.vS hS hE (runs_if hE rfl rfl rfl hg86) (Gives.loadB hE 0 rfl rfl rfl ty3) rfl ?_; clear hE a; intro a hE
                  refine WL.fnq hE (Fleetwithin_ok hS  rfl (r := Fleetwithin x55.Units 1 4)) (runs_if hE rfl rfl rfl hg86) bd37 rfl rfl rfl ?_
                  clear hE hS; rintro e w ⟨rfl, hS⟩; refine ⟨_, rfl, ?_⟩; clear a; intro a hE
                  refine WL.vS hS hE (runs_if hE rfl rfl rfl hg86) (Gives.p hE rfl) rfl ?_; clear hE a; intro a hE
                  refine WL.vS hS hE (runs_plain rfl) (Gives.pickF hE rfl hg86 rfl) rfl ?_; clear hE a; intro a hE
                  refine WL.vS hS hE (runs_plain rfl) (Gives.p hE rfl) rfl ?_; clear hE a; intro a hE
                  refine WL.nil ?_
                  subst hK85
                  exact ⟨!(Fleetwithin x55.Units 1 4), hq80, hE.pick _ ⟨rfl, rfl, rfl, rfl, trivial⟩, hS⟩
              · clear hE hS a w; rintro a w ⟨q84, rfl, hE, hS⟩
                refine W.cond hE rfl (fun hc87 => ?_) (fun hc87 => ?_)
                · replace hq52 := iteT hc87 hq52
                  refine W.seq ?_
                  refine W.region ?_
                  refine WL.vS hS hE (runs_plain rfl) (Gives.p hE rfl) rfl ?_; clear hE a; intro a hE
                  refine WL.nil ?_
                  refine W.ret ?_
                  subst hK63
                  rw [← hq52] at hr
                  dsimp only at hr
                  refine finG (fn := Try.f54) (rs := [.tmp 2]) (vs := [_]) hE rfl ⟨rfl, trivial⟩ ?_
                  subst hr
                  replace hS := hS.tail
                  exact ⟨rfl, hS⟩
                · replace hq52 := iteF hc87 hq52
                  refine W.skip ?_
                  refine W.region ?_
                  refine WL.vS hS hE (runs_plain rfl) (Gives.inc hE rfl (by have := h0.small; omega)) rfl ?_; clear hE a; intro a hE
                  refine WL.vS hS hE (runs_plain rfl) (Gives.p hE rfl) rfl ?_; clear hE a; intro a hE
                  refine WL.nil ?_
                  replace hS := hS.tail
                  subst hK63
                  exact ⟨rest56.length, Nat.lt_succ_self _, rest56, k54 + 1, rfl, hd57, hq52, hE.pick _ ⟨rfl, rfl, rfl, trivial⟩, hS⟩
    · clear hE hS a w; rintro a w ⟨rfl, hE, hS⟩
      dsimp only at hr
      refine W.seq ?_
      refine W.region ?_
      refine WL.vS hS hE (runs_plain rfl) (Gives.p hE rfl) rfl ?_; clear hE a; intro a hE
      refine WL.nil ?_
      refine W.ret ?_
      refine finG (fn := Try.f54) (rs := [.tmp 2]) (vs := [_]) hE rfl ⟨rfl, trivial⟩ ?_
      subst hr
      exact ⟨rfl, hS⟩
set_option maxHeartbeats 8000000 in
theorem FleetCheckLimits_ok  {w : World} {s : Sg} {R : List HP} {x0 : FleetLimits} (hS : St w s (R))  {r : Int} (hr : FleetCheckLimits x0 = r) :
    Calls Try.prog 36 [.agg (FleetLimits.cells x0).toArray].toArray w (fun e w => e = .returned (.int .i64 r) ∧ St w s (R)) := by
  refine enter Try.func36 rfl rfl rfl fun a hE => ?_
  rw [FleetCheckLimits] at hr
  refine W.seq ?_
  refine W.region ?_
  refine WL.box hE hS (runs_plain rfl) rfl rfl rfl ?_; clear hE hS a w; intro b51 a w hE hS
  refine WL.vS hS hE (runs_plain rfl) (Gives.p hE rfl) rfl ?_; clear hE a; intro a hE
  refine WL.nil ?_
  refine W.seq ?_
  refine W.seq ?_
  refine W.region ?_
  refine WL.vS hS hE (runs_plain rfl) (Gives.fld hE rfl fl24_0) rfl ?_; clear hE a; intro a hE
  refine WL.vS hS hE (runs_plain rfl) (Gives.loadB hE 0 rfl rfl rfl ty3) rfl ?_; clear hE a; intro a hE
  refine WL.vS hS hE (runs_plain rfl) (Gives.fld hE rfl fl24_1) rfl ?_; clear hE a; intro a hE
  refine WL.vS hS hE (runs_plain rfl) (Gives.loadB hE 0 rfl rfl rfl ty3) rfl ?_; clear hE a; intro a hE
  refine WL.vS hS hE (runs_plain rfl) (Gives.fld hE rfl fl24_2) rfl ?_; clear hE a; intro a hE
  refine WL.vS hS hE (runs_plain rfl) (Gives.loadB hE 0 rfl rfl rfl ty3) rfl ?_; clear hE a; intro a hE
  refine WL.vS hS hE (runs_plain rfl) (Gives.fld hE rfl fl24_3) rfl ?_; clear hE a; intro a hE
  refine WL.vS hS hE (runs_plain rfl) (Gives.loadB hE 0 rfl rfl rfl ty3) rfl ?_; clear hE a; intro a hE
  refine WL.vS hS hE (runs_plain rfl) (Gives.fld hE rfl fl24_4) rfl ?_; clear hE a; intro a hE
  refine WL.vS hS hE (runs_plain rfl) (Gives.loadB hE 0 rfl rfl rfl ty3) rfl ?_; clear hE a; intro a hE
  refine WL.vS hS hE (runs_plain rfl) (Gives.fld hE rfl fl24_5) rfl ?_; clear hE a; intro a hE
  refine WL.vS hS hE (runs_plain rfl) (Gives.loadB hE 0 rfl rfl rfl ty3) rfl ?_; clear hE a; intro a hE
  refine WL.vS hS hE (runs_plain rfl) (Gives.build hE (vs := [(0, .int .i64 x0.Change), (1, .int .i64 x0.Long), (2, .int .i64 x0.Work), (3, .int .i64 x0.After), (4, .int .i64 x0.Break), (5, .int .i64 x0.Rest)]) [.int .i64 x0.Change, .int .i64 x0.Long, .int .i64 x0.Work, .int .i64 x0.After, .int .i64 x0.Break, .int .i64 x0.Rest] rfl (by kernel_rfl)) rfl ?_; clear hE a; intro a hE
  refine WL.vS hS hE (runs_plain rfl) (Gives.p hE rfl) rfl ?_; clear hE a; intro a hE
  refine WL.nil ?_
  obtain ⟨q53, hq52, hr⟩ := bndS hr
  refine W.cut (fun a w => (.next ()) = q53 ∧ Rep a 29 [(1, .pointer (some ⟨b51, 0, none⟩))] ∧ St w s (pt b51 (.cells (FleetLimits.cells x0).toArray 24 (0, 0)) :: R)) ?_ ?_
  · refine W.block ?_
    refine W.loop (fun m a w => ∃ (rest56 : List Int) (k54 : Nat), rest56.length = m ∧ [x0.Change, x0.Long, x0.Work, x0.After, x0.Break, x0.Rest].drop k54 = rest56 ∧ FleetCheckLimits.loop1 rest56 = q53 ∧ Rep a 29 [(1, .pointer (some ⟨b51, 0, none⟩)), (17, .agg [.int .i64 x0.Change, .int .i64 x0.Long, .int .i64 x0.Work, .int .i64 x0.After, .int .i64 x0.Break, .int .i64 x0.Rest].toArray), (18, .int .i64 ((k54 : Nat) : Int))] ∧ St w s (pt b51 (.cells (FleetLimits.cells x0).toArray 24 (0, 0)) :: R)) (m := [x0.Change, x0.Long, x0.Work, x0.After, x0.Break, x0.Rest].length) ⟨[x0.Change, x0.Long, x0.Work, x0.After, x0.Break, x0.Rest], 0, rfl, rfl, hq52, hE.pick _ ⟨rfl, rfl, rfl, trivial⟩, hS⟩ ?_
    clear hE hS a w hq52; rintro m60 a w ⟨rest56, k54, rfl, hd57, hq52, hE, hS⟩
    refine W.gen fun K63 hK63 => ?_
    rcases rest56 with _ | ⟨x55, rest56⟩
    · have hlt58 : 6 ≤ k54 := drop_nil hd57
      refine W.seq ?_
      refine W.region ?_
      refine WL.vS hS hE (runs_plain rfl) (Gives.p hE rfl) rfl ?_; clear hE a; intro a hE
      refine WL.nil ?_
      refine W.seq ?_
      refine W.condF hE rfl (decide_eq_false (by omega)) ?_
      subst hK63
      refine W.exit rfl ?_
      exact ⟨hq52, hE.pick _ ⟨rfl, trivial⟩, hS⟩
    · obtain ⟨hlt58, hx59, hd57⟩ := drop_cons hd57
      replace hlt58 : k54 < 6 := hlt58
      rw [FleetCheckLimits.loop1] at hq52
      refine W.seq ?_
      refine W.region ?_
      refine WL.vS hS hE (runs_plain rfl) (Gives.p hE rfl) rfl ?_; clear hE a; intro a hE
      refine WL.nil ?_
      refine W.seq ?_
      refine W.condT hE rfl (decide_eq_true (by omega)) ?_
      refine W.skip ?_
      refine W.seq ?_
      refine W.block ?_
      refine W.seq ?_
      refine W.region ?_
      refine WL.vS hS hE (runs_plain rfl) (Gives.indexM hE (f := (Value.int .i64)) (l := [x0.Change, x0.Long, x0.Work, x0.After, x0.Break, x0.Rest]) (k := k54) ar131 rfl rfl rfl rfl hx59) rfl ?_; clear hE a; intro a hE
      refine WL.vS hS hE (runs_plain rfl) (Gives.p hE rfl) rfl ?_; clear hE a; intro a hE
      refine WL.nil ?_
      refine W.seq ?_
      refine W.region ?_
      refine WL.vS hS hE (runs_plain rfl) (Gives.p hE rfl) rfl ?_; clear hE a; intro a hE
      refine WL.fnq hE (Fleetwithin_ok hS  rfl (r := Fleetwithin x55 0 86400)) (runs_plain rfl) bd37 rfl rfl rfl ?_
      clear hE hS; rintro e w ⟨rfl, hS⟩; refine ⟨_, rfl, ?_⟩; clear a; intro a hE
      refine WL.vS hS hE (runs_plain rfl) (Gives.p hE rfl) rfl ?_; clear hE a; intro a hE
      refine WL.nil ?_
      refine W.cond hE rfl (fun hc64 => ?_) (fun hc64 => ?_)
      · replace hq52 := iteT hc64 hq52
        refine W.seq ?_
        refine W.region ?_
        refine WL.vS hS hE (runs_plain rfl) (Gives.p hE rfl) rfl ?_; clear hE a; intro a hE
        refine WL.nil ?_
        refine W.ret ?_
        subst hK63
        rw [← hq52] at hr
        dsimp only at hr
        refine finG (fn := Try.f36) (rs := [.tmp 2]) (vs := [_]) hE rfl ⟨rfl, trivial⟩ ?_
        subst hr
        replace hS := hS.tail
        exact ⟨rfl, hS⟩
      · replace hq52 := iteF hc64 hq52
        refine W.skip ?_
        refine W.region ?_
        refine WL.vS hS hE (runs_plain rfl) (Gives.inc hE rfl (by omega)) rfl ?_; clear hE a; intro a hE
        refine WL.vS hS hE (runs_plain rfl) (Gives.p hE rfl) rfl ?_; clear hE a; intro a hE
        refine WL.nil ?_
        subst hK63
        exact ⟨rest56.length, Nat.lt_succ_self _, rest56, k54 + 1, rfl, hd57, hq52, hE.pick _ ⟨rfl, rfl, rfl, trivial⟩, hS⟩
  · clear hE hS a w; rintro a w ⟨rfl, hE, hS⟩
    dsimp only at hr
    refine W.seq ?_
    refine W.seq ?_
    refine W.region ?_
    refine WL.vS hS hE (runs_plain rfl) (Gives.fld hE rfl fl24_6) rfl ?_; clear hE a; intro a hE
    refine WL.vS hS hE (runs_plain rfl) (Gives.loadB hE 0 rfl rfl rfl ty3) rfl ?_; clear hE a; intro a hE
    refine WL.fnq hE (Fleetwithin_ok hS  rfl (r := Fleetwithin x0.Row 1 7)) (runs_plain rfl) bd37 rfl rfl rfl ?_
    clear hE hS; rintro e w ⟨rfl, hS⟩; refine ⟨_, rfl, ?_⟩; clear a; intro a hE
    refine WL.vS hS hE (runs_plain rfl) (Gives.p hE rfl) rfl ?_; clear hE a; intro a hE
    refine WL.nil ?_
    refine W.cond hE rfl (fun hc65 => ?_) (fun hc65 => ?_)
    · replace hr := iteT hc65 hr
      refine W.seq ?_
      refine W.region ?_
      refine WL.vS hS hE (runs_plain rfl) (Gives.p hE rfl) rfl ?_; clear hE a; intro a hE
      refine WL.nil ?_
      refine W.ret ?_
      refine finG (fn := Try.f36) (rs := [.tmp 2]) (vs := [_]) hE rfl ⟨rfl, trivial⟩ ?_
      subst hr
      replace hS := hS.tail
      exact ⟨rfl, hS⟩
    · replace hr := iteF hc65 hr
      refine W.skip ?_
      refine W.seq ?_
      refine W.region ?_
      refine WL.vS hS hE (runs_plain rfl) (Gives.p hE rfl) rfl ?_; clear hE a; intro a hE
      refine WL.nil ?_
      refine W.ret ?_
      refine finG (fn := Try.f36) (rs := [.tmp 2]) (vs := [_]) hE rfl ⟨rfl, trivial⟩ ?_
      subst hr
      replace hS := hS.tail
      exact ⟨rfl, hS⟩
set_option maxHeartbeats 8000000 in
theorem FleetcheckTasks_ok  {w : World} {s : Sg} {R : List HP} {x0 : List FleetTask} {a0 : Option Addr} {c0 : Nat} {x1 : FleetLimits} (hS : St w s (R)) (h0 : Sl 6 RFleetTask s a0 c0 x0) {r : Int} (hr : FleetcheckTasks x0 x1 = r) :
    Calls Try.prog 79 [.slice a0 x0.length c0, .agg (FleetLimits.cells x1).toArray].toArray w (fun e w => e = .returned (.int .i64 r) ∧ St w s (R)) := by
  refine enter Try.func79 rfl rfl rfl fun a hE => ?_
  rw [FleetcheckTasks] at hr
  refine W.seq ?_
  refine W.region ?_
  refine WL.box hE hS (runs_plain rfl) rfl rfl rfl ?_; clear hE hS a w; intro b51 a w hE hS
  refine WL.vS hS hE (runs_plain rfl) (Gives.p hE rfl) rfl ?_; clear hE a; intro a hE
  refine WL.nil ?_
  refine W.seq ?_
  refine W.seq ?_
  refine W.region ?_
  refine WL.vS hS hE (runs_plain rfl) (Gives.p hE rfl) rfl ?_; clear hE a; intro a hE
  refine WL.fnq hE (FleetCheckTasks_ok hS h0 rfl (r := FleetCheckTasks x0)) (runs_plain rfl) bd54 rfl rfl rfl ?_
  clear hE hS; rintro e w ⟨rfl, hS⟩; refine ⟨_, rfl, ?_⟩; clear a; intro a hE
  refine WL.vS hS hE (runs_plain rfl) (Gives.p hE rfl) rfl ?_; clear hE a; intro a hE
  refine WL.nil ?_
  refine W.seq ?_
  refine W.region ?_
  refine WL.vS hS hE (runs_plain rfl) (Gives.p hE rfl) rfl ?_; clear hE a; intro a hE
  refine WL.vS hS hE (runs_plain rfl) (Gives.p hE rfl) rfl ?_; clear hE a; intro a hE
  refine WL.nil ?_
  refine W.cond hE rfl (fun hc52 => ?_) (fun hc52 => ?_)
  · replace hr := iteT hc52 hr
    refine W.seq ?_
    refine W.region ?_
    refine WL.vS hS hE (runs_plain rfl) (Gives.p hE rfl) rfl ?_; clear hE a; intro a hE
    refine WL.vS hS hE (runs_plain rfl) (Gives.p hE rfl) rfl ?_; clear hE a; intro a hE
    refine WL.nil ?_
    refine W.ret ?_
    refine finG (fn := Try.f79) (rs := [.tmp 4]) (vs := [_]) hE rfl ⟨rfl, trivial⟩ ?_
    subst hr
    replace hS := hS.tail
    exact ⟨rfl, hS⟩
  · replace hr := iteF hc52 hr
    refine W.skip ?_
    refine W.seq ?_
    refine W.region ?_
    refine WL.vS hS hE (runs_plain rfl) (Gives.loadBA hE 0 rfl rfl ty24) rfl ?_; clear hE a; intro a hE
    refine WL.fnq hE (FleetCheckLimits_ok hS  rfl (r := FleetCheckLimits x1)) (runs_plain rfl) bd36 rfl rfl rfl ?_
    clear hE hS; rintro e w ⟨rfl, hS⟩; refine ⟨_, rfl, ?_⟩; clear a; intro a hE
    refine WL.vS hS hE (runs_plain rfl) (Gives.p hE rfl) rfl ?_; clear hE a; intro a hE
    refine WL.nil ?_
    refine W.ret ?_
    refine finG (fn := Try.f79) (rs := [.tmp 4]) (vs := [_]) hE rfl ⟨rfl, trivial⟩ ?_
    subst hr
    replace hS := hS.tail
    exact ⟨rfl, hS⟩
set_option maxHeartbeats 8000000 in
theorem SlicesIndexLbool_ok  {w : World} {s : Sg} {R : List HP} {x0 : List Bool} {a0 : Option Addr} {c0 : Nat} {x1 : Bool} (hS : St w s (R)) (h0 : Sl 1 RB s a0 c0 x0) {r : Int} (hr : SlicesIndexLbool x0 x1 = r) :
    Calls Try.prog 136 [.slice a0 x0.length c0, .bool x1].toArray w (fun e w => e = .returned (.int .i64 r) ∧ St w s (R)) := by
  refine enter Try.func136 rfl rfl rfl fun a hE => ?_
  rw [SlicesIndexLbool] at hr
  refine W.seq ?_
  refine W.region ?_
  refine WL.vS hS hE (runs_plain rfl) (Gives.p hE rfl) rfl ?_; clear hE a; intro a hE
  refine WL.nil ?_
  refine W.seq ?_
  refine W.seq ?_
  refine W.region ?_
  refine WL.vS hS hE (runs_plain rfl) (Gives.p hE rfl) rfl ?_; clear hE a; intro a hE
  refine WL.vS hS hE (runs_plain rfl) (Gives.len hE rfl sl101) rfl ?_; clear hE a; intro a hE
  refine WL.vS hS hE (runs_plain rfl) (Gives.p hE rfl) rfl ?_; clear hE a; intro a hE
  refine WL.nil ?_
  obtain ⟨q52, hq51, hr⟩ := bndS hr
  refine W.cut (fun a w => (.next ()) = q52 ∧ Rep a 19 [] ∧ St w s (R)) ?_ ?_
  · refine W.block ?_
    refine W.loop (fun m a w => ∃ (rest55 : List Bool) (k53 : Nat), rest55.length = m ∧ x0.drop k53 = rest55 ∧ SlicesIndexLbool.loop1 x1 rest55 k53 = q52 ∧ Rep a 19 [(0, .slice a0 x0.length c0), (1, .bool x1), (7, .int .i64 ((x0).length : Int)), (8, .int .i64 ((k53 : Nat) : Int))] ∧ St w s (R)) (m := x0.length) ⟨x0, 0, rfl, rfl, hq51, hE.pick _ ⟨rfl, rfl, rfl, rfl, trivial⟩, hS⟩ ?_
    clear hE hS a w hq51; rintro m59 a w ⟨rest55, k53, rfl, hd56, hq51, hE, hS⟩
    refine W.gen fun K62 hK62 => ?_
    rcases rest55 with _ | ⟨x54, rest55⟩
    · have hlt57 := drop_nil hd56
      refine W.seq ?_
      refine W.region ?_
      refine WL.vS hS hE (runs_plain rfl) (Gives.p hE rfl) rfl ?_; clear hE a; intro a hE
      refine WL.nil ?_
      refine W.seq ?_
      refine W.condF hE rfl (decide_eq_false (by omega)) ?_
      subst hK62
      refine W.exit rfl ?_
      exact ⟨hq51, hE.pick _ trivial, hS⟩
    · obtain ⟨hlt57, hx58, hd56⟩ := drop_cons hd56
      rw [SlicesIndexLbool.loop1] at hq51
      refine W.seq ?_
      refine W.region ?_
      refine WL.vS hS hE (runs_plain rfl) (Gives.p hE rfl) rfl ?_; clear hE a; intro a hE
      refine WL.nil ?_
      refine W.seq ?_
      refine W.condT hE rfl (decide_eq_true (by omega)) ?_
      refine W.skip ?_
      refine W.seq ?_
      refine W.block ?_
      refine W.seq ?_
      refine W.region ?_
      refine WL.vS hS hE (runs_plain rfl) (Gives.p hE rfl) rfl ?_; clear hE a; intro a hE
      refine WL.vS hS hE (runs_plain rfl) (Gives.p hE rfl) rfl ?_; clear hE a; intro a hE
      refine WL.nil ?_
      refine W.seq ?_
      refine W.region ?_
      refine WL.vS hS hE (runs_plain rfl) (Gives.p hE rfl) rfl ?_; clear hE a; intro a hE
      refine WL.vS hS hE (runs_plain rfl) (Gives.p hE rfl) rfl ?_; clear hE a; intro a hE
      refine WL.vS hS hE (runs_plain rfl) (Gives.p hE rfl) rfl ?_; clear hE a; intro a hE
      obtain ⟨cs63, hl64, hR65, hat66⟩ := h0.at hx58
      subst hR65
      refine WL.vS hS hE (runs_plain rfl) (Gives.idx hE k53 rfl rfl sl101 rfl hlt57 (h0.aok hlt57)) rfl ?_; clear hE a; intro a hE
      refine WL.vS hS hE (runs_plain rfl) (Gives.load1 hE rfl (fun w h => hat66 w _ h) ty4) rfl ?_; clear hE a; intro a hE
      refine WL.vS hS hE (runs_plain rfl) (Gives.eqB hE rfl rfl bl4) rfl ?_; clear hE a; intro a hE
      refine WL.nil ?_
      refine W.cond hE rfl (fun hc67 => ?_) (fun hc67 => ?_)
      · replace hq51 := iteT hc67 hq51
        refine W.seq ?_
        refine W.region ?_
        refine WL.vS hS hE (runs_plain rfl) (Gives.p hE rfl) rfl ?_; clear hE a; intro a hE
        refine WL.vS hS hE (runs_plain rfl) (Gives.p hE rfl) rfl ?_; clear hE a; intro a hE
        refine WL.nil ?_
        refine W.ret ?_
        subst hK62
        rw [← hq51] at hr
        dsimp only at hr
        refine finG (fn := Try.f136) (rs := [.tmp 4]) (vs := [_]) hE rfl ⟨rfl, trivial⟩ ?_
        subst hr
        exact ⟨rfl, hS⟩
      · replace hq51 := iteF hc67 hq51
        refine W.skip ?_
        refine W.region ?_
        refine WL.vS hS hE (runs_plain rfl) (Gives.inc hE rfl (by have := h0.small; omega)) rfl ?_; clear hE a; intro a hE
        refine WL.vS hS hE (runs_plain rfl) (Gives.p hE rfl) rfl ?_; clear hE a; intro a hE
        refine WL.nil ?_
        subst hK62
        exact ⟨rest55.length, Nat.lt_succ_self _, rest55, k53 + 1, rfl, hd56, hq51, hE.pick _ ⟨rfl, rfl, rfl, rfl, trivial⟩, hS⟩
  · clear hE hS a w; rintro a w ⟨rfl, hE, hS⟩
    dsimp only at hr
    refine W.seq ?_
    refine W.region ?_
    refine WL.vS hS hE (runs_plain rfl) (Gives.p hE rfl) rfl ?_; clear hE a; intro a hE
    refine WL.nil ?_
    refine W.ret ?_
    refine finG (fn := Try.f136) (rs := [.tmp 4]) (vs := [_]) hE rfl ⟨rfl, trivial⟩ ?_
    subst hr
    exact ⟨rfl, hS⟩
set_option maxHeartbeats 8000000 in
theorem SlicesContainsLbool_ok  {w : World} {s : Sg} {R : List HP} {x0 : List Bool} {a0 : Option Addr} {c0 : Nat} {x1 : Bool} (hS : St w s (R)) (h0 : Sl 1 RB s a0 c0 x0) {r : Bool} (hr : SlicesContainsLbool x0 x1 = r) :
    Calls Try.prog 119 [.slice a0 x0.length c0, .bool x1].toArray w (fun e w => e = .returned (.bool r) ∧ St w s (R)) := by
  refine enter Try.func119 rfl rfl rfl fun a hE => ?_
  rw [SlicesContainsLbool] at hr
  refine W.seq ?_
  refine W.region ?_
  refine WL.vS hS hE (runs_plain rfl) (Gives.p hE rfl) rfl ?_; clear hE a; intro a hE
  refine WL.nil ?_
  refine W.seq ?_
  refine W.region ?_
  refine WL.vS hS hE (runs_plain rfl) (Gives.p hE rfl) rfl ?_; clear hE a; intro a hE
  refine WL.vS hS hE (runs_plain rfl) (Gives.p hE rfl) rfl ?_; clear hE a; intro a hE
  refine WL.fnq hE (SlicesIndexLbool_ok hS h0 rfl (r := SlicesIndexLbool x0 x1)) (runs_plain rfl) bd136 rfl rfl rfl ?_
  clear hE hS; rintro e w ⟨rfl, hS⟩; refine ⟨_, rfl, ?_⟩; clear a; intro a hE
  refine WL.vS hS hE (runs_plain rfl) (Gives.p hE rfl) rfl ?_; clear hE a; intro a hE
  refine WL.vS hS hE (runs_plain rfl) (Gives.p hE rfl) rfl ?_; clear hE a; intro a hE
  refine WL.nil ?_
  refine W.ret ?_
  refine finG (fn := Try.f119) (rs := [.tmp 4]) (vs := [_]) hE rfl ⟨rfl, trivial⟩ ?_
  subst hr
  exact ⟨rfl, hS⟩
set_option maxHeartbeats 8000000 in
theorem SlicesCloneLint_ok  {w : World} {s : Sg} {R : List HP} {x0 : List Int} {a0 : Option Addr} {c0 : Nat} (hS : St w s (R)) (h0 : Sl 1 (RI .i64) s a0 c0 x0) {r : (List Int)} (hr : SlicesCloneLint x0 = some r) :
    Calls Try.prog 41 [.slice a0 x0.length c0].toArray w (fun e w => ∃ (a0 : Option Addr) (c0 n0 : Nat) (cs0 : List Value), e = .returned (.slice a0 n0 c0) ∧ Ev 1 (RI .i64) s cs0 r ∧ r.length = n0 ∧ St w s (vecC 3 1 a0 c0 n0 cs0 :: R)) := by
  refine enter Try.func41 rfl rfl rfl fun a hE => ?_
  rw [SlicesCloneLint] at hr
  refine W.seq ?_
  refine W.region ?_
  refine WL.vS hS hE (runs_plain rfl) (Gives.p hE rfl) rfl ?_; clear hE a; intro a hE
  refine WL.nil ?_
  refine W.seq ?_
  refine W.seq ?_
  refine W.region ?_
  refine WL.vS hS hE (runs_plain rfl) (Gives.p hE rfl) rfl ?_; clear hE a; intro a hE
  refine WL.vS hS hE (runs_plain rfl) (Gives.isNil hE rfl rfl isl44) rfl ?_; clear hE a; intro a hE
  refine WL.nil ?_
  rcases a0 with _ | g51
  · obtain rfl := h0.none_nil
    replace hr : some [] = _ := hr
    refine W.condT hE rfl rfl ?_
    refine W.seq ?_
    refine W.region ?_
    refine WL.vS hS hE (runs_plain rfl) (Gives.p hE rfl) rfl ?_; clear hE a; intro a hE
    refine WL.nil ?_
    refine W.ret ?_
    replace hS := hS.vecNil 3 1
    refine finG (fn := Try.f41) (rs := [.tmp 2]) (vs := [_]) hE rfl ⟨rfl, trivial⟩ ?_
    obtain rfl := Option.some.inj hr
    exact ⟨none, 0, 0, [], rfl, (Ev.nil), (rfl), hS⟩
  · skip
    refine W.condF hE rfl rfl ?_
    refine W.skip ?_
    refine W.seq ?_
    refine W.region ?_
    refine WL.lit hE hS (e := 3) (es := 1) (vs := []) (cs := []) (runs_plain rfl) rfl (by kernel_rfl) rfl ?_; clear hE hS a w; intro b53 a w hE hS
    replace hS := hS.ptVec (es := 1) (m := 0) rfl (by decide)
    have h55 : Ev 1 (RI .i64) s [] [] := (Ev.nil)
    refine WL.vS hS hE (runs_plain rfl) (Gives.p hE rfl) rfl ?_; clear hE a; intro a hE
    obtain ⟨x56, hx57, hr⟩ := bindS hr
    refine WL.appS hE hS 0 (runs_plain rfl) rfl rfl (xs := x0) rfl rfl ap44 RI.one h55 (rfl) h0 hx57 rfl ?_; clear hE hS a w; intro a58 c59 cs60 a w h61 hE hS
    refine WL.vS hS hE (runs_plain rfl) (Gives.p hE rfl) rfl ?_; clear hE a; intro a hE
    refine WL.nil ?_
    refine W.ret ?_
    refine finG (fn := Try.f41) (rs := [.tmp 2]) (vs := [_]) hE rfl ⟨rfl, trivial⟩ ?_
    obtain rfl := Option.some.inj hr
    exact ⟨a58, c59, x56.length, cs60, rfl, h61, (rfl), hS⟩
set_option maxHeartbeats 8000000 in
theorem FleetDividertake_v3_ok  {self_FleetDividerdivide_v1 : Int → Int → (List Int) → FleetDivider → Option (Bool × (List Bool) × (List (List Int)))} (ih_FleetDividerdivide_v1 : ∀ {w : World} {s : Sg} {R : List HP} {pb0 : Nat} {x1 : Int} {x2 : Int} {x3 : List Int} {a3 : Option Addr} {c3 : Nat} {y0 : FleetDivider} {a_y0_0 : Option Addr} {c_y0_0 : Nat} {a_v0 : Option Addr} {c_v0 n_v0 : Nat} {cs_v0 : List Value} {a_v1 : Option Addr} {c_v1 n_v1 : Nat} {cs_v1 : List Value} (_hS : St w s (pt pb0 (.cells #[.slice a_y0_0 y0.tasks.length c_y0_0, .int .i64 y0.limits.Change, .int .i64 y0.limits.Long, .int .i64 y0.limits.Work, .int .i64 y0.limits.After, .int .i64 y0.limits.Break, .int .i64 y0.limits.Rest, .int .i64 y0.limits.Row, .slice a_v0 n_v0 c_v0, .slice a_v1 n_v1 c_v1] 114 (0, 0)) :: vecC 4 1 a_v0 c_v0 n_v0 cs_v0 :: vecC 44 1 a_v1 c_v1 n_v1 cs_v1 :: R)) (_h3 : Sl 1 (RI .i64) s a3 c3 x3) (_hz3 : x3 = [] → a3 = none) (_h_y0_0 : Sl 6 RFleetTask s a_y0_0 c_y0_0 y0.tasks) (_h_v0 : Ev 1 RB s cs_v0 y0.used) (_hn_v0 : y0.used.length = n_v0) (_h_v1 : Ev 1 (RL 1 (RI .i64)) s cs_v1 y0.duties) (_hn_v1 : y0.duties.length = n_v1) {r : Bool × (List Bool) × (List (List Int))} (_hr : self_FleetDividerdivide_v1 x1 x2 x3 y0 = some r), Calls Try.prog 80 [.pointer (some ⟨pb0, 0, none⟩), .int .i64 x1, .int .i64 x2, .slice a3 x3.length c3].toArray w (fun e w => ∃ (cs68 : List Value) (a71 : Option Addr) (c72 : Nat) (n74 : Nat) (cs75 : List Value) (t : Sg), e = .returned (.bool r.1) ∧ s.Le t ∧ Ev 1 RB t cs68 r.2.1 ∧ r.2.1.length = n_v0 ∧ Ev 1 (RL 1 (RI .i64)) t cs75 r.2.2 ∧ r.2.2.length = n74 ∧ St w t (pt pb0 (.cells #[.slice a_y0_0 y0.tasks.length c_y0_0, .int .i64 y0.limits.Change, .int .i64 y0.limits.Long, .int .i64 y0.limits.Work, .int .i64 y0.limits.After, .int .i64 y0.limits.Break, .int .i64 y0.limits.Rest, .int .i64 y0.limits.Row, .slice a_v0 n_v0 c_v0, .slice a71 n74 c72] 114 (0, 0)) :: vecC 4 1 a_v0 c_v0 n_v0 cs68 :: vecC 44 1 a71 c72 n74 cs75 :: R))) {w : World} {s : Sg} {R : List HP} {pb0 : Nat} {x1 : Int} {x2 : Int} {x3 : List Int} {a3 : Option Addr} {c3 : Nat} {x4 : Int} {y0 : FleetDivider} {a_y0_0 : Option Addr} {c_y0_0 : Nat} {a_v0 : Option Addr} {c_v0 n_v0 : Nat} {cs_v0 : List Value} {a_v1 : Option Addr} {c_v1 n_v1 : Nat} {cs_v1 : List Value} (hS : St w s (pt pb0 (.cells #[.slice a_y0_0 y0.tasks.length c_y0_0, .int .i64 y0.limits.Change, .int .i64 y0.limits.Long, .int .i64 y0.limits.Work, .int .i64 y0.limits.After, .int .i64 y0.limits.Break, .int .i64 y0.limits.Rest, .int .i64 y0.limits.Row, .slice a_v0 n_v0 c_v0, .slice a_v1 n_v1 c_v1] 114 (0, 0)) :: vecC 4 1 a_v0 c_v0 n_v0 cs_v0 :: vecC 44 1 a_v1 c_v1 n_v1 cs_v1 :: R)) (h3 : Sl 1 (RI .i64) s a3 c3 x3) (h_y0_0 : Sl 6 RFleetTask s a_y0_0 c_y0_0 y0.tasks) (h_v0 : Ev 1 RB s cs_v0 y0.used) (hn_v0 : y0.used.length = n_v0) (h_v1 : Ev 1 (RL 1 (RI .i64)) s cs_v1 y0.duties) (hn_v1 : y0.duties.length = n_v1) {r : Bool × (List Bool) × (List (List Int))} (hr : FleetDividertake_v3 self_FleetDividerdivide_v1 x1 x2 x3 x4 y0 = some r) :
    Calls Try.prog 120 [.pointer (some ⟨pb0, 0, none⟩), .int .i64 x1, .int .i64 x2, .slice a3 x3.length c3, .int .i64 x4].toArray w (fun e w => ∃ (cs68 : List Value) (a71 : Option Addr) (c72 : Nat) (n74 : Nat) (cs75 : List Value) (t : Sg), e = .returned (.bool r.1) ∧ s.Le t ∧ Ev 1 RB t cs68 r.2.1 ∧ r.2.1.length = n_v0 ∧ Ev 1 (RL 1 (RI .i64)) t cs75 r.2.2 ∧ r.2.2.length = n74 ∧ St w t (pt pb0 (.cells #[.slice a_y0_0 y0.tasks.length c_y0_0, .int .i64 y0.limits.Change, .int .i64 y0.limits.Long, .int .i64 y0.limits.Work, .int .i64 y0.limits.After, .int .i64 y0.limits.Break, .int .i64 y0.limits.Rest, .int .i64 y0.limits.Row, .slice a_v0 n_v0 c_v0, .slice a71 n74 c72] 114 (0, 0)) :: vecC 4 1 a_v0 c_v0 n_v0 cs68 :: vecC 44 1 a71 c72 n74 cs75 :: R)) := by
  refine enter Try.func120 rfl rfl rfl fun a hE => ?_
  rw [FleetDividertake_v3] at hr
  subst hn_v0
  subst hn_v1
  refine W.seq ?_
  refine W.region ?_
  refine WL.vS hS hE (runs_plain rfl) (Gives.p hE rfl) rfl ?_; clear hE a; intro a hE
  refine WL.nil ?_
  refine W.seq ?_
  refine W.seq ?_
  refine W.region ?_
  refine WL.vS hS hE (runs_plain rfl) (Gives.p hE rfl) rfl ?_; clear hE a; intro a hE
  refine WL.vS hS hE (runs_plain rfl) (Gives.nilOk hE rfl) rfl ?_; clear hE a; intro a hE
  refine WL.vS hS hE (runs_plain rfl) (Gives.fld hE rfl fl114_2) rfl ?_; clear hE a; intro a hE
  refine WL.vS hS hE (runs_plain rfl) (Gives.loadB hE 0 rfl rfl rfl ty101) rfl ?_; clear hE a; intro a hE
  refine WL.vS hS hE (runs_plain rfl) (Gives.p hE rfl) rfl ?_; clear hE a; intro a hE
  obtain ⟨x77, hx78, hr⟩ := bindS hr
  obtain ⟨hi79, hlt80, hy81⟩ := gx_some hx78
  obtain ⟨vs82, hl83, hR84, hd85, hget86⟩ := h_v0.at hy81
  subst hR84
  refine WL.vS hS hE (runs_plain rfl) (Gives.idx hE ((x4).toNat) rfl rfl sl101 hi79 (by omega) (hS.vecAok 1 rfl (by omega : (x4).toNat < y0.used.length))) rfl ?_; clear hE a; intro a hE
  refine WL.vS hS hE (runs_plain rfl) (Gives.load1 hE rfl (fun w h => St.vecSees h 1 rfl ((x4).toNat * 1) _ hget86) ty4) rfl ?_; clear hE a; intro a hE
  refine WL.nil ?_
  refine W.cond hE rfl (fun hc87 => ?_) (fun hc87 => ?_)
  · replace hr := iteT hc87 hr
    refine W.seq ?_
    refine W.region ?_
    refine WL.vS hS hE (runs_plain rfl) (Gives.p hE rfl) rfl ?_; clear hE a; intro a hE
    refine WL.nil ?_
    refine W.ret ?_
    refine finG (fn := Try.f120) (rs := [.tmp 10]) (vs := [_]) hE rfl ⟨rfl, trivial⟩ ?_
    obtain rfl := Option.some.inj hr
    exact ⟨cs_v0, a_v1, c_v1, y0.duties.length, cs_v1, s, rfl, (Sg.Le.refl _), h_v0, (rfl), h_v1, (rfl), hS⟩
  · replace hr := iteF hc87 hr
    refine W.skip ?_
    refine W.seq ?_
    refine W.seq ?_
    refine W.region ?_
    refine WL.vS hS hE (runs_plain rfl) (Gives.p hE rfl) rfl ?_; clear hE a; intro a hE
    refine WL.vS hS hE (runs_plain rfl) (Gives.len hE rfl sl44) rfl ?_; clear hE a; intro a hE
    refine WL.vS hS hE (runs_plain rfl) (Gives.p hE rfl) rfl ?_; clear hE a; intro a hE
    refine WL.nil ?_
    refine W.seq ?_
    refine W.region ?_
    refine WL.vS hS hE (runs_plain rfl) (Gives.p hE rfl) rfl ?_; clear hE a; intro a hE
    refine WL.vS hS hE (runs_plain rfl) (Gives.p hE rfl) rfl ?_; clear hE a; intro a hE
    refine WL.nil ?_
    obtain ⟨q89, hq88, hr⟩ := bindS hr
    refine W.cut (fun a w => .next () = q89 ∧ Rep a 86 [(0, .pointer (some ⟨pb0, 0, none⟩)), (1, .int .i64 x1), (2, .int .i64 x2), (3, .slice a3 x3.length c3), (4, .int .i64 x4)] ∧ St w s (pt pb0 (.cells #[.slice a_y0_0 y0.tasks.length c_y0_0, .int .i64 y0.limits.Change, .int .i64 y0.limits.Long, .int .i64 y0.limits.Work, .int .i64 y0.limits.After, .int .i64 y0.limits.Break, .int .i64 y0.limits.Rest, .int .i64 y0.limits.Row, .slice a_v0 y0.used.length c_v0, .slice a_v1 y0.duties.length c_v1] 114 (0, 0)) :: vecC 4 1 a_v0 c_v0 y0.used.length cs_v0 :: vecC 44 1 a_v1 c_v1 y0.duties.length cs_v1 :: R)) ?_ ?_
    · refine W.gen fun K92 hK92 => ?_
      refine W.cond hE rfl (fun hc93 => ?_) (fun hc93 => ?_)
      · replace hq88 := iteT hc93 hq88
        refine W.seq ?_
        refine W.gen fun K94 hK94 => ?_
        refine W.regionE (sel (fun w => St w s (pt pb0 (.cells #[.slice a_y0_0 y0.tasks.length c_y0_0, .int .i64 y0.limits.Change, .int .i64 y0.limits.Long, .int .i64 y0.limits.Work, .int .i64 y0.limits.After, .int .i64 y0.limits.Break, .int .i64 y0.limits.Rest, .int .i64 y0.limits.Row, .slice a_v0 y0.used.length c_v0, .slice a_v1 y0.duties.length c_v1] 114 (0, 0)) :: vecC 4 1 a_v0 c_v0 y0.used.length cs_v0 :: vecC 44 1 a_v1 c_v1 y0.duties.length cs_v1 :: R)) (fun w => St w s (pt pb0 (.cells #[.slice a_y0_0 y0.tasks.length c_y0_0, .int .i64 y0.limits.Change, .int .i64 y0.limits.Long, .int .i64 y0.limits.Work, .int .i64 y0.limits.After, .int .i64 y0.limits.Break, .int .i64 y0.limits.Rest, .int .i64 y0.limits.Row, .slice a_v0 y0.used.length c_v0, .slice a_v1 y0.duties.length c_v1] 114 (0, 0)) :: vecC 4 1 a_v0 c_v0 y0.used.length cs_v0 :: vecC 44 1 a_v1 c_v1 y0.duties.length cs_v1 :: R))) (fun b i => cond b ([0, 1, 2, 3, 4, 5, 6, 7, 8, 9, 10, 11, 12].contains i) ([0, 1, 2, 3, 4, 5, 6, 7, 8, 9, 10, 11, 12].contains i)) mixed ?_
        replace hS := hS.drew
        refine Rg.takeP (i := 0) hE rfl (by kernel_rfl) (runs_plain rfl) (Gives.p hE rfl) rfl (tw_sel (fun _ => hS) (fun _ => hS)) ?_; clear hE a; intro a hE
        have hT := tw_sel (A := fun w => St w s (pt pb0 (.cells #[.slice a_y0_0 y0.tasks.length c_y0_0, .int .i64 y0.limits.Change, .int .i64 y0.limits.Long, .int .i64 y0.limits.Work, .int .i64 y0.limits.After, .int .i64 y0.limits.Break, .int .i64 y0.limits.Rest, .int .i64 y0.limits.Row, .slice a_v0 y0.used.length c_v0, .slice a_v1 y0.duties.length c_v1] 114 (0, 0)) :: vecC 4 1 a_v0 c_v0 y0.used.length cs_v0 :: vecC 44 1 a_v1 c_v1 y0.duties.length cs_v1 :: R)) (B := fun w => St w s (pt pb0 (.cells #[.slice a_y0_0 y0.tasks.length c_y0_0, .int .i64 y0.limits.Change, .int .i64 y0.limits.Long, .int .i64 y0.limits.Work, .int .i64 y0.limits.After, .int .i64 y0.limits.Break, .int .i64 y0.limits.Rest, .int .i64 y0.limits.Row, .slice a_v0 y0.used.length c_v0, .slice a_v1 y0.duties.length c_v1] 114 (0, 0)) :: vecC 4 1 a_v0 c_v0 y0.used.length cs_v0 :: vecC 44 1 a_v1 c_v1 y0.duties.length cs_v1 :: R)) (w := _) (x := true) (y := true) (fun _ => hS) (fun _ => hS)
        have hF := hS; replace hS := hS
        refine Rg.take (i := 1) true rfl hE rfl (by kernel_rfl) (runs_plain rfl) (Gives.nilOk hE rfl) rfl hT ?_; clear hE a; intro a hE
        replace hS := hF; clear hF hT
        refine Rg.takeP (i := 2) hE rfl (by kernel_rfl) (runs_plain rfl) (Gives.fld hE rfl fl114_0) rfl (tw_sel (fun _ => hS) (fun _ => hS)) ?_; clear hE a; intro a hE
        have hT := tw_sel (A := fun w => St w s (pt pb0 (.cells #[.slice a_y0_0 y0.tasks.length c_y0_0, .int .i64 y0.limits.Change, .int .i64 y0.limits.Long, .int .i64 y0.limits.Work, .int .i64 y0.limits.After, .int .i64 y0.limits.Break, .int .i64 y0.limits.Rest, .int .i64 y0.limits.Row, .slice a_v0 y0.used.length c_v0, .slice a_v1 y0.duties.length c_v1] 114 (0, 0)) :: vecC 4 1 a_v0 c_v0 y0.used.length cs_v0 :: vecC 44 1 a_v1 c_v1 y0.duties.length cs_v1 :: R)) (B := fun w => St w s (pt pb0 (.cells #[.slice a_y0_0 y0.tasks.length c_y0_0, .int .i64 y0.limits.Change, .int .i64 y0.limits.Long, .int .i64 y0.limits.Work, .int .i64 y0.limits.After, .int .i64 y0.limits.Break, .int .i64 y0.limits.Rest, .int .i64 y0.limits.Row, .slice a_v0 y0.used.length c_v0, .slice a_v1 y0.duties.length c_v1] 114 (0, 0)) :: vecC 4 1 a_v0 c_v0 y0.used.length cs_v0 :: vecC 44 1 a_v1 c_v1 y0.duties.length cs_v1 :: R)) (w := _) (x := true) (y := true) (fun _ => hS) (fun _ => hS)
        have hF := hS; replace hS := hS
        refine Rg.take (i := 3) true rfl hE rfl (by kernel_rfl) (runs_plain rfl) (Gives.loadB hE 0 rfl rfl rfl ty32) rfl hT ?_; clear hE a; intro a hE
        replace hS := hF; clear hF hT
        refine Rg.takeP (i := 4) hE rfl (by kernel_rfl) (runs_plain rfl) (Gives.p hE rfl) rfl (tw_sel (fun _ => hS) (fun _ => hS)) ?_; clear hE a; intro a hE
        refine Rg.takeP (i := 5) hE rfl (by kernel_rfl) (runs_plain rfl) (Gives.p hE rfl) rfl (tw_sel (fun _ => hS) (fun _ => hS)) ?_; clear hE a; intro a hE
        refine Rg.takeP (i := 6) hE rfl (by kernel_rfl) (runs_plain rfl) (Gives.p hE rfl) rfl (tw_sel (fun _ => hS) (fun _ => hS)) ?_; clear hE a; intro a hE
        obtain ⟨x95, hx96, hq88⟩ := bindS hq88
        obtain ⟨hi97, hlt98, hy99⟩ := gx_some hx96
        obtain ⟨cs100, hl101, hR102, hat103⟩ := h3.at hy99
        subst hR102
        refine Rg.takeP (i := 7) hE rfl (by kernel_rfl) (runs_plain rfl) (Gives.idx hE (w64 (((x3).length : Int) - 1)).toNat rfl rfl sl44 hi97 hlt98 (h3.aok hlt98)) rfl (tw_sel (fun _ => hS) (fun _ => hS)) ?_; clear hE a; intro a hE
        have hT := tw_sel (A := fun w => St w s (pt pb0 (.cells #[.slice a_y0_0 y0.tasks.length c_y0_0, .int .i64 y0.limits.Change, .int .i64 y0.limits.Long, .int .i64 y0.limits.Work, .int .i64 y0.limits.After, .int .i64 y0.limits.Break, .int .i64 y0.limits.Rest, .int .i64 y0.limits.Row, .slice a_v0 y0.used.length c_v0, .slice a_v1 y0.duties.length c_v1] 114 (0, 0)) :: vecC 4 1 a_v0 c_v0 y0.used.length cs_v0 :: vecC 44 1 a_v1 c_v1 y0.duties.length cs_v1 :: R)) (B := fun w => St w s (pt pb0 (.cells #[.slice a_y0_0 y0.tasks.length c_y0_0, .int .i64 y0.limits.Change, .int .i64 y0.limits.Long, .int .i64 y0.limits.Work, .int .i64 y0.limits.After, .int .i64 y0.limits.Break, .int .i64 y0.limits.Rest, .int .i64 y0.limits.Row, .slice a_v0 y0.used.length c_v0, .slice a_v1 y0.duties.length c_v1] 114 (0, 0)) :: vecC 4 1 a_v0 c_v0 y0.used.length cs_v0 :: vecC 44 1 a_v1 c_v1 y0.duties.length cs_v1 :: R)) (w := _) (x := true) (y := true) (fun _ => hS) (fun _ => hS)
        have hF := hS; replace hS := hS
        refine Rg.take (i := 8) true rfl hE rfl (by kernel_rfl) (runs_plain rfl) (Gives.load1 hE rfl (fun w h => hat103 w _ h) ty3) rfl hT ?_; clear hE a; intro a hE
        replace hS := hF; clear hF hT
        obtain ⟨x104, hx105, hq88⟩ := bindS hq88
        obtain ⟨hi106, hlt107, hy108⟩ := gx_some hx105
        obtain ⟨cs109, hl110, hR111, hat112⟩ := h_y0_0.at hy108
        subst hR111
        refine Rg.takeP (i := 9) hE rfl (by kernel_rfl) (runs_plain rfl) (Gives.idx hE (x95).toNat rfl rfl sl32 hi106 hlt107 (h_y0_0.aok hlt107)) rfl (tw_sel (fun _ => hS) (fun _ => hS)) ?_; clear hE a; intro a hE
        have hT := tw_sel (A := fun w => St w s (pt pb0 (.cells #[.slice a_y0_0 y0.tasks.length c_y0_0, .int .i64 y0.limits.Change, .int .i64 y0.limits.Long, .int .i64 y0.limits.Work, .int .i64 y0.limits.After, .int .i64 y0.limits.Break, .int .i64 y0.limits.Rest, .int .i64 y0.limits.Row, .slice a_v0 y0.used.length c_v0, .slice a_v1 y0.duties.length c_v1] 114 (0, 0)) :: vecC 4 1 a_v0 c_v0 y0.used.length cs_v0 :: vecC 44 1 a_v1 c_v1 y0.duties.length cs_v1 :: R)) (B := fun w => St w s (pt pb0 (.cells #[.slice a_y0_0 y0.tasks.length c_y0_0, .int .i64 y0.limits.Change, .int .i64 y0.limits.Long, .int .i64 y0.limits.Work, .int .i64 y0.limits.After, .int .i64 y0.limits.Break, .int .i64 y0.limits.Rest, .int .i64 y0.limits.Row, .slice a_v0 y0.used.length c_v0, .slice a_v1 y0.duties.length c_v1] 114 (0, 0)) :: vecC 4 1 a_v0 c_v0 y0.used.length cs_v0 :: vecC 44 1 a_v1 c_v1 y0.duties.length cs_v1 :: R)) (w := _) (x := true) (y := true) (fun _ => hS) (fun _ => hS)
        have hF := hS; replace hS := hS
        refine Rg.take (i := 10) true rfl hE rfl (by kernel_rfl) (runs_plain rfl) (Gives.loadA hE rfl (fun w h => hat112 w _ h) ty78) rfl hT ?_; clear hE a; intro a hE
        replace hS := hF; clear hF hT
        refine Rg.one (i := 11) true true rfl (by kernel_rfl) (by kernel_rfl) (by kernel_rfl) ?_
        refine WL.alloc hE hS (runs_plain rfl) zr78 rfl ?_; clear hE hS a w; intro b113 a w hE hS
        refine WL.nil ?_
        refine ⟨⟨fun _ => (hS.tail), fun _ => (hS.tail)⟩, ?_⟩
        refine Rg.one (i := 12) true true rfl (by kernel_rfl) (by kernel_rfl) (by kernel_rfl) ?_
        refine WL.storeI hE hS 0 rfl (FleetTask.cells x104) (runs_plain rfl) rfl rfl rfl ty78 rfl rfl rfl rfl ?_; clear hE hS a w; intro a w hE hS
        refine WL.nil ?_
        refine ⟨⟨fun _ => (hS.tail), fun _ => (hS.tail)⟩, ?_⟩
        refine Rg.done (by kernel_rfl) ?_
        subst hK94
        refine W.seq ?_
        obtain ⟨q115, hq114, hq88⟩ := bindS hq88
        refine W.cut (fun a w => ∃ (q118 : Bool), q118 = q115 ∧ Rep a 86 [(0, .pointer (some ⟨pb0, 0, none⟩)), (1, .int .i64 x1), (2, .int .i64 x2), (3, .slice a3 x3.length c3), (4, .int .i64 x4), (64, .bool q118)] ∧ St w s (pt b113 (.cells (FleetTask.cells x104).toArray 78 (0, 0)) :: pt pb0 (.cells #[.slice a_y0_0 y0.tasks.length c_y0_0, .int .i64 y0.limits.Change, .int .i64 y0.limits.Long, .int .i64 y0.limits.Work, .int .i64 y0.limits.After, .int .i64 y0.limits.Break, .int .i64 y0.limits.Rest, .int .i64 y0.limits.Row, .slice a_v0 y0.used.length c_v0, .slice a_v1 y0.duties.length c_v1] 114 (0, 0)) :: vecC 4 1 a_v0 c_v0 y0.used.length cs_v0 :: vecC 44 1 a_v1 c_v1 y0.duties.length cs_v1 :: R)) ?_ ?_
        · refine W.gen fun K119 hK119 => ?_
          refine W.regionQ (C := fun w => St w s (pt b113 (.cells (FleetTask.cells x104).toArray 78 (0, 0)) :: pt pb0 (.cells #[.slice a_y0_0 y0.tasks.length c_y0_0, .int .i64 y0.limits.Change, .int .i64 y0.limits.Long, .int .i64 y0.limits.Work, .int .i64 y0.limits.After, .int .i64 y0.limits.Break, .int .i64 y0.limits.Rest, .int .i64 y0.limits.Row, .slice a_v0 y0.used.length c_v0, .slice a_v1 y0.duties.length c_v1] 114 (0, 0)) :: vecC 4 1 a_v0 c_v0 y0.used.length cs_v0 :: vecC 44 1 a_v1 c_v1 y0.duties.length cs_v1 :: R)) mixed (by kernel_rfl) hS.drew ?_
          refine QL.v hE (runs_plain rfl) (Gives.p hE rfl) rfl ?_; clear hE a; intro a hE
          refine QL.v hE (runs_plain rfl) (Gives.nilOk hE rfl) rfl ?_; clear hE a; intro a hE
          refine QL.v hE (runs_plain rfl) (Gives.fld hE rfl fl114_0) rfl ?_; clear hE a; intro a hE
          refine QL.v hE (runs_plain rfl) (Gives.loadB hE 1 rfl rfl rfl ty32) rfl ?_; clear hE a; intro a hE
          refine QL.v hE (runs_plain rfl) (Gives.p hE rfl) rfl ?_; clear hE a; intro a hE
          obtain ⟨x120, hx121, hq114⟩ := bindS hq114
          obtain ⟨hi122, hlt123, hy124⟩ := gx_some hx121
          obtain ⟨cs125, hl126, hR127, hat128⟩ := h_y0_0.at hy124
          subst hR127
          refine QL.v hE (runs_plain rfl) (Gives.idx hE (x4).toNat rfl rfl sl32 hi122 hlt123 (h_y0_0.aok hlt123)) rfl ?_; clear hE a; intro a hE
          refine QL.v hE (runs_plain rfl) (Gives.fld hE rfl fl78_0) rfl ?_; clear hE a; intro a hE
          refine QL.v hE (runs_plain rfl) (Gives.load1 hE rfl (fun w h => (hat128 w _ h).one rfl) ty3) rfl ?_; clear hE a; intro a hE
          refine QL.v hE (runs_plain rfl) (Gives.fld hE rfl fl78_1) rfl ?_; clear hE a; intro a hE
          refine QL.v hE (runs_plain rfl) (Gives.loadB hE 0 rfl rfl rfl ty3) rfl ?_; clear hE a; intro a hE
          refine QL.v hE (runs_plain rfl) (Gives.p hE rfl) rfl ?_; clear hE a; intro a hE
          refine QL.v hE (runs_plain rfl) (Gives.p hE rfl) rfl ?_; clear hE a; intro a hE
          rcases Bool.eq_false_or_eq_true (x120.From != x104.To) with hg129 | hg129
          · replace hq114 := iteT hg129 hq114
            refine QL.no hE (runs_not hE rfl rfl rfl (by rw [hg129]; decide)) rfl ?_; clear hE a; intro a hE
            refine QL.no hE (runs_not hE rfl rfl rfl (by rw [hg129]; decide)) rfl ?_; clear hE a; intro a hE
            refine QL.no hE (runs_not hE rfl rfl rfl (by rw [hg129]; decide)) rfl ?_; clear hE a; intro a hE
            refine QL.no hE (runs_not hE rfl rfl rfl (by rw [hg129]; decide)) rfl ?_; clear hE a; intro a hE
            refine QL.no hE (runs_not hE rfl rfl rfl (by rw [hg129]; decide)) rfl ?_; clear hE a; intro a hE
            refine QL.no hE (runs_not hE rfl rfl rfl (by rw [hg129]; decide)) rfl ?_; clear hE a; intro a hE
            refine QL.no hE (runs_not hE rfl rfl rfl (by rw [hg129]; decide)) rfl ?_; clear hE a; intro a hE
            refine QL.no hE (runs_not hE rfl rfl rfl (by rw [hg129]; decide)) rfl ?_; clear hE a; intro a hE
            refine QL.no hE (runs_not hE rfl rfl rfl (by rw [hg129]; decide)) rfl ?_; clear hE a; intro a hE
            refine QL.no hE (runs_not hE rfl rfl rfl (by rw [hg129]; decide)) rfl ?_; clear hE a; intro a hE
            refine QL.no hE (runs_not hE rfl rfl rfl (by rw [hg129]; decide)) rfl ?_; clear hE a; intro a hE
            refine QL.no hE (runs_not hE rfl rfl rfl (by rw [hg129]; decide)) rfl ?_; clear hE a; intro a hE
            refine QL.no hE (runs_not hE rfl rfl rfl (by rw [hg129]; decide)) rfl ?_; clear hE a; intro a hE
            refine QL.no hE (runs_not hE rfl rfl rfl (by rw [hg129]; decide)) rfl ?_; clear hE a; intro a hE
            refine QL.no hE (runs_not hE rfl rfl rfl (by rw [hg129]; decide)) rfl ?_; clear hE a; intro a hE
            refine QL.no hE (runs_not hE rfl rfl rfl (by rw [hg129]; decide)) rfl ?_; clear hE a; intro a hE
            refine QL.no hE (runs_not hE rfl rfl rfl (by rw [hg129]; decide)) rfl ?_; clear hE a; intro a hE
            refine QL.v hE (runs_plain rfl) (Gives.pickT hE rfl hg129 rfl) rfl ?_; clear hE a; intro a hE
            refine QL.nil ?_; clear hS w; intro w hS
            subst hK119
            exact ⟨true, Option.some.inj hq114, hE.pick _ ⟨rfl, rfl, rfl, rfl, rfl, rfl, trivial⟩, hS⟩
          · replace hq114 := iteF hg129 hq114
            refine QL.v hE (runs_if hE rfl rfl rfl hg129) (Gives.p hE rfl) rfl ?_; clear hE a; intro a hE
            refine QL.v hE (runs_if hE rfl rfl rfl hg129) (Gives.nilOk hE rfl) rfl ?_; clear hE a; intro a hE
            refine QL.v hE (runs_if hE rfl rfl rfl hg129) (Gives.fld hE rfl fl114_0) rfl ?_; clear hE a; intro a hE
            refine QL.v hE (runs_if hE rfl rfl rfl hg129) (Gives.loadB hE 1 rfl rfl rfl ty32) rfl ?_; clear hE a; intro a hE
            refine QL.v hE (runs_if hE rfl rfl rfl hg129) (Gives.p hE rfl) rfl ?_; clear hE a; intro a hE
            obtain ⟨x130, hx131, hq114⟩ := bindS hq114
            obtain ⟨hi132, hlt133, hy134⟩ := gx_some hx131
            obtain ⟨cs135, hl136, hR137, hat138⟩ := h_y0_0.at hy134
            subst hR137
            refine QL.v hE (runs_if hE rfl rfl rfl hg129) (Gives.idx hE (x4).toNat rfl rfl sl32 hi132 hlt133 (h_y0_0.aok hlt133)) rfl ?_; clear hE a; intro a hE
            refine QL.v hE (runs_if hE rfl rfl rfl hg129) (Gives.fld hE rfl fl78_2) rfl ?_; clear hE a; intro a hE
            refine QL.v hE (runs_if hE rfl rfl rfl hg129) (Gives.load1 hE rfl (fun w h => (hat138 w _ h).one rfl) ty3) rfl ?_; clear hE a; intro a hE
            refine QL.v hE (runs_if hE rfl rfl rfl hg129) (Gives.fld hE rfl fl78_3) rfl ?_; clear hE a; intro a hE
            refine QL.v hE (runs_if hE rfl rfl rfl hg129) (Gives.loadB hE 0 rfl rfl rfl ty3) rfl ?_; clear hE a; intro a hE
            refine QL.v hE (runs_if hE rfl rfl rfl hg129) (Gives.p hE rfl) rfl ?_; clear hE a; intro a hE
            refine QL.v hE (runs_if hE rfl rfl rfl hg129) (Gives.nilOk hE rfl) rfl ?_; clear hE a; intro a hE
            refine QL.v hE (runs_if hE rfl rfl rfl hg129) (Gives.fld hE rfl fl114_1) rfl ?_; clear hE a; intro a hE
            refine QL.v hE (runs_if hE rfl rfl rfl hg129) (Gives.fld hE rfl fl24_0) rfl ?_; clear hE a; intro a hE
            refine QL.v hE (runs_if hE rfl rfl rfl hg129) (Gives.loadB hE 1 rfl rfl rfl ty3) rfl ?_; clear hE a; intro a hE
            refine QL.v hE (runs_if hE rfl rfl rfl hg129) (Gives.p hE rfl) rfl ?_; clear hE a; intro a hE
            refine QL.v hE (runs_if hE rfl rfl rfl hg129) (Gives.p hE rfl) rfl ?_; clear hE a; intro a hE
            refine QL.v hE (runs_plain rfl) (Gives.pickF hE rfl hg129 rfl) rfl ?_; clear hE a; intro a hE
            refine QL.nil ?_; clear hS w; intro w hS
            subst hK119
            exact ⟨decide (x130.Dep < (w64 (x104.Arr + y0.limits.Change))), Option.some.inj hq114, hE.pick _ ⟨rfl, rfl, rfl, rfl, rfl, rfl, trivial⟩, hS⟩
        · clear hE hS a w; rintro a w ⟨q118, rfl, hE, hS⟩
          refine W.cond hE rfl (fun hc139 => ?_) (fun hc139 => ?_)
          · replace hq88 := iteT hc139 hq88
            refine W.seq ?_
            refine W.region ?_
            refine WL.vS hS hE (runs_plain rfl) (Gives.p hE rfl) rfl ?_; clear hE a; intro a hE
            refine WL.nil ?_
            refine W.ret ?_
            subst hK92
            rw [← Option.some.inj hq88] at hr
            dsimp only at hr
            refine finG (fn := Try.f120) (rs := [.tmp 10]) (vs := [_]) hE rfl ⟨rfl, trivial⟩ ?_
            obtain rfl := Option.some.inj hr
            replace hS := hS.tail
            exact ⟨cs_v0, a_v1, c_v1, y0.duties.length, cs_v1, s, rfl, (Sg.Le.refl _), h_v0, (rfl), h_v1, (rfl), hS⟩
          · replace hq88 := iteF hc139 hq88
            refine W.skip ?_
            replace hS := hS.tail
            subst hK92
            exact ⟨Option.some.inj hq88, hE.pick _ ⟨rfl, rfl, rfl, rfl, rfl, trivial⟩, hS⟩
      · replace hq88 := iteF hc93 hq88
        refine W.skip ?_
        subst hK92
        exact ⟨Option.some.inj hq88, hE.pick _ ⟨rfl, rfl, rfl, rfl, rfl, trivial⟩, hS⟩
    · clear hE hS a w; rintro a w ⟨rfl, hE, hS⟩
      dsimp only at hr
      refine W.seq ?_
      refine W.region ?_
      refine WL.vS hS hE (runs_plain rfl) (Gives.p hE rfl) rfl ?_; clear hE a; intro a hE
      refine WL.vS hS hE (runs_plain rfl) (Gives.nilOk hE rfl) rfl ?_; clear hE a; intro a hE
      refine WL.vS hS hE (runs_plain rfl) (Gives.fld hE rfl fl114_2) rfl ?_; clear hE a; intro a hE
      refine WL.vS hS hE (runs_plain rfl) (Gives.loadB hE 0 rfl rfl rfl ty101) rfl ?_; clear hE a; intro a hE
      refine WL.vS hS hE (runs_plain rfl) (Gives.p hE rfl) rfl ?_; clear hE a; intro a hE
      obtain ⟨_, hx141, hr⟩ := bindS hr
      obtain ⟨h142, h143⟩ := ix_some hx141
      refine WL.vS hS hE (runs_plain rfl) (Gives.idx hE ((x4).toNat) rfl rfl sl101 h142 (by omega) (hS.vecAok 1 rfl (by omega : (x4).toNat < y0.used.length))) rfl ?_; clear hE a; intro a hE
      obtain ⟨x145, hx146, hr⟩ := bindS hr
      refine WL.setD hE hS 1 rfl (runs_plain rfl) rfl rfl (vs := [.bool true]) rfl ty4 rfl rfl rfl h_v0 (rfl) (sx_some hx146).1 hx146 rfl rfl ?_; clear hE hS a w; intro cs147 a w h148 hn149 hE hS
      refine WL.nil ?_
      refine W.seq ?_
      refine W.seq ?_
      refine W.region ?_
      refine WL.vS hS hE (runs_plain rfl) (Gives.p hE rfl) rfl ?_; clear hE a; intro a hE
      refine WL.vS hS hE (runs_plain rfl) (Gives.p hE rfl) rfl ?_; clear hE a; intro a hE
      refine WL.vS hS hE (runs_plain rfl) (Gives.p hE rfl) rfl ?_; clear hE a; intro a hE
      refine WL.vS hS hE (runs_plain rfl) (Gives.p hE rfl) rfl ?_; clear hE a; intro a hE
      obtain ⟨q150, hq151, hr⟩ := bindS hr
      have hc_ := SlicesCloneLint_ok hS h3 hq151
      refine WL.fnq hE (hc_) (runs_plain rfl) bd41 rfl rfl rfl ?_
      clear hE hS hc_; rintro e w ⟨a152, c153, n154, cs155, rfl, h156, rfl, hS⟩; refine ⟨_, rfl, ?_⟩; clear a; intro a hE
      refine WL.vS hS hE (runs_plain rfl) (Gives.p hE rfl) rfl ?_; clear hE a; intro a hE
      refine WL.lit hE hS (e := 3) (es := 1) (vs := [(0, .int .i64 x4)]) (cs := [.int .i64 x4]) (runs_plain rfl) rfl (by kernel_rfl) rfl ?_; clear hE hS a w; intro b158 a w hE hS
      obtain ⟨x159, hx160, hr⟩ := bindS hr
      refine WL.appB hE hS 0 (m := 1) (runs_plain rfl) rfl rfl rfl ap44 rfl h156 rfl (xs := [x4]) (Ev.cons (c1 := [.int .i64 x4]) rfl rfl (Ev.nil)) rfl rfl hx160 rfl ?_; clear hE hS a w; intro a161 c162 cs163 F165 a w h164 hb166 hE hS
      have hF := hS.fixD RI.mono 0 rfl h164 (rfl); clear hS; obtain ⟨s168, hle169, hS, h170⟩ := hF
      replace h3 := Sl.mono RI.mono hle169 h3
      replace h_y0_0 := Sl.mono RFleetTask.mono hle169 h_y0_0
      replace h148 := Ev.mono RB.mono hle169 h148
      replace h_v1 := Ev.mono (RL.mono RI.mono) hle169 h_v1
      obtain ⟨_, hx171, hr⟩ := bindS hr
      obtain ⟨q172, hq173, hr⟩ := bindS hr
      replace hS := hS.front 3 rfl
      replace hS := hS.front 3 rfl
      replace hS := hS.front 3 rfl
      have hc_ := ih_FleetDividerdivide_v1 (y0 := (FleetDivider.mk y0.tasks y0.limits x145 y0.duties)) hS h170 (nz_some hx171) h_y0_0 h148 hn149 h_v1 (rfl) hq173
      refine WL.fnq hE (hc_) (runs_plain rfl) bd80 rfl rfl rfl ?_
      clear hE hS hc_; rintro e w ⟨cs174, a177, c178, n179, cs180, s182, rfl, hle183, h175, hn176, h181, rfl, hS⟩; refine ⟨_, rfl, ?_⟩; clear a; intro a hE
      replace h3 := Sl.mono RI.mono hle183 h3
      replace h170 := Sl.mono RI.mono hle183 h170
      replace h_y0_0 := Sl.mono RFleetTask.mono hle183 h_y0_0
      replace h148 := Ev.mono RB.mono hle183 h148
      replace h_v1 := Ev.mono (RL.mono RI.mono) hle183 h_v1
      refine WL.nil ?_
      refine W.cond hE rfl (fun hc184 => ?_) (fun hc184 => ?_)
      · replace hr := iteT hc184 hr
        refine W.seq ?_
        refine W.region ?_
        refine WL.vS hS hE (runs_plain rfl) (Gives.p hE rfl) rfl ?_; clear hE a; intro a hE
        refine WL.nil ?_
        refine W.ret ?_
        refine finG (fn := Try.f120) (rs := [.tmp 10]) (vs := [_]) hE rfl ⟨rfl, trivial⟩ ?_
        obtain rfl := Option.some.inj hr
        replace hS := hS.dropAt 3
        exact ⟨cs174, a177, c178, q172.2.2.length, cs180, s182, rfl, (Sg.Le.trans hle169 hle183), h175, hn176, h181, rfl, hS⟩
      · replace hr := iteF hc184 hr
        refine W.skip ?_
        refine W.seq ?_
        refine W.region ?_
        refine WL.vS hS hE (runs_plain rfl) (Gives.p hE rfl) rfl ?_; clear hE a; intro a hE
        refine WL.vS hS hE (runs_plain rfl) (Gives.nilOk hE rfl) rfl ?_; clear hE a; intro a hE
        refine WL.vS hS hE (runs_plain rfl) (Gives.fld hE rfl fl114_2) rfl ?_; clear hE a; intro a hE
        refine WL.vS hS hE (runs_plain rfl) (Gives.loadB hE 0 rfl rfl rfl ty101) rfl ?_; clear hE a; intro a hE
        refine WL.vS hS hE (runs_plain rfl) (Gives.p hE rfl) rfl ?_; clear hE a; intro a hE
        obtain ⟨_, hx186, hr⟩ := bindS hr
        obtain ⟨h187, h188⟩ := ix_some hx186
        refine WL.vS hS hE (runs_plain rfl) (Gives.idx hE ((x4).toNat) rfl rfl sl101 h187 (by have := hn176; omega) (hS.vecAok 1 rfl (by have := hn176; omega : (x4).toNat < y0.used.length))) rfl ?_; clear hE a; intro a hE
        obtain ⟨x190, hx191, hr⟩ := bindS hr
        refine WL.setD hE hS 1 rfl (runs_plain rfl) rfl rfl (vs := [.bool false]) rfl ty4 rfl rfl rfl h175 hn176 (sx_some hx191).1 hx191 rfl rfl ?_; clear hE hS a w; intro cs192 a w h193 hn194 hE hS
        refine WL.nil ?_
        refine W.seq ?_
        refine W.region ?_
        refine WL.vS hS hE (runs_plain rfl) (Gives.p hE rfl) rfl ?_; clear hE a; intro a hE
        refine WL.nil ?_
        refine W.ret ?_
        refine finG (fn := Try.f120) (rs := [.tmp 10]) (vs := [_]) hE rfl ⟨rfl, trivial⟩ ?_
        obtain rfl := Option.some.inj hr
        replace hS := hS.dropAt 3
        exact ⟨cs192, a177, c178, q172.2.2.length, cs180, s182, rfl, (Sg.Le.trans hle169 hle183), h193, hn194, h181, rfl, hS⟩
set_option maxHeartbeats 8000000 in
theorem Fleetjudge_1_v1_ok  {w : World} {s : Sg} {R : List HP} {pb0 : Nat} {pb1 : Nat} {pb2 : Nat} {x0 : Int} {y0 : Int} {y1 : FleetLimits} {y2 : Int} (hS : St w s (pt pb0 (.cells #[.int .i64 y0] 3 (0, 0)) :: pt pb1 (.cells #[.int .i64 y1.Change, .int .i64 y1.Long, .int .i64 y1.Work, .int .i64 y1.After, .int .i64 y1.Break, .int .i64 y1.Rest, .int .i64 y1.Row] 24 (0, 0)) :: pt pb2 (.cells #[.int .i64 y2] 3 (0, 0)) :: R))  {r : Int} (hr : Fleetjudge_1_v1 x0 y0 y1 y2 = r) :
    Calls Try.prog 128 [.int .i64 x0, .pointer (some ⟨pb0, 0, none⟩), .pointer (some ⟨pb1, 0, none⟩), .pointer (some ⟨pb2, 0, none⟩)].toArray w (fun e w => e = .returned (.tuple #[]) ∧ St w s (pt pb0 (.cells #[.int .i64 y0] 3 (0, 0)) :: pt pb1 (.cells #[.int .i64 y1.Change, .int .i64 y1.Long, .int .i64 y1.Work, .int .i64 y1.After, .int .i64 y1.Break, .int .i64 y1.Rest, .int .i64 y1.Row] 24 (0, 0)) :: pt pb2 (.cells #[.int .i64 r] 3 (0, 0)) :: R)) := by
  refine enter Try.func128 rfl rfl rfl fun a hE => ?_
  rw [Fleetjudge_1_v1] at hr
  refine W.seq ?_
  refine W.region ?_
  refine WL.vS hS hE (runs_plain rfl) (Gives.p hE rfl) rfl ?_; clear hE a; intro a hE
  refine WL.vS hS hE (runs_plain rfl) (Gives.loadB hE 0 rfl rfl rfl ty3) rfl ?_; clear hE a; intro a hE
  refine WL.vS hS hE (runs_plain rfl) (Gives.p hE rfl) rfl ?_; clear hE a; intro a hE
  refine WL.vS hS hE (runs_plain rfl) (Gives.fld hE rfl fl24_3) rfl ?_; clear hE a; intro a hE
  refine WL.vS hS hE (runs_plain rfl) (Gives.loadB hE 1 rfl rfl rfl ty3) rfl ?_; clear hE a; intro a hE
  refine WL.vS hS hE (runs_plain rfl) (Gives.p hE rfl) rfl ?_; clear hE a; intro a hE
  refine WL.nil ?_
  obtain ⟨q53, hq52, hr⟩ := bndS hr
  refine W.cut (fun a w => ∃ (q56 : Int), q56 = q53 ∧ Rep a 11 [] ∧ St w s (pt pb0 (.cells #[.int .i64 y0] 3 (0, 0)) :: pt pb1 (.cells #[.int .i64 y1.Change, .int .i64 y1.Long, .int .i64 y1.Work, .int .i64 y1.After, .int .i64 y1.Break, .int .i64 y1.Rest, .int .i64 y1.Row] 24 (0, 0)) :: pt pb2 (.cells #[.int .i64 q56] 3 (0, 0)) :: R)) ?_ ?_
  · refine W.gen fun K57 hK57 => ?_
    refine W.cond hE rfl (fun hc58 => ?_) (fun hc58 => ?_)
    · replace hq52 := iteT hc58 hq52
      refine W.region ?_
      refine WL.storeI hE hS 2 rfl [.int .i64 4] (runs_plain rfl) rfl rfl rfl ty3 rfl rfl rfl rfl ?_; clear hE hS a w; intro a w hE hS
      refine WL.nil ?_
      subst hK57
      exact ⟨4, hq52, hE.pick _ trivial, hS⟩
    · replace hq52 := iteF hc58 hq52
      refine W.skip ?_
      subst hK57
      exact ⟨y2, hq52, hE.pick _ trivial, hS⟩
  · clear hE hS a w; rintro a w ⟨q56, rfl, hE, hS⟩
    refine finG (fn := Try.f128) (rs := []) (vs := []) hE rfl trivial ?_
    subst hr
    exact ⟨rfl, hS⟩
set_option maxHeartbeats 8000000 in
theorem Fleetjudge_ok  {w : World} {s : Sg} {R : List HP} {x0 : List FleetTask} {a0 : Option Addr} {c0 : Nat} {x1 : List Int} {a1 : Option Addr} {c1 : Nat} {x2 : FleetLimits} (hS : St w s (R)) (h0 : Sl 6 RFleetTask s a0 c0 x0) (h1 : Sl 1 (RI .i64) s a1 c1 x1) {r : Int} (hr : Fleetjudge x0 x1 x2 = some r) :
    Calls Try.prog 98 [.slice a0 x0.length c0, .slice a1 x1.length c1, .agg (FleetLimits.cells x2).toArray].toArray w (fun e w => e = .returned (.int .i64 r) ∧ St w s (R)) := by
  refine enter Try.func98 rfl rfl rfl fun a hE => ?_
  rw [Fleetjudge] at hr
  refine W.seq ?_
  refine W.region ?_
  refine WL.box hE hS (runs_plain rfl) rfl rfl rfl ?_; clear hE hS a w; intro b51 a w hE hS
  refine WL.vS hS hE (runs_plain rfl) (Gives.p hE rfl) rfl ?_; clear hE a; intro a hE
  refine WL.nil ?_
  refine W.seq ?_
  refine W.gen fun K52 hK52 => ?_
  refine W.regionE (sel (fun w => St w s (pt b51 (.cells (FleetLimits.cells x2).toArray 24 (0, 0)) :: R)) (fun w => St w s (pt b51 (.cells (FleetLimits.cells x2).toArray 24 (0, 0)) :: R))) (fun b i => cond b ([0, 1, 2, 3, 4, 5, 6, 7, 8, 9, 10, 11, 12, 13, 14, 15, 16, 17, 18].contains i) ([0, 1, 2, 3, 4, 5, 6, 7, 8, 9, 10, 11, 12, 13, 14, 15, 16, 17, 18].contains i)) mixed ?_
  replace hS := hS.drew
  refine Rg.takeP (i := 0) hE rfl (by kernel_rfl) (runs_plain rfl) (Gives.p hE rfl) rfl (tw_sel (fun _ => hS) (fun _ => hS)) ?_; clear hE a; intro a hE
  refine Rg.takeP (i := 1) hE rfl (by kernel_rfl) (runs_plain rfl) (Gives.p hE rfl) rfl (tw_sel (fun _ => hS) (fun _ => hS)) ?_; clear hE a; intro a hE
  obtain ⟨x53, hx54, hr⟩ := bindS hr
  obtain ⟨hi55, hlt56, hy57⟩ := gx_some hx54
  obtain ⟨cs58, hl59, hR60, hat61⟩ := h1.at hy57
  subst hR60
  refine Rg.takeP (i := 2) hE rfl (by kernel_rfl) (runs_plain rfl) (Gives.idx hE ((0 : Int)).toNat rfl rfl sl44 hi55 hlt56 (h1.aok hlt56)) rfl (tw_sel (fun _ => hS) (fun _ => hS)) ?_; clear hE a; intro a hE
  have hT := tw_sel (A := fun w => St w s (pt b51 (.cells (FleetLimits.cells x2).toArray 24 (0, 0)) :: R)) (B := fun w => St w s (pt b51 (.cells (FleetLimits.cells x2).toArray 24 (0, 0)) :: R)) (w := _) (x := true) (y := true) (fun _ => hS) (fun _ => hS)
  have hF := hS; replace hS := hS
  refine Rg.take (i := 3) true rfl hE rfl (by kernel_rfl) (runs_plain rfl) (Gives.load1 hE rfl (fun w h => hat61 w _ h) ty3) rfl hT ?_; clear hE a; intro a hE
  replace hS := hF; clear hF hT
  obtain ⟨x62, hx63, hr⟩ := bindS hr
  obtain ⟨hi64, hlt65, hy66⟩ := gx_some hx63
  obtain ⟨cs67, hl68, hR69, hat70⟩ := h0.at hy66
  subst hR69
  refine Rg.takeP (i := 4) hE rfl (by kernel_rfl) (runs_plain rfl) (Gives.idx hE (x53).toNat rfl rfl sl32 hi64 hlt65 (h0.aok hlt65)) rfl (tw_sel (fun _ => hS) (fun _ => hS)) ?_; clear hE a; intro a hE
  have hT := tw_sel (A := fun w => St w s (pt b51 (.cells (FleetLimits.cells x2).toArray 24 (0, 0)) :: R)) (B := fun w => St w s (pt b51 (.cells (FleetLimits.cells x2).toArray 24 (0, 0)) :: R)) (w := _) (x := true) (y := true) (fun _ => hS) (fun _ => hS)
  have hF := hS; replace hS := hS
  refine Rg.take (i := 5) true rfl hE rfl (by kernel_rfl) (runs_plain rfl) (Gives.loadA hE rfl (fun w h => hat70 w _ h) ty78) rfl hT ?_; clear hE a; intro a hE
  replace hS := hF; clear hF hT
  refine Rg.takeP (i := 6) hE rfl (by kernel_rfl) (runs_plain rfl) (Gives.p hE rfl) rfl (tw_sel (fun _ => hS) (fun _ => hS)) ?_; clear hE a; intro a hE
  refine Rg.takeP (i := 7) hE rfl (by kernel_rfl) (runs_plain rfl) (Gives.p hE rfl) rfl (tw_sel (fun _ => hS) (fun _ => hS)) ?_; clear hE a; intro a hE
  refine Rg.takeP (i := 8) hE rfl (by kernel_rfl) (runs_plain rfl) (Gives.p hE rfl) rfl (tw_sel (fun _ => hS) (fun _ => hS)) ?_; clear hE a; intro a hE
  refine Rg.takeP (i := 9) hE rfl (by kernel_rfl) (runs_plain rfl) (Gives.len hE rfl sl44) rfl (tw_sel (fun _ => hS) (fun _ => hS)) ?_; clear hE a; intro a hE
  refine Rg.takeP (i := 10) hE rfl (by kernel_rfl) (runs_plain rfl) (Gives.p hE rfl) rfl (tw_sel (fun _ => hS) (fun _ => hS)) ?_; clear hE a; intro a hE
  obtain ⟨x71, hx72, hr⟩ := bindS hr
  obtain ⟨hi73, hlt74, hy75⟩ := gx_some hx72
  obtain ⟨cs76, hl77, hR78, hat79⟩ := h1.at hy75
  subst hR78
  refine Rg.takeP (i := 11) hE rfl (by kernel_rfl) (runs_plain rfl) (Gives.idx hE (w64 (((x1).length : Int) - 1)).toNat rfl rfl sl44 hi73 hlt74 (h1.aok hlt74)) rfl (tw_sel (fun _ => hS) (fun _ => hS)) ?_; clear hE a; intro a hE
  have hT := tw_sel (A := fun w => St w s (pt b51 (.cells (FleetLimits.cells x2).toArray 24 (0, 0)) :: R)) (B := fun w => St w s (pt b51 (.cells (FleetLimits.cells x2).toArray 24 (0, 0)) :: R)) (w := _) (x := true) (y := true) (fun _ => hS) (fun _ => hS)
  have hF := hS; replace hS := hS
  refine Rg.take (i := 12) true rfl hE rfl (by kernel_rfl) (runs_plain rfl) (Gives.load1 hE rfl (fun w h => hat79 w _ h) ty3) rfl hT ?_; clear hE a; intro a hE
  replace hS := hF; clear hF hT
  obtain ⟨x80, hx81, hr⟩ := bindS hr
  obtain ⟨hi82, hlt83, hy84⟩ := gx_some hx81
  obtain ⟨cs85, hl86, hR87, hat88⟩ := h0.at hy84
  subst hR87
  refine Rg.takeP (i := 13) hE rfl (by kernel_rfl) (runs_plain rfl) (Gives.idx hE (x71).toNat rfl rfl sl32 hi82 hlt83 (h0.aok hlt83)) rfl (tw_sel (fun _ => hS) (fun _ => hS)) ?_; clear hE a; intro a hE
  have hT := tw_sel (A := fun w => St w s (pt b51 (.cells (FleetLimits.cells x2).toArray 24 (0, 0)) :: R)) (B := fun w => St w s (pt b51 (.cells (FleetLimits.cells x2).toArray 24 (0, 0)) :: R)) (w := _) (x := true) (y := true) (fun _ => hS) (fun _ => hS)
  have hF := hS; replace hS := hS
  refine Rg.take (i := 14) true rfl hE rfl (by kernel_rfl) (runs_plain rfl) (Gives.loadA hE rfl (fun w h => hat88 w _ h) ty78) rfl hT ?_; clear hE a; intro a hE
  replace hS := hF; clear hF hT
  suffices key : ∀ b89 b90 (a : Act) (w : World), Sl 6 RFleetTask s a0 c0 x0 → Sl 1 (RI .i64) s a1 c1 x1 → Rep a 121 [(0, .slice a0 x0.length c0), (1, .slice a1 x1.length c1), (5, .pointer (some ⟨b51, 0, none⟩)), (7, .pointer (some ⟨b89, 0, none⟩)), (8, .pointer (some ⟨b90, 0, none⟩))] → St w s (pt b90 (.cells (FleetTask.cells x80).toArray 78 (0, 0)) :: pt b89 (.cells (FleetTask.cells x62).toArray 78 (0, 0)) :: pt b51 (.cells (FleetLimits.cells x2).toArray 24 (0, 0)) :: R) → K52.nor a w by
    refine Rg.many 15 [16] (by kernel_rfl) ⟨?_, ?_, trivial⟩
    · refine Br.mk (i := 15) true true rfl (by kernel_rfl) (by kernel_rfl) ?_
      refine WL.alloc hE hS (runs_plain rfl) zr78 rfl ?_; clear hE hS a w; intro b89 a w hE hS
      refine WL.nil ?_
      refine ⟨⟨fun _ => (hS.tail), fun _ => (hS.tail)⟩, ?_⟩
      refine Rg.one (i := 16) true true rfl (by kernel_rfl) (by kernel_rfl) (by kernel_rfl) ?_
      refine WL.alloc hE hS (runs_plain rfl) zr78 rfl ?_; clear hE hS a w; intro b90 a w hE hS
      refine WL.nil ?_
      refine ⟨⟨fun _ => ((hS.tail).tail), fun _ => ((hS.tail).tail)⟩, ?_⟩
      refine Rg.one (i := 17) true true rfl (by kernel_rfl) (by kernel_rfl) (by kernel_rfl) ?_
      refine WL.storeI hE hS 1 rfl (FleetTask.cells x62) (runs_plain rfl) rfl rfl rfl ty78 rfl rfl rfl rfl ?_; clear hE hS a w; intro a w hE hS
      refine WL.nil ?_
      refine ⟨⟨fun _ => ((hS.tail).tail), fun _ => ((hS.tail).tail)⟩, ?_⟩
      refine Rg.one (i := 18) true true rfl (by kernel_rfl) (by kernel_rfl) (by kernel_rfl) ?_
      refine WL.storeI hE hS 0 rfl (FleetTask.cells x80) (runs_plain rfl) rfl rfl rfl ty78 rfl rfl rfl rfl ?_; clear hE hS a w; intro a w hE hS
      refine WL.nil ?_
      refine ⟨⟨fun _ => ((hS.tail).tail), fun _ => ((hS.tail).tail)⟩, ?_⟩
      refine Rg.done (by kernel_rfl) ?_
      exact key _ _ _ _ h0 h1 (hE.pick _ ⟨rfl, rfl, rfl, rfl, rfl, trivial⟩) hS
    · refine Br.mk (i := 16) true true rfl (by kernel_rfl) (by kernel_rfl) ?_
      refine WL.alloc hE hS (runs_plain rfl) zr78 rfl ?_; clear hE hS a w; intro b90 a w hE hS
      refine WL.nil ?_
      refine ⟨⟨fun _ => (hS.tail), fun _ => (hS.tail)⟩, ?_⟩
      refine Rg.one (i := 15) true true rfl (by kernel_rfl) (by kernel_rfl) (by kernel_rfl) ?_
      refine WL.alloc hE hS (runs_plain rfl) zr78 rfl ?_; clear hE hS a w; intro b89 a w hE hS
      refine WL.nil ?_
      refine ⟨⟨fun _ => ((hS.tail).tail), fun _ => ((hS.tail).tail)⟩, ?_⟩
      refine Rg.one (i := 17) true true rfl (by kernel_rfl) (by kernel_rfl) (by kernel_rfl) ?_
      refine WL.storeI hE hS 0 rfl (FleetTask.cells x62) (runs_plain rfl) rfl rfl rfl ty78 rfl rfl rfl rfl ?_; clear hE hS a w; intro a w hE hS
      refine WL.nil ?_
      refine ⟨⟨fun _ => ((hS.tail).tail), fun _ => ((hS.tail).tail)⟩, ?_⟩
      refine Rg.one (i := 18) true true rfl (by kernel_rfl) (by kernel_rfl) (by kernel_rfl) ?_
      refine WL.storeI hE hS 1 rfl (FleetTask.cells x80) (runs_plain rfl) rfl rfl rfl ty78 rfl rfl rfl rfl ?_; clear hE hS a w; intro a w hE hS
      refine WL.nil ?_
      refine ⟨⟨fun _ => ((hS.tail).tail), fun _ => ((hS.tail).tail)⟩, ?_⟩
      refine Rg.done (by kernel_rfl) ?_
      replace hS := hS.front 2 rfl
      replace hS := hS.front 1 rfl
      replace hS := hS.front 2 rfl
      exact key _ _ _ _ h0 h1 (hE.pick _ ⟨rfl, rfl, rfl, rfl, rfl, trivial⟩) hS
  clear hE hS a w; intro b89 b90 a w h0 h1 hE hS
  subst hK52
  refine W.seq ?_
  refine W.region ?_
  refine WL.alloc hE hS (runs_plain rfl) zr3 rfl ?_; clear hE hS a w; intro b92 a w hE hS
  refine WL.vS hS hE (runs_plain rfl) (Gives.p hE rfl) rfl ?_; clear hE a; intro a hE
  refine WL.storeI hE hS 0 rfl [.int .i64 0] (runs_plain rfl) rfl rfl rfl ty3 rfl rfl rfl rfl ?_; clear hE hS a w; intro a w hE hS
  refine WL.nil ?_
  refine W.seq ?_
  refine W.region ?_
  refine WL.vS hS hE (runs_plain rfl) (Gives.fld hE rfl fl78_2) rfl ?_; clear hE a; intro a hE
  refine WL.vS hS hE (runs_plain rfl) (Gives.loadB hE 2 rfl rfl rfl ty3) rfl ?_; clear hE a; intro a hE
  refine WL.alloc hE hS (runs_plain rfl) zr3 rfl ?_; clear hE hS a w; intro b93 a w hE hS
  refine WL.storeI hE hS 0 rfl [.int .i64 x62.Dep] (runs_plain rfl) rfl rfl rfl ty3 rfl rfl rfl rfl ?_; clear hE hS a w; intro a w hE hS
  refine WL.nil ?_
  refine W.seq ?_
  refine W.region ?_
  refine WL.vS hS hE (runs_plain rfl) (Gives.mkfn hE (vs := [.pointer (some ⟨b93, 0, none⟩), .pointer (some ⟨b51, 0, none⟩), .pointer (some ⟨b92, 0, none⟩)]) rfl) rfl ?_; clear hE a; intro a hE
  refine WL.vS hS hE (runs_plain rfl) (Gives.p hE rfl) rfl ?_; clear hE a; intro a hE
  refine WL.nil ?_
  refine W.seq ?_
  refine W.seq ?_
  refine W.region ?_
  refine WL.vS hS hE (runs_plain rfl) (Gives.p hE rfl) rfl ?_; clear hE a; intro a hE
  refine WL.vS hS hE (runs_plain rfl) (Gives.len hE rfl sl44) rfl ?_; clear hE a; intro a hE
  refine WL.vS hS hE (runs_plain rfl) (Gives.p hE rfl) rfl ?_; clear hE a; intro a hE
  refine WL.nil ?_
  obtain ⟨q95, hq94, hr⟩ := bindS hr
  refine W.cut (fun a w => ∃ (q105 : Int), ∃ (q106 : Int), ∃ (q107 : Int), (.next (q105, q106, q107)) = q95 ∧ Rep a 121 [(5, .pointer (some ⟨b51, 0, none⟩)), (7, .pointer (some ⟨b89, 0, none⟩)), (8, .pointer (some ⟨b90, 0, none⟩)), (9, .int .i64 q105), (10, .pointer (some ⟨b92, 0, none⟩)), (12, .func (.func 128) #[] #[.pointer (some ⟨b93, 0, none⟩), .pointer (some ⟨b51, 0, none⟩), .pointer (some ⟨b92, 0, none⟩)])] ∧ St w s (pt b93 (.cells #[.int .i64 q107] 3 (0, 0)) :: pt b92 (.cells #[.int .i64 q106] 3 (0, 0)) :: pt b90 (.cells (FleetTask.cells x80).toArray 78 (0, 0)) :: pt b89 (.cells (FleetTask.cells x62).toArray 78 (0, 0)) :: pt b51 (.cells (FleetLimits.cells x2).toArray 24 (0, 0)) :: R)) ?_ ?_
  · refine W.block ?_
    refine W.loop (fun m a w => ∃ (rest98 : List Int) (k96 : Nat), ∃ (q105 : Int), ∃ (q106 : Int), ∃ (q107 : Int), rest98.length = m ∧ x1.drop k96 = rest98 ∧ Fleetjudge.loop1 x0 x1 x2 rest98 k96 q105 q106 q107 = some q95 ∧ Rep a 121 [(0, .slice a0 x0.length c0), (1, .slice a1 x1.length c1), (5, .pointer (some ⟨b51, 0, none⟩)), (7, .pointer (some ⟨b89, 0, none⟩)), (8, .pointer (some ⟨b90, 0, none⟩)), (9, .int .i64 q105), (10, .pointer (some ⟨b92, 0, none⟩)), (11, .pointer (some ⟨b93, 0, none⟩)), (12, .func (.func 128) #[] #[.pointer (some ⟨b93, 0, none⟩), .pointer (some ⟨b51, 0, none⟩), .pointer (some ⟨b92, 0, none⟩)]), (35, .slice a1 x1.length c1), (36, .int .i64 ((x1).length : Int)), (37, .int .i64 ((k96 : Nat) : Int))] ∧ St w s (pt b93 (.cells #[.int .i64 q107] 3 (0, 0)) :: pt b92 (.cells #[.int .i64 q106] 3 (0, 0)) :: pt b90 (.cells (FleetTask.cells x80).toArray 78 (0, 0)) :: pt b89 (.cells (FleetTask.cells x62).toArray 78 (0, 0)) :: pt b51 (.cells (FleetLimits.cells x2).toArray 24 (0, 0)) :: R)) (m := x1.length) ⟨x1, 0, 0, 0, x62.Dep, rfl, rfl, hq94, hE.pick _ ⟨rfl, rfl, rfl, rfl, rfl, rfl, rfl, rfl, rfl, rfl, rfl, rfl, trivial⟩, hS⟩ ?_
    clear hE hS a w hq94; rintro m102 a w ⟨rest98, k96, q105, q106, q107, rfl, hd99, hq94, hE, hS⟩
    refine W.gen fun K108 hK108 => ?_
    rcases rest98 with _ | ⟨x97, rest98⟩
    · have hlt100 := drop_nil hd99
      refine W.seq ?_
      refine W.region ?_
      refine WL.vS hS hE (runs_plain rfl) (Gives.p hE rfl) rfl ?_; clear hE a; intro a hE
      refine WL.nil ?_
      refine W.seq ?_
      refine W.condF hE rfl (decide_eq_false (by omega)) ?_
      subst hK108
      refine W.exit rfl ?_
      exact ⟨q105, q106, q107, Option.some.inj hq94, hE.pick _ ⟨rfl, rfl, rfl, rfl, rfl, rfl, trivial⟩, hS⟩
    · obtain ⟨hlt100, hx101, hd99⟩ := drop_cons hd99
      rw [Fleetjudge.loop1] at hq94
      refine W.seq ?_
      refine W.region ?_
      refine WL.vS hS hE (runs_plain rfl) (Gives.p hE rfl) rfl ?_; clear hE a; intro a hE
      refine WL.nil ?_
      refine W.seq ?_
      refine W.condT hE rfl (decide_eq_true (by omega)) ?_
      refine W.skip ?_
      refine W.seq ?_
      refine W.block ?_
      refine W.seq ?_
      refine W.region ?_
      refine WL.vS hS hE (runs_plain rfl) (Gives.p hE rfl) rfl ?_; clear hE a; intro a hE
      obtain ⟨cs109, hl110, hR111, hat112⟩ := h1.at hx101
      subst hR111
      refine WL.vS hS hE (runs_plain rfl) (Gives.idx hE k96 rfl rfl sl44 rfl hlt100 (h1.aok hlt100)) rfl ?_; clear hE a; intro a hE
      refine WL.vS hS hE (runs_plain rfl) (Gives.load1 hE rfl (fun w h => hat112 w _ h) ty3) rfl ?_; clear hE a; intro a hE
      refine WL.vS hS hE (runs_plain rfl) (Gives.p hE rfl) rfl ?_; clear hE a; intro a hE
      refine WL.vS hS hE (runs_plain rfl) (Gives.p hE rfl) rfl ?_; clear hE a; intro a hE
      refine WL.nil ?_
      refine W.seq ?_
      refine W.region ?_
      refine WL.vS hS hE (runs_plain rfl) (Gives.p hE rfl) rfl ?_; clear hE a; intro a hE
      refine WL.vS hS hE (runs_plain rfl) (Gives.p hE rfl) rfl ?_; clear hE a; intro a hE
      obtain ⟨x113, hx114, hq94⟩ := bindS hq94
      obtain ⟨hi115, hlt116, hy117⟩ := gx_some hx114
      obtain ⟨cs118, hl119, hR120, hat121⟩ := h0.at hy117
      subst hR120
      refine WL.vS hS hE (runs_plain rfl) (Gives.idx hE (x97).toNat rfl rfl sl32 hi115 hlt116 (h0.aok hlt116)) rfl ?_; clear hE a; intro a hE
      refine WL.vS hS hE (runs_plain rfl) (Gives.loadA hE rfl (fun w h => hat121 w _ h) ty78) rfl ?_; clear hE a; intro a hE
      refine WL.alloc hE hS (runs_plain rfl) zr78 rfl ?_; clear hE hS a w; intro b122 a w hE hS
      refine WL.storeI hE hS 0 rfl (FleetTask.cells x113) (runs_plain rfl) rfl rfl rfl ty78 rfl rfl rfl rfl ?_; clear hE hS a w; intro a w hE hS
      refine WL.nil ?_
      refine W.seq ?_
      refine W.region ?_
      refine WL.vS hS hE (runs_plain rfl) (Gives.p hE rfl) rfl ?_; clear hE a; intro a hE
      refine WL.vS hS hE (runs_plain rfl) (Gives.fld hE rfl fl78_3) rfl ?_; clear hE a; intro a hE
      refine WL.vS hS hE (runs_plain rfl) (Gives.loadB hE 0 rfl rfl rfl ty3) rfl ?_; clear hE a; intro a hE
      refine WL.vS hS hE (runs_plain rfl) (Gives.fld hE rfl fl78_2) rfl ?_; clear hE a; intro a hE
      refine WL.vS hS hE (runs_plain rfl) (Gives.loadB hE 0 rfl rfl rfl ty3) rfl ?_; clear hE a; intro a hE
      refine WL.vS hS hE (runs_plain rfl) (Gives.p hE rfl) rfl ?_; clear hE a; intro a hE
      refine WL.vS hS hE (runs_plain rfl) (Gives.p hE rfl) rfl ?_; clear hE a; intro a hE
      refine WL.vS hS hE (runs_plain rfl) (Gives.p hE rfl) rfl ?_; clear hE a; intro a hE
      refine WL.nil ?_
      refine W.seq ?_
      refine W.seq ?_
      refine W.region ?_
      refine WL.vS hS hE (runs_plain rfl) (Gives.p hE rfl) rfl ?_; clear hE a; intro a hE
      refine WL.vS hS hE (runs_plain rfl) (Gives.p hE rfl) rfl ?_; clear hE a; intro a hE
      refine WL.nil ?_
      refine W.cond hE rfl (fun hc123 => ?_) (fun hc123 => ?_)
      · replace hq94 := iteT hc123 hq94
        refine W.exit rfl ?_
        refine W.region ?_
        refine WL.vS hS hE (runs_plain rfl) (Gives.inc hE rfl (by have := h1.small; omega)) rfl ?_; clear hE a; intro a hE
        refine WL.vS hS hE (runs_plain rfl) (Gives.p hE rfl) rfl ?_; clear hE a; intro a hE
        refine WL.nil ?_
        replace hS := hS.tail
        subst hK108
        exact ⟨rest98.length, Nat.lt_succ_self _, rest98, k96 + 1, (w64 (q105 + (w64 (x113.Arr - x113.Dep)))), q106, q107, rfl, hd99, hq94, hE.pick _ ⟨rfl, rfl, rfl, rfl, rfl, rfl, rfl, rfl, rfl, rfl, rfl, rfl, trivial⟩, hS⟩
      · replace hq94 := iteF hc123 hq94
        refine W.skip ?_
        refine W.seq ?_
        refine W.region ?_
        refine WL.vS hS hE (runs_plain rfl) (Gives.p hE rfl) rfl ?_; clear hE a; intro a hE
        refine WL.vS hS hE (runs_plain rfl) (Gives.p hE rfl) rfl ?_; clear hE a; intro a hE
        refine WL.vS hS hE (runs_plain rfl) (Gives.p hE rfl) rfl ?_; clear hE a; intro a hE
        refine WL.vS hS hE (runs_plain rfl) (Gives.p hE rfl) rfl ?_; clear hE a; intro a hE
        obtain ⟨x124, hx125, hq94⟩ := bindS hq94
        obtain ⟨hi126, hlt127, hy128⟩ := gx_some hx125
        obtain ⟨cs129, hl130, hR131, hat132⟩ := h1.at hy128
        subst hR131
        refine WL.vS hS hE (runs_plain rfl) (Gives.idx hE (w64 (((k96 : Nat) : Int) - 1)).toNat rfl rfl sl44 hi126 hlt127 (h1.aok hlt127)) rfl ?_; clear hE a; intro a hE
        refine WL.vS hS hE (runs_plain rfl) (Gives.load1 hE rfl (fun w h => hat132 w _ h) ty3) rfl ?_; clear hE a; intro a hE
        obtain ⟨x133, hx134, hq94⟩ := bindS hq94
        obtain ⟨hi135, hlt136, hy137⟩ := gx_some hx134
        obtain ⟨cs138, hl139, hR140, hat141⟩ := h0.at hy137
        subst hR140
        refine WL.vS hS hE (runs_plain rfl) (Gives.idx hE (x124).toNat rfl rfl sl32 hi135 hlt136 (h0.aok hlt136)) rfl ?_; clear hE a; intro a hE
        refine WL.vS hS hE (runs_plain rfl) (Gives.loadA hE rfl (fun w h => hat141 w _ h) ty78) rfl ?_; clear hE a; intro a hE
        refine WL.alloc hE hS (runs_plain rfl) zr78 rfl ?_; clear hE hS a w; intro b142 a w hE hS
        refine WL.storeI hE hS 0 rfl (FleetTask.cells x133) (runs_plain rfl) rfl rfl rfl ty78 rfl rfl rfl rfl ?_; clear hE hS a w; intro a w hE hS
        refine WL.nil ?_
        refine W.seq ?_
        refine W.seq ?_
        obtain ⟨q144, hq143, hq94⟩ := bndS hq94
        refine W.cut (fun a w => ∃ (q147 : Bool), q147 = q144 ∧ Rep a 121 [(0, .slice a0 x0.length c0), (1, .slice a1 x1.length c1), (5, .pointer (some ⟨b51, 0, none⟩)), (7, .pointer (some ⟨b89, 0, none⟩)), (8, .pointer (some ⟨b90, 0, none⟩)), (9, .int .i64 (w64 (q105 + (w64 (x113.Arr - x113.Dep))))), (10, .pointer (some ⟨b92, 0, none⟩)), (11, .pointer (some ⟨b93, 0, none⟩)), (12, .func (.func 128) #[] #[.pointer (some ⟨b93, 0, none⟩), .pointer (some ⟨b51, 0, none⟩), .pointer (some ⟨b92, 0, none⟩)]), (15, .pointer (some ⟨b122, 0, none⟩)), (16, .pointer (some ⟨b142, 0, none⟩)), (35, .slice a1 x1.length c1), (36, .int .i64 ((x1).length : Int)), (37, .int .i64 ((k96 : Nat) : Int)), (77, .bool q147)] ∧ St w s (pt b142 (.cells (FleetTask.cells x133).toArray 78 (0, 0)) :: pt b122 (.cells (FleetTask.cells x113).toArray 78 (0, 0)) :: pt b93 (.cells #[.int .i64 q107] 3 (0, 0)) :: pt b92 (.cells #[.int .i64 q106] 3 (0, 0)) :: pt b90 (.cells (FleetTask.cells x80).toArray 78 (0, 0)) :: pt b89 (.cells (FleetTask.cells x62).toArray 78 (0, 0)) :: pt b51 (.cells (FleetLimits.cells x2).toArray 24 (0, 0)) :: R)) ?_ ?_
        · refine W.gen fun K148 hK148 => ?_
          refine W.region ?_
          refine WL.vS hS hE (runs_plain rfl) (Gives.fld hE rfl fl78_0) rfl ?_; clear hE a; intro a hE
          refine WL.vS hS hE (runs_plain rfl) (Gives.loadB hE 1 rfl rfl rfl ty3) rfl ?_; clear hE a; intro a hE
          refine WL.vS hS hE (runs_plain rfl) (Gives.fld hE rfl fl78_1) rfl ?_; clear hE a; intro a hE
          refine WL.vS hS hE (runs_plain rfl) (Gives.loadB hE 0 rfl rfl rfl ty3) rfl ?_; clear hE a; intro a hE
          refine WL.vS hS hE (runs_plain rfl) (Gives.p hE rfl) rfl ?_; clear hE a; intro a hE
          refine WL.vS hS hE (runs_plain rfl) (Gives.p hE rfl) rfl ?_; clear hE a; intro a hE
          rcases Bool.eq_false_or_eq_true (x113.From != x133.To) with hg149 | hg149
          · replace hq143 := iteT hg149 hq143
            refine WL.no hE (runs_not hE rfl rfl rfl (by rw [hg149]; decide)) rfl ?_; clear hE a; intro a hE
            refine WL.no hE (runs_not hE rfl rfl rfl (by rw [hg149]; decide)) rfl ?_; clear hE a; intro a hE
            refine WL.no hE (runs_not hE rfl rfl rfl (by rw [hg149]; decide)) rfl ?_; clear hE a; intro a hE
            refine WL.no hE (runs_not hE rfl rfl rfl (by rw [hg149]; decide)) rfl ?_; clear hE a; intro a hE
            refine WL.no hE (runs_not hE rfl rfl rfl (by rw [hg149]; decide)) rfl ?_; clear hE a; intro a hE
            refine WL.no hE (runs_not hE rfl rfl rfl (by rw [hg149]; decide)) rfl ?_; clear hE a; intro a hE
            refine WL.no hE (runs_not hE rfl rfl rfl (by rw [hg149]; decide)) rfl ?_; clear hE a; intro a hE
            refine WL.no hE (runs_not hE rfl rfl rfl (by rw [hg149]; decide)) rfl ?_; clear hE a; intro a hE
            refine WL.vS hS hE (runs_plain rfl) (Gives.pickT hE rfl hg149 rfl) rfl ?_; clear hE a; intro a hE
            refine WL.nil ?_
            subst hK148
            exact ⟨true, hq143, hE.pick _ ⟨rfl, rfl, rfl, rfl, rfl, rfl, rfl, rfl, rfl, rfl, rfl, rfl, rfl, rfl, rfl, trivial⟩, hS⟩
          · replace hq143 := iteF hg149 hq143
            refine WL.vS hS hE (runs_if hE rfl rfl rfl hg149) (Gives.fld hE rfl fl78_2) rfl ?_; clear hE a; intro a hE
            refine WL.vS hS hE (runs_if hE rfl rfl rfl hg149) (Gives.loadB hE 1 rfl rfl rfl ty3) rfl ?_; clear hE a; intro a hE
            refine WL.vS hS hE (runs_if hE rfl rfl rfl hg149) (Gives.fld hE rfl fl78_3) rfl ?_; clear hE a; intro a hE
            refine WL.vS hS hE (runs_if hE rfl rfl rfl hg149) (Gives.loadB hE 0 rfl rfl rfl ty3) rfl ?_; clear hE a; intro a hE
            refine WL.vS hS hE (runs_if hE rfl rfl rfl hg149) (Gives.fld hE rfl fl24_0) rfl ?_; clear hE a; intro a hE
            refine WL.vS hS hE (runs_if hE rfl rfl rfl hg149) (Gives.loadB hE 6 rfl rfl rfl ty3) rfl ?_; clear hE a; intro a hE
            refine WL.vS hS hE (runs_if hE rfl rfl rfl hg149) (Gives.p hE rfl) rfl ?_; clear hE a; intro a hE
            refine WL.vS hS hE (runs_if hE rfl rfl rfl hg149) (Gives.p hE rfl) rfl ?_; clear hE a; intro a hE
            refine WL.vS hS hE (runs_plain rfl) (Gives.pickF hE rfl hg149 rfl) rfl ?_; clear hE a; intro a hE
            refine WL.nil ?_
            subst hK148
            exact ⟨decide (x113.Dep < (w64 (x133.Arr + x2.Change))), hq143, hE.pick _ ⟨rfl, rfl, rfl, rfl, rfl, rfl, rfl, rfl, rfl, rfl, rfl, rfl, rfl, rfl, rfl, trivial⟩, hS⟩
        · clear hE hS a w; rintro a w ⟨q147, rfl, hE, hS⟩
          refine W.cond hE rfl (fun hc150 => ?_) (fun hc150 => ?_)
          · replace hq94 := iteT hc150 hq94
            refine W.seq ?_
            refine W.region ?_
            refine WL.vS hS hE (runs_plain rfl) (Gives.p hE rfl) rfl ?_; clear hE a; intro a hE
            refine WL.nil ?_
            refine W.ret ?_
            subst hK108
            rw [← Option.some.inj hq94] at hr
            dsimp only at hr
            refine finG (fn := Try.f98) (rs := [.tmp 6]) (vs := [_]) hE rfl ⟨rfl, trivial⟩ ?_
            obtain rfl := Option.some.inj hr
            replace hS := hS.tail
            replace hS := hS.tail
            replace hS := hS.tail
            replace hS := hS.tail
            replace hS := hS.tail
            replace hS := hS.tail
            replace hS := hS.tail
            exact ⟨rfl, hS⟩
          · replace hq94 := iteF hc150 hq94
            refine W.skip ?_
            refine W.seq ?_
            refine W.region ?_
            refine WL.vS hS hE (runs_plain rfl) (Gives.fld hE rfl fl78_2) rfl ?_; clear hE a; intro a hE
            refine WL.vS hS hE (runs_plain rfl) (Gives.loadB hE 1 rfl rfl rfl ty3) rfl ?_; clear hE a; intro a hE
            refine WL.vS hS hE (runs_plain rfl) (Gives.fld hE rfl fl78_3) rfl ?_; clear hE a; intro a hE
            refine WL.vS hS hE (runs_plain rfl) (Gives.loadB hE 0 rfl rfl rfl ty3) rfl ?_; clear hE a; intro a hE
            refine WL.vS hS hE (runs_plain rfl) (Gives.p hE rfl) rfl ?_; clear hE a; intro a hE
            refine WL.vS hS hE (runs_plain rfl) (Gives.fld hE rfl fl24_4) rfl ?_; clear hE a; intro a hE
            refine WL.vS hS hE (runs_plain rfl) (Gives.loadB hE 6 rfl rfl rfl ty3) rfl ?_; clear hE a; intro a hE
            refine WL.vS hS hE (runs_plain rfl) (Gives.p hE rfl) rfl ?_; clear hE a; intro a hE
            refine WL.nil ?_
            obtain ⟨q152, hq151, hq94⟩ := bndS hq94
            refine W.cut (fun a w => ∃ (q155 : Int), ∃ (q156 : Int), (q155, q156) = q152 ∧ Rep a 121 [(0, .slice a0 x0.length c0), (1, .slice a1 x1.length c1), (5, .pointer (some ⟨b51, 0, none⟩)), (7, .pointer (some ⟨b89, 0, none⟩)), (8, .pointer (some ⟨b90, 0, none⟩)), (9, .int .i64 (w64 (q105 + (w64 (x113.Arr - x113.Dep))))), (10, .pointer (some ⟨b92, 0, none⟩)), (11, .pointer (some ⟨b93, 0, none⟩)), (12, .func (.func 128) #[] #[.pointer (some ⟨b93, 0, none⟩), .pointer (some ⟨b51, 0, none⟩), .pointer (some ⟨b92, 0, none⟩)]), (35, .slice a1 x1.length c1), (36, .int .i64 ((x1).length : Int)), (37, .int .i64 ((k96 : Nat) : Int))] ∧ St w s (pt b142 (.cells (FleetTask.cells x133).toArray 78 (0, 0)) :: pt b122 (.cells (FleetTask.cells x113).toArray 78 (0, 0)) :: pt b93 (.cells #[.int .i64 q156] 3 (0, 0)) :: pt b92 (.cells #[.int .i64 q155] 3 (0, 0)) :: pt b90 (.cells (FleetTask.cells x80).toArray 78 (0, 0)) :: pt b89 (.cells (FleetTask.cells x62).toArray 78 (0, 0)) :: pt b51 (.cells (FleetLimits.cells x2).toArray 24 (0, 0)) :: R)) ?_ ?_
            · refine W.gen fun K157 hK157 => ?_
              refine W.cond hE rfl (fun hc158 => ?_) (fun hc158 => ?_)
              · replace hq151 := iteT hc158 hq151
                refine W.seq ?_
                refine W.region ?_
                refine WL.vS hS hE (runs_plain rfl) (Gives.p hE rfl) rfl ?_; clear hE a; intro a hE
                refine WL.vS hS hE (runs_plain rfl) (Gives.fld hE rfl fl78_3) rfl ?_; clear hE a; intro a hE
                refine WL.vS hS hE (runs_plain rfl) (Gives.loadB hE 0 rfl rfl rfl ty3) rfl ?_; clear hE a; intro a hE
                obtain ⟨q159, hq160, hq151⟩ := bndS hq151
                replace hS := hS.front 3 rfl
                replace hS := hS.front 6 rfl
                replace hS := hS.front 4 rfl
                have hc_ := Fleetjudge_1_v1_ok (y1 := x2) hS  hq160
                refine WL.fnw hE (hc_) rfl (runs_plain rfl) bd128 rfl rfl rfl ?_
                clear hE hS hc_; rintro e w ⟨rfl, hS⟩; refine ⟨_, rfl, ?_⟩; clear a; intro a hE
                refine WL.nil ?_
                refine W.region ?_
                refine WL.vS hS hE (runs_plain rfl) (Gives.fld hE rfl fl78_2) rfl ?_; clear hE a; intro a hE
                refine WL.vS hS hE (runs_plain rfl) (Gives.loadB hE 4 rfl rfl rfl ty3) rfl ?_; clear hE a; intro a hE
                refine WL.storeI hE hS 0 rfl [.int .i64 x113.Dep] (runs_plain rfl) rfl rfl rfl ty3 rfl rfl rfl rfl ?_; clear hE hS a w; intro a w hE hS
                refine WL.nil ?_
                replace hS := hS.front 1 rfl
                replace hS := hS.front 6 rfl
                replace hS := hS.front 6 rfl
                replace hS := hS.front 4 rfl
                replace hS := hS.front 4 rfl
                replace hS := hS.front 6 rfl
                replace hS := hS.front 6 rfl
                subst hK157
                exact ⟨q159, x113.Dep, hq151, hE.pick _ ⟨rfl, rfl, rfl, rfl, rfl, rfl, rfl, rfl, rfl, rfl, rfl, rfl, trivial⟩, hS⟩
              · replace hq151 := iteF hc158 hq151
                refine W.skip ?_
                subst hK157
                exact ⟨q106, q107, hq151, hE.pick _ ⟨rfl, rfl, rfl, rfl, rfl, rfl, rfl, rfl, rfl, rfl, rfl, rfl, trivial⟩, hS⟩
            · clear hE hS a w; rintro a w ⟨q155, q156, rfl, hE, hS⟩
              dsimp only at hq94
              refine W.region ?_
              refine WL.vS hS hE (runs_plain rfl) (Gives.inc hE rfl (by have := h1.small; omega)) rfl ?_; clear hE a; intro a hE
              refine WL.vS hS hE (runs_plain rfl) (Gives.p hE rfl) rfl ?_; clear hE a; intro a hE
              refine WL.nil ?_
              replace hS := hS.tail
              replace hS := hS.tail
              subst hK108
              exact ⟨rest98.length, Nat.lt_succ_self _, rest98, k96 + 1, (w64 (q105 + (w64 (x113.Arr - x113.Dep)))), q155, q156, rfl, hd99, hq94, hE.pick _ ⟨rfl, rfl, rfl, rfl, rfl, rfl, rfl, rfl, rfl, rfl, rfl, rfl, trivial⟩, hS⟩
  · clear hE hS a w; rintro a w ⟨q105, q106, q107, rfl, hE, hS⟩
    dsimp only at hr
    refine W.seq ?_
    refine W.region ?_
    refine WL.vS hS hE (runs_plain rfl) (Gives.p hE rfl) rfl ?_; clear hE a; intro a hE
    refine WL.vS hS hE (runs_plain rfl) (Gives.fld hE rfl fl78_3) rfl ?_; clear hE a; intro a hE
    refine WL.vS hS hE (runs_plain rfl) (Gives.loadB hE 2 rfl rfl rfl ty3) rfl ?_; clear hE a; intro a hE
    obtain ⟨q161, hq162, hr⟩ := bndS hr
    replace hS := hS.front 1 rfl
    replace hS := hS.front 4 rfl
    replace hS := hS.front 2 rfl
    have hc_ := Fleetjudge_1_v1_ok (y1 := x2) hS  hq162
    refine WL.fnw hE (hc_) rfl (runs_plain rfl) bd128 rfl rfl rfl ?_
    clear hE hS hc_; rintro e w ⟨rfl, hS⟩; refine ⟨_, rfl, ?_⟩; clear a; intro a hE
    refine WL.nil ?_
    refine W.seq ?_
    refine W.block ?_
    refine W.seq ?_
    refine W.region ?_
    refine WL.vS hS hE (runs_plain rfl) (Gives.fld hE rfl fl78_3) rfl ?_; clear hE a; intro a hE
    refine WL.vS hS hE (runs_plain rfl) (Gives.loadB hE 3 rfl rfl rfl ty3) rfl ?_; clear hE a; intro a hE
    refine WL.vS hS hE (runs_plain rfl) (Gives.fld hE rfl fl78_2) rfl ?_; clear hE a; intro a hE
    refine WL.vS hS hE (runs_plain rfl) (Gives.loadB hE 4 rfl rfl rfl ty3) rfl ?_; clear hE a; intro a hE
    refine WL.vS hS hE (runs_plain rfl) (Gives.p hE rfl) rfl ?_; clear hE a; intro a hE
    refine WL.vS hS hE (runs_plain rfl) (Gives.fld hE rfl fl24_1) rfl ?_; clear hE a; intro a hE
    refine WL.vS hS hE (runs_plain rfl) (Gives.loadB hE 1 rfl rfl rfl ty3) rfl ?_; clear hE a; intro a hE
    refine WL.vS hS hE (runs_plain rfl) (Gives.p hE rfl) rfl ?_; clear hE a; intro a hE
    refine WL.vS hS hE (runs_plain rfl) (Gives.p hE rfl) rfl ?_; clear hE a; intro a hE
    refine WL.nil ?_
    refine W.cond hE rfl (fun hc163 => ?_) (fun hc163 => ?_)
    · replace hr := iteT hc163 hr
      refine W.seq ?_
      refine W.region ?_
      refine WL.vS hS hE (runs_plain rfl) (Gives.p hE rfl) rfl ?_; clear hE a; intro a hE
      refine WL.nil ?_
      refine W.ret ?_
      refine finG (fn := Try.f98) (rs := [.tmp 6]) (vs := [_]) hE rfl ⟨rfl, trivial⟩ ?_
      obtain rfl := Option.some.inj hr
      replace hS := hS.tail
      replace hS := hS.tail
      replace hS := hS.tail
      replace hS := hS.tail
      replace hS := hS.tail
      exact ⟨rfl, hS⟩
    · replace hr := iteF hc163 hr
      refine W.seq ?_
      refine W.region ?_
      refine WL.vS hS hE (runs_plain rfl) (Gives.p hE rfl) rfl ?_; clear hE a; intro a hE
      refine WL.vS hS hE (runs_plain rfl) (Gives.fld hE rfl fl24_2) rfl ?_; clear hE a; intro a hE
      refine WL.vS hS hE (runs_plain rfl) (Gives.loadB hE 1 rfl rfl rfl ty3) rfl ?_; clear hE a; intro a hE
      refine WL.vS hS hE (runs_plain rfl) (Gives.p hE rfl) rfl ?_; clear hE a; intro a hE
      refine WL.vS hS hE (runs_plain rfl) (Gives.p hE rfl) rfl ?_; clear hE a; intro a hE
      refine WL.nil ?_
      refine W.cond hE rfl (fun hc164 => ?_) (fun hc164 => ?_)
      · replace hr := iteT hc164 hr
        refine W.seq ?_
        refine W.region ?_
        refine WL.vS hS hE (runs_plain rfl) (Gives.p hE rfl) rfl ?_; clear hE a; intro a hE
        refine WL.nil ?_
        refine W.ret ?_
        refine finG (fn := Try.f98) (rs := [.tmp 6]) (vs := [_]) hE rfl ⟨rfl, trivial⟩ ?_
        obtain rfl := Option.some.inj hr
        replace hS := hS.tail
        replace hS := hS.tail
        replace hS := hS.tail
        replace hS := hS.tail
        replace hS := hS.tail
        exact ⟨rfl, hS⟩
      · replace hr := iteF hc164 hr
        refine W.seq ?_
        refine W.region ?_
        refine WL.vS hS hE (runs_plain rfl) (Gives.loadB hE 2 rfl rfl rfl ty3) rfl ?_; clear hE a; intro a hE
        refine WL.vS hS hE (runs_plain rfl) (Gives.p hE rfl) rfl ?_; clear hE a; intro a hE
        refine WL.vS hS hE (runs_plain rfl) (Gives.p hE rfl) rfl ?_; clear hE a; intro a hE
        refine WL.nil ?_
        refine W.cond hE rfl (fun hc165 => ?_) (fun hc165 => ?_)
        · replace hr := iteT hc165 hr
          refine W.seq ?_
          refine W.region ?_
          refine WL.vS hS hE (runs_plain rfl) (Gives.loadB hE 2 rfl rfl rfl ty3) rfl ?_; clear hE a; intro a hE
          refine WL.vS hS hE (runs_plain rfl) (Gives.p hE rfl) rfl ?_; clear hE a; intro a hE
          refine WL.nil ?_
          refine W.ret ?_
          refine finG (fn := Try.f98) (rs := [.tmp 6]) (vs := [_]) hE rfl ⟨rfl, trivial⟩ ?_
          obtain rfl := Option.some.inj hr
          replace hS := hS.tail
          replace hS := hS.tail
          replace hS := hS.tail
          replace hS := hS.tail
          replace hS := hS.tail
          exact ⟨rfl, hS⟩
        · replace hr := iteF hc165 hr
          refine W.seq ?_
          refine W.region ?_
          refine WL.vS hS hE (runs_plain rfl) (Gives.fld hE rfl fl78_1) rfl ?_; clear hE a; intro a hE
          refine WL.vS hS hE (runs_plain rfl) (Gives.loadB hE 3 rfl rfl rfl ty3) rfl ?_; clear hE a; intro a hE
          refine WL.vS hS hE (runs_plain rfl) (Gives.fld hE rfl fl78_0) rfl ?_; clear hE a; intro a hE
          refine WL.vS hS hE (runs_plain rfl) (Gives.loadB hE 4 rfl rfl rfl ty3) rfl ?_; clear hE a; intro a hE
          refine WL.vS hS hE (runs_plain rfl) (Gives.p hE rfl) rfl ?_; clear hE a; intro a hE
          refine WL.vS hS hE (runs_plain rfl) (Gives.p hE rfl) rfl ?_; clear hE a; intro a hE
          refine WL.nil ?_
          refine W.cond hE rfl (fun hc166 => ?_) (fun hc166 => ?_)
          · replace hr := iteT hc166 hr
            refine W.seq ?_
            refine W.region ?_
            refine WL.vS hS hE (runs_plain rfl) (Gives.p hE rfl) rfl ?_; clear hE a; intro a hE
            refine WL.nil ?_
            refine W.ret ?_
            refine finG (fn := Try.f98) (rs := [.tmp 6]) (vs := [_]) hE rfl ⟨rfl, trivial⟩ ?_
            obtain rfl := Option.some.inj hr
            replace hS := hS.tail
            replace hS := hS.tail
            replace hS := hS.tail
            replace hS := hS.tail
            replace hS := hS.tail
            exact ⟨rfl, hS⟩
          · replace hr := iteF hc166 hr
            refine W.skip ?_
            refine W.seq ?_
            refine W.region ?_
            refine WL.vS hS hE (runs_plain rfl) (Gives.p hE rfl) rfl ?_; clear hE a; intro a hE
            refine WL.nil ?_
            refine W.ret ?_
            refine finG (fn := Try.f98) (rs := [.tmp 6]) (vs := [_]) hE rfl ⟨rfl, trivial⟩ ?_
            obtain rfl := Option.some.inj hr
            replace hS := hS.tail
            replace hS := hS.tail
            replace hS := hS.tail
            replace hS := hS.tail
            replace hS := hS.tail
            exact ⟨rfl, hS⟩
set_option maxHeartbeats 8000000 in
theorem FleetDividerdivide_v1_ok : ∀ {fu : Nat} {w : World} {s : Sg} {R : List HP} {pb0 : Nat} {x1 : Int} {x2 : Int} {x3 : List Int} {a3 : Option Addr} {c3 : Nat} {y0 : FleetDivider} {a_y0_0 : Option Addr} {c_y0_0 : Nat} {a_v0 : Option Addr} {c_v0 n_v0 : Nat} {cs_v0 : List Value} {a_v1 : Option Addr} {c_v1 n_v1 : Nat} {cs_v1 : List Value} (_hS : St w s (pt pb0 (.cells #[.slice a_y0_0 y0.tasks.length c_y0_0, .int .i64 y0.limits.Change, .int .i64 y0.limits.Long, .int .i64 y0.limits.Work, .int .i64 y0.limits.After, .int .i64 y0.limits.Break, .int .i64 y0.limits.Rest, .int .i64 y0.limits.Row, .slice a_v0 n_v0 c_v0, .slice a_v1 n_v1 c_v1] 114 (0, 0)) :: vecC 4 1 a_v0 c_v0 n_v0 cs_v0 :: vecC 44 1 a_v1 c_v1 n_v1 cs_v1 :: R)) (_h3 : Sl 1 (RI .i64) s a3 c3 x3) (_hz3 : x3 = [] → a3 = none) (_h_y0_0 : Sl 6 RFleetTask s a_y0_0 c_y0_0 y0.tasks) (_h_v0 : Ev 1 RB s cs_v0 y0.used) (_hn_v0 : y0.used.length = n_v0) (_h_v1 : Ev 1 (RL 1 (RI .i64)) s cs_v1 y0.duties) (_hn_v1 : y0.duties.length = n_v1) {r : Bool × (List Bool) × (List (List Int))} (_hr : FleetDividerdivide_v1 fu x1 x2 x3 y0 = some r),
    Calls Try.prog 80 [.pointer (some ⟨pb0, 0, none⟩), .int .i64 x1, .int .i64 x2, .slice a3 x3.length c3].toArray w (fun e w => ∃ (cs68 : List Value) (a71 : Option Addr) (c72 : Nat) (n74 : Nat) (cs75 : List Value) (t : Sg), e = .returned (.bool r.1) ∧ s.Le t ∧ Ev 1 RB t cs68 r.2.1 ∧ r.2.1.length = n_v0 ∧ Ev 1 (RL 1 (RI .i64)) t cs75 r.2.2 ∧ r.2.2.length = n74 ∧ St w t (pt pb0 (.cells #[.slice a_y0_0 y0.tasks.length c_y0_0, .int .i64 y0.limits.Change, .int .i64 y0.limits.Long, .int .i64 y0.limits.Work, .int .i64 y0.limits.After, .int .i64 y0.limits.Break, .int .i64 y0.limits.Rest, .int .i64 y0.limits.Row, .slice a_v0 n_v0 c_v0, .slice a71 n74 c72] 114 (0, 0)) :: vecC 4 1 a_v0 c_v0 n_v0 cs68 :: vecC 44 1 a71 c72 n74 cs75 :: R)) := by
  intro fu
  induction fu with
  | zero => intro w s R pb0 x1 x2 x3 a3 c3 y0 a_y0_0 c_y0_0 a_v0 c_v0 n_v0 cs_v0 a_v1 c_v1 n_v1 cs_v1 hS h3 hz3 h_y0_0 h_v0 hn_v0 h_v1 hn_v1 r hr; rw [FleetDividerdivide_v1] at hr; exact absurd hr (by simp)
  | succ fu ih_FleetDividerdivide_v1 =>
    intro w s R pb0 x1 x2 x3 a3 c3 y0 a_y0_0 c_y0_0 a_v0 c_v0 n_v0 cs_v0 a_v1 c_v1 n_v1 cs_v1 hS h3 hz3 h_y0_0 h_v0 hn_v0 h_v1 hn_v1 r hr
    rw [FleetDividerdivide_v1] at hr
    generalize FleetDividerdivide_v1 fu = self_FleetDividerdivide_v1 at hr ih_FleetDividerdivide_v1
    refine enter Try.func80 rfl rfl rfl fun a hE => ?_
    subst hn_v0
    subst hn_v1
    refine W.seq ?_
    refine W.region ?_
    refine WL.vS hS hE (runs_plain rfl) (Gives.p hE rfl) rfl ?_; clear hE a; intro a hE
    refine WL.nil ?_
    refine W.seq ?_
    refine W.seq ?_
    refine W.region ?_
    refine WL.vS hS hE (runs_plain rfl) (Gives.p hE rfl) rfl ?_; clear hE a; intro a hE
    refine WL.vS hS hE (runs_plain rfl) (Gives.isNilZ hE (isNone_eq h3 hz3) rfl rfl isl44) rfl ?_; clear hE a; intro a hE
    refine WL.nil ?_
    refine W.cond hE rfl (fun hc77 => ?_) (fun hc77 => ?_)
    · replace hr := iteT hc77 hr
      refine W.seq ?_
      refine W.seq ?_
      refine W.region ?_
      refine WL.vS hS hE (runs_plain rfl) (Gives.p hE rfl) rfl ?_; clear hE a; intro a hE
      refine WL.vS hS hE (runs_plain rfl) (Gives.nilOk hE rfl) rfl ?_; clear hE a; intro a hE
      refine WL.vS hS hE (runs_plain rfl) (Gives.fld hE rfl fl114_2) rfl ?_; clear hE a; intro a hE
      refine WL.vS hS hE (runs_plain rfl) (Gives.loadB hE 0 rfl rfl rfl ty101) rfl ?_; clear hE a; intro a hE
      have hF := hS.lendV RB.mono 1 rfl h_v0 (rfl); clear hS; obtain ⟨t78, hle79, hS, hs80, bk81⟩ := hF
      refine WL.fnq hE (SlicesContainsLbool_ok hS hs80 rfl (r := SlicesContainsLbool y0.used false)) (runs_plain rfl) bd119 rfl rfl rfl ?_
      clear hE hS; rintro e w ⟨rfl, hS⟩; refine ⟨_, rfl, ?_⟩; clear a; intro a hE
      replace hS := bk81 _ _ hS
      refine WL.vS hS hE (runs_plain rfl) (Gives.p hE rfl) rfl ?_; clear hE a; intro a hE
      refine WL.nil ?_
      refine W.cond hE rfl (fun hc82 => ?_) (fun hc82 => ?_)
      · replace hr := iteT hc82 hr
        refine W.seq ?_
        refine W.region ?_
        refine WL.vS hS hE (runs_plain rfl) (Gives.p hE rfl) rfl ?_; clear hE a; intro a hE
        refine WL.vS hS hE (runs_plain rfl) (Gives.p hE rfl) rfl ?_; clear hE a; intro a hE
        refine WL.vS hS hE (runs_plain rfl) (Gives.p hE rfl) rfl ?_; clear hE a; intro a hE
        refine WL.nil ?_
        refine W.ret ?_
        refine finG (fn := Try.f80) (rs := [.tmp 8]) (vs := [_]) hE rfl ⟨rfl, trivial⟩ ?_
        obtain rfl := Option.some.inj hr
        replace hS := hS.front 2 rfl
        replace hS := hS.front 1 rfl
        replace hS := hS.front 2 rfl
        exact ⟨cs_v0, a_v1, c_v1, y0.duties.length, cs_v1, s, rfl, (Sg.Le.refl _), h_v0, (rfl), h_v1, (rfl), hS⟩
      · replace hr := iteF hc82 hr
        refine W.skip ?_
        refine W.seq ?_
        refine W.seq ?_
        refine W.region ?_
        refine WL.vS hS hE (runs_plain rfl) (Gives.p hE rfl) rfl ?_; clear hE a; intro a hE
        refine WL.vS hS hE (runs_plain rfl) (Gives.p hE rfl) rfl ?_; clear hE a; intro a hE
        refine WL.nil ?_
        refine W.cond hE rfl (fun hc83 => ?_) (fun hc83 => ?_)
        · replace hr := iteT hc83 hr
          refine W.seq ?_
          refine W.region ?_
          refine WL.vS hS hE (runs_plain rfl) (Gives.p hE rfl) rfl ?_; clear hE a; intro a hE
          refine WL.nil ?_
          refine W.ret ?_
          refine finG (fn := Try.f80) (rs := [.tmp 8]) (vs := [_]) hE rfl ⟨rfl, trivial⟩ ?_
          obtain rfl := Option.some.inj hr
          replace hS := hS.front 2 rfl
          replace hS := hS.front 1 rfl
          replace hS := hS.front 2 rfl
          exact ⟨cs_v0, a_v1, c_v1, y0.duties.length, cs_v1, s, rfl, (Sg.Le.refl _), h_v0, (rfl), h_v1, (rfl), hS⟩
        · replace hr := iteF hc83 hr
          refine W.skip ?_
          refine W.seq ?_
          refine W.seq ?_
          refine W.region ?_
          refine WL.vS hS hE (runs_plain rfl) (Gives.p hE rfl) rfl ?_; clear hE a; intro a hE
          refine WL.vS hS hE (runs_plain rfl) (Gives.p hE rfl) rfl ?_; clear hE a; intro a hE
          refine WL.vS hS hE (runs_plain rfl) (Gives.p hE rfl) rfl ?_; clear hE a; intro a hE
          refine WL.nil ?_
          obtain ⟨q85, hq84, hr⟩ := bindS hr
          refine W.cut (fun a w => ∃ (q90 : Int), ∃ (q91 : List Bool), ∃ (q97 : List (List Int)), ∃ (cs95 : List Value), ∃ (a98 : Option Addr), ∃ (c99 : Nat), ∃ (n101 : Nat), ∃ (cs102 : List Value), ∃ (s88 : Sg), s.Le s88 ∧ (.next (q90, q91, q97)) = q85 ∧ Ev 1 RB s88 cs95 q91 ∧ q91.length = y0.used.length ∧ Ev 1 (RL 1 (RI .i64)) s88 cs102 q97 ∧ q97.length = n101 ∧ Rep a 96 [] ∧ St w s88 (vecC 4 1 a_v0 c_v0 y0.used.length cs95 :: pt pb0 (.cells #[.slice a_y0_0 y0.tasks.length c_y0_0, .int .i64 y0.limits.Change, .int .i64 y0.limits.Long, .int .i64 y0.limits.Work, .int .i64 y0.limits.After, .int .i64 y0.limits.Break, .int .i64 y0.limits.Rest, .int .i64 y0.limits.Row, .slice a_v0 y0.used.length c_v0, .slice a98 n101 c99] 114 (0, 0)) :: vecC 44 1 a98 c99 n101 cs102 :: R)) ?_ ?_
          · refine W.block ?_
            refine W.loop (fun m a w => ∃ (n86 : Nat), ∃ (q90 : Int), ∃ (q91 : List Bool), ∃ (q97 : List (List Int)), ∃ (cs95 : List Value), ∃ (a98 : Option Addr), ∃ (c99 : Nat), ∃ (n101 : Nat), ∃ (cs102 : List Value), ∃ (s88 : Sg), n86 = m ∧ s.Le s88 ∧ FleetDividerdivide_v1.loop1 x1 x2 y0 self_FleetDividerdivide_v1 n86 q90 q91 q97 = some q85 ∧ Ev 1 RB s88 cs95 q91 ∧ q91.length = y0.used.length ∧ Ev 1 (RL 1 (RI .i64)) s88 cs102 q97 ∧ q97.length = n101 ∧ Rep a 96 [(0, .pointer (some ⟨pb0, 0, none⟩)), (1, .int .i64 x1), (2, .int .i64 x2), (9, .int .i64 q90)] ∧ St w s88 (vecC 4 1 a_v0 c_v0 y0.used.length cs95 :: pt pb0 (.cells #[.slice a_y0_0 y0.tasks.length c_y0_0, .int .i64 y0.limits.Change, .int .i64 y0.limits.Long, .int .i64 y0.limits.Work, .int .i64 y0.limits.After, .int .i64 y0.limits.Break, .int .i64 y0.limits.Rest, .int .i64 y0.limits.Row, .slice a_v0 y0.used.length c_v0, .slice a98 n101 c99] 114 (0, 0)) :: vecC 44 1 a98 c99 n101 cs102 :: R)) (m := fu) ⟨fu, (w64 (x2 + 1)), y0.used, y0.duties, cs_v0, a_v1, c_v1, y0.duties.length, cs_v1, s, rfl, (Sg.Le.refl _), hq84, h_v0, (rfl), h_v1, (rfl), hE.pick _ ⟨rfl, rfl, rfl, rfl, trivial⟩, hS⟩ ?_
            clear hE hS a w hq84; rintro m87 a w ⟨n86, q90, q91, q97, cs95, a98, c99, n101, cs102, s88, rfl, hle89, hq84, h94, hn96, h100, rfl, hE, hS⟩
            refine W.gen fun K104 hK104 => ?_
            replace h3 := Sl.mono RI.mono hle89 h3
            replace h_v0 := Ev.mono RB.mono hle89 h_v0
            replace h_y0_0 := Sl.mono RFleetTask.mono hle89 h_y0_0
            replace h_v1 := Ev.mono (RL.mono RI.mono) hle89 h_v1
            rcases n86 with _ | n86
            · rw [FleetDividerdivide_v1.loop1] at hq84; exact absurd hq84 (by simp)
            rw [FleetDividerdivide_v1.loop1] at hq84
            refine W.seq ?_
            refine W.seq ?_
            refine W.region ?_
            refine WL.vS hS hE (runs_plain rfl) (Gives.p hE rfl) rfl ?_; clear hE a; intro a hE
            refine WL.vS hS hE (runs_plain rfl) (Gives.p hE rfl) rfl ?_; clear hE a; intro a hE
            refine WL.vS hS hE (runs_plain rfl) (Gives.nilOk hE rfl) rfl ?_; clear hE a; intro a hE
            refine WL.vS hS hE (runs_plain rfl) (Gives.fld hE rfl fl114_0) rfl ?_; clear hE a; intro a hE
            refine WL.vS hS hE (runs_plain rfl) (Gives.loadB hE 1 rfl rfl rfl ty32) rfl ?_; clear hE a; intro a hE
            refine WL.vS hS hE (runs_plain rfl) (Gives.len hE rfl sl32) rfl ?_; clear hE a; intro a hE
            refine WL.vS hS hE (runs_plain rfl) (Gives.p hE rfl) rfl ?_; clear hE a; intro a hE
            refine WL.nil ?_
            refine W.cond hE rfl (fun hc105 => ?_) (fun hc105 => ?_)
            · replace hq84 := iteT hc105 hq84
              refine W.skip ?_
              refine W.seq ?_
              refine W.block ?_
              refine W.seq ?_
              refine W.region ?_
              refine WL.vS hS hE (runs_plain rfl) (Gives.p hE rfl) rfl ?_; clear hE a; intro a hE
              refine WL.vS hS hE (runs_plain rfl) (Gives.p hE rfl) rfl ?_; clear hE a; intro a hE
              refine WL.vS hS hE (runs_plain rfl) (Gives.p hE rfl) rfl ?_; clear hE a; intro a hE
              refine WL.vS hS hE (runs_plain rfl) (Gives.p hE rfl) rfl ?_; clear hE a; intro a hE
              obtain ⟨q106, hq107, hq84⟩ := bindS hq84
              replace hS := hS.front 2 rfl
              replace hS := hS.front 1 rfl
              replace hS := hS.front 2 rfl
              have hc_ := FleetDividertake_v3_ok (y0 := (FleetDivider.mk y0.tasks y0.limits q91 q97)) @ih_FleetDividerdivide_v1 hS Sl.nil h_y0_0 h94 hn96 h100 rfl hq107
              refine WL.fnq hE (hc_) (runs_plain rfl) bd120 rfl rfl rfl ?_
              clear hE hS hc_; rintro e w ⟨cs108, a111, c112, n113, cs114, s116, rfl, hle117, h109, hn110, h115, rfl, hS⟩; refine ⟨_, rfl, ?_⟩; clear a; intro a hE
              replace h_y0_0 := Sl.mono RFleetTask.mono hle117 h_y0_0
              replace h94 := Ev.mono RB.mono hle117 h94
              replace h100 := Ev.mono (RL.mono RI.mono) hle117 h100
              refine WL.nil ?_
              refine W.cond hE rfl (fun hc118 => ?_) (fun hc118 => ?_)
              · replace hq84 := iteT hc118 hq84
                refine W.seq ?_
                refine W.region ?_
                refine WL.vS hS hE (runs_plain rfl) (Gives.p hE rfl) rfl ?_; clear hE a; intro a hE
                refine WL.nil ?_
                refine W.ret ?_
                subst hK104
                rw [← Option.some.inj hq84] at hr
                dsimp only at hr
                refine finG (fn := Try.f80) (rs := [.tmp 8]) (vs := [_]) hE rfl ⟨rfl, trivial⟩ ?_
                obtain rfl := Option.some.inj hr
                exact ⟨cs108, a111, c112, q106.2.2.length, cs114, s116, rfl, (Sg.Le.trans hle89 hle117), h109, hn110, h115, rfl, hS⟩
              · replace hq84 := iteF hc118 hq84
                refine W.skip ?_
                refine W.region ?_
                refine WL.vS hS hE (runs_plain rfl) (Gives.p hE rfl) rfl ?_; clear hE a; intro a hE
                refine WL.vS hS hE (runs_plain rfl) (Gives.p hE rfl) rfl ?_; clear hE a; intro a hE
                refine WL.vS hS hE (runs_plain rfl) (Gives.p hE rfl) rfl ?_; clear hE a; intro a hE
                refine WL.nil ?_
                replace hS := hS.front 2 rfl
                replace hS := hS.front 1 rfl
                replace hS := hS.front 2 rfl
                subst hK104
                exact ⟨n86, Nat.lt_succ_self _, n86, (w64 (q90 + 1)), q106.2.1, q106.2.2, cs108, a111, c112, q106.2.2.length, cs114, s116, rfl, (Sg.Le.trans hle89 hle117), hq84, h109, hn110, h115, rfl, hE.pick _ ⟨rfl, rfl, rfl, rfl, trivial⟩, hS⟩
            · replace hq84 := iteF hc105 hq84
              subst hK104
              refine W.exit rfl ?_
              exact ⟨q90, q91, q97, cs95, a98, c99, q97.length, cs102, s88, hle89, Option.some.inj hq84, h94, hn96, h100, rfl, hE.pick _ trivial, hS⟩
          · clear hE hS a w; rintro a w ⟨q90, q91, q97, cs95, a98, c99, n101, cs102, s88, hle89, rfl, h94, hn96, h100, rfl, hE, hS⟩
            dsimp only at hr
            replace h3 := Sl.mono RI.mono hle89 h3
            replace h_v0 := Ev.mono RB.mono hle89 h_v0
            replace h_y0_0 := Sl.mono RFleetTask.mono hle89 h_y0_0
            replace h_v1 := Ev.mono (RL.mono RI.mono) hle89 h_v1
            refine W.seq ?_
            refine W.region ?_
            refine WL.vS hS hE (runs_plain rfl) (Gives.p hE rfl) rfl ?_; clear hE a; intro a hE
            refine WL.nil ?_
            refine W.ret ?_
            refine finG (fn := Try.f80) (rs := [.tmp 8]) (vs := [_]) hE rfl ⟨rfl, trivial⟩ ?_
            obtain rfl := Option.some.inj hr
            replace hS := hS.front 2 rfl
            replace hS := hS.front 1 rfl
            replace hS := hS.front 2 rfl
            exact ⟨cs95, a98, c99, q97.length, cs102, s88, rfl, hle89, h94, hn96, h100, rfl, hS⟩
    · replace hr := iteF hc77 hr
      refine W.skip ?_
      refine W.seq ?_
      refine W.seq ?_
      refine W.regionQ (C := fun w => St w s (pt pb0 (.cells #[.slice a_y0_0 y0.tasks.length c_y0_0, .int .i64 y0.limits.Change, .int .i64 y0.limits.Long, .int .i64 y0.limits.Work, .int .i64 y0.limits.After, .int .i64 y0.limits.Break, .int .i64 y0.limits.Rest, .int .i64 y0.limits.Row, .slice a_v0 y0.used.length c_v0, .slice a_v1 y0.duties.length c_v1] 114 (0, 0)) :: vecC 4 1 a_v0 c_v0 y0.used.length cs_v0 :: vecC 44 1 a_v1 c_v1 y0.duties.length cs_v1 :: R)) mixed (by kernel_rfl) hS.drew ?_
      refine QL.v hE (runs_plain rfl) (Gives.p hE rfl) rfl ?_; clear hE a; intro a hE
      refine QL.v hE (runs_plain rfl) (Gives.nilOk hE rfl) rfl ?_; clear hE a; intro a hE
      refine QL.v hE (runs_plain rfl) (Gives.fld hE rfl fl114_0) rfl ?_; clear hE a; intro a hE
      refine QL.v hE (runs_plain rfl) (Gives.loadB hE 0 rfl rfl rfl ty32) rfl ?_; clear hE a; intro a hE
      refine QL.v hE (runs_plain rfl) (Gives.p hE rfl) rfl ?_; clear hE a; intro a hE
      refine QL.v hE (runs_plain rfl) (Gives.p hE rfl) rfl ?_; clear hE a; intro a hE
      refine QL.v hE (runs_plain rfl) (Gives.nilOk hE rfl) rfl ?_; clear hE a; intro a hE
      refine QL.v hE (runs_plain rfl) (Gives.fld hE rfl fl114_1) rfl ?_; clear hE a; intro a hE
      refine QL.v hE (runs_plain rfl) (Gives.loadA (cs := [.int .i64 y0.limits.Change, .int .i64 y0.limits.Long, .int .i64 y0.limits.Work, .int .i64 y0.limits.After, .int .i64 y0.limits.Break, .int .i64 y0.limits.Rest, .int .i64 y0.limits.Row]) hE rfl (fun w h => (St.seesAt h 0 rfl).part 1 7) ty24) rfl ?_; clear hE a; intro a hE
      obtain ⟨q119, hq120, hr⟩ := bindS hr
      refine QL.fnq hE (fun w hS => Fleetjudge_ok hS h_y0_0 h3 hq120) (runs_plain rfl) bd98 rfl rfl rfl ?_; clear hE a; intro a hE
      refine QL.v hE (runs_plain rfl) (Gives.p hE rfl) rfl ?_; clear hE a; intro a hE
      refine QL.nil ?_; clear hS w; intro w hS
      obtain ⟨q122, hq121, hr⟩ := bindS hr
      refine W.cut (fun a w => ∃ (q125 : List Bool), ∃ (q131 : List (List Int)), ∃ (cs129 : List Value), ∃ (a132 : Option Addr), ∃ (c133 : Nat), ∃ (n135 : Nat), ∃ (cs136 : List Value), ∃ (s123 : Sg), s.Le s123 ∧ .next (q125, q131) = q122 ∧ Ev 1 RB s123 cs129 q125 ∧ q125.length = y0.used.length ∧ Ev 1 (RL 1 (RI .i64)) s123 cs136 q131 ∧ q131.length = n135 ∧ Rep a 96 [(0, .pointer (some ⟨pb0, 0, none⟩)), (1, .int .i64 x1), (2, .int .i64 x2), (3, .slice a3 x3.length c3)] ∧ St w s123 (pt pb0 (.cells #[.slice a_y0_0 y0.tasks.length c_y0_0, .int .i64 y0.limits.Change, .int .i64 y0.limits.Long, .int .i64 y0.limits.Work, .int .i64 y0.limits.After, .int .i64 y0.limits.Break, .int .i64 y0.limits.Rest, .int .i64 y0.limits.Row, .slice a_v0 y0.used.length c_v0, .slice a132 n135 c133] 114 (0, 0)) :: vecC 4 1 a_v0 c_v0 y0.used.length cs129 :: vecC 44 1 a132 c133 n135 cs136 :: R)) ?_ ?_
      · refine W.gen fun K138 hK138 => ?_
        refine W.cond hE rfl (fun hc139 => ?_) (fun hc139 => ?_)
        · replace hq121 := iteT hc139 hq121
          refine W.seq ?_
          refine W.region ?_
          refine WL.vS hS hE (runs_plain rfl) (Gives.p hE rfl) rfl ?_; clear hE a; intro a hE
          refine WL.vS hS hE (runs_plain rfl) (Gives.p hE rfl) rfl ?_; clear hE a; intro a hE
          refine WL.vS hS hE (runs_plain rfl) (Gives.nilOk hE rfl) rfl ?_; clear hE a; intro a hE
          refine WL.vS hS hE (runs_plain rfl) (Gives.fld hE rfl fl114_3) rfl ?_; clear hE a; intro a hE
          refine WL.vS hS hE (runs_plain rfl) (Gives.loadB hE 0 rfl rfl rfl ty25) rfl ?_; clear hE a; intro a hE
          refine WL.vS hS hE (runs_plain rfl) (Gives.p hE rfl) rfl ?_; clear hE a; intro a hE
          refine WL.lit hE hS (e := 44) (es := 1) (vs := [(0, .slice a3 x3.length c3)]) (cs := [.slice a3 x3.length c3]) (runs_plain rfl) rfl (by kernel_rfl) rfl ?_; clear hE hS a w; intro b140 a w hE hS
          obtain ⟨x141, hx142, hq121⟩ := bindS hq121
          refine WL.appD hE hS 2 (m := 1) (runs_plain rfl) rfl rfl rfl ap25 rfl h_v1 (rfl) (xs := [x3]) (Ev.cons (c1 := [.slice a3 x3.length c3]) ⟨_, _, rfl, h3⟩ rfl (Ev.nil)) rfl rfl hx142 rfl ?_; clear hE hS a w; intro a143 c144 cs145 a w h146 hE hS
          refine WL.vS hS hE (runs_plain rfl) (Gives.nilOk hE rfl) rfl ?_; clear hE a; intro a hE
          refine WL.vS hS hE (runs_plain rfl) (Gives.fld hE rfl fl114_3) rfl ?_; clear hE a; intro a hE
          refine WL.storeI hE hS 0 rfl [.slice a_y0_0 y0.tasks.length c_y0_0, .int .i64 y0.limits.Change, .int .i64 y0.limits.Long, .int .i64 y0.limits.Work, .int .i64 y0.limits.After, .int .i64 y0.limits.Break, .int .i64 y0.limits.Rest, .int .i64 y0.limits.Row, .slice a_v0 y0.used.length c_v0, .slice a143 x141.length c144] (runs_plain rfl) rfl rfl rfl ty25 rfl rfl rfl rfl ?_; clear hE hS a w; intro a w hE hS
          refine WL.nil ?_
          refine W.seq ?_
          refine W.seq ?_
          refine W.region ?_
          refine WL.vS hS hE (runs_plain rfl) (Gives.p hE rfl) rfl ?_; clear hE a; intro a hE
          refine WL.vS hS hE (runs_plain rfl) (Gives.p hE rfl) rfl ?_; clear hE a; intro a hE
          refine WL.vS hS hE (runs_plain rfl) (Gives.p hE rfl) rfl ?_; clear hE a; intro a hE
          refine WL.vS hS hE (runs_plain rfl) (Gives.p hE rfl) rfl ?_; clear hE a; intro a hE
          obtain ⟨x147, hx148, hq121⟩ := bindS hq121
          obtain ⟨hi149, hlt150, hy151⟩ := gx_some hx148
          obtain ⟨cs152, hl153, hR154, hat155⟩ := h3.at hy151
          subst hR154
          refine WL.vS hS hE (runs_plain rfl) (Gives.idx hE ((0 : Int)).toNat rfl rfl sl44 hi149 hlt150 (h3.aok hlt150)) rfl ?_; clear hE a; intro a hE
          refine WL.vS hS hE (runs_plain rfl) (Gives.load1 hE rfl (fun w h => hat155 w _ h) ty3) rfl ?_; clear hE a; intro a hE
          obtain ⟨q156, hq157, hq121⟩ := bindS hq121
          have hc_ := ih_FleetDividerdivide_v1 (y0 := (FleetDivider.mk y0.tasks y0.limits y0.used x141)) hS Sl.nil (fun _ => rfl) h_y0_0 h_v0 (rfl) h146 (rfl) hq157
          refine WL.fnq hE (hc_) (runs_plain rfl) bd80 rfl rfl rfl ?_
          clear hE hS hc_; rintro e w ⟨cs158, a161, c162, n163, cs164, s166, rfl, hle167, h159, hn160, h165, rfl, hS⟩; refine ⟨_, rfl, ?_⟩; clear a; intro a hE
          replace h3 := Sl.mono RI.mono hle167 h3
          replace h_y0_0 := Sl.mono RFleetTask.mono hle167 h_y0_0
          replace h_v0 := Ev.mono RB.mono hle167 h_v0
          replace h146 := Ev.mono (RL.mono RI.mono) hle167 h146
          refine WL.nil ?_
          refine W.cond hE rfl (fun hc168 => ?_) (fun hc168 => ?_)
          · replace hq121 := iteT hc168 hq121
            refine W.seq ?_
            refine W.region ?_
            refine WL.vS hS hE (runs_plain rfl) (Gives.p hE rfl) rfl ?_; clear hE a; intro a hE
            refine WL.nil ?_
            refine W.ret ?_
            subst hK138
            rw [← Option.some.inj hq121] at hr
            dsimp only at hr
            refine finG (fn := Try.f80) (rs := [.tmp 8]) (vs := [_]) hE rfl ⟨rfl, trivial⟩ ?_
            obtain rfl := Option.some.inj hr
            exact ⟨cs158, a161, c162, q156.2.2.length, cs164, s166, rfl, hle167, h159, hn160, h165, rfl, hS⟩
          · replace hq121 := iteF hc168 hq121
            refine W.skip ?_
            refine W.gen fun K169 hK169 => ?_
            refine W.regionE (sel (fun w => St w s166 (pt pb0 (.cells #[.slice a_y0_0 y0.tasks.length c_y0_0, .int .i64 y0.limits.Change, .int .i64 y0.limits.Long, .int .i64 y0.limits.Work, .int .i64 y0.limits.After, .int .i64 y0.limits.Break, .int .i64 y0.limits.Rest, .int .i64 y0.limits.Row, .slice a_v0 y0.used.length c_v0, .slice a161 q156.2.2.length c162] 114 (0, 0)) :: vecC 4 1 a_v0 c_v0 y0.used.length cs158 :: R)) (fun w => St w s166 (vecC 4 1 a_v0 c_v0 y0.used.length cs158 :: R))) (fun b i => cond b ([0, 1, 2, 3, 4, 5, 6, 7, 8, 9, 10, 11, 12, 13].contains i) ([0, 1, 2, 3, 4, 5, 6, 7, 8, 9, 10, 11, 12, 13, 14].contains i)) mixed ?_
            replace hS := hS.drew
            refine Rg.takeP (i := 0) hE rfl (by kernel_rfl) (runs_plain rfl) (Gives.p hE rfl) rfl (tw_sel (fun _ => (hS.dropAt 2)) (fun _ => ((hS.tail).dropAt 1))) ?_; clear hE a; intro a hE
            refine Rg.takeP (i := 1) hE rfl (by kernel_rfl) (runs_plain rfl) (Gives.p hE rfl) rfl (tw_sel (fun _ => (hS.dropAt 2)) (fun _ => ((hS.tail).dropAt 1))) ?_; clear hE a; intro a hE
            have hT := tw_sel (A := fun w => St w s166 (pt pb0 (.cells #[.slice a_y0_0 y0.tasks.length c_y0_0, .int .i64 y0.limits.Change, .int .i64 y0.limits.Long, .int .i64 y0.limits.Work, .int .i64 y0.limits.After, .int .i64 y0.limits.Break, .int .i64 y0.limits.Rest, .int .i64 y0.limits.Row, .slice a_v0 y0.used.length c_v0, .slice a161 q156.2.2.length c162] 114 (0, 0)) :: vecC 4 1 a_v0 c_v0 y0.used.length cs158 :: R)) (B := fun w => St w s166 (vecC 4 1 a_v0 c_v0 y0.used.length cs158 :: R)) (w := _) (x := true) (y := true) (fun _ => (hS.dropAt 2)) (fun _ => ((hS.tail).dropAt 1))
            have hF := hS; replace hS := (hS.dropAt 2)
            refine Rg.take (i := 2) true rfl hE rfl (by kernel_rfl) (runs_plain rfl) (Gives.nilOk hE rfl) rfl hT ?_; clear hE a; intro a hE
            replace hS := hF; clear hF hT
            refine Rg.takeP (i := 3) hE rfl (by kernel_rfl) (runs_plain rfl) (Gives.fld hE rfl fl114_3) rfl (tw_sel (fun _ => (hS.dropAt 2)) (fun _ => ((hS.tail).dropAt 1))) ?_; clear hE a; intro a hE
            have hT := tw_sel (A := fun w => St w s166 (pt pb0 (.cells #[.slice a_y0_0 y0.tasks.length c_y0_0, .int .i64 y0.limits.Change, .int .i64 y0.limits.Long, .int .i64 y0.limits.Work, .int .i64 y0.limits.After, .int .i64 y0.limits.Break, .int .i64 y0.limits.Rest, .int .i64 y0.limits.Row, .slice a_v0 y0.used.length c_v0, .slice a161 q156.2.2.length c162] 114 (0, 0)) :: vecC 4 1 a_v0 c_v0 y0.used.length cs158 :: R)) (B := fun w => St w s166 (vecC 4 1 a_v0 c_v0 y0.used.length cs158 :: R)) (w := _) (x := true) (y := true) (fun _ => (hS.dropAt 2)) (fun _ => ((hS.tail).dropAt 1))
            have hF := hS; replace hS := (hS.dropAt 2)
            refine Rg.take (i := 4) true rfl hE rfl (by kernel_rfl) (runs_plain rfl) (Gives.loadB hE 0 rfl rfl rfl ty25) rfl hT ?_; clear hE a; intro a hE
            replace hS := hF; clear hF hT
            refine Rg.takeP (i := 5) hE rfl (by kernel_rfl) (runs_plain rfl) (Gives.p hE rfl) rfl (tw_sel (fun _ => (hS.dropAt 2)) (fun _ => ((hS.tail).dropAt 1))) ?_; clear hE a; intro a hE
            have hT := tw_sel (A := fun w => St w s166 (pt pb0 (.cells #[.slice a_y0_0 y0.tasks.length c_y0_0, .int .i64 y0.limits.Change, .int .i64 y0.limits.Long, .int .i64 y0.limits.Work, .int .i64 y0.limits.After, .int .i64 y0.limits.Break, .int .i64 y0.limits.Rest, .int .i64 y0.limits.Row, .slice a_v0 y0.used.length c_v0, .slice a161 q156.2.2.length c162] 114 (0, 0)) :: vecC 4 1 a_v0 c_v0 y0.used.length cs158 :: R)) (B := fun w => St w s166 (vecC 4 1 a_v0 c_v0 y0.used.length cs158 :: R)) (w := _) (x := true) (y := true) (fun _ => (hS.dropAt 2)) (fun _ => ((hS.tail).dropAt 1))
            have hF := hS; replace hS := (hS.dropAt 2)
            refine Rg.take (i := 6) true rfl hE rfl (by kernel_rfl) (runs_plain rfl) (Gives.nilOk hE rfl) rfl hT ?_; clear hE a; intro a hE
            replace hS := hF; clear hF hT
            refine Rg.takeP (i := 7) hE rfl (by kernel_rfl) (runs_plain rfl) (Gives.fld hE rfl fl114_3) rfl (tw_sel (fun _ => (hS.dropAt 2)) (fun _ => ((hS.tail).dropAt 1))) ?_; clear hE a; intro a hE
            have hT := tw_sel (A := fun w => St w s166 (pt pb0 (.cells #[.slice a_y0_0 y0.tasks.length c_y0_0, .int .i64 y0.limits.Change, .int .i64 y0.limits.Long, .int .i64 y0.limits.Work, .int .i64 y0.limits.After, .int .i64 y0.limits.Break, .int .i64 y0.limits.Rest, .int .i64 y0.limits.Row, .slice a_v0 y0.used.length c_v0, .slice a161 q156.2.2.length c162] 114 (0, 0)) :: vecC 4 1 a_v0 c_v0 y0.used.length cs158 :: R)) (B := fun w => St w s166 (vecC 4 1 a_v0 c_v0 y0.used.length cs158 :: R)) (w := _) (x := true) (y := true) (fun _ => (hS.dropAt 2)) (fun _ => ((hS.tail).dropAt 1))
            have hF := hS; replace hS := (hS.dropAt 2)
            refine Rg.take (i := 8) true rfl hE rfl (by kernel_rfl) (runs_plain rfl) (Gives.loadB hE 0 rfl rfl rfl ty25) rfl hT ?_; clear hE a; intro a hE
            replace hS := hF; clear hF hT
            refine Rg.takeP (i := 9) hE rfl (by kernel_rfl) (runs_plain rfl) (Gives.len hE rfl sl25) rfl (tw_sel (fun _ => (hS.dropAt 2)) (fun _ => ((hS.tail).dropAt 1))) ?_; clear hE a; intro a hE
            refine Rg.takeP (i := 10) hE rfl (by kernel_rfl) (runs_plain rfl) (Gives.p hE rfl) rfl (tw_sel (fun _ => (hS.dropAt 2)) (fun _ => ((hS.tail).dropAt 1))) ?_; clear hE a; intro a hE
            obtain ⟨x170, hx171, hq121⟩ := bindS hq121
            obtain ⟨_, h172, h173, h174, h175, _⟩ := cutl_some hx171
            have h176 := (hS.vecCap 2 rfl).1
            have h177 : Ev 1 (RL 1 (RI .i64)) s166 (cs164.take ((w64 (((q156.2.2.length : Nat) : Int) - 1)).toNat * 1)) x170 := by rw [h174]; exact h165.take _
            have hn178 : x170.length = (w64 (((q156.2.2.length : Nat) : Int) - 1)).toNat := by rw [h174]; simp; omega
            replace hS := hS.vecTake 2 rfl (by omega)
            refine Rg.takeP (i := 11) hE rfl (by kernel_rfl) (runs_plain rfl) (Gives.slH hE sl25 rfl rfl h172 (Int.le_trans h173 (by omega)) (sliced_zero _ _ _ _)) rfl (tw_sel (fun _ => (hS.dropAt 2)) (fun _ => ((hS.tail).dropAt 1))) ?_; clear hE a; intro a hE
            have hT := tw_sel (A := fun w => St w s166 (pt pb0 (.cells #[.slice a_y0_0 y0.tasks.length c_y0_0, .int .i64 y0.limits.Change, .int .i64 y0.limits.Long, .int .i64 y0.limits.Work, .int .i64 y0.limits.After, .int .i64 y0.limits.Break, .int .i64 y0.limits.Rest, .int .i64 y0.limits.Row, .slice a_v0 y0.used.length c_v0, .slice a161 q156.2.2.length c162] 114 (0, 0)) :: vecC 4 1 a_v0 c_v0 y0.used.length cs158 :: R)) (B := fun w => St w s166 (vecC 4 1 a_v0 c_v0 y0.used.length cs158 :: R)) (w := _) (x := true) (y := true) (fun _ => (hS.dropAt 2)) (fun _ => ((hS.tail).dropAt 1))
            have hF := hS; replace hS := ((hS.tail).dropAt 1)
            refine Rg.take (i := 12) false rfl hE rfl (by kernel_rfl) (runs_plain rfl) (Gives.nilOk hE rfl) rfl hT ?_; clear hE a; intro a hE
            replace hS := hF; clear hF hT
            refine Rg.takeP (i := 13) hE rfl (by kernel_rfl) (runs_plain rfl) (Gives.fld hE rfl fl114_3) rfl (tw_sel (fun _ => (hS.dropAt 2)) (fun _ => ((hS.tail).dropAt 1))) ?_; clear hE a; intro a hE
            refine Rg.one (i := 14) false true rfl (by kernel_rfl) (by kernel_rfl) (by kernel_rfl) ?_
            refine WL.storeI hE hS 0 rfl [.slice a_y0_0 y0.tasks.length c_y0_0, .int .i64 y0.limits.Change, .int .i64 y0.limits.Long, .int .i64 y0.limits.Work, .int .i64 y0.limits.After, .int .i64 y0.limits.Break, .int .i64 y0.limits.Rest, .int .i64 y0.limits.Row, .slice a_v0 y0.used.length c_v0, .slice a161 ((w64 (((q156.2.2.length : Nat) : Int) - 1)).toNat) c162] (runs_plain rfl) rfl rfl rfl ty25 rfl rfl rfl rfl ?_; clear hE hS a w; intro a w hE hS
            refine WL.nil ?_
            refine ⟨⟨fun h => absurd h (by decide), fun _ => ((hS.tail).dropAt 1)⟩, ?_⟩
            refine Rg.done (by kernel_rfl) ?_
            subst hK169
            subst hK138
            exact ⟨q156.2.1, x170, cs158, a161, c162, (w64 (((q156.2.2.length : Nat) : Int) - 1)).toNat, (cs164.take ((w64 (((q156.2.2.length : Nat) : Int) - 1)).toNat * 1)), s166, hle167, Option.some.inj hq121, h159, hn160, h177, hn178, hE.pick _ ⟨rfl, rfl, rfl, rfl, trivial⟩, hS⟩
        · replace hq121 := iteF hc139 hq121
          refine W.skip ?_
          subst hK138
          exact ⟨y0.used, y0.duties, cs_v0, a_v1, c_v1, y0.duties.length, cs_v1, s, (Sg.Le.refl _), Option.some.inj hq121, h_v0, (rfl), h_v1, (rfl), hE.pick _ ⟨rfl, rfl, rfl, rfl, trivial⟩, hS⟩
      · clear hE hS a w; rintro a w ⟨q125, q131, cs129, a132, c133, n135, cs136, s123, hle124, rfl, h128, hn130, h134, rfl, hE, hS⟩
        dsimp only at hr
        replace h3 := Sl.mono RI.mono hle124 h3
        replace h_y0_0 := Sl.mono RFleetTask.mono hle124 h_y0_0
        replace h_v0 := Ev.mono RB.mono hle124 h_v0
        replace h_v1 := Ev.mono (RL.mono RI.mono) hle124 h_v1
        refine W.seq ?_
        refine W.seq ?_
        refine W.region ?_
        refine WL.vS hS hE (runs_plain rfl) (Gives.p hE rfl) rfl ?_; clear hE a; intro a hE
        refine WL.vS hS hE (runs_plain rfl) (Gives.nilOk hE rfl) rfl ?_; clear hE a; intro a hE
        refine WL.vS hS hE (runs_plain rfl) (Gives.fld hE rfl fl114_0) rfl ?_; clear hE a; intro a hE
        refine WL.vS hS hE (runs_plain rfl) (Gives.loadB hE 0 rfl rfl rfl ty32) rfl ?_; clear hE a; intro a hE
        refine WL.vS hS hE (runs_plain rfl) (Gives.len hE rfl sl32) rfl ?_; clear hE a; intro a hE
        refine WL.vS hS hE (runs_plain rfl) (Gives.p hE rfl) rfl ?_; clear hE a; intro a hE
        refine WL.nil ?_
        obtain ⟨q180, hq179, hr⟩ := bindS hr
        refine W.cut (fun a w => ∃ (q190 : List Bool), ∃ (q196 : List (List Int)), ∃ (cs194 : List Value), ∃ (a197 : Option Addr), ∃ (c198 : Nat), ∃ (n200 : Nat), ∃ (cs201 : List Value), ∃ (s188 : Sg), s123.Le s188 ∧ (.next (q190, q196)) = q180 ∧ Ev 1 RB s188 cs194 q190 ∧ q190.length = y0.used.length ∧ Ev 1 (RL 1 (RI .i64)) s188 cs201 q196 ∧ q196.length = n200 ∧ Rep a 96 [] ∧ St w s188 (pt pb0 (.cells #[.slice a_y0_0 y0.tasks.length c_y0_0, .int .i64 y0.limits.Change, .int .i64 y0.limits.Long, .int .i64 y0.limits.Work, .int .i64 y0.limits.After, .int .i64 y0.limits.Break, .int .i64 y0.limits.Rest, .int .i64 y0.limits.Row, .slice a_v0 y0.used.length c_v0, .slice a197 n200 c198] 114 (0, 0)) :: vecC 4 1 a_v0 c_v0 y0.used.length cs194 :: vecC 44 1 a197 c198 n200 cs201 :: R)) ?_ ?_
        · refine W.block ?_
          refine W.loop (fun m a w => ∃ (rest183 : List FleetTask) (k181 : Nat), ∃ (q190 : List Bool), ∃ (q196 : List (List Int)), ∃ (cs194 : List Value), ∃ (a197 : Option Addr), ∃ (c198 : Nat), ∃ (n200 : Nat), ∃ (cs201 : List Value), ∃ (s188 : Sg), rest183.length = m ∧ y0.tasks.drop k181 = rest183 ∧ s123.Le s188 ∧ FleetDividerdivide_v1.loop2 x1 x2 x3 y0 self_FleetDividerdivide_v1 rest183 k181 q190 q196 = some q180 ∧ Ev 1 RB s188 cs194 q190 ∧ q190.length = y0.used.length ∧ Ev 1 (RL 1 (RI .i64)) s188 cs201 q196 ∧ q196.length = n200 ∧ Rep a 96 [(0, .pointer (some ⟨pb0, 0, none⟩)), (1, .int .i64 x1), (2, .int .i64 x2), (3, .slice a3 x3.length c3), (85, .int .i64 ((y0.tasks).length : Int)), (86, .int .i64 ((k181 : Nat) : Int))] ∧ St w s188 (pt pb0 (.cells #[.slice a_y0_0 y0.tasks.length c_y0_0, .int .i64 y0.limits.Change, .int .i64 y0.limits.Long, .int .i64 y0.limits.Work, .int .i64 y0.limits.After, .int .i64 y0.limits.Break, .int .i64 y0.limits.Rest, .int .i64 y0.limits.Row, .slice a_v0 y0.used.length c_v0, .slice a197 n200 c198] 114 (0, 0)) :: vecC 4 1 a_v0 c_v0 y0.used.length cs194 :: vecC 44 1 a197 c198 n200 cs201 :: R)) (m := y0.tasks.length) ⟨y0.tasks, 0, q125, q131, cs129, a132, c133, q131.length, cs136, s123, rfl, rfl, (Sg.Le.refl _), hq179, h128, hn130, h134, rfl, hE.pick _ ⟨rfl, rfl, rfl, rfl, rfl, rfl, trivial⟩, hS⟩ ?_
          clear hE hS a w hq179; rintro m187 a w ⟨rest183, k181, q190, q196, cs194, a197, c198, n200, cs201, s188, rfl, hd184, hle189, hq179, h193, hn195, h199, rfl, hE, hS⟩
          refine W.gen fun K203 hK203 => ?_
          replace h3 := Sl.mono RI.mono hle189 h3
          replace h_y0_0 := Sl.mono RFleetTask.mono hle189 h_y0_0
          replace h128 := Ev.mono RB.mono hle189 h128
          replace h134 := Ev.mono (RL.mono RI.mono) hle189 h134
          rcases rest183 with _ | ⟨x182, rest183⟩
          · have hlt185 := drop_nil hd184
            refine W.seq ?_
            refine W.region ?_
            refine WL.vS hS hE (runs_plain rfl) (Gives.p hE rfl) rfl ?_; clear hE a; intro a hE
            refine WL.nil ?_
            refine W.seq ?_
            refine W.condF hE rfl (decide_eq_false (by omega)) ?_
            subst hK203
            refine W.exit rfl ?_
            exact ⟨q190, q196, cs194, a197, c198, q196.length, cs201, s188, hle189, Option.some.inj hq179, h193, hn195, h199, rfl, hE.pick _ trivial, hS⟩
          · obtain ⟨hlt185, hx186, hd184⟩ := drop_cons hd184
            rw [FleetDividerdivide_v1.loop2] at hq179
            refine W.seq ?_
            refine W.region ?_
            refine WL.vS hS hE (runs_plain rfl) (Gives.p hE rfl) rfl ?_; clear hE a; intro a hE
            refine WL.nil ?_
            refine W.seq ?_
            refine W.condT hE rfl (decide_eq_true (by omega)) ?_
            refine W.skip ?_
            refine W.seq ?_
            refine W.block ?_
            refine W.seq ?_
            refine W.region ?_
            refine WL.vS hS hE (runs_plain rfl) (Gives.p hE rfl) rfl ?_; clear hE a; intro a hE
            refine WL.vS hS hE (runs_plain rfl) (Gives.p hE rfl) rfl ?_; clear hE a; intro a hE
            refine WL.nil ?_
            refine W.seq ?_
            refine W.region ?_
            refine WL.vS hS hE (runs_plain rfl) (Gives.p hE rfl) rfl ?_; clear hE a; intro a hE
            refine WL.vS hS hE (runs_plain rfl) (Gives.p hE rfl) rfl ?_; clear hE a; intro a hE
            refine WL.vS hS hE (runs_plain rfl) (Gives.p hE rfl) rfl ?_; clear hE a; intro a hE
            refine WL.vS hS hE (runs_plain rfl) (Gives.p hE rfl) rfl ?_; clear hE a; intro a hE
            refine WL.vS hS hE (runs_plain rfl) (Gives.p hE rfl) rfl ?_; clear hE a; intro a hE
            obtain ⟨q204, hq205, hq179⟩ := bindS hq179
            have hc_ := FleetDividertake_v3_ok (y0 := (FleetDivider.mk y0.tasks y0.limits q190 q196)) @ih_FleetDividerdivide_v1 hS h3 h_y0_0 h193 hn195 h199 rfl hq205
            refine WL.fnq hE (hc_) (runs_plain rfl) bd120 rfl rfl rfl ?_
            clear hE hS hc_; rintro e w ⟨cs206, a209, c210, n211, cs212, s214, rfl, hle215, h207, hn208, h213, rfl, hS⟩; refine ⟨_, rfl, ?_⟩; clear a; intro a hE
            replace h3 := Sl.mono RI.mono hle215 h3
            replace h_y0_0 := Sl.mono RFleetTask.mono hle215 h_y0_0
            replace h193 := Ev.mono RB.mono hle215 h193
            replace h199 := Ev.mono (RL.mono RI.mono) hle215 h199
            refine WL.nil ?_
            refine W.cond hE rfl (fun hc216 => ?_) (fun hc216 => ?_)
            · replace hq179 := iteT hc216 hq179
              refine W.seq ?_
              refine W.region ?_
              refine WL.vS hS hE (runs_plain rfl) (Gives.p hE rfl) rfl ?_; clear hE a; intro a hE
              refine WL.nil ?_
              refine W.ret ?_
              subst hK203
              rw [← Option.some.inj hq179] at hr
              dsimp only at hr
              refine finG (fn := Try.f80) (rs := [.tmp 8]) (vs := [_]) hE rfl ⟨rfl, trivial⟩ ?_
              obtain rfl := Option.some.inj hr
              exact ⟨cs206, a209, c210, q204.2.2.length, cs212, s214, rfl, (Sg.Le.trans (Sg.Le.trans hle124 hle189) hle215), h207, hn208, h213, rfl, hS⟩
            · replace hq179 := iteF hc216 hq179
              refine W.skip ?_
              refine W.region ?_
              refine WL.vS hS hE (runs_plain rfl) (Gives.inc hE rfl (by have := h_y0_0.small; omega)) rfl ?_; clear hE a; intro a hE
              refine WL.vS hS hE (runs_plain rfl) (Gives.p hE rfl) rfl ?_; clear hE a; intro a hE
              refine WL.nil ?_
              subst hK203
              exact ⟨rest183.length, Nat.lt_succ_self _, rest183, k181 + 1, q204.2.1, q204.2.2, cs206, a209, c210, q204.2.2.length, cs212, s214, rfl, hd184, (Sg.Le.trans hle189 hle215), hq179, h207, hn208, h213, rfl, hE.pick _ ⟨rfl, rfl, rfl, rfl, rfl, rfl, trivial⟩, hS⟩
        · clear hE hS a w; rintro a w ⟨q190, q196, cs194, a197, c198, n200, cs201, s188, hle189, rfl, h193, hn195, h199, rfl, hE, hS⟩
          dsimp only at hr
          replace h3 := Sl.mono RI.mono hle189 h3
          replace h_y0_0 := Sl.mono RFleetTask.mono hle189 h_y0_0
          replace h128 := Ev.mono RB.mono hle189 h128
          replace h134 := Ev.mono (RL.mono RI.mono) hle189 h134
          refine W.seq ?_
          refine W.region ?_
          refine WL.vS hS hE (runs_plain rfl) (Gives.p hE rfl) rfl ?_; clear hE a; intro a hE
          refine WL.nil ?_
          refine W.ret ?_
          refine finG (fn := Try.f80) (rs := [.tmp 8]) (vs := [_]) hE rfl ⟨rfl, trivial⟩ ?_
          obtain rfl := Option.some.inj hr
          exact ⟨cs194, a197, c198, q196.length, cs201, s188, rfl, (Sg.Le.trans hle124 hle189), h193, hn195, h199, rfl, hS⟩
set_option maxHeartbeats 8000000 in
theorem FleetDuties_ok {fu : Nat}  {w : World} {s : Sg} {R : List HP} {x0 : List FleetTask} {a0 : Option Addr} {c0 : Nat} {x1 : FleetLimits} (hS : St w s (R)) (h0 : Sl 6 RFleetTask s a0 c0 x0) {r : (List (List Int)) × Int} (hr : FleetDuties fu x0 x1 = some r) :
    Calls Try.prog 31 [.slice a0 x0.length c0, .agg (FleetLimits.cells x1).toArray].toArray w (fun e w => ∃ (a0 : Option Addr) (c0 n0 : Nat) (cs0 : List Value) (t : Sg), e = .returned (.tuple #[.slice a0 n0 c0, .int .i64 r.2]) ∧ s.Le t ∧ Ev 1 (RL 1 (RI .i64)) t cs0 r.1 ∧ r.1.length = n0 ∧ St w t (vecC 44 1 a0 c0 n0 cs0 :: R)) := by
  refine enter Try.func31 rfl rfl rfl fun a hE => ?_
  rw [FleetDuties] at hr
  refine W.seq ?_
  refine W.region ?_
  refine WL.box hE hS (runs_plain rfl) rfl rfl rfl ?_; clear hE hS a w; intro b51 a w hE hS
  refine WL.vS hS hE (runs_plain rfl) (Gives.p hE rfl) rfl ?_; clear hE a; intro a hE
  refine WL.vS hS hE (runs_plain rfl) (Gives.p hE rfl) rfl ?_; clear hE a; intro a hE
  refine WL.nil ?_
  refine W.seq ?_
  refine W.seq ?_
  refine W.region ?_
  refine WL.vS hS hE (runs_plain rfl) (Gives.p hE rfl) rfl ?_; clear hE a; intro a hE
  refine WL.vS hS hE (runs_plain rfl) (Gives.loadBA hE 0 rfl rfl ty24) rfl ?_; clear hE a; intro a hE
  refine WL.fnq hE (FleetcheckTasks_ok hS h0 rfl (r := FleetcheckTasks x0 x1)) (runs_plain rfl) bd79 rfl rfl rfl ?_
  clear hE hS; rintro e w ⟨rfl, hS⟩; refine ⟨_, rfl, ?_⟩; clear a; intro a hE
  refine WL.vS hS hE (runs_plain rfl) (Gives.p hE rfl) rfl ?_; clear hE a; intro a hE
  refine WL.nil ?_
  refine W.seq ?_
  refine W.region ?_
  refine WL.vS hS hE (runs_plain rfl) (Gives.p hE rfl) rfl ?_; clear hE a; intro a hE
  refine WL.vS hS hE (runs_plain rfl) (Gives.p hE rfl) rfl ?_; clear hE a; intro a hE
  refine WL.nil ?_
  refine W.cond hE rfl (fun hc52 => ?_) (fun hc52 => ?_)
  · replace hr := iteT hc52 hr
    refine W.seq ?_
    refine W.region ?_
    refine WL.vS hS hE (runs_plain rfl) (Gives.p hE rfl) rfl ?_; clear hE a; intro a hE
    refine WL.vS hS hE (runs_plain rfl) (Gives.p hE rfl) rfl ?_; clear hE a; intro a hE
    refine WL.vS hS hE (runs_plain rfl) (Gives.p hE rfl) rfl ?_; clear hE a; intro a hE
    refine WL.nil ?_
    refine W.ret ?_
    replace hS := hS.vecNil 44 1
    refine finG (fn := Try.f31) (rs := [.tmp 4, .tmp 5]) (vs := [_, _]) hE rfl ⟨rfl, rfl, trivial⟩ ?_
    obtain rfl := Option.some.inj hr
    replace hS := hS.dropAt 1
    exact ⟨none, 0, 0, [], s, rfl, (Sg.Le.refl _), (Ev.nil), (rfl), hS⟩
  · replace hr := iteF hc52 hr
    refine W.skip ?_
    refine W.seq ?_
    refine W.seq ?_
    refine W.region ?_
    refine WL.vS hS hE (runs_plain rfl) (Gives.p hE rfl) rfl ?_; clear hE a; intro a hE
    refine WL.vS hS hE (runs_plain rfl) (Gives.len hE rfl sl32) rfl ?_; clear hE a; intro a hE
    refine WL.vS hS hE (runs_plain rfl) (Gives.p hE rfl) rfl ?_; clear hE a; intro a hE
    refine WL.nil ?_
    refine W.cond hE rfl (fun hc54 => ?_) (fun hc54 => ?_)
    · replace hr := iteT hc54 hr
      refine W.seq ?_
      refine W.region ?_
      refine WL.vS hS hE (runs_plain rfl) (Gives.p hE rfl) rfl ?_; clear hE a; intro a hE
      refine WL.vS hS hE (runs_plain rfl) (Gives.p hE rfl) rfl ?_; clear hE a; intro a hE
      refine WL.nil ?_
      refine W.ret ?_
      replace hS := hS.vecNil 44 1
      refine finG (fn := Try.f31) (rs := [.tmp 4, .tmp 5]) (vs := [_, _]) hE rfl ⟨rfl, rfl, trivial⟩ ?_
      obtain rfl := Option.some.inj hr
      replace hS := hS.dropAt 1
      exact ⟨none, 0, 0, [], s, rfl, (Sg.Le.refl _), (Ev.nil), (rfl), hS⟩
    · replace hr := iteF hc54 hr
      refine W.skip ?_
      refine W.seq ?_
      refine W.seq ?_
      refine W.region ?_
      refine WL.vS hS hE (runs_plain rfl) (Gives.p hE rfl) rfl ?_; clear hE a; intro a hE
      refine WL.vS hS hE (runs_plain rfl) (Gives.len hE rfl sl32) rfl ?_; clear hE a; intro a hE
      refine WL.vS hS hE (runs_plain rfl) (Gives.p hE rfl) rfl ?_; clear hE a; intro a hE
      refine WL.vS hS hE (runs_plain rfl) (Gives.p hE rfl) rfl ?_; clear hE a; intro a hE
      refine WL.nil ?_
      obtain ⟨q68, hq67, hr⟩ := bindS hr
      refine W.cut (fun a w => ∃ (q73 : Int), ∃ (s71 : Sg), s.Le s71 ∧ (.next q73) = q68 ∧ Rep a 39 [] ∧ St w s71 (pt b51 (.cells (FleetLimits.cells x1).toArray 24 (0, 0)) :: R)) ?_ ?_
      · refine W.block ?_
        refine W.loop (fun m a w => ∃ (n69 : Nat), ∃ (q73 : Int), ∃ (s71 : Sg), n69 = m ∧ s.Le s71 ∧ FleetDuties.loop2 x0 x1 fu n69 q73 = some q68 ∧ Rep a 39 [(0, .slice a0 x0.length c0), (3, .pointer (some ⟨b51, 0, none⟩)), (20, .int .i64 (w64 (((x0).length : Int) + 1))), (21, .int .i64 q73)] ∧ St w s71 (pt b51 (.cells (FleetLimits.cells x1).toArray 24 (0, 0)) :: R)) (m := fu) ⟨fu, 0, s, rfl, (Sg.Le.refl _), hq67, hE.pick _ ⟨rfl, rfl, rfl, rfl, trivial⟩, hS⟩ ?_
        clear hE hS a w hq67; rintro m70 a w ⟨n69, q73, s71, rfl, hle72, hq67, hE, hS⟩
        refine W.gen fun K74 hK74 => ?_
        replace h0 := Sl.mono RFleetTask.mono hle72 h0
        rcases n69 with _ | n69
        · rw [FleetDuties.loop2] at hq67; exact absurd hq67 (by simp)
        rw [FleetDuties.loop2] at hq67
        refine W.seq ?_
        refine W.region ?_
        refine WL.vS hS hE (runs_plain rfl) (Gives.p hE rfl) rfl ?_; clear hE a; intro a hE
        refine WL.nil ?_
        refine W.seq ?_
        refine W.cond hE rfl (fun hc75 => ?_) (fun hc75 => ?_)
        · replace hq67 := iteT hc75 hq67
          refine W.skip ?_
          refine W.seq ?_
          refine W.block ?_
          refine W.seq ?_
          refine W.region ?_
          refine WL.vS hS hE (runs_plain rfl) (Gives.p hE rfl) rfl ?_; clear hE a; intro a hE
          refine WL.vS hS hE (runs_plain rfl) (Gives.p hE rfl) rfl ?_; clear hE a; intro a hE
          refine WL.nil ?_
          refine W.seq ?_
          refine W.gen fun K76 hK76 => ?_
          refine W.regionE (sel (fun w => St w s71 (pt b51 (.cells (FleetLimits.cells x1).toArray 24 (0, 0)) :: R)) (fun w => St w s71 (pt b51 (.cells (FleetLimits.cells x1).toArray 24 (0, 0)) :: R))) (fun b i => cond b ([0, 1, 2, 3, 4, 5, 6, 7].contains i) ([0, 1, 2, 3, 4, 5, 6, 7].contains i)) mixed ?_
          replace hS := hS.drew
          refine Rg.takeP (i := 0) hE rfl (by kernel_rfl) (runs_plain rfl) (Gives.p hE rfl) rfl (tw_sel (fun _ => hS) (fun _ => hS)) ?_; clear hE a; intro a hE
          have hT := tw_sel (A := fun w => St w s71 (pt b51 (.cells (FleetLimits.cells x1).toArray 24 (0, 0)) :: R)) (B := fun w => St w s71 (pt b51 (.cells (FleetLimits.cells x1).toArray 24 (0, 0)) :: R)) (w := _) (x := true) (y := true) (fun _ => hS) (fun _ => hS)
          have hF := hS; replace hS := hS
          refine Rg.take (i := 1) true rfl hE rfl (by kernel_rfl) (runs_plain rfl) (Gives.loadBA hE 0 rfl rfl ty24) rfl hT ?_; clear hE a; intro a hE
          replace hS := hF; clear hF hT
          refine Rg.takeP (i := 2) hE rfl (by kernel_rfl) (runs_plain rfl) (Gives.p hE rfl) rfl (tw_sel (fun _ => hS) (fun _ => hS)) ?_; clear hE a; intro a hE
          refine Rg.takeP (i := 3) hE rfl (by kernel_rfl) (runs_plain rfl) (Gives.len hE rfl sl32) rfl (tw_sel (fun _ => hS) (fun _ => hS)) ?_; clear hE a; intro a hE
          refine Rg.one (i := 4) true true rfl (by kernel_rfl) (by kernel_rfl) (by kernel_rfl) ?_
          obtain ⟨x77, hx78, hq67⟩ := bindS hq67
          refine WL.mkD (Rr := RB) hE hS (runs_plain rfl) rfl rfl ap101 zr4 rfl hx78 rfl ?_; clear hE hS a w; intro b79 cs80 a w h81 hE hS
          refine WL.nil ?_
          refine ⟨⟨fun _ => (hS.tail), fun _ => (hS.tail)⟩, ?_⟩
          refine Rg.takeP (i := 5) hE rfl (by kernel_rfl) (runs_plain rfl) (Gives.build hE (vs := [(0, .slice a0 x0.length c0), (1, .agg (FleetLimits.cells x1).toArray), (2, .slice (some ⟨b79, 0, none⟩) x77.length x77.length)]) [.slice a0 x0.length c0, .int .i64 x1.Change, .int .i64 x1.Long, .int .i64 x1.Work, .int .i64 x1.After, .int .i64 x1.Break, .int .i64 x1.Rest, .int .i64 x1.Row, .slice (some ⟨b79, 0, none⟩) x77.length x77.length, .slice none 0 0] rfl (by kernel_rfl)) rfl (tw_sel (fun _ => (hS.tail)) (fun _ => (hS.tail))) ?_; clear hE a; intro a hE
          refine Rg.one (i := 6) true true rfl (by kernel_rfl) (by kernel_rfl) (by kernel_rfl) ?_
          refine WL.box hE hS (runs_plain rfl) rfl rfl rfl ?_; clear hE hS a w; intro b83 a w hE hS
          refine WL.nil ?_
          refine ⟨⟨fun _ => ((hS.tail).tail), fun _ => ((hS.tail).tail)⟩, ?_⟩
          refine Rg.takeP (i := 7) hE rfl (by kernel_rfl) (runs_plain rfl) (Gives.p hE rfl) rfl (tw_sel (fun _ => ((hS.tail).tail)) (fun _ => ((hS.tail).tail))) ?_; clear hE a; intro a hE
          refine Rg.done (by kernel_rfl) ?_
          subst hK76
          refine W.seq ?_
          refine W.region ?_
          refine WL.vS hS hE (runs_plain rfl) (Gives.p hE rfl) rfl ?_; clear hE a; intro a hE
          refine WL.vS hS hE (runs_plain rfl) (Gives.p hE rfl) rfl ?_; clear hE a; intro a hE
          replace hS := hS.vecNil 44 1
          obtain ⟨q85, hq86, hq67⟩ := bindS hq67
          replace hS := hS.front 0 rfl
          replace hS := hS.front 2 rfl
          replace hS := hS.front 2 rfl
          have hc_ := FleetDividerdivide_v1_ok (y0 := (FleetDivider.mk x0 x1 x77 [])) hS Sl.nil (fun _ => rfl) h0 h81 (rfl) (Ev.nil) (rfl) hq86
          refine WL.fnq hE (hc_) (runs_plain rfl) bd80 rfl rfl rfl ?_
          clear hE hS hc_; rintro e w ⟨cs87, a90, c91, n92, cs93, s95, rfl, hle96, h88, hn89, h94, rfl, hS⟩; refine ⟨_, rfl, ?_⟩; clear a; intro a hE
          replace h0 := Sl.mono RFleetTask.mono hle96 h0
          replace h81 := Ev.mono RB.mono hle96 h81
          refine WL.nil ?_
          refine W.cond hE rfl (fun hc97 => ?_) (fun hc97 => ?_)
          · replace hq67 := iteT hc97 hq67
            refine W.seq ?_
            refine W.region ?_
            refine WL.vS hS hE (runs_plain rfl) (Gives.p hE rfl) rfl ?_; clear hE a; intro a hE
            refine WL.vS hS hE (runs_plain rfl) (Gives.nilOk hE rfl) rfl ?_; clear hE a; intro a hE
            refine WL.vS hS hE (runs_plain rfl) (Gives.fld hE rfl fl114_3) rfl ?_; clear hE a; intro a hE
            refine WL.vS hS hE (runs_plain rfl) (Gives.loadB hE 0 rfl rfl rfl ty25) rfl ?_; clear hE a; intro a hE
            refine WL.vS hS hE (runs_plain rfl) (Gives.p hE rfl) rfl ?_; clear hE a; intro a hE
            refine WL.vS hS hE (runs_plain rfl) (Gives.p hE rfl) rfl ?_; clear hE a; intro a hE
            refine WL.nil ?_
            refine W.ret ?_
            subst hK74
            rw [← Option.some.inj hq67] at hr
            dsimp only at hr
            refine finG (fn := Try.f31) (rs := [.tmp 4, .tmp 5]) (vs := [_, _]) hE rfl ⟨rfl, rfl, trivial⟩ ?_
            obtain rfl := Option.some.inj hr
            replace hS := hS.tail
            replace hS := hS.tail
            replace hS := hS.dropAt 1
            exact ⟨a90, c91, q85.2.2.length, cs93, s95, rfl, (Sg.Le.trans hle72 hle96), h94, rfl, hS⟩
          · replace hq67 := iteF hc97 hq67
            refine W.skip ?_
            refine W.region ?_
            refine WL.vS hS hE (runs_plain rfl) (Gives.p hE rfl) rfl ?_; clear hE a; intro a hE
            refine WL.vS hS hE (runs_plain rfl) (Gives.p hE rfl) rfl ?_; clear hE a; intro a hE
            refine WL.nil ?_
            replace hS := hS.tail
            replace hS := hS.tail
            replace hS := hS.tail
            subst hK74
            exact ⟨n69, Nat.lt_succ_self _, n69, (w64 (q73 + 1)), s95, rfl, (Sg.Le.trans hle72 hle96), hq67, hE.pick _ ⟨rfl, rfl, rfl, rfl, trivial⟩, hS⟩
        · replace hq67 := iteF hc75 hq67
          subst hK74
          refine W.exit rfl ?_
          exact ⟨q73, s71, hle72, Option.some.inj hq67, hE.pick _ trivial, hS⟩
      · clear hE hS a w; rintro a w ⟨q73, s71, hle72, rfl, hE, hS⟩
        dsimp only at hr
        replace h0 := Sl.mono RFleetTask.mono hle72 h0
        refine W.seq ?_
        refine W.region ?_
        refine WL.vS hS hE (runs_plain rfl) (Gives.p hE rfl) rfl ?_; clear hE a; intro a hE
        refine WL.vS hS hE (runs_plain rfl) (Gives.p hE rfl) rfl ?_; clear hE a; intro a hE
        refine WL.nil ?_
        refine W.ret ?_
        replace hS := hS.vecNil 44 1
        refine finG (fn := Try.f31) (rs := [.tmp 4, .tmp 5]) (vs := [_, _]) hE rfl ⟨rfl, rfl, trivial⟩ ?_
        obtain rfl := Option.some.inj hr
        replace hS := hS.dropAt 1
        exact ⟨none, 0, 0, [], s71, rfl, hle72, (Ev.nil), (rfl), hS⟩
set_option maxHeartbeats 8000000 in
theorem Fishref2within_ok  {w : World} {s : Sg} {R : List HP} {x0 : Int} {x1 : Int} {x2 : Int} (hS : St w s (R))  {r : Bool} (hr : Fishref2within x0 x1 x2 = r) :
    Calls Try.prog 45 [.int .i64 x0, .int .i64 x1, .int .i64 x2].toArray w (fun e w => e = .returned (.bool r) ∧ St w s (R)) := by
  refine enter Try.func45 rfl rfl rfl fun a hE => ?_
  rw [Fishref2within] at hr
  refine W.seq ?_
  refine W.region ?_
  refine WL.vS hS hE (runs_plain rfl) (Gives.p hE rfl) rfl ?_; clear hE a; intro a hE
  refine WL.nil ?_
  refine W.seq ?_
  obtain ⟨q52, hq51, hr⟩ := bndS hr
  refine W.cut (fun a w => ∃ (q55 : Bool), q55 = q52 ∧ Rep a 15 [(6, .bool q55)] ∧ St w s (R)) ?_ ?_
  · refine W.gen fun K56 hK56 => ?_
    refine W.region ?_
    refine WL.vS hS hE (runs_plain rfl) (Gives.p hE rfl) rfl ?_; clear hE a; intro a hE
    refine WL.vS hS hE (runs_plain rfl) (Gives.p hE rfl) rfl ?_; clear hE a; intro a hE
    refine WL.vS hS hE (runs_plain rfl) (Gives.p hE rfl) rfl ?_; clear hE a; intro a hE
    refine WL.vS hS hE (runs_plain rfl) (Gives.p hE rfl) rfl ?_; clear hE a; intro a hE
    rcases Bool.eq_false_or_eq_true (decide (x0 ≥ x1)) with hg57 | hg57
    · replace hq51 := iteT hg57 hq51
      refine WL.vS hS hE (runs_if hE rfl rfl rfl hg57) (Gives.p hE rfl) rfl ?_; clear hE a; intro a hE
      refine WL.vS hS hE (runs_if hE rfl rfl rfl hg57) (Gives.p hE rfl) rfl ?_; clear hE a; intro a hE
      refine WL.vS hS hE (runs_if hE rfl rfl rfl hg57) (Gives.p hE rfl) rfl ?_; clear hE a; intro a hE
      refine WL.vS hS hE (runs_plain rfl) (Gives.pickT hE rfl hg57 rfl) rfl ?_; clear hE a; intro a hE
      refine WL.vS hS hE (runs_plain rfl) (Gives.p hE rfl) rfl ?_; clear hE a; intro a hE
      refine WL.nil ?_
      subst hK56
      exact ⟨decide (x0 ≤ x2), hq51, hE.pick _ ⟨rfl, trivial⟩, hS⟩
    · replace hq51 := iteF hg57 hq51
      refine WL.no hE (runs_not hE rfl rfl rfl (by rw [hg57]; decide)) rfl ?_; clear hE a; intro a hE
      refine WL.no hE (runs_not hE rfl rfl rfl (by rw [hg57]; decide)) rfl ?_; clear hE a; intro a hE
      refine WL.no hE (runs_not hE rfl rfl rfl (by rw [hg57]; decide)) rfl ?_; clear hE a; intro a hE
      refine WL.vS hS hE (runs_plain rfl) (Gives.pickF hE rfl hg57 rfl) rfl ?_; clear hE a; intro a hE
      refine WL.vS hS hE (runs_plain rfl) (Gives.p hE rfl) rfl ?_; clear hE a; intro a hE
      refine WL.nil ?_
      subst hK56
      exact ⟨false, hq51, hE.pick _ ⟨rfl, trivial⟩, hS⟩
  · clear hE hS a w; rintro a w ⟨q55, rfl, hE, hS⟩
    refine W.ret ?_
    refine finG (fn := Try.f45) (rs := [.tmp 6]) (vs := [_]) hE rfl ⟨rfl, trivial⟩ ?_
    subst hr
    exact ⟨rfl, hS⟩
set_option maxHeartbeats 8000000 in
theorem Fishref2TasksFault_ok  {w : World} {s : Sg} {R : List HP} {x0 : List FleetTask} {a0 : Option Addr} {c0 : Nat} (hS : St w s (R)) (h0 : Sl 6 RFleetTask s a0 c0 x0) {r : Int} (hr : Fishref2TasksFault x0 = r) :
    Calls Try.prog 15 [.slice a0 x0.length c0].toArray w (fun e w => e = .returned (.int .i64 r) ∧ St w s (R)) := by
  refine enter Try.func15 rfl rfl rfl fun a hE => ?_
  rw [Fishref2TasksFault] at hr
  refine W.seq ?_
  refine W.region ?_
  refine WL.vS hS hE (runs_plain rfl) (Gives.p hE rfl) rfl ?_; clear hE a; intro a hE
  refine WL.nil ?_
  refine W.seq ?_
  refine W.seq ?_
  refine W.region ?_
  refine WL.vS hS hE (runs_plain rfl) (Gives.p hE rfl) rfl ?_; clear hE a; intro a hE
  refine WL.vS hS hE (runs_plain rfl) (Gives.len hE rfl sl32) rfl ?_; clear hE a; intro a hE
  refine WL.vS hS hE (runs_plain rfl) (Gives.p hE rfl) rfl ?_; clear hE a; intro a hE
  refine WL.nil ?_
  refine W.cond hE rfl (fun hc51 => ?_) (fun hc51 => ?_)
  · replace hr := iteT hc51 hr
    refine W.seq ?_
    refine W.region ?_
    refine WL.vS hS hE (runs_plain rfl) (Gives.p hE rfl) rfl ?_; clear hE a; intro a hE
    refine WL.nil ?_
    refine W.ret ?_
    refine finG (fn := Try.f15) (rs := [.tmp 2]) (vs := [_]) hE rfl ⟨rfl, trivial⟩ ?_
    subst hr
    exact ⟨rfl, hS⟩
  · replace hr := iteF hc51 hr
    refine W.skip ?_
    refine W.seq ?_
    refine W.seq ?_
    refine W.region ?_
    refine WL.vS hS hE (runs_plain rfl) (Gives.p hE rfl) rfl ?_; clear hE a; intro a hE
    refine WL.vS hS hE (runs_plain rfl) (Gives.len hE rfl sl32) rfl ?_; clear hE a; intro a hE
    refine WL.vS hS hE (runs_plain rfl) (Gives.p hE rfl) rfl ?_; clear hE a; intro a hE
    refine WL.nil ?_
    obtain ⟨q53, hq52, hr⟩ := bndS hr
    refine W.cut (fun a w => (.next ()) = q53 ∧ Rep a 52 [] ∧ St w s (R)) ?_ ?_
    · refine W.block ?_
      refine W.loop (fun m a w => ∃ (rest56 : List FleetTask) (k54 : Nat), rest56.length = m ∧ x0.drop k54 = rest56 ∧ Fishref2TasksFault.loop1 rest56 = q53 ∧ Rep a 52 [(8, .slice a0 x0.length c0), (9, .int .i64 ((x0).length : Int)), (10, .int .i64 ((k54 : Nat) : Int))] ∧ St w s (R)) (m := x0.length) ⟨x0, 0, rfl, rfl, hq52, hE.pick _ ⟨rfl, rfl, rfl, trivial⟩, hS⟩ ?_
      clear hE hS a w hq52; rintro m60 a w ⟨rest56, k54, rfl, hd57, hq52, hE, hS⟩
      refine W.gen fun K63 hK63 => ?_
      rcases rest56 with _ | ⟨x55, rest56⟩
      · have hlt58 := drop_nil hd57
        refine W.seq ?_
        refine W.region ?_
        refine WL.vS hS hE (runs_plain rfl) (Gives.p hE rfl) rfl ?_; clear hE a; intro a hE
        refine WL.nil ?_
        refine W.seq ?_
        refine W.condF hE rfl (decide_eq_false (by omega)) ?_
        subst hK63
        refine W.exit rfl ?_
        exact ⟨hq52, hE.pick _ trivial, hS⟩
      · obtain ⟨hlt58, hx59, hd57⟩ := drop_cons hd57
        rw [Fishref2TasksFault.loop1] at hq52
        refine W.seq ?_
        refine W.region ?_
        refine WL.vS hS hE (runs_plain rfl) (Gives.p hE rfl) rfl ?_; clear hE a; intro a hE
        refine WL.nil ?_
        refine W.seq ?_
        refine W.condT hE rfl (decide_eq_true (by omega)) ?_
        refine W.skip ?_
        refine W.seq ?_
        refine W.block ?_
        refine W.seq ?_
        refine W.region ?_
        obtain ⟨cs64, hl65, hR66, hat67⟩ := h0.at hx59
        subst hR66
        refine WL.vS hS hE (runs_plain rfl) (Gives.idx hE k54 rfl rfl sl32 rfl hlt58 (h0.aok hlt58)) rfl ?_; clear hE a; intro a hE
        refine WL.vS hS hE (runs_plain rfl) (Gives.loadA hE rfl (fun w h => hat67 w _ h) ty78) rfl ?_; clear hE a; intro a hE
        refine WL.alloc hE hS (runs_plain rfl) zr78 rfl ?_; clear hE hS a w; intro b68 a w hE hS
        refine WL.storeI hE hS 0 rfl (FleetTask.cells x55) (runs_plain rfl) rfl rfl rfl ty78 rfl rfl rfl rfl ?_; clear hE hS a w; intro a w hE hS
        refine WL.nil ?_
        refine W.seq ?_
        refine W.seq ?_
        obtain ⟨q70, hq69, hq52⟩ := bndS hq52
        refine W.cut (fun a w => ∃ (q73 : Bool), q73 = q70 ∧ Rep a 52 [(4, .pointer (some ⟨b68, 0, none⟩)), (8, .slice a0 x0.length c0), (9, .int .i64 ((x0).length : Int)), (10, .int .i64 ((k54 : Nat) : Int)), (35, .bool q73)] ∧ St w s (pt b68 (.cells (FleetTask.cells x55).toArray 78 (0, 0)) :: R)) ?_ ?_
        · refine W.gen fun K74 hK74 => ?_
          refine W.region ?_
          refine WL.vS hS hE (runs_plain rfl) (Gives.fld hE rfl fl78_0) rfl ?_; clear hE a; intro a hE
          refine WL.vS hS hE (runs_plain rfl) (Gives.loadB hE 0 rfl rfl rfl ty3) rfl ?_; clear hE a; intro a hE
          refine WL.fnq hE (Fishref2within_ok hS  rfl (r := Fishref2within x55.From 0 11)) (runs_plain rfl) bd45 rfl rfl rfl ?_
          clear hE hS; rintro e w ⟨rfl, hS⟩; refine ⟨_, rfl, ?_⟩; clear a; intro a hE
          refine WL.vS hS hE (runs_plain rfl) (Gives.p hE rfl) rfl ?_; clear hE a; intro a hE
          refine WL.vS hS hE (runs_plain rfl) (Gives.p hE rfl) rfl ?_; clear hE a; intro a hE
          rcases Bool.eq_false_or_eq_true (!(Fishref2within x55.From 0 11)) with hg75 | hg75
          · replace hq69 := iteT hg75 hq69
            refine WL.no hE (runs_not hE rfl rfl rfl (by rw [hg75]; decide)) rfl ?_; clear hE a; intro a hE
            refine WL.no hE (runs_not hE rfl rfl rfl (by rw [hg75]; decide)) rfl ?_; clear hE a; intro a hE
            refine WL.no hE (runs_not hE rfl rfl rfl (by rw [hg75]; decide)) rfl ?_; clear hE a; intro a hE
            refine WL.no hE (runs_not hE rfl rfl rfl (by rw [hg75]; decide)) rfl ?_; clear hE a; intro a hE
            refine WL.vS hS hE (runs_plain rfl) (Gives.pickT hE rfl hg75 rfl) rfl ?_; clear hE a; intro a hE
            refine WL.vS hS hE (runs_plain rfl) (Gives.p hE rfl) rfl ?_; clear hE a; intro a hE
            refine WL.no hE (runs_not hE rfl rfl rfl (by decide)) rfl ?_; clear hE a; intro a hE
            refine WL.no hE (runs_not hE rfl rfl rfl (by decide)) rfl ?_; clear hE a; intro a hE
            refine WL.no hE (runs_not hE rfl rfl rfl (by decide)) rfl ?_; clear hE a; intro a hE
            refine WL.no hE (runs_not hE rfl rfl rfl (by decide)) rfl ?_; clear hE a; intro a hE
            refine WL.vS hS hE (runs_plain rfl) (Gives.pickT hE rfl rfl rfl) rfl ?_; clear hE a; intro a hE
            refine WL.vS hS hE (runs_plain rfl) (Gives.p hE rfl) rfl ?_; clear hE a; intro a hE
            refine WL.no hE (runs_not hE rfl rfl rfl (by decide)) rfl ?_; clear hE a; intro a hE
            refine WL.no hE (runs_not hE rfl rfl rfl (by decide)) rfl ?_; clear hE a; intro a hE
            refine WL.no hE (runs_not hE rfl rfl rfl (by decide)) rfl ?_; clear hE a; intro a hE
            refine WL.no hE (runs_not hE rfl rfl rfl (by decide)) rfl ?_; clear hE a; intro a hE
            refine WL.vS hS hE (runs_plain rfl) (Gives.pickT hE rfl rfl rfl) rfl ?_; clear hE a; intro a hE
            refine WL.nil ?_
            subst hK74
            exact ⟨true, hq69, hE.pick _ ⟨rfl, rfl, rfl, rfl, rfl, trivial⟩, hS⟩
          · replace hq69 := iteF hg75 hq69
            refine WL.vS hS hE (runs_if hE rfl rfl rfl hg75) (Gives.fld hE rfl fl78_1) rfl ?_; clear hE a; intro a hE
            refine WL.vS hS hE (runs_if hE rfl rfl rfl hg75) (Gives.loadB hE 0 rfl rfl rfl ty3) rfl ?_; clear hE a; intro a hE
            refine WL.fnq hE (Fishref2within_ok hS  rfl (r := Fishref2within x55.To 0 11)) (runs_if hE rfl rfl rfl hg75) bd45 rfl rfl rfl ?_
            clear hE hS; rintro e w ⟨rfl, hS⟩; refine ⟨_, rfl, ?_⟩; clear a; intro a hE
            refine WL.vS hS hE (runs_if hE rfl rfl rfl hg75) (Gives.p hE rfl) rfl ?_; clear hE a; intro a hE
            refine WL.vS hS hE (runs_plain rfl) (Gives.pickF hE rfl hg75 rfl) rfl ?_; clear hE a; intro a hE
            refine WL.vS hS hE (runs_plain rfl) (Gives.p hE rfl) rfl ?_; clear hE a; intro a hE
            rcases Bool.eq_false_or_eq_true (!(Fishref2within x55.To 0 11)) with hg76 | hg76
            · replace hq69 := iteT hg76 hq69
              refine WL.no hE (runs_not hE rfl rfl rfl (by rw [hg76]; decide)) rfl ?_; clear hE a; intro a hE
              refine WL.no hE (runs_not hE rfl rfl rfl (by rw [hg76]; decide)) rfl ?_; clear hE a; intro a hE
              refine WL.no hE (runs_not hE rfl rfl rfl (by rw [hg76]; decide)) rfl ?_; clear hE a; intro a hE
              refine WL.no hE (runs_not hE rfl rfl rfl (by rw [hg76]; decide)) rfl ?_; clear hE a; intro a hE
              refine WL.vS hS hE (runs_plain rfl) (Gives.pickT hE rfl hg76 rfl) rfl ?_; clear hE a; intro a hE
              refine WL.vS hS hE (runs_plain rfl) (Gives.p hE rfl) rfl ?_; clear hE a; intro a hE
              refine WL.no hE (runs_not hE rfl rfl rfl (by decide)) rfl ?_; clear hE a; intro a hE
              refine WL.no hE (runs_not hE rfl rfl rfl (by decide)) rfl ?_; clear hE a; intro a hE
              refine WL.no hE (runs_not hE rfl rfl rfl (by decide)) rfl ?_; clear hE a; intro a hE
              refine WL.no hE (runs_not hE rfl rfl rfl (by decide)) rfl ?_; clear hE a; intro a hE
              refine WL.vS hS hE (runs_plain rfl) (Gives.pickT hE rfl rfl rfl) rfl ?_; clear hE a; intro a hE
              refine WL.nil ?_
              subst hK74
              exact ⟨true, hq69, hE.pick _ ⟨rfl, rfl, rfl, rfl, rfl, trivial⟩, hS⟩
            · replace hq69 := iteF hg76 hq69
              refine WL.vS hS hE (runs_if hE rfl rfl rfl hg76) (Gives.fld hE rfl fl78_2) rfl ?_; clear hE a; intro a hE
              refine WL.vS hS hE (runs_if hE rfl rfl rfl hg76) (Gives.loadB hE 0 rfl rfl rfl ty3) rfl ?_; clear hE a; intro a hE
              refine WL.fnq hE (Fishref2within_ok hS  rfl (r := Fishref2within x55.Dep 0 28800)) (runs_if hE rfl rfl rfl hg76) bd45 rfl rfl rfl ?_
              clear hE hS; rintro e w ⟨rfl, hS⟩; refine ⟨_, rfl, ?_⟩; clear a; intro a hE
              refine WL.vS hS hE (runs_if hE rfl rfl rfl hg76) (Gives.p hE rfl) rfl ?_; clear hE a; intro a hE
              refine WL.vS hS hE (runs_plain rfl) (Gives.pickF hE rfl hg76 rfl) rfl ?_; clear hE a; intro a hE
              refine WL.vS hS hE (runs_plain rfl) (Gives.p hE rfl) rfl ?_; clear hE a; intro a hE
              rcases Bool.eq_false_or_eq_true (!(Fishref2within x55.Dep 0 28800)) with hg77 | hg77
              · replace hq69 := iteT hg77 hq69
                refine WL.no hE (runs_not hE rfl rfl rfl (by rw [hg77]; decide)) rfl ?_; clear hE a; intro a hE
                refine WL.no hE (runs_not hE rfl rfl rfl (by rw [hg77]; decide)) rfl ?_; clear hE a; intro a hE
                refine WL.no hE (runs_not hE rfl rfl rfl (by rw [hg77]; decide)) rfl ?_; clear hE a; intro a hE
                refine WL.no hE (runs_not hE rfl rfl rfl (by rw [hg77]; decide)) rfl ?_; clear hE a; intro a hE
                refine WL.vS hS hE (runs_plain rfl) (Gives.pickT hE rfl hg77 rfl) rfl ?_; clear hE a; intro a hE
                refine WL.nil ?_
                subst hK74
                exact ⟨true, hq69, hE.pick _ ⟨rfl, rfl, rfl, rfl, rfl, trivial⟩, hS⟩
              · replace hq69 := iteF hg77 hq69
                refine WL.vS hS hE (runs_if hE rfl rfl rfl hg77) (Gives.fld hE rfl fl78_3) rfl ?_; clear hE a; intro a hE
                refine WL.vS hS hE (runs_if hE rfl rfl rfl hg77) (Gives.loadB hE 0 rfl rfl rfl ty3) rfl ?_; clear hE a; intro a hE
                refine WL.fnq hE (Fishref2within_ok hS  rfl (r := Fishref2within x55.Arr 0 28800)) (runs_if hE rfl rfl rfl hg77) bd45 rfl rfl rfl ?_
                clear hE hS; rintro e w ⟨rfl, hS⟩; refine ⟨_, rfl, ?_⟩; clear a; intro a hE
                refine WL.vS hS hE (runs_if hE rfl rfl rfl hg77) (Gives.p hE rfl) rfl ?_; clear hE a; intro a hE
                refine WL.vS hS hE (runs_plain rfl) (Gives.pickF hE rfl hg77 rfl) rfl ?_; clear hE a; intro a hE
                refine WL.nil ?_
                subst hK74
                exact ⟨!(Fishref2within x55.Arr 0 28800), hq69, hE.pick _ ⟨rfl, rfl, rfl, rfl, rfl, trivial⟩, hS⟩
        · clear hE hS a w; rintro a w ⟨q73, rfl, hE, hS⟩
          refine W.cond hE rfl (fun hc78 => ?_) (fun hc78 => ?_)
          · replace hq52 := iteT hc78 hq52
            refine W.seq ?_
            refine W.region ?_
            refine WL.vS hS hE (runs_plain rfl) (Gives.p hE rfl) rfl ?_; clear hE a; intro a hE
            refine WL.nil ?_
            refine W.ret ?_
            subst hK63
            rw [← hq52] at hr
            dsimp only at hr
            refine finG (fn := Try.f15) (rs := [.tmp 2]) (vs := [_]) hE rfl ⟨rfl, trivial⟩ ?_
            subst hr
            replace hS := hS.tail
            exact ⟨rfl, hS⟩
          · replace hq52 := iteF hc78 hq52
            refine W.skip ?_
            refine W.seq ?_
            refine W.seq ?_
            refine W.region ?_
            refine WL.vS hS hE (runs_plain rfl) (Gives.fld hE rfl fl78_3) rfl ?_; clear hE a; intro a hE
            refine WL.vS hS hE (runs_plain rfl) (Gives.loadB hE 0 rfl rfl rfl ty3) rfl ?_; clear hE a; intro a hE
            refine WL.vS hS hE (runs_plain rfl) (Gives.fld hE rfl fl78_2) rfl ?_; clear hE a; intro a hE
            refine WL.vS hS hE (runs_plain rfl) (Gives.loadB hE 0 rfl rfl rfl ty3) rfl ?_; clear hE a; intro a hE
            refine WL.vS hS hE (runs_plain rfl) (Gives.p hE rfl) rfl ?_; clear hE a; intro a hE
            refine WL.nil ?_
            refine W.cond hE rfl (fun hc79 => ?_) (fun hc79 => ?_)
            · replace hq52 := iteT hc79 hq52
              refine W.seq ?_
              refine W.region ?_
              refine WL.vS hS hE (runs_plain rfl) (Gives.p hE rfl) rfl ?_; clear hE a; intro a hE
              refine WL.nil ?_
              refine W.ret ?_
              subst hK63
              rw [← hq52] at hr
              dsimp only at hr
              refine finG (fn := Try.f15) (rs := [.tmp 2]) (vs := [_]) hE rfl ⟨rfl, trivial⟩ ?_
              subst hr
              replace hS := hS.tail
              exact ⟨rfl, hS⟩
            · replace hq52 := iteF hc79 hq52
              refine W.skip ?_
              refine W.seq ?_
              obtain ⟨q81, hq80, hq52⟩ := bndS hq52
              refine W.cut (fun a w => ∃ (q84 : Bool), q84 = q81 ∧ Rep a 52 [(8, .slice a0 x0.length c0), (9, .int .i64 ((x0).length : Int)), (10, .int .i64 ((k54 : Nat) : Int)), (50, .bool q84)] ∧ St w s (pt b68 (.cells (FleetTask.cells x55).toArray 78 (0, 0)) :: R)) ?_ ?_
              · refine W.gen fun K85 hK85 => ?_
                refine W.region ?_
                refine WL.vS hS hE (runs_plain rfl) (Gives.fld hE rfl fl78_4) rfl ?_; clear hE a; intro a hE
                refine WL.vS hS hE (runs_plain rfl) (Gives.loadB hE 0 rfl rfl rfl ty3) rfl ?_; clear hE a; intro a hE
                refine WL.fnq hE (Fishref2within_ok hS  rfl (r := Fishref2within x55.Km 0 10000)) (runs_plain rfl) bd45 rfl rfl rfl ?_
                clear hE hS; rintro e w ⟨rfl, hS⟩; refine ⟨_, rfl, ?_⟩; clear a; intro a hE
                refine WL.vS hS hE (runs_plain rfl) (Gives.p hE rfl) rfl ?_; clear hE a; intro a hE
                refine WL.vS hS hE (runs_plain rfl) (Gives.p hE rfl) rfl ?_; clear hE a; intro a hE
                rcases Bool.eq_false_or_eq_true (!(Fishref2within x55.Km 0 10000)) with hg86 | hg86
                · replace hq80 := iteT hg86 hq80
                  refine WL.no hE (runs_not hE rfl rfl rfl (by rw [hg86]; decide)) rfl ?_; clear hE a; intro a hE
                  refine WL.no hE (runs_not hE rfl rfl rfl (by rw [hg86]; decide)) rfl ?_; clear hE a; intro a hE
                  refine WL.no hE (runs_not hE rfl rfl rfl (by rw [hg86]; decide)) rfl ?_; clear hE a; intro a hE
                  refine WL.no hE (runs_not hE rfl rfl rfl (by rw [hg86]; decide)) rfl ?_; clear hE a; intro a hE
                  refine WL.vS hS hE (runs_plain rfl) (Gives.pickT hE rfl hg86 rfl) rfl ?_; clear hE a; intro a hE
                  refine WL.nil ?_
                  subst hK85
                  exact ⟨true, hq80, hE.pick _ ⟨rfl, rfl, rfl, rfl, trivial⟩, hS⟩
                · replace hq80 := iteF hg86 hq80
                  refine WL.vS hS hE (runs_if hE rfl rfl rfl hg86) (Gives.fld hE rfl fl78_5) rfl ?_; clear hE a; intro a hE
                  refine WL.vS hS hE (runs_if hE rfl rfl rfl hg86) (Gives.loadB hE 0 rfl rfl rfl ty3) rfl ?_; clear hE a; intro a hE
                  refine WL.fnq hE (Fishref2within_ok hS  rfl (r := Fishref2within x55.Units 1 4)) (runs_if hE rfl rfl rfl hg86) bd45 rfl rfl rfl ?_
                  clear hE hS; rintro e w ⟨rfl, hS⟩; refine ⟨_, rfl, ?_⟩; clear a; intro a hE
                  refine WL.vS hS hE (runs_if hE rfl rfl rfl hg86) (Gives.p hE rfl) rfl ?_; clear hE a; intro a hE
                  refine WL.vS hS hE (runs_plain rfl) (Gives.pickF hE rfl hg86 rfl) rfl ?_; clear hE a; intro a hE
                  refine WL.nil ?_
                  subst hK85
                  exact ⟨!(Fishref2within x55.Units 1 4), hq80, hE.pick _ ⟨rfl, rfl, rfl, rfl, trivial⟩, hS⟩
              · clear hE hS a w; rintro a w ⟨q84, rfl, hE, hS⟩
                refine W.cond hE rfl (fun hc87 => ?_) (fun hc87 => ?_)
                · replace hq52 := iteT hc87 hq52
                  refine W.seq ?_
                  refine W.region ?_
                  refine WL.vS hS hE (runs_plain rfl) (Gives.p hE rfl) rfl ?_; clear hE a; intro a hE
                  refine WL.nil ?_
                  refine W.ret ?_
                  subst hK63
                  rw [← hq52] at hr
                  dsimp only at hr
                  refine finG (fn := Try.f15) (rs := [.tmp 2]) (vs := [_]) hE rfl ⟨rfl, trivial⟩ ?_
                  subst hr
                  replace hS := hS.tail
                  exact ⟨rfl, hS⟩
                · replace hq52 := iteF hc87 hq52
                  refine W.skip ?_
                  refine W.region ?_
                  refine WL.vS hS hE (runs_plain rfl) (Gives.inc hE rfl (by have := h0.small; omega)) rfl ?_; clear hE a; intro a hE
                  refine WL.vS hS hE (runs_plain rfl) (Gives.p hE rfl) rfl ?_; clear hE a; intro a hE
                  refine WL.nil ?_
                  replace hS := hS.tail
                  subst hK63
                  exact ⟨rest56.length, Nat.lt_succ_self _, rest56, k54 + 1, rfl, hd57, hq52, hE.pick _ ⟨rfl, rfl, rfl, trivial⟩, hS⟩
    · clear hE hS a w; rintro a w ⟨rfl, hE, hS⟩
      dsimp only at hr
      refine W.seq ?_
      refine W.region ?_
      refine WL.vS hS hE (runs_plain rfl) (Gives.p hE rfl) rfl ?_; clear hE a; intro a hE
      refine WL.nil ?_
      refine W.ret ?_
      refine finG (fn := Try.f15) (rs := [.tmp 2]) (vs := [_]) hE rfl ⟨rfl, trivial⟩ ?_
      subst hr
      exact ⟨rfl, hS⟩
set_option maxHeartbeats 8000000 in
theorem Fishref2LimitsFault_ok  {w : World} {s : Sg} {R : List HP} {x0 : FleetLimits} (hS : St w s (R))  {r : Int} (hr : Fishref2LimitsFault x0 = r) :
    Calls Try.prog 44 [.agg (FleetLimits.cells x0).toArray].toArray w (fun e w => e = .returned (.int .i64 r) ∧ St w s (R)) := by
  refine enter Try.func44 rfl rfl rfl fun a hE => ?_
  rw [Fishref2LimitsFault] at hr
  refine W.seq ?_
  refine W.region ?_
  refine WL.box hE hS (runs_plain rfl) rfl rfl rfl ?_; clear hE hS a w; intro b51 a w hE hS
  refine WL.vS hS hE (runs_plain rfl) (Gives.p hE rfl) rfl ?_; clear hE a; intro a hE
  refine WL.nil ?_
  refine W.seq ?_
  refine W.seq ?_
  refine W.region ?_
  refine WL.vS hS hE (runs_plain rfl) (Gives.fld hE rfl fl24_0) rfl ?_; clear hE a; intro a hE
  refine WL.vS hS hE (runs_plain rfl) (Gives.loadB hE 0 rfl rfl rfl ty3) rfl ?_; clear hE a; intro a hE
  refine WL.vS hS hE (runs_plain rfl) (Gives.fld hE rfl fl24_1) rfl ?_; clear hE a; intro a hE
  refine WL.vS hS hE (runs_plain rfl) (Gives.loadB hE 0 rfl rfl rfl ty3) rfl ?_; clear hE a; intro a hE
  refine WL.vS hS hE (runs_plain rfl) (Gives.fld hE rfl fl24_2) rfl ?_; clear hE a; intro a hE
  refine WL.vS hS hE (runs_plain rfl) (Gives.loadB hE 0 rfl rfl rfl ty3) rfl ?_; clear hE a; intro a hE
  refine WL.vS hS hE (runs_plain rfl) (Gives.fld hE rfl fl24_3) rfl ?_; clear hE a; intro a hE
  refine WL.vS hS hE (runs_plain rfl) (Gives.loadB hE 0 rfl rfl rfl ty3) rfl ?_; clear hE a; intro a hE
  refine WL.vS hS hE (runs_plain rfl) (Gives.fld hE rfl fl24_4) rfl ?_; clear hE a; intro a hE
  refine WL.vS hS hE (runs_plain rfl) (Gives.loadB hE 0 rfl rfl rfl ty3) rfl ?_; clear hE a; intro a hE
  refine WL.vS hS hE (runs_plain rfl) (Gives.fld hE rfl fl24_5) rfl ?_; clear hE a; intro a hE
  refine WL.vS hS hE (runs_plain rfl) (Gives.loadB hE 0 rfl rfl rfl ty3) rfl ?_; clear hE a; intro a hE
  refine WL.lit hE hS (e := 3) (es := 1) (vs := [(0, .int .i64 x0.Change), (1, .int .i64 x0.Long), (2, .int .i64 x0.Work), (3, .int .i64 x0.After), (4, .int .i64 x0.Break), (5, .int .i64 x0.Rest)]) (cs := [.int .i64 x0.Change, .int .i64 x0.Long, .int .i64 x0.Work, .int .i64 x0.After, .int .i64 x0.Break, .int .i64 x0.Rest]) (runs_plain rfl) rfl (by kernel_rfl) rfl ?_; clear hE hS a w; intro b52 a w hE hS
  replace hS := hS.ptVec (es := 1) (m := 6) rfl (by decide)
  have h54 : Ev 1 (RI .i64) s [.int .i64 x0.Change, .int .i64 x0.Long, .int .i64 x0.Work, .int .i64 x0.After, .int .i64 x0.Break, .int .i64 x0.Rest] [x0.Change, x0.Long, x0.Work, x0.After, x0.Break, x0.Rest] := (Ev.cons (c1 := [.int .i64 x0.Change]) rfl rfl (Ev.cons (c1 := [.int .i64 x0.Long]) rfl rfl (Ev.cons (c1 := [.int .i64 x0.Work]) rfl rfl (Ev.cons (c1 := [.int .i64 x0.After]) rfl rfl (Ev.cons (c1 := [.int .i64 x0.Break]) rfl rfl (Ev.cons (c1 := [.int .i64 x0.Rest]) rfl rfl (Ev.nil)))))))
  have hF := hS.fixD RI.mono 0 rfl h54 (rfl); clear hS; obtain ⟨s55, hle56, hS, h57⟩ := hF
  refine WL.vS hS hE (runs_plain rfl) (Gives.len hE rfl sl44) rfl ?_; clear hE a; intro a hE
  refine WL.vS hS hE (runs_plain rfl) (Gives.p hE rfl) rfl ?_; clear hE a; intro a hE
  refine WL.nil ?_
  obtain ⟨q59, hq58, hr⟩ := bndS hr
  refine W.cut (fun a w => (.next ()) = q59 ∧ Rep a 31 [(1, .pointer (some ⟨b51, 0, none⟩))] ∧ St w s55 (pt b51 (.cells (FleetLimits.cells x0).toArray 24 (0, 0)) :: R)) ?_ ?_
  · refine W.block ?_
    refine W.loop (fun m a w => ∃ (rest62 : List Int) (k60 : Nat), rest62.length = m ∧ [x0.Change, x0.Long, x0.Work, x0.After, x0.Break, x0.Rest].drop k60 = rest62 ∧ Fishref2LimitsFault.loop1 rest62 = q59 ∧ Rep a 31 [(1, .pointer (some ⟨b51, 0, none⟩)), (17, .slice (some ⟨b52, 0, none⟩) 6 6), (18, .int .i64 (([x0.Change, x0.Long, x0.Work, x0.After, x0.Break, x0.Rest]).length : Int)), (19, .int .i64 ((k60 : Nat) : Int))] ∧ St w s55 (pt b51 (.cells (FleetLimits.cells x0).toArray 24 (0, 0)) :: R)) (m := [x0.Change, x0.Long, x0.Work, x0.After, x0.Break, x0.Rest].length) ⟨[x0.Change, x0.Long, x0.Work, x0.After, x0.Break, x0.Rest], 0, rfl, rfl, hq58, hE.pick _ ⟨rfl, rfl, rfl, rfl, trivial⟩, hS⟩ ?_
    clear hE hS a w hq58; rintro m66 a w ⟨rest62, k60, rfl, hd63, hq58, hE, hS⟩
    refine W.gen fun K69 hK69 => ?_
    rcases rest62 with _ | ⟨x61, rest62⟩
    · have hlt64 := drop_nil hd63
      refine W.seq ?_
      refine W.region ?_
      refine WL.vS hS hE (runs_plain rfl) (Gives.p hE rfl) rfl ?_; clear hE a; intro a hE
      refine WL.nil ?_
      refine W.seq ?_
      refine W.condF hE rfl (decide_eq_false (by omega)) ?_
      subst hK69
      refine W.exit rfl ?_
      exact ⟨hq58, hE.pick _ ⟨rfl, trivial⟩, hS⟩
    · obtain ⟨hlt64, hx65, hd63⟩ := drop_cons hd63
      rw [Fishref2LimitsFault.loop1] at hq58
      refine W.seq ?_
      refine W.region ?_
      refine WL.vS hS hE (runs_plain rfl) (Gives.p hE rfl) rfl ?_; clear hE a; intro a hE
      refine WL.nil ?_
      refine W.seq ?_
      refine W.condT hE rfl (decide_eq_true (by omega)) ?_
      refine W.skip ?_
      refine W.seq ?_
      refine W.block ?_
      refine W.seq ?_
      refine W.region ?_
      obtain ⟨cs70, hl71, hR72, hat73⟩ := h57.at hx65
      subst hR72
      refine WL.vS hS hE (runs_plain rfl) (Gives.idx hE k60 rfl rfl sl44 rfl hlt64 (h57.aok hlt64)) rfl ?_; clear hE a; intro a hE
      refine WL.vS hS hE (runs_plain rfl) (Gives.load1 hE rfl (fun w h => hat73 w _ h) ty3) rfl ?_; clear hE a; intro a hE
      refine WL.vS hS hE (runs_plain rfl) (Gives.p hE rfl) rfl ?_; clear hE a; intro a hE
      refine WL.nil ?_
      refine W.seq ?_
      refine W.region ?_
      refine WL.vS hS hE (runs_plain rfl) (Gives.p hE rfl) rfl ?_; clear hE a; intro a hE
      refine WL.fnq hE (Fishref2within_ok hS  rfl (r := Fishref2within x61 0 86400)) (runs_plain rfl) bd45 rfl rfl rfl ?_
      clear hE hS; rintro e w ⟨rfl, hS⟩; refine ⟨_, rfl, ?_⟩; clear a; intro a hE
      refine WL.vS hS hE (runs_plain rfl) (Gives.p hE rfl) rfl ?_; clear hE a; intro a hE
      refine WL.nil ?_
      refine W.cond hE rfl (fun hc74 => ?_) (fun hc74 => ?_)
      · replace hq58 := iteT hc74 hq58
        refine W.seq ?_
        refine W.region ?_
        refine WL.vS hS hE (runs_plain rfl) (Gives.p hE rfl) rfl ?_; clear hE a; intro a hE
        refine WL.nil ?_
        refine W.ret ?_
        subst hK69
        rw [← hq58] at hr
        dsimp only at hr
        refine finG (fn := Try.f44) (rs := [.tmp 2]) (vs := [_]) hE rfl ⟨rfl, trivial⟩ ?_
        subst hr
        replace hS := hS.tail
        exact ⟨rfl, (hS.down hle56)⟩
      · replace hq58 := iteF hc74 hq58
        refine W.skip ?_
        refine W.region ?_
        refine WL.vS hS hE (runs_plain rfl) (Gives.inc hE rfl (by have := h57.small; omega)) rfl ?_; clear hE a; intro a hE
        refine WL.vS hS hE (runs_plain rfl) (Gives.p hE rfl) rfl ?_; clear hE a; intro a hE
        refine WL.nil ?_
        subst hK69
        exact ⟨rest62.length, Nat.lt_succ_self _, rest62, k60 + 1, rfl, hd63, hq58, hE.pick _ ⟨rfl, rfl, rfl, rfl, trivial⟩, hS⟩
  · clear hE hS a w; rintro a w ⟨rfl, hE, hS⟩
    dsimp only at hr
    refine W.seq ?_
    refine W.seq ?_
    refine W.region ?_
    refine WL.vS hS hE (runs_plain rfl) (Gives.fld hE rfl fl24_6) rfl ?_; clear hE a; intro a hE
    refine WL.vS hS hE (runs_plain rfl) (Gives.loadB hE 0 rfl rfl rfl ty3) rfl ?_; clear hE a; intro a hE
    refine WL.fnq hE (Fishref2within_ok hS  rfl (r := Fishref2within x0.Row 1 7)) (runs_plain rfl) bd45 rfl rfl rfl ?_
    clear hE hS; rintro e w ⟨rfl, hS⟩; refine ⟨_, rfl, ?_⟩; clear a; intro a hE
    refine WL.vS hS hE (runs_plain rfl) (Gives.p hE rfl) rfl ?_; clear hE a; intro a hE
    refine WL.nil ?_
    refine W.cond hE rfl (fun hc75 => ?_) (fun hc75 => ?_)
    · replace hr := iteT hc75 hr
      refine W.seq ?_
      refine W.region ?_
      refine WL.vS hS hE (runs_plain rfl) (Gives.p hE rfl) rfl ?_; clear hE a; intro a hE
      refine WL.nil ?_
      refine W.ret ?_
      refine finG (fn := Try.f44) (rs := [.tmp 2]) (vs := [_]) hE rfl ⟨rfl, trivial⟩ ?_
      subst hr
      replace hS := hS.tail
      exact ⟨rfl, (hS.down hle56)⟩
    · replace hr := iteF hc75 hr
      refine W.skip ?_
      refine W.seq ?_
      refine W.region ?_
      refine WL.vS hS hE (runs_plain rfl) (Gives.p hE rfl) rfl ?_; clear hE a; intro a hE
      refine WL.nil ?_
      refine W.ret ?_
      refine finG (fn := Try.f44) (rs := [.tmp 2]) (vs := [_]) hE rfl ⟨rfl, trivial⟩ ?_
      subst hr
      replace hS := hS.tail
      exact ⟨rfl, (hS.down hle56)⟩
set_option maxHeartbeats 8000000 in
theorem Fishref2DutiesFault_ok  {w : World} {s : Sg} {R : List HP} {x0 : List FleetTask} {a0 : Option Addr} {c0 : Nat} {x1 : FleetLimits} (hS : St w s (R)) (h0 : Sl 6 RFleetTask s a0 c0 x0) {r : Int} (hr : Fishref2DutiesFault x0 x1 = r) :
    Calls Try.prog 81 [.slice a0 x0.length c0, .agg (FleetLimits.cells x1).toArray].toArray w (fun e w => e = .returned (.int .i64 r) ∧ St w s (R)) := by
  refine enter Try.func81 rfl rfl rfl fun a hE => ?_
  rw [Fishref2DutiesFault] at hr
  refine W.seq ?_
  refine W.region ?_
  refine WL.box hE hS (runs_plain rfl) rfl rfl rfl ?_; clear hE hS a w; intro b51 a w hE hS
  refine WL.vS hS hE (runs_plain rfl) (Gives.p hE rfl) rfl ?_; clear hE a; intro a hE
  refine WL.nil ?_
  refine W.seq ?_
  refine W.seq ?_
  refine W.region ?_
  refine WL.vS hS hE (runs_plain rfl) (Gives.p hE rfl) rfl ?_; clear hE a; intro a hE
  refine WL.fnq hE (Fishref2TasksFault_ok hS h0 rfl (r := Fishref2TasksFault x0)) (runs_plain rfl) bd15 rfl rfl rfl ?_
  clear hE hS; rintro e w ⟨rfl, hS⟩; refine ⟨_, rfl, ?_⟩; clear a; intro a hE
  refine WL.vS hS hE (runs_plain rfl) (Gives.p hE rfl) rfl ?_; clear hE a; intro a hE
  refine WL.nil ?_
  refine W.seq ?_
  refine W.region ?_
  refine WL.vS hS hE (runs_plain rfl) (Gives.p hE rfl) rfl ?_; clear hE a; intro a hE
  refine WL.vS hS hE (runs_plain rfl) (Gives.p hE rfl) rfl ?_; clear hE a; intro a hE
  refine WL.nil ?_
  refine W.cond hE rfl (fun hc52 => ?_) (fun hc52 => ?_)
  · replace hr := iteT hc52 hr
    refine W.seq ?_
    refine W.region ?_
    refine WL.vS hS hE (runs_plain rfl) (Gives.p hE rfl) rfl ?_; clear hE a; intro a hE
    refine WL.vS hS hE (runs_plain rfl) (Gives.p hE rfl) rfl ?_; clear hE a; intro a hE
    refine WL.nil ?_
    refine W.ret ?_
    refine finG (fn := Try.f81) (rs := [.tmp 4]) (vs := [_]) hE rfl ⟨rfl, trivial⟩ ?_
    subst hr
    replace hS := hS.tail
    exact ⟨rfl, hS⟩
  · replace hr := iteF hc52 hr
    refine W.skip ?_
    refine W.seq ?_
    refine W.seq ?_
    refine W.region ?_
    refine WL.vS hS hE (runs_plain rfl) (Gives.loadBA hE 0 rfl rfl ty24) rfl ?_; clear hE a; intro a hE
    refine WL.fnq hE (Fishref2LimitsFault_ok hS  rfl (r := Fishref2LimitsFault x1)) (runs_plain rfl) bd44 rfl rfl rfl ?_
    clear hE hS; rintro e w ⟨rfl, hS⟩; refine ⟨_, rfl, ?_⟩; clear a; intro a hE
    refine WL.vS hS hE (runs_plain rfl) (Gives.p hE rfl) rfl ?_; clear hE a; intro a hE
    refine WL.nil ?_
    refine W.seq ?_
    refine W.region ?_
    refine WL.vS hS hE (runs_plain rfl) (Gives.p hE rfl) rfl ?_; clear hE a; intro a hE
    refine WL.vS hS hE (runs_plain rfl) (Gives.p hE rfl) rfl ?_; clear hE a; intro a hE
    refine WL.nil ?_
    refine W.cond hE rfl (fun hc53 => ?_) (fun hc53 => ?_)
    · replace hr := iteT hc53 hr
      refine W.seq ?_
      refine W.region ?_
      refine WL.vS hS hE (runs_plain rfl) (Gives.p hE rfl) rfl ?_; clear hE a; intro a hE
      refine WL.vS hS hE (runs_plain rfl) (Gives.p hE rfl) rfl ?_; clear hE a; intro a hE
      refine WL.nil ?_
      refine W.ret ?_
      refine finG (fn := Try.f81) (rs := [.tmp 4]) (vs := [_]) hE rfl ⟨rfl, trivial⟩ ?_
      subst hr
      replace hS := hS.tail
      exact ⟨rfl, hS⟩
    · replace hr := iteF hc53 hr
      refine W.skip ?_
      refine W.seq ?_
      refine W.seq ?_
      refine W.region ?_
      refine WL.vS hS hE (runs_plain rfl) (Gives.p hE rfl) rfl ?_; clear hE a; intro a hE
      refine WL.vS hS hE (runs_plain rfl) (Gives.len hE rfl sl32) rfl ?_; clear hE a; intro a hE
      refine WL.vS hS hE (runs_plain rfl) (Gives.p hE rfl) rfl ?_; clear hE a; intro a hE
      refine WL.nil ?_
      refine W.cond hE rfl (fun hc54 => ?_) (fun hc54 => ?_)
      · replace hr := iteT hc54 hr
        refine W.seq ?_
        refine W.region ?_
        refine WL.vS hS hE (runs_plain rfl) (Gives.p hE rfl) rfl ?_; clear hE a; intro a hE
        refine WL.nil ?_
        refine W.ret ?_
        refine finG (fn := Try.f81) (rs := [.tmp 4]) (vs := [_]) hE rfl ⟨rfl, trivial⟩ ?_
        subst hr
        replace hS := hS.tail
        exact ⟨rfl, hS⟩
      · replace hr := iteF hc54 hr
        refine W.skip ?_
        refine W.seq ?_
        refine W.region ?_
        refine WL.vS hS hE (runs_plain rfl) (Gives.p hE rfl) rfl ?_; clear hE a; intro a hE
        refine WL.nil ?_
        refine W.ret ?_
        refine finG (fn := Try.f81) (rs := [.tmp 4]) (vs := [_]) hE rfl ⟨rfl, trivial⟩ ?_
        subst hr
        replace hS := hS.tail
        exact ⟨rfl, hS⟩
set_option maxHeartbeats 8000000 in
theorem Fishref2inOrder_ok {fu : Nat}  {w : World} {s : Sg} {R : List HP} {x0 : List FleetTask} {a0 : Option Addr} {c0 : Nat} (hS : St w s (R)) (h0 : Sl 6 RFleetTask s a0 c0 x0) {r : (List Int)} (hr : Fishref2inOrder fu x0 = some r) :
    Calls Try.prog 65 [.slice a0 x0.length c0].toArray w (fun e w => ∃ (a0 : Option Addr) (c0 n0 : Nat) (cs0 : List Value), e = .returned (.slice a0 n0 c0) ∧ Ev 1 (RI .i64) s cs0 r ∧ r.length = n0 ∧ St w s (vecC 3 1 a0 c0 n0 cs0 :: R)) := by
  refine enter Try.func65 rfl rfl rfl fun a hE => ?_
  rw [Fishref2inOrder] at hr
  refine W.seq ?_
  refine W.region ?_
  refine WL.vS hS hE (runs_plain rfl) (Gives.p hE rfl) rfl ?_; clear hE a; intro a hE
  refine WL.nil ?_
  refine W.seq ?_
  refine W.region ?_
  replace hS := hS.vecNil 3 1
  refine WL.vS hS hE (runs_plain rfl) (Gives.p hE rfl) rfl ?_; clear hE a; intro a hE
  refine WL.nil ?_
  refine W.seq ?_
  refine W.seq ?_
  refine W.region ?_
  refine WL.vS hS hE (runs_plain rfl) (Gives.p hE rfl) rfl ?_; clear hE a; intro a hE
  refine WL.nil ?_
  obtain ⟨q53, hq52, hr⟩ := bindS hr
  refine W.cut (fun a w => ∃ (q58 : List Int), ∃ (q65 : Int), ∃ (a59 : Option Addr), ∃ (c60 : Nat), ∃ (n62 : Nat), ∃ (cs63 : List Value), (q58, q65) = q53 ∧ Ev 1 (RI .i64) s cs63 q58 ∧ q58.length = n62 ∧ Rep a 35 [(3, .slice a59 n62 c60)] ∧ St w s (vecC 3 1 a59 c60 n62 cs63 :: R)) ?_ ?_
  · refine W.block ?_
    refine W.loop (fun m a w => ∃ (n54 : Nat), ∃ (q58 : List Int), ∃ (q65 : Int), ∃ (a59 : Option Addr), ∃ (c60 : Nat), ∃ (n62 : Nat), ∃ (cs63 : List Value), n54 = m ∧ Fishref2inOrder.loop1 x0 n54 q58 q65 = some q53 ∧ Ev 1 (RI .i64) s cs63 q58 ∧ q58.length = n62 ∧ Rep a 35 [(0, .slice a0 x0.length c0), (3, .slice a59 n62 c60), (4, .int .i64 q65)] ∧ St w s (vecC 3 1 a59 c60 n62 cs63 :: R)) (m := fu) ⟨fu, [], 0, none, 0, 0, [], rfl, hq52, (Ev.nil), (rfl), hE.pick _ ⟨rfl, rfl, rfl, trivial⟩, hS⟩ ?_
    clear hE hS a w hq52; rintro m55 a w ⟨n54, q58, q65, a59, c60, n62, cs63, rfl, hq52, h61, rfl, hE, hS⟩
    refine W.gen fun K66 hK66 => ?_
    rcases n54 with _ | n54
    · rw [Fishref2inOrder.loop1] at hq52; exact absurd hq52 (by simp)
    rw [Fishref2inOrder.loop1] at hq52
    refine W.seq ?_
    refine W.seq ?_
    obtain ⟨q68, hq67, hq52⟩ := bndS hq52
    refine W.cut (fun a w => ∃ (q71 : Bool), q71 = q68 ∧ Rep a 35 [(0, .slice a0 x0.length c0), (3, .slice a59 q58.length c60), (4, .int .i64 q65), (15, .bool q71)] ∧ St w s (vecC 3 1 a59 c60 q58.length cs63 :: R)) ?_ ?_
    · refine W.gen fun K72 hK72 => ?_
      refine W.region ?_
      refine WL.vS hS hE (runs_plain rfl) (Gives.p hE rfl) rfl ?_; clear hE a; intro a hE
      refine WL.vS hS hE (runs_plain rfl) (Gives.len hE rfl sl44) rfl ?_; clear hE a; intro a hE
      refine WL.vS hS hE (runs_plain rfl) (Gives.p hE rfl) rfl ?_; clear hE a; intro a hE
      refine WL.vS hS hE (runs_plain rfl) (Gives.len hE rfl sl32) rfl ?_; clear hE a; intro a hE
      refine WL.vS hS hE (runs_plain rfl) (Gives.p hE rfl) rfl ?_; clear hE a; intro a hE
      refine WL.vS hS hE (runs_plain rfl) (Gives.p hE rfl) rfl ?_; clear hE a; intro a hE
      rcases Bool.eq_false_or_eq_true (decide (((q58.length : Nat) : Int) < ((x0).length : Int))) with hg73 | hg73
      · replace hq67 := iteT hg73 hq67
        refine WL.vS hS hE (runs_if hE rfl rfl rfl hg73) (Gives.p hE rfl) rfl ?_; clear hE a; intro a hE
        refine WL.vS hS hE (runs_if hE rfl rfl rfl hg73) (Gives.p hE rfl) rfl ?_; clear hE a; intro a hE
        refine WL.vS hS hE (runs_plain rfl) (Gives.pickT hE rfl hg73 rfl) rfl ?_; clear hE a; intro a hE
        refine WL.nil ?_
        subst hK72
        exact ⟨decide (q65 ≤ 28800), hq67, hE.pick _ ⟨rfl, rfl, rfl, rfl, trivial⟩, hS⟩
      · replace hq67 := iteF hg73 hq67
        refine WL.no hE (runs_not hE rfl rfl rfl (by rw [hg73]; decide)) rfl ?_; clear hE a; intro a hE
        refine WL.no hE (runs_not hE rfl rfl rfl (by rw [hg73]; decide)) rfl ?_; clear hE a; intro a hE
        refine WL.vS hS hE (runs_plain rfl) (Gives.pickF hE rfl hg73 rfl) rfl ?_; clear hE a; intro a hE
        refine WL.nil ?_
        subst hK72
        exact ⟨false, hq67, hE.pick _ ⟨rfl, rfl, rfl, rfl, trivial⟩, hS⟩
    · clear hE hS a w; rintro a w ⟨q71, rfl, hE, hS⟩
      refine W.cond hE rfl (fun hc74 => ?_) (fun hc74 => ?_)
      · replace hq52 := iteT hc74 hq52
        refine W.skip ?_
        refine W.seq ?_
        refine W.block ?_
        refine W.seq ?_
        refine W.region ?_
        refine WL.vS hS hE (runs_plain rfl) (Gives.p hE rfl) rfl ?_; clear hE a; intro a hE
        refine WL.vS hS hE (runs_plain rfl) (Gives.len hE rfl sl32) rfl ?_; clear hE a; intro a hE
        refine WL.vS hS hE (runs_plain rfl) (Gives.p hE rfl) rfl ?_; clear hE a; intro a hE
        refine WL.nil ?_
        obtain ⟨q76, hq75, hq52⟩ := bindS hq52
        refine W.cut (fun a w => ∃ (q86 : List Int), ∃ (a87 : Option Addr), ∃ (c88 : Nat), ∃ (n90 : Nat), ∃ (cs91 : List Value), q86 = q76 ∧ Ev 1 (RI .i64) s cs91 q86 ∧ q86.length = n90 ∧ Rep a 35 [(0, .slice a0 x0.length c0), (3, .slice a87 n90 c88), (4, .int .i64 q65)] ∧ St w s (vecC 3 1 a87 c88 n90 cs91 :: R)) ?_ ?_
        · refine W.block ?_
          refine W.loop (fun m a w => ∃ (rest79 : List FleetTask) (k77 : Nat), ∃ (q86 : List Int), ∃ (a87 : Option Addr), ∃ (c88 : Nat), ∃ (n90 : Nat), ∃ (cs91 : List Value), rest79.length = m ∧ x0.drop k77 = rest79 ∧ Fishref2inOrder.loop2 q65 rest79 k77 q86 = some q76 ∧ Ev 1 (RI .i64) s cs91 q86 ∧ q86.length = n90 ∧ Rep a 35 [(0, .slice a0 x0.length c0), (3, .slice a87 n90 c88), (4, .int .i64 q65), (18, .slice a0 x0.length c0), (19, .int .i64 ((x0).length : Int)), (20, .int .i64 ((k77 : Nat) : Int))] ∧ St w s (vecC 3 1 a87 c88 n90 cs91 :: R)) (m := x0.length) ⟨x0, 0, q58, a59, c60, q58.length, cs63, rfl, rfl, hq75, h61, rfl, hE.pick _ ⟨rfl, rfl, rfl, rfl, rfl, rfl, trivial⟩, hS⟩ ?_
          clear hE hS a w hq75; rintro m83 a w ⟨rest79, k77, q86, a87, c88, n90, cs91, rfl, hd80, hq75, h89, rfl, hE, hS⟩
          refine W.gen fun K93 hK93 => ?_
          rcases rest79 with _ | ⟨x78, rest79⟩
          · have hlt81 := drop_nil hd80
            refine W.seq ?_
            refine W.region ?_
            refine WL.vS hS hE (runs_plain rfl) (Gives.p hE rfl) rfl ?_; clear hE a; intro a hE
            refine WL.nil ?_
            refine W.seq ?_
            refine W.condF hE rfl (decide_eq_false (by omega)) ?_
            subst hK93
            refine W.exit rfl ?_
            exact ⟨q86, a87, c88, q86.length, cs91, Option.some.inj hq75, h89, rfl, hE.pick _ ⟨rfl, rfl, rfl, trivial⟩, hS⟩
          · obtain ⟨hlt81, hx82, hd80⟩ := drop_cons hd80
            rw [Fishref2inOrder.loop2] at hq75
            refine W.seq ?_
            refine W.region ?_
            refine WL.vS hS hE (runs_plain rfl) (Gives.p hE rfl) rfl ?_; clear hE a; intro a hE
            refine WL.nil ?_
            refine W.seq ?_
            refine W.condT hE rfl (decide_eq_true (by omega)) ?_
            refine W.skip ?_
            refine W.seq ?_
            refine W.block ?_
            refine W.seq ?_
            refine W.region ?_
            refine WL.vS hS hE (runs_plain rfl) (Gives.p hE rfl) rfl ?_; clear hE a; intro a hE
            obtain ⟨cs94, hl95, hR96, hat97⟩ := h0.at hx82
            subst hR96
            refine WL.vS hS hE (runs_plain rfl) (Gives.idx hE k77 rfl rfl sl32 rfl hlt81 (h0.aok hlt81)) rfl ?_; clear hE a; intro a hE
            refine WL.vS hS hE (runs_plain rfl) (Gives.loadA hE rfl (fun w h => hat97 w _ h) ty78) rfl ?_; clear hE a; intro a hE
            refine WL.alloc hE hS (runs_plain rfl) zr78 rfl ?_; clear hE hS a w; intro b98 a w hE hS
            refine WL.vS hS hE (runs_plain rfl) (Gives.p hE rfl) rfl ?_; clear hE a; intro a hE
            refine WL.storeI hE hS 0 rfl (FleetTask.cells x78) (runs_plain rfl) rfl rfl rfl ty78 rfl rfl rfl rfl ?_; clear hE hS a w; intro a w hE hS
            refine WL.nil ?_
            refine W.seq ?_
            refine W.region ?_
            refine WL.vS hS hE (runs_plain rfl) (Gives.fld hE rfl fl78_2) rfl ?_; clear hE a; intro a hE
            refine WL.vS hS hE (runs_plain rfl) (Gives.loadB hE 0 rfl rfl rfl ty3) rfl ?_; clear hE a; intro a hE
            refine WL.vS hS hE (runs_plain rfl) (Gives.p hE rfl) rfl ?_; clear hE a; intro a hE
            refine WL.vS hS hE (runs_plain rfl) (Gives.p hE rfl) rfl ?_; clear hE a; intro a hE
            refine WL.nil ?_
            obtain ⟨q100, hq99, hq75⟩ := bindS hq75
            refine W.cut (fun a w => ∃ (q103 : List Int), ∃ (a104 : Option Addr), ∃ (c105 : Nat), ∃ (n107 : Nat), ∃ (cs108 : List Value), q103 = q100 ∧ Ev 1 (RI .i64) s cs108 q103 ∧ q103.length = n107 ∧ Rep a 35 [(0, .slice a0 x0.length c0), (3, .slice a104 n107 c105), (4, .int .i64 q65), (18, .slice a0 x0.length c0), (19, .int .i64 ((x0).length : Int)), (20, .int .i64 ((k77 : Nat) : Int))] ∧ St w s (pt b98 (.cells (FleetTask.cells x78).toArray 78 (0, 0)) :: vecC 3 1 a104 c105 n107 cs108 :: R)) ?_ ?_
            · refine W.gen fun K110 hK110 => ?_
              refine W.cond hE rfl (fun hc111 => ?_) (fun hc111 => ?_)
              · replace hq99 := iteT hc111 hq99
                refine W.region ?_
                refine WL.vS hS hE (runs_plain rfl) (Gives.p hE rfl) rfl ?_; clear hE a; intro a hE
                refine WL.vS hS hE (runs_plain rfl) (Gives.p hE rfl) rfl ?_; clear hE a; intro a hE
                refine WL.lit hE hS (e := 3) (es := 1) (vs := [(0, .int .i64 ((k77 : Nat) : Int))]) (cs := [.int .i64 ((k77 : Nat) : Int)]) (runs_plain rfl) rfl (by kernel_rfl) rfl ?_; clear hE hS a w; intro b112 a w hE hS
                obtain ⟨x113, hx114, hq99⟩ := bindS hq99
                refine WL.appD hE hS 1 (m := 1) (runs_plain rfl) rfl rfl rfl ap44 rfl h89 rfl (xs := [((k77 : Nat) : Int)]) (Ev.cons (c1 := [.int .i64 ((k77 : Nat) : Int)]) rfl rfl (Ev.nil)) rfl rfl hx114 rfl ?_; clear hE hS a w; intro a115 c116 cs117 a w h118 hE hS
                refine WL.vS hS hE (runs_plain rfl) (Gives.p hE rfl) rfl ?_; clear hE a; intro a hE
                refine WL.nil ?_
                subst hK110
                exact ⟨x113, a115, c116, x113.length, cs117, Option.some.inj hq99, h118, (rfl), hE.pick _ ⟨rfl, rfl, rfl, rfl, rfl, rfl, trivial⟩, hS⟩
              · replace hq99 := iteF hc111 hq99
                refine W.skip ?_
                subst hK110
                exact ⟨q86, a87, c88, q86.length, cs91, Option.some.inj hq99, h89, rfl, hE.pick _ ⟨rfl, rfl, rfl, rfl, rfl, rfl, trivial⟩, hS⟩
            · clear hE hS a w; rintro a w ⟨q103, a104, c105, n107, cs108, rfl, h106, rfl, hE, hS⟩
              refine W.region ?_
              refine WL.vS hS hE (runs_plain rfl) (Gives.inc hE rfl (by have := h0.small; omega)) rfl ?_; clear hE a; intro a hE
              refine WL.vS hS hE (runs_plain rfl) (Gives.p hE rfl) rfl ?_; clear hE a; intro a hE
              refine WL.nil ?_
              replace hS := hS.tail
              subst hK93
              exact ⟨rest79.length, Nat.lt_succ_self _, rest79, k77 + 1, q103, a104, c105, q103.length, cs108, rfl, hd80, hq75, h106, rfl, hE.pick _ ⟨rfl, rfl, rfl, rfl, rfl, rfl, trivial⟩, hS⟩
        · clear hE hS a w; rintro a w ⟨q86, a87, c88, n90, cs91, rfl, h89, rfl, hE, hS⟩
          refine W.region ?_
          refine WL.vS hS hE (runs_plain rfl) (Gives.p hE rfl) rfl ?_; clear hE a; intro a hE
          refine WL.vS hS hE (runs_plain rfl) (Gives.p hE rfl) rfl ?_; clear hE a; intro a hE
          refine WL.vS hS hE (runs_plain rfl) (Gives.p hE rfl) rfl ?_; clear hE a; intro a hE
          refine WL.nil ?_
          subst hK66
          exact ⟨n54, Nat.lt_succ_self _, n54, q86, (w64 (q65 + 1)), a87, c88, q86.length, cs91, rfl, hq52, h89, rfl, hE.pick _ ⟨rfl, rfl, rfl, trivial⟩, hS⟩
      · replace hq52 := iteF hc74 hq52
        subst hK66
        refine W.exit rfl ?_
        exact ⟨q58, q65, a59, c60, q58.length, cs63, Option.some.inj hq52, h61, rfl, hE.pick _ ⟨rfl, trivial⟩, hS⟩
  · clear hE hS a w; rintro a w ⟨q58, q65, a59, c60, n62, cs63, rfl, h61, rfl, hE, hS⟩
    dsimp only at hr
    refine W.seq ?_
    refine W.region ?_
    refine WL.vS hS hE (runs_plain rfl) (Gives.p hE rfl) rfl ?_; clear hE a; intro a hE
    refine WL.vS hS hE (runs_plain rfl) (Gives.p hE rfl) rfl ?_; clear hE a; intro a hE
    refine WL.nil ?_
    refine W.ret ?_
    refine finG (fn := Try.f65) (rs := [.tmp 2]) (vs := [_]) hE rfl ⟨rfl, trivial⟩ ?_
    obtain rfl := Option.some.inj hr
    exact ⟨a59, c60, q58.length, cs63, rfl, h61, rfl, hS⟩
end Go.Proofs.Ytfhkpdnohcidgaa
