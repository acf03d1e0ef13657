/- The walks of the functions that FleetCovers reaches: each call comes to what its mirror says. The conditions are those of each contract. -/
import Derived.Test.YtfhkpdnohcidgaaProg
import Derived.Test.YtfhkpdnohcidgaaFleetCoversM
import Derived.Test.YtfhkpdnohcidgaaFpMore
namespace Go.Proofs.Ytfhkpdnohcidgaa
open Go Go.Fp
theorem ap101 : apOk Try.prog 101 4 1 = true := by kernel_rfl
theorem ap25 : apOk Try.prog 25 44 1 = true := by kernel_rfl
theorem ap44 : apOk Try.prog 44 3 1 = true := by kernel_rfl
theorem ap98 : apOk Try.prog 98 101 1 = true := by kernel_rfl
theorem bd103 : bodied Try.prog 103 = true := by kernel_rfl
theorem bd104 : bodied Try.prog 104 = true := by kernel_rfl
theorem bd105 : bodied Try.prog 105 = true := by kernel_rfl
theorem bd108 : bodied Try.prog 108 = true := by kernel_rfl
theorem bd109 : bodied Try.prog 109 = true := by kernel_rfl
theorem bd110 : bodied Try.prog 110 = true := by kernel_rfl
theorem bd111 : bodied Try.prog 111 = true := by kernel_rfl
theorem bd112 : bodied Try.prog 112 = true := by kernel_rfl
theorem bd113 : bodied Try.prog 113 = true := by kernel_rfl
theorem bd129 : bodied Try.prog 129 = true := by kernel_rfl
theorem bd13 : bodied Try.prog 13 = true := by kernel_rfl
theorem bd130 : bodied Try.prog 130 = true := by kernel_rfl
theorem bd131 : bodied Try.prog 131 = true := by kernel_rfl
theorem bd132 : bodied Try.prog 132 = true := by kernel_rfl
theorem bd133 : bodied Try.prog 133 = true := by kernel_rfl
theorem bd15 : bodied Try.prog 15 = true := by kernel_rfl
theorem bd159 : bodied Try.prog 159 = true := by kernel_rfl
theorem bd160 : bodied Try.prog 160 = true := by kernel_rfl
theorem bd162 : bodied Try.prog 162 = true := by kernel_rfl
theorem bd17 : bodied Try.prog 17 = true := by kernel_rfl
theorem bd187 : bodied Try.prog 187 = true := by kernel_rfl
theorem bd196 : bodied Try.prog 196 = true := by kernel_rfl
theorem bd20 : bodied Try.prog 20 = true := by kernel_rfl
theorem bd21 : bodied Try.prog 21 = true := by kernel_rfl
theorem bd22 : bodied Try.prog 22 = true := by kernel_rfl
theorem bd23 : bodied Try.prog 23 = true := by kernel_rfl
theorem bd24 : bodied Try.prog 24 = true := by kernel_rfl
theorem bd25 : bodied Try.prog 25 = true := by kernel_rfl
theorem bd26 : bodied Try.prog 26 = true := by kernel_rfl
theorem bd30 : bodied Try.prog 30 = true := by kernel_rfl
theorem bd37 : bodied Try.prog 37 = true := by kernel_rfl
theorem bd45 : bodied Try.prog 45 = true := by kernel_rfl
theorem bd53 : bodied Try.prog 53 = true := by kernel_rfl
theorem bd54 : bodied Try.prog 54 = true := by kernel_rfl
theorem bd56 : bodied Try.prog 56 = true := by kernel_rfl
theorem bd60 : bodied Try.prog 60 = true := by kernel_rfl
theorem bd61 : bodied Try.prog 61 = true := by kernel_rfl
theorem bd62 : bodied Try.prog 62 = true := by kernel_rfl
theorem bd64 : bodied Try.prog 64 = true := by kernel_rfl
theorem bd68 : bodied Try.prog 68 = true := by kernel_rfl
theorem bd69 : bodied Try.prog 69 = true := by kernel_rfl
theorem bd70 : bodied Try.prog 70 = true := by kernel_rfl
theorem bd71 : bodied Try.prog 71 = true := by kernel_rfl
theorem bd72 : bodied Try.prog 72 = true := by kernel_rfl
theorem cp44 : cpOk Try.prog 44 3 1 = true := by kernel_rfl
theorem fl100_0 : fldOk Try.prog 100 0 0 = true := by kernel_rfl
theorem fl100_1 : fldOk Try.prog 100 1 1 = true := by kernel_rfl
theorem fl100_2 : fldOk Try.prog 100 2 2 = true := by kernel_rfl
theorem fl78_0 : fldOk Try.prog 78 0 0 = true := by kernel_rfl
theorem fl78_1 : fldOk Try.prog 78 1 1 = true := by kernel_rfl
theorem fl78_2 : fldOk Try.prog 78 2 2 = true := by kernel_rfl
theorem fl78_3 : fldOk Try.prog 78 3 3 = true := by kernel_rfl
theorem fl78_4 : fldOk Try.prog 78 4 4 = true := by kernel_rfl
theorem fl78_5 : fldOk Try.prog 78 5 5 = true := by kernel_rfl
theorem hu162 : (Try.prog.underlying 162).isSome = true := by kernel_rfl
theorem hu3 : (Try.prog.underlying 3).isSome = true := by kernel_rfl
theorem mixed : Try.prog.follows .mixedOrders = true := by kernel_rfl
theorem sl101 : slOk Try.prog 101 4 1 = true := by kernel_rfl
theorem sl25 : slOk Try.prog 25 44 1 = true := by kernel_rfl
theorem sl32 : slOk Try.prog 32 78 6 = true := by kernel_rfl
theorem sl44 : slOk Try.prog 44 3 1 = true := by kernel_rfl
theorem sl98 : slOk Try.prog 98 101 1 = true := by kernel_rfl
theorem ty101 : tyOk Try.prog 101 false 1 = true := by kernel_rfl
theorem ty25 : tyOk Try.prog 25 false 1 = true := by kernel_rfl
theorem ty3 : tyOk Try.prog 3 false 1 = true := by kernel_rfl
theorem ty32 : tyOk Try.prog 32 false 1 = true := by kernel_rfl
theorem ty4 : tyOk Try.prog 4 false 1 = true := by kernel_rfl
theorem ty44 : tyOk Try.prog 44 false 1 = true := by kernel_rfl
theorem ty66 : tyOk Try.prog 66 false 1 = true := by kernel_rfl
theorem ty78 : tyOk Try.prog 78 true 6 = true := by kernel_rfl
theorem ty96 : tyOk Try.prog 96 false 1 = true := by kernel_rfl
theorem ty98 : tyOk Try.prog 98 false 1 = true := by kernel_rfl
theorem ui162 : Try.prog.underlying 162 = some (.int .u64) := by kernel_rfl
theorem ui3 : Try.prog.underlying 3 = some (.int .i64) := by kernel_rfl
theorem zr101 : (Try.prog.info? 101).bind (fun i => i.zero.map fun z => z.cells.toList) = some [.slice none 0 0] := by kernel_rfl
theorem zr3 : (Try.prog.info? 3).bind (fun i => i.zero.map fun z => z.cells.toList) = some [.int .i64 0] := by kernel_rfl
theorem zr4 : (Try.prog.info? 4).bind (fun i => i.zero.map fun z => z.cells.toList) = some [.bool false] := by kernel_rfl
theorem zr66 : (Try.prog.info? 66).bind (fun i => i.zero.map fun z => z.cells.toList) = some [.nilFunc] := by kernel_rfl
theorem zr78 : (Try.prog.info? 78).bind (fun i => i.zero.map fun z => z.cells.toList) = some [.int .i64 0, .int .i64 0, .int .i64 0, .int .i64 0, .int .i64 0, .int .i64 0] := by kernel_rfl
theorem zr96 : (Try.prog.info? 96).bind (fun i => i.zero.map fun z => z.cells.toList) = some [.pointer none] := by kernel_rfl
set_option maxHeartbeats 8000000 in
theorem Fleetwithin_ok  {w : World} {s : Sg} {R : List HP} {x0 : Int} {x1 : Int} {x2 : Int} (hS : St w s (R))  {r : Bool} (hr : Fleetwithin x0 x1 x2 = r) :
    Calls Try.prog 37 [.int .i64 x0, .int .i64 x1, .int .i64 x2].toArray w (fun e w => e = .returned (.bool r) ∧ St w s (R)) := by
  refine enter Try.func37 rfl rfl rfl fun a hE => ?_
  rw [Fleetwithin] at hr
  refine W.seq ?_
  refine W.region ?_
  refine WL.vS hS hE (runs_plain rfl) (Gives.p hE rfl) rfl ?_; clear hE a; intro a hE
  refine WL.nil ?_
  refine W.seq ?_
  obtain ⟨q52, hq51, hr⟩ := bndS hr
  refine W.cut (fun a w => ∃ (q55 : Bool), q55 = q52 ∧ Rep a 15 [(6, .bool q55)] ∧ St w s (R)) ?_ ?_
  · refine W.gen fun K56 hK56 => ?_
    refine W.region ?_
    refine WL.vS hS hE (runs_plain rfl) (Gives.p hE rfl) rfl ?_; clear hE a; intro a hE
    refine WL.vS hS hE (runs_plain rfl) (Gives.p hE rfl) rfl ?_; clear hE a; intro a hE
    refine WL.vS hS hE (runs_plain rfl) (Gives.p hE rfl) rfl ?_; clear hE a; intro a hE
    refine WL.vS hS hE (runs_plain rfl) (Gives.p hE rfl) rfl ?_; clear hE a; intro a hE
    rcases Bool.eq_false_or_eq_true (decide (x0 ≥ x1)) with hg57 | hg57
    · replace hq51 := iteT hg57 hq51
      refine WL.vS hS hE (runs_if hE rfl rfl rfl hg57) (Gives.p hE rfl) rfl ?_; clear hE a; intro a hE
      refine WL.vS hS hE (runs_if hE rfl rfl rfl hg57) (Gives.p hE rfl) rfl ?_; clear hE a; intro a hE
      refine WL.vS hS hE (runs_if hE rfl rfl rfl hg57) (Gives.p hE rfl) rfl ?_; clear hE a; intro a hE
      refine WL.vS hS hE (runs_plain rfl) (Gives.pickT hE rfl hg57 rfl) rfl ?_; clear hE a; intro a hE
      refine WL.vS hS hE (runs_plain rfl) (Gives.p hE rfl) rfl ?_; clear hE a; intro a hE
      refine WL.nil ?_
      subst hK56
      exact ⟨decide (x0 ≤ x2), hq51, hE.pick _ ⟨rfl, trivial⟩, hS⟩
    · replace hq51 := iteF hg57 hq51
      refine WL.no hE (runs_not hE rfl rfl rfl (by rw [hg57]; decide)) rfl ?_; clear hE a; intro a hE
      refine WL.no hE (runs_not hE rfl rfl rfl (by rw [hg57]; decide)) rfl ?_; clear hE a; intro a hE
      refine WL.no hE (runs_not hE rfl rfl rfl (by rw [hg57]; decide)) rfl ?_; clear hE a; intro a hE
      refine WL.vS hS hE (runs_plain rfl) (Gives.pickF hE rfl hg57 rfl) rfl ?_; clear hE a; intro a hE
      refine WL.vS hS hE (runs_plain rfl) (Gives.p hE rfl) rfl ?_; clear hE a; intro a hE
      refine WL.nil ?_
      subst hK56
      exact ⟨false, hq51, hE.pick _ ⟨rfl, trivial⟩, hS⟩
  · clear hE hS a w; rintro a w ⟨q55, rfl, hE, hS⟩
    refine W.ret ?_
    refine finG (fn := Try.f37) (rs := [.tmp 6]) (vs := [_]) hE rfl ⟨rfl, trivial⟩ ?_
    subst hr
    exact ⟨rfl, hS⟩
set_option maxHeartbeats 8000000 in
theorem FleetCheckTasks_ok  {w : World} {s : Sg} {R : List HP} {x0 : List FleetTask} {a0 : Option Addr} {c0 : Nat} (hS : St w s (R)) (h0 : Sl 6 RFleetTask s a0 c0 x0) {r : Int} (hr : FleetCheckTasks x0 = r) :
    Calls Try.prog 54 [.slice a0 x0.length c0].toArray w (fun e w => e = .returned (.int .i64 r) ∧ St w s (R)) := by
  refine enter Try.func54 rfl rfl rfl fun a hE => ?_
  rw [FleetCheckTasks] at hr
  refine W.seq ?_
  refine W.region ?_
  refine WL.vS hS hE (runs_plain rfl) (Gives.p hE rfl) rfl ?_; clear hE a; intro a hE
  refine WL.nil ?_
  refine W.seq ?_
  refine W.seq ?_
  refine W.region ?_
  refine WL.vS hS hE (runs_plain rfl) (Gives.p hE rfl) rfl ?_; clear hE a; intro a hE
  refine WL.vS hS hE (runs_plain rfl) (Gives.len hE rfl sl32) rfl ?_; clear hE a; intro a hE
  refine WL.vS hS hE (runs_plain rfl) (Gives.p hE rfl) rfl ?_; clear hE a; intro a hE
  refine WL.nil ?_
  refine W.cond hE rfl (fun hc51 => ?_) (fun hc51 => ?_)
  · replace hr := iteT hc51 hr
    refine W.seq ?_
    refine W.region ?_
    refine WL.vS hS hE (runs_plain rfl) (Gives.p hE rfl) rfl ?_; clear hE a; intro a hE
    refine WL.nil ?_
    refine W.ret ?_
    refine finG (fn := Try.f54) (rs := [.tmp 2]) (vs := [_]) hE rfl ⟨rfl, trivial⟩ ?_
    subst hr
    exact ⟨rfl, hS⟩
  · replace hr := iteF hc51 hr
    refine W.skip ?_
    refine W.seq ?_
    refine W.seq ?_
    refine W.region ?_
    refine WL.vS hS hE (runs_plain rfl) (Gives.p hE rfl) rfl ?_; clear hE a; intro a hE
    refine WL.vS hS hE (runs_plain rfl) (Gives.len hE rfl sl32) rfl ?_; clear hE a; intro a hE
    refine WL.vS hS hE (runs_plain rfl) (Gives.p hE rfl) rfl ?_; clear hE a; intro a hE
    refine WL.nil ?_
    obtain ⟨q53, hq52, hr⟩ := bndS hr
    refine W.cut (fun a w => (.next ()) = q53 ∧ Rep a 55 [] ∧ St w s (R)) ?_ ?_
    · refine W.block ?_
      refine W.loop (fun m a w => ∃ (rest56 : List FleetTask) (k54 : Nat), rest56.length = m ∧ x0.drop k54 = rest56 ∧ FleetCheckTasks.loop1 rest56 = q53 ∧ Rep a 55 [(8, .slice a0 x0.length c0), (9, .int .i64 ((x0).length : Int)), (10, .int .i64 ((k54 : Nat) : Int))] ∧ St w s (R)) (m := x0.length) ⟨x0, 0, rfl, rfl, hq52, hE.pick _ ⟨rfl, rfl, rfl, trivial⟩, hS⟩ ?_
      clear hE hS a w hq52; rintro m60 a w ⟨rest56, k54, rfl, hd57, hq52, hE, hS⟩
      refine W.gen fun K63 hK63 => ?_
      rcases rest56 with _ | ⟨x55, rest56⟩
      · have hlt58 := drop_nil hd57
        refine W.seq ?_
        refine W.region ?_
        refine WL.vS hS hE (runs_plain rfl) (Gives.p hE rfl) rfl ?_; clear hE a; intro a hE
        refine WL.nil ?_
        refine W.seq ?_
        refine W.condF hE rfl (decide_eq_false (by omega)) ?_
        subst hK63
        refine W.exit rfl ?_
        exact ⟨hq52, hE.pick _ trivial, hS⟩
      · obtain ⟨hlt58, hx59, hd57⟩ := drop_cons hd57
        rw [FleetCheckTasks.loop1] at hq52
        refine W.seq ?_
        refine W.region ?_
        refine WL.vS hS hE (runs_plain rfl) (Gives.p hE rfl) rfl ?_; clear hE a; intro a hE
        refine WL.nil ?_
        refine W.seq ?_
        refine W.condT hE rfl (decide_eq_true (by omega)) ?_
        refine W.skip ?_
        refine W.seq ?_
        refine W.block ?_
        refine W.seq ?_
        refine W.region ?_
        obtain ⟨cs64, hl65, hR66, hat67⟩ := h0.at hx59
        subst hR66
        refine WL.vS hS hE (runs_plain rfl) (Gives.idx hE k54 rfl rfl sl32 rfl hlt58 (h0.aok hlt58)) rfl ?_; clear hE a; intro a hE
        refine WL.vS hS hE (runs_plain rfl) (Gives.loadA hE rfl (fun w h => hat67 w _ h) ty78) rfl ?_; clear hE a; intro a hE
        refine WL.alloc hE hS (runs_plain rfl) zr78 rfl ?_; clear hE hS a w; intro b68 a w hE hS
        refine WL.storeI hE hS 0 rfl (FleetTask.cells x55) (runs_plain rfl) rfl rfl rfl ty78 rfl rfl rfl rfl ?_; clear hE hS a w; intro a w hE hS
        refine WL.nil ?_
        refine W.block ?_
        refine W.seq ?_
        obtain ⟨q70, hq69, hq52⟩ := bndS hq52
        refine W.cut (fun a w => ∃ (q73 : Bool), q73 = q70 ∧ Rep a 55 [(4, .pointer (some ⟨b68, 0, none⟩)), (8, .slice a0 x0.length c0), (9, .int .i64 ((x0).length : Int)), (10, .int .i64 ((k54 : Nat) : Int)), (14, .bool q73)] ∧ St w s (pt b68 (.cells (FleetTask.cells x55).toArray 78 (0, 0)) :: R)) ?_ ?_
        · refine W.gen fun K74 hK74 => ?_
          refine W.region ?_
          refine WL.vS hS hE (runs_plain rfl) (Gives.fld hE rfl fl78_0) rfl ?_; clear hE a; intro a hE
          refine WL.vS hS hE (runs_plain rfl) (Gives.loadB hE 0 rfl rfl rfl ty3) rfl ?_; clear hE a; intro a hE
          refine WL.fnq hE (Fleetwithin_ok hS  rfl (r := Fleetwithin x55.From 0 11)) (runs_plain rfl) bd37 rfl rfl rfl ?_
          clear hE hS; rintro e w ⟨rfl, hS⟩; refine ⟨_, rfl, ?_⟩; clear a; intro a hE
          refine WL.vS hS hE (runs_plain rfl) (Gives.p hE rfl) rfl ?_; clear hE a; intro a hE
          refine WL.vS hS hE (runs_plain rfl) (Gives.p hE rfl) rfl ?_; clear hE a; intro a hE
          rcases Bool.eq_false_or_eq_true (!(Fleetwithin x55.From 0 11)) with hg75 | hg75
          · replace hq69 := iteT hg75 hq69
            refine WL.no hE (runs_not hE rfl rfl rfl (by rw [hg75]; decide)) rfl ?_; clear hE a; intro a hE
            refine WL.no hE (runs_not hE rfl rfl rfl (by rw [hg75]; decide)) rfl ?_; clear hE a; intro a hE
            refine WL.no hE (runs_not hE rfl rfl rfl (by rw [hg75]; decide)) rfl ?_; clear hE a; intro a hE
            refine WL.no hE (runs_not hE rfl rfl rfl (by rw [hg75]; decide)) rfl ?_; clear hE a; intro a hE
            refine WL.vS hS hE (runs_plain rfl) (Gives.pickT hE rfl hg75 rfl) rfl ?_; clear hE a; intro a hE
            refine WL.vS hS hE (runs_plain rfl) (Gives.p hE rfl) rfl ?_; clear hE a; intro a hE
            refine WL.no hE (runs_not hE rfl rfl rfl (by decide)) rfl ?_; clear hE a; intro a hE
            refine WL.no hE (runs_not hE rfl rfl rfl (by decide)) rfl ?_; clear hE a; intro a hE
            refine WL.no hE (runs_not hE rfl rfl rfl (by decide)) rfl ?_; clear hE a; intro a hE
            refine WL.no hE (runs_not hE rfl rfl rfl (by decide)) rfl ?_; clear hE a; intro a hE
            refine WL.vS hS hE (runs_plain rfl) (Gives.pickT hE rfl rfl rfl) rfl ?_; clear hE a; intro a hE
            refine WL.vS hS hE (runs_plain rfl) (Gives.p hE rfl) rfl ?_; clear hE a; intro a hE
            refine WL.no hE (runs_not hE rfl rfl rfl (by decide)) rfl ?_; clear hE a; intro a hE
            refine WL.no hE (runs_not hE rfl rfl rfl (by decide)) rfl ?_; clear hE a; intro a hE
            refine WL.no hE (runs_not hE rfl rfl rfl (by decide)) rfl ?_; clear hE a; intro a hE
            refine WL.no hE (runs_not hE rfl rfl rfl (by decide)) rfl ?_; clear hE a; intro a hE
            refine WL.vS hS hE (runs_plain rfl) (Gives.pickT hE rfl rfl rfl) rfl ?_; clear hE a; intro a hE
            refine WL.vS hS hE (runs_plain rfl) (Gives.p hE rfl) rfl ?_; clear hE a; intro a hE
            refine WL.nil ?_
            subst hK74
            exact ⟨true, hq69, hE.pick _ ⟨rfl, rfl, rfl, rfl, rfl, trivial⟩, hS⟩
          · replace hq69 := iteF hg75 hq69
            refine WL.vS hS hE (runs_if hE rfl rfl rfl hg75) (Gives.fld hE rfl fl78_1) rfl ?_; clear hE a; intro a hE
            refine WL.vS hS hE (runs_if hE rfl rfl rfl hg75) (Gives.loadB hE 0 rfl rfl rfl ty3) rfl ?_; clear hE a; intro a hE
            refine WL.fnq hE (Fleetwithin_ok hS  rfl (r := Fleetwithin x55.To 0 11)) (runs_if hE rfl rfl rfl hg75) bd37 rfl rfl rfl ?_
            clear hE hS; rintro e w ⟨rfl, hS⟩; refine ⟨_, rfl, ?_⟩; clear a; intro a hE
            refine WL.vS hS hE (runs_if hE rfl rfl rfl hg75) (Gives.p hE rfl) rfl ?_; clear hE a; intro a hE
            refine WL.vS hS hE (runs_plain rfl) (Gives.pickF hE rfl hg75 rfl) rfl ?_; clear hE a; intro a hE
            refine WL.vS hS hE (runs_plain rfl) (Gives.p hE rfl) rfl ?_; clear hE a; intro a hE
            rcases Bool.eq_false_or_eq_true (!(Fleetwithin x55.To 0 11)) with hg76 | hg76
            · replace hq69 := iteT hg76 hq69
              refine WL.no hE (runs_not hE rfl rfl rfl (by rw [hg76]; decide)) rfl ?_; clear hE a; intro a hE
              refine WL.no hE (runs_not hE rfl rfl rfl (by rw [hg76]; decide)) rfl ?_; clear hE a; intro a hE
              refine WL.no hE (runs_not hE rfl rfl rfl (by rw [hg76]; decide)) rfl ?_; clear hE a; intro a hE
              refine WL.no hE (runs_not hE rfl rfl rfl (by rw [hg76]; decide)) rfl ?_; clear hE a; intro a hE
              refine WL.vS hS hE (runs_plain rfl) (Gives.pickT hE rfl hg76 rfl) rfl ?_; clear hE a; intro a hE
              refine WL.vS hS hE (runs_plain rfl) (Gives.p hE rfl) rfl ?_; clear hE a; intro a hE
              refine WL.no hE (runs_not hE rfl rfl rfl (by decide)) rfl ?_; clear hE a; intro a hE
              refine WL.no hE (runs_not hE rfl rfl rfl (by decide)) rfl ?_; clear hE a; intro a hE
              refine WL.no hE (runs_not hE rfl rfl rfl (by decide)) rfl ?_; clear hE a; intro a hE
              refine WL.no hE (runs_not hE rfl rfl rfl (by decide)) rfl ?_; clear hE a; intro a hE
              refine WL.vS hS hE (runs_plain rfl) (Gives.pickT hE rfl rfl rfl) rfl ?_; clear hE a; intro a hE
              refine WL.vS hS hE (runs_plain rfl) (Gives.p hE rfl) rfl ?_; clear hE a; intro a hE
              refine WL.nil ?_
              subst hK74
              exact ⟨true, hq69, hE.pick _ ⟨rfl, rfl, rfl, rfl, rfl, trivial⟩, hS⟩
            · replace hq69 := iteF hg76 hq69
              refine WL.vS hS hE (runs_if hE rfl rfl rfl hg76) (Gives.fld hE rfl fl78_2) rfl ?_; clear hE a; intro a hE
              refine WL.vS hS hE (runs_if hE rfl rfl rfl hg76) (Gives.loadB hE 0 rfl rfl rfl ty3) rfl ?_; clear hE a; intro a hE
              refine WL.fnq hE (Fleetwithin_ok hS  rfl (r := Fleetwithin x55.Dep 0 28800)) (runs_if hE rfl rfl rfl hg76) bd37 rfl rfl rfl ?_
              clear hE hS; rintro e w ⟨rfl, hS⟩; refine ⟨_, rfl, ?_⟩; clear a; intro a hE
              refine WL.vS hS hE (runs_if hE rfl rfl rfl hg76) (Gives.p hE rfl) rfl ?_; clear hE a; intro a hE
              refine WL.vS hS hE (runs_plain rfl) (Gives.pickF hE rfl hg76 rfl) rfl ?_; clear hE a; intro a hE
              refine WL.vS hS hE (runs_plain rfl) (Gives.p hE rfl) rfl ?_; clear hE a; intro a hE
              rcases Bool.eq_false_or_eq_true (!(Fleetwithin x55.Dep 0 28800)) with hg77 | hg77
              · replace hq69 := iteT hg77 hq69
                refine WL.no hE (runs_not hE rfl rfl rfl (by rw [hg77]; decide)) rfl ?_; clear hE a; intro a hE
                refine WL.no hE (runs_not hE rfl rfl rfl (by rw [hg77]; decide)) rfl ?_; clear hE a; intro a hE
                refine WL.no hE (runs_not hE rfl rfl rfl (by rw [hg77]; decide)) rfl ?_; clear hE a; intro a hE
                refine WL.no hE (runs_not hE rfl rfl rfl (by rw [hg77]; decide)) rfl ?_; clear hE a; intro a hE
                refine WL.vS hS hE (runs_plain rfl) (Gives.pickT hE rfl hg77 rfl) rfl ?_; clear hE a; intro a hE
                refine WL.vS hS hE (runs_plain rfl) (Gives.p hE rfl) rfl ?_; clear hE a; intro a hE
                refine WL.nil ?_
                subst hK74
                exact ⟨true, hq69, hE.pick _ ⟨rfl, rfl, rfl, rfl, rfl, trivial⟩, hS⟩
              · replace hq69 := iteF hg77 hq69
                refine WL.vS hS hE (runs_if hE rfl rfl rfl hg77) (Gives.fld hE rfl fl78_3) rfl ?_; clear hE a; intro a hE
                refine WL.vS hS hE (runs_if hE rfl rfl rfl hg77) (Gives.loadB hE 0 rfl rfl rfl ty3) rfl ?_; clear hE a; intro a hE
                refine WL.fnq hE (Fleetwithin_ok hS  rfl (r := Fleetwithin x55.Arr 0 28800)) (runs_if hE rfl rfl rfl hg77) bd37 rfl rfl rfl ?_
                clear hE hS; rintro e w ⟨rfl, hS⟩; refine ⟨_, rfl, ?_⟩; clear a; intro a hE
                refine WL.vS hS hE (runs_if hE rfl rfl rfl hg77) (Gives.p hE rfl) rfl ?_; clear hE a; intro a hE
                refine WL.vS hS hE (runs_plain rfl) (Gives.pickF hE rfl hg77 rfl) rfl ?_; clear hE a; intro a hE
                refine WL.vS hS hE (runs_plain rfl) (Gives.p hE rfl) rfl ?_; clear hE a; intro a hE
                refine WL.nil ?_
                subst hK74
                exact ⟨!(Fleetwithin x55.Arr 0 28800), hq69, hE.pick _ ⟨rfl, rfl, rfl, rfl, rfl, trivial⟩, hS⟩
        · clear hE hS a w; rintro a w ⟨q73, rfl, hE, hS⟩
          refine W.cond hE rfl (fun hc78 => ?_) (fun hc78 => ?_)
          · replace hq52 := iteT hc78 hq52
            refine W.seq ?_
            refine W.region ?_
            refine WL.vS hS hE (runs_plain rfl) (Gives.p hE rfl) rfl ?_; clear hE a; intro a hE
            refine WL.nil ?_
            refine W.ret ?_
            subst hK63
            rw [← hq52] at hr
            dsimp only at hr
            refine finG (fn := Try.f54) (rs := [.tmp 2]) (vs := [_]) hE rfl ⟨rfl, trivial⟩ ?_
            subst hr
            replace hS := hS.tail
            exact ⟨rfl, hS⟩
          · replace hq52 := iteF hc78 hq52
            refine W.seq ?_
            refine W.region ?_
            refine WL.vS hS hE (runs_plain rfl) (Gives.fld hE rfl fl78_3) rfl ?_; clear hE a; intro a hE
            refine WL.vS hS hE (runs_plain rfl) (Gives.loadB hE 0 rfl rfl rfl ty3) rfl ?_; clear hE a; intro a hE
            refine WL.vS hS hE (runs_plain rfl) (Gives.fld hE rfl fl78_2) rfl ?_; clear hE a; intro a hE
            refine WL.vS hS hE (runs_plain rfl) (Gives.loadB hE 0 rfl rfl rfl ty3) rfl ?_; clear hE a; intro a hE
            refine WL.vS hS hE (runs_plain rfl) (Gives.p hE rfl) rfl ?_; clear hE a; intro a hE
            refine WL.vS hS hE (runs_plain rfl) (Gives.p hE rfl) rfl ?_; clear hE a; intro a hE
            refine WL.nil ?_
            refine W.cond hE rfl (fun hc79 => ?_) (fun hc79 => ?_)
            · replace hq52 := iteT hc79 hq52
              refine W.seq ?_
              refine W.region ?_
              refine WL.vS hS hE (runs_plain rfl) (Gives.p hE rfl) rfl ?_; clear hE a; intro a hE
              refine WL.nil ?_
              refine W.ret ?_
              subst hK63
              rw [← hq52] at hr
              dsimp only at hr
              refine finG (fn := Try.f54) (rs := [.tmp 2]) (vs := [_]) hE rfl ⟨rfl, trivial⟩ ?_
              subst hr
              replace hS := hS.tail
              exact ⟨rfl, hS⟩
            · replace hq52 := iteF hc79 hq52
              refine W.seq ?_
              obtain ⟨q81, hq80, hq52⟩ := bndS hq52
              refine W.cut (fun a w => ∃ (q84 : Bool), q84 = q81 ∧ Rep a 55 [(8, .slice a0 x0.length c0), (9, .int .i64 ((x0).length : Int)), (10, .int .i64 ((k54 : Nat) : Int)), (43, .bool q84)] ∧ St w s (pt b68 (.cells (FleetTask.cells x55).toArray 78 (0, 0)) :: R)) ?_ ?_
              · refine W.gen fun K85 hK85 => ?_
                refine W.region ?_
                refine WL.vS hS hE (runs_plain rfl) (Gives.fld hE rfl fl78_4) rfl ?_; clear hE a; intro a hE
                refine WL.vS hS hE (runs_plain rfl) (Gives.loadB hE 0 rfl rfl rfl ty3) rfl ?_; clear hE a; intro a hE
                refine WL.fnq hE (Fleetwithin_ok hS  rfl (r := Fleetwithin x55.Km 0 10000)) (runs_plain rfl) bd37 rfl rfl rfl ?_
                clear hE hS; rintro e w ⟨rfl, hS⟩; refine ⟨_, rfl, ?_⟩; clear a; intro a hE
                refine WL.vS hS hE (runs_plain rfl) (Gives.p hE rfl) rfl ?_; clear hE a; intro a hE
                refine WL.vS hS hE (runs_plain rfl) (Gives.p hE rfl) rfl ?_; clear hE a; intro a hE
                rcases Bool.eq_false_or_eq_true (!(Fleetwithin x55.Km 0 10000)) with hg86 | hg86
                · replace hq80 := iteT hg86 hq80
                  refine WL.no hE (runs_not hE rfl rfl rfl (by rw [hg86]; decide)) rfl ?_; clear hE a; intro a hE
                  refine WL.no hE (runs_not hE rfl rfl rfl (by rw [hg86]; decide)) rfl ?_; clear hE a; intro a hE
                  refine WL.no hE (runs_not hE rfl rfl rfl (by rw [hg86]; decide)) rfl ?_; clear hE a; intro a hE
                  refine WL.no hE (runs_not hE rfl rfl rfl (by rw [hg86]; decide)) rfl ?_; clear hE a; intro a hE
                  refine WL.vS hS hE (runs_plain rfl) (Gives.pickT hE rfl hg86 rfl) rfl ?_; clear hE a; intro a hE
                  refine WL.vS hS hE (runs_plain rfl) (Gives.p hE rfl) rfl ?_; clear hE a; intro a hE
                  refine WL.nil ?_
                  subst hK85
                  exact ⟨true, hq80, hE.pick _ ⟨rfl, rfl, rfl, rfl, trivial⟩, hS⟩
                · replace hq80 := iteF hg86 hq80
                  refine WL.vS hS hE (runs_if hE rfl rfl rfl hg86) (Gives.fld hE rfl fl78_5) rfl ?_; clear hE a; intro a hE
                  refine WL.vS hS hE (runs_if hE rfl rfl rfl hg86) (Gives.loadB hE 0 rfl rfl rfl ty3) rfl ?_; clear hE a; intro a hE
                  refine WL.fnq hE (Fleetwithin_ok hS  rfl (r := Fleetwithin x55.Units 1 4)) (runs_if hE rfl rfl rfl hg86) bd37 rfl rfl rfl ?_
                  clear hE hS; rintro e w ⟨rfl, hS⟩; refine ⟨_, rfl, ?_⟩; clear a; intro a hE
                  refine WL.vS hS hE (runs_if hE rfl rfl rfl hg86) (Gives.p hE rfl) rfl ?_; clear hE a; intro a hE
                  refine WL.vS hS hE (runs_plain rfl) (Gives.pickF hE rfl hg86 rfl) rfl ?_; clear hE a; intro a hE
                  refine WL.vS hS hE (runs_plain rfl) (Gives.p hE rfl) rfl ?_; clear hE a; intro a hE
                  refine WL.nil ?_
                  subst hK85
                  exact ⟨!(Fleetwithin x55.Units 1 4), hq80, hE.pick _ ⟨rfl, rfl, rfl, rfl, trivial⟩, hS⟩
              · clear hE hS a w; rintro a w ⟨q84, rfl, hE, hS⟩
                refine W.cond hE rfl (fun hc87 => ?_) (fun hc87 => ?_)
                · replace hq52 := iteT hc87 hq52
                  refine W.seq ?_
                  refine W.region ?_
                  refine WL.vS hS hE (runs_plain rfl) (Gives.p hE rfl) rfl ?_; clear hE a; intro a hE
                  refine WL.nil ?_
                  refine W.ret ?_
                  subst hK63
                  rw [← hq52] at hr
                  dsimp only at hr
                  refine finG (fn := Try.f54) (rs := [.tmp 2]) (vs := [_]) hE rfl ⟨rfl, trivial⟩ ?_
                  subst hr
                  replace hS := hS.tail
                  exact ⟨rfl, hS⟩
                · replace hq52 := iteF hc87 hq52
                  refine W.skip ?_
                  refine W.region ?_
                  refine WL.vS hS hE (runs_plain rfl) (Gives.inc hE rfl (by have := h0.small; omega)) rfl ?_; clear hE a; intro a hE
                  refine WL.vS hS hE (runs_plain rfl) (Gives.p hE rfl) rfl ?_; clear hE a; intro a hE
                  refine WL.nil ?_
                  replace hS := hS.tail
                  subst hK63
                  exact ⟨rest56.length, Nat.lt_succ_self _, rest56, k54 + 1, rfl, hd57, hq52, hE.pick _ ⟨rfl, rfl, rfl, trivial⟩, hS⟩
    · clear hE hS a w; rintro a w ⟨rfl, hE, hS⟩
      dsimp only at hr
      refine W.seq ?_
      refine W.region ?_
      refine WL.vS hS hE (runs_plain rfl) (Gives.p hE rfl) rfl ?_; clear hE a; intro a hE
      refine WL.nil ?_
      refine W.ret ?_
      refine finG (fn := Try.f54) (rs := [.tmp 2]) (vs := [_]) hE rfl ⟨rfl, trivial⟩ ?_
      subst hr
      exact ⟨rfl, hS⟩
set_option maxHeartbeats 8000000 in
theorem FleetcheckTurn_ok  {w : World} {s : Sg} {R : List HP} {x0 : List FleetTask} {a0 : Option Addr} {c0 : Nat} {x1 : Int} (hS : St w s (R)) (h0 : Sl 6 RFleetTask s a0 c0 x0) {r : Int} (hr : FleetcheckTurn x0 x1 = r) :
    Calls Try.prog 61 [.slice a0 x0.length c0, .int .i64 x1].toArray w (fun e w => e = .returned (.int .i64 r) ∧ St w s (R)) := by
  refine enter Try.func61 rfl rfl rfl fun a hE => ?_
  rw [FleetcheckTurn] at hr
  refine W.seq ?_
  refine W.region ?_
  refine WL.vS hS hE (runs_plain rfl) (Gives.p hE rfl) rfl ?_; clear hE a; intro a hE
  refine WL.nil ?_
  refine W.seq ?_
  refine W.seq ?_
  refine W.region ?_
  refine WL.vS hS hE (runs_plain rfl) (Gives.p hE rfl) rfl ?_; clear hE a; intro a hE
  refine WL.fnq hE (FleetCheckTasks_ok hS h0 rfl (r := FleetCheckTasks x0)) (runs_plain rfl) bd54 rfl rfl rfl ?_
  clear hE hS; rintro e w ⟨rfl, hS⟩; refine ⟨_, rfl, ?_⟩; clear a; intro a hE
  refine WL.vS hS hE (runs_plain rfl) (Gives.p hE rfl) rfl ?_; clear hE a; intro a hE
  refine WL.nil ?_
  refine W.seq ?_
  refine W.region ?_
  refine WL.vS hS hE (runs_plain rfl) (Gives.p hE rfl) rfl ?_; clear hE a; intro a hE
  refine WL.vS hS hE (runs_plain rfl) (Gives.p hE rfl) rfl ?_; clear hE a; intro a hE
  refine WL.nil ?_
  refine W.cond hE rfl (fun hc51 => ?_) (fun hc51 => ?_)
  · replace hr := iteT hc51 hr
    refine W.seq ?_
    refine W.region ?_
    refine WL.vS hS hE (runs_plain rfl) (Gives.p hE rfl) rfl ?_; clear hE a; intro a hE
    refine WL.vS hS hE (runs_plain rfl) (Gives.p hE rfl) rfl ?_; clear hE a; intro a hE
    refine WL.nil ?_
    refine W.ret ?_
    refine finG (fn := Try.f61) (rs := [.tmp 4]) (vs := [_]) hE rfl ⟨rfl, trivial⟩ ?_
    subst hr
    exact ⟨rfl, hS⟩
  · replace hr := iteF hc51 hr
    refine W.skip ?_
    refine W.seq ?_
    refine W.seq ?_
    refine W.region ?_
    refine WL.vS hS hE (runs_plain rfl) (Gives.p hE rfl) rfl ?_; clear hE a; intro a hE
    refine WL.fnq hE (Fleetwithin_ok hS  rfl (r := Fleetwithin x1 0 28800)) (runs_plain rfl) bd37 rfl rfl rfl ?_
    clear hE hS; rintro e w ⟨rfl, hS⟩; refine ⟨_, rfl, ?_⟩; clear a; intro a hE
    refine WL.vS hS hE (runs_plain rfl) (Gives.p hE rfl) rfl ?_; clear hE a; intro a hE
    refine WL.nil ?_
    refine W.cond hE rfl (fun hc52 => ?_) (fun hc52 => ?_)
    · replace hr := iteT hc52 hr
      refine W.seq ?_
      refine W.region ?_
      refine WL.vS hS hE (runs_plain rfl) (Gives.p hE rfl) rfl ?_; clear hE a; intro a hE
      refine WL.nil ?_
      refine W.ret ?_
      refine finG (fn := Try.f61) (rs := [.tmp 4]) (vs := [_]) hE rfl ⟨rfl, trivial⟩ ?_
      subst hr
      exact ⟨rfl, hS⟩
    · replace hr := iteF hc52 hr
      refine W.skip ?_
      refine W.seq ?_
      refine W.region ?_
      refine WL.vS hS hE (runs_plain rfl) (Gives.p hE rfl) rfl ?_; clear hE a; intro a hE
      refine WL.nil ?_
      refine W.ret ?_
      refine finG (fn := Try.f61) (rs := [.tmp 4]) (vs := [_]) hE rfl ⟨rfl, trivial⟩ ?_
      subst hr
      exact ⟨rfl, hS⟩
set_option maxHeartbeats 8000000 in
theorem FleetcheckSecs_1_ok  {w : World} {s : Sg} {R : List HP} {x0 : List Int} {a0 : Option Addr} {c0 : Nat} (hS : St w s (R)) (_h0 : Sl 1 (RI .i64) s a0 c0 x0) {r : Bool} (hr : FleetcheckSecs_1 x0 = r) :
    Calls Try.prog 109 [.slice a0 x0.length c0].toArray w (fun e w => e = .returned (.bool r) ∧ St w s (R)) := by
  refine enter Try.func109 rfl rfl rfl fun a hE => ?_
  rw [FleetcheckSecs_1] at hr
  refine W.seq ?_
  refine W.region ?_
  refine WL.vS hS hE (runs_plain rfl) (Gives.p hE rfl) rfl ?_; clear hE a; intro a hE
  refine WL.nil ?_
  refine W.seq ?_
  refine W.region ?_
  refine WL.vS hS hE (runs_plain rfl) (Gives.p hE rfl) rfl ?_; clear hE a; intro a hE
  refine WL.vS hS hE (runs_plain rfl) (Gives.len hE rfl sl44) rfl ?_; clear hE a; intro a hE
  refine WL.vS hS hE (runs_plain rfl) (Gives.p hE rfl) rfl ?_; clear hE a; intro a hE
  refine WL.vS hS hE (runs_plain rfl) (Gives.p hE rfl) rfl ?_; clear hE a; intro a hE
  refine WL.nil ?_
  refine W.ret ?_
  refine finG (fn := Try.f109) (rs := [.tmp 2]) (vs := [_]) hE rfl ⟨rfl, trivial⟩ ?_
  subst hr
  exact ⟨rfl, hS⟩
set_option maxHeartbeats 8000000 in
theorem SlicesIndexFuncLLint_v1_ok  {w : World} {s : Sg} {R : List HP} {x0 : List (List Int)} {a0 : Option Addr} {c0 : Nat} (hS : St w s (R)) (h0 : Sl 1 (RL 1 (RI .i64)) s a0 c0 x0) {r : Int} (hr : SlicesIndexFuncLLint_v1 x0 = r) :
    Calls Try.prog 131 [.slice a0 x0.length c0, .func (.func 109) #[] #[]].toArray w (fun e w => e = .returned (.int .i64 r) ∧ St w s (R)) := by
  refine enter Try.func131 rfl rfl rfl fun a hE => ?_
  rw [SlicesIndexFuncLLint_v1] at hr
  refine W.seq ?_
  refine W.region ?_
  refine WL.vS hS hE (runs_plain rfl) (Gives.p hE rfl) rfl ?_; clear hE a; intro a hE
  refine WL.nil ?_
  refine W.seq ?_
  refine W.seq ?_
  refine W.region ?_
  refine WL.vS hS hE (runs_plain rfl) (Gives.p hE rfl) rfl ?_; clear hE a; intro a hE
  refine WL.vS hS hE (runs_plain rfl) (Gives.len hE rfl sl25) rfl ?_; clear hE a; intro a hE
  refine WL.vS hS hE (runs_plain rfl) (Gives.p hE rfl) rfl ?_; clear hE a; intro a hE
  refine WL.nil ?_
  obtain ⟨q52, hq51, hr⟩ := bndS hr
  refine W.cut (fun a w => (.next ()) = q52 ∧ Rep a 19 [] ∧ St w s (R)) ?_ ?_
  · refine W.block ?_
    refine W.loop (fun m a w => ∃ (rest55 : List (List Int)) (k53 : Nat), rest55.length = m ∧ x0.drop k53 = rest55 ∧ SlicesIndexFuncLLint_v1.loop1 rest55 k53 = q52 ∧ Rep a 19 [(0, .slice a0 x0.length c0), (1, .func (.func 109) #[] #[]), (7, .int .i64 ((x0).length : Int)), (8, .int .i64 ((k53 : Nat) : Int))] ∧ St w s (R)) (m := x0.length) ⟨x0, 0, rfl, rfl, hq51, hE.pick _ ⟨rfl, rfl, rfl, rfl, trivial⟩, hS⟩ ?_
    clear hE hS a w hq51; rintro m59 a w ⟨rest55, k53, rfl, hd56, hq51, hE, hS⟩
    refine W.gen fun K62 hK62 => ?_
    rcases rest55 with _ | ⟨x54, rest55⟩
    · have hlt57 := drop_nil hd56
      refine W.seq ?_
      refine W.region ?_
      refine WL.vS hS hE (runs_plain rfl) (Gives.p hE rfl) rfl ?_; clear hE a; intro a hE
      refine WL.nil ?_
      refine W.seq ?_
      refine W.condF hE rfl (decide_eq_false (by omega)) ?_
      subst hK62
      refine W.exit rfl ?_
      exact ⟨hq51, hE.pick _ trivial, hS⟩
    · obtain ⟨hlt57, hx58, hd56⟩ := drop_cons hd56
      rw [SlicesIndexFuncLLint_v1.loop1] at hq51
      refine W.seq ?_
      refine W.region ?_
      refine WL.vS hS hE (runs_plain rfl) (Gives.p hE rfl) rfl ?_; clear hE a; intro a hE
      refine WL.nil ?_
      refine W.seq ?_
      refine W.condT hE rfl (decide_eq_true (by omega)) ?_
      refine W.skip ?_
      refine W.seq ?_
      refine W.block ?_
      refine W.seq ?_
      refine W.region ?_
      refine WL.vS hS hE (runs_plain rfl) (Gives.p hE rfl) rfl ?_; clear hE a; intro a hE
      refine WL.vS hS hE (runs_plain rfl) (Gives.p hE rfl) rfl ?_; clear hE a; intro a hE
      refine WL.nil ?_
      refine W.seq ?_
      refine W.region ?_
      refine WL.vS hS hE (runs_plain rfl) (Gives.p hE rfl) rfl ?_; clear hE a; intro a hE
      refine WL.vS hS hE (runs_plain rfl) (Gives.p hE rfl) rfl ?_; clear hE a; intro a hE
      refine WL.vS hS hE (runs_plain rfl) (Gives.p hE rfl) rfl ?_; clear hE a; intro a hE
      obtain ⟨cs63, hl64, hR65, hat66⟩ := h0.at hx58
      obtain ⟨a67, c68, rfl, h69⟩ := hR65
      refine WL.vS hS hE (runs_plain rfl) (Gives.idx hE k53 rfl rfl sl25 rfl hlt57 (h0.aok hlt57)) rfl ?_; clear hE a; intro a hE
      refine WL.vS hS hE (runs_plain rfl) (Gives.load1 hE rfl (fun w h => hat66 w _ h) ty44) rfl ?_; clear hE a; intro a hE
      refine WL.fnw hE (FleetcheckSecs_1_ok hS h69 rfl (r := FleetcheckSecs_1 x54)) rfl (runs_plain rfl) bd109 rfl rfl rfl ?_
      clear hE hS; rintro e w ⟨rfl, hS⟩; refine ⟨_, rfl, ?_⟩; clear a; intro a hE
      refine WL.nil ?_
      refine W.cond hE rfl (fun hc70 => ?_) (fun hc70 => ?_)
      · replace hq51 := iteT hc70 hq51
        refine W.seq ?_
        refine W.region ?_
        refine WL.vS hS hE (runs_plain rfl) (Gives.p hE rfl) rfl ?_; clear hE a; intro a hE
        refine WL.vS hS hE (runs_plain rfl) (Gives.p hE rfl) rfl ?_; clear hE a; intro a hE
        refine WL.nil ?_
        refine W.ret ?_
        subst hK62
        rw [← hq51] at hr
        dsimp only at hr
        refine finG (fn := Try.f131) (rs := [.tmp 4]) (vs := [_]) hE rfl ⟨rfl, trivial⟩ ?_
        subst hr
        exact ⟨rfl, hS⟩
      · replace hq51 := iteF hc70 hq51
        refine W.skip ?_
        refine W.region ?_
        refine WL.vS hS hE (runs_plain rfl) (Gives.inc hE rfl (by have := h0.small; omega)) rfl ?_; clear hE a; intro a hE
        refine WL.vS hS hE (runs_plain rfl) (Gives.p hE rfl) rfl ?_; clear hE a; intro a hE
        refine WL.nil ?_
        subst hK62
        exact ⟨rest55.length, Nat.lt_succ_self _, rest55, k53 + 1, rfl, hd56, hq51, hE.pick _ ⟨rfl, rfl, rfl, rfl, trivial⟩, hS⟩
  · clear hE hS a w; rintro a w ⟨rfl, hE, hS⟩
    dsimp only at hr
    refine W.seq ?_
    refine W.region ?_
    refine WL.vS hS hE (runs_plain rfl) (Gives.p hE rfl) rfl ?_; clear hE a; intro a hE
    refine WL.nil ?_
    refine W.ret ?_
    refine finG (fn := Try.f131) (rs := [.tmp 4]) (vs := [_]) hE rfl ⟨rfl, trivial⟩ ?_
    subst hr
    exact ⟨rfl, hS⟩
set_option maxHeartbeats 8000000 in
theorem SlicesContainsFuncLLint_v1_ok  {w : World} {s : Sg} {R : List HP} {x0 : List (List Int)} {a0 : Option Addr} {c0 : Nat} (hS : St w s (R)) (h0 : Sl 1 (RL 1 (RI .i64)) s a0 c0 x0) {r : Bool} (hr : SlicesContainsFuncLLint_v1 x0 = r) :
    Calls Try.prog 108 [.slice a0 x0.length c0, .func (.func 109) #[] #[]].toArray w (fun e w => e = .returned (.bool r) ∧ St w s (R)) := by
  refine enter Try.func108 rfl rfl rfl fun a hE => ?_
  rw [SlicesContainsFuncLLint_v1] at hr
  refine W.seq ?_
  refine W.region ?_
  refine WL.vS hS hE (runs_plain rfl) (Gives.p hE rfl) rfl ?_; clear hE a; intro a hE
  refine WL.nil ?_
  refine W.seq ?_
  refine W.region ?_
  refine WL.vS hS hE (runs_plain rfl) (Gives.p hE rfl) rfl ?_; clear hE a; intro a hE
  refine WL.vS hS hE (runs_plain rfl) (Gives.p hE rfl) rfl ?_; clear hE a; intro a hE
  refine WL.fnq hE (SlicesIndexFuncLLint_v1_ok hS h0 rfl (r := SlicesIndexFuncLLint_v1 x0)) (runs_plain rfl) bd131 rfl rfl rfl ?_
  clear hE hS; rintro e w ⟨rfl, hS⟩; refine ⟨_, rfl, ?_⟩; clear a; intro a hE
  refine WL.vS hS hE (runs_plain rfl) (Gives.p hE rfl) rfl ?_; clear hE a; intro a hE
  refine WL.vS hS hE (runs_plain rfl) (Gives.p hE rfl) rfl ?_; clear hE a; intro a hE
  refine WL.nil ?_
  refine W.ret ?_
  refine finG (fn := Try.f108) (rs := [.tmp 4]) (vs := [_]) hE rfl ⟨rfl, trivial⟩ ?_
  subst hr
  exact ⟨rfl, hS⟩
set_option maxHeartbeats 8000000 in
theorem FleetcheckSecs_2_v1_ok  {w : World} {s : Sg} {R : List HP} {pb0 : Nat} {x0 : FleetTask} {y0 : List (List Int)} {a_y0_0 : Option Addr} {c_y0_0 : Nat} (hS : St w s (pt pb0 (.cells #[.slice a_y0_0 y0.length c_y0_0] 25 (0, 0)) :: R)) (h_y0_0 : Sl 1 (RL 1 (RI .i64)) s a_y0_0 c_y0_0 y0) {r : Bool} (hr : FleetcheckSecs_2_v1 x0 y0 = some r) :
    Calls Try.prog 111 [.agg (FleetTask.cells x0).toArray, .pointer (some ⟨pb0, 0, none⟩)].toArray w (fun e w => e = .returned (.bool r) ∧ St w s (pt pb0 (.cells #[.slice a_y0_0 y0.length c_y0_0] 25 (0, 0)) :: R)) := by
  refine enter Try.func111 rfl rfl rfl fun a hE => ?_
  rw [FleetcheckSecs_2_v1] at hr
  refine W.seq ?_
  refine W.region ?_
  refine WL.box hE hS (runs_plain rfl) rfl rfl rfl ?_; clear hE hS a w; intro b51 a w hE hS
  refine WL.vS hS hE (runs_plain rfl) (Gives.p hE rfl) rfl ?_; clear hE a; intro a hE
  refine WL.nil ?_
  refine W.seq ?_
  refine W.regionQ (C := fun w => St w s (pt b51 (.cells (FleetTask.cells x0).toArray 78 (0, 0)) :: pt pb0 (.cells #[.slice a_y0_0 y0.length c_y0_0] 25 (0, 0)) :: R)) mixed (by kernel_rfl) hS.drew ?_
  refine QL.v hE (runs_plain rfl) (Gives.loadB hE 1 rfl rfl rfl ty25) rfl ?_; clear hE a; intro a hE
  refine QL.v hE (runs_plain rfl) (Gives.fld hE rfl fl78_0) rfl ?_; clear hE a; intro a hE
  refine QL.v hE (runs_plain rfl) (Gives.loadB hE 0 rfl rfl rfl ty3) rfl ?_; clear hE a; intro a hE
  obtain ⟨x52, hx53, hr⟩ := bindS hr
  obtain ⟨hi54, hlt55, hy56⟩ := gx_some hx53
  obtain ⟨cs57, hl58, hR59, hat60⟩ := h_y0_0.at hy56
  obtain ⟨a61, c62, rfl, h63⟩ := hR59
  refine QL.v hE (runs_plain rfl) (Gives.idx hE (x0.From).toNat rfl rfl sl25 hi54 hlt55 (h_y0_0.aok hlt55)) rfl ?_; clear hE a; intro a hE
  refine QL.v hE (runs_plain rfl) (Gives.load1 hE rfl (fun w h => hat60 w _ h) ty44) rfl ?_; clear hE a; intro a hE
  refine QL.v hE (runs_plain rfl) (Gives.fld hE rfl fl78_1) rfl ?_; clear hE a; intro a hE
  refine QL.v hE (runs_plain rfl) (Gives.loadB hE 0 rfl rfl rfl ty3) rfl ?_; clear hE a; intro a hE
  obtain ⟨x64, hx65, hr⟩ := bindS hr
  obtain ⟨hi66, hlt67, hy68⟩ := gx_some hx65
  obtain ⟨cs69, hl70, hR71, hat72⟩ := h63.at hy68
  subst hR71
  refine QL.v hE (runs_plain rfl) (Gives.idx hE (x0.To).toNat rfl rfl sl44 hi66 hlt67 (h63.aok hlt67)) rfl ?_; clear hE a; intro a hE
  refine QL.v hE (runs_plain rfl) (Gives.load1 hE rfl (fun w h => hat72 w _ h) ty3) rfl ?_; clear hE a; intro a hE
  refine QL.v hE (runs_plain rfl) (Gives.fld hE rfl fl78_3) rfl ?_; clear hE a; intro a hE
  refine QL.v hE (runs_plain rfl) (Gives.loadB hE 0 rfl rfl rfl ty3) rfl ?_; clear hE a; intro a hE
  refine QL.v hE (runs_plain rfl) (Gives.fld hE rfl fl78_2) rfl ?_; clear hE a; intro a hE
  refine QL.v hE (runs_plain rfl) (Gives.loadB hE 0 rfl rfl rfl ty3) rfl ?_; clear hE a; intro a hE
  refine QL.v hE (runs_plain rfl) (Gives.p hE rfl) rfl ?_; clear hE a; intro a hE
  refine QL.v hE (runs_plain rfl) (Gives.p hE rfl) rfl ?_; clear hE a; intro a hE
  refine QL.v hE (runs_plain rfl) (Gives.p hE rfl) rfl ?_; clear hE a; intro a hE
  refine QL.nil ?_; clear hS w; intro w hS
  refine W.ret ?_
  refine finG (fn := Try.f111) (rs := [.tmp 3]) (vs := [_]) hE rfl ⟨rfl, trivial⟩ ?_
  obtain rfl := Option.some.inj hr
  replace hS := hS.tail
  exact ⟨rfl, hS⟩
set_option maxHeartbeats 8000000 in
theorem SlicesIndexFuncLfleetTask_v1_ok  {w : World} {s : Sg} {R : List HP} {pb0 : Nat} {x0 : List FleetTask} {a0 : Option Addr} {c0 : Nat} {y0 : List (List Int)} {a_y0_0 : Option Addr} {c_y0_0 : Nat} (hS : St w s (pt pb0 (.cells #[.slice a_y0_0 y0.length c_y0_0] 25 (0, 0)) :: R)) (h0 : Sl 6 RFleetTask s a0 c0 x0) (h_y0_0 : Sl 1 (RL 1 (RI .i64)) s a_y0_0 c_y0_0 y0) {r : Int} (hr : SlicesIndexFuncLfleetTask_v1 x0 y0 = some r) :
    Calls Try.prog 132 [.slice a0 x0.length c0, .func (.func 111) #[] #[.pointer (some ⟨pb0, 0, none⟩)]].toArray w (fun e w => e = .returned (.int .i64 r) ∧ St w s (pt pb0 (.cells #[.slice a_y0_0 y0.length c_y0_0] 25 (0, 0)) :: R)) := by
  refine enter Try.func132 rfl rfl rfl fun a hE => ?_
  rw [SlicesIndexFuncLfleetTask_v1] at hr
  refine W.seq ?_
  refine W.region ?_
  refine WL.vS hS hE (runs_plain rfl) (Gives.p hE rfl) rfl ?_; clear hE a; intro a hE
  refine WL.nil ?_
  refine W.seq ?_
  refine W.seq ?_
  refine W.region ?_
  refine WL.vS hS hE (runs_plain rfl) (Gives.p hE rfl) rfl ?_; clear hE a; intro a hE
  refine WL.vS hS hE (runs_plain rfl) (Gives.len hE rfl sl32) rfl ?_; clear hE a; intro a hE
  refine WL.vS hS hE (runs_plain rfl) (Gives.p hE rfl) rfl ?_; clear hE a; intro a hE
  refine WL.nil ?_
  obtain ⟨q52, hq51, hr⟩ := bindS hr
  refine W.cut (fun a w => (.next ()) = q52 ∧ Rep a 19 [] ∧ St w s (pt pb0 (.cells #[.slice a_y0_0 y0.length c_y0_0] 25 (0, 0)) :: R)) ?_ ?_
  · refine W.block ?_
    refine W.loop (fun m a w => ∃ (rest55 : List FleetTask) (k53 : Nat), rest55.length = m ∧ x0.drop k53 = rest55 ∧ SlicesIndexFuncLfleetTask_v1.loop1 y0 rest55 k53 = some q52 ∧ Rep a 19 [(0, .slice a0 x0.length c0), (1, .func (.func 111) #[] #[.pointer (some ⟨pb0, 0, none⟩)]), (7, .int .i64 ((x0).length : Int)), (8, .int .i64 ((k53 : Nat) : Int))] ∧ St w s (pt pb0 (.cells #[.slice a_y0_0 y0.length c_y0_0] 25 (0, 0)) :: R)) (m := x0.length) ⟨x0, 0, rfl, rfl, hq51, hE.pick _ ⟨rfl, rfl, rfl, rfl, trivial⟩, hS⟩ ?_
    clear hE hS a w hq51; rintro m59 a w ⟨rest55, k53, rfl, hd56, hq51, hE, hS⟩
    refine W.gen fun K62 hK62 => ?_
    rcases rest55 with _ | ⟨x54, rest55⟩
    · have hlt57 := drop_nil hd56
      refine W.seq ?_
      refine W.region ?_
      refine WL.vS hS hE (runs_plain rfl) (Gives.p hE rfl) rfl ?_; clear hE a; intro a hE
      refine WL.nil ?_
      refine W.seq ?_
      refine W.condF hE rfl (decide_eq_false (by omega)) ?_
      subst hK62
      refine W.exit rfl ?_
      exact ⟨Option.some.inj hq51, hE.pick _ trivial, hS⟩
    · obtain ⟨hlt57, hx58, hd56⟩ := drop_cons hd56
      rw [SlicesIndexFuncLfleetTask_v1.loop1] at hq51
      refine W.seq ?_
      refine W.region ?_
      refine WL.vS hS hE (runs_plain rfl) (Gives.p hE rfl) rfl ?_; clear hE a; intro a hE
      refine WL.nil ?_
      refine W.seq ?_
      refine W.condT hE rfl (decide_eq_true (by omega)) ?_
      refine W.skip ?_
      refine W.seq ?_
      refine W.block ?_
      refine W.seq ?_
      refine W.region ?_
      refine WL.vS hS hE (runs_plain rfl) (Gives.p hE rfl) rfl ?_; clear hE a; intro a hE
      refine WL.vS hS hE (runs_plain rfl) (Gives.p hE rfl) rfl ?_; clear hE a; intro a hE
      refine WL.nil ?_
      refine W.seq ?_
      refine W.region ?_
      refine WL.vS hS hE (runs_plain rfl) (Gives.p hE rfl) rfl ?_; clear hE a; intro a hE
      refine WL.vS hS hE (runs_plain rfl) (Gives.p hE rfl) rfl ?_; clear hE a; intro a hE
      refine WL.vS hS hE (runs_plain rfl) (Gives.p hE rfl) rfl ?_; clear hE a; intro a hE
      obtain ⟨cs63, hl64, hR65, hat66⟩ := h0.at hx58
      subst hR65
      refine WL.vS hS hE (runs_plain rfl) (Gives.idx hE k53 rfl rfl sl32 rfl hlt57 (h0.aok hlt57)) rfl ?_; clear hE a; intro a hE
      refine WL.vS hS hE (runs_plain rfl) (Gives.loadA hE rfl (fun w h => hat66 w _ h) ty78) rfl ?_; clear hE a; intro a hE
      obtain ⟨q67, hq68, hq51⟩ := bindS hq51
      have hc_ := FleetcheckSecs_2_v1_ok hS h_y0_0 hq68
      refine WL.fnw hE (hc_) rfl (runs_plain rfl) bd111 rfl rfl rfl ?_
      clear hE hS hc_; rintro e w ⟨rfl, hS⟩; refine ⟨_, rfl, ?_⟩; clear a; intro a hE
      refine WL.nil ?_
      refine W.cond hE rfl (fun hc69 => ?_) (fun hc69 => ?_)
      · replace hq51 := iteT hc69 hq51
        refine W.seq ?_
        refine W.region ?_
        refine WL.vS hS hE (runs_plain rfl) (Gives.p hE rfl) rfl ?_; clear hE a; intro a hE
        refine WL.vS hS hE (runs_plain rfl) (Gives.p hE rfl) rfl ?_; clear hE a; intro a hE
        refine WL.nil ?_
        refine W.ret ?_
        subst hK62
        rw [← Option.some.inj hq51] at hr
        dsimp only at hr
        refine finG (fn := Try.f132) (rs := [.tmp 4]) (vs := [_]) hE rfl ⟨rfl, trivial⟩ ?_
        obtain rfl := Option.some.inj hr
        exact ⟨rfl, hS⟩
      · replace hq51 := iteF hc69 hq51
        refine W.skip ?_
        refine W.region ?_
        refine WL.vS hS hE (runs_plain rfl) (Gives.inc hE rfl (by have := h0.small; omega)) rfl ?_; clear hE a; intro a hE
        refine WL.vS hS hE (runs_plain rfl) (Gives.p hE rfl) rfl ?_; clear hE a; intro a hE
        refine WL.nil ?_
        subst hK62
        exact ⟨rest55.length, Nat.lt_succ_self _, rest55, k53 + 1, rfl, hd56, hq51, hE.pick _ ⟨rfl, rfl, rfl, rfl, trivial⟩, hS⟩
  · clear hE hS a w; rintro a w ⟨rfl, hE, hS⟩
    dsimp only at hr
    refine W.seq ?_
    refine W.region ?_
    refine WL.vS hS hE (runs_plain rfl) (Gives.p hE rfl) rfl ?_; clear hE a; intro a hE
    refine WL.nil ?_
    refine W.ret ?_
    refine finG (fn := Try.f132) (rs := [.tmp 4]) (vs := [_]) hE rfl ⟨rfl, trivial⟩ ?_
    obtain rfl := Option.some.inj hr
    exact ⟨rfl, hS⟩
set_option maxHeartbeats 8000000 in
theorem SlicesContainsFuncLfleetTask_v1_ok  {w : World} {s : Sg} {R : List HP} {pb0 : Nat} {x0 : List FleetTask} {a0 : Option Addr} {c0 : Nat} {y0 : List (List Int)} {a_y0_0 : Option Addr} {c_y0_0 : Nat} (hS : St w s (pt pb0 (.cells #[.slice a_y0_0 y0.length c_y0_0] 25 (0, 0)) :: R)) (h0 : Sl 6 RFleetTask s a0 c0 x0) (h_y0_0 : Sl 1 (RL 1 (RI .i64)) s a_y0_0 c_y0_0 y0) {r : Bool} (hr : SlicesContainsFuncLfleetTask_v1 x0 y0 = some r) :
    Calls Try.prog 110 [.slice a0 x0.length c0, .func (.func 111) #[] #[.pointer (some ⟨pb0, 0, none⟩)]].toArray w (fun e w => e = .returned (.bool r) ∧ St w s (pt pb0 (.cells #[.slice a_y0_0 y0.length c_y0_0] 25 (0, 0)) :: R)) := by
  refine enter Try.func110 rfl rfl rfl fun a hE => ?_
  rw [SlicesContainsFuncLfleetTask_v1] at hr
  refine W.seq ?_
  refine W.region ?_
  refine WL.vS hS hE (runs_plain rfl) (Gives.p hE rfl) rfl ?_; clear hE a; intro a hE
  refine WL.nil ?_
  refine W.seq ?_
  refine W.region ?_
  refine WL.vS hS hE (runs_plain rfl) (Gives.p hE rfl) rfl ?_; clear hE a; intro a hE
  refine WL.vS hS hE (runs_plain rfl) (Gives.p hE rfl) rfl ?_; clear hE a; intro a hE
  obtain ⟨q51, hq52, hr⟩ := bindS hr
  have hc_ := SlicesIndexFuncLfleetTask_v1_ok hS h0 h_y0_0 hq52
  refine WL.fnq hE (hc_) (runs_plain rfl) bd132 rfl rfl rfl ?_
  clear hE hS hc_; rintro e w ⟨rfl, hS⟩; refine ⟨_, rfl, ?_⟩; clear a; intro a hE
  refine WL.vS hS hE (runs_plain rfl) (Gives.p hE rfl) rfl ?_; clear hE a; intro a hE
  refine WL.vS hS hE (runs_plain rfl) (Gives.p hE rfl) rfl ?_; clear hE a; intro a hE
  refine WL.nil ?_
  refine W.ret ?_
  refine finG (fn := Try.f110) (rs := [.tmp 4]) (vs := [_]) hE rfl ⟨rfl, trivial⟩ ?_
  obtain rfl := Option.some.inj hr
  exact ⟨rfl, hS⟩
set_option maxHeartbeats 8000000 in
theorem FleetcheckSecs_ok  {w : World} {s : Sg} {R : List HP} {x0 : List FleetTask} {a0 : Option Addr} {c0 : Nat} {x1 : Int} {x2 : List (List Int)} {a2 : Option Addr} {c2 : Nat} (hS : St w s (R)) (h0 : Sl 6 RFleetTask s a0 c0 x0) (h2 : Sl 1 (RL 1 (RI .i64)) s a2 c2 x2) {r : Int} (hr : FleetcheckSecs x0 x1 x2 = some r) :
    Calls Try.prog 68 [.slice a0 x0.length c0, .int .i64 x1, .slice a2 x2.length c2].toArray w (fun e w => e = .returned (.int .i64 r) ∧ St w s (R)) := by
  refine enter Try.func68 rfl rfl rfl fun a hE => ?_
  rw [FleetcheckSecs] at hr
  refine W.seq ?_
  refine W.region ?_
  refine WL.box hE hS (runs_plain rfl) rfl rfl rfl ?_; clear hE hS a w; intro b51 a w hE hS
  refine WL.vS hS hE (runs_plain rfl) (Gives.p hE rfl) rfl ?_; clear hE a; intro a hE
  refine WL.nil ?_
  refine W.seq ?_
  refine W.seq ?_
  refine W.region ?_
  refine WL.vS hS hE (runs_plain rfl) (Gives.p hE rfl) rfl ?_; clear hE a; intro a hE
  refine WL.vS hS hE (runs_plain rfl) (Gives.p hE rfl) rfl ?_; clear hE a; intro a hE
  refine WL.fnq hE (FleetcheckTurn_ok hS h0 rfl (r := FleetcheckTurn x0 x1)) (runs_plain rfl) bd61 rfl rfl rfl ?_
  clear hE hS; rintro e w ⟨rfl, hS⟩; refine ⟨_, rfl, ?_⟩; clear a; intro a hE
  refine WL.vS hS hE (runs_plain rfl) (Gives.p hE rfl) rfl ?_; clear hE a; intro a hE
  refine WL.nil ?_
  refine W.seq ?_
  refine W.region ?_
  refine WL.vS hS hE (runs_plain rfl) (Gives.p hE rfl) rfl ?_; clear hE a; intro a hE
  refine WL.vS hS hE (runs_plain rfl) (Gives.p hE rfl) rfl ?_; clear hE a; intro a hE
  refine WL.nil ?_
  refine W.cond hE rfl (fun hc52 => ?_) (fun hc52 => ?_)
  · replace hr := iteT hc52 hr
    refine W.seq ?_
    refine W.region ?_
    refine WL.vS hS hE (runs_plain rfl) (Gives.p hE rfl) rfl ?_; clear hE a; intro a hE
    refine WL.vS hS hE (runs_plain rfl) (Gives.p hE rfl) rfl ?_; clear hE a; intro a hE
    refine WL.nil ?_
    refine W.ret ?_
    refine finG (fn := Try.f68) (rs := [.tmp 6]) (vs := [_]) hE rfl ⟨rfl, trivial⟩ ?_
    obtain rfl := Option.some.inj hr
    replace hS := hS.tail
    exact ⟨rfl, hS⟩
  · replace hr := iteF hc52 hr
    refine W.skip ?_
    refine W.seq ?_
    refine W.seq ?_
    refine W.region ?_
    refine WL.vS hS hE (runs_plain rfl) (Gives.p hE rfl) rfl ?_; clear hE a; intro a hE
    refine WL.vS hS hE (runs_plain rfl) (Gives.len hE rfl sl32) rfl ?_; clear hE a; intro a hE
    refine WL.vS hS hE (runs_plain rfl) (Gives.p hE rfl) rfl ?_; clear hE a; intro a hE
    refine WL.nil ?_
    refine W.cond hE rfl (fun hc53 => ?_) (fun hc53 => ?_)
    · replace hr := iteT hc53 hr
      refine W.seq ?_
      refine W.region ?_
      refine WL.vS hS hE (runs_plain rfl) (Gives.p hE rfl) rfl ?_; clear hE a; intro a hE
      refine WL.nil ?_
      refine W.ret ?_
      refine finG (fn := Try.f68) (rs := [.tmp 6]) (vs := [_]) hE rfl ⟨rfl, trivial⟩ ?_
      obtain rfl := Option.some.inj hr
      replace hS := hS.tail
      exact ⟨rfl, hS⟩
    · replace hr := iteF hc53 hr
      refine W.skip ?_
      refine W.seq ?_
      refine W.seq ?_
      obtain ⟨q55, hq54, hr⟩ := bndS hr
      refine W.cut (fun a w => ∃ (q58 : Bool), q58 = q55 ∧ Rep a 103 [(0, .slice a0 x0.length c0), (5, .pointer (some ⟨b51, 0, none⟩)), (30, .bool q58)] ∧ St w s (pt b51 (.cells #[.slice a2 x2.length c2] 25 (0, 0)) :: R)) ?_ ?_
      · refine W.gen fun K59 hK59 => ?_
        refine W.region ?_
        refine WL.vS hS hE (runs_plain rfl) (Gives.loadB hE 0 rfl rfl rfl ty25) rfl ?_; clear hE a; intro a hE
        refine WL.vS hS hE (runs_plain rfl) (Gives.len hE rfl sl25) rfl ?_; clear hE a; intro a hE
        refine WL.vS hS hE (runs_plain rfl) (Gives.p hE rfl) rfl ?_; clear hE a; intro a hE
        refine WL.vS hS hE (runs_plain rfl) (Gives.p hE rfl) rfl ?_; clear hE a; intro a hE
        rcases Bool.eq_false_or_eq_true (((x2).length : Int) != 12) with hg60 | hg60
        · replace hq54 := iteT hg60 hq54
          refine WL.no hE (runs_not hE rfl rfl rfl (by rw [hg60]; decide)) rfl ?_; clear hE a; intro a hE
          refine WL.no hE (runs_not hE rfl rfl rfl (by rw [hg60]; decide)) rfl ?_; clear hE a; intro a hE
          refine WL.vS hS hE (runs_plain rfl) (Gives.pickT hE rfl hg60 rfl) rfl ?_; clear hE a; intro a hE
          refine WL.nil ?_
          subst hK59
          exact ⟨true, hq54, hE.pick _ ⟨rfl, rfl, rfl, trivial⟩, hS⟩
        · replace hq54 := iteF hg60 hq54
          refine WL.vS hS hE (runs_if hE rfl rfl rfl hg60) (Gives.loadB hE 0 rfl rfl rfl ty25) rfl ?_; clear hE a; intro a hE
          refine WL.fnq hE (SlicesContainsFuncLLint_v1_ok hS h2 rfl (r := SlicesContainsFuncLLint_v1 x2)) (runs_if hE rfl rfl rfl hg60) bd108 rfl rfl rfl ?_
          clear hE hS; rintro e w ⟨rfl, hS⟩; refine ⟨_, rfl, ?_⟩; clear a; intro a hE
          refine WL.vS hS hE (runs_plain rfl) (Gives.pickF hE rfl hg60 rfl) rfl ?_; clear hE a; intro a hE
          refine WL.nil ?_
          subst hK59
          exact ⟨(SlicesContainsFuncLLint_v1 x2), hq54, hE.pick _ ⟨rfl, rfl, rfl, trivial⟩, hS⟩
      · clear hE hS a w; rintro a w ⟨q58, rfl, hE, hS⟩
        refine W.cond hE rfl (fun hc61 => ?_) (fun hc61 => ?_)
        · replace hr := iteT hc61 hr
          refine W.seq ?_
          refine W.region ?_
          refine WL.vS hS hE (runs_plain rfl) (Gives.p hE rfl) rfl ?_; clear hE a; intro a hE
          refine WL.nil ?_
          refine W.ret ?_
          refine finG (fn := Try.f68) (rs := [.tmp 6]) (vs := [_]) hE rfl ⟨rfl, trivial⟩ ?_
          obtain rfl := Option.some.inj hr
          replace hS := hS.tail
          exact ⟨rfl, hS⟩
        · replace hr := iteF hc61 hr
          refine W.skip ?_
          refine W.seq ?_
          refine W.seq ?_
          refine W.region ?_
          refine WL.vS hS hE (runs_plain rfl) (Gives.loadB hE 0 rfl rfl rfl ty25) rfl ?_; clear hE a; intro a hE
          refine WL.vS hS hE (runs_plain rfl) (Gives.len hE rfl sl25) rfl ?_; clear hE a; intro a hE
          refine WL.vS hS hE (runs_plain rfl) (Gives.p hE rfl) rfl ?_; clear hE a; intro a hE
          refine WL.nil ?_
          obtain ⟨q63, hq62, hr⟩ := bndS hr
          refine W.cut (fun a w => (.next ()) = q63 ∧ Rep a 103 [(0, .slice a0 x0.length c0), (5, .pointer (some ⟨b51, 0, none⟩))] ∧ St w s (pt b51 (.cells #[.slice a2 x2.length c2] 25 (0, 0)) :: R)) ?_ ?_
          · refine W.block ?_
            refine W.loop (fun m a w => ∃ (rest66 : List (List Int)) (k64 : Nat), rest66.length = m ∧ x2.drop k64 = rest66 ∧ FleetcheckSecs.loop1 rest66 k64 = q63 ∧ Rep a 103 [(0, .slice a0 x0.length c0), (5, .pointer (some ⟨b51, 0, none⟩)), (31, .slice a2 x2.length c2), (32, .int .i64 ((x2).length : Int)), (33, .int .i64 ((k64 : Nat) : Int))] ∧ St w s (pt b51 (.cells #[.slice a2 x2.length c2] 25 (0, 0)) :: R)) (m := x2.length) ⟨x2, 0, rfl, rfl, hq62, hE.pick _ ⟨rfl, rfl, rfl, rfl, rfl, trivial⟩, hS⟩ ?_
            clear hE hS a w hq62; rintro m70 a w ⟨rest66, k64, rfl, hd67, hq62, hE, hS⟩
            refine W.gen fun K73 hK73 => ?_
            rcases rest66 with _ | ⟨x65, rest66⟩
            · have hlt68 := drop_nil hd67
              refine W.seq ?_
              refine W.region ?_
              refine WL.vS hS hE (runs_plain rfl) (Gives.p hE rfl) rfl ?_; clear hE a; intro a hE
              refine WL.nil ?_
              refine W.seq ?_
              refine W.condF hE rfl (decide_eq_false (by omega)) ?_
              subst hK73
              refine W.exit rfl ?_
              exact ⟨hq62, hE.pick _ ⟨rfl, rfl, trivial⟩, hS⟩
            · obtain ⟨hlt68, hx69, hd67⟩ := drop_cons hd67
              rw [FleetcheckSecs.loop1] at hq62
              refine W.seq ?_
              refine W.region ?_
              refine WL.vS hS hE (runs_plain rfl) (Gives.p hE rfl) rfl ?_; clear hE a; intro a hE
              refine WL.nil ?_
              refine W.seq ?_
              refine W.condT hE rfl (decide_eq_true (by omega)) ?_
              refine W.skip ?_
              refine W.seq ?_
              refine W.block ?_
              refine W.seq ?_
              refine W.region ?_
              refine WL.vS hS hE (runs_plain rfl) (Gives.p hE rfl) rfl ?_; clear hE a; intro a hE
              obtain ⟨cs74, hl75, hR76, hat77⟩ := h2.at hx69
              obtain ⟨a78, c79, rfl, h80⟩ := hR76
              refine WL.vS hS hE (runs_plain rfl) (Gives.idx hE k64 rfl rfl sl25 rfl hlt68 (h2.aok hlt68)) rfl ?_; clear hE a; intro a hE
              refine WL.vS hS hE (runs_plain rfl) (Gives.load1 hE rfl (fun w h => hat77 w _ h) ty44) rfl ?_; clear hE a; intro a hE
              refine WL.vS hS hE (runs_plain rfl) (Gives.p hE rfl) rfl ?_; clear hE a; intro a hE
              refine WL.vS hS hE (runs_plain rfl) (Gives.p hE rfl) rfl ?_; clear hE a; intro a hE
              refine WL.nil ?_
              refine W.seq ?_
              refine W.region ?_
              refine WL.vS hS hE (runs_plain rfl) (Gives.p hE rfl) rfl ?_; clear hE a; intro a hE
              refine WL.vS hS hE (runs_plain rfl) (Gives.len hE rfl sl44) rfl ?_; clear hE a; intro a hE
              refine WL.vS hS hE (runs_plain rfl) (Gives.p hE rfl) rfl ?_; clear hE a; intro a hE
              refine WL.nil ?_
              obtain ⟨q82, hq81, hq62⟩ := bndS hq62
              refine W.cut (fun a w => (.next ()) = q82 ∧ Rep a 103 [(0, .slice a0 x0.length c0), (5, .pointer (some ⟨b51, 0, none⟩)), (31, .slice a2 x2.length c2), (32, .int .i64 ((x2).length : Int)), (33, .int .i64 ((k64 : Nat) : Int))] ∧ St w s (pt b51 (.cells #[.slice a2 x2.length c2] 25 (0, 0)) :: R)) ?_ ?_
              · refine W.block ?_
                refine W.loop (fun m a w => ∃ (rest85 : List Int) (k83 : Nat), rest85.length = m ∧ x65.drop k83 = rest85 ∧ FleetcheckSecs.loop2 k64 rest85 k83 = q82 ∧ Rep a 103 [(0, .slice a0 x0.length c0), (5, .pointer (some ⟨b51, 0, none⟩)), (8, .int .i64 ((k64 : Nat) : Int)), (31, .slice a2 x2.length c2), (32, .int .i64 ((x2).length : Int)), (33, .int .i64 ((k64 : Nat) : Int)), (38, .slice a78 x65.length c79), (39, .int .i64 ((x65).length : Int)), (40, .int .i64 ((k83 : Nat) : Int))] ∧ St w s (pt b51 (.cells #[.slice a2 x2.length c2] 25 (0, 0)) :: R)) (m := x65.length) ⟨x65, 0, rfl, rfl, hq81, hE.pick _ ⟨rfl, rfl, rfl, rfl, rfl, rfl, rfl, rfl, rfl, trivial⟩, hS⟩ ?_
                clear hE hS a w hq81; rintro m89 a w ⟨rest85, k83, rfl, hd86, hq81, hE, hS⟩
                refine W.gen fun K92 hK92 => ?_
                rcases rest85 with _ | ⟨x84, rest85⟩
                · have hlt87 := drop_nil hd86
                  refine W.seq ?_
                  refine W.region ?_
                  refine WL.vS hS hE (runs_plain rfl) (Gives.p hE rfl) rfl ?_; clear hE a; intro a hE
                  refine WL.nil ?_
                  refine W.seq ?_
                  refine W.condF hE rfl (decide_eq_false (by omega)) ?_
                  subst hK92
                  refine W.exit rfl ?_
                  exact ⟨hq81, hE.pick _ ⟨rfl, rfl, rfl, rfl, rfl, trivial⟩, hS⟩
                · obtain ⟨hlt87, hx88, hd86⟩ := drop_cons hd86
                  rw [FleetcheckSecs.loop2] at hq81
                  refine W.seq ?_
                  refine W.region ?_
                  refine WL.vS hS hE (runs_plain rfl) (Gives.p hE rfl) rfl ?_; clear hE a; intro a hE
                  refine WL.nil ?_
                  refine W.seq ?_
                  refine W.condT hE rfl (decide_eq_true (by omega)) ?_
                  refine W.skip ?_
                  refine W.seq ?_
                  refine W.block ?_
                  refine W.seq ?_
                  refine W.region ?_
                  refine WL.vS hS hE (runs_plain rfl) (Gives.p hE rfl) rfl ?_; clear hE a; intro a hE
                  obtain ⟨cs93, hl94, hR95, hat96⟩ := h80.at hx88
                  subst hR95
                  refine WL.vS hS hE (runs_plain rfl) (Gives.idx hE k83 rfl rfl sl44 rfl hlt87 (h80.aok hlt87)) rfl ?_; clear hE a; intro a hE
                  refine WL.vS hS hE (runs_plain rfl) (Gives.load1 hE rfl (fun w h => hat96 w _ h) ty3) rfl ?_; clear hE a; intro a hE
                  refine WL.vS hS hE (runs_plain rfl) (Gives.p hE rfl) rfl ?_; clear hE a; intro a hE
                  refine WL.vS hS hE (runs_plain rfl) (Gives.p hE rfl) rfl ?_; clear hE a; intro a hE
                  refine WL.nil ?_
                  refine W.block ?_
                  refine W.seq ?_
                  refine W.region ?_
                  refine WL.vS hS hE (runs_plain rfl) (Gives.p hE rfl) rfl ?_; clear hE a; intro a hE
                  refine WL.fnq hE (Fleetwithin_ok hS  rfl (r := Fleetwithin x84 0 28800)) (runs_plain rfl) bd37 rfl rfl rfl ?_
                  clear hE hS; rintro e w ⟨rfl, hS⟩; refine ⟨_, rfl, ?_⟩; clear a; intro a hE
                  refine WL.vS hS hE (runs_plain rfl) (Gives.p hE rfl) rfl ?_; clear hE a; intro a hE
                  refine WL.vS hS hE (runs_plain rfl) (Gives.p hE rfl) rfl ?_; clear hE a; intro a hE
                  refine WL.nil ?_
                  refine W.cond hE rfl (fun hc97 => ?_) (fun hc97 => ?_)
                  · replace hq81 := iteT hc97 hq81
                    refine W.seq ?_
                    refine W.region ?_
                    refine WL.vS hS hE (runs_plain rfl) (Gives.p hE rfl) rfl ?_; clear hE a; intro a hE
                    refine WL.nil ?_
                    refine W.ret ?_
                    subst hK92
                    subst hK73
                    rw [← hq81] at hq62
                    dsimp only at hq62
                    rw [← hq62] at hr
                    dsimp only at hr
                    refine finG (fn := Try.f68) (rs := [.tmp 6]) (vs := [_]) hE rfl ⟨rfl, trivial⟩ ?_
                    obtain rfl := Option.some.inj hr
                    replace hS := hS.tail
                    exact ⟨rfl, hS⟩
                  · replace hq81 := iteF hc97 hq81
                    refine W.seq ?_
                    obtain ⟨q99, hq98, hq81⟩ := bndS hq81
                    refine W.cut (fun a w => ∃ (q102 : Bool), q102 = q99 ∧ Rep a 103 [(0, .slice a0 x0.length c0), (5, .pointer (some ⟨b51, 0, none⟩)), (8, .int .i64 ((k64 : Nat) : Int)), (31, .slice a2 x2.length c2), (32, .int .i64 ((x2).length : Int)), (33, .int .i64 ((k64 : Nat) : Int)), (38, .slice a78 x65.length c79), (39, .int .i64 ((x65).length : Int)), (40, .int .i64 ((k83 : Nat) : Int)), (49, .bool q102)] ∧ St w s (pt b51 (.cells #[.slice a2 x2.length c2] 25 (0, 0)) :: R)) ?_ ?_
                    · refine W.gen fun K103 hK103 => ?_
                      refine W.region ?_
                      refine WL.vS hS hE (runs_plain rfl) (Gives.p hE rfl) rfl ?_; clear hE a; intro a hE
                      refine WL.vS hS hE (runs_plain rfl) (Gives.p hE rfl) rfl ?_; clear hE a; intro a hE
                      refine WL.vS hS hE (runs_plain rfl) (Gives.p hE rfl) rfl ?_; clear hE a; intro a hE
                      refine WL.vS hS hE (runs_plain rfl) (Gives.p hE rfl) rfl ?_; clear hE a; intro a hE
                      rcases Bool.eq_false_or_eq_true (((k64 : Nat) : Int) == ((k83 : Nat) : Int)) with hg104 | hg104
                      · replace hq98 := iteT hg104 hq98
                        refine WL.vS hS hE (runs_if hE rfl rfl rfl hg104) (Gives.p hE rfl) rfl ?_; clear hE a; intro a hE
                        refine WL.vS hS hE (runs_if hE rfl rfl rfl hg104) (Gives.p hE rfl) rfl ?_; clear hE a; intro a hE
                        refine WL.vS hS hE (runs_plain rfl) (Gives.pickT hE rfl hg104 rfl) rfl ?_; clear hE a; intro a hE
                        refine WL.vS hS hE (runs_plain rfl) (Gives.p hE rfl) rfl ?_; clear hE a; intro a hE
                        refine WL.nil ?_
                        subst hK103
                        exact ⟨(x84 != 0), hq98, hE.pick _ ⟨rfl, rfl, rfl, rfl, rfl, rfl, rfl, rfl, rfl, rfl, trivial⟩, hS⟩
                      · replace hq98 := iteF hg104 hq98
                        refine WL.no hE (runs_not hE rfl rfl rfl (by rw [hg104]; decide)) rfl ?_; clear hE a; intro a hE
                        refine WL.no hE (runs_not hE rfl rfl rfl (by rw [hg104]; decide)) rfl ?_; clear hE a; intro a hE
                        refine WL.vS hS hE (runs_plain rfl) (Gives.pickF hE rfl hg104 rfl) rfl ?_; clear hE a; intro a hE
                        refine WL.vS hS hE (runs_plain rfl) (Gives.p hE rfl) rfl ?_; clear hE a; intro a hE
                        refine WL.nil ?_
                        subst hK103
                        exact ⟨false, hq98, hE.pick _ ⟨rfl, rfl, rfl, rfl, rfl, rfl, rfl, rfl, rfl, rfl, trivial⟩, hS⟩
                    · clear hE hS a w; rintro a w ⟨q102, rfl, hE, hS⟩
                      refine W.cond hE rfl (fun hc105 => ?_) (fun hc105 => ?_)
                      · replace hq81 := iteT hc105 hq81
                        refine W.seq ?_
                        refine W.region ?_
                        refine WL.vS hS hE (runs_plain rfl) (Gives.p hE rfl) rfl ?_; clear hE a; intro a hE
                        refine WL.nil ?_
                        refine W.ret ?_
                        subst hK92
                        subst hK73
                        rw [← hq81] at hq62
                        dsimp only at hq62
                        rw [← hq62] at hr
                        dsimp only at hr
                        refine finG (fn := Try.f68) (rs := [.tmp 6]) (vs := [_]) hE rfl ⟨rfl, trivial⟩ ?_
                        obtain rfl := Option.some.inj hr
                        replace hS := hS.tail
                        exact ⟨rfl, hS⟩
                      · replace hq81 := iteF hc105 hq81
                        refine W.skip ?_
                        refine W.region ?_
                        refine WL.vS hS hE (runs_plain rfl) (Gives.inc hE rfl (by have := h80.small; omega)) rfl ?_; clear hE a; intro a hE
                        refine WL.vS hS hE (runs_plain rfl) (Gives.p hE rfl) rfl ?_; clear hE a; intro a hE
                        refine WL.nil ?_
                        subst hK92
                        exact ⟨rest85.length, Nat.lt_succ_self _, rest85, k83 + 1, rfl, hd86, hq81, hE.pick _ ⟨rfl, rfl, rfl, rfl, rfl, rfl, rfl, rfl, rfl, trivial⟩, hS⟩
              · clear hE hS a w; rintro a w ⟨rfl, hE, hS⟩
                dsimp only at hq62
                refine W.region ?_
                refine WL.vS hS hE (runs_plain rfl) (Gives.inc hE rfl (by have := h2.small; omega)) rfl ?_; clear hE a; intro a hE
                refine WL.vS hS hE (runs_plain rfl) (Gives.p hE rfl) rfl ?_; clear hE a; intro a hE
                refine WL.nil ?_
                subst hK73
                exact ⟨rest66.length, Nat.lt_succ_self _, rest66, k64 + 1, rfl, hd67, hq62, hE.pick _ ⟨rfl, rfl, rfl, rfl, rfl, trivial⟩, hS⟩
          · clear hE hS a w; rintro a w ⟨rfl, hE, hS⟩
            dsimp only at hr
            refine W.seq ?_
            refine W.seq ?_
            refine W.region ?_
            refine WL.vS hS hE (runs_plain rfl) (Gives.loadB hE 0 rfl rfl rfl ty25) rfl ?_; clear hE a; intro a hE
            refine WL.vS hS hE (runs_plain rfl) (Gives.len hE rfl sl25) rfl ?_; clear hE a; intro a hE
            refine WL.vS hS hE (runs_plain rfl) (Gives.p hE rfl) rfl ?_; clear hE a; intro a hE
            refine WL.nil ?_
            obtain ⟨q107, hq106, hr⟩ := bindS hr
            refine W.cut (fun a w => (.next ()) = q107 ∧ Rep a 103 [(0, .slice a0 x0.length c0), (5, .pointer (some ⟨b51, 0, none⟩))] ∧ St w s (pt b51 (.cells #[.slice a2 x2.length c2] 25 (0, 0)) :: R)) ?_ ?_
            · refine W.block ?_
              refine W.loop (fun m a w => ∃ (rest110 : List (List Int)) (k108 : Nat), rest110.length = m ∧ x2.drop k108 = rest110 ∧ FleetcheckSecs.loop3 x2 rest110 = some q107 ∧ Rep a 103 [(0, .slice a0 x0.length c0), (5, .pointer (some ⟨b51, 0, none⟩)), (60, .int .i64 ((x2).length : Int)), (61, .int .i64 ((k108 : Nat) : Int))] ∧ St w s (pt b51 (.cells #[.slice a2 x2.length c2] 25 (0, 0)) :: R)) (m := x2.length) ⟨x2, 0, rfl, rfl, hq106, hE.pick _ ⟨rfl, rfl, rfl, rfl, trivial⟩, hS⟩ ?_
              clear hE hS a w hq106; rintro m114 a w ⟨rest110, k108, rfl, hd111, hq106, hE, hS⟩
              refine W.gen fun K117 hK117 => ?_
              rcases rest110 with _ | ⟨x109, rest110⟩
              · have hlt112 := drop_nil hd111
                refine W.seq ?_
                refine W.region ?_
                refine WL.vS hS hE (runs_plain rfl) (Gives.p hE rfl) rfl ?_; clear hE a; intro a hE
                refine WL.nil ?_
                refine W.seq ?_
                refine W.condF hE rfl (decide_eq_false (by omega)) ?_
                subst hK117
                refine W.exit rfl ?_
                exact ⟨Option.some.inj hq106, hE.pick _ ⟨rfl, rfl, trivial⟩, hS⟩
              · obtain ⟨hlt112, hx113, hd111⟩ := drop_cons hd111
                rw [FleetcheckSecs.loop3] at hq106
                refine W.seq ?_
                refine W.region ?_
                refine WL.vS hS hE (runs_plain rfl) (Gives.p hE rfl) rfl ?_; clear hE a; intro a hE
                refine WL.nil ?_
                refine W.seq ?_
                refine W.condT hE rfl (decide_eq_true (by omega)) ?_
                refine W.skip ?_
                refine W.seq ?_
                refine W.block ?_
                refine W.seq ?_
                refine W.region ?_
                refine WL.vS hS hE (runs_plain rfl) (Gives.p hE rfl) rfl ?_; clear hE a; intro a hE
                refine WL.vS hS hE (runs_plain rfl) (Gives.p hE rfl) rfl ?_; clear hE a; intro a hE
                refine WL.nil ?_
                refine W.seq ?_
                refine W.region ?_
                refine WL.vS hS hE (runs_plain rfl) (Gives.loadB hE 0 rfl rfl rfl ty25) rfl ?_; clear hE a; intro a hE
                refine WL.vS hS hE (runs_plain rfl) (Gives.len hE rfl sl25) rfl ?_; clear hE a; intro a hE
                refine WL.vS hS hE (runs_plain rfl) (Gives.p hE rfl) rfl ?_; clear hE a; intro a hE
                refine WL.nil ?_
                obtain ⟨q119, hq118, hq106⟩ := bindS hq106
                refine W.cut (fun a w => (.next ()) = q119 ∧ Rep a 103 [(0, .slice a0 x0.length c0), (5, .pointer (some ⟨b51, 0, none⟩)), (60, .int .i64 ((x2).length : Int)), (61, .int .i64 ((k108 : Nat) : Int))] ∧ St w s (pt b51 (.cells #[.slice a2 x2.length c2] 25 (0, 0)) :: R)) ?_ ?_
                · refine W.block ?_
                  refine W.loop (fun m a w => ∃ (rest122 : List (List Int)) (k120 : Nat), rest122.length = m ∧ x2.drop k120 = rest122 ∧ FleetcheckSecs.loop4 x2 x109 rest122 k120 = some q119 ∧ Rep a 103 [(0, .slice a0 x0.length c0), (5, .pointer (some ⟨b51, 0, none⟩)), (12, .int .i64 ((k108 : Nat) : Int)), (60, .int .i64 ((x2).length : Int)), (61, .int .i64 ((k108 : Nat) : Int)), (65, .int .i64 ((x2).length : Int)), (66, .int .i64 ((k120 : Nat) : Int))] ∧ St w s (pt b51 (.cells #[.slice a2 x2.length c2] 25 (0, 0)) :: R)) (m := x2.length) ⟨x2, 0, rfl, rfl, hq118, hE.pick _ ⟨rfl, rfl, rfl, rfl, rfl, rfl, rfl, trivial⟩, hS⟩ ?_
                  clear hE hS a w hq118; rintro m126 a w ⟨rest122, k120, rfl, hd123, hq118, hE, hS⟩
                  refine W.gen fun K129 hK129 => ?_
                  rcases rest122 with _ | ⟨x121, rest122⟩
                  · have hlt124 := drop_nil hd123
                    refine W.seq ?_
                    refine W.region ?_
                    refine WL.vS hS hE (runs_plain rfl) (Gives.p hE rfl) rfl ?_; clear hE a; intro a hE
                    refine WL.nil ?_
                    refine W.seq ?_
                    refine W.condF hE rfl (decide_eq_false (by omega)) ?_
                    subst hK129
                    refine W.exit rfl ?_
                    exact ⟨Option.some.inj hq118, hE.pick _ ⟨rfl, rfl, rfl, rfl, trivial⟩, hS⟩
                  · obtain ⟨hlt124, hx125, hd123⟩ := drop_cons hd123
                    rw [FleetcheckSecs.loop4] at hq118
                    refine W.seq ?_
                    refine W.region ?_
                    refine WL.vS hS hE (runs_plain rfl) (Gives.p hE rfl) rfl ?_; clear hE a; intro a hE
                    refine WL.nil ?_
                    refine W.seq ?_
                    refine W.condT hE rfl (decide_eq_true (by omega)) ?_
                    refine W.skip ?_
                    refine W.seq ?_
                    refine W.block ?_
                    refine W.seq ?_
                    refine W.region ?_
                    refine WL.vS hS hE (runs_plain rfl) (Gives.p hE rfl) rfl ?_; clear hE a; intro a hE
                    refine WL.vS hS hE (runs_plain rfl) (Gives.p hE rfl) rfl ?_; clear hE a; intro a hE
                    refine WL.nil ?_
                    refine W.seq ?_
                    refine W.region ?_
                    refine WL.vS hS hE (runs_plain rfl) (Gives.loadB hE 0 rfl rfl rfl ty25) rfl ?_; clear hE a; intro a hE
                    refine WL.vS hS hE (runs_plain rfl) (Gives.len hE rfl sl25) rfl ?_; clear hE a; intro a hE
                    refine WL.vS hS hE (runs_plain rfl) (Gives.p hE rfl) rfl ?_; clear hE a; intro a hE
                    refine WL.nil ?_
                    obtain ⟨q131, hq130, hq118⟩ := bindS hq118
                    refine W.cut (fun a w => (.next ()) = q131 ∧ Rep a 103 [(0, .slice a0 x0.length c0), (5, .pointer (some ⟨b51, 0, none⟩)), (12, .int .i64 ((k108 : Nat) : Int)), (60, .int .i64 ((x2).length : Int)), (61, .int .i64 ((k108 : Nat) : Int)), (65, .int .i64 ((x2).length : Int)), (66, .int .i64 ((k120 : Nat) : Int))] ∧ St w s (pt b51 (.cells #[.slice a2 x2.length c2] 25 (0, 0)) :: R)) ?_ ?_
                    · refine W.block ?_
                      refine W.loop (fun m a w => ∃ (rest134 : List (List Int)) (k132 : Nat), rest134.length = m ∧ x2.drop k132 = rest134 ∧ FleetcheckSecs.loop5 x109 x121 k120 rest134 k132 = some q131 ∧ Rep a 103 [(0, .slice a0 x0.length c0), (5, .pointer (some ⟨b51, 0, none⟩)), (12, .int .i64 ((k108 : Nat) : Int)), (13, .int .i64 ((k120 : Nat) : Int)), (60, .int .i64 ((x2).length : Int)), (61, .int .i64 ((k108 : Nat) : Int)), (65, .int .i64 ((x2).length : Int)), (66, .int .i64 ((k120 : Nat) : Int)), (70, .int .i64 ((x2).length : Int)), (71, .int .i64 ((k132 : Nat) : Int))] ∧ St w s (pt b51 (.cells #[.slice a2 x2.length c2] 25 (0, 0)) :: R)) (m := x2.length) ⟨x2, 0, rfl, rfl, hq130, hE.pick _ ⟨rfl, rfl, rfl, rfl, rfl, rfl, rfl, rfl, rfl, rfl, trivial⟩, hS⟩ ?_
                      clear hE hS a w hq130; rintro m138 a w ⟨rest134, k132, rfl, hd135, hq130, hE, hS⟩
                      refine W.gen fun K141 hK141 => ?_
                      rcases rest134 with _ | ⟨x133, rest134⟩
                      · have hlt136 := drop_nil hd135
                        refine W.seq ?_
                        refine W.region ?_
                        refine WL.vS hS hE (runs_plain rfl) (Gives.p hE rfl) rfl ?_; clear hE a; intro a hE
                        refine WL.nil ?_
                        refine W.seq ?_
                        refine W.condF hE rfl (decide_eq_false (by omega)) ?_
                        subst hK141
                        refine W.exit rfl ?_
                        exact ⟨Option.some.inj hq130, hE.pick _ ⟨rfl, rfl, rfl, rfl, rfl, rfl, rfl, trivial⟩, hS⟩
                      · obtain ⟨hlt136, hx137, hd135⟩ := drop_cons hd135
                        rw [FleetcheckSecs.loop5] at hq130
                        refine W.seq ?_
                        refine W.region ?_
                        refine WL.vS hS hE (runs_plain rfl) (Gives.p hE rfl) rfl ?_; clear hE a; intro a hE
                        refine WL.nil ?_
                        refine W.seq ?_
                        refine W.condT hE rfl (decide_eq_true (by omega)) ?_
                        refine W.skip ?_
                        refine W.seq ?_
                        refine W.block ?_
                        refine W.seq ?_
                        refine W.region ?_
                        refine WL.vS hS hE (runs_plain rfl) (Gives.p hE rfl) rfl ?_; clear hE a; intro a hE
                        refine WL.vS hS hE (runs_plain rfl) (Gives.p hE rfl) rfl ?_; clear hE a; intro a hE
                        refine WL.nil ?_
                        refine W.seq ?_
                        refine W.regionQ (C := fun w => St w s (pt b51 (.cells #[.slice a2 x2.length c2] 25 (0, 0)) :: R)) mixed (by kernel_rfl) hS.drew ?_
                        refine QL.v hE (runs_plain rfl) (Gives.loadB hE 0 rfl rfl rfl ty25) rfl ?_; clear hE a; intro a hE
                        refine QL.v hE (runs_plain rfl) (Gives.p hE rfl) rfl ?_; clear hE a; intro a hE
                        obtain ⟨cs142, hl143, hR144, hat145⟩ := h2.at hx113
                        obtain ⟨a146, c147, rfl, h148⟩ := hR144
                        refine QL.v hE (runs_plain rfl) (Gives.idx hE k108 rfl rfl sl25 rfl hlt112 (h2.aok hlt112)) rfl ?_; clear hE a; intro a hE
                        refine QL.v hE (runs_plain rfl) (Gives.load1 hE rfl (fun w h => hat145 w _ h) ty44) rfl ?_; clear hE a; intro a hE
                        refine QL.v hE (runs_plain rfl) (Gives.p hE rfl) rfl ?_; clear hE a; intro a hE
                        obtain ⟨x149, hx150, hq130⟩ := bindS hq130
                        obtain ⟨hi151, hlt152, hy153⟩ := gx_some hx150
                        obtain ⟨cs154, hl155, hR156, hat157⟩ := h148.at hy153
                        subst hR156
                        refine QL.v hE (runs_plain rfl) (Gives.idx hE (((k132 : Nat) : Int)).toNat rfl rfl sl44 hi151 hlt152 (h148.aok hlt152)) rfl ?_; clear hE a; intro a hE
                        refine QL.v hE (runs_plain rfl) (Gives.load1 hE rfl (fun w h => hat157 w _ h) ty3) rfl ?_; clear hE a; intro a hE
                        refine QL.v hE (runs_plain rfl) (Gives.loadB hE 0 rfl rfl rfl ty25) rfl ?_; clear hE a; intro a hE
                        refine QL.v hE (runs_plain rfl) (Gives.p hE rfl) rfl ?_; clear hE a; intro a hE
                        refine QL.v hE (runs_plain rfl) (Gives.idx hE k108 rfl rfl sl25 rfl hlt112 (h2.aok hlt112)) rfl ?_; clear hE a; intro a hE
                        refine QL.v hE (runs_plain rfl) (Gives.load1 hE rfl (fun w h => hat145 w _ h) ty44) rfl ?_; clear hE a; intro a hE
                        refine QL.v hE (runs_plain rfl) (Gives.p hE rfl) rfl ?_; clear hE a; intro a hE
                        obtain ⟨x158, hx159, hq130⟩ := bindS hq130
                        obtain ⟨hi160, hlt161, hy162⟩ := gx_some hx159
                        obtain ⟨cs163, hl164, hR165, hat166⟩ := h148.at hy162
                        subst hR165
                        refine QL.v hE (runs_plain rfl) (Gives.idx hE (((k120 : Nat) : Int)).toNat rfl rfl sl44 hi160 hlt161 (h148.aok hlt161)) rfl ?_; clear hE a; intro a hE
                        refine QL.v hE (runs_plain rfl) (Gives.load1 hE rfl (fun w h => hat166 w _ h) ty3) rfl ?_; clear hE a; intro a hE
                        refine QL.v hE (runs_plain rfl) (Gives.loadB hE 0 rfl rfl rfl ty25) rfl ?_; clear hE a; intro a hE
                        refine QL.v hE (runs_plain rfl) (Gives.p hE rfl) rfl ?_; clear hE a; intro a hE
                        obtain ⟨cs167, hl168, hR169, hat170⟩ := h2.at hx125
                        obtain ⟨a171, c172, rfl, h173⟩ := hR169
                        refine QL.v hE (runs_plain rfl) (Gives.idx hE k120 rfl rfl sl25 rfl hlt124 (h2.aok hlt124)) rfl ?_; clear hE a; intro a hE
                        refine QL.v hE (runs_plain rfl) (Gives.load1 hE rfl (fun w h => hat170 w _ h) ty44) rfl ?_; clear hE a; intro a hE
                        refine QL.v hE (runs_plain rfl) (Gives.p hE rfl) rfl ?_; clear hE a; intro a hE
                        obtain ⟨x174, hx175, hq130⟩ := bindS hq130
                        obtain ⟨hi176, hlt177, hy178⟩ := gx_some hx175
                        obtain ⟨cs179, hl180, hR181, hat182⟩ := h173.at hy178
                        subst hR181
                        refine QL.v hE (runs_plain rfl) (Gives.idx hE (((k132 : Nat) : Int)).toNat rfl rfl sl44 hi176 hlt177 (h173.aok hlt177)) rfl ?_; clear hE a; intro a hE
                        refine QL.v hE (runs_plain rfl) (Gives.load1 hE rfl (fun w h => hat182 w _ h) ty3) rfl ?_; clear hE a; intro a hE
                        refine QL.v hE (runs_plain rfl) (Gives.p hE rfl) rfl ?_; clear hE a; intro a hE
                        refine QL.v hE (runs_plain rfl) (Gives.p hE rfl) rfl ?_; clear hE a; intro a hE
                        refine QL.nil ?_; clear hS w; intro w hS
                        refine W.cond hE rfl (fun hc183 => ?_) (fun hc183 => ?_)
                        · replace hq130 := iteT hc183 hq130
                          refine W.seq ?_
                          refine W.region ?_
                          refine WL.vS hS hE (runs_plain rfl) (Gives.p hE rfl) rfl ?_; clear hE a; intro a hE
                          refine WL.nil ?_
                          refine W.ret ?_
                          subst hK141
                          subst hK129
                          subst hK117
                          rw [← Option.some.inj hq130] at hq118
                          dsimp only at hq118
                          rw [← Option.some.inj hq118] at hq106
                          dsimp only at hq106
                          rw [← Option.some.inj hq106] at hr
                          dsimp only at hr
                          refine finG (fn := Try.f68) (rs := [.tmp 6]) (vs := [_]) hE rfl ⟨rfl, trivial⟩ ?_
                          obtain rfl := Option.some.inj hr
                          replace hS := hS.tail
                          exact ⟨rfl, hS⟩
                        · replace hq130 := iteF hc183 hq130
                          refine W.skip ?_
                          refine W.region ?_
                          refine WL.vS hS hE (runs_plain rfl) (Gives.inc hE rfl (by have := h2.small; omega)) rfl ?_; clear hE a; intro a hE
                          refine WL.vS hS hE (runs_plain rfl) (Gives.p hE rfl) rfl ?_; clear hE a; intro a hE
                          refine WL.nil ?_
                          subst hK141
                          exact ⟨rest134.length, Nat.lt_succ_self _, rest134, k132 + 1, rfl, hd135, hq130, hE.pick _ ⟨rfl, rfl, rfl, rfl, rfl, rfl, rfl, rfl, rfl, rfl, trivial⟩, hS⟩
                    · clear hE hS a w; rintro a w ⟨rfl, hE, hS⟩
                      dsimp only at hq118
                      refine W.region ?_
                      refine WL.vS hS hE (runs_plain rfl) (Gives.inc hE rfl (by have := h2.small; omega)) rfl ?_; clear hE a; intro a hE
                      refine WL.vS hS hE (runs_plain rfl) (Gives.p hE rfl) rfl ?_; clear hE a; intro a hE
                      refine WL.nil ?_
                      subst hK129
                      exact ⟨rest122.length, Nat.lt_succ_self _, rest122, k120 + 1, rfl, hd123, hq118, hE.pick _ ⟨rfl, rfl, rfl, rfl, rfl, rfl, rfl, trivial⟩, hS⟩
                · clear hE hS a w; rintro a w ⟨rfl, hE, hS⟩
                  dsimp only at hq106
                  refine W.region ?_
                  refine WL.vS hS hE (runs_plain rfl) (Gives.inc hE rfl (by have := h2.small; omega)) rfl ?_; clear hE a; intro a hE
                  refine WL.vS hS hE (runs_plain rfl) (Gives.p hE rfl) rfl ?_; clear hE a; intro a hE
                  refine WL.nil ?_
                  subst hK117
                  exact ⟨rest110.length, Nat.lt_succ_self _, rest110, k108 + 1, rfl, hd111, hq106, hE.pick _ ⟨rfl, rfl, rfl, rfl, trivial⟩, hS⟩
            · clear hE hS a w; rintro a w ⟨rfl, hE, hS⟩
              dsimp only at hr
              refine W.seq ?_
              refine W.seq ?_
              refine W.region ?_
              refine WL.vS hS hE (runs_plain rfl) (Gives.p hE rfl) rfl ?_; clear hE a; intro a hE
              refine WL.vS hS hE (runs_plain rfl) (Gives.mkfn hE (vs := [.pointer (some ⟨b51, 0, none⟩)]) rfl) rfl ?_; clear hE a; intro a hE
              obtain ⟨q184, hq185, hr⟩ := bindS hr
              have hc_ := SlicesContainsFuncLfleetTask_v1_ok hS h0 h2 hq185
              refine WL.fnq hE (hc_) (runs_plain rfl) bd110 rfl rfl rfl ?_
              clear hE hS hc_; rintro e w ⟨rfl, hS⟩; refine ⟨_, rfl, ?_⟩; clear a; intro a hE
              refine WL.nil ?_
              refine W.cond hE rfl (fun hc186 => ?_) (fun hc186 => ?_)
              · replace hr := iteT hc186 hr
                refine W.seq ?_
                refine W.region ?_
                refine WL.vS hS hE (runs_plain rfl) (Gives.p hE rfl) rfl ?_; clear hE a; intro a hE
                refine WL.nil ?_
                refine W.ret ?_
                refine finG (fn := Try.f68) (rs := [.tmp 6]) (vs := [_]) hE rfl ⟨rfl, trivial⟩ ?_
                obtain rfl := Option.some.inj hr
                replace hS := hS.tail
                exact ⟨rfl, hS⟩
              · replace hr := iteF hc186 hr
                refine W.skip ?_
                refine W.seq ?_
                refine W.region ?_
                refine WL.vS hS hE (runs_plain rfl) (Gives.p hE rfl) rfl ?_; clear hE a; intro a hE
                refine WL.nil ?_
                refine W.ret ?_
                refine finG (fn := Try.f68) (rs := [.tmp 6]) (vs := [_]) hE rfl ⟨rfl, trivial⟩ ?_
                obtain rfl := Option.some.inj hr
                replace hS := hS.tail
                exact ⟨rfl, hS⟩
set_option maxHeartbeats 8000000 in
theorem MathBitsMul64_ok  {w : World} {s : Sg} {R : List HP} {x0 : Int} {x1 : Int} (hS : St w s (R))  {r : Int × Int} (hr : MathBitsMul64 x0 x1 = r) :
    Calls Try.prog 162 [.int .u64 x0, .int .u64 x1].toArray w (fun e w => e = .returned (.tuple #[.int .u64 r.1, .int .u64 r.2]) ∧ St w s (R)) := by
  refine enter Try.func162 rfl rfl rfl fun a hE => ?_
  rw [MathBitsMul64] at hr
  refine W.seq ?_
  refine W.region ?_
  refine WL.vS hS hE (runs_plain rfl) (Gives.p hE rfl) rfl ?_; clear hE a; intro a hE
  refine WL.vS hS hE (runs_plain rfl) (Gives.p hE rfl) rfl ?_; clear hE a; intro a hE
  refine WL.nil ?_
  refine W.seq ?_
  refine W.region ?_
  refine WL.vS hS hE (runs_plain rfl) (Gives.p hE rfl) rfl ?_; clear hE a; intro a hE
  refine WL.vS hS hE (runs_plain rfl) (Gives.p hE rfl) rfl ?_; clear hE a; intro a hE
  refine WL.vS hS hE (runs_plain rfl) (Gives.p hE rfl) rfl ?_; clear hE a; intro a hE
  refine WL.nil ?_
  refine W.seq ?_
  refine W.region ?_
  refine WL.vS hS hE (runs_plain rfl) (Gives.p hE rfl) rfl ?_; clear hE a; intro a hE
  refine WL.vS hS hE (runs_plain rfl) (Gives.shr hE rfl rfl (by decide)) rfl ?_; clear hE a; intro a hE
  refine WL.vS hS hE (runs_plain rfl) (Gives.p hE rfl) rfl ?_; clear hE a; intro a hE
  refine WL.nil ?_
  refine W.seq ?_
  refine W.region ?_
  refine WL.vS hS hE (runs_plain rfl) (Gives.p hE rfl) rfl ?_; clear hE a; intro a hE
  refine WL.vS hS hE (runs_plain rfl) (Gives.p hE rfl) rfl ?_; clear hE a; intro a hE
  refine WL.vS hS hE (runs_plain rfl) (Gives.p hE rfl) rfl ?_; clear hE a; intro a hE
  refine WL.nil ?_
  refine W.seq ?_
  refine W.region ?_
  refine WL.vS hS hE (runs_plain rfl) (Gives.p hE rfl) rfl ?_; clear hE a; intro a hE
  refine WL.vS hS hE (runs_plain rfl) (Gives.shr hE rfl rfl (by decide)) rfl ?_; clear hE a; intro a hE
  refine WL.vS hS hE (runs_plain rfl) (Gives.p hE rfl) rfl ?_; clear hE a; intro a hE
  refine WL.nil ?_
  refine W.seq ?_
  refine W.region ?_
  refine WL.vS hS hE (runs_plain rfl) (Gives.p hE rfl) rfl ?_; clear hE a; intro a hE
  refine WL.vS hS hE (runs_plain rfl) (Gives.p hE rfl) rfl ?_; clear hE a; intro a hE
  refine WL.vS hS hE (runs_plain rfl) (Gives.p hE rfl) rfl ?_; clear hE a; intro a hE
  refine WL.vS hS hE (runs_plain rfl) (Gives.p hE rfl) rfl ?_; clear hE a; intro a hE
  refine WL.nil ?_
  refine W.seq ?_
  refine W.region ?_
  refine WL.vS hS hE (runs_plain rfl) (Gives.p hE rfl) rfl ?_; clear hE a; intro a hE
  refine WL.vS hS hE (runs_plain rfl) (Gives.p hE rfl) rfl ?_; clear hE a; intro a hE
  refine WL.vS hS hE (runs_plain rfl) (Gives.p hE rfl) rfl ?_; clear hE a; intro a hE
  refine WL.vS hS hE (runs_plain rfl) (Gives.p hE rfl) rfl ?_; clear hE a; intro a hE
  refine WL.vS hS hE (runs_plain rfl) (Gives.shr hE rfl rfl (by decide)) rfl ?_; clear hE a; intro a hE
  refine WL.vS hS hE (runs_plain rfl) (Gives.p hE rfl) rfl ?_; clear hE a; intro a hE
  refine WL.vS hS hE (runs_plain rfl) (Gives.p hE rfl) rfl ?_; clear hE a; intro a hE
  refine WL.nil ?_
  refine W.seq ?_
  refine W.region ?_
  refine WL.vS hS hE (runs_plain rfl) (Gives.p hE rfl) rfl ?_; clear hE a; intro a hE
  refine WL.vS hS hE (runs_plain rfl) (Gives.p hE rfl) rfl ?_; clear hE a; intro a hE
  refine WL.vS hS hE (runs_plain rfl) (Gives.p hE rfl) rfl ?_; clear hE a; intro a hE
  refine WL.nil ?_
  refine W.seq ?_
  refine W.region ?_
  refine WL.vS hS hE (runs_plain rfl) (Gives.p hE rfl) rfl ?_; clear hE a; intro a hE
  refine WL.vS hS hE (runs_plain rfl) (Gives.shr hE rfl rfl (by decide)) rfl ?_; clear hE a; intro a hE
  refine WL.vS hS hE (runs_plain rfl) (Gives.p hE rfl) rfl ?_; clear hE a; intro a hE
  refine WL.nil ?_
  refine W.seq ?_
  refine W.region ?_
  refine WL.vS hS hE (runs_plain rfl) (Gives.p hE rfl) rfl ?_; clear hE a; intro a hE
  refine WL.vS hS hE (runs_plain rfl) (Gives.p hE rfl) rfl ?_; clear hE a; intro a hE
  refine WL.vS hS hE (runs_plain rfl) (Gives.p hE rfl) rfl ?_; clear hE a; intro a hE
  refine WL.vS hS hE (runs_plain rfl) (Gives.p hE rfl) rfl ?_; clear hE a; intro a hE
  refine WL.vS hS hE (runs_plain rfl) (Gives.p hE rfl) rfl ?_; clear hE a; intro a hE
  refine WL.vS hS hE (runs_plain rfl) (Gives.p hE rfl) rfl ?_; clear hE a; intro a hE
  refine WL.nil ?_
  refine W.seq ?_
  refine W.region ?_
  refine WL.vS hS hE (runs_plain rfl) (Gives.p hE rfl) rfl ?_; clear hE a; intro a hE
  refine WL.vS hS hE (runs_plain rfl) (Gives.p hE rfl) rfl ?_; clear hE a; intro a hE
  refine WL.vS hS hE (runs_plain rfl) (Gives.p hE rfl) rfl ?_; clear hE a; intro a hE
  refine WL.vS hS hE (runs_plain rfl) (Gives.p hE rfl) rfl ?_; clear hE a; intro a hE
  refine WL.vS hS hE (runs_plain rfl) (Gives.p hE rfl) rfl ?_; clear hE a; intro a hE
  refine WL.vS hS hE (runs_plain rfl) (Gives.p hE rfl) rfl ?_; clear hE a; intro a hE
  refine WL.vS hS hE (runs_plain rfl) (Gives.shr hE rfl rfl (by decide)) rfl ?_; clear hE a; intro a hE
  refine WL.vS hS hE (runs_plain rfl) (Gives.p hE rfl) rfl ?_; clear hE a; intro a hE
  refine WL.vS hS hE (runs_plain rfl) (Gives.p hE rfl) rfl ?_; clear hE a; intro a hE
  refine WL.nil ?_
  refine W.seq ?_
  refine W.region ?_
  refine WL.vS hS hE (runs_plain rfl) (Gives.p hE rfl) rfl ?_; clear hE a; intro a hE
  refine WL.vS hS hE (runs_plain rfl) (Gives.p hE rfl) rfl ?_; clear hE a; intro a hE
  refine WL.vS hS hE (runs_plain rfl) (Gives.p hE rfl) rfl ?_; clear hE a; intro a hE
  refine WL.vS hS hE (runs_plain rfl) (Gives.p hE rfl) rfl ?_; clear hE a; intro a hE
  refine WL.nil ?_
  refine W.ret ?_
  refine finG (fn := Try.f162) (rs := [.tmp 4, .tmp 5]) (vs := [_, _]) hE rfl ⟨rfl, rfl, trivial⟩ ?_
  subst hr
  exact ⟨rfl, hS⟩
set_option maxHeartbeats 8000000 in
theorem MathBitsMul_ok  {w : World} {s : Sg} {R : List HP} {x0 : Int} {x1 : Int} (hS : St w s (R))  {r : Int × Int} (hr : MathBitsMul x0 x1 = r) :
    Calls Try.prog 133 [.int .u64 x0, .int .u64 x1].toArray w (fun e w => e = .returned (.tuple #[.int .u64 r.1, .int .u64 r.2]) ∧ St w s (R)) := by
  refine enter Try.func133 rfl rfl rfl fun a hE => ?_
  rw [MathBitsMul] at hr
  refine W.seq ?_
  refine W.region ?_
  refine WL.vS hS hE (runs_plain rfl) (Gives.p hE rfl) rfl ?_; clear hE a; intro a hE
  refine WL.vS hS hE (runs_plain rfl) (Gives.p hE rfl) rfl ?_; clear hE a; intro a hE
  refine WL.nil ?_
  refine W.seq ?_
  refine W.condF hE rfl rfl ?_
  refine W.skip ?_
  refine W.seq ?_
  refine W.region ?_
  refine WL.vS hS hE (runs_plain rfl) (Gives.p hE rfl) rfl ?_; clear hE a; intro a hE
  refine WL.vS hS hE (runs_plain rfl) (Gives.p hE rfl) rfl ?_; clear hE a; intro a hE
  obtain ⟨q51, hq52, hr⟩ := bndS hr
  have hc_ := MathBitsMul64_ok hS  hq52
  refine WL.fnq hE (hc_) (runs_plain rfl) bd162 rfl rfl rfl ?_
  clear hE hS hc_; rintro e w ⟨rfl, hS⟩; refine ⟨_, rfl, ?_⟩; clear a; intro a hE
  refine WL.vS hS hE (runs_plain rfl) (Gives.p hE rfl) rfl ?_; clear hE a; intro a hE
  refine WL.vS hS hE (runs_plain rfl) (Gives.p hE rfl) rfl ?_; clear hE a; intro a hE
  refine WL.vS hS hE (runs_plain rfl) (Gives.p hE rfl) rfl ?_; clear hE a; intro a hE
  refine WL.vS hS hE (runs_plain rfl) (Gives.p hE rfl) rfl ?_; clear hE a; intro a hE
  refine WL.vS hS hE (runs_plain rfl) (Gives.p hE rfl) rfl ?_; clear hE a; intro a hE
  refine WL.nil ?_
  refine W.seq ?_
  refine W.region ?_
  refine WL.vS hS hE (runs_plain rfl) (Gives.p hE rfl) rfl ?_; clear hE a; intro a hE
  refine WL.vS hS hE (runs_plain rfl) (Gives.p hE rfl) rfl ?_; clear hE a; intro a hE
  refine WL.vS hS hE (runs_plain rfl) (Gives.p hE rfl) rfl ?_; clear hE a; intro a hE
  refine WL.vS hS hE (runs_plain rfl) (Gives.p hE rfl) rfl ?_; clear hE a; intro a hE
  refine WL.nil ?_
  refine W.ret ?_
  refine finG (fn := Try.f133) (rs := [.tmp 4, .tmp 5]) (vs := [_, _]) hE rfl ⟨rfl, rfl, trivial⟩ ?_
  subst hr
  exact ⟨rfl, hS⟩
set_option maxHeartbeats 8000000 in
theorem SlicesRepeatLint_ok {fu : Nat}  {w : World} {s : Sg} {R : List HP} {x0 : List Int} {a0 : Option Addr} {c0 : Nat} {x1 : Int} (hS : St w s (R)) (h0 : Sl 1 (RI .i64) s a0 c0 x0) {r : (List Int)} (hr : SlicesRepeatLint fu x0 x1 = some r) :
    Calls Try.prog 112 [.slice a0 x0.length c0, .int .i64 x1].toArray w (fun e w => ∃ (a0 : Option Addr) (c0 n0 : Nat) (cs0 : List Value), e = .returned (.slice a0 n0 c0) ∧ Ev 1 (RI .i64) s cs0 r ∧ r.length = n0 ∧ St w s (vecC 3 1 a0 c0 n0 cs0 :: R)) := by
  refine enter Try.func112 rfl rfl rfl fun a hE => ?_
  rw [SlicesRepeatLint] at hr
  refine W.seq ?_
  refine W.region ?_
  refine WL.vS hS hE (runs_plain rfl) (Gives.p hE rfl) rfl ?_; clear hE a; intro a hE
  refine WL.nil ?_
  refine W.seq ?_
  refine W.seq ?_
  refine W.region ?_
  refine WL.vS hS hE (runs_plain rfl) (Gives.p hE rfl) rfl ?_; clear hE a; intro a hE
  refine WL.vS hS hE (runs_plain rfl) (Gives.p hE rfl) rfl ?_; clear hE a; intro a hE
  refine WL.nil ?_
  refine W.cond hE rfl (fun hc51 => ?_) (fun hc51 => ?_)
  · replace hr := iteT hc51 hr
    refine W.region ?_
    exact absurd hr (by simp)
  · replace hr := iteF hc51 hr
    refine W.skip ?_
    refine W.seq ?_
    refine W.region ?_
    refine WL.vS hS hE (runs_plain rfl) (Gives.p hE rfl) rfl ?_; clear hE a; intro a hE
    refine WL.vS hS hE (runs_plain rfl) (Gives.len hE rfl sl44) rfl ?_; clear hE a; intro a hE
    refine WL.vS hS hE (runs_plain rfl) (Gives.conv hE rfl hu3 ui162) rfl ?_; clear hE a; intro a hE
    refine WL.vS hS hE (runs_plain rfl) (Gives.p hE rfl) rfl ?_; clear hE a; intro a hE
    refine WL.vS hS hE (runs_plain rfl) (Gives.conv hE rfl hu3 ui162) rfl ?_; clear hE a; intro a hE
    obtain ⟨q52, hq53, hr⟩ := bndS hr
    have hc_ := MathBitsMul_ok hS  hq53
    refine WL.fnq hE (hc_) (runs_plain rfl) bd133 rfl rfl rfl ?_
    clear hE hS hc_; rintro e w ⟨rfl, hS⟩; refine ⟨_, rfl, ?_⟩; clear a; intro a hE
    refine WL.vS hS hE (runs_plain rfl) (Gives.p hE rfl) rfl ?_; clear hE a; intro a hE
    refine WL.vS hS hE (runs_plain rfl) (Gives.p hE rfl) rfl ?_; clear hE a; intro a hE
    refine WL.vS hS hE (runs_plain rfl) (Gives.p hE rfl) rfl ?_; clear hE a; intro a hE
    refine WL.vS hS hE (runs_plain rfl) (Gives.p hE rfl) rfl ?_; clear hE a; intro a hE
    refine WL.vS hS hE (runs_plain rfl) (Gives.p hE rfl) rfl ?_; clear hE a; intro a hE
    refine WL.nil ?_
    refine W.seq ?_
    refine W.seq ?_
    obtain ⟨q55, hq54, hr⟩ := bndS hr
    refine W.cut (fun a w => ∃ (q58 : Bool), q58 = q55 ∧ Rep a 48 [(0, .slice a0 x0.length c0), (6, .int .u64 q52.2), (26, .bool q58)] ∧ St w s (R)) ?_ ?_
    · refine W.gen fun K59 hK59 => ?_
      refine W.region ?_
      refine WL.vS hS hE (runs_plain rfl) (Gives.p hE rfl) rfl ?_; clear hE a; intro a hE
      refine WL.vS hS hE (runs_plain rfl) (Gives.p hE rfl) rfl ?_; clear hE a; intro a hE
      refine WL.vS hS hE (runs_plain rfl) (Gives.p hE rfl) rfl ?_; clear hE a; intro a hE
      rcases Bool.eq_false_or_eq_true (decide (q52.1 > 0)) with hg60 | hg60
      · replace hq54 := iteT hg60 hq54
        refine WL.no hE (runs_not hE rfl rfl rfl (by rw [hg60]; decide)) rfl ?_; clear hE a; intro a hE
        refine WL.no hE (runs_not hE rfl rfl rfl (by rw [hg60]; decide)) rfl ?_; clear hE a; intro a hE
        refine WL.vS hS hE (runs_plain rfl) (Gives.pickT hE rfl hg60 rfl) rfl ?_; clear hE a; intro a hE
        refine WL.nil ?_
        subst hK59
        exact ⟨true, hq54, hE.pick _ ⟨rfl, rfl, rfl, trivial⟩, hS⟩
      · replace hq54 := iteF hg60 hq54
        refine WL.vS hS hE (runs_if hE rfl rfl rfl hg60) (Gives.p hE rfl) rfl ?_; clear hE a; intro a hE
        refine WL.vS hS hE (runs_if hE rfl rfl rfl hg60) (Gives.p hE rfl) rfl ?_; clear hE a; intro a hE
        refine WL.vS hS hE (runs_plain rfl) (Gives.pickF hE rfl hg60 rfl) rfl ?_; clear hE a; intro a hE
        refine WL.nil ?_
        subst hK59
        exact ⟨decide (q52.2 > 9223372036854775807), hq54, hE.pick _ ⟨rfl, rfl, rfl, trivial⟩, hS⟩
    · clear hE hS a w; rintro a w ⟨q58, rfl, hE, hS⟩
      refine W.cond hE rfl (fun hc61 => ?_) (fun hc61 => ?_)
      · replace hr := iteT hc61 hr
        refine W.region ?_
        exact absurd hr (by simp)
      · replace hr := iteF hc61 hr
        refine W.skip ?_
        refine W.seq ?_
        refine W.region ?_
        refine WL.vS hS hE (runs_plain rfl) (Gives.p hE rfl) rfl ?_; clear hE a; intro a hE
        refine WL.vS hS hE (runs_plain rfl) (Gives.conv hE rfl hu162 ui3) rfl ?_; clear hE a; intro a hE
        obtain ⟨x62, hx63, hr⟩ := bindS hr
        refine WL.mkD (Rr := RI .i64) hE hS (runs_plain rfl) rfl rfl ap44 zr3 rfl hx63 rfl ?_; clear hE hS a w; intro b64 cs65 a w h66 hE hS
        refine WL.vS hS hE (runs_plain rfl) (Gives.p hE rfl) rfl ?_; clear hE a; intro a hE
        refine WL.nil ?_
        refine W.seq ?_
        refine W.region ?_
        refine WL.vS hS hE (runs_plain rfl) (Gives.p hE rfl) rfl ?_; clear hE a; intro a hE
        refine WL.vS hS hE (runs_plain rfl) (Gives.p hE rfl) rfl ?_; clear hE a; intro a hE
        obtain ⟨x68, hx69, hr⟩ := bndS hr
        refine WL.cpS hE hS 0 (runs_plain rfl) cp44 (by rw [sliced_zero]; rfl) rfl rfl (Nat.zero_le _) (Nat.le_refl _) h66 rfl RI.one h0 rfl rfl ?_; clear hE hS a w; intro cs70 a w h71 hE hS
        have hn72 : x68.length = x62.length := by rw [← hx69, cpl_length (Nat.zero_le _) (by omega)]; try rfl
        rw [hx69] at h71
        refine WL.vS hS hE (runs_plain rfl) (Gives.p hE rfl) rfl ?_; clear hE a; intro a hE
        refine WL.nil ?_
        refine W.seq ?_
        obtain ⟨q74, hq73, hr⟩ := bindS hr
        refine W.cut (fun a w => ∃ (q79 : Int), ∃ (q80 : List Int), ∃ (cs84 : List Value), (q79, q80) = q74 ∧ Ev 1 (RI .i64) s cs84 q80 ∧ q80.length = x62.length ∧ Rep a 48 [(7, .slice (some ⟨b64, 0, none⟩) x62.length x62.length)] ∧ St w s (vecC 3 1 (some ⟨b64, 0, none⟩) x62.length x62.length cs84 :: R)) ?_ ?_
        · refine W.block ?_
          refine W.loop (fun m a w => ∃ (n75 : Nat), ∃ (q79 : Int), ∃ (q80 : List Int), ∃ (cs84 : List Value), n75 = m ∧ SlicesRepeatLint.loop1 x62 n75 q79 q80 = some q74 ∧ Ev 1 (RI .i64) s cs84 q80 ∧ q80.length = x62.length ∧ Rep a 48 [(7, .slice (some ⟨b64, 0, none⟩) x62.length x62.length), (8, .int .i64 q79)] ∧ St w s (vecC 3 1 (some ⟨b64, 0, none⟩) x62.length x62.length cs84 :: R)) (m := fu) ⟨fu, ((min x0.length (x62.length - 0) : Nat) : Int), x68, cs70, rfl, hq73, h71, hn72, hE.pick _ ⟨rfl, rfl, trivial⟩, hS⟩ ?_
          clear hE hS a w hq73; rintro m76 a w ⟨n75, q79, q80, cs84, rfl, hq73, h83, hn85, hE, hS⟩
          refine W.gen fun K86 hK86 => ?_
          rcases n75 with _ | n75
          · rw [SlicesRepeatLint.loop1] at hq73; exact absurd hq73 (by simp)
          rw [SlicesRepeatLint.loop1] at hq73
          refine W.seq ?_
          refine W.seq ?_
          refine W.region ?_
          refine WL.vS hS hE (runs_plain rfl) (Gives.p hE rfl) rfl ?_; clear hE a; intro a hE
          refine WL.vS hS hE (runs_plain rfl) (Gives.p hE rfl) rfl ?_; clear hE a; intro a hE
          refine WL.vS hS hE (runs_plain rfl) (Gives.len hE rfl sl44) rfl ?_; clear hE a; intro a hE
          refine WL.vS hS hE (runs_plain rfl) (Gives.p hE rfl) rfl ?_; clear hE a; intro a hE
          refine WL.nil ?_
          refine W.cond hE rfl (fun hc87 => ?_) (fun hc87 => ?_)
          · replace hq73 := iteT hc87 hq73
            refine W.skip ?_
            refine W.block ?_
            refine W.gen fun K88 hK88 => ?_
            refine W.regionE (sel (fun w => St w s (R)) (fun w => St w s (R))) (fun b i => cond b ([0, 1, 2, 3, 4, 5, 6, 7, 8, 9].contains i) ([0, 1, 2, 3, 4, 5, 6, 7, 8, 9].contains i)) mixed ?_
            replace hS := hS.drew
            refine Rg.takeP (i := 0) hE rfl (by kernel_rfl) (runs_plain rfl) (Gives.p hE rfl) rfl (tw_sel (fun _ => (hS.tail)) (fun _ => (hS.tail))) ?_; clear hE a; intro a hE
            refine Rg.takeP (i := 1) hE rfl (by kernel_rfl) (runs_plain rfl) (Gives.p hE rfl) rfl (tw_sel (fun _ => (hS.tail)) (fun _ => (hS.tail))) ?_; clear hE a; intro a hE
            refine Rg.takeP (i := 2) hE rfl (by kernel_rfl) (runs_plain rfl) (Gives.p hE rfl) rfl (tw_sel (fun _ => (hS.tail)) (fun _ => (hS.tail))) ?_; clear hE a; intro a hE
            obtain ⟨x89, hx90, hq73⟩ := bindS hq73
            obtain ⟨h91, h92, h93, h94, h95, h96⟩ := cutl_some hx90
            have h97 := (hS.vecCap 0 rfl).1
            refine Rg.takeP (i := 3) hE rfl (by kernel_rfl) (runs_plain rfl) (Gives.slL hE sl44 rfl rfl h91 (by have := hn85; omega) rfl) rfl (tw_sel (fun _ => (hS.tail)) (fun _ => (hS.tail))) ?_; clear hE a; intro a hE
            refine Rg.takeP (i := 4) hE rfl (by kernel_rfl) (runs_plain rfl) (Gives.p hE rfl) rfl (tw_sel (fun _ => (hS.tail)) (fun _ => (hS.tail))) ?_; clear hE a; intro a hE
            refine Rg.takeP (i := 5) hE rfl (by kernel_rfl) (runs_plain rfl) (Gives.p hE rfl) rfl (tw_sel (fun _ => (hS.tail)) (fun _ => (hS.tail))) ?_; clear hE a; intro a hE
            obtain ⟨x98, hx99, hq73⟩ := bindS hq73
            obtain ⟨h100, h101, h102, h103, h104, h105⟩ := cutl_some hx99
            have h106 := (hS.vecCap 0 rfl).1
            refine Rg.takeP (i := 6) hE rfl (by kernel_rfl) (runs_plain rfl) (Gives.slH hE sl44 rfl rfl h101 (Int.le_trans h102 (by have := hn85; omega)) rfl) rfl (tw_sel (fun _ => (hS.tail)) (fun _ => (hS.tail))) ?_; clear hE a; intro a hE
            refine Rg.one (i := 7) true true rfl (by kernel_rfl) (by kernel_rfl) (by kernel_rfl) ?_
            obtain ⟨x107, hx108, hq73⟩ := bndS hq73
            refine WL.cpO (lo2 := 0) (hi2 := (q79).toNat) hE hS 0 (runs_plain rfl) cp44 rfl rfl rfl (by have := hn85; omega) (by have := hn85; omega) (by have := hn85; omega) (by have := hn85; omega) h83 hn85 (h83.allOne RI.one) rfl ?_; clear hE hS a w; intro cs109 a w h110 hE hS
            have hn111 : x107.length = x62.length := by rw [← hx108, cpl_length (by have := hn85; omega) (by have := hn85; omega)]; try exact hn85
            rw [hx108] at h110
            refine WL.nil ?_
            refine ⟨⟨fun _ => (hS.tail), fun _ => (hS.tail)⟩, ?_⟩
            refine Rg.takeP (i := 8) hE rfl (by kernel_rfl) (runs_plain rfl) (Gives.p hE rfl) rfl (tw_sel (fun _ => (hS.tail)) (fun _ => (hS.tail))) ?_; clear hE a; intro a hE
            refine Rg.takeP (i := 9) hE rfl (by kernel_rfl) (runs_plain rfl) (Gives.p hE rfl) rfl (tw_sel (fun _ => (hS.tail)) (fun _ => (hS.tail))) ?_; clear hE a; intro a hE
            refine Rg.done (by kernel_rfl) ?_
            subst hK88
            subst hK86
            exact ⟨n75, Nat.lt_succ_self _, n75, (w64 (q79 + ((min ((q80.take ((q79).toNat)).drop 0).length (x62.length - ((q79).toNat)) : Nat) : Int))), x107, cs109, rfl, hq73, h110, hn111, hE.pick _ ⟨rfl, rfl, trivial⟩, hS⟩
          · replace hq73 := iteF hc87 hq73
            subst hK86
            refine W.exit rfl ?_
            exact ⟨q79, q80, cs84, Option.some.inj hq73, h83, hn85, hE.pick _ ⟨rfl, trivial⟩, hS⟩
        · clear hE hS a w; rintro a w ⟨q79, q80, cs84, rfl, h83, hn85, hE, hS⟩
          dsimp only at hr
          refine W.seq ?_
          refine W.region ?_
          refine WL.vS hS hE (runs_plain rfl) (Gives.p hE rfl) rfl ?_; clear hE a; intro a hE
          refine WL.vS hS hE (runs_plain rfl) (Gives.p hE rfl) rfl ?_; clear hE a; intro a hE
          refine WL.nil ?_
          refine W.ret ?_
          refine finG (fn := Try.f112) (rs := [.tmp 4]) (vs := [_]) hE rfl ⟨rfl, trivial⟩ ?_
          obtain rfl := Option.some.inj hr
          exact ⟨(some ⟨b64, 0, none⟩), x62.length, x62.length, cs84, rfl, h83, hn85, hS⟩
set_option maxHeartbeats 8000000 in
theorem FleetMatchinggrow_v1_ok : ∀ {fu : Nat} {w : World} {s : Sg} {R : List HP} {pb0 : Nat} {x1 : Int} {x2 : List Bool} {a_v0 : Option Addr} {c_v0 n_v0 : Nat} {cs_v0 : List Value} {y0 : FleetMatching} {a_v1 : Option Addr} {c_v1 n_v1 : Nat} {cs_v1 : List Value} {a_v2 : Option Addr} {c_v2 n_v2 : Nat} {cs_v2 : List Value} {a_v3 : Option Addr} {c_v3 n_v3 : Nat} {cs_v3 : List Value} (_hS : St w s (pt pb0 (.cells #[.slice a_v1 n_v1 c_v1, .slice a_v2 n_v2 c_v2, .slice a_v3 n_v3 c_v3] 100 (0, 0)) :: vecC 4 1 a_v0 c_v0 n_v0 cs_v0 :: vecC 101 1 a_v1 c_v1 n_v1 cs_v1 :: vecC 3 1 a_v2 c_v2 n_v2 cs_v2 :: vecC 3 1 a_v3 c_v3 n_v3 cs_v3 :: R)) (_h_v0 : Ev 1 RB s cs_v0 x2) (_hn_v0 : x2.length = n_v0) (_h_v1 : Ev 1 (RL 1 RB) s cs_v1 y0.after) (_hn_v1 : y0.after.length = n_v1) (_h_v2 : Ev 1 (RI .i64) s cs_v2 y0.next) (_hn_v2 : y0.next.length = n_v2) (_h_v3 : Ev 1 (RI .i64) s cs_v3 y0.prev) (_hn_v3 : y0.prev.length = n_v3) {r : Bool × (List Bool) × (List Int) × (List Int)} (_hr : FleetMatchinggrow_v1 fu x1 x2 y0 = some r),
    Calls Try.prog 113 [.pointer (some ⟨pb0, 0, none⟩), .int .i64 x1, .slice a_v0 n_v0 c_v0].toArray w (fun e w => ∃ (cs55 : List Value) (cs61 : List Value) (cs67 : List Value), e = .returned (.bool r.1) ∧ Ev 1 RB s cs55 r.2.1 ∧ r.2.1.length = n_v0 ∧ Ev 1 (RI .i64) s cs61 r.2.2.1 ∧ r.2.2.1.length = n_v2 ∧ Ev 1 (RI .i64) s cs67 r.2.2.2 ∧ r.2.2.2.length = n_v3 ∧ St w s (pt pb0 (.cells #[.slice a_v1 n_v1 c_v1, .slice a_v2 n_v2 c_v2, .slice a_v3 n_v3 c_v3] 100 (0, 0)) :: vecC 4 1 a_v0 c_v0 n_v0 cs55 :: vecC 101 1 a_v1 c_v1 n_v1 cs_v1 :: vecC 3 1 a_v2 c_v2 n_v2 cs61 :: vecC 3 1 a_v3 c_v3 n_v3 cs67 :: R)) := by
  intro fu
  induction fu with
  | zero => intro w s R pb0 x1 x2 a_v0 c_v0 n_v0 cs_v0 y0 a_v1 c_v1 n_v1 cs_v1 a_v2 c_v2 n_v2 cs_v2 a_v3 c_v3 n_v3 cs_v3 hS h_v0 hn_v0 h_v1 hn_v1 h_v2 hn_v2 h_v3 hn_v3 r hr; rw [FleetMatchinggrow_v1] at hr; exact absurd hr (by simp)
  | succ fu ih_FleetMatchinggrow_v1 =>
    intro w s R pb0 x1 x2 a_v0 c_v0 n_v0 cs_v0 y0 a_v1 c_v1 n_v1 cs_v1 a_v2 c_v2 n_v2 cs_v2 a_v3 c_v3 n_v3 cs_v3 hS h_v0 hn_v0 h_v1 hn_v1 h_v2 hn_v2 h_v3 hn_v3 r hr
    rw [FleetMatchinggrow_v1] at hr
    generalize FleetMatchinggrow_v1 fu = self_FleetMatchinggrow_v1 at hr ih_FleetMatchinggrow_v1
    refine enter Try.func113 rfl rfl rfl fun a hE => ?_
    subst hn_v0
    subst hn_v1
    subst hn_v2
    subst hn_v3
    refine W.seq ?_
    refine W.region ?_
    refine WL.vS hS hE (runs_plain rfl) (Gives.p hE rfl) rfl ?_; clear hE a; intro a hE
    refine WL.nil ?_
    refine W.seq ?_
    refine W.seq ?_
    refine W.region ?_
    refine WL.vS hS hE (runs_plain rfl) (Gives.p hE rfl) rfl ?_; clear hE a; intro a hE
    refine WL.vS hS hE (runs_plain rfl) (Gives.nilOk hE rfl) rfl ?_; clear hE a; intro a hE
    refine WL.vS hS hE (runs_plain rfl) (Gives.fld hE rfl fl100_0) rfl ?_; clear hE a; intro a hE
    refine WL.vS hS hE (runs_plain rfl) (Gives.loadB hE 0 rfl rfl rfl ty98) rfl ?_; clear hE a; intro a hE
    refine WL.vS hS hE (runs_plain rfl) (Gives.p hE rfl) rfl ?_; clear hE a; intro a hE
    obtain ⟨x69, hx70, hr⟩ := bindS hr
    obtain ⟨hi71, hlt72, hy73⟩ := gx_some hx70
    obtain ⟨vs74, hl75, hR76, hd77, hget78⟩ := h_v1.at hy73
    obtain ⟨a79, c80, rfl, h81⟩ := hR76
    refine WL.vS hS hE (runs_plain rfl) (Gives.idx hE ((x1).toNat) rfl rfl sl98 hi71 (by omega) (hS.vecAok 2 rfl (by omega : (x1).toNat < y0.after.length))) rfl ?_; clear hE a; intro a hE
    refine WL.vS hS hE (runs_plain rfl) (Gives.load1 hE rfl (fun w h => St.vecSees h 2 rfl ((x1).toNat * 1) _ hget78) ty101) rfl ?_; clear hE a; intro a hE
    refine WL.vS hS hE (runs_plain rfl) (Gives.len hE rfl sl101) rfl ?_; clear hE a; intro a hE
    refine WL.vS hS hE (runs_plain rfl) (Gives.p hE rfl) rfl ?_; clear hE a; intro a hE
    refine WL.nil ?_
    obtain ⟨q83, hq82, hr⟩ := bindS hr
    refine W.cut (fun a w => ∃ (q93 : List Bool), ∃ (q99 : List Int), ∃ (q105 : List Int), ∃ (cs97 : List Value), ∃ (cs103 : List Value), ∃ (cs109 : List Value), (.next (q93, q99, q105)) = q83 ∧ Ev 1 RB s cs97 q93 ∧ q93.length = x2.length ∧ Ev 1 (RI .i64) s cs103 q99 ∧ q99.length = y0.next.length ∧ Ev 1 (RI .i64) s cs109 q105 ∧ q105.length = y0.prev.length ∧ Rep a 68 [] ∧ St w s (pt pb0 (.cells #[.slice a_v1 y0.after.length c_v1, .slice a_v2 y0.next.length c_v2, .slice a_v3 y0.prev.length c_v3] 100 (0, 0)) :: vecC 4 1 a_v0 c_v0 x2.length cs97 :: vecC 101 1 a_v1 c_v1 y0.after.length cs_v1 :: vecC 3 1 a_v2 c_v2 y0.next.length cs103 :: vecC 3 1 a_v3 c_v3 y0.prev.length cs109 :: R)) ?_ ?_
    · refine W.block ?_
      refine W.loop (fun m a w => ∃ (rest86 : List Bool) (k84 : Nat), ∃ (q93 : List Bool), ∃ (q99 : List Int), ∃ (q105 : List Int), ∃ (cs97 : List Value), ∃ (cs103 : List Value), ∃ (cs109 : List Value), rest86.length = m ∧ x69.drop k84 = rest86 ∧ FleetMatchinggrow_v1.loop1 x1 y0 self_FleetMatchinggrow_v1 rest86 k84 q93 q99 q105 = some q83 ∧ Ev 1 RB s cs97 q93 ∧ q93.length = x2.length ∧ Ev 1 (RI .i64) s cs103 q99 ∧ q99.length = y0.next.length ∧ Ev 1 (RI .i64) s cs109 q105 ∧ q105.length = y0.prev.length ∧ Rep a 68 [(0, .pointer (some ⟨pb0, 0, none⟩)), (1, .int .i64 x1), (2, .slice a_v0 x2.length c_v0), (15, .slice a79 x69.length c80), (16, .int .i64 ((x69).length : Int)), (17, .int .i64 ((k84 : Nat) : Int))] ∧ St w s (pt pb0 (.cells #[.slice a_v1 y0.after.length c_v1, .slice a_v2 y0.next.length c_v2, .slice a_v3 y0.prev.length c_v3] 100 (0, 0)) :: vecC 4 1 a_v0 c_v0 x2.length cs97 :: vecC 101 1 a_v1 c_v1 y0.after.length cs_v1 :: vecC 3 1 a_v2 c_v2 y0.next.length cs103 :: vecC 3 1 a_v3 c_v3 y0.prev.length cs109 :: R)) (m := x69.length) ⟨x69, 0, x2, y0.next, y0.prev, cs_v0, cs_v2, cs_v3, rfl, rfl, hq82, h_v0, (rfl), h_v2, (rfl), h_v3, (rfl), hE.pick _ ⟨rfl, rfl, rfl, rfl, rfl, rfl, trivial⟩, hS⟩ ?_
      clear hE hS a w hq82; rintro m90 a w ⟨rest86, k84, q93, q99, q105, cs97, cs103, cs109, rfl, hd87, hq82, h96, hn98, h102, hn104, h108, hn110, hE, hS⟩
      refine W.gen fun K111 hK111 => ?_
      rcases rest86 with _ | ⟨x85, rest86⟩
      · have hlt88 := drop_nil hd87
        refine W.seq ?_
        refine W.region ?_
        refine WL.vS hS hE (runs_plain rfl) (Gives.p hE rfl) rfl ?_; clear hE a; intro a hE
        refine WL.nil ?_
        refine W.seq ?_
        refine W.condF hE rfl (decide_eq_false (by omega)) ?_
        subst hK111
        refine W.exit rfl ?_
        exact ⟨q93, q99, q105, cs97, cs103, cs109, Option.some.inj hq82, h96, hn98, h102, hn104, h108, hn110, hE.pick _ trivial, hS⟩
      · obtain ⟨hlt88, hx89, hd87⟩ := drop_cons hd87
        rw [FleetMatchinggrow_v1.loop1] at hq82
        refine W.seq ?_
        refine W.region ?_
        refine WL.vS hS hE (runs_plain rfl) (Gives.p hE rfl) rfl ?_; clear hE a; intro a hE
        refine WL.nil ?_
        refine W.seq ?_
        refine W.condT hE rfl (decide_eq_true (by omega)) ?_
        refine W.skip ?_
        refine W.seq ?_
        refine W.block ?_
        refine W.seq ?_
        refine W.region ?_
        refine WL.vS hS hE (runs_plain rfl) (Gives.p hE rfl) rfl ?_; clear hE a; intro a hE
        obtain ⟨cs112, hl113, hR114, hat115⟩ := h81.at hx89
        subst hR114
        refine WL.vS hS hE (runs_plain rfl) (Gives.idx hE k84 rfl rfl sl101 rfl hlt88 (h81.aok hlt88)) rfl ?_; clear hE a; intro a hE
        refine WL.vS hS hE (runs_plain rfl) (Gives.load1 hE rfl (fun w h => hat115 w _ h) ty4) rfl ?_; clear hE a; intro a hE
        refine WL.vS hS hE (runs_plain rfl) (Gives.p hE rfl) rfl ?_; clear hE a; intro a hE
        refine WL.vS hS hE (runs_plain rfl) (Gives.p hE rfl) rfl ?_; clear hE a; intro a hE
        refine WL.nil ?_
        refine W.seq ?_
        refine W.seq ?_
        obtain ⟨q117, hq116, hq82⟩ := bindS hq82
        refine W.cut (fun a w => ∃ (q120 : Bool), q120 = q117 ∧ Rep a 68 [(0, .pointer (some ⟨pb0, 0, none⟩)), (1, .int .i64 x1), (2, .slice a_v0 x2.length c_v0), (7, .int .i64 ((k84 : Nat) : Int)), (15, .slice a79 x69.length c80), (16, .int .i64 ((x69).length : Int)), (17, .int .i64 ((k84 : Nat) : Int)), (29, .bool q120)] ∧ St w s (pt pb0 (.cells #[.slice a_v1 y0.after.length c_v1, .slice a_v2 y0.next.length c_v2, .slice a_v3 y0.prev.length c_v3] 100 (0, 0)) :: vecC 4 1 a_v0 c_v0 x2.length cs97 :: vecC 101 1 a_v1 c_v1 y0.after.length cs_v1 :: vecC 3 1 a_v2 c_v2 y0.next.length cs103 :: vecC 3 1 a_v3 c_v3 y0.prev.length cs109 :: R)) ?_ ?_
        · refine W.gen fun K121 hK121 => ?_
          refine W.region ?_
          refine WL.vS hS hE (runs_plain rfl) (Gives.p hE rfl) rfl ?_; clear hE a; intro a hE
          refine WL.vS hS hE (runs_plain rfl) (Gives.p hE rfl) rfl ?_; clear hE a; intro a hE
          refine WL.vS hS hE (runs_plain rfl) (Gives.p hE rfl) rfl ?_; clear hE a; intro a hE
          rcases Bool.eq_false_or_eq_true !x85 with hg122 | hg122
          · replace hq116 := iteT hg122 hq116
            refine WL.no hE (runs_not hE rfl rfl rfl (by rw [hg122]; decide)) rfl ?_; clear hE a; intro a hE
            refine WL.no hE (runs_not hE rfl rfl rfl (by rw [hg122]; decide)) rfl ?_; clear hE a; intro a hE
            refine WL.no hE (runs_not hE rfl rfl rfl (by rw [hg122]; decide)) rfl ?_; clear hE a; intro a hE
            refine WL.no hE (runs_not hE rfl rfl rfl (by rw [hg122]; decide)) rfl ?_; clear hE a; intro a hE
            refine WL.vS hS hE (runs_plain rfl) (Gives.pickT hE rfl hg122 rfl) rfl ?_; clear hE a; intro a hE
            refine WL.nil ?_
            subst hK121
            exact ⟨true, Option.some.inj hq116, hE.pick _ ⟨rfl, rfl, rfl, rfl, rfl, rfl, rfl, rfl, trivial⟩, hS⟩
          · replace hq116 := iteF hg122 hq116
            refine WL.vS hS hE (runs_if hE rfl rfl rfl hg122) (Gives.p hE rfl) rfl ?_; clear hE a; intro a hE
            refine WL.vS hS hE (runs_if hE rfl rfl rfl hg122) (Gives.p hE rfl) rfl ?_; clear hE a; intro a hE
            obtain ⟨x123, hx124, hq116⟩ := bindS hq116
            obtain ⟨hi125, hlt126, hy127⟩ := gx_some hx124
            obtain ⟨vs128, hl129, hR130, hd131, hget132⟩ := h96.at hy127
            subst hR130
            refine WL.vS hS hE (runs_if hE rfl rfl rfl hg122) (Gives.idx hE ((((k84 : Nat) : Int)).toNat) rfl rfl sl101 hi125 (by have := hn98; omega) (hS.vecAok 1 rfl (by have := hn98; omega : (((k84 : Nat) : Int)).toNat < x2.length))) rfl ?_; clear hE a; intro a hE
            refine WL.vS hS hE (runs_if hE rfl rfl rfl hg122) (Gives.load1 hE rfl (fun w h => St.vecSees h 1 rfl ((((k84 : Nat) : Int)).toNat * 1) _ hget132) ty4) rfl ?_; clear hE a; intro a hE
            refine WL.vS hS hE (runs_plain rfl) (Gives.pickF hE rfl hg122 rfl) rfl ?_; clear hE a; intro a hE
            refine WL.nil ?_
            subst hK121
            exact ⟨x123, Option.some.inj hq116, hE.pick _ ⟨rfl, rfl, rfl, rfl, rfl, rfl, rfl, rfl, trivial⟩, hS⟩
        · clear hE hS a w; rintro a w ⟨q120, rfl, hE, hS⟩
          refine W.cond hE rfl (fun hc133 => ?_) (fun hc133 => ?_)
          · replace hq82 := iteT hc133 hq82
            refine W.exit rfl ?_
            refine W.region ?_
            refine WL.vS hS hE (runs_plain rfl) (Gives.inc hE rfl (by have := h81.small; omega)) rfl ?_; clear hE a; intro a hE
            refine WL.vS hS hE (runs_plain rfl) (Gives.p hE rfl) rfl ?_; clear hE a; intro a hE
            refine WL.nil ?_
            subst hK111
            exact ⟨rest86.length, Nat.lt_succ_self _, rest86, k84 + 1, q93, q99, q105, cs97, cs103, cs109, rfl, hd87, hq82, h96, hn98, h102, hn104, h108, hn110, hE.pick _ ⟨rfl, rfl, rfl, rfl, rfl, rfl, trivial⟩, hS⟩
          · replace hq82 := iteF hc133 hq82
            refine W.skip ?_
            refine W.seq ?_
            refine W.region ?_
            refine WL.vS hS hE (runs_plain rfl) (Gives.p hE rfl) rfl ?_; clear hE a; intro a hE
            refine WL.vS hS hE (runs_plain rfl) (Gives.p hE rfl) rfl ?_; clear hE a; intro a hE
            obtain ⟨_, hx135, hq82⟩ := bindS hq82
            obtain ⟨h136, h137⟩ := ix_some hx135
            refine WL.vS hS hE (runs_plain rfl) (Gives.idx hE ((((k84 : Nat) : Int)).toNat) rfl rfl sl101 h136 (by have := hn98; omega) (hS.vecAok 1 rfl (by have := hn98; omega : (((k84 : Nat) : Int)).toNat < x2.length))) rfl ?_; clear hE a; intro a hE
            obtain ⟨x139, hx140, hq82⟩ := bindS hq82
            refine WL.setD hE hS 1 rfl (runs_plain rfl) rfl rfl (vs := [.bool true]) rfl ty4 rfl rfl rfl h96 hn98 (sx_some hx140).1 hx140 rfl rfl ?_; clear hE hS a w; intro cs141 a w h142 hn143 hE hS
            refine WL.nil ?_
            refine W.seq ?_
            obtain ⟨q145, hq144, hq82⟩ := bindS hq82
            refine W.cut (fun a w => ∃ (q148 : Bool), ∃ (q149 : List Bool), ∃ (q155 : List Int), ∃ (q161 : List Int), ∃ (cs153 : List Value), ∃ (cs159 : List Value), ∃ (cs165 : List Value), (q148, q149, q155, q161) = q145 ∧ Ev 1 RB s cs153 q149 ∧ q149.length = x2.length ∧ Ev 1 (RI .i64) s cs159 q155 ∧ q155.length = y0.next.length ∧ Ev 1 (RI .i64) s cs165 q161 ∧ q161.length = y0.prev.length ∧ Rep a 68 [(0, .pointer (some ⟨pb0, 0, none⟩)), (1, .int .i64 x1), (2, .slice a_v0 x2.length c_v0), (7, .int .i64 ((k84 : Nat) : Int)), (15, .slice a79 x69.length c80), (16, .int .i64 ((x69).length : Int)), (17, .int .i64 ((k84 : Nat) : Int)), (52, .bool q148)] ∧ St w s (pt pb0 (.cells #[.slice a_v1 y0.after.length c_v1, .slice a_v2 y0.next.length c_v2, .slice a_v3 y0.prev.length c_v3] 100 (0, 0)) :: vecC 4 1 a_v0 c_v0 x2.length cs153 :: vecC 101 1 a_v1 c_v1 y0.after.length cs_v1 :: vecC 3 1 a_v2 c_v2 y0.next.length cs159 :: vecC 3 1 a_v3 c_v3 y0.prev.length cs165 :: R)) ?_ ?_
            · refine W.gen fun K167 hK167 => ?_
              refine W.region ?_
              refine WL.vS hS hE (runs_plain rfl) (Gives.p hE rfl) rfl ?_; clear hE a; intro a hE
              refine WL.vS hS hE (runs_plain rfl) (Gives.nilOk hE rfl) rfl ?_; clear hE a; intro a hE
              refine WL.vS hS hE (runs_plain rfl) (Gives.fld hE rfl fl100_2) rfl ?_; clear hE a; intro a hE
              refine WL.vS hS hE (runs_plain rfl) (Gives.loadB hE 0 rfl rfl rfl ty44) rfl ?_; clear hE a; intro a hE
              refine WL.vS hS hE (runs_plain rfl) (Gives.p hE rfl) rfl ?_; clear hE a; intro a hE
              obtain ⟨x168, hx169, hq144⟩ := bindS hq144
              obtain ⟨hi170, hlt171, hy172⟩ := gx_some hx169
              obtain ⟨vs173, hl174, hR175, hd176, hget177⟩ := h108.at hy172
              subst hR175
              refine WL.vS hS hE (runs_plain rfl) (Gives.idx hE ((((k84 : Nat) : Int)).toNat) rfl rfl sl44 hi170 (by have := hn110; omega) (hS.vecAok 4 rfl (by have := hn110; omega : (((k84 : Nat) : Int)).toNat < y0.prev.length))) rfl ?_; clear hE a; intro a hE
              refine WL.vS hS hE (runs_plain rfl) (Gives.load1 hE rfl (fun w h => St.vecSees h 4 rfl ((((k84 : Nat) : Int)).toNat * 1) _ hget177) ty3) rfl ?_; clear hE a; intro a hE
              refine WL.vS hS hE (runs_plain rfl) (Gives.p hE rfl) rfl ?_; clear hE a; intro a hE
              refine WL.vS hS hE (runs_plain rfl) (Gives.p hE rfl) rfl ?_; clear hE a; intro a hE
              rcases Bool.eq_false_or_eq_true (decide (x168 < 0)) with hg178 | hg178
              · replace hq144 := iteT hg178 hq144
                refine WL.no hE (runs_not hE rfl rfl rfl (by rw [hg178]; decide)) rfl ?_; clear hE a; intro a hE
                refine WL.no hE (runs_not hE rfl rfl rfl (by rw [hg178]; decide)) rfl ?_; clear hE a; intro a hE
                refine WL.no hE (runs_not hE rfl rfl rfl (by rw [hg178]; decide)) rfl ?_; clear hE a; intro a hE
                refine WL.no hE (runs_not hE rfl rfl rfl (by rw [hg178]; decide)) rfl ?_; clear hE a; intro a hE
                refine WL.no hE (runs_not hE rfl rfl rfl (by rw [hg178]; decide)) rfl ?_; clear hE a; intro a hE
                refine WL.no hE (runs_not hE rfl rfl rfl (by rw [hg178]; decide)) rfl ?_; clear hE a; intro a hE
                refine WL.no hE (runs_not hE rfl rfl rfl (by rw [hg178]; decide)) rfl ?_; clear hE a; intro a hE
                refine WL.no hE (runs_not hE rfl rfl rfl (by rw [hg178]; decide)) rfl ?_; clear hE a; intro a hE
                refine WL.no hE (runs_not hE rfl rfl rfl (by rw [hg178]; decide)) rfl ?_; clear hE a; intro a hE
                refine WL.no hE (runs_not hE rfl rfl rfl (by rw [hg178]; decide)) rfl ?_; clear hE a; intro a hE
                refine WL.vS hS hE (runs_plain rfl) (Gives.pickT hE rfl hg178 rfl) rfl ?_; clear hE a; intro a hE
                refine WL.nil ?_
                subst hK167
                exact ⟨true, x139, q99, q105, cs141, cs103, cs109, Option.some.inj hq144, h142, hn143, h102, hn104, h108, hn110, hE.pick _ ⟨rfl, rfl, rfl, rfl, rfl, rfl, rfl, rfl, trivial⟩, hS⟩
              · replace hq144 := iteF hg178 hq144
                refine WL.vS hS hE (runs_if hE rfl rfl rfl hg178) (Gives.p hE rfl) rfl ?_; clear hE a; intro a hE
                refine WL.vS hS hE (runs_if hE rfl rfl rfl hg178) (Gives.p hE rfl) rfl ?_; clear hE a; intro a hE
                refine WL.vS hS hE (runs_if hE rfl rfl rfl hg178) (Gives.nilOk hE rfl) rfl ?_; clear hE a; intro a hE
                refine WL.vS hS hE (runs_if hE rfl rfl rfl hg178) (Gives.fld hE rfl fl100_2) rfl ?_; clear hE a; intro a hE
                refine WL.vS hS hE (runs_if hE rfl rfl rfl hg178) (Gives.loadB hE 0 rfl rfl rfl ty44) rfl ?_; clear hE a; intro a hE
                refine WL.vS hS hE (runs_if hE rfl rfl rfl hg178) (Gives.p hE rfl) rfl ?_; clear hE a; intro a hE
                obtain ⟨x179, hx180, hq144⟩ := bindS hq144
                obtain ⟨hi181, hlt182, hy183⟩ := gx_some hx180
                obtain ⟨vs184, hl185, hR186, hd187, hget188⟩ := h108.at hy183
                subst hR186
                refine WL.vS hS hE (runs_if hE rfl rfl rfl hg178) (Gives.idx hE ((((k84 : Nat) : Int)).toNat) rfl rfl sl44 hi181 (by have := hn110; omega) (hS.vecAok 4 rfl (by have := hn110; omega : (((k84 : Nat) : Int)).toNat < y0.prev.length))) rfl ?_; clear hE a; intro a hE
                refine WL.vS hS hE (runs_if hE rfl rfl rfl hg178) (Gives.load1 hE rfl (fun w h => St.vecSees h 4 rfl ((((k84 : Nat) : Int)).toNat * 1) _ hget188) ty3) rfl ?_; clear hE a; intro a hE
                refine WL.vS hS hE (runs_if hE rfl rfl rfl hg178) (Gives.p hE rfl) rfl ?_; clear hE a; intro a hE
                obtain ⟨q189, hq190, hq144⟩ := bindS hq144
                have hc_ := ih_FleetMatchinggrow_v1 (y0 := (FleetMatching.mk y0.after q99 q105)) hS h142 hn143 h_v1 (rfl) h102 hn104 h108 hn110 hq190
                refine WL.fnq hE (hc_) (runs_if hE rfl rfl rfl hg178) bd113 rfl rfl rfl ?_
                clear hE hS hc_; rintro e w ⟨cs191, cs194, cs197, rfl, h192, hn193, h195, hn196, h198, hn199, hS⟩; refine ⟨_, rfl, ?_⟩; clear a; intro a hE
                refine WL.vS hS hE (runs_plain rfl) (Gives.pickF hE rfl hg178 rfl) rfl ?_; clear hE a; intro a hE
                refine WL.nil ?_
                subst hK167
                exact ⟨q189.1, q189.2.1, q189.2.2.1, q189.2.2.2, cs191, cs194, cs197, Option.some.inj hq144, h192, hn193, h195, hn196, h198, hn199, hE.pick _ ⟨rfl, rfl, rfl, rfl, rfl, rfl, rfl, rfl, trivial⟩, hS⟩
            · clear hE hS a w; rintro a w ⟨q148, q149, q155, q161, cs153, cs159, cs165, rfl, h152, hn154, h158, hn160, h164, hn166, hE, hS⟩
              dsimp only at hq82
              refine W.cond hE rfl (fun hc200 => ?_) (fun hc200 => ?_)
              · replace hq82 := iteT hc200 hq82
                refine W.seq ?_
                refine W.gen fun K201 hK201 => ?_
                refine W.regionE (sel (fun w => St w s (pt pb0 (.cells #[.slice a_v1 y0.after.length c_v1, .slice a_v2 y0.next.length c_v2, .slice a_v3 y0.prev.length c_v3] 100 (0, 0)) :: vecC 4 1 a_v0 c_v0 x2.length cs153 :: vecC 101 1 a_v1 c_v1 y0.after.length cs_v1 :: vecC 3 1 a_v2 c_v2 y0.next.length cs159 :: vecC 3 1 a_v3 c_v3 y0.prev.length cs165 :: R)) (fun w => St w s (pt pb0 (.cells #[.slice a_v1 y0.after.length c_v1, .slice a_v2 y0.next.length c_v2, .slice a_v3 y0.prev.length c_v3] 100 (0, 0)) :: vecC 4 1 a_v0 c_v0 x2.length cs153 :: vecC 101 1 a_v1 c_v1 y0.after.length cs_v1 :: R))) (fun b i => cond b ([0, 1, 2, 3, 4, 5, 6, 7, 8, 9, 10, 11, 12, 14].contains i) ([0, 1, 2, 3, 4, 5, 6, 7, 8, 9, 10, 11, 12, 13, 14, 15].contains i)) mixed ?_
                replace hS := hS.drew
                refine Rg.takeP (i := 0) hE rfl (by kernel_rfl) (runs_plain rfl) (Gives.p hE rfl) rfl (tw_sel (fun _ => hS) (fun _ => ((hS.dropAt 3).dropAt 3))) ?_; clear hE a; intro a hE
                have hT := tw_sel (A := fun w => St w s (pt pb0 (.cells #[.slice a_v1 y0.after.length c_v1, .slice a_v2 y0.next.length c_v2, .slice a_v3 y0.prev.length c_v3] 100 (0, 0)) :: vecC 4 1 a_v0 c_v0 x2.length cs153 :: vecC 101 1 a_v1 c_v1 y0.after.length cs_v1 :: vecC 3 1 a_v2 c_v2 y0.next.length cs159 :: vecC 3 1 a_v3 c_v3 y0.prev.length cs165 :: R)) (B := fun w => St w s (pt pb0 (.cells #[.slice a_v1 y0.after.length c_v1, .slice a_v2 y0.next.length c_v2, .slice a_v3 y0.prev.length c_v3] 100 (0, 0)) :: vecC 4 1 a_v0 c_v0 x2.length cs153 :: vecC 101 1 a_v1 c_v1 y0.after.length cs_v1 :: R)) (w := _) (x := true) (y := true) (fun _ => hS) (fun _ => ((hS.dropAt 3).dropAt 3))
                have hF := hS; replace hS := hS
                refine Rg.take (i := 1) true rfl hE rfl (by kernel_rfl) (runs_plain rfl) (Gives.nilOk hE rfl) rfl hT ?_; clear hE a; intro a hE
                replace hS := hF; clear hF hT
                refine Rg.takeP (i := 2) hE rfl (by kernel_rfl) (runs_plain rfl) (Gives.fld hE rfl fl100_1) rfl (tw_sel (fun _ => hS) (fun _ => ((hS.dropAt 3).dropAt 3))) ?_; clear hE a; intro a hE
                have hT := tw_sel (A := fun w => St w s (pt pb0 (.cells #[.slice a_v1 y0.after.length c_v1, .slice a_v2 y0.next.length c_v2, .slice a_v3 y0.prev.length c_v3] 100 (0, 0)) :: vecC 4 1 a_v0 c_v0 x2.length cs153 :: vecC 101 1 a_v1 c_v1 y0.after.length cs_v1 :: vecC 3 1 a_v2 c_v2 y0.next.length cs159 :: vecC 3 1 a_v3 c_v3 y0.prev.length cs165 :: R)) (B := fun w => St w s (pt pb0 (.cells #[.slice a_v1 y0.after.length c_v1, .slice a_v2 y0.next.length c_v2, .slice a_v3 y0.prev.length c_v3] 100 (0, 0)) :: vecC 4 1 a_v0 c_v0 x2.length cs153 :: vecC 101 1 a_v1 c_v1 y0.after.length cs_v1 :: R)) (w := _) (x := true) (y := true) (fun _ => hS) (fun _ => ((hS.dropAt 3).dropAt 3))
                have hF := hS; replace hS := hS
                refine Rg.take (i := 3) true rfl hE rfl (by kernel_rfl) (runs_plain rfl) (Gives.loadB hE 0 rfl rfl rfl ty44) rfl hT ?_; clear hE a; intro a hE
                replace hS := hF; clear hF hT
                refine Rg.takeP (i := 4) hE rfl (by kernel_rfl) (runs_plain rfl) (Gives.p hE rfl) rfl (tw_sel (fun _ => hS) (fun _ => ((hS.dropAt 3).dropAt 3))) ?_; clear hE a; intro a hE
                refine Rg.takeP (i := 5) hE rfl (by kernel_rfl) (runs_plain rfl) (Gives.p hE rfl) rfl (tw_sel (fun _ => hS) (fun _ => ((hS.dropAt 3).dropAt 3))) ?_; clear hE a; intro a hE
                have hT := tw_sel (A := fun w => St w s (pt pb0 (.cells #[.slice a_v1 y0.after.length c_v1, .slice a_v2 y0.next.length c_v2, .slice a_v3 y0.prev.length c_v3] 100 (0, 0)) :: vecC 4 1 a_v0 c_v0 x2.length cs153 :: vecC 101 1 a_v1 c_v1 y0.after.length cs_v1 :: vecC 3 1 a_v2 c_v2 y0.next.length cs159 :: vecC 3 1 a_v3 c_v3 y0.prev.length cs165 :: R)) (B := fun w => St w s (pt pb0 (.cells #[.slice a_v1 y0.after.length c_v1, .slice a_v2 y0.next.length c_v2, .slice a_v3 y0.prev.length c_v3] 100 (0, 0)) :: vecC 4 1 a_v0 c_v0 x2.length cs153 :: vecC 101 1 a_v1 c_v1 y0.after.length cs_v1 :: R)) (w := _) (x := true) (y := true) (fun _ => hS) (fun _ => ((hS.dropAt 3).dropAt 3))
                have hF := hS; replace hS := ((hS.dropAt 3).dropAt 3)
                refine Rg.take (i := 6) false rfl hE rfl (by kernel_rfl) (runs_plain rfl) (Gives.nilOk hE rfl) rfl hT ?_; clear hE a; intro a hE
                replace hS := hF; clear hF hT
                refine Rg.takeP (i := 7) hE rfl (by kernel_rfl) (runs_plain rfl) (Gives.fld hE rfl fl100_2) rfl (tw_sel (fun _ => hS) (fun _ => ((hS.dropAt 3).dropAt 3))) ?_; clear hE a; intro a hE
                have hT := tw_sel (A := fun w => St w s (pt pb0 (.cells #[.slice a_v1 y0.after.length c_v1, .slice a_v2 y0.next.length c_v2, .slice a_v3 y0.prev.length c_v3] 100 (0, 0)) :: vecC 4 1 a_v0 c_v0 x2.length cs153 :: vecC 101 1 a_v1 c_v1 y0.after.length cs_v1 :: vecC 3 1 a_v2 c_v2 y0.next.length cs159 :: vecC 3 1 a_v3 c_v3 y0.prev.length cs165 :: R)) (B := fun w => St w s (pt pb0 (.cells #[.slice a_v1 y0.after.length c_v1, .slice a_v2 y0.next.length c_v2, .slice a_v3 y0.prev.length c_v3] 100 (0, 0)) :: vecC 4 1 a_v0 c_v0 x2.length cs153 :: vecC 101 1 a_v1 c_v1 y0.after.length cs_v1 :: R)) (w := _) (x := true) (y := true) (fun _ => hS) (fun _ => ((hS.dropAt 3).dropAt 3))
                have hF := hS; replace hS := hS
                refine Rg.take (i := 8) true rfl hE rfl (by kernel_rfl) (runs_plain rfl) (Gives.loadB hE 0 rfl rfl rfl ty44) rfl hT ?_; clear hE a; intro a hE
                replace hS := hF; clear hF hT
                refine Rg.takeP (i := 9) hE rfl (by kernel_rfl) (runs_plain rfl) (Gives.p hE rfl) rfl (tw_sel (fun _ => hS) (fun _ => ((hS.dropAt 3).dropAt 3))) ?_; clear hE a; intro a hE
                refine Rg.takeP (i := 10) hE rfl (by kernel_rfl) (runs_plain rfl) (Gives.p hE rfl) rfl (tw_sel (fun _ => hS) (fun _ => ((hS.dropAt 3).dropAt 3))) ?_; clear hE a; intro a hE
                refine Rg.takeP (i := 11) hE rfl (by kernel_rfl) (runs_plain rfl) (Gives.p hE rfl) rfl (tw_sel (fun _ => hS) (fun _ => ((hS.dropAt 3).dropAt 3))) ?_; clear hE a; intro a hE
                obtain ⟨_, hx203, hq82⟩ := bindS hq82
                obtain ⟨h204, h205⟩ := ix_some hx203
                refine Rg.takeP (i := 12) hE rfl (by kernel_rfl) (runs_plain rfl) (Gives.idx hE ((x1).toNat) rfl rfl sl44 h204 (by have := hn160; omega) (hS.vecAok 3 rfl (by have := hn160; omega : (x1).toNat < y0.next.length))) rfl (tw_sel (fun _ => hS) (fun _ => ((hS.dropAt 3).dropAt 3))) ?_; clear hE a; intro a hE
                refine Rg.one (i := 13) false true rfl (by kernel_rfl) (by kernel_rfl) (by kernel_rfl) ?_
                obtain ⟨x207, hx208, hq82⟩ := bindS hq82
                refine WL.setD hE hS 3 rfl (runs_plain rfl) rfl rfl (vs := [.int .i64 ((k84 : Nat) : Int)]) rfl ty3 rfl rfl rfl h158 hn160 (sx_some hx208).1 hx208 rfl rfl ?_; clear hE hS a w; intro cs209 a w h210 hn211 hE hS
                refine WL.nil ?_
                refine ⟨⟨fun h => absurd h (by decide), fun _ => ((hS.dropAt 3).dropAt 3)⟩, ?_⟩
                obtain ⟨_, hx213, hq82⟩ := bindS hq82
                obtain ⟨h214, h215⟩ := ix_some hx213
                refine Rg.takeP (i := 14) hE rfl (by kernel_rfl) (runs_plain rfl) (Gives.idx hE ((((k84 : Nat) : Int)).toNat) rfl rfl sl44 h214 (by have := hn166; omega) (hS.vecAok 4 rfl (by have := hn166; omega : (((k84 : Nat) : Int)).toNat < y0.prev.length))) rfl (tw_sel (fun h => absurd h (by decide)) (fun _ => ((hS.dropAt 3).dropAt 3))) ?_; clear hE a; intro a hE
                refine Rg.one (i := 15) false true rfl (by kernel_rfl) (by kernel_rfl) (by kernel_rfl) ?_
                obtain ⟨x217, hx218, hq82⟩ := bindS hq82
                refine WL.setD hE hS 4 rfl (runs_plain rfl) rfl rfl (vs := [.int .i64 x1]) rfl ty3 rfl rfl rfl h164 hn166 (sx_some hx218).1 hx218 rfl rfl ?_; clear hE hS a w; intro cs219 a w h220 hn221 hE hS
                refine WL.nil ?_
                refine ⟨⟨fun h => absurd h (by decide), fun _ => ((hS.dropAt 3).dropAt 3)⟩, ?_⟩
                refine Rg.done (by kernel_rfl) ?_
                subst hK201
                refine W.seq ?_
                refine W.region ?_
                refine WL.vS hS hE (runs_plain rfl) (Gives.p hE rfl) rfl ?_; clear hE a; intro a hE
                refine WL.nil ?_
                refine W.ret ?_
                subst hK111
                rw [← Option.some.inj hq82] at hr
                dsimp only at hr
                refine finG (fn := Try.f113) (rs := [.tmp 6]) (vs := [_]) hE rfl ⟨rfl, trivial⟩ ?_
                obtain rfl := Option.some.inj hr
                exact ⟨cs153, cs209, cs219, rfl, h152, hn154, h210, hn211, h220, hn221, hS⟩
              · replace hq82 := iteF hc200 hq82
                refine W.skip ?_
                refine W.region ?_
                refine WL.vS hS hE (runs_plain rfl) (Gives.inc hE rfl (by have := h81.small; omega)) rfl ?_; clear hE a; intro a hE
                refine WL.vS hS hE (runs_plain rfl) (Gives.p hE rfl) rfl ?_; clear hE a; intro a hE
                refine WL.nil ?_
                subst hK111
                exact ⟨rest86.length, Nat.lt_succ_self _, rest86, k84 + 1, q149, q155, q161, cs153, cs159, cs165, rfl, hd87, hq82, h152, hn154, h158, hn160, h164, hn166, hE.pick _ ⟨rfl, rfl, rfl, rfl, rfl, rfl, trivial⟩, hS⟩
    · clear hE hS a w; rintro a w ⟨q93, q99, q105, cs97, cs103, cs109, rfl, h96, hn98, h102, hn104, h108, hn110, hE, hS⟩
      dsimp only at hr
      refine W.seq ?_
      refine W.region ?_
      refine WL.vS hS hE (runs_plain rfl) (Gives.p hE rfl) rfl ?_; clear hE a; intro a hE
      refine WL.nil ?_
      refine W.ret ?_
      refine finG (fn := Try.f113) (rs := [.tmp 6]) (vs := [_]) hE rfl ⟨rfl, trivial⟩ ?_
      obtain rfl := Option.some.inj hr
      exact ⟨cs97, cs103, cs109, rfl, h96, hn98, h102, hn104, h108, hn110, hS⟩
set_option maxHeartbeats 8000000 in
theorem Fleetmatch_ok {fu : Nat}  {w : World} {s : Sg} {R : List HP} {x0 : List FleetTask} {a0 : Option Addr} {c0 : Nat} {x1 : Int} {x2 : List (List Int)} {a2 : Option Addr} {c2 : Nat} (hS : St w s (R)) (h0 : Sl 6 RFleetTask s a0 c0 x0) (h2 : Sl 1 (RL 1 (RI .i64)) s a2 c2 x2) {r : (Option FleetMatching)} (hr : Fleetmatch fu x0 x1 x2 = some r) :
    Calls Try.prog 69 [.slice a0 x0.length c0, .int .i64 x1, .slice a2 x2.length c2].toArray w (fun e w => ∃ (a0 : Option Addr) (t : Sg), e = .returned (.pointer a0) ∧ s.Le t ∧ Pt 3 RFleetMatching t a0 r ∧ St w t (R)) := by
  refine enter Try.func69 rfl rfl rfl fun a hE => ?_
  rw [Fleetmatch] at hr
  refine W.seq ?_
  refine W.region ?_
  refine WL.vS hS hE (runs_plain rfl) (Gives.p hE rfl) rfl ?_; clear hE a; intro a hE
  refine WL.nil ?_
  refine W.seq ?_
  refine W.region ?_
  refine WL.lit hE hS (e := 3) (es := 1) (vs := [(0, .int .i64 (-1))]) (cs := [.int .i64 (-1)]) (runs_plain rfl) rfl (by kernel_rfl) rfl ?_; clear hE hS a w; intro b51 a w hE hS
  replace hS := hS.ptVec (es := 1) (m := 1) rfl (by decide)
  have h53 : Ev 1 (RI .i64) s [.int .i64 (-1)] [(-1)] := (Ev.cons (c1 := [.int .i64 (-1)]) rfl rfl (Ev.nil))
  have hF := hS.fixD RI.mono 0 rfl h53 (rfl); clear hS; obtain ⟨s54, hle55, hS, h56⟩ := hF
  replace h0 := Sl.mono RFleetTask.mono hle55 h0
  replace h2 := Sl.mono (RL.mono RI.mono) hle55 h2
  refine WL.vS hS hE (runs_plain rfl) (Gives.p hE rfl) rfl ?_; clear hE a; intro a hE
  refine WL.vS hS hE (runs_plain rfl) (Gives.len hE rfl sl32) rfl ?_; clear hE a; intro a hE
  obtain ⟨q57, hq58, hr⟩ := bindS hr
  have hc_ := SlicesRepeatLint_ok hS h56 hq58
  refine WL.fnq hE (hc_) (runs_plain rfl) bd112 rfl rfl rfl ?_
  clear hE hS hc_; rintro e w ⟨a59, c60, n61, cs62, rfl, h63, rfl, hS⟩; refine ⟨_, rfl, ?_⟩; clear a; intro a hE
  refine WL.lit hE hS (e := 3) (es := 1) (vs := [(0, .int .i64 (-1))]) (cs := [.int .i64 (-1)]) (runs_plain rfl) rfl (by kernel_rfl) rfl ?_; clear hE hS a w; intro b65 a w hE hS
  replace hS := hS.ptVec (es := 1) (m := 1) rfl (by decide)
  have h67 : Ev 1 (RI .i64) s54 [.int .i64 (-1)] [(-1)] := (Ev.cons (c1 := [.int .i64 (-1)]) rfl rfl (Ev.nil))
  have hF := hS.fixD RI.mono 0 rfl h67 (rfl); clear hS; obtain ⟨s68, hle69, hS, h70⟩ := hF
  replace h0 := Sl.mono RFleetTask.mono hle69 h0
  replace h2 := Sl.mono (RL.mono RI.mono) hle69 h2
  replace h56 := Sl.mono RI.mono hle69 h56
  replace h63 := Ev.mono RI.mono hle69 h63
  refine WL.vS hS hE (runs_plain rfl) (Gives.p hE rfl) rfl ?_; clear hE a; intro a hE
  refine WL.vS hS hE (runs_plain rfl) (Gives.len hE rfl sl32) rfl ?_; clear hE a; intro a hE
  obtain ⟨q71, hq72, hr⟩ := bindS hr
  have hc_ := SlicesRepeatLint_ok hS h70 hq72
  refine WL.fnq hE (hc_) (runs_plain rfl) bd112 rfl rfl rfl ?_
  clear hE hS hc_; rintro e w ⟨a73, c74, n75, cs76, rfl, h77, rfl, hS⟩; refine ⟨_, rfl, ?_⟩; clear a; intro a hE
  refine WL.vS hS hE (runs_plain rfl) (Gives.build hE (vs := [(1, .slice a59 q57.length c60), (2, .slice a73 q71.length c74)]) [.slice none 0 0, .slice a59 q57.length c60, .slice a73 q71.length c74] rfl (by kernel_rfl)) rfl ?_; clear hE a; intro a hE
  refine WL.box hE hS (runs_plain rfl) rfl rfl rfl ?_; clear hE hS a w; intro b79 a w hE hS
  refine WL.vS hS hE (runs_plain rfl) (Gives.p hE rfl) rfl ?_; clear hE a; intro a hE
  refine WL.nil ?_
  refine W.seq ?_
  refine W.seq ?_
  refine W.region ?_
  refine WL.vS hS hE (runs_plain rfl) (Gives.p hE rfl) rfl ?_; clear hE a; intro a hE
  refine WL.vS hS hE (runs_plain rfl) (Gives.len hE rfl sl32) rfl ?_; clear hE a; intro a hE
  refine WL.vS hS hE (runs_plain rfl) (Gives.p hE rfl) rfl ?_; clear hE a; intro a hE
  refine WL.nil ?_
  replace hS := hS.vecNil 101 1
  obtain ⟨q82, hq81, hr⟩ := bindS hr
  refine W.cut (fun a w => ∃ (q92 : List (List Bool)), ∃ (a93 : Option Addr), ∃ (c94 : Nat), ∃ (n96 : Nat), ∃ (cs97 : List Value), ∃ (s90 : Sg), s68.Le s90 ∧ q92 = q82 ∧ Ev 1 (RL 1 RB) s90 cs97 q92 ∧ q92.length = n96 ∧ Rep a 81 [(0, .slice a0 x0.length c0), (7, .pointer (some ⟨b79, 0, none⟩))] ∧ St w s90 (vecC 101 1 a93 c94 n96 cs97 :: pt b79 (.cells #[.slice a93 n96 c94, .slice a59 q57.length c60, .slice a73 q71.length c74] 100 (0, 0)) :: vecC 3 1 a73 c74 q71.length cs76 :: vecC 3 1 a59 c60 q57.length cs62 :: R)) ?_ ?_
  · refine W.block ?_
    refine W.loop (fun m a w => ∃ (rest85 : List FleetTask) (k83 : Nat), ∃ (q92 : List (List Bool)), ∃ (a93 : Option Addr), ∃ (c94 : Nat), ∃ (n96 : Nat), ∃ (cs97 : List Value), ∃ (s90 : Sg), rest85.length = m ∧ x0.drop k83 = rest85 ∧ s68.Le s90 ∧ Fleetmatch.loop1 x0 x1 x2 rest85 q92 = some q82 ∧ Ev 1 (RL 1 RB) s90 cs97 q92 ∧ q92.length = n96 ∧ Rep a 81 [(0, .slice a0 x0.length c0), (1, .int .i64 x1), (2, .slice a2 x2.length c2), (7, .pointer (some ⟨b79, 0, none⟩)), (24, .slice a0 x0.length c0), (25, .int .i64 ((x0).length : Int)), (26, .int .i64 ((k83 : Nat) : Int))] ∧ St w s90 (vecC 101 1 a93 c94 n96 cs97 :: pt b79 (.cells #[.slice a93 n96 c94, .slice a59 q57.length c60, .slice a73 q71.length c74] 100 (0, 0)) :: vecC 3 1 a73 c74 q71.length cs76 :: vecC 3 1 a59 c60 q57.length cs62 :: R)) (m := x0.length) ⟨x0, 0, [], none, 0, 0, [], s68, rfl, rfl, (Sg.Le.refl _), hq81, (Ev.nil), (rfl), hE.pick _ ⟨rfl, rfl, rfl, rfl, rfl, rfl, rfl, trivial⟩, hS⟩ ?_
    clear hE hS a w hq81; rintro m89 a w ⟨rest85, k83, q92, a93, c94, n96, cs97, s90, rfl, hd86, hle91, hq81, h95, rfl, hE, hS⟩
    refine W.gen fun K99 hK99 => ?_
    replace h0 := Sl.mono RFleetTask.mono hle91 h0
    replace h2 := Sl.mono (RL.mono RI.mono) hle91 h2
    replace h56 := Sl.mono RI.mono hle91 h56
    replace h70 := Sl.mono RI.mono hle91 h70
    replace h77 := Ev.mono RI.mono hle91 h77
    replace h63 := Ev.mono RI.mono hle91 h63
    rcases rest85 with _ | ⟨x84, rest85⟩
    · have hlt87 := drop_nil hd86
      refine W.seq ?_
      refine W.region ?_
      refine WL.vS hS hE (runs_plain rfl) (Gives.p hE rfl) rfl ?_; clear hE a; intro a hE
      refine WL.nil ?_
      refine W.seq ?_
      refine W.condF hE rfl (decide_eq_false (by omega)) ?_
      subst hK99
      refine W.exit rfl ?_
      exact ⟨q92, a93, c94, q92.length, cs97, s90, hle91, Option.some.inj hq81, h95, rfl, hE.pick _ ⟨rfl, rfl, trivial⟩, hS⟩
    · obtain ⟨hlt87, hx88, hd86⟩ := drop_cons hd86
      rw [Fleetmatch.loop1] at hq81
      refine W.seq ?_
      refine W.region ?_
      refine WL.vS hS hE (runs_plain rfl) (Gives.p hE rfl) rfl ?_; clear hE a; intro a hE
      refine WL.nil ?_
      refine W.seq ?_
      refine W.condT hE rfl (decide_eq_true (by omega)) ?_
      refine W.skip ?_
      refine W.seq ?_
      refine W.block ?_
      refine W.seq ?_
      refine W.region ?_
      obtain ⟨cs100, hl101, hR102, hat103⟩ := h0.at hx88
      subst hR102
      refine WL.vS hS hE (runs_plain rfl) (Gives.idx hE k83 rfl rfl sl32 rfl hlt87 (h0.aok hlt87)) rfl ?_; clear hE a; intro a hE
      refine WL.vS hS hE (runs_plain rfl) (Gives.loadA hE rfl (fun w h => hat103 w _ h) ty78) rfl ?_; clear hE a; intro a hE
      refine WL.alloc hE hS (runs_plain rfl) zr78 rfl ?_; clear hE hS a w; intro b104 a w hE hS
      refine WL.storeI hE hS 0 rfl (FleetTask.cells x84) (runs_plain rfl) rfl rfl rfl ty78 rfl rfl rfl rfl ?_; clear hE hS a w; intro a w hE hS
      refine WL.nil ?_
      refine W.seq ?_
      refine W.region ?_
      replace hS := hS.vecNil 4 1
      refine WL.vS hS hE (runs_plain rfl) (Gives.p hE rfl) rfl ?_; clear hE a; intro a hE
      refine WL.nil ?_
      refine W.seq ?_
      refine W.seq ?_
      refine W.region ?_
      refine WL.vS hS hE (runs_plain rfl) (Gives.p hE rfl) rfl ?_; clear hE a; intro a hE
      refine WL.vS hS hE (runs_plain rfl) (Gives.len hE rfl sl32) rfl ?_; clear hE a; intro a hE
      refine WL.vS hS hE (runs_plain rfl) (Gives.p hE rfl) rfl ?_; clear hE a; intro a hE
      refine WL.nil ?_
      obtain ⟨q107, hq106, hq81⟩ := bindS hq81
      refine W.cut (fun a w => ∃ (q117 : List Bool), ∃ (a118 : Option Addr), ∃ (c119 : Nat), ∃ (n121 : Nat), ∃ (cs122 : List Value), q117 = q107 ∧ Ev 1 RB s90 cs122 q117 ∧ q117.length = n121 ∧ Rep a 81 [(0, .slice a0 x0.length c0), (1, .int .i64 x1), (2, .slice a2 x2.length c2), (7, .pointer (some ⟨b79, 0, none⟩)), (10, .slice a118 n121 c119), (24, .slice a0 x0.length c0), (25, .int .i64 ((x0).length : Int)), (26, .int .i64 ((k83 : Nat) : Int))] ∧ St w s90 (vecC 4 1 a118 c119 n121 cs122 :: pt b104 (.cells (FleetTask.cells x84).toArray 78 (0, 0)) :: vecC 101 1 a93 c94 q92.length cs97 :: pt b79 (.cells #[.slice a93 q92.length c94, .slice a59 q57.length c60, .slice a73 q71.length c74] 100 (0, 0)) :: vecC 3 1 a73 c74 q71.length cs76 :: vecC 3 1 a59 c60 q57.length cs62 :: R)) ?_ ?_
      · refine W.block ?_
        refine W.loop (fun m a w => ∃ (rest110 : List FleetTask) (k108 : Nat), ∃ (q117 : List Bool), ∃ (a118 : Option Addr), ∃ (c119 : Nat), ∃ (n121 : Nat), ∃ (cs122 : List Value), rest110.length = m ∧ x0.drop k108 = rest110 ∧ Fleetmatch.loop2 x1 x2 x84 rest110 q117 = some q107 ∧ Ev 1 RB s90 cs122 q117 ∧ q117.length = n121 ∧ Rep a 81 [(0, .slice a0 x0.length c0), (1, .int .i64 x1), (2, .slice a2 x2.length c2), (7, .pointer (some ⟨b79, 0, none⟩)), (9, .pointer (some ⟨b104, 0, none⟩)), (10, .slice a118 n121 c119), (24, .slice a0 x0.length c0), (25, .int .i64 ((x0).length : Int)), (26, .int .i64 ((k83 : Nat) : Int)), (30, .slice a0 x0.length c0), (31, .int .i64 ((x0).length : Int)), (32, .int .i64 ((k108 : Nat) : Int))] ∧ St w s90 (vecC 4 1 a118 c119 n121 cs122 :: pt b104 (.cells (FleetTask.cells x84).toArray 78 (0, 0)) :: vecC 101 1 a93 c94 q92.length cs97 :: pt b79 (.cells #[.slice a93 q92.length c94, .slice a59 q57.length c60, .slice a73 q71.length c74] 100 (0, 0)) :: vecC 3 1 a73 c74 q71.length cs76 :: vecC 3 1 a59 c60 q57.length cs62 :: R)) (m := x0.length) ⟨x0, 0, [], none, 0, 0, [], rfl, rfl, hq106, (Ev.nil), (rfl), hE.pick _ ⟨rfl, rfl, rfl, rfl, rfl, rfl, rfl, rfl, rfl, rfl, rfl, rfl, trivial⟩, hS⟩ ?_
        clear hE hS a w hq106; rintro m114 a w ⟨rest110, k108, q117, a118, c119, n121, cs122, rfl, hd111, hq106, h120, rfl, hE, hS⟩
        refine W.gen fun K124 hK124 => ?_
        rcases rest110 with _ | ⟨x109, rest110⟩
        · have hlt112 := drop_nil hd111
          refine W.seq ?_
          refine W.region ?_
          refine WL.vS hS hE (runs_plain rfl) (Gives.p hE rfl) rfl ?_; clear hE a; intro a hE
          refine WL.nil ?_
          refine W.seq ?_
          refine W.condF hE rfl (decide_eq_false (by omega)) ?_
          subst hK124
          refine W.exit rfl ?_
          exact ⟨q117, a118, c119, q117.length, cs122, Option.some.inj hq106, h120, rfl, hE.pick _ ⟨rfl, rfl, rfl, rfl, rfl, rfl, rfl, rfl, trivial⟩, hS⟩
        · obtain ⟨hlt112, hx113, hd111⟩ := drop_cons hd111
          rw [Fleetmatch.loop2] at hq106
          refine W.seq ?_
          refine W.region ?_
          refine WL.vS hS hE (runs_plain rfl) (Gives.p hE rfl) rfl ?_; clear hE a; intro a hE
          refine WL.nil ?_
          refine W.seq ?_
          refine W.condT hE rfl (decide_eq_true (by omega)) ?_
          refine W.skip ?_
          refine W.seq ?_
          refine W.block ?_
          refine W.seq ?_
          refine W.region ?_
          obtain ⟨cs125, hl126, hR127, hat128⟩ := h0.at hx113
          subst hR127
          refine WL.vS hS hE (runs_plain rfl) (Gives.idx hE k108 rfl rfl sl32 rfl hlt112 (h0.aok hlt112)) rfl ?_; clear hE a; intro a hE
          refine WL.vS hS hE (runs_plain rfl) (Gives.loadA hE rfl (fun w h => hat128 w _ h) ty78) rfl ?_; clear hE a; intro a hE
          refine WL.alloc hE hS (runs_plain rfl) zr78 rfl ?_; clear hE hS a w; intro b129 a w hE hS
          refine WL.storeI hE hS 0 rfl (FleetTask.cells x109) (runs_plain rfl) rfl rfl rfl ty78 rfl rfl rfl rfl ?_; clear hE hS a w; intro a w hE hS
          refine WL.nil ?_
          refine W.gen fun K130 hK130 => ?_
          refine W.regionE (sel (fun w => St w s90 (pt b129 (.cells (FleetTask.cells x109).toArray 78 (0, 0)) :: vecC 4 1 a118 c119 q117.length cs122 :: pt b104 (.cells (FleetTask.cells x84).toArray 78 (0, 0)) :: vecC 101 1 a93 c94 q92.length cs97 :: pt b79 (.cells #[.slice a93 q92.length c94, .slice a59 q57.length c60, .slice a73 q71.length c74] 100 (0, 0)) :: vecC 3 1 a73 c74 q71.length cs76 :: vecC 3 1 a59 c60 q57.length cs62 :: R)) (fun w => St w s90 (pt b129 (.cells (FleetTask.cells x109).toArray 78 (0, 0)) :: pt b104 (.cells (FleetTask.cells x84).toArray 78 (0, 0)) :: vecC 101 1 a93 c94 q92.length cs97 :: pt b79 (.cells #[.slice a93 q92.length c94, .slice a59 q57.length c60, .slice a73 q71.length c74] 100 (0, 0)) :: vecC 3 1 a73 c74 q71.length cs76 :: vecC 3 1 a59 c60 q57.length cs62 :: R))) (fun b i => cond b ([0, 1, 2, 3, 4, 5, 6, 7, 8, 9, 10, 11, 12, 13, 14, 15, 16, 17, 18, 20].contains i) ([0, 1, 2, 3, 4, 5, 6, 7, 8, 9, 10, 11, 12, 13, 14, 15, 16, 17, 18, 19, 20].contains i)) mixed ?_
          replace hS := hS.drew
          refine Rg.takeP (i := 0) hE rfl (by kernel_rfl) (runs_plain rfl) (Gives.p hE rfl) rfl (tw_sel (fun _ => hS) (fun _ => (hS.dropAt 1))) ?_; clear hE a; intro a hE
          refine Rg.takeP (i := 1) hE rfl (by kernel_rfl) (runs_plain rfl) (Gives.fld hE rfl fl78_2) rfl (tw_sel (fun _ => hS) (fun _ => (hS.dropAt 1))) ?_; clear hE a; intro a hE
          have hT := tw_sel (A := fun w => St w s90 (pt b129 (.cells (FleetTask.cells x109).toArray 78 (0, 0)) :: vecC 4 1 a118 c119 q117.length cs122 :: pt b104 (.cells (FleetTask.cells x84).toArray 78 (0, 0)) :: vecC 101 1 a93 c94 q92.length cs97 :: pt b79 (.cells #[.slice a93 q92.length c94, .slice a59 q57.length c60, .slice a73 q71.length c74] 100 (0, 0)) :: vecC 3 1 a73 c74 q71.length cs76 :: vecC 3 1 a59 c60 q57.length cs62 :: R)) (B := fun w => St w s90 (pt b129 (.cells (FleetTask.cells x109).toArray 78 (0, 0)) :: pt b104 (.cells (FleetTask.cells x84).toArray 78 (0, 0)) :: vecC 101 1 a93 c94 q92.length cs97 :: pt b79 (.cells #[.slice a93 q92.length c94, .slice a59 q57.length c60, .slice a73 q71.length c74] 100 (0, 0)) :: vecC 3 1 a73 c74 q71.length cs76 :: vecC 3 1 a59 c60 q57.length cs62 :: R)) (w := _) (x := true) (y := true) (fun _ => hS) (fun _ => (hS.dropAt 1))
          have hF := hS; replace hS := (hS.dropAt 1)
          refine Rg.take (i := 2) false rfl hE rfl (by kernel_rfl) (runs_plain rfl) (Gives.loadB hE 0 rfl rfl rfl ty3) rfl hT ?_; clear hE a; intro a hE
          replace hS := hF; clear hF hT
          refine Rg.takeP (i := 3) hE rfl (by kernel_rfl) (runs_plain rfl) (Gives.fld hE rfl fl78_3) rfl (tw_sel (fun _ => hS) (fun _ => (hS.dropAt 1))) ?_; clear hE a; intro a hE
          have hT := tw_sel (A := fun w => St w s90 (pt b129 (.cells (FleetTask.cells x109).toArray 78 (0, 0)) :: vecC 4 1 a118 c119 q117.length cs122 :: pt b104 (.cells (FleetTask.cells x84).toArray 78 (0, 0)) :: vecC 101 1 a93 c94 q92.length cs97 :: pt b79 (.cells #[.slice a93 q92.length c94, .slice a59 q57.length c60, .slice a73 q71.length c74] 100 (0, 0)) :: vecC 3 1 a73 c74 q71.length cs76 :: vecC 3 1 a59 c60 q57.length cs62 :: R)) (B := fun w => St w s90 (pt b129 (.cells (FleetTask.cells x109).toArray 78 (0, 0)) :: pt b104 (.cells (FleetTask.cells x84).toArray 78 (0, 0)) :: vecC 101 1 a93 c94 q92.length cs97 :: pt b79 (.cells #[.slice a93 q92.length c94, .slice a59 q57.length c60, .slice a73 q71.length c74] 100 (0, 0)) :: vecC 3 1 a73 c74 q71.length cs76 :: vecC 3 1 a59 c60 q57.length cs62 :: R)) (w := _) (x := true) (y := true) (fun _ => hS) (fun _ => (hS.dropAt 1))
          have hF := hS; replace hS := (hS.dropAt 1)
          refine Rg.take (i := 4) false rfl hE rfl (by kernel_rfl) (runs_plain rfl) (Gives.loadB hE 1 rfl rfl rfl ty3) rfl hT ?_; clear hE a; intro a hE
          replace hS := hF; clear hF hT
          refine Rg.takeP (i := 5) hE rfl (by kernel_rfl) (runs_plain rfl) (Gives.p hE rfl) rfl (tw_sel (fun _ => hS) (fun _ => (hS.dropAt 1))) ?_; clear hE a; intro a hE
          refine Rg.takeP (i := 6) hE rfl (by kernel_rfl) (runs_plain rfl) (Gives.p hE rfl) rfl (tw_sel (fun _ => hS) (fun _ => (hS.dropAt 1))) ?_; clear hE a; intro a hE
          refine Rg.takeP (i := 7) hE rfl (by kernel_rfl) (runs_plain rfl) (Gives.p hE rfl) rfl (tw_sel (fun _ => hS) (fun _ => (hS.dropAt 1))) ?_; clear hE a; intro a hE
          refine Rg.takeP (i := 8) hE rfl (by kernel_rfl) (runs_plain rfl) (Gives.fld hE rfl fl78_1) rfl (tw_sel (fun _ => hS) (fun _ => (hS.dropAt 1))) ?_; clear hE a; intro a hE
          have hT := tw_sel (A := fun w => St w s90 (pt b129 (.cells (FleetTask.cells x109).toArray 78 (0, 0)) :: vecC 4 1 a118 c119 q117.length cs122 :: pt b104 (.cells (FleetTask.cells x84).toArray 78 (0, 0)) :: vecC 101 1 a93 c94 q92.length cs97 :: pt b79 (.cells #[.slice a93 q92.length c94, .slice a59 q57.length c60, .slice a73 q71.length c74] 100 (0, 0)) :: vecC 3 1 a73 c74 q71.length cs76 :: vecC 3 1 a59 c60 q57.length cs62 :: R)) (B := fun w => St w s90 (pt b129 (.cells (FleetTask.cells x109).toArray 78 (0, 0)) :: pt b104 (.cells (FleetTask.cells x84).toArray 78 (0, 0)) :: vecC 101 1 a93 c94 q92.length cs97 :: pt b79 (.cells #[.slice a93 q92.length c94, .slice a59 q57.length c60, .slice a73 q71.length c74] 100 (0, 0)) :: vecC 3 1 a73 c74 q71.length cs76 :: vecC 3 1 a59 c60 q57.length cs62 :: R)) (w := _) (x := true) (y := true) (fun _ => hS) (fun _ => (hS.dropAt 1))
          have hF := hS; replace hS := (hS.dropAt 1)
          refine Rg.take (i := 9) false rfl hE rfl (by kernel_rfl) (runs_plain rfl) (Gives.loadB hE 1 rfl rfl rfl ty3) rfl hT ?_; clear hE a; intro a hE
          replace hS := hF; clear hF hT
          obtain ⟨x131, hx132, hq106⟩ := bindS hq106
          obtain ⟨hi133, hlt134, hy135⟩ := gx_some hx132
          obtain ⟨cs136, hl137, hR138, hat139⟩ := h2.at hy135
          obtain ⟨a140, c141, rfl, h142⟩ := hR138
          refine Rg.takeP (i := 10) hE rfl (by kernel_rfl) (runs_plain rfl) (Gives.idx hE (x84.To).toNat rfl rfl sl25 hi133 hlt134 (h2.aok hlt134)) rfl (tw_sel (fun _ => hS) (fun _ => (hS.dropAt 1))) ?_; clear hE a; intro a hE
          have hT := tw_sel (A := fun w => St w s90 (pt b129 (.cells (FleetTask.cells x109).toArray 78 (0, 0)) :: vecC 4 1 a118 c119 q117.length cs122 :: pt b104 (.cells (FleetTask.cells x84).toArray 78 (0, 0)) :: vecC 101 1 a93 c94 q92.length cs97 :: pt b79 (.cells #[.slice a93 q92.length c94, .slice a59 q57.length c60, .slice a73 q71.length c74] 100 (0, 0)) :: vecC 3 1 a73 c74 q71.length cs76 :: vecC 3 1 a59 c60 q57.length cs62 :: R)) (B := fun w => St w s90 (pt b129 (.cells (FleetTask.cells x109).toArray 78 (0, 0)) :: pt b104 (.cells (FleetTask.cells x84).toArray 78 (0, 0)) :: vecC 101 1 a93 c94 q92.length cs97 :: pt b79 (.cells #[.slice a93 q92.length c94, .slice a59 q57.length c60, .slice a73 q71.length c74] 100 (0, 0)) :: vecC 3 1 a73 c74 q71.length cs76 :: vecC 3 1 a59 c60 q57.length cs62 :: R)) (w := _) (x := true) (y := true) (fun _ => hS) (fun _ => (hS.dropAt 1))
          have hF := hS; replace hS := (hS.dropAt 1)
          refine Rg.take (i := 11) false rfl hE rfl (by kernel_rfl) (runs_plain rfl) (Gives.load1 hE rfl (fun w h => hat139 w _ h) ty44) rfl hT ?_; clear hE a; intro a hE
          replace hS := hF; clear hF hT
          refine Rg.takeP (i := 12) hE rfl (by kernel_rfl) (runs_plain rfl) (Gives.fld hE rfl fl78_0) rfl (tw_sel (fun _ => hS) (fun _ => (hS.dropAt 1))) ?_; clear hE a; intro a hE
          have hT := tw_sel (A := fun w => St w s90 (pt b129 (.cells (FleetTask.cells x109).toArray 78 (0, 0)) :: vecC 4 1 a118 c119 q117.length cs122 :: pt b104 (.cells (FleetTask.cells x84).toArray 78 (0, 0)) :: vecC 101 1 a93 c94 q92.length cs97 :: pt b79 (.cells #[.slice a93 q92.length c94, .slice a59 q57.length c60, .slice a73 q71.length c74] 100 (0, 0)) :: vecC 3 1 a73 c74 q71.length cs76 :: vecC 3 1 a59 c60 q57.length cs62 :: R)) (B := fun w => St w s90 (pt b129 (.cells (FleetTask.cells x109).toArray 78 (0, 0)) :: pt b104 (.cells (FleetTask.cells x84).toArray 78 (0, 0)) :: vecC 101 1 a93 c94 q92.length cs97 :: pt b79 (.cells #[.slice a93 q92.length c94, .slice a59 q57.length c60, .slice a73 q71.length c74] 100 (0, 0)) :: vecC 3 1 a73 c74 q71.length cs76 :: vecC 3 1 a59 c60 q57.length cs62 :: R)) (w := _) (x := true) (y := true) (fun _ => hS) (fun _ => (hS.dropAt 1))
          have hF := hS; replace hS := (hS.dropAt 1)
          refine Rg.take (i := 13) false rfl hE rfl (by kernel_rfl) (runs_plain rfl) (Gives.loadB hE 0 rfl rfl rfl ty3) rfl hT ?_; clear hE a; intro a hE
          replace hS := hF; clear hF hT
          obtain ⟨x143, hx144, hq106⟩ := bindS hq106
          obtain ⟨hi145, hlt146, hy147⟩ := gx_some hx144
          obtain ⟨cs148, hl149, hR150, hat151⟩ := h142.at hy147
          subst hR150
          refine Rg.takeP (i := 14) hE rfl (by kernel_rfl) (runs_plain rfl) (Gives.idx hE (x109.From).toNat rfl rfl sl44 hi145 hlt146 (h142.aok hlt146)) rfl (tw_sel (fun _ => hS) (fun _ => (hS.dropAt 1))) ?_; clear hE a; intro a hE
          have hT := tw_sel (A := fun w => St w s90 (pt b129 (.cells (FleetTask.cells x109).toArray 78 (0, 0)) :: vecC 4 1 a118 c119 q117.length cs122 :: pt b104 (.cells (FleetTask.cells x84).toArray 78 (0, 0)) :: vecC 101 1 a93 c94 q92.length cs97 :: pt b79 (.cells #[.slice a93 q92.length c94, .slice a59 q57.length c60, .slice a73 q71.length c74] 100 (0, 0)) :: vecC 3 1 a73 c74 q71.length cs76 :: vecC 3 1 a59 c60 q57.length cs62 :: R)) (B := fun w => St w s90 (pt b129 (.cells (FleetTask.cells x109).toArray 78 (0, 0)) :: pt b104 (.cells (FleetTask.cells x84).toArray 78 (0, 0)) :: vecC 101 1 a93 c94 q92.length cs97 :: pt b79 (.cells #[.slice a93 q92.length c94, .slice a59 q57.length c60, .slice a73 q71.length c74] 100 (0, 0)) :: vecC 3 1 a73 c74 q71.length cs76 :: vecC 3 1 a59 c60 q57.length cs62 :: R)) (w := _) (x := true) (y := true) (fun _ => hS) (fun _ => (hS.dropAt 1))
          have hF := hS; replace hS := (hS.dropAt 1)
          refine Rg.take (i := 15) false rfl hE rfl (by kernel_rfl) (runs_plain rfl) (Gives.load1 hE rfl (fun w h => hat151 w _ h) ty3) rfl hT ?_; clear hE a; intro a hE
          replace hS := hF; clear hF hT
          refine Rg.takeP (i := 16) hE rfl (by kernel_rfl) (runs_plain rfl) (Gives.p hE rfl) rfl (tw_sel (fun _ => hS) (fun _ => (hS.dropAt 1))) ?_; clear hE a; intro a hE
          refine Rg.takeP (i := 17) hE rfl (by kernel_rfl) (runs_plain rfl) (Gives.p hE rfl) rfl (tw_sel (fun _ => hS) (fun _ => (hS.dropAt 1))) ?_; clear hE a; intro a hE
          refine Rg.one (i := 18) true true rfl (by kernel_rfl) (by kernel_rfl) (by kernel_rfl) ?_
          refine WL.lit hE hS (e := 4) (es := 1) (vs := [(0, .bool (decide (x109.Dep ≥ (w64 ((w64 (x84.Arr + x1)) + x143)))))]) (cs := [.bool (decide (x109.Dep ≥ (w64 ((w64 (x84.Arr + x1)) + x143))))]) (runs_plain rfl) rfl (by kernel_rfl) rfl ?_; clear hE hS a w; intro b152 a w hE hS
          refine WL.nil ?_
          refine ⟨⟨fun _ => (hS.tail), fun _ => ((hS.tail).dropAt 1)⟩, ?_⟩
          refine Rg.one (i := 19) false true rfl (by kernel_rfl) (by kernel_rfl) (by kernel_rfl) ?_
          obtain ⟨x153, hx154, hq106⟩ := bindS hq106
          refine WL.appD hE hS 1 (m := 1) (runs_plain rfl) rfl rfl rfl ap101 rfl h120 rfl (xs := [decide (x109.Dep ≥ (w64 ((w64 (x84.Arr + x1)) + x143)))]) (Ev.cons (c1 := [.bool (decide (x109.Dep ≥ (w64 ((w64 (x84.Arr + x1)) + x143))))]) rfl rfl (Ev.nil)) rfl rfl hx154 rfl ?_; clear hE hS a w; intro a155 c156 cs157 a w h158 hE hS
          refine WL.nil ?_
          refine ⟨⟨fun h => absurd h (by decide), fun _ => (hS.dropAt 1)⟩, ?_⟩
          refine Rg.takeP (i := 20) hE rfl (by kernel_rfl) (runs_plain rfl) (Gives.p hE rfl) rfl (tw_sel (fun h => absurd h (by decide)) (fun _ => (hS.dropAt 1))) ?_; clear hE a; intro a hE
          refine Rg.done (by kernel_rfl) ?_
          subst hK130
          refine W.region ?_
          refine WL.vS hS hE (runs_plain rfl) (Gives.inc hE rfl (by have := h0.small; omega)) rfl ?_; clear hE a; intro a hE
          refine WL.vS hS hE (runs_plain rfl) (Gives.p hE rfl) rfl ?_; clear hE a; intro a hE
          refine WL.nil ?_
          replace hS := hS.tail
          subst hK124
          exact ⟨rest110.length, Nat.lt_succ_self _, rest110, k108 + 1, x153, a155, c156, x153.length, cs157, rfl, hd111, hq106, h158, (rfl), hE.pick _ ⟨rfl, rfl, rfl, rfl, rfl, rfl, rfl, rfl, rfl, rfl, rfl, rfl, trivial⟩, hS⟩
      · clear hE hS a w; rintro a w ⟨q117, a118, c119, n121, cs122, rfl, h120, rfl, hE, hS⟩
        refine W.region ?_
        refine WL.vS hS hE (runs_plain rfl) (Gives.p hE rfl) rfl ?_; clear hE a; intro a hE
        refine WL.vS hS hE (runs_plain rfl) (Gives.p hE rfl) rfl ?_; clear hE a; intro a hE
        refine WL.vS hS hE (runs_plain rfl) (Gives.nilOk hE rfl) rfl ?_; clear hE a; intro a hE
        refine WL.vS hS hE (runs_plain rfl) (Gives.fld hE rfl fl100_0) rfl ?_; clear hE a; intro a hE
        refine WL.vS hS hE (runs_plain rfl) (Gives.loadB hE 3 rfl rfl rfl ty98) rfl ?_; clear hE a; intro a hE
        refine WL.vS hS hE (runs_plain rfl) (Gives.p hE rfl) rfl ?_; clear hE a; intro a hE
        have hF := hS.fixD RB.mono 0 rfl h120 rfl; clear hS; obtain ⟨s159, hle160, hS, h161⟩ := hF
        replace h0 := Sl.mono RFleetTask.mono hle160 h0
        replace h2 := Sl.mono (RL.mono RI.mono) hle160 h2
        replace h95 := Ev.mono (RL.mono RB.mono) hle160 h95
        replace h77 := Ev.mono RI.mono hle160 h77
        replace h63 := Ev.mono RI.mono hle160 h63
        refine WL.lit hE hS (e := 101) (es := 1) (vs := [(0, .slice a118 q117.length c119)]) (cs := [.slice a118 q117.length c119]) (runs_plain rfl) rfl (by kernel_rfl) rfl ?_; clear hE hS a w; intro b162 a w hE hS
        obtain ⟨x163, hx164, hq81⟩ := bindS hq81
        refine WL.appD hE hS 1 (m := 1) (runs_plain rfl) rfl rfl rfl ap98 rfl h95 rfl (xs := [q117]) (Ev.cons (c1 := [.slice a118 q117.length c119]) ⟨_, _, rfl, h161⟩ rfl (Ev.nil)) rfl rfl hx164 rfl ?_; clear hE hS a w; intro a165 c166 cs167 a w h168 hE hS
        refine WL.vS hS hE (runs_plain rfl) (Gives.nilOk hE rfl) rfl ?_; clear hE a; intro a hE
        refine WL.vS hS hE (runs_plain rfl) (Gives.fld hE rfl fl100_0) rfl ?_; clear hE a; intro a hE
        refine WL.storeI hE hS 2 rfl [.slice a165 x163.length c166, .slice a59 q57.length c60, .slice a73 q71.length c74] (runs_plain rfl) rfl rfl rfl ty98 rfl rfl rfl rfl ?_; clear hE hS a w; intro a w hE hS
        refine WL.nil ?_
        refine W.region ?_
        refine WL.vS hS hE (runs_plain rfl) (Gives.inc hE rfl (by have := h0.small; omega)) rfl ?_; clear hE a; intro a hE
        refine WL.vS hS hE (runs_plain rfl) (Gives.p hE rfl) rfl ?_; clear hE a; intro a hE
        refine WL.nil ?_
        replace hS := hS.tail
        subst hK99
        exact ⟨rest85.length, Nat.lt_succ_self _, rest85, k83 + 1, x163, a165, c166, x163.length, cs167, s159, rfl, hd86, (Sg.Le.trans hle91 hle160), hq81, h168, (rfl), hE.pick _ ⟨rfl, rfl, rfl, rfl, rfl, rfl, rfl, trivial⟩, hS⟩
  · clear hE hS a w; rintro a w ⟨q92, a93, c94, n96, cs97, s90, hle91, rfl, h95, rfl, hE, hS⟩
    replace h0 := Sl.mono RFleetTask.mono hle91 h0
    replace h2 := Sl.mono (RL.mono RI.mono) hle91 h2
    replace h56 := Sl.mono RI.mono hle91 h56
    replace h70 := Sl.mono RI.mono hle91 h70
    replace h77 := Ev.mono RI.mono hle91 h77
    replace h63 := Ev.mono RI.mono hle91 h63
    refine W.seq ?_
    refine W.seq ?_
    refine W.region ?_
    refine WL.vS hS hE (runs_plain rfl) (Gives.p hE rfl) rfl ?_; clear hE a; intro a hE
    refine WL.vS hS hE (runs_plain rfl) (Gives.len hE rfl sl32) rfl ?_; clear hE a; intro a hE
    refine WL.vS hS hE (runs_plain rfl) (Gives.p hE rfl) rfl ?_; clear hE a; intro a hE
    refine WL.nil ?_
    obtain ⟨q170, hq169, hr⟩ := bindS hr
    refine W.cut (fun a w => ∃ (q180 : List Int), ∃ (q186 : List Int), ∃ (cs184 : List Value), ∃ (cs190 : List Value), (q180, q186) = q170 ∧ Ev 1 (RI .i64) s90 cs184 q180 ∧ q180.length = q57.length ∧ Ev 1 (RI .i64) s90 cs190 q186 ∧ q186.length = q71.length ∧ Rep a 81 [(7, .pointer (some ⟨b79, 0, none⟩))] ∧ St w s90 (vecC 101 1 a93 c94 q92.length cs97 :: pt b79 (.cells #[.slice a93 q92.length c94, .slice a59 q57.length c60, .slice a73 q71.length c74] 100 (0, 0)) :: vecC 3 1 a73 c74 q71.length cs190 :: vecC 3 1 a59 c60 q57.length cs184 :: R)) ?_ ?_
    · refine W.block ?_
      refine W.loop (fun m a w => ∃ (rest173 : List FleetTask) (k171 : Nat), ∃ (q180 : List Int), ∃ (q186 : List Int), ∃ (cs184 : List Value), ∃ (cs190 : List Value), rest173.length = m ∧ x0.drop k171 = rest173 ∧ Fleetmatch.loop3 x0 fu q92 rest173 k171 q180 q186 = some q170 ∧ Ev 1 (RI .i64) s90 cs184 q180 ∧ q180.length = q57.length ∧ Ev 1 (RI .i64) s90 cs190 q186 ∧ q186.length = q71.length ∧ Rep a 81 [(0, .slice a0 x0.length c0), (7, .pointer (some ⟨b79, 0, none⟩)), (69, .int .i64 ((x0).length : Int)), (70, .int .i64 ((k171 : Nat) : Int))] ∧ St w s90 (vecC 101 1 a93 c94 q92.length cs97 :: pt b79 (.cells #[.slice a93 q92.length c94, .slice a59 q57.length c60, .slice a73 q71.length c74] 100 (0, 0)) :: vecC 3 1 a73 c74 q71.length cs190 :: vecC 3 1 a59 c60 q57.length cs184 :: R)) (m := x0.length) ⟨x0, 0, q57, q71, cs62, cs76, rfl, rfl, hq169, h63, rfl, h77, rfl, hE.pick _ ⟨rfl, rfl, rfl, rfl, trivial⟩, hS⟩ ?_
      clear hE hS a w hq169; rintro m177 a w ⟨rest173, k171, q180, q186, cs184, cs190, rfl, hd174, hq169, h183, hn185, h189, hn191, hE, hS⟩
      refine W.gen fun K192 hK192 => ?_
      rcases rest173 with _ | ⟨x172, rest173⟩
      · have hlt175 := drop_nil hd174
        refine W.seq ?_
        refine W.region ?_
        refine WL.vS hS hE (runs_plain rfl) (Gives.p hE rfl) rfl ?_; clear hE a; intro a hE
        refine WL.nil ?_
        refine W.seq ?_
        refine W.condF hE rfl (decide_eq_false (by omega)) ?_
        subst hK192
        refine W.exit rfl ?_
        exact ⟨q180, q186, cs184, cs190, Option.some.inj hq169, h183, hn185, h189, hn191, hE.pick _ ⟨rfl, trivial⟩, hS⟩
      · obtain ⟨hlt175, hx176, hd174⟩ := drop_cons hd174
        rw [Fleetmatch.loop3] at hq169
        refine W.seq ?_
        refine W.region ?_
        refine WL.vS hS hE (runs_plain rfl) (Gives.p hE rfl) rfl ?_; clear hE a; intro a hE
        refine WL.nil ?_
        refine W.seq ?_
        refine W.condT hE rfl (decide_eq_true (by omega)) ?_
        refine W.skip ?_
        refine W.seq ?_
        refine W.block ?_
        refine W.seq ?_
        refine W.region ?_
        refine WL.vS hS hE (runs_plain rfl) (Gives.p hE rfl) rfl ?_; clear hE a; intro a hE
        refine WL.vS hS hE (runs_plain rfl) (Gives.p hE rfl) rfl ?_; clear hE a; intro a hE
        refine WL.nil ?_
        refine W.region ?_
        refine WL.vS hS hE (runs_plain rfl) (Gives.p hE rfl) rfl ?_; clear hE a; intro a hE
        refine WL.vS hS hE (runs_plain rfl) (Gives.p hE rfl) rfl ?_; clear hE a; intro a hE
        refine WL.vS hS hE (runs_plain rfl) (Gives.p hE rfl) rfl ?_; clear hE a; intro a hE
        refine WL.vS hS hE (runs_plain rfl) (Gives.len hE rfl sl32) rfl ?_; clear hE a; intro a hE
        obtain ⟨x193, hx194, hq169⟩ := bindS hq169
        refine WL.mkD (Rr := RB) hE hS (runs_plain rfl) rfl rfl ap101 zr4 rfl hx194 rfl ?_; clear hE hS a w; intro b195 cs196 a w h197 hE hS
        obtain ⟨q199, hq200, hq169⟩ := bindS hq169
        replace hS := hS.front 3 rfl
        replace hS := hS.front 4 rfl
        replace hS := hS.front 3 rfl
        replace hS := hS.front 3 rfl
        replace hS := hS.front 4 rfl
        have hc_ := FleetMatchinggrow_v1_ok (y0 := (FleetMatching.mk q92 q180 q186)) hS h197 (rfl) h95 rfl h183 hn185 h189 hn191 hq200
        refine WL.fnq hE (hc_) (runs_plain rfl) bd113 rfl rfl rfl ?_
        clear hE hS hc_; rintro e w ⟨cs201, cs204, cs207, rfl, h202, hn203, h205, hn206, h208, hn209, hS⟩; refine ⟨_, rfl, ?_⟩; clear a; intro a hE
        refine WL.nil ?_
        refine W.region ?_
        refine WL.vS hS hE (runs_plain rfl) (Gives.inc hE rfl (by have := h0.small; omega)) rfl ?_; clear hE a; intro a hE
        refine WL.vS hS hE (runs_plain rfl) (Gives.p hE rfl) rfl ?_; clear hE a; intro a hE
        refine WL.nil ?_
        replace hS := hS.dropAt 1
        replace hS := hS.front 2 rfl
        replace hS := hS.front 3 rfl
        replace hS := hS.front 2 rfl
        replace hS := hS.front 3 rfl
        subst hK192
        exact ⟨rest173.length, Nat.lt_succ_self _, rest173, k171 + 1, q199.2.2.1, q199.2.2.2, cs204, cs207, rfl, hd174, hq169, h205, hn206, h208, hn209, hE.pick _ ⟨rfl, rfl, rfl, rfl, trivial⟩, hS⟩
    · clear hE hS a w; rintro a w ⟨q180, q186, cs184, cs190, rfl, h183, hn185, h189, hn191, hE, hS⟩
      dsimp only at hr
      refine W.seq ?_
      refine W.region ?_
      refine WL.vS hS hE (runs_plain rfl) (Gives.p hE rfl) rfl ?_; clear hE a; intro a hE
      refine WL.vS hS hE (runs_plain rfl) (Gives.p hE rfl) rfl ?_; clear hE a; intro a hE
      refine WL.nil ?_
      refine W.ret ?_
      have hF := hS.fixD (RL.mono RB.mono) 0 rfl h95 rfl; clear hS; obtain ⟨s210, hle211, hS, h212⟩ := hF
      replace h189 := Ev.mono RI.mono hle211 h189
      replace h183 := Ev.mono RI.mono hle211 h183
      have hF := hS.fixD RI.mono 2 rfl h183 hn185; clear hS; obtain ⟨s213, hle214, hS, h215⟩ := hF
      (try rw [← hn185] at hE)
      (try rw [← hn185] at hS)
      replace h212 := Sl.mono (RL.mono RB.mono) hle214 h212
      replace h189 := Ev.mono RI.mono hle214 h189
      have hF := hS.fixD RI.mono 1 rfl h189 hn191; clear hS; obtain ⟨s216, hle217, hS, h218⟩ := hF
      (try rw [← hn191] at hE)
      (try rw [← hn191] at hS)
      replace h212 := Sl.mono (RL.mono RB.mono) hle217 h212
      replace h215 := Sl.mono RI.mono hle217 h215
      have hF := hS.fixB (es := 3) (Rr := RFleetMatching) (v := (FleetMatching.mk q92 q180 q186)) RFleetMatching.mono 0 rfl rfl ⟨_, _, _, _, _, _, rfl, h212, h215, h218⟩; clear hS; obtain ⟨s219, hle220, hS, h221⟩ := hF
      refine finG (fn := Try.f69) (rs := [.tmp 6]) (vs := [_]) hE rfl ⟨rfl, trivial⟩ ?_
      obtain rfl := Option.some.inj hr
      exact ⟨(some ⟨b79, 0, none⟩), s219, rfl, (Sg.Le.trans (Sg.Le.trans (Sg.Le.trans (Sg.Le.trans (Sg.Le.trans (Sg.Le.trans hle55 hle69) hle91) hle211) hle214) hle217) hle220), h221, hS⟩
set_option maxHeartbeats 8000000 in
theorem FleetCovers_ok {fu : Nat}  {w : World} {s : Sg} {R : List HP} {x0 : List FleetTask} {a0 : Option Addr} {c0 : Nat} {x1 : Int} {x2 : List (List Int)} {a2 : Option Addr} {c2 : Nat} (hS : St w s (R)) (h0 : Sl 6 RFleetTask s a0 c0 x0) (h2 : Sl 1 (RL 1 (RI .i64)) s a2 c2 x2) {r : (List (List Int)) × Int} (hr : FleetCovers fu x0 x1 x2 = some r) :
    Calls Try.prog 20 [.slice a0 x0.length c0, .int .i64 x1, .slice a2 x2.length c2].toArray w (fun e w => ∃ (a0 : Option Addr) (c0 n0 : Nat) (cs0 : List Value) (t : Sg), e = .returned (.tuple #[.slice a0 n0 c0, .int .i64 r.2]) ∧ s.Le t ∧ Ev 1 (RL 1 (RI .i64)) t cs0 r.1 ∧ r.1.length = n0 ∧ St w t (vecC 44 1 a0 c0 n0 cs0 :: R)) := by
  refine enter Try.func20 rfl rfl rfl fun a hE => ?_
  rw [FleetCovers] at hr
  refine W.seq ?_
  refine W.region ?_
  refine WL.vS hS hE (runs_plain rfl) (Gives.p hE rfl) rfl ?_; clear hE a; intro a hE
  refine WL.vS hS hE (runs_plain rfl) (Gives.p hE rfl) rfl ?_; clear hE a; intro a hE
  refine WL.nil ?_
  refine W.seq ?_
  refine W.seq ?_
  refine W.region ?_
  refine WL.vS hS hE (runs_plain rfl) (Gives.p hE rfl) rfl ?_; clear hE a; intro a hE
  refine WL.vS hS hE (runs_plain rfl) (Gives.p hE rfl) rfl ?_; clear hE a; intro a hE
  refine WL.vS hS hE (runs_plain rfl) (Gives.p hE rfl) rfl ?_; clear hE a; intro a hE
  obtain ⟨q51, hq52, hr⟩ := bindS hr
  have hc_ := FleetcheckSecs_ok hS h0 h2 hq52
  refine WL.fnq hE (hc_) (runs_plain rfl) bd68 rfl rfl rfl ?_
  clear hE hS hc_; rintro e w ⟨rfl, hS⟩; refine ⟨_, rfl, ?_⟩; clear a; intro a hE
  refine WL.vS hS hE (runs_plain rfl) (Gives.p hE rfl) rfl ?_; clear hE a; intro a hE
  refine WL.nil ?_
  refine W.seq ?_
  refine W.region ?_
  refine WL.vS hS hE (runs_plain rfl) (Gives.p hE rfl) rfl ?_; clear hE a; intro a hE
  refine WL.vS hS hE (runs_plain rfl) (Gives.p hE rfl) rfl ?_; clear hE a; intro a hE
  refine WL.nil ?_
  refine W.cond hE rfl (fun hc53 => ?_) (fun hc53 => ?_)
  · replace hr := iteT hc53 hr
    refine W.seq ?_
    refine W.region ?_
    refine WL.vS hS hE (runs_plain rfl) (Gives.p hE rfl) rfl ?_; clear hE a; intro a hE
    refine WL.vS hS hE (runs_plain rfl) (Gives.p hE rfl) rfl ?_; clear hE a; intro a hE
    refine WL.vS hS hE (runs_plain rfl) (Gives.p hE rfl) rfl ?_; clear hE a; intro a hE
    refine WL.nil ?_
    refine W.ret ?_
    replace hS := hS.vecNil 44 1
    refine finG (fn := Try.f20) (rs := [.tmp 6, .tmp 7]) (vs := [_, _]) hE rfl ⟨rfl, rfl, trivial⟩ ?_
    obtain rfl := Option.some.inj hr
    exact ⟨none, 0, 0, [], s, rfl, (Sg.Le.refl _), (Ev.nil), (rfl), hS⟩
  · replace hr := iteF hc53 hr
    refine W.skip ?_
    refine W.seq ?_
    refine W.region ?_
    refine WL.vS hS hE (runs_plain rfl) (Gives.p hE rfl) rfl ?_; clear hE a; intro a hE
    refine WL.vS hS hE (runs_plain rfl) (Gives.p hE rfl) rfl ?_; clear hE a; intro a hE
    refine WL.vS hS hE (runs_plain rfl) (Gives.p hE rfl) rfl ?_; clear hE a; intro a hE
    obtain ⟨q55, hq56, hr⟩ := bindS hr
    have hc_ := Fleetmatch_ok hS h0 h2 hq56
    refine WL.fnq hE (hc_) (runs_plain rfl) bd69 rfl rfl rfl ?_
    clear hE hS hc_; rintro e w ⟨a57, s59, rfl, hle60, h58, hS⟩; refine ⟨_, rfl, ?_⟩; clear a; intro a hE
    replace h0 := Sl.mono RFleetTask.mono hle60 h0
    replace h2 := Sl.mono (RL.mono RI.mono) hle60 h2
    refine WL.vS hS hE (runs_plain rfl) (Gives.p hE rfl) rfl ?_; clear hE a; intro a hE
    refine WL.nil ?_
    refine W.seq ?_
    refine W.region ?_
    replace hS := hS.vecNil 44 1
    refine WL.vS hS hE (runs_plain rfl) (Gives.p hE rfl) rfl ?_; clear hE a; intro a hE
    refine WL.nil ?_
    refine W.seq ?_
    refine W.seq ?_
    refine W.region ?_
    refine WL.vS hS hE (runs_plain rfl) (Gives.p hE rfl) rfl ?_; clear hE a; intro a hE
    refine WL.vS hS hE (runs_plain rfl) (Gives.len hE rfl sl32) rfl ?_; clear hE a; intro a hE
    refine WL.vS hS hE (runs_plain rfl) (Gives.p hE rfl) rfl ?_; clear hE a; intro a hE
    refine WL.nil ?_
    obtain ⟨q63, hq62, hr⟩ := bindS hr
    refine W.cut (fun a w => ∃ (q73 : List (List Int)), ∃ (a74 : Option Addr), ∃ (c75 : Nat), ∃ (n77 : Nat), ∃ (cs78 : List Value), ∃ (s71 : Sg), s59.Le s71 ∧ q73 = q63 ∧ Ev 1 (RL 1 (RI .i64)) s71 cs78 q73 ∧ q73.length = n77 ∧ Rep a 56 [(10, .slice a74 n77 c75)] ∧ St w s71 (vecC 44 1 a74 c75 n77 cs78 :: R)) ?_ ?_
    · refine W.block ?_
      refine W.loop (fun m a w => ∃ (rest66 : List FleetTask) (k64 : Nat), ∃ (q73 : List (List Int)), ∃ (a74 : Option Addr), ∃ (c75 : Nat), ∃ (n77 : Nat), ∃ (cs78 : List Value), ∃ (s71 : Sg), rest66.length = m ∧ x0.drop k64 = rest66 ∧ s59.Le s71 ∧ FleetCovers.loop1 fu q55 rest66 k64 q73 = some q63 ∧ Ev 1 (RL 1 (RI .i64)) s71 cs78 q73 ∧ q73.length = n77 ∧ Rep a 56 [(9, .pointer a57), (10, .slice a74 n77 c75), (25, .int .i64 ((x0).length : Int)), (26, .int .i64 ((k64 : Nat) : Int))] ∧ St w s71 (vecC 44 1 a74 c75 n77 cs78 :: R)) (m := x0.length) ⟨x0, 0, [], none, 0, 0, [], s59, rfl, rfl, (Sg.Le.refl _), hq62, (Ev.nil), (rfl), hE.pick _ ⟨rfl, rfl, rfl, rfl, trivial⟩, hS⟩ ?_
      clear hE hS a w hq62; rintro m70 a w ⟨rest66, k64, q73, a74, c75, n77, cs78, s71, rfl, hd67, hle72, hq62, h76, rfl, hE, hS⟩
      refine W.gen fun K80 hK80 => ?_
      replace h0 := Sl.mono RFleetTask.mono hle72 h0
      replace h2 := Sl.mono (RL.mono RI.mono) hle72 h2
      replace h58 := Pt.mono RFleetMatching.mono hle72 h58
      rcases rest66 with _ | ⟨x65, rest66⟩
      · have hlt68 := drop_nil hd67
        refine W.seq ?_
        refine W.region ?_
        refine WL.vS hS hE (runs_plain rfl) (Gives.p hE rfl) rfl ?_; clear hE a; intro a hE
        refine WL.nil ?_
        refine W.seq ?_
        refine W.condF hE rfl (decide_eq_false (by omega)) ?_
        subst hK80
        refine W.exit rfl ?_
        exact ⟨q73, a74, c75, q73.length, cs78, s71, hle72, Option.some.inj hq62, h76, rfl, hE.pick _ ⟨rfl, trivial⟩, hS⟩
      · obtain ⟨hlt68, hx69, hd67⟩ := drop_cons hd67
        rw [FleetCovers.loop1] at hq62
        refine W.seq ?_
        refine W.region ?_
        refine WL.vS hS hE (runs_plain rfl) (Gives.p hE rfl) rfl ?_; clear hE a; intro a hE
        refine WL.nil ?_
        refine W.seq ?_
        refine W.condT hE rfl (decide_eq_true (by omega)) ?_
        refine W.skip ?_
        refine W.seq ?_
        refine W.block ?_
        refine W.seq ?_
        refine W.region ?_
        refine WL.vS hS hE (runs_plain rfl) (Gives.p hE rfl) rfl ?_; clear hE a; intro a hE
        refine WL.vS hS hE (runs_plain rfl) (Gives.p hE rfl) rfl ?_; clear hE a; intro a hE
        refine WL.nil ?_
        refine W.seq ?_
        refine W.seq ?_
        refine W.region ?_
        refine WL.vS hS hE (runs_plain rfl) (Gives.p hE rfl) rfl ?_; clear hE a; intro a hE
        obtain ⟨x81, hx82, hq62⟩ := bindS hq62
        obtain ⟨b83, o84, cs85, rfl, hl86, hR87, hat88⟩ := h58.at hx82
        obtain ⟨a89, c90, a92, c93, a95, c96, rfl, h91, h94, h97⟩ := hR87
        refine WL.vS hS hE (runs_plain rfl) (Gives.nilOk hE rfl) rfl ?_; clear hE a; intro a hE
        refine WL.vS hS hE (runs_plain rfl) (Gives.fld hE rfl fl100_2) rfl ?_; clear hE a; intro a hE
        refine WL.vS hS hE (runs_plain rfl) (Gives.load1 hE rfl (fun w h => (hat88 w _ h).one rfl) ty44) rfl ?_; clear hE a; intro a hE
        refine WL.vS hS hE (runs_plain rfl) (Gives.p hE rfl) rfl ?_; clear hE a; intro a hE
        obtain ⟨x98, hx99, hq62⟩ := bindS hq62
        obtain ⟨hi100, hlt101, hy102⟩ := gx_some hx99
        obtain ⟨cs103, hl104, hR105, hat106⟩ := h97.at hy102
        subst hR105
        refine WL.vS hS hE (runs_plain rfl) (Gives.idx hE (((k64 : Nat) : Int)).toNat rfl rfl sl44 hi100 hlt101 (h97.aok hlt101)) rfl ?_; clear hE a; intro a hE
        refine WL.vS hS hE (runs_plain rfl) (Gives.load1 hE rfl (fun w h => hat106 w _ h) ty3) rfl ?_; clear hE a; intro a hE
        refine WL.vS hS hE (runs_plain rfl) (Gives.p hE rfl) rfl ?_; clear hE a; intro a hE
        refine WL.nil ?_
        refine W.cond hE rfl (fun hc107 => ?_) (fun hc107 => ?_)
        · replace hq62 := iteT hc107 hq62
          refine W.exit rfl ?_
          refine W.region ?_
          refine WL.vS hS hE (runs_plain rfl) (Gives.inc hE rfl (by have := h0.small; omega)) rfl ?_; clear hE a; intro a hE
          refine WL.vS hS hE (runs_plain rfl) (Gives.p hE rfl) rfl ?_; clear hE a; intro a hE
          refine WL.nil ?_
          subst hK80
          exact ⟨rest66.length, Nat.lt_succ_self _, rest66, k64 + 1, q73, a74, c75, q73.length, cs78, s71, rfl, hd67, hle72, hq62, h76, rfl, hE.pick _ ⟨rfl, rfl, rfl, rfl, trivial⟩, hS⟩
        · replace hq62 := iteF hc107 hq62
          refine W.skip ?_
          refine W.seq ?_
          refine W.region ?_
          replace hS := hS.vecNil 3 1
          refine WL.vS hS hE (runs_plain rfl) (Gives.p hE rfl) rfl ?_; clear hE a; intro a hE
          refine WL.nil ?_
          refine W.seq ?_
          obtain ⟨q110, hq109, hq62⟩ := bindS hq62
          refine W.cut (fun a w => ∃ (q115 : Int), ∃ (q116 : List Int), ∃ (a117 : Option Addr), ∃ (c118 : Nat), ∃ (n120 : Nat), ∃ (cs121 : List Value), (q115, q116) = q110 ∧ Ev 1 (RI .i64) s71 cs121 q116 ∧ q116.length = n120 ∧ Rep a 56 [(9, .pointer (some ⟨b83, o84, none⟩)), (10, .slice a74 q73.length c75), (12, .slice a117 n120 c118), (25, .int .i64 ((x0).length : Int)), (26, .int .i64 ((k64 : Nat) : Int))] ∧ St w s71 (vecC 3 1 a117 c118 n120 cs121 :: vecC 44 1 a74 c75 q73.length cs78 :: R)) ?_ ?_
          · refine W.block ?_
            refine W.loop (fun m a w => ∃ (n111 : Nat), ∃ (q115 : Int), ∃ (q116 : List Int), ∃ (a117 : Option Addr), ∃ (c118 : Nat), ∃ (n120 : Nat), ∃ (cs121 : List Value), n111 = m ∧ FleetCovers.loop2 x81 n111 q115 q116 = some q110 ∧ Ev 1 (RI .i64) s71 cs121 q116 ∧ q116.length = n120 ∧ Rep a 56 [(9, .pointer (some ⟨b83, o84, none⟩)), (10, .slice a74 q73.length c75), (11, .int .i64 q115), (12, .slice a117 n120 c118), (25, .int .i64 ((x0).length : Int)), (26, .int .i64 ((k64 : Nat) : Int))] ∧ St w s71 (vecC 3 1 a117 c118 n120 cs121 :: vecC 44 1 a74 c75 q73.length cs78 :: R)) (m := fu) ⟨fu, ((k64 : Nat) : Int), [], none, 0, 0, [], rfl, hq109, (Ev.nil), (rfl), hE.pick _ ⟨rfl, rfl, rfl, rfl, rfl, rfl, trivial⟩, hS⟩ ?_
            clear hE hS a w hq109; rintro m112 a w ⟨n111, q115, q116, a117, c118, n120, cs121, rfl, hq109, h119, rfl, hE, hS⟩
            refine W.gen fun K123 hK123 => ?_
            rcases n111 with _ | n111
            · rw [FleetCovers.loop2] at hq109; exact absurd hq109 (by simp)
            rw [FleetCovers.loop2] at hq109
            refine W.seq ?_
            refine W.seq ?_
            refine W.region ?_
            refine WL.vS hS hE (runs_plain rfl) (Gives.p hE rfl) rfl ?_; clear hE a; intro a hE
            refine WL.vS hS hE (runs_plain rfl) (Gives.p hE rfl) rfl ?_; clear hE a; intro a hE
            refine WL.nil ?_
            refine W.cond hE rfl (fun hc124 => ?_) (fun hc124 => ?_)
            · replace hq109 := iteT hc124 hq109
              refine W.skip ?_
              refine W.seq ?_
              refine W.block ?_
              refine W.region ?_
              refine WL.vS hS hE (runs_plain rfl) (Gives.p hE rfl) rfl ?_; clear hE a; intro a hE
              refine WL.vS hS hE (runs_plain rfl) (Gives.p hE rfl) rfl ?_; clear hE a; intro a hE
              refine WL.lit hE hS (e := 3) (es := 1) (vs := [(0, .int .i64 q115)]) (cs := [.int .i64 q115]) (runs_plain rfl) rfl (by kernel_rfl) rfl ?_; clear hE hS a w; intro b125 a w hE hS
              obtain ⟨x126, hx127, hq109⟩ := bindS hq109
              refine WL.appD hE hS 0 (m := 1) (runs_plain rfl) rfl rfl rfl ap44 rfl h119 rfl (xs := [q115]) (Ev.cons (c1 := [.int .i64 q115]) rfl rfl (Ev.nil)) rfl rfl hx127 rfl ?_; clear hE hS a w; intro a128 c129 cs130 a w h131 hE hS
              refine WL.vS hS hE (runs_plain rfl) (Gives.p hE rfl) rfl ?_; clear hE a; intro a hE
              refine WL.nil ?_
              refine W.region ?_
              refine WL.vS hS hE (runs_plain rfl) (Gives.p hE rfl) rfl ?_; clear hE a; intro a hE
              refine WL.vS hS hE (runs_plain rfl) (Gives.nilOk hE rfl) rfl ?_; clear hE a; intro a hE
              refine WL.vS hS hE (runs_plain rfl) (Gives.fld hE rfl fl100_1) rfl ?_; clear hE a; intro a hE
              refine WL.vS hS hE (runs_plain rfl) (Gives.load1 hE rfl (fun w h => (hat88 w _ h).one rfl) ty44) rfl ?_; clear hE a; intro a hE
              refine WL.vS hS hE (runs_plain rfl) (Gives.p hE rfl) rfl ?_; clear hE a; intro a hE
              obtain ⟨x132, hx133, hq109⟩ := bindS hq109
              obtain ⟨hi134, hlt135, hy136⟩ := gx_some hx133
              obtain ⟨cs137, hl138, hR139, hat140⟩ := h94.at hy136
              subst hR139
              refine WL.vS hS hE (runs_plain rfl) (Gives.idx hE (q115).toNat rfl rfl sl44 hi134 hlt135 (h94.aok hlt135)) rfl ?_; clear hE a; intro a hE
              refine WL.vS hS hE (runs_plain rfl) (Gives.load1 hE rfl (fun w h => hat140 w _ h) ty3) rfl ?_; clear hE a; intro a hE
              refine WL.vS hS hE (runs_plain rfl) (Gives.p hE rfl) rfl ?_; clear hE a; intro a hE
              refine WL.nil ?_
              subst hK123
              exact ⟨n111, Nat.lt_succ_self _, n111, x132, x126, a128, c129, x126.length, cs130, rfl, hq109, h131, (rfl), hE.pick _ ⟨rfl, rfl, rfl, rfl, rfl, rfl, trivial⟩, hS⟩
            · replace hq109 := iteF hc124 hq109
              subst hK123
              refine W.exit rfl ?_
              exact ⟨q115, q116, a117, c118, q116.length, cs121, Option.some.inj hq109, h119, rfl, hE.pick _ ⟨rfl, rfl, rfl, rfl, rfl, trivial⟩, hS⟩
          · clear hE hS a w; rintro a w ⟨q115, q116, a117, c118, n120, cs121, rfl, h119, rfl, hE, hS⟩
            dsimp only at hq62
            refine W.region ?_
            refine WL.vS hS hE (runs_plain rfl) (Gives.p hE rfl) rfl ?_; clear hE a; intro a hE
            refine WL.vS hS hE (runs_plain rfl) (Gives.p hE rfl) rfl ?_; clear hE a; intro a hE
            have hF := hS.fixD RI.mono 0 rfl h119 rfl; clear hS; obtain ⟨s141, hle142, hS, h143⟩ := hF
            replace h58 := Pt.mono RFleetMatching.mono hle142 h58
            replace h76 := Ev.mono (RL.mono RI.mono) hle142 h76
            refine WL.lit hE hS (e := 44) (es := 1) (vs := [(0, .slice a117 q116.length c118)]) (cs := [.slice a117 q116.length c118]) (runs_plain rfl) rfl (by kernel_rfl) rfl ?_; clear hE hS a w; intro b144 a w hE hS
            obtain ⟨x145, hx146, hq62⟩ := bindS hq62
            refine WL.appD hE hS 0 (m := 1) (runs_plain rfl) rfl rfl rfl ap25 rfl h76 rfl (xs := [q116]) (Ev.cons (c1 := [.slice a117 q116.length c118]) ⟨_, _, rfl, h143⟩ rfl (Ev.nil)) rfl rfl hx146 rfl ?_; clear hE hS a w; intro a147 c148 cs149 a w h150 hE hS
            refine WL.vS hS hE (runs_plain rfl) (Gives.p hE rfl) rfl ?_; clear hE a; intro a hE
            refine WL.nil ?_
            refine W.region ?_
            refine WL.vS hS hE (runs_plain rfl) (Gives.inc hE rfl (by have := h0.small; omega)) rfl ?_; clear hE a; intro a hE
            refine WL.vS hS hE (runs_plain rfl) (Gives.p hE rfl) rfl ?_; clear hE a; intro a hE
            refine WL.nil ?_
            subst hK80
            exact ⟨rest66.length, Nat.lt_succ_self _, rest66, k64 + 1, x145, a147, c148, x145.length, cs149, s141, rfl, hd67, (Sg.Le.trans hle72 hle142), hq62, h150, (rfl), hE.pick _ ⟨rfl, rfl, rfl, rfl, trivial⟩, hS⟩
    · clear hE hS a w; rintro a w ⟨q73, a74, c75, n77, cs78, s71, hle72, rfl, h76, rfl, hE, hS⟩
      replace h0 := Sl.mono RFleetTask.mono hle72 h0
      replace h2 := Sl.mono (RL.mono RI.mono) hle72 h2
      replace h58 := Pt.mono RFleetMatching.mono hle72 h58
      refine W.seq ?_
      refine W.region ?_
      refine WL.vS hS hE (runs_plain rfl) (Gives.p hE rfl) rfl ?_; clear hE a; intro a hE
      refine WL.vS hS hE (runs_plain rfl) (Gives.p hE rfl) rfl ?_; clear hE a; intro a hE
      refine WL.vS hS hE (runs_plain rfl) (Gives.p hE rfl) rfl ?_; clear hE a; intro a hE
      refine WL.nil ?_
      refine W.ret ?_
      refine finG (fn := Try.f20) (rs := [.tmp 6, .tmp 7]) (vs := [_, _]) hE rfl ⟨rfl, rfl, trivial⟩ ?_
      obtain rfl := Option.some.inj hr
      exact ⟨a74, c75, q73.length, cs78, s71, rfl, (Sg.Le.trans hle60 hle72), h76, rfl, hS⟩
set_option maxHeartbeats 8000000 in
theorem FleetApart_1_v1_ok : ∀ {fu : Nat} {w : World} {s : Sg} {R : List HP} {pb0 : Nat} {pb1 : Nat} {pb2 : Nat} {pb3 : Nat} {x0 : Int} {y0 : List Bool} {a_v0 : Option Addr} {c_v0 n_v0 : Nat} {cs_v0 : List Value} {y1 : Option FleetMatching} {a_y1_0 : Option Addr} {y2 : List Bool} {a_v1 : Option Addr} {c_v1 n_v1 : Nat} {cs_v1 : List Value} (_hS : St w s (pt pb0 (.cells #[.slice a_v0 n_v0 c_v0] 101 (0, 0)) :: pt pb1 (.cells #[.pointer a_y1_0] 96 (0, 0)) :: pt pb2 (.cells #[.slice a_v1 n_v1 c_v1] 101 (0, 0)) :: pt pb3 (.cells #[.func (.func 70) #[] #[.pointer (some ⟨pb0, 0, none⟩), .pointer (some ⟨pb1, 0, none⟩), .pointer (some ⟨pb2, 0, none⟩), .pointer (some ⟨pb3, 0, none⟩)]] 66 (0, 0)) :: vecC 4 1 a_v0 c_v0 n_v0 cs_v0 :: vecC 4 1 a_v1 c_v1 n_v1 cs_v1 :: R)) (_h_v0 : Ev 1 RB s cs_v0 y0) (_hn_v0 : y0.length = n_v0) (_h_y1_0 : Pt 3 RFleetMatching s a_y1_0 y1) (_h_v1 : Ev 1 RB s cs_v1 y2) (_hn_v1 : y2.length = n_v1) {r : (List Bool) × (List Bool)} (_hr : FleetApart_1_v1 fu x0 y0 y1 y2 = some r),
    Calls Try.prog 70 [.int .i64 x0, .pointer (some ⟨pb0, 0, none⟩), .pointer (some ⟨pb1, 0, none⟩), .pointer (some ⟨pb2, 0, none⟩), .pointer (some ⟨pb3, 0, none⟩)].toArray w (fun e w => ∃ (cs55 : List Value) (cs61 : List Value), e = .returned (.tuple #[]) ∧ Ev 1 RB s cs55 r.1 ∧ r.1.length = n_v0 ∧ Ev 1 RB s cs61 r.2 ∧ r.2.length = n_v1 ∧ St w s (pt pb0 (.cells #[.slice a_v0 n_v0 c_v0] 101 (0, 0)) :: pt pb1 (.cells #[.pointer a_y1_0] 96 (0, 0)) :: pt pb2 (.cells #[.slice a_v1 n_v1 c_v1] 101 (0, 0)) :: pt pb3 (.cells #[.func (.func 70) #[] #[.pointer (some ⟨pb0, 0, none⟩), .pointer (some ⟨pb1, 0, none⟩), .pointer (some ⟨pb2, 0, none⟩), .pointer (some ⟨pb3, 0, none⟩)]] 66 (0, 0)) :: vecC 4 1 a_v0 c_v0 n_v0 cs55 :: vecC 4 1 a_v1 c_v1 n_v1 cs61 :: R)) := by
  intro fu
  induction fu with
  | zero => intro w s R pb0 pb1 pb2 pb3 x0 y0 a_v0 c_v0 n_v0 cs_v0 y1 a_y1_0 y2 a_v1 c_v1 n_v1 cs_v1 hS h_v0 hn_v0 h_y1_0 h_v1 hn_v1 r hr; rw [FleetApart_1_v1] at hr; exact absurd hr (by simp)
  | succ fu ih_FleetApart_1_v1 =>
    intro w s R pb0 pb1 pb2 pb3 x0 y0 a_v0 c_v0 n_v0 cs_v0 y1 a_y1_0 y2 a_v1 c_v1 n_v1 cs_v1 hS h_v0 hn_v0 h_y1_0 h_v1 hn_v1 r hr
    rw [FleetApart_1_v1] at hr
    generalize FleetApart_1_v1 fu = self_FleetApart_1_v1 at hr ih_FleetApart_1_v1
    refine enter Try.func70 rfl rfl rfl fun a hE => ?_
    subst hn_v0
    subst hn_v1
    refine W.seq ?_
    refine W.region ?_
    refine WL.vS hS hE (runs_plain rfl) (Gives.loadB hE 0 rfl rfl rfl ty101) rfl ?_; clear hE a; intro a hE
    refine WL.vS hS hE (runs_plain rfl) (Gives.p hE rfl) rfl ?_; clear hE a; intro a hE
    obtain ⟨_, hx64, hr⟩ := bindS hr
    obtain ⟨h65, h66⟩ := ix_some hx64
    refine WL.vS hS hE (runs_plain rfl) (Gives.idx hE ((x0).toNat) rfl rfl sl101 h65 (by omega) (hS.vecAok 4 rfl (by omega : (x0).toNat < y0.length))) rfl ?_; clear hE a; intro a hE
    obtain ⟨x68, hx69, hr⟩ := bindS hr
    refine WL.setD hE hS 4 rfl (runs_plain rfl) rfl rfl (vs := [.bool true]) rfl ty4 rfl rfl rfl h_v0 (rfl) (sx_some hx69).1 hx69 rfl rfl ?_; clear hE hS a w; intro cs70 a w h71 hn72 hE hS
    refine WL.nil ?_
    refine W.seq ?_
    refine W.region ?_
    refine WL.vS hS hE (runs_plain rfl) (Gives.loadB hE 1 rfl rfl rfl ty96) rfl ?_; clear hE a; intro a hE
    obtain ⟨x73, hx74, hr⟩ := bindS hr
    obtain ⟨b75, o76, cs77, rfl, hl78, hR79, hat80⟩ := h_y1_0.at hx74
    obtain ⟨a81, c82, a84, c85, a87, c88, rfl, h83, h86, h89⟩ := hR79
    refine WL.vS hS hE (runs_plain rfl) (Gives.nilOk hE rfl) rfl ?_; clear hE a; intro a hE
    refine WL.vS hS hE (runs_plain rfl) (Gives.fld hE rfl fl100_0) rfl ?_; clear hE a; intro a hE
    refine WL.vS hS hE (runs_plain rfl) (Gives.load1 hE rfl (fun w h => (hat80 w _ h).one rfl) ty98) rfl ?_; clear hE a; intro a hE
    refine WL.vS hS hE (runs_plain rfl) (Gives.p hE rfl) rfl ?_; clear hE a; intro a hE
    obtain ⟨x90, hx91, hr⟩ := bindS hr
    obtain ⟨hi92, hlt93, hy94⟩ := gx_some hx91
    obtain ⟨cs95, hl96, hR97, hat98⟩ := h83.at hy94
    obtain ⟨a99, c100, rfl, h101⟩ := hR97
    refine WL.vS hS hE (runs_plain rfl) (Gives.idx hE (x0).toNat rfl rfl sl98 hi92 hlt93 (h83.aok hlt93)) rfl ?_; clear hE a; intro a hE
    refine WL.vS hS hE (runs_plain rfl) (Gives.load1 hE rfl (fun w h => hat98 w _ h) ty101) rfl ?_; clear hE a; intro a hE
    refine WL.vS hS hE (runs_plain rfl) (Gives.len hE rfl sl101) rfl ?_; clear hE a; intro a hE
    refine WL.vS hS hE (runs_plain rfl) (Gives.p hE rfl) rfl ?_; clear hE a; intro a hE
    refine WL.nil ?_
    obtain ⟨q103, hq102, hr⟩ := bindS hr
    refine W.cut (fun a w => ∃ (q113 : List Bool), ∃ (q119 : List Bool), ∃ (cs117 : List Value), ∃ (cs123 : List Value), (q113, q119) = q103 ∧ Ev 1 RB s cs117 q113 ∧ q113.length = y0.length ∧ Ev 1 RB s cs123 q119 ∧ q119.length = y2.length ∧ Rep a 56 [] ∧ St w s (pt pb0 (.cells #[.slice a_v0 y0.length c_v0] 101 (0, 0)) :: pt pb1 (.cells #[.pointer (some ⟨b75, o76, none⟩)] 96 (0, 0)) :: pt pb2 (.cells #[.slice a_v1 y2.length c_v1] 101 (0, 0)) :: pt pb3 (.cells #[.func (.func 70) #[] #[.pointer (some ⟨pb0, 0, none⟩), .pointer (some ⟨pb1, 0, none⟩), .pointer (some ⟨pb2, 0, none⟩), .pointer (some ⟨pb3, 0, none⟩)]] 66 (0, 0)) :: vecC 4 1 a_v0 c_v0 y0.length cs117 :: vecC 4 1 a_v1 c_v1 y2.length cs123 :: R)) ?_ ?_
    · refine W.block ?_
      refine W.loop (fun m a w => ∃ (rest106 : List Bool) (k104 : Nat), ∃ (q113 : List Bool), ∃ (q119 : List Bool), ∃ (cs117 : List Value), ∃ (cs123 : List Value), rest106.length = m ∧ x90.drop k104 = rest106 ∧ FleetApart_1_v1.loop1 y1 self_FleetApart_1_v1 x73 rest106 k104 q113 q119 = some q103 ∧ Ev 1 RB s cs117 q113 ∧ q113.length = y0.length ∧ Ev 1 RB s cs123 q119 ∧ q119.length = y2.length ∧ Rep a 56 [(1, .pointer (some ⟨pb0, 0, none⟩)), (2, .pointer (some ⟨pb1, 0, none⟩)), (3, .pointer (some ⟨pb2, 0, none⟩)), (4, .pointer (some ⟨pb3, 0, none⟩)), (17, .slice a99 x90.length c100), (18, .int .i64 ((x90).length : Int)), (19, .int .i64 ((k104 : Nat) : Int))] ∧ St w s (pt pb0 (.cells #[.slice a_v0 y0.length c_v0] 101 (0, 0)) :: pt pb1 (.cells #[.pointer (some ⟨b75, o76, none⟩)] 96 (0, 0)) :: pt pb2 (.cells #[.slice a_v1 y2.length c_v1] 101 (0, 0)) :: pt pb3 (.cells #[.func (.func 70) #[] #[.pointer (some ⟨pb0, 0, none⟩), .pointer (some ⟨pb1, 0, none⟩), .pointer (some ⟨pb2, 0, none⟩), .pointer (some ⟨pb3, 0, none⟩)]] 66 (0, 0)) :: vecC 4 1 a_v0 c_v0 y0.length cs117 :: vecC 4 1 a_v1 c_v1 y2.length cs123 :: R)) (m := x90.length) ⟨x90, 0, x68, y2, cs70, cs_v1, rfl, rfl, hq102, h71, hn72, h_v1, (rfl), hE.pick _ ⟨rfl, rfl, rfl, rfl, rfl, rfl, rfl, trivial⟩, hS⟩ ?_
      clear hE hS a w hq102; rintro m110 a w ⟨rest106, k104, q113, q119, cs117, cs123, rfl, hd107, hq102, h116, hn118, h122, hn124, hE, hS⟩
      refine W.gen fun K125 hK125 => ?_
      rcases rest106 with _ | ⟨x105, rest106⟩
      · have hlt108 := drop_nil hd107
        refine W.seq ?_
        refine W.region ?_
        refine WL.vS hS hE (runs_plain rfl) (Gives.p hE rfl) rfl ?_; clear hE a; intro a hE
        refine WL.nil ?_
        refine W.seq ?_
        refine W.condF hE rfl (decide_eq_false (by omega)) ?_
        subst hK125
        refine W.exit rfl ?_
        exact ⟨q113, q119, cs117, cs123, Option.some.inj hq102, h116, hn118, h122, hn124, hE.pick _ trivial, hS⟩
      · obtain ⟨hlt108, hx109, hd107⟩ := drop_cons hd107
        rw [FleetApart_1_v1.loop1] at hq102
        refine W.seq ?_
        refine W.region ?_
        refine WL.vS hS hE (runs_plain rfl) (Gives.p hE rfl) rfl ?_; clear hE a; intro a hE
        refine WL.nil ?_
        refine W.seq ?_
        refine W.condT hE rfl (decide_eq_true (by omega)) ?_
        refine W.skip ?_
        refine W.seq ?_
        refine W.block ?_
        refine W.seq ?_
        refine W.region ?_
        refine WL.vS hS hE (runs_plain rfl) (Gives.p hE rfl) rfl ?_; clear hE a; intro a hE
        obtain ⟨cs126, hl127, hR128, hat129⟩ := h101.at hx109
        subst hR128
        refine WL.vS hS hE (runs_plain rfl) (Gives.idx hE k104 rfl rfl sl101 rfl hlt108 (h101.aok hlt108)) rfl ?_; clear hE a; intro a hE
        refine WL.vS hS hE (runs_plain rfl) (Gives.load1 hE rfl (fun w h => hat129 w _ h) ty4) rfl ?_; clear hE a; intro a hE
        refine WL.vS hS hE (runs_plain rfl) (Gives.p hE rfl) rfl ?_; clear hE a; intro a hE
        refine WL.vS hS hE (runs_plain rfl) (Gives.p hE rfl) rfl ?_; clear hE a; intro a hE
        refine WL.nil ?_
        refine W.seq ?_
        obtain ⟨q131, hq130, hq102⟩ := bindS hq102
        refine W.cut (fun a w => ∃ (q134 : Bool), q134 = q131 ∧ Rep a 56 [(1, .pointer (some ⟨pb0, 0, none⟩)), (2, .pointer (some ⟨pb1, 0, none⟩)), (3, .pointer (some ⟨pb2, 0, none⟩)), (4, .pointer (some ⟨pb3, 0, none⟩)), (6, .int .i64 ((k104 : Nat) : Int)), (17, .slice a99 x90.length c100), (18, .int .i64 ((x90).length : Int)), (19, .int .i64 ((k104 : Nat) : Int)), (31, .bool q134)] ∧ St w s (pt pb0 (.cells #[.slice a_v0 y0.length c_v0] 101 (0, 0)) :: pt pb1 (.cells #[.pointer (some ⟨b75, o76, none⟩)] 96 (0, 0)) :: pt pb2 (.cells #[.slice a_v1 y2.length c_v1] 101 (0, 0)) :: pt pb3 (.cells #[.func (.func 70) #[] #[.pointer (some ⟨pb0, 0, none⟩), .pointer (some ⟨pb1, 0, none⟩), .pointer (some ⟨pb2, 0, none⟩), .pointer (some ⟨pb3, 0, none⟩)]] 66 (0, 0)) :: vecC 4 1 a_v0 c_v0 y0.length cs117 :: vecC 4 1 a_v1 c_v1 y2.length cs123 :: R)) ?_ ?_
        · refine W.gen fun K135 hK135 => ?_
          refine W.region ?_
          refine WL.vS hS hE (runs_plain rfl) (Gives.p hE rfl) rfl ?_; clear hE a; intro a hE
          refine WL.vS hS hE (runs_plain rfl) (Gives.p hE rfl) rfl ?_; clear hE a; intro a hE
          rcases Bool.eq_false_or_eq_true x105 with hg136 | hg136
          · replace hq130 := iteT hg136 hq130
            refine WL.vS hS hE (runs_if hE rfl rfl rfl hg136) (Gives.loadB hE 2 rfl rfl rfl ty101) rfl ?_; clear hE a; intro a hE
            refine WL.vS hS hE (runs_if hE rfl rfl rfl hg136) (Gives.p hE rfl) rfl ?_; clear hE a; intro a hE
            obtain ⟨x137, hx138, hq130⟩ := bindS hq130
            obtain ⟨hi139, hlt140, hy141⟩ := gx_some hx138
            obtain ⟨vs142, hl143, hR144, hd145, hget146⟩ := h122.at hy141
            subst hR144
            refine WL.vS hS hE (runs_if hE rfl rfl rfl hg136) (Gives.idx hE ((((k104 : Nat) : Int)).toNat) rfl rfl sl101 hi139 (by have := hn124; omega) (hS.vecAok 5 rfl (by have := hn124; omega : (((k104 : Nat) : Int)).toNat < y2.length))) rfl ?_; clear hE a; intro a hE
            refine WL.vS hS hE (runs_if hE rfl rfl rfl hg136) (Gives.load1 hE rfl (fun w h => St.vecSees h 5 rfl ((((k104 : Nat) : Int)).toNat * 1) _ hget146) ty4) rfl ?_; clear hE a; intro a hE
            refine WL.vS hS hE (runs_if hE rfl rfl rfl hg136) (Gives.p hE rfl) rfl ?_; clear hE a; intro a hE
            refine WL.vS hS hE (runs_plain rfl) (Gives.pickT hE rfl hg136 rfl) rfl ?_; clear hE a; intro a hE
            refine WL.nil ?_
            subst hK135
            exact ⟨!x137, Option.some.inj hq130, hE.pick _ ⟨rfl, rfl, rfl, rfl, rfl, rfl, rfl, rfl, rfl, trivial⟩, hS⟩
          · replace hq130 := iteF hg136 hq130
            refine WL.no hE (runs_not hE rfl rfl rfl (by rw [hg136]; decide)) rfl ?_; clear hE a; intro a hE
            refine WL.no hE (runs_not hE rfl rfl rfl (by rw [hg136]; decide)) rfl ?_; clear hE a; intro a hE
            refine WL.no hE (runs_not hE rfl rfl rfl (by rw [hg136]; decide)) rfl ?_; clear hE a; intro a hE
            refine WL.no hE (runs_not hE rfl rfl rfl (by rw [hg136]; decide)) rfl ?_; clear hE a; intro a hE
            refine WL.no hE (runs_not hE rfl rfl rfl (by rw [hg136]; decide)) rfl ?_; clear hE a; intro a hE
            refine WL.vS hS hE (runs_plain rfl) (Gives.pickF hE rfl hg136 rfl) rfl ?_; clear hE a; intro a hE
            refine WL.nil ?_
            subst hK135
            exact ⟨false, Option.some.inj hq130, hE.pick _ ⟨rfl, rfl, rfl, rfl, rfl, rfl, rfl, rfl, rfl, trivial⟩, hS⟩
        · clear hE hS a w; rintro a w ⟨q134, rfl, hE, hS⟩
          obtain ⟨q148, hq147, hq102⟩ := bindS hq102
          refine W.cut (fun a w => ∃ (q151 : List Bool), ∃ (q157 : List Bool), ∃ (cs155 : List Value), ∃ (cs161 : List Value), (q151, q157) = q148 ∧ Ev 1 RB s cs155 q151 ∧ q151.length = y0.length ∧ Ev 1 RB s cs161 q157 ∧ q157.length = y2.length ∧ Rep a 56 [(1, .pointer (some ⟨pb0, 0, none⟩)), (2, .pointer (some ⟨pb1, 0, none⟩)), (3, .pointer (some ⟨pb2, 0, none⟩)), (4, .pointer (some ⟨pb3, 0, none⟩)), (17, .slice a99 x90.length c100), (18, .int .i64 ((x90).length : Int)), (19, .int .i64 ((k104 : Nat) : Int))] ∧ St w s (pt pb0 (.cells #[.slice a_v0 y0.length c_v0] 101 (0, 0)) :: pt pb1 (.cells #[.pointer (some ⟨b75, o76, none⟩)] 96 (0, 0)) :: pt pb2 (.cells #[.slice a_v1 y2.length c_v1] 101 (0, 0)) :: pt pb3 (.cells #[.func (.func 70) #[] #[.pointer (some ⟨pb0, 0, none⟩), .pointer (some ⟨pb1, 0, none⟩), .pointer (some ⟨pb2, 0, none⟩), .pointer (some ⟨pb3, 0, none⟩)]] 66 (0, 0)) :: vecC 4 1 a_v0 c_v0 y0.length cs155 :: vecC 4 1 a_v1 c_v1 y2.length cs161 :: R)) ?_ ?_
          · refine W.gen fun K163 hK163 => ?_
            refine W.cond hE rfl (fun hc164 => ?_) (fun hc164 => ?_)
            · replace hq147 := iteT hc164 hq147
              refine W.seq ?_
              refine W.region ?_
              refine WL.vS hS hE (runs_plain rfl) (Gives.loadB hE 2 rfl rfl rfl ty101) rfl ?_; clear hE a; intro a hE
              refine WL.vS hS hE (runs_plain rfl) (Gives.p hE rfl) rfl ?_; clear hE a; intro a hE
              obtain ⟨_, hx166, hq147⟩ := bindS hq147
              obtain ⟨h167, h168⟩ := ix_some hx166
              refine WL.vS hS hE (runs_plain rfl) (Gives.idx hE ((((k104 : Nat) : Int)).toNat) rfl rfl sl101 h167 (by have := hn124; omega) (hS.vecAok 5 rfl (by have := hn124; omega : (((k104 : Nat) : Int)).toNat < y2.length))) rfl ?_; clear hE a; intro a hE
              obtain ⟨x170, hx171, hq147⟩ := bindS hq147
              refine WL.setD hE hS 5 rfl (runs_plain rfl) rfl rfl (vs := [.bool true]) rfl ty4 rfl rfl rfl h122 hn124 (sx_some hx171).1 hx171 rfl rfl ?_; clear hE hS a w; intro cs172 a w h173 hn174 hE hS
              refine WL.nil ?_
              refine W.seq ?_
              refine W.regionQ (C := fun w => St w s (pt pb0 (.cells #[.slice a_v0 y0.length c_v0] 101 (0, 0)) :: pt pb1 (.cells #[.pointer (some ⟨b75, o76, none⟩)] 96 (0, 0)) :: pt pb2 (.cells #[.slice a_v1 y2.length c_v1] 101 (0, 0)) :: pt pb3 (.cells #[.func (.func 70) #[] #[.pointer (some ⟨pb0, 0, none⟩), .pointer (some ⟨pb1, 0, none⟩), .pointer (some ⟨pb2, 0, none⟩), .pointer (some ⟨pb3, 0, none⟩)]] 66 (0, 0)) :: vecC 4 1 a_v0 c_v0 y0.length cs117 :: vecC 4 1 a_v1 c_v1 y2.length cs172 :: R)) mixed (by kernel_rfl) hS.drew ?_
              refine QL.v hE (runs_plain rfl) (Gives.loadB hE 0 rfl rfl rfl ty101) rfl ?_; clear hE a; intro a hE
              refine QL.v hE (runs_plain rfl) (Gives.loadB hE 1 rfl rfl rfl ty96) rfl ?_; clear hE a; intro a hE
              refine QL.v hE (runs_plain rfl) (Gives.nilOk hE rfl) rfl ?_; clear hE a; intro a hE
              refine QL.v hE (runs_plain rfl) (Gives.fld hE rfl fl100_2) rfl ?_; clear hE a; intro a hE
              refine QL.v hE (runs_plain rfl) (Gives.load1 hE rfl (fun w h => (hat80 w _ h).one rfl) ty44) rfl ?_; clear hE a; intro a hE
              refine QL.v hE (runs_plain rfl) (Gives.p hE rfl) rfl ?_; clear hE a; intro a hE
              obtain ⟨x175, hx176, hq147⟩ := bindS hq147
              obtain ⟨hi177, hlt178, hy179⟩ := gx_some hx176
              obtain ⟨cs180, hl181, hR182, hat183⟩ := h89.at hy179
              subst hR182
              refine QL.v hE (runs_plain rfl) (Gives.idx hE (((k104 : Nat) : Int)).toNat rfl rfl sl44 hi177 hlt178 (h89.aok hlt178)) rfl ?_; clear hE a; intro a hE
              refine QL.v hE (runs_plain rfl) (Gives.load1 hE rfl (fun w h => hat183 w _ h) ty3) rfl ?_; clear hE a; intro a hE
              obtain ⟨x184, hx185, hq147⟩ := bindS hq147
              obtain ⟨hi186, hlt187, hy188⟩ := gx_some hx185
              obtain ⟨vs189, hl190, hR191, hd192, hget193⟩ := h116.at hy188
              subst hR191
              refine QL.v hE (runs_plain rfl) (Gives.idx hE ((x175).toNat) rfl rfl sl101 hi186 (by have := hn118; omega) (hS.vecAok 4 rfl (by have := hn118; omega : (x175).toNat < y0.length))) rfl ?_; clear hE a; intro a hE
              refine QL.v hE (runs_plain rfl) (Gives.load1 hE rfl (fun w h => St.vecSees h 4 rfl ((x175).toNat * 1) _ hget193) ty4) rfl ?_; clear hE a; intro a hE
              refine QL.v hE (runs_plain rfl) (Gives.p hE rfl) rfl ?_; clear hE a; intro a hE
              refine QL.nil ?_; clear hS w; intro w hS
              refine W.cond hE rfl (fun hc194 => ?_) (fun hc194 => ?_)
              · replace hq147 := iteT hc194 hq147
                refine W.gen fun K195 hK195 => ?_
                refine W.regionE (sel (fun w => St w s (pt pb0 (.cells #[.slice a_v0 y0.length c_v0] 101 (0, 0)) :: pt pb1 (.cells #[.pointer (some ⟨b75, o76, none⟩)] 96 (0, 0)) :: pt pb2 (.cells #[.slice a_v1 y2.length c_v1] 101 (0, 0)) :: pt pb3 (.cells #[.func (.func 70) #[] #[.pointer (some ⟨pb0, 0, none⟩), .pointer (some ⟨pb1, 0, none⟩), .pointer (some ⟨pb2, 0, none⟩), .pointer (some ⟨pb3, 0, none⟩)]] 66 (0, 0)) :: vecC 4 1 a_v0 c_v0 y0.length cs117 :: vecC 4 1 a_v1 c_v1 y2.length cs172 :: R)) (fun w => St w s (pt pb0 (.cells #[.slice a_v0 y0.length c_v0] 101 (0, 0)) :: pt pb1 (.cells #[.pointer (some ⟨b75, o76, none⟩)] 96 (0, 0)) :: pt pb2 (.cells #[.slice a_v1 y2.length c_v1] 101 (0, 0)) :: pt pb3 (.cells #[.func (.func 70) #[] #[.pointer (some ⟨pb0, 0, none⟩), .pointer (some ⟨pb1, 0, none⟩), .pointer (some ⟨pb2, 0, none⟩), .pointer (some ⟨pb3, 0, none⟩)]] 66 (0, 0)) :: R))) (fun b i => cond b ([0, 1, 2, 3, 4, 5, 6, 7].contains i) ([0, 1, 2, 3, 4, 5, 6, 7, 8].contains i)) mixed ?_
                replace hS := hS.drew
                have hT := tw_sel (A := fun w => St w s (pt pb0 (.cells #[.slice a_v0 y0.length c_v0] 101 (0, 0)) :: pt pb1 (.cells #[.pointer (some ⟨b75, o76, none⟩)] 96 (0, 0)) :: pt pb2 (.cells #[.slice a_v1 y2.length c_v1] 101 (0, 0)) :: pt pb3 (.cells #[.func (.func 70) #[] #[.pointer (some ⟨pb0, 0, none⟩), .pointer (some ⟨pb1, 0, none⟩), .pointer (some ⟨pb2, 0, none⟩), .pointer (some ⟨pb3, 0, none⟩)]] 66 (0, 0)) :: vecC 4 1 a_v0 c_v0 y0.length cs117 :: vecC 4 1 a_v1 c_v1 y2.length cs172 :: R)) (B := fun w => St w s (pt pb0 (.cells #[.slice a_v0 y0.length c_v0] 101 (0, 0)) :: pt pb1 (.cells #[.pointer (some ⟨b75, o76, none⟩)] 96 (0, 0)) :: pt pb2 (.cells #[.slice a_v1 y2.length c_v1] 101 (0, 0)) :: pt pb3 (.cells #[.func (.func 70) #[] #[.pointer (some ⟨pb0, 0, none⟩), .pointer (some ⟨pb1, 0, none⟩), .pointer (some ⟨pb2, 0, none⟩), .pointer (some ⟨pb3, 0, none⟩)]] 66 (0, 0)) :: R)) (w := _) (x := true) (y := true) (fun _ => hS) (fun _ => ((hS.dropAt 4).dropAt 4))
                have hF := hS; replace hS := hS
                refine Rg.take (i := 0) true rfl hE rfl (by kernel_rfl) (runs_plain rfl) (Gives.loadB hE 3 rfl rfl rfl ty66) rfl hT ?_; clear hE a; intro a hE
                replace hS := hF; clear hF hT
                have hT := tw_sel (A := fun w => St w s (pt pb0 (.cells #[.slice a_v0 y0.length c_v0] 101 (0, 0)) :: pt pb1 (.cells #[.pointer (some ⟨b75, o76, none⟩)] 96 (0, 0)) :: pt pb2 (.cells #[.slice a_v1 y2.length c_v1] 101 (0, 0)) :: pt pb3 (.cells #[.func (.func 70) #[] #[.pointer (some ⟨pb0, 0, none⟩), .pointer (some ⟨pb1, 0, none⟩), .pointer (some ⟨pb2, 0, none⟩), .pointer (some ⟨pb3, 0, none⟩)]] 66 (0, 0)) :: vecC 4 1 a_v0 c_v0 y0.length cs117 :: vecC 4 1 a_v1 c_v1 y2.length cs172 :: R)) (B := fun w => St w s (pt pb0 (.cells #[.slice a_v0 y0.length c_v0] 101 (0, 0)) :: pt pb1 (.cells #[.pointer (some ⟨b75, o76, none⟩)] 96 (0, 0)) :: pt pb2 (.cells #[.slice a_v1 y2.length c_v1] 101 (0, 0)) :: pt pb3 (.cells #[.func (.func 70) #[] #[.pointer (some ⟨pb0, 0, none⟩), .pointer (some ⟨pb1, 0, none⟩), .pointer (some ⟨pb2, 0, none⟩), .pointer (some ⟨pb3, 0, none⟩)]] 66 (0, 0)) :: R)) (w := _) (x := true) (y := true) (fun _ => hS) (fun _ => ((hS.dropAt 4).dropAt 4))
                have hF := hS; replace hS := ((hS.dropAt 4).dropAt 4)
                refine Rg.take (i := 1) false rfl hE rfl (by kernel_rfl) (runs_plain rfl) (Gives.loadB hE 1 rfl rfl rfl ty96) rfl hT ?_; clear hE a; intro a hE
                replace hS := hF; clear hF hT
                have hT := tw_sel (A := fun w => St w s (pt pb0 (.cells #[.slice a_v0 y0.length c_v0] 101 (0, 0)) :: pt pb1 (.cells #[.pointer (some ⟨b75, o76, none⟩)] 96 (0, 0)) :: pt pb2 (.cells #[.slice a_v1 y2.length c_v1] 101 (0, 0)) :: pt pb3 (.cells #[.func (.func 70) #[] #[.pointer (some ⟨pb0, 0, none⟩), .pointer (some ⟨pb1, 0, none⟩), .pointer (some ⟨pb2, 0, none⟩), .pointer (some ⟨pb3, 0, none⟩)]] 66 (0, 0)) :: vecC 4 1 a_v0 c_v0 y0.length cs117 :: vecC 4 1 a_v1 c_v1 y2.length cs172 :: R)) (B := fun w => St w s (pt pb0 (.cells #[.slice a_v0 y0.length c_v0] 101 (0, 0)) :: pt pb1 (.cells #[.pointer (some ⟨b75, o76, none⟩)] 96 (0, 0)) :: pt pb2 (.cells #[.slice a_v1 y2.length c_v1] 101 (0, 0)) :: pt pb3 (.cells #[.func (.func 70) #[] #[.pointer (some ⟨pb0, 0, none⟩), .pointer (some ⟨pb1, 0, none⟩), .pointer (some ⟨pb2, 0, none⟩), .pointer (some ⟨pb3, 0, none⟩)]] 66 (0, 0)) :: R)) (w := _) (x := true) (y := true) (fun _ => hS) (fun _ => ((hS.dropAt 4).dropAt 4))
                have hF := hS; replace hS := ((hS.dropAt 4).dropAt 4)
                refine Rg.take (i := 2) false rfl hE rfl (by kernel_rfl) (runs_plain rfl) (Gives.nilOk hE rfl) rfl hT ?_; clear hE a; intro a hE
                replace hS := hF; clear hF hT
                refine Rg.takeP (i := 3) hE rfl (by kernel_rfl) (runs_plain rfl) (Gives.fld hE rfl fl100_2) rfl (tw_sel (fun _ => hS) (fun _ => ((hS.dropAt 4).dropAt 4))) ?_; clear hE a; intro a hE
                have hT := tw_sel (A := fun w => St w s (pt pb0 (.cells #[.slice a_v0 y0.length c_v0] 101 (0, 0)) :: pt pb1 (.cells #[.pointer (some ⟨b75, o76, none⟩)] 96 (0, 0)) :: pt pb2 (.cells #[.slice a_v1 y2.length c_v1] 101 (0, 0)) :: pt pb3 (.cells #[.func (.func 70) #[] #[.pointer (some ⟨pb0, 0, none⟩), .pointer (some ⟨pb1, 0, none⟩), .pointer (some ⟨pb2, 0, none⟩), .pointer (some ⟨pb3, 0, none⟩)]] 66 (0, 0)) :: vecC 4 1 a_v0 c_v0 y0.length cs117 :: vecC 4 1 a_v1 c_v1 y2.length cs172 :: R)) (B := fun w => St w s (pt pb0 (.cells #[.slice a_v0 y0.length c_v0] 101 (0, 0)) :: pt pb1 (.cells #[.pointer (some ⟨b75, o76, none⟩)] 96 (0, 0)) :: pt pb2 (.cells #[.slice a_v1 y2.length c_v1] 101 (0, 0)) :: pt pb3 (.cells #[.func (.func 70) #[] #[.pointer (some ⟨pb0, 0, none⟩), .pointer (some ⟨pb1, 0, none⟩), .pointer (some ⟨pb2, 0, none⟩), .pointer (some ⟨pb3, 0, none⟩)]] 66 (0, 0)) :: R)) (w := _) (x := true) (y := true) (fun _ => hS) (fun _ => ((hS.dropAt 4).dropAt 4))
                have hF := hS; replace hS := ((hS.dropAt 4).dropAt 4)
                refine Rg.take (i := 4) false rfl hE rfl (by kernel_rfl) (runs_plain rfl) (Gives.load1 hE rfl (fun w h => (hat80 w _ h).one rfl) ty44) rfl hT ?_; clear hE a; intro a hE
                replace hS := hF; clear hF hT
                refine Rg.takeP (i := 5) hE rfl (by kernel_rfl) (runs_plain rfl) (Gives.p hE rfl) rfl (tw_sel (fun _ => hS) (fun _ => ((hS.dropAt 4).dropAt 4))) ?_; clear hE a; intro a hE
                obtain ⟨x196, hx197, hq147⟩ := bindS hq147
                obtain ⟨hi198, hlt199, hy200⟩ := gx_some hx197
                obtain ⟨cs201, hl202, hR203, hat204⟩ := h89.at hy200
                subst hR203
                refine Rg.takeP (i := 6) hE rfl (by kernel_rfl) (runs_plain rfl) (Gives.idx hE (((k104 : Nat) : Int)).toNat rfl rfl sl44 hi198 hlt199 (h89.aok hlt199)) rfl (tw_sel (fun _ => hS) (fun _ => ((hS.dropAt 4).dropAt 4))) ?_; clear hE a; intro a hE
                have hT := tw_sel (A := fun w => St w s (pt pb0 (.cells #[.slice a_v0 y0.length c_v0] 101 (0, 0)) :: pt pb1 (.cells #[.pointer (some ⟨b75, o76, none⟩)] 96 (0, 0)) :: pt pb2 (.cells #[.slice a_v1 y2.length c_v1] 101 (0, 0)) :: pt pb3 (.cells #[.func (.func 70) #[] #[.pointer (some ⟨pb0, 0, none⟩), .pointer (some ⟨pb1, 0, none⟩), .pointer (some ⟨pb2, 0, none⟩), .pointer (some ⟨pb3, 0, none⟩)]] 66 (0, 0)) :: vecC 4 1 a_v0 c_v0 y0.length cs117 :: vecC 4 1 a_v1 c_v1 y2.length cs172 :: R)) (B := fun w => St w s (pt pb0 (.cells #[.slice a_v0 y0.length c_v0] 101 (0, 0)) :: pt pb1 (.cells #[.pointer (some ⟨b75, o76, none⟩)] 96 (0, 0)) :: pt pb2 (.cells #[.slice a_v1 y2.length c_v1] 101 (0, 0)) :: pt pb3 (.cells #[.func (.func 70) #[] #[.pointer (some ⟨pb0, 0, none⟩), .pointer (some ⟨pb1, 0, none⟩), .pointer (some ⟨pb2, 0, none⟩), .pointer (some ⟨pb3, 0, none⟩)]] 66 (0, 0)) :: R)) (w := _) (x := true) (y := true) (fun _ => hS) (fun _ => ((hS.dropAt 4).dropAt 4))
                have hF := hS; replace hS := hS
                refine Rg.take (i := 7) true rfl hE rfl (by kernel_rfl) (runs_plain rfl) (Gives.load1 hE rfl (fun w h => hat204 w _ h) ty3) rfl hT ?_; clear hE a; intro a hE
                replace hS := hF; clear hF hT
                refine Rg.one (i := 8) false true rfl (by kernel_rfl) (by kernel_rfl) (by kernel_rfl) ?_
                obtain ⟨q205, hq206, hq147⟩ := bindS hq147
                have hc_ := ih_FleetApart_1_v1 hS h116 hn118 h_y1_0 h173 hn174 hq206
                refine WL.fnw hE (hc_) rfl (runs_plain rfl) bd70 rfl rfl rfl ?_
                clear hE hS hc_; rintro e w ⟨cs207, cs210, rfl, h208, hn209, h211, hn212, hS⟩; refine ⟨_, rfl, ?_⟩; clear a; intro a hE
                refine WL.nil ?_
                refine ⟨⟨fun h => absurd h (by decide), fun _ => ((hS.dropAt 4).dropAt 4)⟩, ?_⟩
                refine Rg.done (by kernel_rfl) ?_
                subst hK195
                subst hK163
                exact ⟨q205.1, q205.2, cs207, cs210, Option.some.inj hq147, h208, hn209, h211, hn212, hE.pick _ ⟨rfl, rfl, rfl, rfl, rfl, rfl, rfl, trivial⟩, hS⟩
              · replace hq147 := iteF hc194 hq147
                refine W.skip ?_
                subst hK163
                exact ⟨q113, x170, cs117, cs172, Option.some.inj hq147, h116, hn118, h173, hn174, hE.pick _ ⟨rfl, rfl, rfl, rfl, rfl, rfl, rfl, trivial⟩, hS⟩
            · replace hq147 := iteF hc164 hq147
              refine W.skip ?_
              subst hK163
              exact ⟨q113, q119, cs117, cs123, Option.some.inj hq147, h116, hn118, h122, hn124, hE.pick _ ⟨rfl, rfl, rfl, rfl, rfl, rfl, rfl, trivial⟩, hS⟩
          · clear hE hS a w; rintro a w ⟨q151, q157, cs155, cs161, rfl, h154, hn156, h160, hn162, hE, hS⟩
            dsimp only at hq102
            refine W.region ?_
            refine WL.vS hS hE (runs_plain rfl) (Gives.inc hE rfl (by have := h101.small; omega)) rfl ?_; clear hE a; intro a hE
            refine WL.vS hS hE (runs_plain rfl) (Gives.p hE rfl) rfl ?_; clear hE a; intro a hE
            refine WL.nil ?_
            subst hK125
            exact ⟨rest106.length, Nat.lt_succ_self _, rest106, k104 + 1, q151, q157, cs155, cs161, rfl, hd107, hq102, h154, hn156, h160, hn162, hE.pick _ ⟨rfl, rfl, rfl, rfl, rfl, rfl, rfl, trivial⟩, hS⟩
    · clear hE hS a w; rintro a w ⟨q113, q119, cs117, cs123, rfl, h116, hn118, h122, hn124, hE, hS⟩
      dsimp only at hr
      refine finG (fn := Try.f70) (rs := []) (vs := []) hE rfl trivial ?_
      obtain rfl := Option.some.inj hr
      exact ⟨cs117, cs123, rfl, h116, hn118, h122, hn124, hS⟩
end Go.Proofs.Ytfhkpdnohcidgaa
