/- The walks of the functions that FleetJudges reaches: each call comes to what its mirror says. The conditions are those of each contract. -/
import Derived.Test.YtpoooohaoekbaaaProg
import Derived.Test.YtpoooohaoekbaaaFleetJudgesM
import Derived.Test.YtpoooohaoekbaaaFpReg
namespace Go.Proofs.Ytpoooohaoekbaaa
open Go Go.Fp
theorem ar91 : arOk Try.prog 91 6 = true := by kernel_rfl
theorem bd16 : bodied Try.prog 16 = true := by kernel_rfl
theorem bd17 : bodied Try.prog 17 = true := by kernel_rfl
theorem bd18 : bodied Try.prog 18 = true := by kernel_rfl
theorem bd19 : bodied Try.prog 19 = true := by kernel_rfl
theorem bd34 : bodied Try.prog 34 = true := by kernel_rfl
theorem bd35 : bodied Try.prog 35 = true := by kernel_rfl
theorem bd36 : bodied Try.prog 36 = true := by kernel_rfl
theorem bd37 : bodied Try.prog 37 = true := by kernel_rfl
theorem bd49 : bodied Try.prog 49 = true := by kernel_rfl
theorem bd50 : bodied Try.prog 50 = true := by kernel_rfl
theorem bd51 : bodied Try.prog 51 = true := by kernel_rfl
theorem bd52 : bodied Try.prog 52 = true := by kernel_rfl
theorem bd53 : bodied Try.prog 53 = true := by kernel_rfl
theorem bd54 : bodied Try.prog 54 = true := by kernel_rfl
theorem bd67 : bodied Try.prog 67 = true := by kernel_rfl
theorem fl35_0 : fldOk Try.prog 35 0 0 = true := by kernel_rfl
theorem fl35_1 : fldOk Try.prog 35 1 1 = true := by kernel_rfl
theorem fl35_2 : fldOk Try.prog 35 2 2 = true := by kernel_rfl
theorem fl35_3 : fldOk Try.prog 35 3 3 = true := by kernel_rfl
theorem fl35_4 : fldOk Try.prog 35 4 4 = true := by kernel_rfl
theorem fl35_5 : fldOk Try.prog 35 5 5 = true := by kernel_rfl
theorem fl35_6 : fldOk Try.prog 35 6 6 = true := by kernel_rfl
theorem fl84_0 : fldOk Try.prog 84 0 0 = true := by kernel_rfl
theorem fl84_1 : fldOk Try.prog 84 1 1 = true := by kernel_rfl
theorem fl84_2 : fldOk Try.prog 84 2 2 = true := by kernel_rfl
theorem fl84_3 : fldOk Try.prog 84 3 3 = true := by kernel_rfl
theorem fl84_4 : fldOk Try.prog 84 4 4 = true := by kernel_rfl
theorem fl84_5 : fldOk Try.prog 84 5 5 = true := by kernel_rfl
theorem mixed : Try.prog.follows .mixedOrders = true := by kernel_rfl
theorem sl22 : slOk Try.prog 22 3 1 = true := by kernel_rfl
theorem sl33 : slOk Try.prog 33 84 6 = true := by kernel_rfl
theorem ty3 : tyOk Try.prog 3 false 1 = true := by kernel_rfl
theorem ty35 : tyOk Try.prog 35 true 7 = true := by kernel_rfl
theorem ty84 : tyOk Try.prog 84 true 6 = true := by kernel_rfl
theorem zr3 : (Try.prog.info? 3).bind (fun i => i.zero.map fun z => z.cells.toList) = some [.int .i64 0] := by kernel_rfl
theorem zr84 : (Try.prog.info? 84).bind (fun i => i.zero.map fun z => z.cells.toList) = some [.int .i64 0, .int .i64 0, .int .i64 0, .int .i64 0, .int .i64 0, .int .i64 0] := by kernel_rfl
set_option maxHeartbeats 8000000 in
theorem Fleetwithin_ok {w : World} {s : Sg} {R : List HP} {x0 : Int} {x1 : Int} {x2 : Int} (hS : St w s (R))  {r : Bool} (hr : Fleetwithin x0 x1 x2 = r) :
    Calls Try.prog 51 [.int .i64 x0, .int .i64 x1, .int .i64 x2].toArray w (fun e w => e = .returned (.bool r) ∧ St w s (R)) := by
  refine enter Try.func51 rfl rfl rfl fun a hE => ?_
  rw [Fleetwithin] at hr
  refine W.seq ?_
  refine W.region ?_
  refine WL.vS hS hE (runs_plain rfl) (Gives.p hE rfl) rfl ?_; clear hE a; intro a hE
  refine WL.nil ?_
  refine W.seq ?_
  obtain ⟨q52, hq51, hr⟩ := bndS hr
  refine W.cut (fun a w => ∃ (q55 : Bool), q55 = q52 ∧ Rep a 15 [(6, .bool q55)] ∧ St w s (R)) ?_ ?_
  · refine W.gen fun K56 hK56 => ?_
    refine W.region ?_
    refine WL.vS hS hE (runs_plain rfl) (Gives.p hE rfl) rfl ?_; clear hE a; intro a hE
    refine WL.vS hS hE (runs_plain rfl) (Gives.p hE rfl) rfl ?_; clear hE a; intro a hE
    refine WL.vS hS hE (runs_plain rfl) (Gives.p hE rfl) rfl ?_; clear hE a; intro a hE
    refine WL.vS hS hE (runs_plain rfl) (Gives.p hE rfl) rfl ?_; clear hE a; intro a hE
    rcases Bool.eq_false_or_eq_true (decide (x0 ≥ x1)) with hg57 | hg57
    · replace hq51 := iteT hg57 hq51
      refine WL.vS hS hE (runs_if hE rfl rfl rfl hg57) (Gives.p hE rfl) rfl ?_; clear hE a; intro a hE
      refine WL.vS hS hE (runs_if hE rfl rfl rfl hg57) (Gives.p hE rfl) rfl ?_; clear hE a; intro a hE
      refine WL.vS hS hE (runs_if hE rfl rfl rfl hg57) (Gives.p hE rfl) rfl ?_; clear hE a; intro a hE
      refine WL.vS hS hE (runs_plain rfl) (Gives.pickT hE rfl hg57 rfl) rfl ?_; clear hE a; intro a hE
      refine WL.vS hS hE (runs_plain rfl) (Gives.p hE rfl) rfl ?_; clear hE a; intro a hE
      refine WL.nil ?_
      subst hK56
      exact ⟨decide (x0 ≤ x2), hq51, hE.pick _ ⟨rfl, trivial⟩, hS⟩
    · replace hq51 := iteF hg57 hq51
      refine WL.no hE (runs_not hE rfl rfl rfl (by rw [hg57]; decide)) rfl ?_; clear hE a; intro a hE
      refine WL.no hE (runs_not hE rfl rfl rfl (by rw [hg57]; decide)) rfl ?_; clear hE a; intro a hE
      refine WL.no hE (runs_not hE rfl rfl rfl (by rw [hg57]; decide)) rfl ?_; clear hE a; intro a hE
      refine WL.vS hS hE (runs_plain rfl) (Gives.pickF hE rfl hg57 rfl) rfl ?_; clear hE a; intro a hE
      refine WL.vS hS hE (runs_plain rfl) (Gives.p hE rfl) rfl ?_; clear hE a; intro a hE
      refine WL.nil ?_
      subst hK56
      exact ⟨false, hq51, hE.pick _ ⟨rfl, trivial⟩, hS⟩
  · clear hE hS a w; rintro a w ⟨q55, rfl, hE, hS⟩
    refine W.ret ?_
    refine finG (fn := Try.f51) (rs := [.tmp 6]) (vs := [_]) hE rfl ⟨rfl, trivial⟩ ?_
    subst hr
    exact ⟨rfl, hS⟩
set_option maxHeartbeats 8000000 in
theorem FleetCheckTasks_ok {w : World} {s : Sg} {R : List HP} {x0 : List FleetTask} {a0 : Option Addr} {c0 : Nat} (hS : St w s (R)) (h0 : Sl 6 RFleetTask s a0 c0 x0) {r : Int} (hr : FleetCheckTasks x0 = r) :
    Calls Try.prog 34 [.slice a0 x0.length c0].toArray w (fun e w => e = .returned (.int .i64 r) ∧ St w s (R)) := by
  refine enter Try.func34 rfl rfl rfl fun a hE => ?_
  rw [FleetCheckTasks] at hr
  refine W.seq ?_
  refine W.region ?_
  refine WL.vS hS hE (runs_plain rfl) (Gives.p hE rfl) rfl ?_; clear hE a; intro a hE
  refine WL.nil ?_
  refine W.seq ?_
  refine W.seq ?_
  refine W.region ?_
  refine WL.vS hS hE (runs_plain rfl) (Gives.p hE rfl) rfl ?_; clear hE a; intro a hE
  refine WL.vS hS hE (runs_plain rfl) (Gives.len hE rfl sl33) rfl ?_; clear hE a; intro a hE
  refine WL.vS hS hE (runs_plain rfl) (Gives.p hE rfl) rfl ?_; clear hE a; intro a hE
  refine WL.nil ?_
  refine W.cond hE rfl (fun hc51 => ?_) (fun hc51 => ?_)
  · replace hr := iteT hc51 hr
    refine W.seq ?_
    refine W.region ?_
    refine WL.vS hS hE (runs_plain rfl) (Gives.p hE rfl) rfl ?_; clear hE a; intro a hE
    refine WL.nil ?_
    refine W.ret ?_
    refine finG (fn := Try.f34) (rs := [.tmp 2]) (vs := [_]) hE rfl ⟨rfl, trivial⟩ ?_
    subst hr
    exact ⟨rfl, hS⟩
  · replace hr := iteF hc51 hr
    refine W.skip ?_
    refine W.seq ?_
    refine W.seq ?_
    refine W.region ?_
    refine WL.vS hS hE (runs_plain rfl) (Gives.p hE rfl) rfl ?_; clear hE a; intro a hE
    refine WL.vS hS hE (runs_plain rfl) (Gives.len hE rfl sl33) rfl ?_; clear hE a; intro a hE
    refine WL.vS hS hE (runs_plain rfl) (Gives.p hE rfl) rfl ?_; clear hE a; intro a hE
    refine WL.nil ?_
    obtain ⟨q53, hq52, hr⟩ := bndS hr
    refine W.cut (fun a w => (.next ()) = q53 ∧ Rep a 55 [] ∧ St w s (R)) ?_ ?_
    · refine W.block ?_
      refine W.loop (fun m a w => ∃ (rest56 : List FleetTask) (k54 : Nat), rest56.length = m ∧ x0.drop k54 = rest56 ∧ FleetCheckTasks.loop1 rest56 = q53 ∧ Rep a 55 [(8, .slice a0 x0.length c0), (9, .int .i64 ((x0).length : Int)), (10, .int .i64 ((k54 : Nat) : Int))] ∧ St w s (R)) (m := x0.length) ⟨x0, 0, rfl, rfl, hq52, hE.pick _ ⟨rfl, rfl, rfl, trivial⟩, hS⟩ ?_
      clear hE hS a w hq52; rintro m60 a w ⟨rest56, k54, rfl, hd57, hq52, hE, hS⟩
      refine W.gen fun K63 hK63 => ?_
      rcases rest56 with _ | ⟨x55, rest56⟩
      · have hlt58 := drop_nil hd57
        refine W.seq ?_
        refine W.region ?_
        refine WL.vS hS hE (runs_plain rfl) (Gives.p hE rfl) rfl ?_; clear hE a; intro a hE
        refine WL.nil ?_
        refine W.seq ?_
        refine W.condF hE rfl (decide_eq_false (by omega)) ?_
        subst hK63
        refine W.exit rfl ?_
        exact ⟨hq52, hE.pick _ trivial, hS⟩
      · obtain ⟨hlt58, hx59, hd57⟩ := drop_cons hd57
        rw [FleetCheckTasks.loop1] at hq52
        refine W.seq ?_
        refine W.region ?_
        refine WL.vS hS hE (runs_plain rfl) (Gives.p hE rfl) rfl ?_; clear hE a; intro a hE
        refine WL.nil ?_
        refine W.seq ?_
        refine W.condT hE rfl (decide_eq_true (by omega)) ?_
        refine W.skip ?_
        refine W.seq ?_
        refine W.block ?_
        refine W.seq ?_
        refine W.region ?_
        obtain ⟨cs64, hl65, hR66, hat67⟩ := h0.at hx59
        subst hR66
        refine WL.vS hS hE (runs_plain rfl) (Gives.idx hE k54 rfl rfl sl33 rfl hlt58 (h0.aok hlt58)) rfl ?_; clear hE a; intro a hE
        refine WL.vS hS hE (runs_plain rfl) (Gives.loadA hE rfl (fun w h => hat67 w _ h) ty84) rfl ?_; clear hE a; intro a hE
        refine WL.alloc hE hS (runs_plain rfl) zr84 rfl ?_; clear hE hS a w; intro b68 a w hE hS
        refine WL.storeI hE hS 0 rfl (FleetTask.cells x55) (runs_plain rfl) rfl rfl rfl ty84 rfl rfl rfl rfl ?_; clear hE hS a w; intro a w hE hS
        refine WL.nil ?_
        refine W.block ?_
        refine W.seq ?_
        obtain ⟨q70, hq69, hq52⟩ := bndS hq52
        refine W.cut (fun a w => ∃ (q73 : Bool), q73 = q70 ∧ Rep a 55 [(4, .pointer (some ⟨b68, 0, none⟩)), (8, .slice a0 x0.length c0), (9, .int .i64 ((x0).length : Int)), (10, .int .i64 ((k54 : Nat) : Int)), (14, .bool q73)] ∧ St w s (pt b68 (.cells (FleetTask.cells x55).toArray 84 (0, 0)) :: R)) ?_ ?_
        · refine W.gen fun K74 hK74 => ?_
          refine W.region ?_
          refine WL.vS hS hE (runs_plain rfl) (Gives.fld hE rfl fl84_0) rfl ?_; clear hE a; intro a hE
          refine WL.vS hS hE (runs_plain rfl) (Gives.loadB hE 0 rfl rfl rfl ty3) rfl ?_; clear hE a; intro a hE
          refine WL.fn hE (Fleetwithin_ok hS  rfl) (runs_plain rfl) bd51 rfl rfl ?_
          clear hE hS; rintro e w ⟨rfl, hS⟩; refine ⟨_, rfl, ?_⟩; clear a; intro a hE
          refine WL.vS hS hE (runs_plain rfl) (Gives.p hE rfl) rfl ?_; clear hE a; intro a hE
          refine WL.vS hS hE (runs_plain rfl) (Gives.p hE rfl) rfl ?_; clear hE a; intro a hE
          rcases Bool.eq_false_or_eq_true (!(Fleetwithin x55.From 0 11)) with hg75 | hg75
          · replace hq69 := iteT hg75 hq69
            refine WL.no hE (runs_not hE rfl rfl rfl (by rw [hg75]; decide)) rfl ?_; clear hE a; intro a hE
            refine WL.no hE (runs_not hE rfl rfl rfl (by rw [hg75]; decide)) rfl ?_; clear hE a; intro a hE
            refine WL.no hE (runs_not hE rfl rfl rfl (by rw [hg75]; decide)) rfl ?_; clear hE a; intro a hE
            refine WL.no hE (runs_not hE rfl rfl rfl (by rw [hg75]; decide)) rfl ?_; clear hE a; intro a hE
            refine WL.vS hS hE (runs_plain rfl) (Gives.pickT hE rfl hg75 rfl) rfl ?_; clear hE a; intro a hE
            refine WL.vS hS hE (runs_plain rfl) (Gives.p hE rfl) rfl ?_; clear hE a; intro a hE
            refine WL.no hE (runs_not hE rfl rfl rfl (by decide)) rfl ?_; clear hE a; intro a hE
            refine WL.no hE (runs_not hE rfl rfl rfl (by decide)) rfl ?_; clear hE a; intro a hE
            refine WL.no hE (runs_not hE rfl rfl rfl (by decide)) rfl ?_; clear hE a; intro a hE
            refine WL.no hE (runs_not hE rfl rfl rfl (by decide)) rfl ?_; clear hE a; intro a hE
            refine WL.vS hS hE (runs_plain rfl) (Gives.pickT hE rfl rfl rfl) rfl ?_; clear hE a; intro a hE
            refine WL.vS hS hE (runs_plain rfl) (Gives.p hE rfl) rfl ?_; clear hE a; intro a hE
            refine WL.no hE (runs_not hE rfl rfl rfl (by decide)) rfl ?_; clear hE a; intro a hE
            refine WL.no hE (runs_not hE rfl rfl rfl (by decide)) rfl ?_; clear hE a; intro a hE
            refine WL.no hE (runs_not hE rfl rfl rfl (by decide)) rfl ?_; clear hE a; intro a hE
            refine WL.no hE (runs_not hE rfl rfl rfl (by decide)) rfl ?_; clear hE a; intro a hE
            refine WL.vS hS hE (runs_plain rfl) (Gives.pickT hE rfl rfl rfl) rfl ?_; clear hE a; intro a hE
            refine WL.vS hS hE (runs_plain rfl) (Gives.p hE rfl) rfl ?_; clear hE a; intro a hE
            refine WL.nil ?_
            subst hK74
            exact ⟨true, hq69, hE.pick _ ⟨rfl, rfl, rfl, rfl, rfl, trivial⟩, hS⟩
          · replace hq69 := iteF hg75 hq69
            refine WL.vS hS hE (runs_if hE rfl rfl rfl hg75) (Gives.fld hE rfl fl84_1) rfl ?_; clear hE a; intro a hE
            refine WL.vS hS hE (runs_if hE rfl rfl rfl hg75) (Gives.loadB hE 0 rfl rfl rfl ty3) rfl ?_; clear hE a; intro a hE
            refine WL.fn hE (Fleetwithin_ok hS  rfl) (runs_if hE rfl rfl rfl hg75) bd51 rfl rfl ?_
            clear hE hS; rintro e w ⟨rfl, hS⟩; refine ⟨_, rfl, ?_⟩; clear a; intro a hE
            refine WL.vS hS hE (runs_if hE rfl rfl rfl hg75) (Gives.p hE rfl) rfl ?_; clear hE a; intro a hE
            refine WL.vS hS hE (runs_plain rfl) (Gives.pickF hE rfl hg75 rfl) rfl ?_; clear hE a; intro a hE
            refine WL.vS hS hE (runs_plain rfl) (Gives.p hE rfl) rfl ?_; clear hE a; intro a hE
            rcases Bool.eq_false_or_eq_true (!(Fleetwithin x55.To 0 11)) with hg76 | hg76
            · replace hq69 := iteT hg76 hq69
              refine WL.no hE (runs_not hE rfl rfl rfl (by rw [hg76]; decide)) rfl ?_; clear hE a; intro a hE
              refine WL.no hE (runs_not hE rfl rfl rfl (by rw [hg76]; decide)) rfl ?_; clear hE a; intro a hE
              refine WL.no hE (runs_not hE rfl rfl rfl (by rw [hg76]; decide)) rfl ?_; clear hE a; intro a hE
              refine WL.no hE (runs_not hE rfl rfl rfl (by rw [hg76]; decide)) rfl ?_; clear hE a; intro a hE
              refine WL.vS hS hE (runs_plain rfl) (Gives.pickT hE rfl hg76 rfl) rfl ?_; clear hE a; intro a hE
              refine WL.vS hS hE (runs_plain rfl) (Gives.p hE rfl) rfl ?_; clear hE a; intro a hE
              refine WL.no hE (runs_not hE rfl rfl rfl (by decide)) rfl ?_; clear hE a; intro a hE
              refine WL.no hE (runs_not hE rfl rfl rfl (by decide)) rfl ?_; clear hE a; intro a hE
              refine WL.no hE (runs_not hE rfl rfl rfl (by decide)) rfl ?_; clear hE a; intro a hE
              refine WL.no hE (runs_not hE rfl rfl rfl (by decide)) rfl ?_; clear hE a; intro a hE
              refine WL.vS hS hE (runs_plain rfl) (Gives.pickT hE rfl rfl rfl) rfl ?_; clear hE a; intro a hE
              refine WL.vS hS hE (runs_plain rfl) (Gives.p hE rfl) rfl ?_; clear hE a; intro a hE
              refine WL.nil ?_
              subst hK74
              exact ⟨true, hq69, hE.pick _ ⟨rfl, rfl, rfl, rfl, rfl, trivial⟩, hS⟩
            · replace hq69 := iteF hg76 hq69
              refine WL.vS hS hE (runs_if hE rfl rfl rfl hg76) (Gives.fld hE rfl fl84_2) rfl ?_; clear hE a; intro a hE
              refine WL.vS hS hE (runs_if hE rfl rfl rfl hg76) (Gives.loadB hE 0 rfl rfl rfl ty3) rfl ?_; clear hE a; intro a hE
              refine WL.fn hE (Fleetwithin_ok hS  rfl) (runs_if hE rfl rfl rfl hg76) bd51 rfl rfl ?_
              clear hE hS; rintro e w ⟨rfl, hS⟩; refine ⟨_, rfl, ?_⟩; clear a; intro a hE
              refine WL.vS hS hE (runs_if hE rfl rfl rfl hg76) (Gives.p hE rfl) rfl ?_; clear hE a; intro a hE
              refine WL.vS hS hE (runs_plain rfl) (Gives.pickF hE rfl hg76 rfl) rfl ?_; clear hE a; intro a hE
              refine WL.vS hS hE (runs_plain rfl) (Gives.p hE rfl) rfl ?_; clear hE a; intro a hE
              rcases Bool.eq_false_or_eq_true (!(Fleetwithin x55.Dep 0 28800)) with hg77 | hg77
              · replace hq69 := iteT hg77 hq69
                refine WL.no hE (runs_not hE rfl rfl rfl (by rw [hg77]; decide)) rfl ?_; clear hE a; intro a hE
                refine WL.no hE (runs_not hE rfl rfl rfl (by rw [hg77]; decide)) rfl ?_; clear hE a; intro a hE
                refine WL.no hE (runs_not hE rfl rfl rfl (by rw [hg77]; decide)) rfl ?_; clear hE a; intro a hE
                refine WL.no hE (runs_not hE rfl rfl rfl (by rw [hg77]; decide)) rfl ?_; clear hE a; intro a hE
                refine WL.vS hS hE (runs_plain rfl) (Gives.pickT hE rfl hg77 rfl) rfl ?_; clear hE a; intro a hE
                refine WL.vS hS hE (runs_plain rfl) (Gives.p hE rfl) rfl ?_; clear hE a; intro a hE
                refine WL.nil ?_
                subst hK74
                exact ⟨true, hq69, hE.pick _ ⟨rfl, rfl, rfl, rfl, rfl, trivial⟩, hS⟩
              · replace hq69 := iteF hg77 hq69
                refine WL.vS hS hE (runs_if hE rfl rfl rfl hg77) (Gives.fld hE rfl fl84_3) rfl ?_; clear hE a; intro a hE
                refine WL.vS hS hE (runs_if hE rfl rfl rfl hg77) (Gives.loadB hE 0 rfl rfl rfl ty3) rfl ?_; clear hE a; intro a hE
                refine WL.fn hE (Fleetwithin_ok hS  rfl) (runs_if hE rfl rfl rfl hg77) bd51 rfl rfl ?_
                clear hE hS; rintro e w ⟨rfl, hS⟩; refine ⟨_, rfl, ?_⟩; clear a; intro a hE
                refine WL.vS hS hE (runs_if hE rfl rfl rfl hg77) (Gives.p hE rfl) rfl ?_; clear hE a; intro a hE
                refine WL.vS hS hE (runs_plain rfl) (Gives.pickF hE rfl hg77 rfl) rfl ?_; clear hE a; intro a hE
                refine WL.vS hS hE (runs_plain rfl) (Gives.p hE rfl) rfl ?_; clear hE a; intro a hE
                refine WL.nil ?_
                subst hK74
                exact ⟨!(Fleetwithin x55.Arr 0 28800), hq69, hE.pick _ ⟨rfl, rfl, rfl, rfl, rfl, trivial⟩, hS⟩
        · clear hE hS a w; rintro a w ⟨q73, rfl, hE, hS⟩
          refine W.cond hE rfl (fun hc78 => ?_) (fun hc78 => ?_)
          · replace hq52 := iteT hc78 hq52
            refine W.seq ?_
            refine W.region ?_
            refine WL.vS hS hE (runs_plain rfl) (Gives.p hE rfl) rfl ?_; clear hE a; intro a hE
            refine WL.nil ?_
            refine W.ret ?_
            subst hK63
            rw [← hq52] at hr
            dsimp only at hr
            refine finG (fn := Try.f34) (rs := [.tmp 2]) (vs := [_]) hE rfl ⟨rfl, trivial⟩ ?_
            subst hr
            replace hS := hS.tail
            exact ⟨rfl, hS⟩
          · replace hq52 := iteF hc78 hq52
            refine W.seq ?_
            refine W.region ?_
            refine WL.vS hS hE (runs_plain rfl) (Gives.fld hE rfl fl84_3) rfl ?_; clear hE a; intro a hE
            refine WL.vS hS hE (runs_plain rfl) (Gives.loadB hE 0 rfl rfl rfl ty3) rfl ?_; clear hE a; intro a hE
            refine WL.vS hS hE (runs_plain rfl) (Gives.fld hE rfl fl84_2) rfl ?_; clear hE a; intro a hE
            refine WL.vS hS hE (runs_plain rfl) (Gives.loadB hE 0 rfl rfl rfl ty3) rfl ?_; clear hE a; intro a hE
            refine WL.vS hS hE (runs_plain rfl) (Gives.p hE rfl) rfl ?_; clear hE a; intro a hE
            refine WL.vS hS hE (runs_plain rfl) (Gives.p hE rfl) rfl ?_; clear hE a; intro a hE
            refine WL.nil ?_
            refine W.cond hE rfl (fun hc79 => ?_) (fun hc79 => ?_)
            · replace hq52 := iteT hc79 hq52
              refine W.seq ?_
              refine W.region ?_
              refine WL.vS hS hE (runs_plain rfl) (Gives.p hE rfl) rfl ?_; clear hE a; intro a hE
              refine WL.nil ?_
              refine W.ret ?_
              subst hK63
              rw [← hq52] at hr
              dsimp only at hr
              refine finG (fn := Try.f34) (rs := [.tmp 2]) (vs := [_]) hE rfl ⟨rfl, trivial⟩ ?_
              subst hr
              replace hS := hS.tail
              exact ⟨rfl, hS⟩
            · replace hq52 := iteF hc79 hq52
              refine W.seq ?_
              obtain ⟨q81, hq80, hq52⟩ := bndS hq52
              refine W.cut (fun a w => ∃ (q84 : Bool), q84 = q81 ∧ Rep a 55 [(8, .slice a0 x0.length c0), (9, .int .i64 ((x0).length : Int)), (10, .int .i64 ((k54 : Nat) : Int)), (43, .bool q84)] ∧ St w s (pt b68 (.cells (FleetTask.cells x55).toArray 84 (0, 0)) :: R)) ?_ ?_
              · refine W.gen fun K85 hK85 => ?_
                refine W.region ?_
                refine WL.vS hS hE (runs_plain rfl) (Gives.fld hE rfl fl84_4) rfl ?_; clear hE a; intro a hE
                refine WL.vS hS hE (runs_plain rfl) (Gives.loadB hE 0 rfl rfl rfl ty3) rfl ?_; clear hE a; intro a hE
                refine WL.fn hE (Fleetwithin_ok hS  rfl) (runs_plain rfl) bd51 rfl rfl ?_
                clear hE hS; rintro e w ⟨rfl, hS⟩; refine ⟨_, rfl, ?_⟩; clear a; intro a hE
                refine WL.vS hS hE (runs_plain rfl) (Gives.p hE rfl) rfl ?_; clear hE a; intro a hE
                refine WL.vS hS hE (runs_plain rfl) (Gives.p hE rfl) rfl ?_; clear hE a; intro a hE
                rcases Bool.eq_false_or_eq_true (!(Fleetwithin x55.Km 0 10000)) with hg86 | hg86
                · replace hq80 := iteT hg86 hq80
                  refine WL.no hE (runs_not hE rfl rfl rfl (by rw [hg86]; decide)) rfl ?_; clear hE a; intro a hE
                  refine WL.no hE (runs_not hE rfl rfl rfl (by rw [hg86]; decide)) rfl ?_; clear hE a; intro a hE
                  refine WL.no hE (runs_not hE rfl rfl rfl (by rw [hg86]; decide)) rfl ?_; clear hE a; intro a hE
                  refine WL.no hE (runs_not hE rfl rfl rfl (by rw [hg86]; decide)) rfl ?_; clear hE a; intro a hE
                  refine WL.vS hS hE (runs_plain rfl) (Gives.pickT hE rfl hg86 rfl) rfl ?_; clear hE a; intro a hE
                  refine WL.vS hS hE (runs_plain rfl) (Gives.p hE rfl) rfl ?_; clear hE a; intro a hE
                  refine WL.nil ?_
                  subst hK85
                  exact ⟨true, hq80, hE.pick _ ⟨rfl, rfl, rfl, rfl, trivial⟩, hS⟩
                · replace hq80 := iteF hg86 hq80
                  refine WL.vS hS hE (runs_if hE rfl rfl rfl hg86) (Gives.fld hE rfl fl84_5) rfl ?_; clear hE a; intro a hE
                  refine WL.vS hS hE (runs_if hE rfl rfl rfl hg86) (Gives.loadB hE 0 rfl rfl rfl ty3) rfl ?_; clear hE a; intro a hE
                  refine WL.fn hE (Fleetwithin_ok hS  rfl) (runs_if hE rfl rfl rfl hg86) bd51 rfl rfl ?_
                  clear hE hS; rintro e w ⟨rfl, hS⟩; refine ⟨_, rfl, ?_⟩; clear a; intro a hE
                  refine WL.vS hS hE (runs_if hE rfl rfl rfl hg86) (Gives.p hE rfl) rfl ?_; clear hE a; intro a hE
                  refine WL.vS hS hE (runs_plain rfl) (Gives.pickF hE rfl hg86 rfl) rfl ?_; clear hE a; intro a hE
                  refine WL.vS hS hE (runs_plain rfl) (Gives.p hE rfl) rfl ?_; clear hE a; intro a hE
                  refine WL.nil ?_
                  subst hK85
                  exact ⟨!(Fleetwithin x55.Units 1 4), hq80, hE.pick _ ⟨rfl, rfl, rfl, rfl, trivial⟩, hS⟩
              · clear hE hS a w; rintro a w ⟨q84, rfl, hE, hS⟩
                refine W.cond hE rfl (fun hc87 => ?_) (fun hc87 => ?_)
                · replace hq52 := iteT hc87 hq52
                  refine W.seq ?_
                  refine W.region ?_
                  refine WL.vS hS hE (runs_plain rfl) (Gives.p hE rfl) rfl ?_; clear hE a; intro a hE
                  refine WL.nil ?_
                  refine W.ret ?_
                  subst hK63
                  rw [← hq52] at hr
                  dsimp only at hr
                  refine finG (fn := Try.f34) (rs := [.tmp 2]) (vs := [_]) hE rfl ⟨rfl, trivial⟩ ?_
                  subst hr
                  replace hS := hS.tail
                  exact ⟨rfl, hS⟩
                · replace hq52 := iteF hc87 hq52
                  refine W.skip ?_
                  refine W.region ?_
                  refine WL.vS hS hE (runs_plain rfl) (Gives.inc hE rfl (by have := h0.small; omega)) rfl ?_; clear hE a; intro a hE
                  refine WL.vS hS hE (runs_plain rfl) (Gives.p hE rfl) rfl ?_; clear hE a; intro a hE
                  refine WL.nil ?_
                  replace hS := hS.tail
                  subst hK63
                  exact ⟨rest56.length, Nat.lt_succ_self _, rest56, k54 + 1, rfl, hd57, hq52, hE.pick _ ⟨rfl, rfl, rfl, trivial⟩, hS⟩
    · clear hE hS a w; rintro a w ⟨rfl, hE, hS⟩
      dsimp only at hr
      refine W.seq ?_
      refine W.region ?_
      refine WL.vS hS hE (runs_plain rfl) (Gives.p hE rfl) rfl ?_; clear hE a; intro a hE
      refine WL.nil ?_
      refine W.ret ?_
      refine finG (fn := Try.f34) (rs := [.tmp 2]) (vs := [_]) hE rfl ⟨rfl, trivial⟩ ?_
      subst hr
      exact ⟨rfl, hS⟩
set_option maxHeartbeats 8000000 in
theorem FleetCheckLimits_ok {w : World} {s : Sg} {R : List HP} {x0 : FleetLimits} (hS : St w s (R))  {r : Int} (hr : FleetCheckLimits x0 = r) :
    Calls Try.prog 36 [.agg (FleetLimits.cells x0).toArray].toArray w (fun e w => e = .returned (.int .i64 r) ∧ St w s (R)) := by
  refine enter Try.func36 rfl rfl rfl fun a hE => ?_
  rw [FleetCheckLimits] at hr
  refine W.seq ?_
  refine W.region ?_
  refine WL.box hE hS (runs_plain rfl) rfl rfl rfl ?_; clear hE hS a w; intro b51 a w hE hS
  refine WL.vS hS hE (runs_plain rfl) (Gives.p hE rfl) rfl ?_; clear hE a; intro a hE
  refine WL.nil ?_
  refine W.seq ?_
  refine W.seq ?_
  refine W.region ?_
  refine WL.vS hS hE (runs_plain rfl) (Gives.fld hE rfl fl35_0) rfl ?_; clear hE a; intro a hE
  refine WL.vS hS hE (runs_plain rfl) (Gives.loadB hE 0 rfl rfl rfl ty3) rfl ?_; clear hE a; intro a hE
  refine WL.vS hS hE (runs_plain rfl) (Gives.fld hE rfl fl35_1) rfl ?_; clear hE a; intro a hE
  refine WL.vS hS hE (runs_plain rfl) (Gives.loadB hE 0 rfl rfl rfl ty3) rfl ?_; clear hE a; intro a hE
  refine WL.vS hS hE (runs_plain rfl) (Gives.fld hE rfl fl35_2) rfl ?_; clear hE a; intro a hE
  refine WL.vS hS hE (runs_plain rfl) (Gives.loadB hE 0 rfl rfl rfl ty3) rfl ?_; clear hE a; intro a hE
  refine WL.vS hS hE (runs_plain rfl) (Gives.fld hE rfl fl35_3) rfl ?_; clear hE a; intro a hE
  refine WL.vS hS hE (runs_plain rfl) (Gives.loadB hE 0 rfl rfl rfl ty3) rfl ?_; clear hE a; intro a hE
  refine WL.vS hS hE (runs_plain rfl) (Gives.fld hE rfl fl35_4) rfl ?_; clear hE a; intro a hE
  refine WL.vS hS hE (runs_plain rfl) (Gives.loadB hE 0 rfl rfl rfl ty3) rfl ?_; clear hE a; intro a hE
  refine WL.vS hS hE (runs_plain rfl) (Gives.fld hE rfl fl35_5) rfl ?_; clear hE a; intro a hE
  refine WL.vS hS hE (runs_plain rfl) (Gives.loadB hE 0 rfl rfl rfl ty3) rfl ?_; clear hE a; intro a hE
  refine WL.vS hS hE (runs_plain rfl) (Gives.build hE (vs := [(0, .int .i64 x0.Change), (1, .int .i64 x0.Long), (2, .int .i64 x0.Work), (3, .int .i64 x0.After), (4, .int .i64 x0.Break), (5, .int .i64 x0.Rest)]) [.int .i64 x0.Change, .int .i64 x0.Long, .int .i64 x0.Work, .int .i64 x0.After, .int .i64 x0.Break, .int .i64 x0.Rest] rfl (by kernel_rfl)) rfl ?_; clear hE a; intro a hE
  refine WL.vS hS hE (runs_plain rfl) (Gives.p hE rfl) rfl ?_; clear hE a; intro a hE
  refine WL.nil ?_
  obtain ⟨q53, hq52, hr⟩ := bndS hr
  refine W.cut (fun a w => (.next ()) = q53 ∧ Rep a 29 [(1, .pointer (some ⟨b51, 0, none⟩))] ∧ St w s (pt b51 (.cells (FleetLimits.cells x0).toArray 35 (0, 0)) :: R)) ?_ ?_
  · refine W.block ?_
    refine W.loop (fun m a w => ∃ (rest56 : List Int) (k54 : Nat), rest56.length = m ∧ [x0.Change, x0.Long, x0.Work, x0.After, x0.Break, x0.Rest].drop k54 = rest56 ∧ FleetCheckLimits.loop1 rest56 = q53 ∧ Rep a 29 [(1, .pointer (some ⟨b51, 0, none⟩)), (17, .agg [.int .i64 x0.Change, .int .i64 x0.Long, .int .i64 x0.Work, .int .i64 x0.After, .int .i64 x0.Break, .int .i64 x0.Rest].toArray), (18, .int .i64 ((k54 : Nat) : Int))] ∧ St w s (pt b51 (.cells (FleetLimits.cells x0).toArray 35 (0, 0)) :: R)) (m := [x0.Change, x0.Long, x0.Work, x0.After, x0.Break, x0.Rest].length) ⟨[x0.Change, x0.Long, x0.Work, x0.After, x0.Break, x0.Rest], 0, rfl, rfl, hq52, hE.pick _ ⟨rfl, rfl, rfl, trivial⟩, hS⟩ ?_
    clear hE hS a w hq52; rintro m60 a w ⟨rest56, k54, rfl, hd57, hq52, hE, hS⟩
    refine W.gen fun K63 hK63 => ?_
    rcases rest56 with _ | ⟨x55, rest56⟩
    · have hlt58 : 6 ≤ k54 := drop_nil hd57
      refine W.seq ?_
      refine W.region ?_
      refine WL.vS hS hE (runs_plain rfl) (Gives.p hE rfl) rfl ?_; clear hE a; intro a hE
      refine WL.nil ?_
      refine W.seq ?_
      refine W.condF hE rfl (decide_eq_false (by omega)) ?_
      subst hK63
      refine W.exit rfl ?_
      exact ⟨hq52, hE.pick _ ⟨rfl, trivial⟩, hS⟩
    · obtain ⟨hlt58, hx59, hd57⟩ := drop_cons hd57
      replace hlt58 : k54 < 6 := hlt58
      rw [FleetCheckLimits.loop1] at hq52
      refine W.seq ?_
      refine W.region ?_
      refine WL.vS hS hE (runs_plain rfl) (Gives.p hE rfl) rfl ?_; clear hE a; intro a hE
      refine WL.nil ?_
      refine W.seq ?_
      refine W.condT hE rfl (decide_eq_true (by omega)) ?_
      refine W.skip ?_
      refine W.seq ?_
      refine W.block ?_
      refine W.seq ?_
      refine W.region ?_
      refine WL.vS hS hE (runs_plain rfl) (Gives.indexM hE (f := (Value.int .i64)) (l := [x0.Change, x0.Long, x0.Work, x0.After, x0.Break, x0.Rest]) (k := k54) ar91 rfl rfl rfl rfl hx59) rfl ?_; clear hE a; intro a hE
      refine WL.vS hS hE (runs_plain rfl) (Gives.p hE rfl) rfl ?_; clear hE a; intro a hE
      refine WL.nil ?_
      refine W.seq ?_
      refine W.region ?_
      refine WL.vS hS hE (runs_plain rfl) (Gives.p hE rfl) rfl ?_; clear hE a; intro a hE
      refine WL.fn hE (Fleetwithin_ok hS  rfl) (runs_plain rfl) bd51 rfl rfl ?_
      clear hE hS; rintro e w ⟨rfl, hS⟩; refine ⟨_, rfl, ?_⟩; clear a; intro a hE
      refine WL.vS hS hE (runs_plain rfl) (Gives.p hE rfl) rfl ?_; clear hE a; intro a hE
      refine WL.nil ?_
      refine W.cond hE rfl (fun hc64 => ?_) (fun hc64 => ?_)
      · replace hq52 := iteT hc64 hq52
        refine W.seq ?_
        refine W.region ?_
        refine WL.vS hS hE (runs_plain rfl) (Gives.p hE rfl) rfl ?_; clear hE a; intro a hE
        refine WL.nil ?_
        refine W.ret ?_
        subst hK63
        rw [← hq52] at hr
        dsimp only at hr
        refine finG (fn := Try.f36) (rs := [.tmp 2]) (vs := [_]) hE rfl ⟨rfl, trivial⟩ ?_
        subst hr
        replace hS := hS.tail
        exact ⟨rfl, hS⟩
      · replace hq52 := iteF hc64 hq52
        refine W.skip ?_
        refine W.region ?_
        refine WL.vS hS hE (runs_plain rfl) (Gives.inc hE rfl (by omega)) rfl ?_; clear hE a; intro a hE
        refine WL.vS hS hE (runs_plain rfl) (Gives.p hE rfl) rfl ?_; clear hE a; intro a hE
        refine WL.nil ?_
        subst hK63
        exact ⟨rest56.length, Nat.lt_succ_self _, rest56, k54 + 1, rfl, hd57, hq52, hE.pick _ ⟨rfl, rfl, rfl, trivial⟩, hS⟩
  · clear hE hS a w; rintro a w ⟨rfl, hE, hS⟩
    dsimp only at hr
    refine W.seq ?_
    refine W.seq ?_
    refine W.region ?_
    refine WL.vS hS hE (runs_plain rfl) (Gives.fld hE rfl fl35_6) rfl ?_; clear hE a; intro a hE
    refine WL.vS hS hE (runs_plain rfl) (Gives.loadB hE 0 rfl rfl rfl ty3) rfl ?_; clear hE a; intro a hE
    refine WL.fn hE (Fleetwithin_ok hS  rfl) (runs_plain rfl) bd51 rfl rfl ?_
    clear hE hS; rintro e w ⟨rfl, hS⟩; refine ⟨_, rfl, ?_⟩; clear a; intro a hE
    refine WL.vS hS hE (runs_plain rfl) (Gives.p hE rfl) rfl ?_; clear hE a; intro a hE
    refine WL.nil ?_
    refine W.cond hE rfl (fun hc65 => ?_) (fun hc65 => ?_)
    · replace hr := iteT hc65 hr
      refine W.seq ?_
      refine W.region ?_
      refine WL.vS hS hE (runs_plain rfl) (Gives.p hE rfl) rfl ?_; clear hE a; intro a hE
      refine WL.nil ?_
      refine W.ret ?_
      refine finG (fn := Try.f36) (rs := [.tmp 2]) (vs := [_]) hE rfl ⟨rfl, trivial⟩ ?_
      subst hr
      replace hS := hS.tail
      exact ⟨rfl, hS⟩
    · replace hr := iteF hc65 hr
      refine W.skip ?_
      refine W.seq ?_
      refine W.region ?_
      refine WL.vS hS hE (runs_plain rfl) (Gives.p hE rfl) rfl ?_; clear hE a; intro a hE
      refine WL.nil ?_
      refine W.ret ?_
      refine finG (fn := Try.f36) (rs := [.tmp 2]) (vs := [_]) hE rfl ⟨rfl, trivial⟩ ?_
      subst hr
      replace hS := hS.tail
      exact ⟨rfl, hS⟩
set_option maxHeartbeats 8000000 in
theorem FleetcheckTasks_ok {w : World} {s : Sg} {R : List HP} {x0 : List FleetTask} {a0 : Option Addr} {c0 : Nat} {x1 : FleetLimits} (hS : St w s (R)) (h0 : Sl 6 RFleetTask s a0 c0 x0) {r : Int} (hr : FleetcheckTasks x0 x1 = r) :
    Calls Try.prog 52 [.slice a0 x0.length c0, .agg (FleetLimits.cells x1).toArray].toArray w (fun e w => e = .returned (.int .i64 r) ∧ St w s (R)) := by
  refine enter Try.func52 rfl rfl rfl fun a hE => ?_
  rw [FleetcheckTasks] at hr
  refine W.seq ?_
  refine W.region ?_
  refine WL.box hE hS (runs_plain rfl) rfl rfl rfl ?_; clear hE hS a w; intro b51 a w hE hS
  refine WL.vS hS hE (runs_plain rfl) (Gives.p hE rfl) rfl ?_; clear hE a; intro a hE
  refine WL.nil ?_
  refine W.seq ?_
  refine W.seq ?_
  refine W.region ?_
  refine WL.vS hS hE (runs_plain rfl) (Gives.p hE rfl) rfl ?_; clear hE a; intro a hE
  refine WL.fn hE (FleetCheckTasks_ok hS h0 rfl) (runs_plain rfl) bd34 rfl rfl ?_
  clear hE hS; rintro e w ⟨rfl, hS⟩; refine ⟨_, rfl, ?_⟩; clear a; intro a hE
  refine WL.vS hS hE (runs_plain rfl) (Gives.p hE rfl) rfl ?_; clear hE a; intro a hE
  refine WL.nil ?_
  refine W.seq ?_
  refine W.region ?_
  refine WL.vS hS hE (runs_plain rfl) (Gives.p hE rfl) rfl ?_; clear hE a; intro a hE
  refine WL.vS hS hE (runs_plain rfl) (Gives.p hE rfl) rfl ?_; clear hE a; intro a hE
  refine WL.nil ?_
  refine W.cond hE rfl (fun hc52 => ?_) (fun hc52 => ?_)
  · replace hr := iteT hc52 hr
    refine W.seq ?_
    refine W.region ?_
    refine WL.vS hS hE (runs_plain rfl) (Gives.p hE rfl) rfl ?_; clear hE a; intro a hE
    refine WL.vS hS hE (runs_plain rfl) (Gives.p hE rfl) rfl ?_; clear hE a; intro a hE
    refine WL.nil ?_
    refine W.ret ?_
    refine finG (fn := Try.f52) (rs := [.tmp 4]) (vs := [_]) hE rfl ⟨rfl, trivial⟩ ?_
    subst hr
    replace hS := hS.tail
    exact ⟨rfl, hS⟩
  · replace hr := iteF hc52 hr
    refine W.skip ?_
    refine W.seq ?_
    refine W.region ?_
    refine WL.vS hS hE (runs_plain rfl) (Gives.loadBA hE 0 rfl rfl ty35) rfl ?_; clear hE a; intro a hE
    refine WL.fn hE (FleetCheckLimits_ok hS  rfl) (runs_plain rfl) bd36 rfl rfl ?_
    clear hE hS; rintro e w ⟨rfl, hS⟩; refine ⟨_, rfl, ?_⟩; clear a; intro a hE
    refine WL.vS hS hE (runs_plain rfl) (Gives.p hE rfl) rfl ?_; clear hE a; intro a hE
    refine WL.nil ?_
    refine W.ret ?_
    refine finG (fn := Try.f52) (rs := [.tmp 4]) (vs := [_]) hE rfl ⟨rfl, trivial⟩ ?_
    subst hr
    replace hS := hS.tail
    exact ⟨rfl, hS⟩
set_option maxHeartbeats 8000000 in
theorem SlicesIndexLint_ok {w : World} {s : Sg} {R : List HP} {x0 : List Int} {a0 : Option Addr} {c0 : Nat} {x1 : Int} (hS : St w s (R)) (h0 : Sl 1 (RI .i64) s a0 c0 x0) {r : Int} (hr : SlicesIndexLint x0 x1 = r) :
    Calls Try.prog 16 [.slice a0 x0.length c0, .int .i64 x1].toArray w (fun e w => e = .returned (.int .i64 r) ∧ St w s (R)) := by
  refine enter Try.func16 rfl rfl rfl fun a hE => ?_
  rw [SlicesIndexLint] at hr
  refine W.seq ?_
  refine W.region ?_
  refine WL.vS hS hE (runs_plain rfl) (Gives.p hE rfl) rfl ?_; clear hE a; intro a hE
  refine WL.nil ?_
  refine W.seq ?_
  refine W.seq ?_
  refine W.region ?_
  refine WL.vS hS hE (runs_plain rfl) (Gives.p hE rfl) rfl ?_; clear hE a; intro a hE
  refine WL.vS hS hE (runs_plain rfl) (Gives.len hE rfl sl22) rfl ?_; clear hE a; intro a hE
  refine WL.vS hS hE (runs_plain rfl) (Gives.p hE rfl) rfl ?_; clear hE a; intro a hE
  refine WL.nil ?_
  obtain ⟨q52, hq51, hr⟩ := bndS hr
  refine W.cut (fun a w => (.next ()) = q52 ∧ Rep a 19 [] ∧ St w s (R)) ?_ ?_
  · refine W.block ?_
    refine W.loop (fun m a w => ∃ (rest55 : List Int) (k53 : Nat), rest55.length = m ∧ x0.drop k53 = rest55 ∧ SlicesIndexLint.loop1 x1 rest55 k53 = q52 ∧ Rep a 19 [(0, .slice a0 x0.length c0), (1, .int .i64 x1), (7, .int .i64 ((x0).length : Int)), (8, .int .i64 ((k53 : Nat) : Int))] ∧ St w s (R)) (m := x0.length) ⟨x0, 0, rfl, rfl, hq51, hE.pick _ ⟨rfl, rfl, rfl, rfl, trivial⟩, hS⟩ ?_
    clear hE hS a w hq51; rintro m59 a w ⟨rest55, k53, rfl, hd56, hq51, hE, hS⟩
    refine W.gen fun K62 hK62 => ?_
    rcases rest55 with _ | ⟨x54, rest55⟩
    · have hlt57 := drop_nil hd56
      refine W.seq ?_
      refine W.region ?_
      refine WL.vS hS hE (runs_plain rfl) (Gives.p hE rfl) rfl ?_; clear hE a; intro a hE
      refine WL.nil ?_
      refine W.seq ?_
      refine W.condF hE rfl (decide_eq_false (by omega)) ?_
      subst hK62
      refine W.exit rfl ?_
      exact ⟨hq51, hE.pick _ trivial, hS⟩
    · obtain ⟨hlt57, hx58, hd56⟩ := drop_cons hd56
      rw [SlicesIndexLint.loop1] at hq51
      refine W.seq ?_
      refine W.region ?_
      refine WL.vS hS hE (runs_plain rfl) (Gives.p hE rfl) rfl ?_; clear hE a; intro a hE
      refine WL.nil ?_
      refine W.seq ?_
      refine W.condT hE rfl (decide_eq_true (by omega)) ?_
      refine W.skip ?_
      refine W.seq ?_
      refine W.block ?_
      refine W.seq ?_
      refine W.region ?_
      refine WL.vS hS hE (runs_plain rfl) (Gives.p hE rfl) rfl ?_; clear hE a; intro a hE
      refine WL.vS hS hE (runs_plain rfl) (Gives.p hE rfl) rfl ?_; clear hE a; intro a hE
      refine WL.nil ?_
      refine W.seq ?_
      refine W.region ?_
      refine WL.vS hS hE (runs_plain rfl) (Gives.p hE rfl) rfl ?_; clear hE a; intro a hE
      refine WL.vS hS hE (runs_plain rfl) (Gives.p hE rfl) rfl ?_; clear hE a; intro a hE
      refine WL.vS hS hE (runs_plain rfl) (Gives.p hE rfl) rfl ?_; clear hE a; intro a hE
      obtain ⟨cs63, hl64, hR65, hat66⟩ := h0.at hx58
      subst hR65
      refine WL.vS hS hE (runs_plain rfl) (Gives.idx hE k53 rfl rfl sl22 rfl hlt57 (h0.aok hlt57)) rfl ?_; clear hE a; intro a hE
      refine WL.vS hS hE (runs_plain rfl) (Gives.load1 hE rfl (fun w h => hat66 w _ h) ty3) rfl ?_; clear hE a; intro a hE
      refine WL.vS hS hE (runs_plain rfl) (Gives.p hE rfl) rfl ?_; clear hE a; intro a hE
      refine WL.nil ?_
      refine W.cond hE rfl (fun hc67 => ?_) (fun hc67 => ?_)
      · replace hq51 := iteT hc67 hq51
        refine W.seq ?_
        refine W.region ?_
        refine WL.vS hS hE (runs_plain rfl) (Gives.p hE rfl) rfl ?_; clear hE a; intro a hE
        refine WL.vS hS hE (runs_plain rfl) (Gives.p hE rfl) rfl ?_; clear hE a; intro a hE
        refine WL.nil ?_
        refine W.ret ?_
        subst hK62
        rw [← hq51] at hr
        dsimp only at hr
        refine finG (fn := Try.f16) (rs := [.tmp 4]) (vs := [_]) hE rfl ⟨rfl, trivial⟩ ?_
        subst hr
        exact ⟨rfl, hS⟩
      · replace hq51 := iteF hc67 hq51
        refine W.skip ?_
        refine W.region ?_
        refine WL.vS hS hE (runs_plain rfl) (Gives.inc hE rfl (by have := h0.small; omega)) rfl ?_; clear hE a; intro a hE
        refine WL.vS hS hE (runs_plain rfl) (Gives.p hE rfl) rfl ?_; clear hE a; intro a hE
        refine WL.nil ?_
        subst hK62
        exact ⟨rest55.length, Nat.lt_succ_self _, rest55, k53 + 1, rfl, hd56, hq51, hE.pick _ ⟨rfl, rfl, rfl, rfl, trivial⟩, hS⟩
  · clear hE hS a w; rintro a w ⟨rfl, hE, hS⟩
    dsimp only at hr
    refine W.seq ?_
    refine W.region ?_
    refine WL.vS hS hE (runs_plain rfl) (Gives.p hE rfl) rfl ?_; clear hE a; intro a hE
    refine WL.nil ?_
    refine W.ret ?_
    refine finG (fn := Try.f16) (rs := [.tmp 4]) (vs := [_]) hE rfl ⟨rfl, trivial⟩ ?_
    subst hr
    exact ⟨rfl, hS⟩
set_option maxHeartbeats 8000000 in
theorem SlicesContainsLint_ok {w : World} {s : Sg} {R : List HP} {x0 : List Int} {a0 : Option Addr} {c0 : Nat} {x1 : Int} (hS : St w s (R)) (h0 : Sl 1 (RI .i64) s a0 c0 x0) {r : Bool} (hr : SlicesContainsLint x0 x1 = r) :
    Calls Try.prog 50 [.slice a0 x0.length c0, .int .i64 x1].toArray w (fun e w => e = .returned (.bool r) ∧ St w s (R)) := by
  refine enter Try.func50 rfl rfl rfl fun a hE => ?_
  rw [SlicesContainsLint] at hr
  refine W.seq ?_
  refine W.region ?_
  refine WL.vS hS hE (runs_plain rfl) (Gives.p hE rfl) rfl ?_; clear hE a; intro a hE
  refine WL.nil ?_
  refine W.seq ?_
  refine W.region ?_
  refine WL.vS hS hE (runs_plain rfl) (Gives.p hE rfl) rfl ?_; clear hE a; intro a hE
  refine WL.vS hS hE (runs_plain rfl) (Gives.p hE rfl) rfl ?_; clear hE a; intro a hE
  refine WL.fn hE (SlicesIndexLint_ok hS h0 rfl) (runs_plain rfl) bd16 rfl rfl ?_
  clear hE hS; rintro e w ⟨rfl, hS⟩; refine ⟨_, rfl, ?_⟩; clear a; intro a hE
  refine WL.vS hS hE (runs_plain rfl) (Gives.p hE rfl) rfl ?_; clear hE a; intro a hE
  refine WL.vS hS hE (runs_plain rfl) (Gives.p hE rfl) rfl ?_; clear hE a; intro a hE
  refine WL.nil ?_
  refine W.ret ?_
  refine finG (fn := Try.f50) (rs := [.tmp 4]) (vs := [_]) hE rfl ⟨rfl, trivial⟩ ?_
  subst hr
  exact ⟨rfl, hS⟩
set_option maxHeartbeats 8000000 in
theorem Fleetjudge_1_v1_ok {w : World} {s : Sg} {R : List HP} {pb0 : Nat} {pb1 : Nat} {pb2 : Nat} {x0 : Int} {y0 : Int} {y1 : FleetLimits} {y2 : Int} (hS : St w s (pt pb0 (.cells #[.int .i64 y0] 3 (0, 0)) :: pt pb1 (.cells #[.int .i64 y1.Change, .int .i64 y1.Long, .int .i64 y1.Work, .int .i64 y1.After, .int .i64 y1.Break, .int .i64 y1.Rest, .int .i64 y1.Row] 35 (0, 0)) :: pt pb2 (.cells #[.int .i64 y2] 3 (0, 0)) :: R))  {r : Int} (hr : Fleetjudge_1_v1 x0 y0 y1 y2 = r) :
    Calls Try.prog 67 [.int .i64 x0, .pointer (some ⟨pb0, 0, none⟩), .pointer (some ⟨pb1, 0, none⟩), .pointer (some ⟨pb2, 0, none⟩)].toArray w (fun e w => e = .returned (.tuple #[]) ∧ St w s (pt pb0 (.cells #[.int .i64 y0] 3 (0, 0)) :: pt pb1 (.cells #[.int .i64 y1.Change, .int .i64 y1.Long, .int .i64 y1.Work, .int .i64 y1.After, .int .i64 y1.Break, .int .i64 y1.Rest, .int .i64 y1.Row] 35 (0, 0)) :: pt pb2 (.cells #[.int .i64 r] 3 (0, 0)) :: R)) := by
  refine enter Try.func67 rfl rfl rfl fun a hE => ?_
  rw [Fleetjudge_1_v1] at hr
  refine W.seq ?_
  refine W.region ?_
  refine WL.vS hS hE (runs_plain rfl) (Gives.p hE rfl) rfl ?_; clear hE a; intro a hE
  refine WL.vS hS hE (runs_plain rfl) (Gives.loadB hE 0 rfl rfl rfl ty3) rfl ?_; clear hE a; intro a hE
  refine WL.vS hS hE (runs_plain rfl) (Gives.p hE rfl) rfl ?_; clear hE a; intro a hE
  refine WL.vS hS hE (runs_plain rfl) (Gives.fld hE rfl fl35_3) rfl ?_; clear hE a; intro a hE
  refine WL.vS hS hE (runs_plain rfl) (Gives.loadB hE 1 rfl rfl rfl ty3) rfl ?_; clear hE a; intro a hE
  refine WL.vS hS hE (runs_plain rfl) (Gives.p hE rfl) rfl ?_; clear hE a; intro a hE
  refine WL.nil ?_
  obtain ⟨q53, hq52, hr⟩ := bndS hr
  refine W.cut (fun a w => ∃ (q56 : Int), q56 = q53 ∧ Rep a 11 [] ∧ St w s (pt pb0 (.cells #[.int .i64 y0] 3 (0, 0)) :: pt pb1 (.cells #[.int .i64 y1.Change, .int .i64 y1.Long, .int .i64 y1.Work, .int .i64 y1.After, .int .i64 y1.Break, .int .i64 y1.Rest, .int .i64 y1.Row] 35 (0, 0)) :: pt pb2 (.cells #[.int .i64 q56] 3 (0, 0)) :: R)) ?_ ?_
  · refine W.gen fun K57 hK57 => ?_
    refine W.cond hE rfl (fun hc58 => ?_) (fun hc58 => ?_)
    · replace hq52 := iteT hc58 hq52
      refine W.region ?_
      refine WL.storeI hE hS 2 rfl [.int .i64 4] (runs_plain rfl) rfl rfl rfl ty3 rfl rfl rfl rfl ?_; clear hE hS a w; intro a w hE hS
      refine WL.nil ?_
      subst hK57
      exact ⟨4, hq52, hE.pick _ trivial, hS⟩
    · replace hq52 := iteF hc58 hq52
      refine W.skip ?_
      subst hK57
      exact ⟨y2, hq52, hE.pick _ trivial, hS⟩
  · clear hE hS a w; rintro a w ⟨q56, rfl, hE, hS⟩
    refine finG (fn := Try.f67) (rs := []) (vs := []) hE rfl trivial ?_
    subst hr
    exact ⟨rfl, hS⟩
set_option maxHeartbeats 8000000 in
theorem Fleetjudge_ok {w : World} {s : Sg} {R : List HP} {x0 : List FleetTask} {a0 : Option Addr} {c0 : Nat} {x1 : List Int} {a1 : Option Addr} {c1 : Nat} {x2 : FleetLimits} (hS : St w s (R)) (h0 : Sl 6 RFleetTask s a0 c0 x0) (h1 : Sl 1 (RI .i64) s a1 c1 x1) {r : Int} (hr : Fleetjudge x0 x1 x2 = some r) :
    Calls Try.prog 53 [.slice a0 x0.length c0, .slice a1 x1.length c1, .agg (FleetLimits.cells x2).toArray].toArray w (fun e w => e = .returned (.int .i64 r) ∧ St w s (R)) := by
  refine enter Try.func53 rfl rfl rfl fun a hE => ?_
  rw [Fleetjudge] at hr
  refine W.seq ?_
  refine W.region ?_
  refine WL.box hE hS (runs_plain rfl) rfl rfl rfl ?_; clear hE hS a w; intro b51 a w hE hS
  refine WL.vS hS hE (runs_plain rfl) (Gives.p hE rfl) rfl ?_; clear hE a; intro a hE
  refine WL.nil ?_
  refine W.seq ?_
  refine W.gen fun K52 hK52 => ?_
  refine W.regionE (fun w => St w s (pt b51 (.cells (FleetLimits.cells x2).toArray 35 (0, 0)) :: R)) 19 mixed ?_
  replace hS := hS.drew
  have hF := hS; replace hS := hS
  refine Rg.take (i := 0) hE rfl (by kernel_rfl) (runs_plain rfl) (Gives.p hE rfl) rfl hS ?_; clear hE a; intro a hE
  replace hS := hF; clear hF
  have hF := hS; replace hS := hS
  refine Rg.take (i := 1) hE rfl (by kernel_rfl) (runs_plain rfl) (Gives.p hE rfl) rfl hS ?_; clear hE a; intro a hE
  replace hS := hF; clear hF
  have hF := hS; replace hS := hS
  obtain ⟨x53, hx54, hr⟩ := bindS hr
  obtain ⟨hi55, hlt56, hy57⟩ := gx_some hx54
  obtain ⟨cs58, hl59, hR60, hat61⟩ := h1.at hy57
  subst hR60
  refine Rg.take (i := 2) hE rfl (by kernel_rfl) (runs_plain rfl) (Gives.idx hE ((0 : Int)).toNat rfl rfl sl22 hi55 hlt56 (h1.aok hlt56)) rfl hS ?_; clear hE a; intro a hE
  replace hS := hF; clear hF
  have hF := hS; replace hS := hS
  refine Rg.take (i := 3) hE rfl (by kernel_rfl) (runs_plain rfl) (Gives.load1 hE rfl (fun w h => hat61 w _ h) ty3) rfl hS ?_; clear hE a; intro a hE
  replace hS := hF; clear hF
  have hF := hS; replace hS := hS
  obtain ⟨x62, hx63, hr⟩ := bindS hr
  obtain ⟨hi64, hlt65, hy66⟩ := gx_some hx63
  obtain ⟨cs67, hl68, hR69, hat70⟩ := h0.at hy66
  subst hR69
  refine Rg.take (i := 4) hE rfl (by kernel_rfl) (runs_plain rfl) (Gives.idx hE (x53).toNat rfl rfl sl33 hi64 hlt65 (h0.aok hlt65)) rfl hS ?_; clear hE a; intro a hE
  replace hS := hF; clear hF
  have hF := hS; replace hS := hS
  refine Rg.take (i := 5) hE rfl (by kernel_rfl) (runs_plain rfl) (Gives.loadA hE rfl (fun w h => hat70 w _ h) ty84) rfl hS ?_; clear hE a; intro a hE
  replace hS := hF; clear hF
  have hF := hS; replace hS := hS
  refine Rg.take (i := 6) hE rfl (by kernel_rfl) (runs_plain rfl) (Gives.p hE rfl) rfl hS ?_; clear hE a; intro a hE
  replace hS := hF; clear hF
  have hF := hS; replace hS := hS
  refine Rg.take (i := 7) hE rfl (by kernel_rfl) (runs_plain rfl) (Gives.p hE rfl) rfl hS ?_; clear hE a; intro a hE
  replace hS := hF; clear hF
  have hF := hS; replace hS := hS
  refine Rg.take (i := 8) hE rfl (by kernel_rfl) (runs_plain rfl) (Gives.p hE rfl) rfl hS ?_; clear hE a; intro a hE
  replace hS := hF; clear hF
  have hF := hS; replace hS := hS
  refine Rg.take (i := 9) hE rfl (by kernel_rfl) (runs_plain rfl) (Gives.len hE rfl sl22) rfl hS ?_; clear hE a; intro a hE
  replace hS := hF; clear hF
  have hF := hS; replace hS := hS
  refine Rg.take (i := 10) hE rfl (by kernel_rfl) (runs_plain rfl) (Gives.p hE rfl) rfl hS ?_; clear hE a; intro a hE
  replace hS := hF; clear hF
  have hF := hS; replace hS := hS
  obtain ⟨x71, hx72, hr⟩ := bindS hr
  obtain ⟨hi73, hlt74, hy75⟩ := gx_some hx72
  obtain ⟨cs76, hl77, hR78, hat79⟩ := h1.at hy75
  subst hR78
  refine Rg.take (i := 11) hE rfl (by kernel_rfl) (runs_plain rfl) (Gives.idx hE (w64 (((x1).length : Int) - 1)).toNat rfl rfl sl22 hi73 hlt74 (h1.aok hlt74)) rfl hS ?_; clear hE a; intro a hE
  replace hS := hF; clear hF
  have hF := hS; replace hS := hS
  refine Rg.take (i := 12) hE rfl (by kernel_rfl) (runs_plain rfl) (Gives.load1 hE rfl (fun w h => hat79 w _ h) ty3) rfl hS ?_; clear hE a; intro a hE
  replace hS := hF; clear hF
  have hF := hS; replace hS := hS
  obtain ⟨x80, hx81, hr⟩ := bindS hr
  obtain ⟨hi82, hlt83, hy84⟩ := gx_some hx81
  obtain ⟨cs85, hl86, hR87, hat88⟩ := h0.at hy84
  subst hR87
  refine Rg.take (i := 13) hE rfl (by kernel_rfl) (runs_plain rfl) (Gives.idx hE (x71).toNat rfl rfl sl33 hi82 hlt83 (h0.aok hlt83)) rfl hS ?_; clear hE a; intro a hE
  replace hS := hF; clear hF
  have hF := hS; replace hS := hS
  refine Rg.take (i := 14) hE rfl (by kernel_rfl) (runs_plain rfl) (Gives.loadA hE rfl (fun w h => hat88 w _ h) ty84) rfl hS ?_; clear hE a; intro a hE
  replace hS := hF; clear hF
  suffices key : ∀ (b89 b90 : Nat) (a : Act) (w : World), Rep a 121 [(0, .slice a0 x0.length c0), (1, .slice a1 x1.length c1), (5, .pointer (some ⟨b51, 0, none⟩)), (7, .pointer (some ⟨b89, 0, none⟩)), (8, .pointer (some ⟨b90, 0, none⟩))] → St w s (pt b90 (.cells (FleetTask.cells x80).toArray 84 (0, 0)) :: pt b89 (.cells (FleetTask.cells x62).toArray 84 (0, 0)) :: pt b51 (.cells (FleetLimits.cells x2).toArray 35 (0, 0)) :: R) → K52.nor a w by
    refine Rg.two (i := 15) (j := 16) rfl rfl (by kernel_rfl) ?_ ?_
    · refine WL.alloc hE hS (runs_plain rfl) zr84 rfl ?_; clear hE hS a w; intro b89 a w hE hS
      refine WL.nil ?_
      refine ⟨fun _ => (hS.tail), ?_⟩
      refine Rg.one (i := 16) rfl (by kernel_rfl) ?_
      refine WL.alloc hE hS (runs_plain rfl) zr84 rfl ?_; clear hE hS a w; intro b90 a w hE hS
      refine WL.nil ?_
      refine ⟨fun _ => ((hS.tail).tail), ?_⟩
      refine Rg.one (i := 17) rfl (by kernel_rfl) ?_
      refine WL.storeI hE hS 1 rfl (FleetTask.cells x62) (runs_plain rfl) rfl rfl rfl ty84 rfl rfl rfl rfl ?_; clear hE hS a w; intro a w hE hS
      refine WL.nil ?_
      refine ⟨fun _ => ((hS.tail).tail), ?_⟩
      refine Rg.one (i := 18) rfl (by kernel_rfl) ?_
      refine WL.storeI hE hS 0 rfl (FleetTask.cells x80) (runs_plain rfl) rfl rfl rfl ty84 rfl rfl rfl rfl ?_; clear hE hS a w; intro a w hE hS
      refine WL.nil ?_
      refine ⟨fun _ => ((hS.tail).tail), ?_⟩
      refine Rg.done (by kernel_rfl) ?_
      exact key b89 b90 _ _ (hE.pick _ ⟨rfl, rfl, rfl, rfl, rfl, trivial⟩) hS
    · refine WL.alloc hE hS (runs_plain rfl) zr84 rfl ?_; clear hE hS a w; intro b91 a w hE hS
      refine WL.nil ?_
      refine ⟨fun _ => (hS.tail), ?_⟩
      refine Rg.one (i := 15) rfl (by kernel_rfl) ?_
      refine WL.alloc hE hS (runs_plain rfl) zr84 rfl ?_; clear hE hS a w; intro b92 a w hE hS
      refine WL.nil ?_
      refine ⟨fun _ => ((hS.tail).tail), ?_⟩
      refine Rg.one (i := 17) rfl (by kernel_rfl) ?_
      refine WL.storeI hE hS 0 rfl (FleetTask.cells x62) (runs_plain rfl) rfl rfl rfl ty84 rfl rfl rfl rfl ?_; clear hE hS a w; intro a w hE hS
      refine WL.nil ?_
      refine ⟨fun _ => ((hS.tail).tail), ?_⟩
      refine Rg.one (i := 18) rfl (by kernel_rfl) ?_
      refine WL.storeI hE hS 1 rfl (FleetTask.cells x80) (runs_plain rfl) rfl rfl rfl ty84 rfl rfl rfl rfl ?_; clear hE hS a w; intro a w hE hS
      refine WL.nil ?_
      refine ⟨fun _ => ((hS.tail).tail), ?_⟩
      refine Rg.done (by kernel_rfl) ?_
      replace hS := hS.front 2 rfl
      replace hS := hS.front 1 rfl
      replace hS := hS.front 2 rfl
      exact key b92 b91 _ _ (hE.pick _ ⟨rfl, rfl, rfl, rfl, rfl, trivial⟩) hS
  clear hE hS a w; intro b89 b90 a w hE hS
  subst hK52
  refine W.seq ?_
  refine W.region ?_
  refine WL.alloc hE hS (runs_plain rfl) zr3 rfl ?_; clear hE hS a w; intro b93 a w hE hS
  refine WL.vS hS hE (runs_plain rfl) (Gives.p hE rfl) rfl ?_; clear hE a; intro a hE
  refine WL.storeI hE hS 0 rfl [.int .i64 0] (runs_plain rfl) rfl rfl rfl ty3 rfl rfl rfl rfl ?_; clear hE hS a w; intro a w hE hS
  refine WL.nil ?_
  refine W.seq ?_
  refine W.region ?_
  refine WL.vS hS hE (runs_plain rfl) (Gives.fld hE rfl fl84_2) rfl ?_; clear hE a; intro a hE
  refine WL.vS hS hE (runs_plain rfl) (Gives.loadB hE 2 rfl rfl rfl ty3) rfl ?_; clear hE a; intro a hE
  refine WL.alloc hE hS (runs_plain rfl) zr3 rfl ?_; clear hE hS a w; intro b94 a w hE hS
  refine WL.storeI hE hS 0 rfl [.int .i64 x62.Dep] (runs_plain rfl) rfl rfl rfl ty3 rfl rfl rfl rfl ?_; clear hE hS a w; intro a w hE hS
  refine WL.nil ?_
  refine W.seq ?_
  refine W.region ?_
  refine WL.vS hS hE (runs_plain rfl) (Gives.mkfn hE (vs := [.pointer (some ⟨b94, 0, none⟩), .pointer (some ⟨b51, 0, none⟩), .pointer (some ⟨b93, 0, none⟩)]) rfl) rfl ?_; clear hE a; intro a hE
  refine WL.vS hS hE (runs_plain rfl) (Gives.p hE rfl) rfl ?_; clear hE a; intro a hE
  refine WL.nil ?_
  refine W.seq ?_
  refine W.seq ?_
  refine W.region ?_
  refine WL.vS hS hE (runs_plain rfl) (Gives.p hE rfl) rfl ?_; clear hE a; intro a hE
  refine WL.vS hS hE (runs_plain rfl) (Gives.len hE rfl sl22) rfl ?_; clear hE a; intro a hE
  refine WL.vS hS hE (runs_plain rfl) (Gives.p hE rfl) rfl ?_; clear hE a; intro a hE
  refine WL.nil ?_
  obtain ⟨q96, hq95, hr⟩ := bindS hr
  refine W.cut (fun a w => ∃ (q106 : Int), ∃ (q107 : Int), ∃ (q108 : Int), (.next (q106, q107, q108)) = q96 ∧ Rep a 121 [(5, .pointer (some ⟨b51, 0, none⟩)), (7, .pointer (some ⟨b89, 0, none⟩)), (8, .pointer (some ⟨b90, 0, none⟩)), (9, .int .i64 q106), (10, .pointer (some ⟨b93, 0, none⟩)), (12, .func (.func 67) #[] #[.pointer (some ⟨b94, 0, none⟩), .pointer (some ⟨b51, 0, none⟩), .pointer (some ⟨b93, 0, none⟩)])] ∧ St w s (pt b94 (.cells #[.int .i64 q108] 3 (0, 0)) :: pt b93 (.cells #[.int .i64 q107] 3 (0, 0)) :: pt b90 (.cells (FleetTask.cells x80).toArray 84 (0, 0)) :: pt b89 (.cells (FleetTask.cells x62).toArray 84 (0, 0)) :: pt b51 (.cells (FleetLimits.cells x2).toArray 35 (0, 0)) :: R)) ?_ ?_
  · refine W.block ?_
    refine W.loop (fun m a w => ∃ (rest99 : List Int) (k97 : Nat), ∃ (q106 : Int), ∃ (q107 : Int), ∃ (q108 : Int), rest99.length = m ∧ x1.drop k97 = rest99 ∧ Fleetjudge.loop1 x0 x1 x2 rest99 k97 q106 q107 q108 = some q96 ∧ Rep a 121 [(0, .slice a0 x0.length c0), (1, .slice a1 x1.length c1), (5, .pointer (some ⟨b51, 0, none⟩)), (7, .pointer (some ⟨b89, 0, none⟩)), (8, .pointer (some ⟨b90, 0, none⟩)), (9, .int .i64 q106), (10, .pointer (some ⟨b93, 0, none⟩)), (11, .pointer (some ⟨b94, 0, none⟩)), (12, .func (.func 67) #[] #[.pointer (some ⟨b94, 0, none⟩), .pointer (some ⟨b51, 0, none⟩), .pointer (some ⟨b93, 0, none⟩)]), (35, .slice a1 x1.length c1), (36, .int .i64 ((x1).length : Int)), (37, .int .i64 ((k97 : Nat) : Int))] ∧ St w s (pt b94 (.cells #[.int .i64 q108] 3 (0, 0)) :: pt b93 (.cells #[.int .i64 q107] 3 (0, 0)) :: pt b90 (.cells (FleetTask.cells x80).toArray 84 (0, 0)) :: pt b89 (.cells (FleetTask.cells x62).toArray 84 (0, 0)) :: pt b51 (.cells (FleetLimits.cells x2).toArray 35 (0, 0)) :: R)) (m := x1.length) ⟨x1, 0, 0, 0, x62.Dep, rfl, rfl, hq95, hE.pick _ ⟨rfl, rfl, rfl, rfl, rfl, rfl, rfl, rfl, rfl, rfl, rfl, rfl, trivial⟩, hS⟩ ?_
    clear hE hS a w hq95; rintro m103 a w ⟨rest99, k97, q106, q107, q108, rfl, hd100, hq95, hE, hS⟩
    refine W.gen fun K109 hK109 => ?_
    rcases rest99 with _ | ⟨x98, rest99⟩
    · have hlt101 := drop_nil hd100
      refine W.seq ?_
      refine W.region ?_
      refine WL.vS hS hE (runs_plain rfl) (Gives.p hE rfl) rfl ?_; clear hE a; intro a hE
      refine WL.nil ?_
      refine W.seq ?_
      refine W.condF hE rfl (decide_eq_false (by omega)) ?_
      subst hK109
      refine W.exit rfl ?_
      exact ⟨q106, q107, q108, Option.some.inj hq95, hE.pick _ ⟨rfl, rfl, rfl, rfl, rfl, rfl, trivial⟩, hS⟩
    · obtain ⟨hlt101, hx102, hd100⟩ := drop_cons hd100
      rw [Fleetjudge.loop1] at hq95
      refine W.seq ?_
      refine W.region ?_
      refine WL.vS hS hE (runs_plain rfl) (Gives.p hE rfl) rfl ?_; clear hE a; intro a hE
      refine WL.nil ?_
      refine W.seq ?_
      refine W.condT hE rfl (decide_eq_true (by omega)) ?_
      refine W.skip ?_
      refine W.seq ?_
      refine W.block ?_
      refine W.seq ?_
      refine W.region ?_
      refine WL.vS hS hE (runs_plain rfl) (Gives.p hE rfl) rfl ?_; clear hE a; intro a hE
      obtain ⟨cs110, hl111, hR112, hat113⟩ := h1.at hx102
      subst hR112
      refine WL.vS hS hE (runs_plain rfl) (Gives.idx hE k97 rfl rfl sl22 rfl hlt101 (h1.aok hlt101)) rfl ?_; clear hE a; intro a hE
      refine WL.vS hS hE (runs_plain rfl) (Gives.load1 hE rfl (fun w h => hat113 w _ h) ty3) rfl ?_; clear hE a; intro a hE
      refine WL.vS hS hE (runs_plain rfl) (Gives.p hE rfl) rfl ?_; clear hE a; intro a hE
      refine WL.vS hS hE (runs_plain rfl) (Gives.p hE rfl) rfl ?_; clear hE a; intro a hE
      refine WL.nil ?_
      refine W.seq ?_
      refine W.region ?_
      refine WL.vS hS hE (runs_plain rfl) (Gives.p hE rfl) rfl ?_; clear hE a; intro a hE
      refine WL.vS hS hE (runs_plain rfl) (Gives.p hE rfl) rfl ?_; clear hE a; intro a hE
      obtain ⟨x114, hx115, hq95⟩ := bindS hq95
      obtain ⟨hi116, hlt117, hy118⟩ := gx_some hx115
      obtain ⟨cs119, hl120, hR121, hat122⟩ := h0.at hy118
      subst hR121
      refine WL.vS hS hE (runs_plain rfl) (Gives.idx hE (x98).toNat rfl rfl sl33 hi116 hlt117 (h0.aok hlt117)) rfl ?_; clear hE a; intro a hE
      refine WL.vS hS hE (runs_plain rfl) (Gives.loadA hE rfl (fun w h => hat122 w _ h) ty84) rfl ?_; clear hE a; intro a hE
      refine WL.alloc hE hS (runs_plain rfl) zr84 rfl ?_; clear hE hS a w; intro b123 a w hE hS
      refine WL.storeI hE hS 0 rfl (FleetTask.cells x114) (runs_plain rfl) rfl rfl rfl ty84 rfl rfl rfl rfl ?_; clear hE hS a w; intro a w hE hS
      refine WL.nil ?_
      refine W.seq ?_
      refine W.region ?_
      refine WL.vS hS hE (runs_plain rfl) (Gives.p hE rfl) rfl ?_; clear hE a; intro a hE
      refine WL.vS hS hE (runs_plain rfl) (Gives.fld hE rfl fl84_3) rfl ?_; clear hE a; intro a hE
      refine WL.vS hS hE (runs_plain rfl) (Gives.loadB hE 0 rfl rfl rfl ty3) rfl ?_; clear hE a; intro a hE
      refine WL.vS hS hE (runs_plain rfl) (Gives.fld hE rfl fl84_2) rfl ?_; clear hE a; intro a hE
      refine WL.vS hS hE (runs_plain rfl) (Gives.loadB hE 0 rfl rfl rfl ty3) rfl ?_; clear hE a; intro a hE
      refine WL.vS hS hE (runs_plain rfl) (Gives.p hE rfl) rfl ?_; clear hE a; intro a hE
      refine WL.vS hS hE (runs_plain rfl) (Gives.p hE rfl) rfl ?_; clear hE a; intro a hE
      refine WL.vS hS hE (runs_plain rfl) (Gives.p hE rfl) rfl ?_; clear hE a; intro a hE
      refine WL.nil ?_
      refine W.seq ?_
      refine W.seq ?_
      refine W.region ?_
      refine WL.vS hS hE (runs_plain rfl) (Gives.p hE rfl) rfl ?_; clear hE a; intro a hE
      refine WL.vS hS hE (runs_plain rfl) (Gives.p hE rfl) rfl ?_; clear hE a; intro a hE
      refine WL.nil ?_
      refine W.cond hE rfl (fun hc124 => ?_) (fun hc124 => ?_)
      · replace hq95 := iteT hc124 hq95
        refine W.exit rfl ?_
        refine W.region ?_
        refine WL.vS hS hE (runs_plain rfl) (Gives.inc hE rfl (by have := h1.small; omega)) rfl ?_; clear hE a; intro a hE
        refine WL.vS hS hE (runs_plain rfl) (Gives.p hE rfl) rfl ?_; clear hE a; intro a hE
        refine WL.nil ?_
        replace hS := hS.tail
        subst hK109
        exact ⟨rest99.length, Nat.lt_succ_self _, rest99, k97 + 1, (w64 (q106 + (w64 (x114.Arr - x114.Dep)))), q107, q108, rfl, hd100, hq95, hE.pick _ ⟨rfl, rfl, rfl, rfl, rfl, rfl, rfl, rfl, rfl, rfl, rfl, rfl, trivial⟩, hS⟩
      · replace hq95 := iteF hc124 hq95
        refine W.skip ?_
        refine W.seq ?_
        refine W.region ?_
        refine WL.vS hS hE (runs_plain rfl) (Gives.p hE rfl) rfl ?_; clear hE a; intro a hE
        refine WL.vS hS hE (runs_plain rfl) (Gives.p hE rfl) rfl ?_; clear hE a; intro a hE
        refine WL.vS hS hE (runs_plain rfl) (Gives.p hE rfl) rfl ?_; clear hE a; intro a hE
        refine WL.vS hS hE (runs_plain rfl) (Gives.p hE rfl) rfl ?_; clear hE a; intro a hE
        obtain ⟨x125, hx126, hq95⟩ := bindS hq95
        obtain ⟨hi127, hlt128, hy129⟩ := gx_some hx126
        obtain ⟨cs130, hl131, hR132, hat133⟩ := h1.at hy129
        subst hR132
        refine WL.vS hS hE (runs_plain rfl) (Gives.idx hE (w64 (((k97 : Nat) : Int) - 1)).toNat rfl rfl sl22 hi127 hlt128 (h1.aok hlt128)) rfl ?_; clear hE a; intro a hE
        refine WL.vS hS hE (runs_plain rfl) (Gives.load1 hE rfl (fun w h => hat133 w _ h) ty3) rfl ?_; clear hE a; intro a hE
        obtain ⟨x134, hx135, hq95⟩ := bindS hq95
        obtain ⟨hi136, hlt137, hy138⟩ := gx_some hx135
        obtain ⟨cs139, hl140, hR141, hat142⟩ := h0.at hy138
        subst hR141
        refine WL.vS hS hE (runs_plain rfl) (Gives.idx hE (x125).toNat rfl rfl sl33 hi136 hlt137 (h0.aok hlt137)) rfl ?_; clear hE a; intro a hE
        refine WL.vS hS hE (runs_plain rfl) (Gives.loadA hE rfl (fun w h => hat142 w _ h) ty84) rfl ?_; clear hE a; intro a hE
        refine WL.alloc hE hS (runs_plain rfl) zr84 rfl ?_; clear hE hS a w; intro b143 a w hE hS
        refine WL.storeI hE hS 0 rfl (FleetTask.cells x134) (runs_plain rfl) rfl rfl rfl ty84 rfl rfl rfl rfl ?_; clear hE hS a w; intro a w hE hS
        refine WL.nil ?_
        refine W.seq ?_
        refine W.seq ?_
        obtain ⟨q145, hq144, hq95⟩ := bndS hq95
        refine W.cut (fun a w => ∃ (q148 : Bool), q148 = q145 ∧ Rep a 121 [(0, .slice a0 x0.length c0), (1, .slice a1 x1.length c1), (5, .pointer (some ⟨b51, 0, none⟩)), (7, .pointer (some ⟨b89, 0, none⟩)), (8, .pointer (some ⟨b90, 0, none⟩)), (9, .int .i64 (w64 (q106 + (w64 (x114.Arr - x114.Dep))))), (10, .pointer (some ⟨b93, 0, none⟩)), (11, .pointer (some ⟨b94, 0, none⟩)), (12, .func (.func 67) #[] #[.pointer (some ⟨b94, 0, none⟩), .pointer (some ⟨b51, 0, none⟩), .pointer (some ⟨b93, 0, none⟩)]), (15, .pointer (some ⟨b123, 0, none⟩)), (16, .pointer (some ⟨b143, 0, none⟩)), (35, .slice a1 x1.length c1), (36, .int .i64 ((x1).length : Int)), (37, .int .i64 ((k97 : Nat) : Int)), (77, .bool q148)] ∧ St w s (pt b143 (.cells (FleetTask.cells x134).toArray 84 (0, 0)) :: pt b123 (.cells (FleetTask.cells x114).toArray 84 (0, 0)) :: pt b94 (.cells #[.int .i64 q108] 3 (0, 0)) :: pt b93 (.cells #[.int .i64 q107] 3 (0, 0)) :: pt b90 (.cells (FleetTask.cells x80).toArray 84 (0, 0)) :: pt b89 (.cells (FleetTask.cells x62).toArray 84 (0, 0)) :: pt b51 (.cells (FleetLimits.cells x2).toArray 35 (0, 0)) :: R)) ?_ ?_
        · refine W.gen fun K149 hK149 => ?_
          refine W.region ?_
          refine WL.vS hS hE (runs_plain rfl) (Gives.fld hE rfl fl84_0) rfl ?_; clear hE a; intro a hE
          refine WL.vS hS hE (runs_plain rfl) (Gives.loadB hE 1 rfl rfl rfl ty3) rfl ?_; clear hE a; intro a hE
          refine WL.vS hS hE (runs_plain rfl) (Gives.fld hE rfl fl84_1) rfl ?_; clear hE a; intro a hE
          refine WL.vS hS hE (runs_plain rfl) (Gives.loadB hE 0 rfl rfl rfl ty3) rfl ?_; clear hE a; intro a hE
          refine WL.vS hS hE (runs_plain rfl) (Gives.p hE rfl) rfl ?_; clear hE a; intro a hE
          refine WL.vS hS hE (runs_plain rfl) (Gives.p hE rfl) rfl ?_; clear hE a; intro a hE
          rcases Bool.eq_false_or_eq_true (x114.From != x134.To) with hg150 | hg150
          · replace hq144 := iteT hg150 hq144
            refine WL.no hE (runs_not hE rfl rfl rfl (by rw [hg150]; decide)) rfl ?_; clear hE a; intro a hE
            refine WL.no hE (runs_not hE rfl rfl rfl (by rw [hg150]; decide)) rfl ?_; clear hE a; intro a hE
            refine WL.no hE (runs_not hE rfl rfl rfl (by rw [hg150]; decide)) rfl ?_; clear hE a; intro a hE
            refine WL.no hE (runs_not hE rfl rfl rfl (by rw [hg150]; decide)) rfl ?_; clear hE a; intro a hE
            refine WL.no hE (runs_not hE rfl rfl rfl (by rw [hg150]; decide)) rfl ?_; clear hE a; intro a hE
            refine WL.no hE (runs_not hE rfl rfl rfl (by rw [hg150]; decide)) rfl ?_; clear hE a; intro a hE
            refine WL.no hE (runs_not hE rfl rfl rfl (by rw [hg150]; decide)) rfl ?_; clear hE a; intro a hE
            refine WL.no hE (runs_not hE rfl rfl rfl (by rw [hg150]; decide)) rfl ?_; clear hE a; intro a hE
            refine WL.vS hS hE (runs_plain rfl) (Gives.pickT hE rfl hg150 rfl) rfl ?_; clear hE a; intro a hE
            refine WL.nil ?_
            subst hK149
            exact ⟨true, hq144, hE.pick _ ⟨rfl, rfl, rfl, rfl, rfl, rfl, rfl, rfl, rfl, rfl, rfl, rfl, rfl, rfl, rfl, trivial⟩, hS⟩
          · replace hq144 := iteF hg150 hq144
            refine WL.vS hS hE (runs_if hE rfl rfl rfl hg150) (Gives.fld hE rfl fl84_2) rfl ?_; clear hE a; intro a hE
            refine WL.vS hS hE (runs_if hE rfl rfl rfl hg150) (Gives.loadB hE 1 rfl rfl rfl ty3) rfl ?_; clear hE a; intro a hE
            refine WL.vS hS hE (runs_if hE rfl rfl rfl hg150) (Gives.fld hE rfl fl84_3) rfl ?_; clear hE a; intro a hE
            refine WL.vS hS hE (runs_if hE rfl rfl rfl hg150) (Gives.loadB hE 0 rfl rfl rfl ty3) rfl ?_; clear hE a; intro a hE
            refine WL.vS hS hE (runs_if hE rfl rfl rfl hg150) (Gives.fld hE rfl fl35_0) rfl ?_; clear hE a; intro a hE
            refine WL.vS hS hE (runs_if hE rfl rfl rfl hg150) (Gives.loadB hE 6 rfl rfl rfl ty3) rfl ?_; clear hE a; intro a hE
            refine WL.vS hS hE (runs_if hE rfl rfl rfl hg150) (Gives.p hE rfl) rfl ?_; clear hE a; intro a hE
            refine WL.vS hS hE (runs_if hE rfl rfl rfl hg150) (Gives.p hE rfl) rfl ?_; clear hE a; intro a hE
            refine WL.vS hS hE (runs_plain rfl) (Gives.pickF hE rfl hg150 rfl) rfl ?_; clear hE a; intro a hE
            refine WL.nil ?_
            subst hK149
            exact ⟨decide (x114.Dep < (w64 (x134.Arr + x2.Change))), hq144, hE.pick _ ⟨rfl, rfl, rfl, rfl, rfl, rfl, rfl, rfl, rfl, rfl, rfl, rfl, rfl, rfl, rfl, trivial⟩, hS⟩
        · clear hE hS a w; rintro a w ⟨q148, rfl, hE, hS⟩
          refine W.cond hE rfl (fun hc151 => ?_) (fun hc151 => ?_)
          · replace hq95 := iteT hc151 hq95
            refine W.seq ?_
            refine W.region ?_
            refine WL.vS hS hE (runs_plain rfl) (Gives.p hE rfl) rfl ?_; clear hE a; intro a hE
            refine WL.nil ?_
            refine W.ret ?_
            subst hK109
            rw [← Option.some.inj hq95] at hr
            dsimp only at hr
            refine finG (fn := Try.f53) (rs := [.tmp 6]) (vs := [_]) hE rfl ⟨rfl, trivial⟩ ?_
            obtain rfl := Option.some.inj hr
            replace hS := hS.tail
            replace hS := hS.tail
            replace hS := hS.tail
            replace hS := hS.tail
            replace hS := hS.tail
            replace hS := hS.tail
            replace hS := hS.tail
            exact ⟨rfl, hS⟩
          · replace hq95 := iteF hc151 hq95
            refine W.skip ?_
            refine W.seq ?_
            refine W.region ?_
            refine WL.vS hS hE (runs_plain rfl) (Gives.fld hE rfl fl84_2) rfl ?_; clear hE a; intro a hE
            refine WL.vS hS hE (runs_plain rfl) (Gives.loadB hE 1 rfl rfl rfl ty3) rfl ?_; clear hE a; intro a hE
            refine WL.vS hS hE (runs_plain rfl) (Gives.fld hE rfl fl84_3) rfl ?_; clear hE a; intro a hE
            refine WL.vS hS hE (runs_plain rfl) (Gives.loadB hE 0 rfl rfl rfl ty3) rfl ?_; clear hE a; intro a hE
            refine WL.vS hS hE (runs_plain rfl) (Gives.p hE rfl) rfl ?_; clear hE a; intro a hE
            refine WL.vS hS hE (runs_plain rfl) (Gives.fld hE rfl fl35_4) rfl ?_; clear hE a; intro a hE
            refine WL.vS hS hE (runs_plain rfl) (Gives.loadB hE 6 rfl rfl rfl ty3) rfl ?_; clear hE a; intro a hE
            refine WL.vS hS hE (runs_plain rfl) (Gives.p hE rfl) rfl ?_; clear hE a; intro a hE
            refine WL.nil ?_
            obtain ⟨q153, hq152, hq95⟩ := bndS hq95
            refine W.cut (fun a w => ∃ (q156 : Int), ∃ (q157 : Int), (q156, q157) = q153 ∧ Rep a 121 [(0, .slice a0 x0.length c0), (1, .slice a1 x1.length c1), (5, .pointer (some ⟨b51, 0, none⟩)), (7, .pointer (some ⟨b89, 0, none⟩)), (8, .pointer (some ⟨b90, 0, none⟩)), (9, .int .i64 (w64 (q106 + (w64 (x114.Arr - x114.Dep))))), (10, .pointer (some ⟨b93, 0, none⟩)), (11, .pointer (some ⟨b94, 0, none⟩)), (12, .func (.func 67) #[] #[.pointer (some ⟨b94, 0, none⟩), .pointer (some ⟨b51, 0, none⟩), .pointer (some ⟨b93, 0, none⟩)]), (35, .slice a1 x1.length c1), (36, .int .i64 ((x1).length : Int)), (37, .int .i64 ((k97 : Nat) : Int))] ∧ St w s (pt b143 (.cells (FleetTask.cells x134).toArray 84 (0, 0)) :: pt b123 (.cells (FleetTask.cells x114).toArray 84 (0, 0)) :: pt b94 (.cells #[.int .i64 q157] 3 (0, 0)) :: pt b93 (.cells #[.int .i64 q156] 3 (0, 0)) :: pt b90 (.cells (FleetTask.cells x80).toArray 84 (0, 0)) :: pt b89 (.cells (FleetTask.cells x62).toArray 84 (0, 0)) :: pt b51 (.cells (FleetLimits.cells x2).toArray 35 (0, 0)) :: R)) ?_ ?_
            · refine W.gen fun K158 hK158 => ?_
              refine W.cond hE rfl (fun hc159 => ?_) (fun hc159 => ?_)
              · replace hq152 := iteT hc159 hq152
                refine W.seq ?_
                refine W.region ?_
                refine WL.vS hS hE (runs_plain rfl) (Gives.p hE rfl) rfl ?_; clear hE a; intro a hE
                refine WL.vS hS hE (runs_plain rfl) (Gives.fld hE rfl fl84_3) rfl ?_; clear hE a; intro a hE
                refine WL.vS hS hE (runs_plain rfl) (Gives.loadB hE 0 rfl rfl rfl ty3) rfl ?_; clear hE a; intro a hE
                obtain ⟨q160, hq161, hq152⟩ := bndS hq152
                replace hS := hS.front 3 rfl
                replace hS := hS.front 6 rfl
                replace hS := hS.front 4 rfl
                refine WL.fnv hE (vs := [.int .i64 x134.Arr]) (cs := [.pointer (some ⟨b94, 0, none⟩), .pointer (some ⟨b51, 0, none⟩), .pointer (some ⟨b93, 0, none⟩)]) rfl (Fleetjudge_1_v1_ok hS  hq161) (runs_plain rfl) bd67 rfl rfl ?_
                clear hE hS; rintro e w ⟨rfl, hS⟩; refine ⟨_, rfl, ?_⟩; clear a; intro a hE
                refine WL.nil ?_
                refine W.region ?_
                refine WL.vS hS hE (runs_plain rfl) (Gives.fld hE rfl fl84_2) rfl ?_; clear hE a; intro a hE
                refine WL.vS hS hE (runs_plain rfl) (Gives.loadB hE 4 rfl rfl rfl ty3) rfl ?_; clear hE a; intro a hE
                refine WL.storeI hE hS 0 rfl [.int .i64 x114.Dep] (runs_plain rfl) rfl rfl rfl ty3 rfl rfl rfl rfl ?_; clear hE hS a w; intro a w hE hS
                refine WL.nil ?_
                replace hS := hS.front 1 rfl
                replace hS := hS.front 6 rfl
                replace hS := hS.front 6 rfl
                replace hS := hS.front 4 rfl
                replace hS := hS.front 4 rfl
                replace hS := hS.front 6 rfl
                replace hS := hS.front 6 rfl
                subst hK158
                exact ⟨q160, x114.Dep, hq152, hE.pick _ ⟨rfl, rfl, rfl, rfl, rfl, rfl, rfl, rfl, rfl, rfl, rfl, rfl, trivial⟩, hS⟩
              · replace hq152 := iteF hc159 hq152
                refine W.skip ?_
                subst hK158
                exact ⟨q107, q108, hq152, hE.pick _ ⟨rfl, rfl, rfl, rfl, rfl, rfl, rfl, rfl, rfl, rfl, rfl, rfl, trivial⟩, hS⟩
            · clear hE hS a w; rintro a w ⟨q156, q157, rfl, hE, hS⟩
              dsimp only at hq95
              refine W.region ?_
              refine WL.vS hS hE (runs_plain rfl) (Gives.inc hE rfl (by have := h1.small; omega)) rfl ?_; clear hE a; intro a hE
              refine WL.vS hS hE (runs_plain rfl) (Gives.p hE rfl) rfl ?_; clear hE a; intro a hE
              refine WL.nil ?_
              replace hS := hS.tail
              replace hS := hS.tail
              subst hK109
              exact ⟨rest99.length, Nat.lt_succ_self _, rest99, k97 + 1, (w64 (q106 + (w64 (x114.Arr - x114.Dep)))), q156, q157, rfl, hd100, hq95, hE.pick _ ⟨rfl, rfl, rfl, rfl, rfl, rfl, rfl, rfl, rfl, rfl, rfl, rfl, trivial⟩, hS⟩
  · clear hE hS a w; rintro a w ⟨q106, q107, q108, rfl, hE, hS⟩
    dsimp only at hr
    refine W.seq ?_
    refine W.region ?_
    refine WL.vS hS hE (runs_plain rfl) (Gives.p hE rfl) rfl ?_; clear hE a; intro a hE
    refine WL.vS hS hE (runs_plain rfl) (Gives.fld hE rfl fl84_3) rfl ?_; clear hE a; intro a hE
    refine WL.vS hS hE (runs_plain rfl) (Gives.loadB hE 2 rfl rfl rfl ty3) rfl ?_; clear hE a; intro a hE
    obtain ⟨q162, hq163, hr⟩ := bndS hr
    replace hS := hS.front 1 rfl
    replace hS := hS.front 4 rfl
    replace hS := hS.front 2 rfl
    refine WL.fnv hE (vs := [.int .i64 x80.Arr]) (cs := [.pointer (some ⟨b94, 0, none⟩), .pointer (some ⟨b51, 0, none⟩), .pointer (some ⟨b93, 0, none⟩)]) rfl (Fleetjudge_1_v1_ok hS  hq163) (runs_plain rfl) bd67 rfl rfl ?_
    clear hE hS; rintro e w ⟨rfl, hS⟩; refine ⟨_, rfl, ?_⟩; clear a; intro a hE
    refine WL.nil ?_
    refine W.seq ?_
    refine W.block ?_
    refine W.seq ?_
    refine W.region ?_
    refine WL.vS hS hE (runs_plain rfl) (Gives.fld hE rfl fl84_3) rfl ?_; clear hE a; intro a hE
    refine WL.vS hS hE (runs_plain rfl) (Gives.loadB hE 3 rfl rfl rfl ty3) rfl ?_; clear hE a; intro a hE
    refine WL.vS hS hE (runs_plain rfl) (Gives.fld hE rfl fl84_2) rfl ?_; clear hE a; intro a hE
    refine WL.vS hS hE (runs_plain rfl) (Gives.loadB hE 4 rfl rfl rfl ty3) rfl ?_; clear hE a; intro a hE
    refine WL.vS hS hE (runs_plain rfl) (Gives.p hE rfl) rfl ?_; clear hE a; intro a hE
    refine WL.vS hS hE (runs_plain rfl) (Gives.fld hE rfl fl35_1) rfl ?_; clear hE a; intro a hE
    refine WL.vS hS hE (runs_plain rfl) (Gives.loadB hE 1 rfl rfl rfl ty3) rfl ?_; clear hE a; intro a hE
    refine WL.vS hS hE (runs_plain rfl) (Gives.p hE rfl) rfl ?_; clear hE a; intro a hE
    refine WL.vS hS hE (runs_plain rfl) (Gives.p hE rfl) rfl ?_; clear hE a; intro a hE
    refine WL.nil ?_
    refine W.cond hE rfl (fun hc164 => ?_) (fun hc164 => ?_)
    · replace hr := iteT hc164 hr
      refine W.seq ?_
      refine W.region ?_
      refine WL.vS hS hE (runs_plain rfl) (Gives.p hE rfl) rfl ?_; clear hE a; intro a hE
      refine WL.nil ?_
      refine W.ret ?_
      refine finG (fn := Try.f53) (rs := [.tmp 6]) (vs := [_]) hE rfl ⟨rfl, trivial⟩ ?_
      obtain rfl := Option.some.inj hr
      replace hS := hS.tail
      replace hS := hS.tail
      replace hS := hS.tail
      replace hS := hS.tail
      replace hS := hS.tail
      exact ⟨rfl, hS⟩
    · replace hr := iteF hc164 hr
      refine W.seq ?_
      refine W.region ?_
      refine WL.vS hS hE (runs_plain rfl) (Gives.p hE rfl) rfl ?_; clear hE a; intro a hE
      refine WL.vS hS hE (runs_plain rfl) (Gives.fld hE rfl fl35_2) rfl ?_; clear hE a; intro a hE
      refine WL.vS hS hE (runs_plain rfl) (Gives.loadB hE 1 rfl rfl rfl ty3) rfl ?_; clear hE a; intro a hE
      refine WL.vS hS hE (runs_plain rfl) (Gives.p hE rfl) rfl ?_; clear hE a; intro a hE
      refine WL.vS hS hE (runs_plain rfl) (Gives.p hE rfl) rfl ?_; clear hE a; intro a hE
      refine WL.nil ?_
      refine W.cond hE rfl (fun hc165 => ?_) (fun hc165 => ?_)
      · replace hr := iteT hc165 hr
        refine W.seq ?_
        refine W.region ?_
        refine WL.vS hS hE (runs_plain rfl) (Gives.p hE rfl) rfl ?_; clear hE a; intro a hE
        refine WL.nil ?_
        refine W.ret ?_
        refine finG (fn := Try.f53) (rs := [.tmp 6]) (vs := [_]) hE rfl ⟨rfl, trivial⟩ ?_
        obtain rfl := Option.some.inj hr
        replace hS := hS.tail
        replace hS := hS.tail
        replace hS := hS.tail
        replace hS := hS.tail
        replace hS := hS.tail
        exact ⟨rfl, hS⟩
      · replace hr := iteF hc165 hr
        refine W.seq ?_
        refine W.region ?_
        refine WL.vS hS hE (runs_plain rfl) (Gives.loadB hE 2 rfl rfl rfl ty3) rfl ?_; clear hE a; intro a hE
        refine WL.vS hS hE (runs_plain rfl) (Gives.p hE rfl) rfl ?_; clear hE a; intro a hE
        refine WL.vS hS hE (runs_plain rfl) (Gives.p hE rfl) rfl ?_; clear hE a; intro a hE
        refine WL.nil ?_
        refine W.cond hE rfl (fun hc166 => ?_) (fun hc166 => ?_)
        · replace hr := iteT hc166 hr
          refine W.seq ?_
          refine W.region ?_
          refine WL.vS hS hE (runs_plain rfl) (Gives.loadB hE 2 rfl rfl rfl ty3) rfl ?_; clear hE a; intro a hE
          refine WL.vS hS hE (runs_plain rfl) (Gives.p hE rfl) rfl ?_; clear hE a; intro a hE
          refine WL.nil ?_
          refine W.ret ?_
          refine finG (fn := Try.f53) (rs := [.tmp 6]) (vs := [_]) hE rfl ⟨rfl, trivial⟩ ?_
          obtain rfl := Option.some.inj hr
          replace hS := hS.tail
          replace hS := hS.tail
          replace hS := hS.tail
          replace hS := hS.tail
          replace hS := hS.tail
          exact ⟨rfl, hS⟩
        · replace hr := iteF hc166 hr
          refine W.seq ?_
          refine W.region ?_
          refine WL.vS hS hE (runs_plain rfl) (Gives.fld hE rfl fl84_1) rfl ?_; clear hE a; intro a hE
          refine WL.vS hS hE (runs_plain rfl) (Gives.loadB hE 3 rfl rfl rfl ty3) rfl ?_; clear hE a; intro a hE
          refine WL.vS hS hE (runs_plain rfl) (Gives.fld hE rfl fl84_0) rfl ?_; clear hE a; intro a hE
          refine WL.vS hS hE (runs_plain rfl) (Gives.loadB hE 4 rfl rfl rfl ty3) rfl ?_; clear hE a; intro a hE
          refine WL.vS hS hE (runs_plain rfl) (Gives.p hE rfl) rfl ?_; clear hE a; intro a hE
          refine WL.vS hS hE (runs_plain rfl) (Gives.p hE rfl) rfl ?_; clear hE a; intro a hE
          refine WL.nil ?_
          refine W.cond hE rfl (fun hc167 => ?_) (fun hc167 => ?_)
          · replace hr := iteT hc167 hr
            refine W.seq ?_
            refine W.region ?_
            refine WL.vS hS hE (runs_plain rfl) (Gives.p hE rfl) rfl ?_; clear hE a; intro a hE
            refine WL.nil ?_
            refine W.ret ?_
            refine finG (fn := Try.f53) (rs := [.tmp 6]) (vs := [_]) hE rfl ⟨rfl, trivial⟩ ?_
            obtain rfl := Option.some.inj hr
            replace hS := hS.tail
            replace hS := hS.tail
            replace hS := hS.tail
            replace hS := hS.tail
            replace hS := hS.tail
            exact ⟨rfl, hS⟩
          · replace hr := iteF hc167 hr
            refine W.skip ?_
            refine W.seq ?_
            refine W.region ?_
            refine WL.vS hS hE (runs_plain rfl) (Gives.p hE rfl) rfl ?_; clear hE a; intro a hE
            refine WL.nil ?_
            refine W.ret ?_
            refine finG (fn := Try.f53) (rs := [.tmp 6]) (vs := [_]) hE rfl ⟨rfl, trivial⟩ ?_
            obtain rfl := Option.some.inj hr
            replace hS := hS.tail
            replace hS := hS.tail
            replace hS := hS.tail
            replace hS := hS.tail
            replace hS := hS.tail
            exact ⟨rfl, hS⟩
set_option maxHeartbeats 8000000 in
theorem FleetJudge_ok {w : World} {s : Sg} {R : List HP} {x0 : List FleetTask} {a0 : Option Addr} {c0 : Nat} {x1 : List Int} {a1 : Option Addr} {c1 : Nat} {x2 : FleetLimits} (hS : St w s (R)) (h0 : Sl 6 RFleetTask s a0 c0 x0) (h1 : Sl 1 (RI .i64) s a1 c1 x1) {r : Int × Int} (hr : FleetJudge x0 x1 x2 = some r) :
    Calls Try.prog 17 [.slice a0 x0.length c0, .slice a1 x1.length c1, .agg (FleetLimits.cells x2).toArray].toArray w (fun e w => e = .returned (.tuple #[.int .i64 r.1, .int .i64 r.2]) ∧ St w s (R)) := by
  refine enter Try.func17 rfl rfl rfl fun a hE => ?_
  rw [FleetJudge] at hr
  refine W.seq ?_
  refine W.region ?_
  refine WL.box hE hS (runs_plain rfl) rfl rfl rfl ?_; clear hE hS a w; intro b51 a w hE hS
  refine WL.vS hS hE (runs_plain rfl) (Gives.p hE rfl) rfl ?_; clear hE a; intro a hE
  refine WL.vS hS hE (runs_plain rfl) (Gives.p hE rfl) rfl ?_; clear hE a; intro a hE
  refine WL.nil ?_
  refine W.seq ?_
  refine W.seq ?_
  refine W.region ?_
  refine WL.vS hS hE (runs_plain rfl) (Gives.p hE rfl) rfl ?_; clear hE a; intro a hE
  refine WL.vS hS hE (runs_plain rfl) (Gives.loadBA hE 0 rfl rfl ty35) rfl ?_; clear hE a; intro a hE
  refine WL.fn hE (FleetcheckTasks_ok hS h0 rfl) (runs_plain rfl) bd52 rfl rfl ?_
  clear hE hS; rintro e w ⟨rfl, hS⟩; refine ⟨_, rfl, ?_⟩; clear a; intro a hE
  refine WL.vS hS hE (runs_plain rfl) (Gives.p hE rfl) rfl ?_; clear hE a; intro a hE
  refine WL.nil ?_
  refine W.seq ?_
  refine W.region ?_
  refine WL.vS hS hE (runs_plain rfl) (Gives.p hE rfl) rfl ?_; clear hE a; intro a hE
  refine WL.vS hS hE (runs_plain rfl) (Gives.p hE rfl) rfl ?_; clear hE a; intro a hE
  refine WL.nil ?_
  refine W.cond hE rfl (fun hc52 => ?_) (fun hc52 => ?_)
  · replace hr := iteT hc52 hr
    refine W.seq ?_
    refine W.region ?_
    refine WL.vS hS hE (runs_plain rfl) (Gives.p hE rfl) rfl ?_; clear hE a; intro a hE
    refine WL.vS hS hE (runs_plain rfl) (Gives.p hE rfl) rfl ?_; clear hE a; intro a hE
    refine WL.vS hS hE (runs_plain rfl) (Gives.p hE rfl) rfl ?_; clear hE a; intro a hE
    refine WL.nil ?_
    refine W.ret ?_
    refine finG (fn := Try.f17) (rs := [.tmp 6, .tmp 7]) (vs := [_, _]) hE rfl ⟨rfl, rfl, trivial⟩ ?_
    obtain rfl := Option.some.inj hr
    replace hS := hS.tail
    exact ⟨rfl, hS⟩
  · replace hr := iteF hc52 hr
    refine W.skip ?_
    refine W.seq ?_
    refine W.seq ?_
    refine W.region ?_
    refine WL.vS hS hE (runs_plain rfl) (Gives.p hE rfl) rfl ?_; clear hE a; intro a hE
    refine WL.vS hS hE (runs_plain rfl) (Gives.len hE rfl sl22) rfl ?_; clear hE a; intro a hE
    refine WL.vS hS hE (runs_plain rfl) (Gives.p hE rfl) rfl ?_; clear hE a; intro a hE
    refine WL.nil ?_
    refine W.cond hE rfl (fun hc53 => ?_) (fun hc53 => ?_)
    · replace hr := iteT hc53 hr
      refine W.seq ?_
      refine W.region ?_
      refine WL.vS hS hE (runs_plain rfl) (Gives.p hE rfl) rfl ?_; clear hE a; intro a hE
      refine WL.vS hS hE (runs_plain rfl) (Gives.p hE rfl) rfl ?_; clear hE a; intro a hE
      refine WL.nil ?_
      refine W.ret ?_
      refine finG (fn := Try.f17) (rs := [.tmp 6, .tmp 7]) (vs := [_, _]) hE rfl ⟨rfl, rfl, trivial⟩ ?_
      obtain rfl := Option.some.inj hr
      replace hS := hS.tail
      exact ⟨rfl, hS⟩
    · replace hr := iteF hc53 hr
      refine W.skip ?_
      refine W.seq ?_
      refine W.seq ?_
      refine W.region ?_
      refine WL.vS hS hE (runs_plain rfl) (Gives.p hE rfl) rfl ?_; clear hE a; intro a hE
      refine WL.vS hS hE (runs_plain rfl) (Gives.len hE rfl sl22) rfl ?_; clear hE a; intro a hE
      refine WL.vS hS hE (runs_plain rfl) (Gives.p hE rfl) rfl ?_; clear hE a; intro a hE
      refine WL.nil ?_
      obtain ⟨q55, hq54, hr⟩ := bindS hr
      refine W.cut (fun a w => (.next ()) = q55 ∧ Rep a 45 [(0, .slice a0 x0.length c0), (1, .slice a1 x1.length c1), (5, .pointer (some ⟨b51, 0, none⟩))] ∧ St w s (pt b51 (.cells (FleetLimits.cells x2).toArray 35 (0, 0)) :: R)) ?_ ?_
      · refine W.block ?_
        refine W.loop (fun m a w => ∃ (rest58 : List Int) (k56 : Nat), rest58.length = m ∧ x1.drop k56 = rest58 ∧ FleetJudge.loop1 x0 x1 rest58 k56 = some q55 ∧ Rep a 45 [(0, .slice a0 x0.length c0), (1, .slice a1 x1.length c1), (5, .pointer (some ⟨b51, 0, none⟩)), (20, .slice a1 x1.length c1), (21, .int .i64 ((x1).length : Int)), (22, .int .i64 ((k56 : Nat) : Int))] ∧ St w s (pt b51 (.cells (FleetLimits.cells x2).toArray 35 (0, 0)) :: R)) (m := x1.length) ⟨x1, 0, rfl, rfl, hq54, hE.pick _ ⟨rfl, rfl, rfl, rfl, rfl, rfl, trivial⟩, hS⟩ ?_
        clear hE hS a w hq54; rintro m62 a w ⟨rest58, k56, rfl, hd59, hq54, hE, hS⟩
        refine W.gen fun K65 hK65 => ?_
        rcases rest58 with _ | ⟨x57, rest58⟩
        · have hlt60 := drop_nil hd59
          refine W.seq ?_
          refine W.region ?_
          refine WL.vS hS hE (runs_plain rfl) (Gives.p hE rfl) rfl ?_; clear hE a; intro a hE
          refine WL.nil ?_
          refine W.seq ?_
          refine W.condF hE rfl (decide_eq_false (by omega)) ?_
          subst hK65
          refine W.exit rfl ?_
          exact ⟨Option.some.inj hq54, hE.pick _ ⟨rfl, rfl, rfl, trivial⟩, hS⟩
        · obtain ⟨hlt60, hx61, hd59⟩ := drop_cons hd59
          rw [FleetJudge.loop1] at hq54
          refine W.seq ?_
          refine W.region ?_
          refine WL.vS hS hE (runs_plain rfl) (Gives.p hE rfl) rfl ?_; clear hE a; intro a hE
          refine WL.nil ?_
          refine W.seq ?_
          refine W.condT hE rfl (decide_eq_true (by omega)) ?_
          refine W.skip ?_
          refine W.seq ?_
          refine W.block ?_
          refine W.seq ?_
          refine W.region ?_
          refine WL.vS hS hE (runs_plain rfl) (Gives.p hE rfl) rfl ?_; clear hE a; intro a hE
          obtain ⟨cs66, hl67, hR68, hat69⟩ := h1.at hx61
          subst hR68
          refine WL.vS hS hE (runs_plain rfl) (Gives.idx hE k56 rfl rfl sl22 rfl hlt60 (h1.aok hlt60)) rfl ?_; clear hE a; intro a hE
          refine WL.vS hS hE (runs_plain rfl) (Gives.load1 hE rfl (fun w h => hat69 w _ h) ty3) rfl ?_; clear hE a; intro a hE
          refine WL.vS hS hE (runs_plain rfl) (Gives.p hE rfl) rfl ?_; clear hE a; intro a hE
          refine WL.vS hS hE (runs_plain rfl) (Gives.p hE rfl) rfl ?_; clear hE a; intro a hE
          refine WL.nil ?_
          refine W.block ?_
          refine W.seq ?_
          refine W.region ?_
          refine WL.vS hS hE (runs_plain rfl) (Gives.p hE rfl) rfl ?_; clear hE a; intro a hE
          refine WL.vS hS hE (runs_plain rfl) (Gives.p hE rfl) rfl ?_; clear hE a; intro a hE
          refine WL.vS hS hE (runs_plain rfl) (Gives.len hE rfl sl33) rfl ?_; clear hE a; intro a hE
          refine WL.vS hS hE (runs_plain rfl) (Gives.p hE rfl) rfl ?_; clear hE a; intro a hE
          refine WL.fn hE (Fleetwithin_ok hS  rfl) (runs_plain rfl) bd51 rfl rfl ?_
          clear hE hS; rintro e w ⟨rfl, hS⟩; refine ⟨_, rfl, ?_⟩; clear a; intro a hE
          refine WL.vS hS hE (runs_plain rfl) (Gives.p hE rfl) rfl ?_; clear hE a; intro a hE
          refine WL.vS hS hE (runs_plain rfl) (Gives.p hE rfl) rfl ?_; clear hE a; intro a hE
          refine WL.nil ?_
          refine W.cond hE rfl (fun hc70 => ?_) (fun hc70 => ?_)
          · replace hq54 := iteT hc70 hq54
            refine W.seq ?_
            refine W.region ?_
            refine WL.vS hS hE (runs_plain rfl) (Gives.p hE rfl) rfl ?_; clear hE a; intro a hE
            refine WL.vS hS hE (runs_plain rfl) (Gives.p hE rfl) rfl ?_; clear hE a; intro a hE
            refine WL.nil ?_
            refine W.ret ?_
            subst hK65
            rw [← Option.some.inj hq54] at hr
            dsimp only at hr
            refine finG (fn := Try.f17) (rs := [.tmp 6, .tmp 7]) (vs := [_, _]) hE rfl ⟨rfl, rfl, trivial⟩ ?_
            obtain rfl := Option.some.inj hr
            replace hS := hS.tail
            exact ⟨rfl, hS⟩
          · replace hq54 := iteF hc70 hq54
            refine W.seq ?_
            refine W.region ?_
            refine WL.vS hS hE (runs_plain rfl) (Gives.p hE rfl) rfl ?_; clear hE a; intro a hE
            refine WL.vS hS hE (runs_plain rfl) (Gives.p hE rfl) rfl ?_; clear hE a; intro a hE
            obtain ⟨x71, hx72, hq54⟩ := bindS hq54
            obtain ⟨a73, c74, heq75, h76⟩ := h1.cut hx72
            obtain ⟨h77, h78, h79, _⟩ := cutl_some hx72
            refine WL.vS hS hE (runs_plain rfl) (Gives.slH hE sl22 rfl rfl (by omega) (by have := h1.len; omega) heq75) rfl ?_; clear hE a; intro a hE
            refine WL.vS hS hE (runs_plain rfl) (Gives.p hE rfl) rfl ?_; clear hE a; intro a hE
            refine WL.fn hE (SlicesContainsLint_ok hS h76 rfl) (runs_plain rfl) bd50 rfl rfl ?_
            clear hE hS; rintro e w ⟨rfl, hS⟩; refine ⟨_, rfl, ?_⟩; clear a; intro a hE
            refine WL.vS hS hE (runs_plain rfl) (Gives.p hE rfl) rfl ?_; clear hE a; intro a hE
            refine WL.nil ?_
            refine W.cond hE rfl (fun hc80 => ?_) (fun hc80 => ?_)
            · replace hq54 := iteT hc80 hq54
              refine W.seq ?_
              refine W.region ?_
              refine WL.vS hS hE (runs_plain rfl) (Gives.p hE rfl) rfl ?_; clear hE a; intro a hE
              refine WL.vS hS hE (runs_plain rfl) (Gives.p hE rfl) rfl ?_; clear hE a; intro a hE
              refine WL.nil ?_
              refine W.ret ?_
              subst hK65
              rw [← Option.some.inj hq54] at hr
              dsimp only at hr
              refine finG (fn := Try.f17) (rs := [.tmp 6, .tmp 7]) (vs := [_, _]) hE rfl ⟨rfl, rfl, trivial⟩ ?_
              obtain rfl := Option.some.inj hr
              replace hS := hS.tail
              exact ⟨rfl, hS⟩
            · replace hq54 := iteF hc80 hq54
              refine W.skip ?_
              refine W.region ?_
              refine WL.vS hS hE (runs_plain rfl) (Gives.inc hE rfl (by have := h1.small; omega)) rfl ?_; clear hE a; intro a hE
              refine WL.vS hS hE (runs_plain rfl) (Gives.p hE rfl) rfl ?_; clear hE a; intro a hE
              refine WL.nil ?_
              subst hK65
              exact ⟨rest58.length, Nat.lt_succ_self _, rest58, k56 + 1, rfl, hd59, hq54, hE.pick _ ⟨rfl, rfl, rfl, rfl, rfl, rfl, trivial⟩, hS⟩
      · clear hE hS a w; rintro a w ⟨rfl, hE, hS⟩
        dsimp only at hr
        refine W.seq ?_
        refine W.region ?_
        refine WL.vS hS hE (runs_plain rfl) (Gives.p hE rfl) rfl ?_; clear hE a; intro a hE
        refine WL.vS hS hE (runs_plain rfl) (Gives.p hE rfl) rfl ?_; clear hE a; intro a hE
        refine WL.vS hS hE (runs_plain rfl) (Gives.loadBA hE 0 rfl rfl ty35) rfl ?_; clear hE a; intro a hE
        obtain ⟨q81, hq82, hr⟩ := bindS hr
        refine WL.fn hE (Fleetjudge_ok hS h0 h1 hq82) (runs_plain rfl) bd53 rfl rfl ?_
        clear hE hS; rintro e w ⟨rfl, hS⟩; refine ⟨_, rfl, ?_⟩; clear a; intro a hE
        refine WL.vS hS hE (runs_plain rfl) (Gives.p hE rfl) rfl ?_; clear hE a; intro a hE
        refine WL.vS hS hE (runs_plain rfl) (Gives.p hE rfl) rfl ?_; clear hE a; intro a hE
        refine WL.nil ?_
        refine W.ret ?_
        refine finG (fn := Try.f17) (rs := [.tmp 6, .tmp 7]) (vs := [_, _]) hE rfl ⟨rfl, rfl, trivial⟩ ?_
        obtain rfl := Option.some.inj hr
        replace hS := hS.tail
        exact ⟨rfl, hS⟩
set_option maxHeartbeats 8000000 in
theorem Fishref2within_ok {w : World} {s : Sg} {R : List HP} {x0 : Int} {x1 : Int} {x2 : Int} (hS : St w s (R))  {r : Bool} (hr : Fishref2within x0 x1 x2 = r) :
    Calls Try.prog 49 [.int .i64 x0, .int .i64 x1, .int .i64 x2].toArray w (fun e w => e = .returned (.bool r) ∧ St w s (R)) := by
  refine enter Try.func49 rfl rfl rfl fun a hE => ?_
  rw [Fishref2within] at hr
  refine W.seq ?_
  refine W.region ?_
  refine WL.vS hS hE (runs_plain rfl) (Gives.p hE rfl) rfl ?_; clear hE a; intro a hE
  refine WL.nil ?_
  refine W.seq ?_
  obtain ⟨q52, hq51, hr⟩ := bndS hr
  refine W.cut (fun a w => ∃ (q55 : Bool), q55 = q52 ∧ Rep a 15 [(6, .bool q55)] ∧ St w s (R)) ?_ ?_
  · refine W.gen fun K56 hK56 => ?_
    refine W.region ?_
    refine WL.vS hS hE (runs_plain rfl) (Gives.p hE rfl) rfl ?_; clear hE a; intro a hE
    refine WL.vS hS hE (runs_plain rfl) (Gives.p hE rfl) rfl ?_; clear hE a; intro a hE
    refine WL.vS hS hE (runs_plain rfl) (Gives.p hE rfl) rfl ?_; clear hE a; intro a hE
    refine WL.vS hS hE (runs_plain rfl) (Gives.p hE rfl) rfl ?_; clear hE a; intro a hE
    rcases Bool.eq_false_or_eq_true (decide (x0 ≥ x1)) with hg57 | hg57
    · replace hq51 := iteT hg57 hq51
      refine WL.vS hS hE (runs_if hE rfl rfl rfl hg57) (Gives.p hE rfl) rfl ?_; clear hE a; intro a hE
      refine WL.vS hS hE (runs_if hE rfl rfl rfl hg57) (Gives.p hE rfl) rfl ?_; clear hE a; intro a hE
      refine WL.vS hS hE (runs_if hE rfl rfl rfl hg57) (Gives.p hE rfl) rfl ?_; clear hE a; intro a hE
      refine WL.vS hS hE (runs_plain rfl) (Gives.pickT hE rfl hg57 rfl) rfl ?_; clear hE a; intro a hE
      refine WL.vS hS hE (runs_plain rfl) (Gives.p hE rfl) rfl ?_; clear hE a; intro a hE
      refine WL.nil ?_
      subst hK56
      exact ⟨decide (x0 ≤ x2), hq51, hE.pick _ ⟨rfl, trivial⟩, hS⟩
    · replace hq51 := iteF hg57 hq51
      refine WL.no hE (runs_not hE rfl rfl rfl (by rw [hg57]; decide)) rfl ?_; clear hE a; intro a hE
      refine WL.no hE (runs_not hE rfl rfl rfl (by rw [hg57]; decide)) rfl ?_; clear hE a; intro a hE
      refine WL.no hE (runs_not hE rfl rfl rfl (by rw [hg57]; decide)) rfl ?_; clear hE a; intro a hE
      refine WL.vS hS hE (runs_plain rfl) (Gives.pickF hE rfl hg57 rfl) rfl ?_; clear hE a; intro a hE
      refine WL.vS hS hE (runs_plain rfl) (Gives.p hE rfl) rfl ?_; clear hE a; intro a hE
      refine WL.nil ?_
      subst hK56
      exact ⟨false, hq51, hE.pick _ ⟨rfl, trivial⟩, hS⟩
  · clear hE hS a w; rintro a w ⟨q55, rfl, hE, hS⟩
    refine W.ret ?_
    refine finG (fn := Try.f49) (rs := [.tmp 6]) (vs := [_]) hE rfl ⟨rfl, trivial⟩ ?_
    subst hr
    exact ⟨rfl, hS⟩
set_option maxHeartbeats 8000000 in
theorem Fishref2TasksFault_ok {w : World} {s : Sg} {R : List HP} {x0 : List FleetTask} {a0 : Option Addr} {c0 : Nat} (hS : St w s (R)) (h0 : Sl 6 RFleetTask s a0 c0 x0) {r : Int} (hr : Fishref2TasksFault x0 = r) :
    Calls Try.prog 35 [.slice a0 x0.length c0].toArray w (fun e w => e = .returned (.int .i64 r) ∧ St w s (R)) := by
  refine enter Try.func35 rfl rfl rfl fun a hE => ?_
  rw [Fishref2TasksFault] at hr
  refine W.seq ?_
  refine W.region ?_
  refine WL.vS hS hE (runs_plain rfl) (Gives.p hE rfl) rfl ?_; clear hE a; intro a hE
  refine WL.nil ?_
  refine W.seq ?_
  refine W.seq ?_
  refine W.region ?_
  refine WL.vS hS hE (runs_plain rfl) (Gives.p hE rfl) rfl ?_; clear hE a; intro a hE
  refine WL.vS hS hE (runs_plain rfl) (Gives.len hE rfl sl33) rfl ?_; clear hE a; intro a hE
  refine WL.vS hS hE (runs_plain rfl) (Gives.p hE rfl) rfl ?_; clear hE a; intro a hE
  refine WL.nil ?_
  refine W.cond hE rfl (fun hc51 => ?_) (fun hc51 => ?_)
  · replace hr := iteT hc51 hr
    refine W.seq ?_
    refine W.region ?_
    refine WL.vS hS hE (runs_plain rfl) (Gives.p hE rfl) rfl ?_; clear hE a; intro a hE
    refine WL.nil ?_
    refine W.ret ?_
    refine finG (fn := Try.f35) (rs := [.tmp 2]) (vs := [_]) hE rfl ⟨rfl, trivial⟩ ?_
    subst hr
    exact ⟨rfl, hS⟩
  · replace hr := iteF hc51 hr
    refine W.skip ?_
    refine W.seq ?_
    refine W.seq ?_
    refine W.region ?_
    refine WL.vS hS hE (runs_plain rfl) (Gives.p hE rfl) rfl ?_; clear hE a; intro a hE
    refine WL.vS hS hE (runs_plain rfl) (Gives.len hE rfl sl33) rfl ?_; clear hE a; intro a hE
    refine WL.vS hS hE (runs_plain rfl) (Gives.p hE rfl) rfl ?_; clear hE a; intro a hE
    refine WL.nil ?_
    obtain ⟨q53, hq52, hr⟩ := bndS hr
    refine W.cut (fun a w => (.next ()) = q53 ∧ Rep a 52 [] ∧ St w s (R)) ?_ ?_
    · refine W.block ?_
      refine W.loop (fun m a w => ∃ (rest56 : List FleetTask) (k54 : Nat), rest56.length = m ∧ x0.drop k54 = rest56 ∧ Fishref2TasksFault.loop1 rest56 = q53 ∧ Rep a 52 [(8, .slice a0 x0.length c0), (9, .int .i64 ((x0).length : Int)), (10, .int .i64 ((k54 : Nat) : Int))] ∧ St w s (R)) (m := x0.length) ⟨x0, 0, rfl, rfl, hq52, hE.pick _ ⟨rfl, rfl, rfl, trivial⟩, hS⟩ ?_
      clear hE hS a w hq52; rintro m60 a w ⟨rest56, k54, rfl, hd57, hq52, hE, hS⟩
      refine W.gen fun K63 hK63 => ?_
      rcases rest56 with _ | ⟨x55, rest56⟩
      · have hlt58 := drop_nil hd57
        refine W.seq ?_
        refine W.region ?_
        refine WL.vS hS hE (runs_plain rfl) (Gives.p hE rfl) rfl ?_; clear hE a; intro a hE
        refine WL.nil ?_
        refine W.seq ?_
        refine W.condF hE rfl (decide_eq_false (by omega)) ?_
        subst hK63
        refine W.exit rfl ?_
        exact ⟨hq52, hE.pick _ trivial, hS⟩
      · obtain ⟨hlt58, hx59, hd57⟩ := drop_cons hd57
        rw [Fishref2TasksFault.loop1] at hq52
        refine W.seq ?_
        refine W.region ?_
        refine WL.vS hS hE (runs_plain rfl) (Gives.p hE rfl) rfl ?_; clear hE a; intro a hE
        refine WL.nil ?_
        refine W.seq ?_
        refine W.condT hE rfl (decide_eq_true (by omega)) ?_
        refine W.skip ?_
        refine W.seq ?_
        refine W.block ?_
        refine W.seq ?_
        refine W.region ?_
        obtain ⟨cs64, hl65, hR66, hat67⟩ := h0.at hx59
        subst hR66
        refine WL.vS hS hE (runs_plain rfl) (Gives.idx hE k54 rfl rfl sl33 rfl hlt58 (h0.aok hlt58)) rfl ?_; clear hE a; intro a hE
        refine WL.vS hS hE (runs_plain rfl) (Gives.loadA hE rfl (fun w h => hat67 w _ h) ty84) rfl ?_; clear hE a; intro a hE
        refine WL.alloc hE hS (runs_plain rfl) zr84 rfl ?_; clear hE hS a w; intro b68 a w hE hS
        refine WL.storeI hE hS 0 rfl (FleetTask.cells x55) (runs_plain rfl) rfl rfl rfl ty84 rfl rfl rfl rfl ?_; clear hE hS a w; intro a w hE hS
        refine WL.nil ?_
        refine W.seq ?_
        refine W.seq ?_
        obtain ⟨q70, hq69, hq52⟩ := bndS hq52
        refine W.cut (fun a w => ∃ (q73 : Bool), q73 = q70 ∧ Rep a 52 [(4, .pointer (some ⟨b68, 0, none⟩)), (8, .slice a0 x0.length c0), (9, .int .i64 ((x0).length : Int)), (10, .int .i64 ((k54 : Nat) : Int)), (35, .bool q73)] ∧ St w s (pt b68 (.cells (FleetTask.cells x55).toArray 84 (0, 0)) :: R)) ?_ ?_
        · refine W.gen fun K74 hK74 => ?_
          refine W.region ?_
          refine WL.vS hS hE (runs_plain rfl) (Gives.fld hE rfl fl84_0) rfl ?_; clear hE a; intro a hE
          refine WL.vS hS hE (runs_plain rfl) (Gives.loadB hE 0 rfl rfl rfl ty3) rfl ?_; clear hE a; intro a hE
          refine WL.fn hE (Fishref2within_ok hS  rfl) (runs_plain rfl) bd49 rfl rfl ?_
          clear hE hS; rintro e w ⟨rfl, hS⟩; refine ⟨_, rfl, ?_⟩; clear a; intro a hE
          refine WL.vS hS hE (runs_plain rfl) (Gives.p hE rfl) rfl ?_; clear hE a; intro a hE
          refine WL.vS hS hE (runs_plain rfl) (Gives.p hE rfl) rfl ?_; clear hE a; intro a hE
          rcases Bool.eq_false_or_eq_true (!(Fishref2within x55.From 0 11)) with hg75 | hg75
          · replace hq69 := iteT hg75 hq69
            refine WL.no hE (runs_not hE rfl rfl rfl (by rw [hg75]; decide)) rfl ?_; clear hE a; intro a hE
            refine WL.no hE (runs_not hE rfl rfl rfl (by rw [hg75]; decide)) rfl ?_; clear hE a; intro a hE
            refine WL.no hE (runs_not hE rfl rfl rfl (by rw [hg75]; decide)) rfl ?_; clear hE a; intro a hE
            refine WL.no hE (runs_not hE rfl rfl rfl (by rw [hg75]; decide)) rfl ?_; clear hE a; intro a hE
            refine WL.vS hS hE (runs_plain rfl) (Gives.pickT hE rfl hg75 rfl) rfl ?_; clear hE a; intro a hE
            refine WL.vS hS hE (runs_plain rfl) (Gives.p hE rfl) rfl ?_; clear hE a; intro a hE
            refine WL.no hE (runs_not hE rfl rfl rfl (by decide)) rfl ?_; clear hE a; intro a hE
            refine WL.no hE (runs_not hE rfl rfl rfl (by decide)) rfl ?_; clear hE a; intro a hE
            refine WL.no hE (runs_not hE rfl rfl rfl (by decide)) rfl ?_; clear hE a; intro a hE
            refine WL.no hE (runs_not hE rfl rfl rfl (by decide)) rfl ?_; clear hE a; intro a hE
            refine WL.vS hS hE (runs_plain rfl) (Gives.pickT hE rfl rfl rfl) rfl ?_; clear hE a; intro a hE
            refine WL.vS hS hE (runs_plain rfl) (Gives.p hE rfl) rfl ?_; clear hE a; intro a hE
            refine WL.no hE (runs_not hE rfl rfl rfl (by decide)) rfl ?_; clear hE a; intro a hE
            refine WL.no hE (runs_not hE rfl rfl rfl (by decide)) rfl ?_; clear hE a; intro a hE
            refine WL.no hE (runs_not hE rfl rfl rfl (by decide)) rfl ?_; clear hE a; intro a hE
            refine WL.no hE (runs_not hE rfl rfl rfl (by decide)) rfl ?_; clear hE a; intro a hE
            refine WL.vS hS hE (runs_plain rfl) (Gives.pickT hE rfl rfl rfl) rfl ?_; clear hE a; intro a hE
            refine WL.nil ?_
            subst hK74
            exact ⟨true, hq69, hE.pick _ ⟨rfl, rfl, rfl, rfl, rfl, trivial⟩, hS⟩
          · replace hq69 := iteF hg75 hq69
            refine WL.vS hS hE (runs_if hE rfl rfl rfl hg75) (Gives.fld hE rfl fl84_1) rfl ?_; clear hE a; intro a hE
            refine WL.vS hS hE (runs_if hE rfl rfl rfl hg75) (Gives.loadB hE 0 rfl rfl rfl ty3) rfl ?_; clear hE a; intro a hE
            refine WL.fn hE (Fishref2within_ok hS  rfl) (runs_if hE rfl rfl rfl hg75) bd49 rfl rfl ?_
            clear hE hS; rintro e w ⟨rfl, hS⟩; refine ⟨_, rfl, ?_⟩; clear a; intro a hE
            refine WL.vS hS hE (runs_if hE rfl rfl rfl hg75) (Gives.p hE rfl) rfl ?_; clear hE a; intro a hE
            refine WL.vS hS hE (runs_plain rfl) (Gives.pickF hE rfl hg75 rfl) rfl ?_; clear hE a; intro a hE
            refine WL.vS hS hE (runs_plain rfl) (Gives.p hE rfl) rfl ?_; clear hE a; intro a hE
            rcases Bool.eq_false_or_eq_true (!(Fishref2within x55.To 0 11)) with hg76 | hg76
            · replace hq69 := iteT hg76 hq69
              refine WL.no hE (runs_not hE rfl rfl rfl (by rw [hg76]; decide)) rfl ?_; clear hE a; intro a hE
              refine WL.no hE (runs_not hE rfl rfl rfl (by rw [hg76]; decide)) rfl ?_; clear hE a; intro a hE
              refine WL.no hE (runs_not hE rfl rfl rfl (by rw [hg76]; decide)) rfl ?_; clear hE a; intro a hE
              refine WL.no hE (runs_not hE rfl rfl rfl (by rw [hg76]; decide)) rfl ?_; clear hE a; intro a hE
              refine WL.vS hS hE (runs_plain rfl) (Gives.pickT hE rfl hg76 rfl) rfl ?_; clear hE a; intro a hE
              refine WL.vS hS hE (runs_plain rfl) (Gives.p hE rfl) rfl ?_; clear hE a; intro a hE
              refine WL.no hE (runs_not hE rfl rfl rfl (by decide)) rfl ?_; clear hE a; intro a hE
              refine WL.no hE (runs_not hE rfl rfl rfl (by decide)) rfl ?_; clear hE a; intro a hE
              refine WL.no hE (runs_not hE rfl rfl rfl (by decide)) rfl ?_; clear hE a; intro a hE
              refine WL.no hE (runs_not hE rfl rfl rfl (by decide)) rfl ?_; clear hE a; intro a hE
              refine WL.vS hS hE (runs_plain rfl) (Gives.pickT hE rfl rfl rfl) rfl ?_; clear hE a; intro a hE
              refine WL.nil ?_
              subst hK74
              exact ⟨true, hq69, hE.pick _ ⟨rfl, rfl, rfl, rfl, rfl, trivial⟩, hS⟩
            · replace hq69 := iteF hg76 hq69
              refine WL.vS hS hE (runs_if hE rfl rfl rfl hg76) (Gives.fld hE rfl fl84_2) rfl ?_; clear hE a; intro a hE
              refine WL.vS hS hE (runs_if hE rfl rfl rfl hg76) (Gives.loadB hE 0 rfl rfl rfl ty3) rfl ?_; clear hE a; intro a hE
              refine WL.fn hE (Fishref2within_ok hS  rfl) (runs_if hE rfl rfl rfl hg76) bd49 rfl rfl ?_
              clear hE hS; rintro e w ⟨rfl, hS⟩; refine ⟨_, rfl, ?_⟩; clear a; intro a hE
              refine WL.vS hS hE (runs_if hE rfl rfl rfl hg76) (Gives.p hE rfl) rfl ?_; clear hE a; intro a hE
              refine WL.vS hS hE (runs_plain rfl) (Gives.pickF hE rfl hg76 rfl) rfl ?_; clear hE a; intro a hE
              refine WL.vS hS hE (runs_plain rfl) (Gives.p hE rfl) rfl ?_; clear hE a; intro a hE
              rcases Bool.eq_false_or_eq_true (!(Fishref2within x55.Dep 0 28800)) with hg77 | hg77
              · replace hq69 := iteT hg77 hq69
                refine WL.no hE (runs_not hE rfl rfl rfl (by rw [hg77]; decide)) rfl ?_; clear hE a; intro a hE
                refine WL.no hE (runs_not hE rfl rfl rfl (by rw [hg77]; decide)) rfl ?_; clear hE a; intro a hE
                refine WL.no hE (runs_not hE rfl rfl rfl (by rw [hg77]; decide)) rfl ?_; clear hE a; intro a hE
                refine WL.no hE (runs_not hE rfl rfl rfl (by rw [hg77]; decide)) rfl ?_; clear hE a; intro a hE
                refine WL.vS hS hE (runs_plain rfl) (Gives.pickT hE rfl hg77 rfl) rfl ?_; clear hE a; intro a hE
                refine WL.nil ?_
                subst hK74
                exact ⟨true, hq69, hE.pick _ ⟨rfl, rfl, rfl, rfl, rfl, trivial⟩, hS⟩
              · replace hq69 := iteF hg77 hq69
                refine WL.vS hS hE (runs_if hE rfl rfl rfl hg77) (Gives.fld hE rfl fl84_3) rfl ?_; clear hE a; intro a hE
                refine WL.vS hS hE (runs_if hE rfl rfl rfl hg77) (Gives.loadB hE 0 rfl rfl rfl ty3) rfl ?_; clear hE a; intro a hE
                refine WL.fn hE (Fishref2within_ok hS  rfl) (runs_if hE rfl rfl rfl hg77) bd49 rfl rfl ?_
                clear hE hS; rintro e w ⟨rfl, hS⟩; refine ⟨_, rfl, ?_⟩; clear a; intro a hE
                refine WL.vS hS hE (runs_if hE rfl rfl rfl hg77) (Gives.p hE rfl) rfl ?_; clear hE a; intro a hE
                refine WL.vS hS hE (runs_plain rfl) (Gives.pickF hE rfl hg77 rfl) rfl ?_; clear hE a; intro a hE
                refine WL.nil ?_
                subst hK74
                exact ⟨!(Fishref2within x55.Arr 0 28800), hq69, hE.pick _ ⟨rfl, rfl, rfl, rfl, rfl, trivial⟩, hS⟩
        · clear hE hS a w; rintro a w ⟨q73, rfl, hE, hS⟩
          refine W.cond hE rfl (fun hc78 => ?_) (fun hc78 => ?_)
          · replace hq52 := iteT hc78 hq52
            refine W.seq ?_
            refine W.region ?_
            refine WL.vS hS hE (runs_plain rfl) (Gives.p hE rfl) rfl ?_; clear hE a; intro a hE
            refine WL.nil ?_
            refine W.ret ?_
            subst hK63
            rw [← hq52] at hr
            dsimp only at hr
            refine finG (fn := Try.f35) (rs := [.tmp 2]) (vs := [_]) hE rfl ⟨rfl, trivial⟩ ?_
            subst hr
            replace hS := hS.tail
            exact ⟨rfl, hS⟩
          · replace hq52 := iteF hc78 hq52
            refine W.skip ?_
            refine W.seq ?_
            refine W.seq ?_
            refine W.region ?_
            refine WL.vS hS hE (runs_plain rfl) (Gives.fld hE rfl fl84_3) rfl ?_; clear hE a; intro a hE
            refine WL.vS hS hE (runs_plain rfl) (Gives.loadB hE 0 rfl rfl rfl ty3) rfl ?_; clear hE a; intro a hE
            refine WL.vS hS hE (runs_plain rfl) (Gives.fld hE rfl fl84_2) rfl ?_; clear hE a; intro a hE
            refine WL.vS hS hE (runs_plain rfl) (Gives.loadB hE 0 rfl rfl rfl ty3) rfl ?_; clear hE a; intro a hE
            refine WL.vS hS hE (runs_plain rfl) (Gives.p hE rfl) rfl ?_; clear hE a; intro a hE
            refine WL.nil ?_
            refine W.cond hE rfl (fun hc79 => ?_) (fun hc79 => ?_)
            · replace hq52 := iteT hc79 hq52
              refine W.seq ?_
              refine W.region ?_
              refine WL.vS hS hE (runs_plain rfl) (Gives.p hE rfl) rfl ?_; clear hE a; intro a hE
              refine WL.nil ?_
              refine W.ret ?_
              subst hK63
              rw [← hq52] at hr
              dsimp only at hr
              refine finG (fn := Try.f35) (rs := [.tmp 2]) (vs := [_]) hE rfl ⟨rfl, trivial⟩ ?_
              subst hr
              replace hS := hS.tail
              exact ⟨rfl, hS⟩
            · replace hq52 := iteF hc79 hq52
              refine W.skip ?_
              refine W.seq ?_
              obtain ⟨q81, hq80, hq52⟩ := bndS hq52
              refine W.cut (fun a w => ∃ (q84 : Bool), q84 = q81 ∧ Rep a 52 [(8, .slice a0 x0.length c0), (9, .int .i64 ((x0).length : Int)), (10, .int .i64 ((k54 : Nat) : Int)), (50, .bool q84)] ∧ St w s (pt b68 (.cells (FleetTask.cells x55).toArray 84 (0, 0)) :: R)) ?_ ?_
              · refine W.gen fun K85 hK85 => ?_
                refine W.region ?_
                refine WL.vS hS hE (runs_plain rfl) (Gives.fld hE rfl fl84_4) rfl ?_; clear hE a; intro a hE
                refine WL.vS hS hE (runs_plain rfl) (Gives.loadB hE 0 rfl rfl rfl ty3) rfl ?_; clear hE a; intro a hE
                refine WL.fn hE (Fishref2within_ok hS  rfl) (runs_plain rfl) bd49 rfl rfl ?_
                clear hE hS; rintro e w ⟨rfl, hS⟩; refine ⟨_, rfl, ?_⟩; clear a; intro a hE
                refine WL.vS hS hE (runs_plain rfl) (Gives.p hE rfl) rfl ?_; clear hE a; intro a hE
                refine WL.vS hS hE (runs_plain rfl) (Gives.p hE rfl) rfl ?_; clear hE a; intro a hE
                rcases Bool.eq_false_or_eq_true (!(Fishref2within x55.Km 0 10000)) with hg86 | hg86
                · replace hq80 := iteT hg86 hq80
                  refine WL.no hE (runs_not hE rfl rfl rfl (by rw [hg86]; decide)) rfl ?_; clear hE a; intro a hE
                  refine WL.no hE (runs_not hE rfl rfl rfl (by rw [hg86]; decide)) rfl ?_; clear hE a; intro a hE
                  refine WL.no hE (runs_not hE rfl rfl rfl (by rw [hg86]; decide)) rfl ?_; clear hE a; intro a hE
                  refine WL.no hE (runs_not hE rfl rfl rfl (by rw [hg86]; decide)) rfl ?_; clear hE a; intro a hE
                  refine WL.vS hS hE (runs_plain rfl) (Gives.pickT hE rfl hg86 rfl) rfl ?_; clear hE a; intro a hE
                  refine WL.nil ?_
                  subst hK85
                  exact ⟨true, hq80, hE.pick _ ⟨rfl, rfl, rfl, rfl, trivial⟩, hS⟩
                · replace hq80 := iteF hg86 hq80
                  refine WL.vS hS hE (runs_if hE rfl rfl rfl hg86) (Gives.fld hE rfl fl84_5) rfl ?_; clear hE a; intro a hE
                  refine WL.vS hS hE (runs_if hE rfl rfl rfl hg86) (Gives.loadB hE 0 rfl rfl rfl ty3) rfl ?_; clear hE a; intro a hE
                  refine WL.fn hE (Fishref2within_ok hS  rfl) (runs_if hE rfl rfl rfl hg86) bd49 rfl rfl ?_
                  clear hE hS; rintro e w ⟨rfl, hS⟩; refine ⟨_, rfl, ?_⟩; clear a; intro a hE
                  refine WL.vS hS hE (runs_if hE rfl rfl rfl hg86) (Gives.p hE rfl) rfl ?_; clear hE a; intro a hE
                  refine WL.vS hS hE (runs_plain rfl) (Gives.pickF hE rfl hg86 rfl) rfl ?_; clear hE a; intro a hE
                  refine WL.nil ?_
                  subst hK85
                  exact ⟨!(Fishref2within x55.Units 1 4), hq80, hE.pick _ ⟨rfl, rfl, rfl, rfl, trivial⟩, hS⟩
              · clear hE hS a w; rintro a w ⟨q84, rfl, hE, hS⟩
                refine W.cond hE rfl (fun hc87 => ?_) (fun hc87 => ?_)
                · replace hq52 := iteT hc87 hq52
                  refine W.seq ?_
                  refine W.region ?_
                  refine WL.vS hS hE (runs_plain rfl) (Gives.p hE rfl) rfl ?_; clear hE a; intro a hE
                  refine WL.nil ?_
                  refine W.ret ?_
                  subst hK63
                  rw [← hq52] at hr
                  dsimp only at hr
                  refine finG (fn := Try.f35) (rs := [.tmp 2]) (vs := [_]) hE rfl ⟨rfl, trivial⟩ ?_
                  subst hr
                  replace hS := hS.tail
                  exact ⟨rfl, hS⟩
                · replace hq52 := iteF hc87 hq52
                  refine W.skip ?_
                  refine W.region ?_
                  refine WL.vS hS hE (runs_plain rfl) (Gives.inc hE rfl (by have := h0.small; omega)) rfl ?_; clear hE a; intro a hE
                  refine WL.vS hS hE (runs_plain rfl) (Gives.p hE rfl) rfl ?_; clear hE a; intro a hE
                  refine WL.nil ?_
                  replace hS := hS.tail
                  subst hK63
                  exact ⟨rest56.length, Nat.lt_succ_self _, rest56, k54 + 1, rfl, hd57, hq52, hE.pick _ ⟨rfl, rfl, rfl, trivial⟩, hS⟩
    · clear hE hS a w; rintro a w ⟨rfl, hE, hS⟩
      dsimp only at hr
      refine W.seq ?_
      refine W.region ?_
      refine WL.vS hS hE (runs_plain rfl) (Gives.p hE rfl) rfl ?_; clear hE a; intro a hE
      refine WL.nil ?_
      refine W.ret ?_
      refine finG (fn := Try.f35) (rs := [.tmp 2]) (vs := [_]) hE rfl ⟨rfl, trivial⟩ ?_
      subst hr
      exact ⟨rfl, hS⟩
set_option maxHeartbeats 8000000 in
theorem Fishref2LimitsFault_ok {w : World} {s : Sg} {R : List HP} {x0 : FleetLimits} (hS : St w s (R))  {r : Int} (hr : Fishref2LimitsFault x0 = r) :
    Calls Try.prog 37 [.agg (FleetLimits.cells x0).toArray].toArray w (fun e w => e = .returned (.int .i64 r) ∧ St w s (R)) := by
  refine enter Try.func37 rfl rfl rfl fun a hE => ?_
  rw [Fishref2LimitsFault] at hr
  refine W.seq ?_
  refine W.region ?_
  refine WL.box hE hS (runs_plain rfl) rfl rfl rfl ?_; clear hE hS a w; intro b51 a w hE hS
  refine WL.vS hS hE (runs_plain rfl) (Gives.p hE rfl) rfl ?_; clear hE a; intro a hE
  refine WL.nil ?_
  refine W.seq ?_
  refine W.seq ?_
  refine W.region ?_
  refine WL.vS hS hE (runs_plain rfl) (Gives.fld hE rfl fl35_0) rfl ?_; clear hE a; intro a hE
  refine WL.vS hS hE (runs_plain rfl) (Gives.loadB hE 0 rfl rfl rfl ty3) rfl ?_; clear hE a; intro a hE
  refine WL.vS hS hE (runs_plain rfl) (Gives.fld hE rfl fl35_1) rfl ?_; clear hE a; intro a hE
  refine WL.vS hS hE (runs_plain rfl) (Gives.loadB hE 0 rfl rfl rfl ty3) rfl ?_; clear hE a; intro a hE
  refine WL.vS hS hE (runs_plain rfl) (Gives.fld hE rfl fl35_2) rfl ?_; clear hE a; intro a hE
  refine WL.vS hS hE (runs_plain rfl) (Gives.loadB hE 0 rfl rfl rfl ty3) rfl ?_; clear hE a; intro a hE
  refine WL.vS hS hE (runs_plain rfl) (Gives.fld hE rfl fl35_3) rfl ?_; clear hE a; intro a hE
  refine WL.vS hS hE (runs_plain rfl) (Gives.loadB hE 0 rfl rfl rfl ty3) rfl ?_; clear hE a; intro a hE
  refine WL.vS hS hE (runs_plain rfl) (Gives.fld hE rfl fl35_4) rfl ?_; clear hE a; intro a hE
  refine WL.vS hS hE (runs_plain rfl) (Gives.loadB hE 0 rfl rfl rfl ty3) rfl ?_; clear hE a; intro a hE
  refine WL.vS hS hE (runs_plain rfl) (Gives.fld hE rfl fl35_5) rfl ?_; clear hE a; intro a hE
  refine WL.vS hS hE (runs_plain rfl) (Gives.loadB hE 0 rfl rfl rfl ty3) rfl ?_; clear hE a; intro a hE
  refine WL.lit hE hS (e := 3) (es := 1) (vs := [(0, .int .i64 x0.Change), (1, .int .i64 x0.Long), (2, .int .i64 x0.Work), (3, .int .i64 x0.After), (4, .int .i64 x0.Break), (5, .int .i64 x0.Rest)]) (cs := [.int .i64 x0.Change, .int .i64 x0.Long, .int .i64 x0.Work, .int .i64 x0.After, .int .i64 x0.Break, .int .i64 x0.Rest]) (runs_plain rfl) rfl (by kernel_rfl) rfl ?_; clear hE hS a w; intro b52 a w hE hS
  replace hS := hS.ptVec (es := 1) (m := 6) rfl (by decide)
  have h54 : Ev 1 (RI .i64) s [.int .i64 x0.Change, .int .i64 x0.Long, .int .i64 x0.Work, .int .i64 x0.After, .int .i64 x0.Break, .int .i64 x0.Rest] [x0.Change, x0.Long, x0.Work, x0.After, x0.Break, x0.Rest] := (Ev.cons (c1 := [.int .i64 x0.Change]) rfl rfl (Ev.cons (c1 := [.int .i64 x0.Long]) rfl rfl (Ev.cons (c1 := [.int .i64 x0.Work]) rfl rfl (Ev.cons (c1 := [.int .i64 x0.After]) rfl rfl (Ev.cons (c1 := [.int .i64 x0.Break]) rfl rfl (Ev.cons (c1 := [.int .i64 x0.Rest]) rfl rfl (Ev.nil)))))))
  have hF := hS.fixD RI.mono 0 rfl h54 (rfl); clear hS; obtain ⟨s55, hle56, hS, h57⟩ := hF
  refine WL.vS hS hE (runs_plain rfl) (Gives.len hE rfl sl22) rfl ?_; clear hE a; intro a hE
  refine WL.vS hS hE (runs_plain rfl) (Gives.p hE rfl) rfl ?_; clear hE a; intro a hE
  refine WL.nil ?_
  obtain ⟨q59, hq58, hr⟩ := bndS hr
  refine W.cut (fun a w => (.next ()) = q59 ∧ Rep a 31 [(1, .pointer (some ⟨b51, 0, none⟩))] ∧ St w s55 (pt b51 (.cells (FleetLimits.cells x0).toArray 35 (0, 0)) :: R)) ?_ ?_
  · refine W.block ?_
    refine W.loop (fun m a w => ∃ (rest62 : List Int) (k60 : Nat), rest62.length = m ∧ [x0.Change, x0.Long, x0.Work, x0.After, x0.Break, x0.Rest].drop k60 = rest62 ∧ Fishref2LimitsFault.loop1 rest62 = q59 ∧ Rep a 31 [(1, .pointer (some ⟨b51, 0, none⟩)), (17, .slice (some ⟨b52, 0, none⟩) 6 6), (18, .int .i64 (([x0.Change, x0.Long, x0.Work, x0.After, x0.Break, x0.Rest]).length : Int)), (19, .int .i64 ((k60 : Nat) : Int))] ∧ St w s55 (pt b51 (.cells (FleetLimits.cells x0).toArray 35 (0, 0)) :: R)) (m := [x0.Change, x0.Long, x0.Work, x0.After, x0.Break, x0.Rest].length) ⟨[x0.Change, x0.Long, x0.Work, x0.After, x0.Break, x0.Rest], 0, rfl, rfl, hq58, hE.pick _ ⟨rfl, rfl, rfl, rfl, trivial⟩, hS⟩ ?_
    clear hE hS a w hq58; rintro m66 a w ⟨rest62, k60, rfl, hd63, hq58, hE, hS⟩
    refine W.gen fun K69 hK69 => ?_
    rcases rest62 with _ | ⟨x61, rest62⟩
    · have hlt64 := drop_nil hd63
      refine W.seq ?_
      refine W.region ?_
      refine WL.vS hS hE (runs_plain rfl) (Gives.p hE rfl) rfl ?_; clear hE a; intro a hE
      refine WL.nil ?_
      refine W.seq ?_
      refine W.condF hE rfl (decide_eq_false (by omega)) ?_
      subst hK69
      refine W.exit rfl ?_
      exact ⟨hq58, hE.pick _ ⟨rfl, trivial⟩, hS⟩
    · obtain ⟨hlt64, hx65, hd63⟩ := drop_cons hd63
      rw [Fishref2LimitsFault.loop1] at hq58
      refine W.seq ?_
      refine W.region ?_
      refine WL.vS hS hE (runs_plain rfl) (Gives.p hE rfl) rfl ?_; clear hE a; intro a hE
      refine WL.nil ?_
      refine W.seq ?_
      refine W.condT hE rfl (decide_eq_true (by omega)) ?_
      refine W.skip ?_
      refine W.seq ?_
      refine W.block ?_
      refine W.seq ?_
      refine W.region ?_
      obtain ⟨cs70, hl71, hR72, hat73⟩ := h57.at hx65
      subst hR72
      refine WL.vS hS hE (runs_plain rfl) (Gives.idx hE k60 rfl rfl sl22 rfl hlt64 (h57.aok hlt64)) rfl ?_; clear hE a; intro a hE
      refine WL.vS hS hE (runs_plain rfl) (Gives.load1 hE rfl (fun w h => hat73 w _ h) ty3) rfl ?_; clear hE a; intro a hE
      refine WL.vS hS hE (runs_plain rfl) (Gives.p hE rfl) rfl ?_; clear hE a; intro a hE
      refine WL.nil ?_
      refine W.seq ?_
      refine W.region ?_
      refine WL.vS hS hE (runs_plain rfl) (Gives.p hE rfl) rfl ?_; clear hE a; intro a hE
      refine WL.fn hE (Fishref2within_ok hS  rfl) (runs_plain rfl) bd49 rfl rfl ?_
      clear hE hS; rintro e w ⟨rfl, hS⟩; refine ⟨_, rfl, ?_⟩; clear a; intro a hE
      refine WL.vS hS hE (runs_plain rfl) (Gives.p hE rfl) rfl ?_; clear hE a; intro a hE
      refine WL.nil ?_
      refine W.cond hE rfl (fun hc74 => ?_) (fun hc74 => ?_)
      · replace hq58 := iteT hc74 hq58
        refine W.seq ?_
        refine W.region ?_
        refine WL.vS hS hE (runs_plain rfl) (Gives.p hE rfl) rfl ?_; clear hE a; intro a hE
        refine WL.nil ?_
        refine W.ret ?_
        subst hK69
        rw [← hq58] at hr
        dsimp only at hr
        refine finG (fn := Try.f37) (rs := [.tmp 2]) (vs := [_]) hE rfl ⟨rfl, trivial⟩ ?_
        subst hr
        replace hS := hS.tail
        exact ⟨rfl, (hS.down hle56)⟩
      · replace hq58 := iteF hc74 hq58
        refine W.skip ?_
        refine W.region ?_
        refine WL.vS hS hE (runs_plain rfl) (Gives.inc hE rfl (by have := h57.small; omega)) rfl ?_; clear hE a; intro a hE
        refine WL.vS hS hE (runs_plain rfl) (Gives.p hE rfl) rfl ?_; clear hE a; intro a hE
        refine WL.nil ?_
        subst hK69
        exact ⟨rest62.length, Nat.lt_succ_self _, rest62, k60 + 1, rfl, hd63, hq58, hE.pick _ ⟨rfl, rfl, rfl, rfl, trivial⟩, hS⟩
  · clear hE hS a w; rintro a w ⟨rfl, hE, hS⟩
    dsimp only at hr
    refine W.seq ?_
    refine W.seq ?_
    refine W.region ?_
    refine WL.vS hS hE (runs_plain rfl) (Gives.fld hE rfl fl35_6) rfl ?_; clear hE a; intro a hE
    refine WL.vS hS hE (runs_plain rfl) (Gives.loadB hE 0 rfl rfl rfl ty3) rfl ?_; clear hE a; intro a hE
    refine WL.fn hE (Fishref2within_ok hS  rfl) (runs_plain rfl) bd49 rfl rfl ?_
    clear hE hS; rintro e w ⟨rfl, hS⟩; refine ⟨_, rfl, ?_⟩; clear a; intro a hE
    refine WL.vS hS hE (runs_plain rfl) (Gives.p hE rfl) rfl ?_; clear hE a; intro a hE
    refine WL.nil ?_
    refine W.cond hE rfl (fun hc75 => ?_) (fun hc75 => ?_)
    · replace hr := iteT hc75 hr
      refine W.seq ?_
      refine W.region ?_
      refine WL.vS hS hE (runs_plain rfl) (Gives.p hE rfl) rfl ?_; clear hE a; intro a hE
      refine WL.nil ?_
      refine W.ret ?_
      refine finG (fn := Try.f37) (rs := [.tmp 2]) (vs := [_]) hE rfl ⟨rfl, trivial⟩ ?_
      subst hr
      replace hS := hS.tail
      exact ⟨rfl, (hS.down hle56)⟩
    · replace hr := iteF hc75 hr
      refine W.skip ?_
      refine W.seq ?_
      refine W.region ?_
      refine WL.vS hS hE (runs_plain rfl) (Gives.p hE rfl) rfl ?_; clear hE a; intro a hE
      refine WL.nil ?_
      refine W.ret ?_
      refine finG (fn := Try.f37) (rs := [.tmp 2]) (vs := [_]) hE rfl ⟨rfl, trivial⟩ ?_
      subst hr
      replace hS := hS.tail
      exact ⟨rfl, (hS.down hle56)⟩
set_option maxHeartbeats 8000000 in
theorem Fishref2Code_ok {w : World} {s : Sg} {R : List HP} {x0 : List FleetTask} {a0 : Option Addr} {c0 : Nat} {x1 : List Int} {a1 : Option Addr} {c1 : Nat} {x2 : FleetLimits} (hS : St w s (R)) (h0 : Sl 6 RFleetTask s a0 c0 x0) (h1 : Sl 1 (RI .i64) s a1 c1 x1) {r : Int} (hr : Fishref2Code x0 x1 x2 = some r) :
    Calls Try.prog 54 [.slice a0 x0.length c0, .slice a1 x1.length c1, .agg (FleetLimits.cells x2).toArray].toArray w (fun e w => e = .returned (.int .i64 r) ∧ St w s (R)) := by
  refine enter Try.func54 rfl rfl rfl fun a hE => ?_
  rw [Fishref2Code] at hr
  refine W.seq ?_
  refine W.region ?_
  refine WL.box hE hS (runs_plain rfl) rfl rfl rfl ?_; clear hE hS a w; intro b51 a w hE hS
  refine WL.vS hS hE (runs_plain rfl) (Gives.p hE rfl) rfl ?_; clear hE a; intro a hE
  refine WL.nil ?_
  refine W.seq ?_
  refine W.gen fun K52 hK52 => ?_
  refine W.regionE (fun w => St w s (pt b51 (.cells (FleetLimits.cells x2).toArray 35 (0, 0)) :: R)) 19 mixed ?_
  replace hS := hS.drew
  have hF := hS; replace hS := hS
  refine Rg.take (i := 0) hE rfl (by kernel_rfl) (runs_plain rfl) (Gives.p hE rfl) rfl hS ?_; clear hE a; intro a hE
  replace hS := hF; clear hF
  have hF := hS; replace hS := hS
  refine Rg.take (i := 1) hE rfl (by kernel_rfl) (runs_plain rfl) (Gives.p hE rfl) rfl hS ?_; clear hE a; intro a hE
  replace hS := hF; clear hF
  have hF := hS; replace hS := hS
  obtain ⟨x53, hx54, hr⟩ := bindS hr
  obtain ⟨hi55, hlt56, hy57⟩ := gx_some hx54
  obtain ⟨cs58, hl59, hR60, hat61⟩ := h1.at hy57
  subst hR60
  refine Rg.take (i := 2) hE rfl (by kernel_rfl) (runs_plain rfl) (Gives.idx hE ((0 : Int)).toNat rfl rfl sl22 hi55 hlt56 (h1.aok hlt56)) rfl hS ?_; clear hE a; intro a hE
  replace hS := hF; clear hF
  have hF := hS; replace hS := hS
  refine Rg.take (i := 3) hE rfl (by kernel_rfl) (runs_plain rfl) (Gives.load1 hE rfl (fun w h => hat61 w _ h) ty3) rfl hS ?_; clear hE a; intro a hE
  replace hS := hF; clear hF
  have hF := hS; replace hS := hS
  obtain ⟨x62, hx63, hr⟩ := bindS hr
  obtain ⟨hi64, hlt65, hy66⟩ := gx_some hx63
  obtain ⟨cs67, hl68, hR69, hat70⟩ := h0.at hy66
  subst hR69
  refine Rg.take (i := 4) hE rfl (by kernel_rfl) (runs_plain rfl) (Gives.idx hE (x53).toNat rfl rfl sl33 hi64 hlt65 (h0.aok hlt65)) rfl hS ?_; clear hE a; intro a hE
  replace hS := hF; clear hF
  have hF := hS; replace hS := hS
  refine Rg.take (i := 5) hE rfl (by kernel_rfl) (runs_plain rfl) (Gives.loadA hE rfl (fun w h => hat70 w _ h) ty84) rfl hS ?_; clear hE a; intro a hE
  replace hS := hF; clear hF
  have hF := hS; replace hS := hS
  refine Rg.take (i := 6) hE rfl (by kernel_rfl) (runs_plain rfl) (Gives.p hE rfl) rfl hS ?_; clear hE a; intro a hE
  replace hS := hF; clear hF
  have hF := hS; replace hS := hS
  refine Rg.take (i := 7) hE rfl (by kernel_rfl) (runs_plain rfl) (Gives.p hE rfl) rfl hS ?_; clear hE a; intro a hE
  replace hS := hF; clear hF
  have hF := hS; replace hS := hS
  refine Rg.take (i := 8) hE rfl (by kernel_rfl) (runs_plain rfl) (Gives.p hE rfl) rfl hS ?_; clear hE a; intro a hE
  replace hS := hF; clear hF
  have hF := hS; replace hS := hS
  refine Rg.take (i := 9) hE rfl (by kernel_rfl) (runs_plain rfl) (Gives.len hE rfl sl22) rfl hS ?_; clear hE a; intro a hE
  replace hS := hF; clear hF
  have hF := hS; replace hS := hS
  refine Rg.take (i := 10) hE rfl (by kernel_rfl) (runs_plain rfl) (Gives.p hE rfl) rfl hS ?_; clear hE a; intro a hE
  replace hS := hF; clear hF
  have hF := hS; replace hS := hS
  obtain ⟨x71, hx72, hr⟩ := bindS hr
  obtain ⟨hi73, hlt74, hy75⟩ := gx_some hx72
  obtain ⟨cs76, hl77, hR78, hat79⟩ := h1.at hy75
  subst hR78
  refine Rg.take (i := 11) hE rfl (by kernel_rfl) (runs_plain rfl) (Gives.idx hE (w64 (((x1).length : Int) - 1)).toNat rfl rfl sl22 hi73 hlt74 (h1.aok hlt74)) rfl hS ?_; clear hE a; intro a hE
  replace hS := hF; clear hF
  have hF := hS; replace hS := hS
  refine Rg.take (i := 12) hE rfl (by kernel_rfl) (runs_plain rfl) (Gives.load1 hE rfl (fun w h => hat79 w _ h) ty3) rfl hS ?_; clear hE a; intro a hE
  replace hS := hF; clear hF
  have hF := hS; replace hS := hS
  obtain ⟨x80, hx81, hr⟩ := bindS hr
  obtain ⟨hi82, hlt83, hy84⟩ := gx_some hx81
  obtain ⟨cs85, hl86, hR87, hat88⟩ := h0.at hy84
  subst hR87
  refine Rg.take (i := 13) hE rfl (by kernel_rfl) (runs_plain rfl) (Gives.idx hE (x71).toNat rfl rfl sl33 hi82 hlt83 (h0.aok hlt83)) rfl hS ?_; clear hE a; intro a hE
  replace hS := hF; clear hF
  have hF := hS; replace hS := hS
  refine Rg.take (i := 14) hE rfl (by kernel_rfl) (runs_plain rfl) (Gives.loadA hE rfl (fun w h => hat88 w _ h) ty84) rfl hS ?_; clear hE a; intro a hE
  replace hS := hF; clear hF
  suffices key : ∀ (b89 b90 : Nat) (a : Act) (w : World), Rep a 168 [(0, .slice a0 x0.length c0), (1, .slice a1 x1.length c1), (5, .pointer (some ⟨b51, 0, none⟩)), (7, .pointer (some ⟨b89, 0, none⟩)), (8, .pointer (some ⟨b90, 0, none⟩))] → St w s (pt b90 (.cells (FleetTask.cells x80).toArray 84 (0, 0)) :: pt b89 (.cells (FleetTask.cells x62).toArray 84 (0, 0)) :: pt b51 (.cells (FleetLimits.cells x2).toArray 35 (0, 0)) :: R) → K52.nor a w by
    refine Rg.two (i := 15) (j := 16) rfl rfl (by kernel_rfl) ?_ ?_
    · refine WL.alloc hE hS (runs_plain rfl) zr84 rfl ?_; clear hE hS a w; intro b89 a w hE hS
      refine WL.nil ?_
      refine ⟨fun _ => (hS.tail), ?_⟩
      refine Rg.one (i := 16) rfl (by kernel_rfl) ?_
      refine WL.alloc hE hS (runs_plain rfl) zr84 rfl ?_; clear hE hS a w; intro b90 a w hE hS
      refine WL.nil ?_
      refine ⟨fun _ => ((hS.tail).tail), ?_⟩
      refine Rg.one (i := 17) rfl (by kernel_rfl) ?_
      refine WL.storeI hE hS 1 rfl (FleetTask.cells x62) (runs_plain rfl) rfl rfl rfl ty84 rfl rfl rfl rfl ?_; clear hE hS a w; intro a w hE hS
      refine WL.nil ?_
      refine ⟨fun _ => ((hS.tail).tail), ?_⟩
      refine Rg.one (i := 18) rfl (by kernel_rfl) ?_
      refine WL.storeI hE hS 0 rfl (FleetTask.cells x80) (runs_plain rfl) rfl rfl rfl ty84 rfl rfl rfl rfl ?_; clear hE hS a w; intro a w hE hS
      refine WL.nil ?_
      refine ⟨fun _ => ((hS.tail).tail), ?_⟩
      refine Rg.done (by kernel_rfl) ?_
      exact key b89 b90 _ _ (hE.pick _ ⟨rfl, rfl, rfl, rfl, rfl, trivial⟩) hS
    · refine WL.alloc hE hS (runs_plain rfl) zr84 rfl ?_; clear hE hS a w; intro b91 a w hE hS
      refine WL.nil ?_
      refine ⟨fun _ => (hS.tail), ?_⟩
      refine Rg.one (i := 15) rfl (by kernel_rfl) ?_
      refine WL.alloc hE hS (runs_plain rfl) zr84 rfl ?_; clear hE hS a w; intro b92 a w hE hS
      refine WL.nil ?_
      refine ⟨fun _ => ((hS.tail).tail), ?_⟩
      refine Rg.one (i := 17) rfl (by kernel_rfl) ?_
      refine WL.storeI hE hS 0 rfl (FleetTask.cells x62) (runs_plain rfl) rfl rfl rfl ty84 rfl rfl rfl rfl ?_; clear hE hS a w; intro a w hE hS
      refine WL.nil ?_
      refine ⟨fun _ => ((hS.tail).tail), ?_⟩
      refine Rg.one (i := 18) rfl (by kernel_rfl) ?_
      refine WL.storeI hE hS 1 rfl (FleetTask.cells x80) (runs_plain rfl) rfl rfl rfl ty84 rfl rfl rfl rfl ?_; clear hE hS a w; intro a w hE hS
      refine WL.nil ?_
      refine ⟨fun _ => ((hS.tail).tail), ?_⟩
      refine Rg.done (by kernel_rfl) ?_
      replace hS := hS.front 2 rfl
      replace hS := hS.front 1 rfl
      replace hS := hS.front 2 rfl
      exact key b92 b91 _ _ (hE.pick _ ⟨rfl, rfl, rfl, rfl, rfl, trivial⟩) hS
  clear hE hS a w; intro b89 b90 a w hE hS
  subst hK52
  refine W.seq ?_
  refine W.region ?_
  refine WL.vS hS hE (runs_plain rfl) (Gives.p hE rfl) rfl ?_; clear hE a; intro a hE
  refine WL.nil ?_
  refine W.seq ?_
  refine W.seq ?_
  refine W.region ?_
  refine WL.vS hS hE (runs_plain rfl) (Gives.p hE rfl) rfl ?_; clear hE a; intro a hE
  refine WL.vS hS hE (runs_plain rfl) (Gives.len hE rfl sl22) rfl ?_; clear hE a; intro a hE
  refine WL.vS hS hE (runs_plain rfl) (Gives.p hE rfl) rfl ?_; clear hE a; intro a hE
  refine WL.nil ?_
  obtain ⟨q94, hq93, hr⟩ := bindS hr
  refine W.cut (fun a w => ∃ (q104 : Int), (.next q104) = q94 ∧ Rep a 168 [(0, .slice a0 x0.length c0), (1, .slice a1 x1.length c1), (5, .pointer (some ⟨b51, 0, none⟩)), (7, .pointer (some ⟨b89, 0, none⟩)), (8, .pointer (some ⟨b90, 0, none⟩)), (9, .int .i64 q104)] ∧ St w s (pt b90 (.cells (FleetTask.cells x80).toArray 84 (0, 0)) :: pt b89 (.cells (FleetTask.cells x62).toArray 84 (0, 0)) :: pt b51 (.cells (FleetLimits.cells x2).toArray 35 (0, 0)) :: R)) ?_ ?_
  · refine W.block ?_
    refine W.loop (fun m a w => ∃ (rest97 : List Int) (k95 : Nat), ∃ (q104 : Int), rest97.length = m ∧ x1.drop k95 = rest97 ∧ Fishref2Code.loop1 x0 x1 x2 rest97 k95 q104 = some q94 ∧ Rep a 168 [(0, .slice a0 x0.length c0), (1, .slice a1 x1.length c1), (5, .pointer (some ⟨b51, 0, none⟩)), (7, .pointer (some ⟨b89, 0, none⟩)), (8, .pointer (some ⟨b90, 0, none⟩)), (9, .int .i64 q104), (32, .slice a1 x1.length c1), (33, .int .i64 ((x1).length : Int)), (34, .int .i64 ((k95 : Nat) : Int))] ∧ St w s (pt b90 (.cells (FleetTask.cells x80).toArray 84 (0, 0)) :: pt b89 (.cells (FleetTask.cells x62).toArray 84 (0, 0)) :: pt b51 (.cells (FleetLimits.cells x2).toArray 35 (0, 0)) :: R)) (m := x1.length) ⟨x1, 0, 0, rfl, rfl, hq93, hE.pick _ ⟨rfl, rfl, rfl, rfl, rfl, rfl, rfl, rfl, rfl, trivial⟩, hS⟩ ?_
    clear hE hS a w hq93; rintro m101 a w ⟨rest97, k95, q104, rfl, hd98, hq93, hE, hS⟩
    refine W.gen fun K105 hK105 => ?_
    rcases rest97 with _ | ⟨x96, rest97⟩
    · have hlt99 := drop_nil hd98
      refine W.seq ?_
      refine W.region ?_
      refine WL.vS hS hE (runs_plain rfl) (Gives.p hE rfl) rfl ?_; clear hE a; intro a hE
      refine WL.nil ?_
      refine W.seq ?_
      refine W.condF hE rfl (decide_eq_false (by omega)) ?_
      subst hK105
      refine W.exit rfl ?_
      exact ⟨q104, Option.some.inj hq93, hE.pick _ ⟨rfl, rfl, rfl, rfl, rfl, rfl, trivial⟩, hS⟩
    · obtain ⟨hlt99, hx100, hd98⟩ := drop_cons hd98
      rw [Fishref2Code.loop1] at hq93
      refine W.seq ?_
      refine W.region ?_
      refine WL.vS hS hE (runs_plain rfl) (Gives.p hE rfl) rfl ?_; clear hE a; intro a hE
      refine WL.nil ?_
      refine W.seq ?_
      refine W.condT hE rfl (decide_eq_true (by omega)) ?_
      refine W.skip ?_
      refine W.seq ?_
      refine W.block ?_
      refine W.seq ?_
      refine W.region ?_
      refine WL.vS hS hE (runs_plain rfl) (Gives.p hE rfl) rfl ?_; clear hE a; intro a hE
      obtain ⟨cs106, hl107, hR108, hat109⟩ := h1.at hx100
      subst hR108
      refine WL.vS hS hE (runs_plain rfl) (Gives.idx hE k95 rfl rfl sl22 rfl hlt99 (h1.aok hlt99)) rfl ?_; clear hE a; intro a hE
      refine WL.vS hS hE (runs_plain rfl) (Gives.load1 hE rfl (fun w h => hat109 w _ h) ty3) rfl ?_; clear hE a; intro a hE
      refine WL.vS hS hE (runs_plain rfl) (Gives.p hE rfl) rfl ?_; clear hE a; intro a hE
      refine WL.vS hS hE (runs_plain rfl) (Gives.p hE rfl) rfl ?_; clear hE a; intro a hE
      refine WL.nil ?_
      refine W.seq ?_
      refine W.regionQ (C := fun w => St w s (pt b90 (.cells (FleetTask.cells x80).toArray 84 (0, 0)) :: pt b89 (.cells (FleetTask.cells x62).toArray 84 (0, 0)) :: pt b51 (.cells (FleetLimits.cells x2).toArray 35 (0, 0)) :: R)) mixed (by kernel_rfl) hS.drew ?_
      refine QL.v hE (runs_plain rfl) (Gives.p hE rfl) rfl ?_; clear hE a; intro a hE
      refine QL.v hE (runs_plain rfl) (Gives.p hE rfl) rfl ?_; clear hE a; intro a hE
      refine QL.v hE (runs_plain rfl) (Gives.p hE rfl) rfl ?_; clear hE a; intro a hE
      obtain ⟨x110, hx111, hq93⟩ := bindS hq93
      obtain ⟨hi112, hlt113, hy114⟩ := gx_some hx111
      obtain ⟨cs115, hl116, hR117, hat118⟩ := h0.at hy114
      subst hR117
      refine QL.v hE (runs_plain rfl) (Gives.idx hE (x96).toNat rfl rfl sl33 hi112 hlt113 (h0.aok hlt113)) rfl ?_; clear hE a; intro a hE
      refine QL.v hE (runs_plain rfl) (Gives.fld hE rfl fl84_3) rfl ?_; clear hE a; intro a hE
      refine QL.v hE (runs_plain rfl) (Gives.load1 hE rfl (fun w h => (hat118 w _ h).one rfl) ty3) rfl ?_; clear hE a; intro a hE
      refine QL.v hE (runs_plain rfl) (Gives.p hE rfl) rfl ?_; clear hE a; intro a hE
      refine QL.v hE (runs_plain rfl) (Gives.p hE rfl) rfl ?_; clear hE a; intro a hE
      obtain ⟨x119, hx120, hq93⟩ := bindS hq93
      obtain ⟨hi121, hlt122, hy123⟩ := gx_some hx120
      obtain ⟨cs124, hl125, hR126, hat127⟩ := h0.at hy123
      subst hR126
      refine QL.v hE (runs_plain rfl) (Gives.idx hE (x96).toNat rfl rfl sl33 hi121 hlt122 (h0.aok hlt122)) rfl ?_; clear hE a; intro a hE
      refine QL.v hE (runs_plain rfl) (Gives.fld hE rfl fl84_2) rfl ?_; clear hE a; intro a hE
      refine QL.v hE (runs_plain rfl) (Gives.load1 hE rfl (fun w h => (hat127 w _ h).one rfl) ty3) rfl ?_; clear hE a; intro a hE
      refine QL.v hE (runs_plain rfl) (Gives.p hE rfl) rfl ?_; clear hE a; intro a hE
      refine QL.v hE (runs_plain rfl) (Gives.p hE rfl) rfl ?_; clear hE a; intro a hE
      refine QL.v hE (runs_plain rfl) (Gives.p hE rfl) rfl ?_; clear hE a; intro a hE
      refine QL.nil ?_; clear hS w; intro w hS
      refine W.seq ?_
      refine W.region ?_
      refine WL.vS hS hE (runs_plain rfl) (Gives.p hE rfl) rfl ?_; clear hE a; intro a hE
      refine WL.vS hS hE (runs_plain rfl) (Gives.p hE rfl) rfl ?_; clear hE a; intro a hE
      refine WL.nil ?_
      obtain ⟨q129, hq128, hq93⟩ := bindS hq93
      refine W.cut (fun a w => .next () = q129 ∧ Rep a 168 [(0, .slice a0 x0.length c0), (1, .slice a1 x1.length c1), (5, .pointer (some ⟨b51, 0, none⟩)), (7, .pointer (some ⟨b89, 0, none⟩)), (8, .pointer (some ⟨b90, 0, none⟩)), (9, .int .i64 (w64 (q104 + (w64 (x110.Arr - x119.Dep))))), (32, .slice a1 x1.length c1), (33, .int .i64 ((x1).length : Int)), (34, .int .i64 ((k95 : Nat) : Int))] ∧ St w s (pt b90 (.cells (FleetTask.cells x80).toArray 84 (0, 0)) :: pt b89 (.cells (FleetTask.cells x62).toArray 84 (0, 0)) :: pt b51 (.cells (FleetLimits.cells x2).toArray 35 (0, 0)) :: R)) ?_ ?_
      · refine W.gen fun K132 hK132 => ?_
        refine W.cond hE rfl (fun hc133 => ?_) (fun hc133 => ?_)
        · replace hq128 := iteT hc133 hq128
          refine W.seq ?_
          refine W.region ?_
          refine WL.vS hS hE (runs_plain rfl) (Gives.p hE rfl) rfl ?_; clear hE a; intro a hE
          refine WL.vS hS hE (runs_plain rfl) (Gives.p hE rfl) rfl ?_; clear hE a; intro a hE
          refine WL.vS hS hE (runs_plain rfl) (Gives.p hE rfl) rfl ?_; clear hE a; intro a hE
          refine WL.vS hS hE (runs_plain rfl) (Gives.p hE rfl) rfl ?_; clear hE a; intro a hE
          obtain ⟨x134, hx135, hq128⟩ := bindS hq128
          obtain ⟨hi136, hlt137, hy138⟩ := gx_some hx135
          obtain ⟨cs139, hl140, hR141, hat142⟩ := h1.at hy138
          subst hR141
          refine WL.vS hS hE (runs_plain rfl) (Gives.idx hE (w64 (((k95 : Nat) : Int) - 1)).toNat rfl rfl sl22 hi136 hlt137 (h1.aok hlt137)) rfl ?_; clear hE a; intro a hE
          refine WL.vS hS hE (runs_plain rfl) (Gives.load1 hE rfl (fun w h => hat142 w _ h) ty3) rfl ?_; clear hE a; intro a hE
          obtain ⟨x143, hx144, hq128⟩ := bindS hq128
          obtain ⟨hi145, hlt146, hy147⟩ := gx_some hx144
          obtain ⟨cs148, hl149, hR150, hat151⟩ := h0.at hy147
          subst hR150
          refine WL.vS hS hE (runs_plain rfl) (Gives.idx hE (x134).toNat rfl rfl sl33 hi145 hlt146 (h0.aok hlt146)) rfl ?_; clear hE a; intro a hE
          refine WL.vS hS hE (runs_plain rfl) (Gives.loadA hE rfl (fun w h => hat151 w _ h) ty84) rfl ?_; clear hE a; intro a hE
          refine WL.alloc hE hS (runs_plain rfl) zr84 rfl ?_; clear hE hS a w; intro b152 a w hE hS
          refine WL.storeI hE hS 0 rfl (FleetTask.cells x143) (runs_plain rfl) rfl rfl rfl ty84 rfl rfl rfl rfl ?_; clear hE hS a w; intro a w hE hS
          refine WL.nil ?_
          refine W.seq ?_
          obtain ⟨q154, hq153, hq128⟩ := bindS hq128
          refine W.cut (fun a w => ∃ (q157 : Bool), q157 = q154 ∧ Rep a 168 [(0, .slice a0 x0.length c0), (1, .slice a1 x1.length c1), (5, .pointer (some ⟨b51, 0, none⟩)), (7, .pointer (some ⟨b89, 0, none⟩)), (8, .pointer (some ⟨b90, 0, none⟩)), (9, .int .i64 (w64 (q104 + (w64 (x110.Arr - x119.Dep))))), (32, .slice a1 x1.length c1), (33, .int .i64 ((x1).length : Int)), (34, .int .i64 ((k95 : Nat) : Int)), (82, .bool q157)] ∧ St w s (pt b152 (.cells (FleetTask.cells x143).toArray 84 (0, 0)) :: pt b90 (.cells (FleetTask.cells x80).toArray 84 (0, 0)) :: pt b89 (.cells (FleetTask.cells x62).toArray 84 (0, 0)) :: pt b51 (.cells (FleetLimits.cells x2).toArray 35 (0, 0)) :: R)) ?_ ?_
          · refine W.gen fun K158 hK158 => ?_
            refine W.regionQ (C := fun w => St w s (pt b152 (.cells (FleetTask.cells x143).toArray 84 (0, 0)) :: pt b90 (.cells (FleetTask.cells x80).toArray 84 (0, 0)) :: pt b89 (.cells (FleetTask.cells x62).toArray 84 (0, 0)) :: pt b51 (.cells (FleetLimits.cells x2).toArray 35 (0, 0)) :: R)) mixed (by kernel_rfl) hS.drew ?_
            refine QL.v hE (runs_plain rfl) (Gives.fld hE rfl fl84_1) rfl ?_; clear hE a; intro a hE
            refine QL.v hE (runs_plain rfl) (Gives.loadB hE 0 rfl rfl rfl ty3) rfl ?_; clear hE a; intro a hE
            refine QL.v hE (runs_plain rfl) (Gives.p hE rfl) rfl ?_; clear hE a; intro a hE
            refine QL.v hE (runs_plain rfl) (Gives.p hE rfl) rfl ?_; clear hE a; intro a hE
            obtain ⟨x159, hx160, hq153⟩ := bindS hq153
            obtain ⟨hi161, hlt162, hy163⟩ := gx_some hx160
            obtain ⟨cs164, hl165, hR166, hat167⟩ := h0.at hy163
            subst hR166
            refine QL.v hE (runs_plain rfl) (Gives.idx hE (x96).toNat rfl rfl sl33 hi161 hlt162 (h0.aok hlt162)) rfl ?_; clear hE a; intro a hE
            refine QL.v hE (runs_plain rfl) (Gives.fld hE rfl fl84_0) rfl ?_; clear hE a; intro a hE
            refine QL.v hE (runs_plain rfl) (Gives.load1 hE rfl (fun w h => (hat167 w _ h).one rfl) ty3) rfl ?_; clear hE a; intro a hE
            refine QL.v hE (runs_plain rfl) (Gives.p hE rfl) rfl ?_; clear hE a; intro a hE
            refine QL.v hE (runs_plain rfl) (Gives.p hE rfl) rfl ?_; clear hE a; intro a hE
            rcases Bool.eq_false_or_eq_true (x143.To != x159.From) with hg168 | hg168
            · replace hq153 := iteT hg168 hq153
              refine QL.no hE (runs_not hE rfl rfl rfl (by rw [hg168]; decide)) rfl ?_; clear hE a; intro a hE
              refine QL.no hE (runs_not hE rfl rfl rfl (by rw [hg168]; decide)) rfl ?_; clear hE a; intro a hE
              refine QL.no hE (runs_not hE rfl rfl rfl (by rw [hg168]; decide)) rfl ?_; clear hE a; intro a hE
              refine QL.no hE (runs_not hE rfl rfl rfl (by rw [hg168]; decide)) rfl ?_; clear hE a; intro a hE
              refine QL.no hE (runs_not hE rfl rfl rfl (by rw [hg168]; decide)) rfl ?_; clear hE a; intro a hE
              refine QL.no hE (runs_not hE rfl rfl rfl (by rw [hg168]; decide)) rfl ?_; clear hE a; intro a hE
              refine QL.no hE (runs_not hE rfl rfl rfl (by rw [hg168]; decide)) rfl ?_; clear hE a; intro a hE
              refine QL.no hE (runs_not hE rfl rfl rfl (by rw [hg168]; decide)) rfl ?_; clear hE a; intro a hE
              refine QL.no hE (runs_not hE rfl rfl rfl (by rw [hg168]; decide)) rfl ?_; clear hE a; intro a hE
              refine QL.no hE (runs_not hE rfl rfl rfl (by rw [hg168]; decide)) rfl ?_; clear hE a; intro a hE
              refine QL.no hE (runs_not hE rfl rfl rfl (by rw [hg168]; decide)) rfl ?_; clear hE a; intro a hE
              refine QL.v hE (runs_plain rfl) (Gives.pickT hE rfl hg168 rfl) rfl ?_; clear hE a; intro a hE
              refine QL.nil ?_; clear hS w; intro w hS
              subst hK158
              exact ⟨true, Option.some.inj hq153, hE.pick _ ⟨rfl, rfl, rfl, rfl, rfl, rfl, rfl, rfl, rfl, rfl, trivial⟩, hS⟩
            · replace hq153 := iteF hg168 hq153
              refine QL.v hE (runs_if hE rfl rfl rfl hg168) (Gives.p hE rfl) rfl ?_; clear hE a; intro a hE
              refine QL.v hE (runs_if hE rfl rfl rfl hg168) (Gives.p hE rfl) rfl ?_; clear hE a; intro a hE
              obtain ⟨x169, hx170, hq153⟩ := bindS hq153
              obtain ⟨hi171, hlt172, hy173⟩ := gx_some hx170
              obtain ⟨cs174, hl175, hR176, hat177⟩ := h0.at hy173
              subst hR176
              refine QL.v hE (runs_if hE rfl rfl rfl hg168) (Gives.idx hE (x96).toNat rfl rfl sl33 hi171 hlt172 (h0.aok hlt172)) rfl ?_; clear hE a; intro a hE
              refine QL.v hE (runs_if hE rfl rfl rfl hg168) (Gives.fld hE rfl fl84_2) rfl ?_; clear hE a; intro a hE
              refine QL.v hE (runs_if hE rfl rfl rfl hg168) (Gives.load1 hE rfl (fun w h => (hat177 w _ h).one rfl) ty3) rfl ?_; clear hE a; intro a hE
              refine QL.v hE (runs_if hE rfl rfl rfl hg168) (Gives.fld hE rfl fl84_3) rfl ?_; clear hE a; intro a hE
              refine QL.v hE (runs_if hE rfl rfl rfl hg168) (Gives.loadB hE 0 rfl rfl rfl ty3) rfl ?_; clear hE a; intro a hE
              refine QL.v hE (runs_if hE rfl rfl rfl hg168) (Gives.fld hE rfl fl35_0) rfl ?_; clear hE a; intro a hE
              refine QL.v hE (runs_if hE rfl rfl rfl hg168) (Gives.loadB hE 3 rfl rfl rfl ty3) rfl ?_; clear hE a; intro a hE
              refine QL.v hE (runs_if hE rfl rfl rfl hg168) (Gives.p hE rfl) rfl ?_; clear hE a; intro a hE
              refine QL.v hE (runs_if hE rfl rfl rfl hg168) (Gives.p hE rfl) rfl ?_; clear hE a; intro a hE
              refine QL.v hE (runs_plain rfl) (Gives.pickF hE rfl hg168 rfl) rfl ?_; clear hE a; intro a hE
              refine QL.nil ?_; clear hS w; intro w hS
              subst hK158
              exact ⟨decide (x169.Dep < (w64 (x143.Arr + x2.Change))), Option.some.inj hq153, hE.pick _ ⟨rfl, rfl, rfl, rfl, rfl, rfl, rfl, rfl, rfl, rfl, trivial⟩, hS⟩
          · clear hE hS a w; rintro a w ⟨q157, rfl, hE, hS⟩
            refine W.cond hE rfl (fun hc178 => ?_) (fun hc178 => ?_)
            · replace hq128 := iteT hc178 hq128
              refine W.seq ?_
              refine W.region ?_
              refine WL.vS hS hE (runs_plain rfl) (Gives.p hE rfl) rfl ?_; clear hE a; intro a hE
              refine WL.nil ?_
              refine W.ret ?_
              subst hK132
              subst hK105
              rw [← Option.some.inj hq128] at hq93
              dsimp only at hq93
              rw [← Option.some.inj hq93] at hr
              dsimp only at hr
              refine finG (fn := Try.f54) (rs := [.tmp 6]) (vs := [_]) hE rfl ⟨rfl, trivial⟩ ?_
              obtain rfl := Option.some.inj hr
              replace hS := hS.tail
              replace hS := hS.tail
              replace hS := hS.tail
              replace hS := hS.tail
              exact ⟨rfl, hS⟩
            · replace hq128 := iteF hc178 hq128
              refine W.skip ?_
              replace hS := hS.tail
              subst hK132
              exact ⟨Option.some.inj hq128, hE.pick _ ⟨rfl, rfl, rfl, rfl, rfl, rfl, rfl, rfl, rfl, trivial⟩, hS⟩
        · replace hq128 := iteF hc133 hq128
          refine W.skip ?_
          subst hK132
          exact ⟨Option.some.inj hq128, hE.pick _ ⟨rfl, rfl, rfl, rfl, rfl, rfl, rfl, rfl, rfl, trivial⟩, hS⟩
      · clear hE hS a w; rintro a w ⟨rfl, hE, hS⟩
        dsimp only at hq93
        refine W.region ?_
        refine WL.vS hS hE (runs_plain rfl) (Gives.inc hE rfl (by have := h1.small; omega)) rfl ?_; clear hE a; intro a hE
        refine WL.vS hS hE (runs_plain rfl) (Gives.p hE rfl) rfl ?_; clear hE a; intro a hE
        refine WL.nil ?_
        subst hK105
        exact ⟨rest97.length, Nat.lt_succ_self _, rest97, k95 + 1, (w64 (q104 + (w64 (x110.Arr - x119.Dep)))), rfl, hd98, hq93, hE.pick _ ⟨rfl, rfl, rfl, rfl, rfl, rfl, rfl, rfl, rfl, trivial⟩, hS⟩
  · clear hE hS a w; rintro a w ⟨q104, rfl, hE, hS⟩
    dsimp only at hr
    refine W.seq ?_
    refine W.block ?_
    refine W.seq ?_
    refine W.region ?_
    refine WL.vS hS hE (runs_plain rfl) (Gives.fld hE rfl fl84_3) rfl ?_; clear hE a; intro a hE
    refine WL.vS hS hE (runs_plain rfl) (Gives.loadB hE 0 rfl rfl rfl ty3) rfl ?_; clear hE a; intro a hE
    refine WL.vS hS hE (runs_plain rfl) (Gives.fld hE rfl fl84_2) rfl ?_; clear hE a; intro a hE
    refine WL.vS hS hE (runs_plain rfl) (Gives.loadB hE 1 rfl rfl rfl ty3) rfl ?_; clear hE a; intro a hE
    refine WL.vS hS hE (runs_plain rfl) (Gives.p hE rfl) rfl ?_; clear hE a; intro a hE
    refine WL.vS hS hE (runs_plain rfl) (Gives.fld hE rfl fl35_1) rfl ?_; clear hE a; intro a hE
    refine WL.vS hS hE (runs_plain rfl) (Gives.loadB hE 2 rfl rfl rfl ty3) rfl ?_; clear hE a; intro a hE
    refine WL.vS hS hE (runs_plain rfl) (Gives.p hE rfl) rfl ?_; clear hE a; intro a hE
    refine WL.vS hS hE (runs_plain rfl) (Gives.p hE rfl) rfl ?_; clear hE a; intro a hE
    refine WL.nil ?_
    refine W.cond hE rfl (fun hc179 => ?_) (fun hc179 => ?_)
    · replace hr := iteT hc179 hr
      refine W.seq ?_
      refine W.region ?_
      refine WL.vS hS hE (runs_plain rfl) (Gives.p hE rfl) rfl ?_; clear hE a; intro a hE
      refine WL.nil ?_
      refine W.ret ?_
      refine finG (fn := Try.f54) (rs := [.tmp 6]) (vs := [_]) hE rfl ⟨rfl, trivial⟩ ?_
      obtain rfl := Option.some.inj hr
      replace hS := hS.tail
      replace hS := hS.tail
      replace hS := hS.tail
      exact ⟨rfl, hS⟩
    · replace hr := iteF hc179 hr
      refine W.seq ?_
      refine W.region ?_
      refine WL.vS hS hE (runs_plain rfl) (Gives.p hE rfl) rfl ?_; clear hE a; intro a hE
      refine WL.vS hS hE (runs_plain rfl) (Gives.fld hE rfl fl35_2) rfl ?_; clear hE a; intro a hE
      refine WL.vS hS hE (runs_plain rfl) (Gives.loadB hE 2 rfl rfl rfl ty3) rfl ?_; clear hE a; intro a hE
      refine WL.vS hS hE (runs_plain rfl) (Gives.p hE rfl) rfl ?_; clear hE a; intro a hE
      refine WL.vS hS hE (runs_plain rfl) (Gives.p hE rfl) rfl ?_; clear hE a; intro a hE
      refine WL.nil ?_
      refine W.cond hE rfl (fun hc180 => ?_) (fun hc180 => ?_)
      · replace hr := iteT hc180 hr
        refine W.seq ?_
        refine W.region ?_
        refine WL.vS hS hE (runs_plain rfl) (Gives.p hE rfl) rfl ?_; clear hE a; intro a hE
        refine WL.nil ?_
        refine W.ret ?_
        refine finG (fn := Try.f54) (rs := [.tmp 6]) (vs := [_]) hE rfl ⟨rfl, trivial⟩ ?_
        obtain rfl := Option.some.inj hr
        replace hS := hS.tail
        replace hS := hS.tail
        replace hS := hS.tail
        exact ⟨rfl, hS⟩
      · replace hr := iteF hc180 hr
        refine W.skip ?_
        refine W.seq ?_
        refine W.region ?_
        refine WL.vS hS hE (runs_plain rfl) (Gives.fld hE rfl fl84_2) rfl ?_; clear hE a; intro a hE
        refine WL.vS hS hE (runs_plain rfl) (Gives.loadB hE 1 rfl rfl rfl ty3) rfl ?_; clear hE a; intro a hE
        refine WL.vS hS hE (runs_plain rfl) (Gives.p hE rfl) rfl ?_; clear hE a; intro a hE
        refine WL.nil ?_
        refine W.seq ?_
        refine W.seq ?_
        refine W.region ?_
        refine WL.vS hS hE (runs_plain rfl) (Gives.p hE rfl) rfl ?_; clear hE a; intro a hE
        refine WL.vS hS hE (runs_plain rfl) (Gives.len hE rfl sl22) rfl ?_; clear hE a; intro a hE
        refine WL.vS hS hE (runs_plain rfl) (Gives.p hE rfl) rfl ?_; clear hE a; intro a hE
        refine WL.nil ?_
        obtain ⟨q182, hq181, hr⟩ := bindS hr
        refine W.cut (fun a w => ∃ (q192 : Int), (.next q192) = q182 ∧ Rep a 168 [(7, .pointer (some ⟨b89, 0, none⟩)), (8, .pointer (some ⟨b90, 0, none⟩))] ∧ St w s (pt b90 (.cells (FleetTask.cells x80).toArray 84 (0, 0)) :: pt b89 (.cells (FleetTask.cells x62).toArray 84 (0, 0)) :: pt b51 (.cells (FleetLimits.cells x2).toArray 35 (0, 0)) :: R)) ?_ ?_
        · refine W.block ?_
          refine W.loop (fun m a w => ∃ (rest185 : List Int) (k183 : Nat), ∃ (q192 : Int), rest185.length = m ∧ x1.drop k183 = rest185 ∧ Fishref2Code.loop2 x0 x1 x2 rest185 k183 q192 = some q182 ∧ Rep a 168 [(0, .slice a0 x0.length c0), (1, .slice a1 x1.length c1), (5, .pointer (some ⟨b51, 0, none⟩)), (7, .pointer (some ⟨b89, 0, none⟩)), (8, .pointer (some ⟨b90, 0, none⟩)), (13, .int .i64 q192), (100, .slice a1 x1.length c1), (101, .int .i64 ((x1).length : Int)), (102, .int .i64 ((k183 : Nat) : Int))] ∧ St w s (pt b90 (.cells (FleetTask.cells x80).toArray 84 (0, 0)) :: pt b89 (.cells (FleetTask.cells x62).toArray 84 (0, 0)) :: pt b51 (.cells (FleetLimits.cells x2).toArray 35 (0, 0)) :: R)) (m := x1.length) ⟨x1, 0, x62.Dep, rfl, rfl, hq181, hE.pick _ ⟨rfl, rfl, rfl, rfl, rfl, rfl, rfl, rfl, rfl, trivial⟩, hS⟩ ?_
          clear hE hS a w hq181; rintro m189 a w ⟨rest185, k183, q192, rfl, hd186, hq181, hE, hS⟩
          refine W.gen fun K193 hK193 => ?_
          rcases rest185 with _ | ⟨x184, rest185⟩
          · have hlt187 := drop_nil hd186
            refine W.seq ?_
            refine W.region ?_
            refine WL.vS hS hE (runs_plain rfl) (Gives.p hE rfl) rfl ?_; clear hE a; intro a hE
            refine WL.nil ?_
            refine W.seq ?_
            refine W.condF hE rfl (decide_eq_false (by omega)) ?_
            subst hK193
            refine W.exit rfl ?_
            exact ⟨q192, Option.some.inj hq181, hE.pick _ ⟨rfl, rfl, trivial⟩, hS⟩
          · obtain ⟨hlt187, hx188, hd186⟩ := drop_cons hd186
            rw [Fishref2Code.loop2] at hq181
            refine W.seq ?_
            refine W.region ?_
            refine WL.vS hS hE (runs_plain rfl) (Gives.p hE rfl) rfl ?_; clear hE a; intro a hE
            refine WL.nil ?_
            refine W.seq ?_
            refine W.condT hE rfl (decide_eq_true (by omega)) ?_
            refine W.skip ?_
            refine W.seq ?_
            refine W.block ?_
            refine W.seq ?_
            refine W.region ?_
            refine WL.vS hS hE (runs_plain rfl) (Gives.p hE rfl) rfl ?_; clear hE a; intro a hE
            obtain ⟨cs194, hl195, hR196, hat197⟩ := h1.at hx188
            subst hR196
            refine WL.vS hS hE (runs_plain rfl) (Gives.idx hE k183 rfl rfl sl22 rfl hlt187 (h1.aok hlt187)) rfl ?_; clear hE a; intro a hE
            refine WL.vS hS hE (runs_plain rfl) (Gives.load1 hE rfl (fun w h => hat197 w _ h) ty3) rfl ?_; clear hE a; intro a hE
            refine WL.vS hS hE (runs_plain rfl) (Gives.p hE rfl) rfl ?_; clear hE a; intro a hE
            refine WL.vS hS hE (runs_plain rfl) (Gives.p hE rfl) rfl ?_; clear hE a; intro a hE
            refine WL.nil ?_
            refine W.seq ?_
            obtain ⟨q199, hq198, hq181⟩ := bindS hq181
            refine W.cut (fun a w => ∃ (q202 : Bool), q202 = q199 ∧ Rep a 168 [(0, .slice a0 x0.length c0), (1, .slice a1 x1.length c1), (5, .pointer (some ⟨b51, 0, none⟩)), (7, .pointer (some ⟨b89, 0, none⟩)), (8, .pointer (some ⟨b90, 0, none⟩)), (13, .int .i64 q192), (14, .int .i64 ((k183 : Nat) : Int)), (15, .int .i64 x184), (16, .bool q202), (100, .slice a1 x1.length c1), (101, .int .i64 ((x1).length : Int)), (102, .int .i64 ((k183 : Nat) : Int))] ∧ St w s (pt b90 (.cells (FleetTask.cells x80).toArray 84 (0, 0)) :: pt b89 (.cells (FleetTask.cells x62).toArray 84 (0, 0)) :: pt b51 (.cells (FleetLimits.cells x2).toArray 35 (0, 0)) :: R)) ?_ ?_
            · refine W.gen fun K203 hK203 => ?_
              refine W.regionQ (C := fun w => St w s (pt b90 (.cells (FleetTask.cells x80).toArray 84 (0, 0)) :: pt b89 (.cells (FleetTask.cells x62).toArray 84 (0, 0)) :: pt b51 (.cells (FleetLimits.cells x2).toArray 35 (0, 0)) :: R)) mixed (by kernel_rfl) hS.drew ?_
              refine QL.v hE (runs_plain rfl) (Gives.p hE rfl) rfl ?_; clear hE a; intro a hE
              refine QL.v hE (runs_plain rfl) (Gives.inc hE rfl (by have := h1.small; omega)) rfl ?_; clear hE a; intro a hE
              refine QL.v hE (runs_plain rfl) (Gives.p hE rfl) rfl ?_; clear hE a; intro a hE
              refine QL.v hE (runs_plain rfl) (Gives.len hE rfl sl22) rfl ?_; clear hE a; intro a hE
              refine QL.v hE (runs_plain rfl) (Gives.p hE rfl) rfl ?_; clear hE a; intro a hE
              refine QL.v hE (runs_plain rfl) (Gives.p hE rfl) rfl ?_; clear hE a; intro a hE
              rcases Bool.eq_false_or_eq_true (decide (((k183 + 1 : Nat) : Int) < ((x1).length : Int))) with hg204 | hg204
              · replace hq198 := iteT hg204 hq198
                refine QL.v hE (runs_if hE rfl rfl rfl hg204) (Gives.p hE rfl) rfl ?_; clear hE a; intro a hE
                refine QL.v hE (runs_if hE rfl rfl rfl hg204) (Gives.p hE rfl) rfl ?_; clear hE a; intro a hE
                refine QL.v hE (runs_if hE rfl rfl rfl hg204) (Gives.p hE rfl) rfl ?_; clear hE a; intro a hE
                refine QL.v hE (runs_if hE rfl rfl rfl hg204) (Gives.inc hE rfl (by have := h1.small; omega)) rfl ?_; clear hE a; intro a hE
                obtain ⟨x205, hx206, hq198⟩ := bindS hq198
                obtain ⟨hi207, hlt208, hy209⟩ := gx_some hx206
                obtain ⟨cs210, hl211, hR212, hat213⟩ := h1.at hy209
                subst hR212
                refine QL.v hE (runs_if hE rfl rfl rfl hg204) (Gives.idx hE (((k183 + 1 : Nat) : Int)).toNat rfl rfl sl22 hi207 hlt208 (h1.aok hlt208)) rfl ?_; clear hE a; intro a hE
                refine QL.v hE (runs_if hE rfl rfl rfl hg204) (Gives.load1 hE rfl (fun w h => hat213 w _ h) ty3) rfl ?_; clear hE a; intro a hE
                obtain ⟨x214, hx215, hq198⟩ := bindS hq198
                obtain ⟨hi216, hlt217, hy218⟩ := gx_some hx215
                obtain ⟨cs219, hl220, hR221, hat222⟩ := h0.at hy218
                subst hR221
                refine QL.v hE (runs_if hE rfl rfl rfl hg204) (Gives.idx hE (x205).toNat rfl rfl sl33 hi216 hlt217 (h0.aok hlt217)) rfl ?_; clear hE a; intro a hE
                refine QL.v hE (runs_if hE rfl rfl rfl hg204) (Gives.fld hE rfl fl84_2) rfl ?_; clear hE a; intro a hE
                refine QL.v hE (runs_if hE rfl rfl rfl hg204) (Gives.load1 hE rfl (fun w h => (hat222 w _ h).one rfl) ty3) rfl ?_; clear hE a; intro a hE
                refine QL.v hE (runs_if hE rfl rfl rfl hg204) (Gives.p hE rfl) rfl ?_; clear hE a; intro a hE
                refine QL.v hE (runs_if hE rfl rfl rfl hg204) (Gives.p hE rfl) rfl ?_; clear hE a; intro a hE
                obtain ⟨x223, hx224, hq198⟩ := bindS hq198
                obtain ⟨hi225, hlt226, hy227⟩ := gx_some hx224
                obtain ⟨cs228, hl229, hR230, hat231⟩ := h0.at hy227
                subst hR230
                refine QL.v hE (runs_if hE rfl rfl rfl hg204) (Gives.idx hE (x184).toNat rfl rfl sl33 hi225 hlt226 (h0.aok hlt226)) rfl ?_; clear hE a; intro a hE
                refine QL.v hE (runs_if hE rfl rfl rfl hg204) (Gives.fld hE rfl fl84_3) rfl ?_; clear hE a; intro a hE
                refine QL.v hE (runs_if hE rfl rfl rfl hg204) (Gives.load1 hE rfl (fun w h => (hat231 w _ h).one rfl) ty3) rfl ?_; clear hE a; intro a hE
                refine QL.v hE (runs_if hE rfl rfl rfl hg204) (Gives.p hE rfl) rfl ?_; clear hE a; intro a hE
                refine QL.v hE (runs_if hE rfl rfl rfl hg204) (Gives.fld hE rfl fl35_4) rfl ?_; clear hE a; intro a hE
                refine QL.v hE (runs_if hE rfl rfl rfl hg204) (Gives.loadB hE 2 rfl rfl rfl ty3) rfl ?_; clear hE a; intro a hE
                refine QL.v hE (runs_if hE rfl rfl rfl hg204) (Gives.p hE rfl) rfl ?_; clear hE a; intro a hE
                refine QL.v hE (runs_plain rfl) (Gives.pickT hE rfl hg204 rfl) rfl ?_; clear hE a; intro a hE
                refine QL.v hE (runs_plain rfl) (Gives.p hE rfl) rfl ?_; clear hE a; intro a hE
                refine QL.nil ?_; clear hS w; intro w hS
                subst hK203
                exact ⟨decide ((w64 (x214.Dep - x223.Arr)) ≥ x2.Break), Option.some.inj hq198, hE.pick _ ⟨rfl, rfl, rfl, rfl, rfl, rfl, rfl, rfl, rfl, rfl, rfl, rfl, trivial⟩, hS⟩
              · replace hq198 := iteF hg204 hq198
                refine QL.no hE (runs_not hE rfl rfl rfl (by rw [hg204]; decide)) rfl ?_; clear hE a; intro a hE
                refine QL.no hE (runs_not hE rfl rfl rfl (by rw [hg204]; decide)) rfl ?_; clear hE a; intro a hE
                refine QL.no hE (runs_not hE rfl rfl rfl (by rw [hg204]; decide)) rfl ?_; clear hE a; intro a hE
                refine QL.no hE (runs_not hE rfl rfl rfl (by rw [hg204]; decide)) rfl ?_; clear hE a; intro a hE
                refine QL.no hE (runs_not hE rfl rfl rfl (by rw [hg204]; decide)) rfl ?_; clear hE a; intro a hE
                refine QL.no hE (runs_not hE rfl rfl rfl (by rw [hg204]; decide)) rfl ?_; clear hE a; intro a hE
                refine QL.no hE (runs_not hE rfl rfl rfl (by rw [hg204]; decide)) rfl ?_; clear hE a; intro a hE
                refine QL.no hE (runs_not hE rfl rfl rfl (by rw [hg204]; decide)) rfl ?_; clear hE a; intro a hE
                refine QL.no hE (runs_not hE rfl rfl rfl (by rw [hg204]; decide)) rfl ?_; clear hE a; intro a hE
                refine QL.no hE (runs_not hE rfl rfl rfl (by rw [hg204]; decide)) rfl ?_; clear hE a; intro a hE
                refine QL.no hE (runs_not hE rfl rfl rfl (by rw [hg204]; decide)) rfl ?_; clear hE a; intro a hE
                refine QL.no hE (runs_not hE rfl rfl rfl (by rw [hg204]; decide)) rfl ?_; clear hE a; intro a hE
                refine QL.no hE (runs_not hE rfl rfl rfl (by rw [hg204]; decide)) rfl ?_; clear hE a; intro a hE
                refine QL.no hE (runs_not hE rfl rfl rfl (by rw [hg204]; decide)) rfl ?_; clear hE a; intro a hE
                refine QL.no hE (runs_not hE rfl rfl rfl (by rw [hg204]; decide)) rfl ?_; clear hE a; intro a hE
                refine QL.no hE (runs_not hE rfl rfl rfl (by rw [hg204]; decide)) rfl ?_; clear hE a; intro a hE
                refine QL.no hE (runs_not hE rfl rfl rfl (by rw [hg204]; decide)) rfl ?_; clear hE a; intro a hE
                refine QL.no hE (runs_not hE rfl rfl rfl (by rw [hg204]; decide)) rfl ?_; clear hE a; intro a hE
                refine QL.v hE (runs_plain rfl) (Gives.pickF hE rfl hg204 rfl) rfl ?_; clear hE a; intro a hE
                refine QL.v hE (runs_plain rfl) (Gives.p hE rfl) rfl ?_; clear hE a; intro a hE
                refine QL.nil ?_; clear hS w; intro w hS
                subst hK203
                exact ⟨false, Option.some.inj hq198, hE.pick _ ⟨rfl, rfl, rfl, rfl, rfl, rfl, rfl, rfl, rfl, rfl, rfl, rfl, trivial⟩, hS⟩
            · clear hE hS a w; rintro a w ⟨q202, rfl, hE, hS⟩
              refine W.seq ?_
              refine W.seq ?_
              obtain ⟨q233, hq232, hq181⟩ := bindS hq181
              refine W.cut (fun a w => ∃ (q236 : Bool), q236 = q233 ∧ Rep a 168 [(0, .slice a0 x0.length c0), (1, .slice a1 x1.length c1), (5, .pointer (some ⟨b51, 0, none⟩)), (7, .pointer (some ⟨b89, 0, none⟩)), (8, .pointer (some ⟨b90, 0, none⟩)), (13, .int .i64 q192), (14, .int .i64 ((k183 : Nat) : Int)), (16, .bool q202), (100, .slice a1 x1.length c1), (101, .int .i64 ((x1).length : Int)), (102, .int .i64 ((k183 : Nat) : Int)), (151, .bool q236)] ∧ St w s (pt b90 (.cells (FleetTask.cells x80).toArray 84 (0, 0)) :: pt b89 (.cells (FleetTask.cells x62).toArray 84 (0, 0)) :: pt b51 (.cells (FleetLimits.cells x2).toArray 35 (0, 0)) :: R)) ?_ ?_
              · refine W.gen fun K237 hK237 => ?_
                refine W.regionQ (C := fun w => St w s (pt b90 (.cells (FleetTask.cells x80).toArray 84 (0, 0)) :: pt b89 (.cells (FleetTask.cells x62).toArray 84 (0, 0)) :: pt b51 (.cells (FleetLimits.cells x2).toArray 35 (0, 0)) :: R)) mixed (by kernel_rfl) hS.drew ?_
                refine QL.v hE (runs_plain rfl) (Gives.p hE rfl) rfl ?_; clear hE a; intro a hE
                refine QL.v hE (runs_plain rfl) (Gives.p hE rfl) rfl ?_; clear hE a; intro a hE
                rcases Bool.eq_false_or_eq_true q202 with hg238 | hg238
                · replace hq232 := iteT hg238 hq232
                  refine QL.no hE (runs_not hE rfl rfl rfl (by rw [hg238]; decide)) rfl ?_; clear hE a; intro a hE
                  refine QL.no hE (runs_not hE rfl rfl rfl (by rw [hg238]; decide)) rfl ?_; clear hE a; intro a hE
                  refine QL.no hE (runs_not hE rfl rfl rfl (by rw [hg238]; decide)) rfl ?_; clear hE a; intro a hE
                  refine QL.no hE (runs_not hE rfl rfl rfl (by rw [hg238]; decide)) rfl ?_; clear hE a; intro a hE
                  refine QL.no hE (runs_not hE rfl rfl rfl (by rw [hg238]; decide)) rfl ?_; clear hE a; intro a hE
                  refine QL.v hE (runs_plain rfl) (Gives.pickT hE rfl hg238 rfl) rfl ?_; clear hE a; intro a hE
                  refine QL.v hE (runs_plain rfl) (Gives.p hE rfl) rfl ?_; clear hE a; intro a hE
                  refine QL.v hE (runs_if hE rfl rfl rfl rfl) (Gives.p hE rfl) rfl ?_; clear hE a; intro a hE
                  refine QL.v hE (runs_if hE rfl rfl rfl rfl) (Gives.p hE rfl) rfl ?_; clear hE a; intro a hE
                  obtain ⟨x239, hx240, hq232⟩ := bindS hq232
                  obtain ⟨hi241, hlt242, hy243⟩ := gx_some hx240
                  obtain ⟨cs244, hl245, hR246, hat247⟩ := h0.at hy243
                  subst hR246
                  refine QL.v hE (runs_if hE rfl rfl rfl rfl) (Gives.idx hE (x184).toNat rfl rfl sl33 hi241 hlt242 (h0.aok hlt242)) rfl ?_; clear hE a; intro a hE
                  refine QL.v hE (runs_if hE rfl rfl rfl rfl) (Gives.fld hE rfl fl84_3) rfl ?_; clear hE a; intro a hE
                  refine QL.v hE (runs_if hE rfl rfl rfl rfl) (Gives.load1 hE rfl (fun w h => (hat247 w _ h).one rfl) ty3) rfl ?_; clear hE a; intro a hE
                  refine QL.v hE (runs_if hE rfl rfl rfl rfl) (Gives.p hE rfl) rfl ?_; clear hE a; intro a hE
                  refine QL.v hE (runs_if hE rfl rfl rfl rfl) (Gives.p hE rfl) rfl ?_; clear hE a; intro a hE
                  refine QL.v hE (runs_if hE rfl rfl rfl rfl) (Gives.fld hE rfl fl35_3) rfl ?_; clear hE a; intro a hE
                  refine QL.v hE (runs_if hE rfl rfl rfl rfl) (Gives.loadB hE 2 rfl rfl rfl ty3) rfl ?_; clear hE a; intro a hE
                  refine QL.v hE (runs_if hE rfl rfl rfl rfl) (Gives.p hE rfl) rfl ?_; clear hE a; intro a hE
                  refine QL.v hE (runs_plain rfl) (Gives.pickT hE rfl rfl rfl) rfl ?_; clear hE a; intro a hE
                  refine QL.nil ?_; clear hS w; intro w hS
                  subst hK237
                  exact ⟨decide ((w64 (x239.Arr - q192)) > x2.After), Option.some.inj hq232, hE.pick _ ⟨rfl, rfl, rfl, rfl, rfl, rfl, rfl, rfl, rfl, rfl, rfl, rfl, trivial⟩, hS⟩
                · replace hq232 := iteF hg238 hq232
                  refine QL.v hE (runs_if hE rfl rfl rfl hg238) (Gives.p hE rfl) rfl ?_; clear hE a; intro a hE
                  refine QL.v hE (runs_if hE rfl rfl rfl hg238) (Gives.inc hE rfl (by have := h1.small; omega)) rfl ?_; clear hE a; intro a hE
                  refine QL.v hE (runs_if hE rfl rfl rfl hg238) (Gives.p hE rfl) rfl ?_; clear hE a; intro a hE
                  refine QL.v hE (runs_if hE rfl rfl rfl hg238) (Gives.len hE rfl sl22) rfl ?_; clear hE a; intro a hE
                  refine QL.v hE (runs_if hE rfl rfl rfl hg238) (Gives.p hE rfl) rfl ?_; clear hE a; intro a hE
                  refine QL.v hE (runs_plain rfl) (Gives.pickF hE rfl hg238 rfl) rfl ?_; clear hE a; intro a hE
                  refine QL.v hE (runs_plain rfl) (Gives.p hE rfl) rfl ?_; clear hE a; intro a hE
                  rcases Bool.eq_false_or_eq_true (((k183 + 1 : Nat) : Int) == ((x1).length : Int)) with hg248 | hg248
                  · replace hq232 := iteT hg248 hq232
                    refine QL.v hE (runs_if hE rfl rfl rfl hg248) (Gives.p hE rfl) rfl ?_; clear hE a; intro a hE
                    refine QL.v hE (runs_if hE rfl rfl rfl hg248) (Gives.p hE rfl) rfl ?_; clear hE a; intro a hE
                    obtain ⟨x249, hx250, hq232⟩ := bindS hq232
                    obtain ⟨hi251, hlt252, hy253⟩ := gx_some hx250
                    obtain ⟨cs254, hl255, hR256, hat257⟩ := h0.at hy253
                    subst hR256
                    refine QL.v hE (runs_if hE rfl rfl rfl hg248) (Gives.idx hE (x184).toNat rfl rfl sl33 hi251 hlt252 (h0.aok hlt252)) rfl ?_; clear hE a; intro a hE
                    refine QL.v hE (runs_if hE rfl rfl rfl hg248) (Gives.fld hE rfl fl84_3) rfl ?_; clear hE a; intro a hE
                    refine QL.v hE (runs_if hE rfl rfl rfl hg248) (Gives.load1 hE rfl (fun w h => (hat257 w _ h).one rfl) ty3) rfl ?_; clear hE a; intro a hE
                    refine QL.v hE (runs_if hE rfl rfl rfl hg248) (Gives.p hE rfl) rfl ?_; clear hE a; intro a hE
                    refine QL.v hE (runs_if hE rfl rfl rfl hg248) (Gives.p hE rfl) rfl ?_; clear hE a; intro a hE
                    refine QL.v hE (runs_if hE rfl rfl rfl hg248) (Gives.fld hE rfl fl35_3) rfl ?_; clear hE a; intro a hE
                    refine QL.v hE (runs_if hE rfl rfl rfl hg248) (Gives.loadB hE 2 rfl rfl rfl ty3) rfl ?_; clear hE a; intro a hE
                    refine QL.v hE (runs_if hE rfl rfl rfl hg248) (Gives.p hE rfl) rfl ?_; clear hE a; intro a hE
                    refine QL.v hE (runs_plain rfl) (Gives.pickT hE rfl hg248 rfl) rfl ?_; clear hE a; intro a hE
                    refine QL.nil ?_; clear hS w; intro w hS
                    subst hK237
                    exact ⟨decide ((w64 (x249.Arr - q192)) > x2.After), Option.some.inj hq232, hE.pick _ ⟨rfl, rfl, rfl, rfl, rfl, rfl, rfl, rfl, rfl, rfl, rfl, rfl, trivial⟩, hS⟩
                  · replace hq232 := iteF hg248 hq232
                    refine QL.no hE (runs_not hE rfl rfl rfl (by rw [hg248]; decide)) rfl ?_; clear hE a; intro a hE
                    refine QL.no hE (runs_not hE rfl rfl rfl (by rw [hg248]; decide)) rfl ?_; clear hE a; intro a hE
                    refine QL.no hE (runs_not hE rfl rfl rfl (by rw [hg248]; decide)) rfl ?_; clear hE a; intro a hE
                    refine QL.no hE (runs_not hE rfl rfl rfl (by rw [hg248]; decide)) rfl ?_; clear hE a; intro a hE
                    refine QL.no hE (runs_not hE rfl rfl rfl (by rw [hg248]; decide)) rfl ?_; clear hE a; intro a hE
                    refine QL.no hE (runs_not hE rfl rfl rfl (by rw [hg248]; decide)) rfl ?_; clear hE a; intro a hE
                    refine QL.no hE (runs_not hE rfl rfl rfl (by rw [hg248]; decide)) rfl ?_; clear hE a; intro a hE
                    refine QL.no hE (runs_not hE rfl rfl rfl (by rw [hg248]; decide)) rfl ?_; clear hE a; intro a hE
                    refine QL.no hE (runs_not hE rfl rfl rfl (by rw [hg248]; decide)) rfl ?_; clear hE a; intro a hE
                    refine QL.no hE (runs_not hE rfl rfl rfl (by rw [hg248]; decide)) rfl ?_; clear hE a; intro a hE
                    refine QL.v hE (runs_plain rfl) (Gives.pickF hE rfl hg248 rfl) rfl ?_; clear hE a; intro a hE
                    refine QL.nil ?_; clear hS w; intro w hS
                    subst hK237
                    exact ⟨false, Option.some.inj hq232, hE.pick _ ⟨rfl, rfl, rfl, rfl, rfl, rfl, rfl, rfl, rfl, rfl, rfl, rfl, trivial⟩, hS⟩
              · clear hE hS a w; rintro a w ⟨q236, rfl, hE, hS⟩
                refine W.cond hE rfl (fun hc258 => ?_) (fun hc258 => ?_)
                · replace hq181 := iteT hc258 hq181
                  refine W.seq ?_
                  refine W.region ?_
                  refine WL.vS hS hE (runs_plain rfl) (Gives.p hE rfl) rfl ?_; clear hE a; intro a hE
                  refine WL.nil ?_
                  refine W.ret ?_
                  subst hK193
                  rw [← Option.some.inj hq181] at hr
                  dsimp only at hr
                  refine finG (fn := Try.f54) (rs := [.tmp 6]) (vs := [_]) hE rfl ⟨rfl, trivial⟩ ?_
                  obtain rfl := Option.some.inj hr
                  replace hS := hS.tail
                  replace hS := hS.tail
                  replace hS := hS.tail
                  exact ⟨rfl, hS⟩
                · replace hq181 := iteF hc258 hq181
                  refine W.skip ?_
                  refine W.seq ?_
                  refine W.region ?_
                  refine WL.vS hS hE (runs_plain rfl) (Gives.p hE rfl) rfl ?_; clear hE a; intro a hE
                  refine WL.nil ?_
                  obtain ⟨q260, hq259, hq181⟩ := bindS hq181
                  refine W.cut (fun a w => ∃ (q263 : Int), q263 = q260 ∧ Rep a 168 [(0, .slice a0 x0.length c0), (1, .slice a1 x1.length c1), (5, .pointer (some ⟨b51, 0, none⟩)), (7, .pointer (some ⟨b89, 0, none⟩)), (8, .pointer (some ⟨b90, 0, none⟩)), (13, .int .i64 q263), (100, .slice a1 x1.length c1), (101, .int .i64 ((x1).length : Int)), (102, .int .i64 ((k183 : Nat) : Int))] ∧ St w s (pt b90 (.cells (FleetTask.cells x80).toArray 84 (0, 0)) :: pt b89 (.cells (FleetTask.cells x62).toArray 84 (0, 0)) :: pt b51 (.cells (FleetLimits.cells x2).toArray 35 (0, 0)) :: R)) ?_ ?_
                  · refine W.gen fun K264 hK264 => ?_
                    refine W.cond hE rfl (fun hc265 => ?_) (fun hc265 => ?_)
                    · replace hq259 := iteT hc265 hq259
                      refine W.region ?_
                      refine WL.vS hS hE (runs_plain rfl) (Gives.p hE rfl) rfl ?_; clear hE a; intro a hE
                      refine WL.vS hS hE (runs_plain rfl) (Gives.p hE rfl) rfl ?_; clear hE a; intro a hE
                      refine WL.vS hS hE (runs_plain rfl) (Gives.p hE rfl) rfl ?_; clear hE a; intro a hE
                      refine WL.vS hS hE (runs_plain rfl) (Gives.inc hE rfl (by have := h1.small; omega)) rfl ?_; clear hE a; intro a hE
                      obtain ⟨x266, hx267, hq259⟩ := bindS hq259
                      obtain ⟨hi268, hlt269, hy270⟩ := gx_some hx267
                      obtain ⟨cs271, hl272, hR273, hat274⟩ := h1.at hy270
                      subst hR273
                      refine WL.vS hS hE (runs_plain rfl) (Gives.idx hE (((k183 + 1 : Nat) : Int)).toNat rfl rfl sl22 hi268 hlt269 (h1.aok hlt269)) rfl ?_; clear hE a; intro a hE
                      refine WL.vS hS hE (runs_plain rfl) (Gives.load1 hE rfl (fun w h => hat274 w _ h) ty3) rfl ?_; clear hE a; intro a hE
                      obtain ⟨x275, hx276, hq259⟩ := bindS hq259
                      obtain ⟨hi277, hlt278, hy279⟩ := gx_some hx276
                      obtain ⟨cs280, hl281, hR282, hat283⟩ := h0.at hy279
                      subst hR282
                      refine WL.vS hS hE (runs_plain rfl) (Gives.idx hE (x266).toNat rfl rfl sl33 hi277 hlt278 (h0.aok hlt278)) rfl ?_; clear hE a; intro a hE
                      refine WL.vS hS hE (runs_plain rfl) (Gives.fld hE rfl fl84_2) rfl ?_; clear hE a; intro a hE
                      refine WL.vS hS hE (runs_plain rfl) (Gives.load1 hE rfl (fun w h => (hat283 w _ h).one rfl) ty3) rfl ?_; clear hE a; intro a hE
                      refine WL.vS hS hE (runs_plain rfl) (Gives.p hE rfl) rfl ?_; clear hE a; intro a hE
                      refine WL.nil ?_
                      subst hK264
                      exact ⟨x275.Dep, Option.some.inj hq259, hE.pick _ ⟨rfl, rfl, rfl, rfl, rfl, rfl, rfl, rfl, rfl, trivial⟩, hS⟩
                    · replace hq259 := iteF hc265 hq259
                      refine W.skip ?_
                      subst hK264
                      exact ⟨q192, Option.some.inj hq259, hE.pick _ ⟨rfl, rfl, rfl, rfl, rfl, rfl, rfl, rfl, rfl, trivial⟩, hS⟩
                  · clear hE hS a w; rintro a w ⟨q263, rfl, hE, hS⟩
                    refine W.region ?_
                    refine WL.vS hS hE (runs_plain rfl) (Gives.inc hE rfl (by have := h1.small; omega)) rfl ?_; clear hE a; intro a hE
                    refine WL.vS hS hE (runs_plain rfl) (Gives.p hE rfl) rfl ?_; clear hE a; intro a hE
                    refine WL.nil ?_
                    subst hK193
                    exact ⟨rest185.length, Nat.lt_succ_self _, rest185, k183 + 1, q263, rfl, hd186, hq181, hE.pick _ ⟨rfl, rfl, rfl, rfl, rfl, rfl, rfl, rfl, rfl, trivial⟩, hS⟩
        · clear hE hS a w; rintro a w ⟨q192, rfl, hE, hS⟩
          dsimp only at hr
          refine W.seq ?_
          refine W.seq ?_
          refine W.region ?_
          refine WL.vS hS hE (runs_plain rfl) (Gives.fld hE rfl fl84_1) rfl ?_; clear hE a; intro a hE
          refine WL.vS hS hE (runs_plain rfl) (Gives.loadB hE 0 rfl rfl rfl ty3) rfl ?_; clear hE a; intro a hE
          refine WL.vS hS hE (runs_plain rfl) (Gives.fld hE rfl fl84_0) rfl ?_; clear hE a; intro a hE
          refine WL.vS hS hE (runs_plain rfl) (Gives.loadB hE 1 rfl rfl rfl ty3) rfl ?_; clear hE a; intro a hE
          refine WL.vS hS hE (runs_plain rfl) (Gives.p hE rfl) rfl ?_; clear hE a; intro a hE
          refine WL.nil ?_
          refine W.cond hE rfl (fun hc284 => ?_) (fun hc284 => ?_)
          · replace hr := iteT hc284 hr
            refine W.seq ?_
            refine W.region ?_
            refine WL.vS hS hE (runs_plain rfl) (Gives.p hE rfl) rfl ?_; clear hE a; intro a hE
            refine WL.nil ?_
            refine W.ret ?_
            refine finG (fn := Try.f54) (rs := [.tmp 6]) (vs := [_]) hE rfl ⟨rfl, trivial⟩ ?_
            obtain rfl := Option.some.inj hr
            replace hS := hS.tail
            replace hS := hS.tail
            replace hS := hS.tail
            exact ⟨rfl, hS⟩
          · replace hr := iteF hc284 hr
            refine W.skip ?_
            refine W.seq ?_
            refine W.region ?_
            refine WL.vS hS hE (runs_plain rfl) (Gives.p hE rfl) rfl ?_; clear hE a; intro a hE
            refine WL.nil ?_
            refine W.ret ?_
            refine finG (fn := Try.f54) (rs := [.tmp 6]) (vs := [_]) hE rfl ⟨rfl, trivial⟩ ?_
            obtain rfl := Option.some.inj hr
            replace hS := hS.tail
            replace hS := hS.tail
            replace hS := hS.tail
            exact ⟨rfl, hS⟩
set_option maxHeartbeats 8000000 in
theorem Fishref2JudgeOf_ok {w : World} {s : Sg} {R : List HP} {x0 : List FleetTask} {a0 : Option Addr} {c0 : Nat} {x1 : List Int} {a1 : Option Addr} {c1 : Nat} {x2 : FleetLimits} (hS : St w s (R)) (h0 : Sl 6 RFleetTask s a0 c0 x0) (h1 : Sl 1 (RI .i64) s a1 c1 x1) {r : Int × Int} (hr : Fishref2JudgeOf x0 x1 x2 = some r) :
    Calls Try.prog 18 [.slice a0 x0.length c0, .slice a1 x1.length c1, .agg (FleetLimits.cells x2).toArray].toArray w (fun e w => e = .returned (.tuple #[.int .i64 r.1, .int .i64 r.2]) ∧ St w s (R)) := by
  refine enter Try.func18 rfl rfl rfl fun a hE => ?_
  rw [Fishref2JudgeOf] at hr
  refine W.seq ?_
  refine W.region ?_
  refine WL.box hE hS (runs_plain rfl) rfl rfl rfl ?_; clear hE hS a w; intro b51 a w hE hS
  refine WL.vS hS hE (runs_plain rfl) (Gives.p hE rfl) rfl ?_; clear hE a; intro a hE
  refine WL.vS hS hE (runs_plain rfl) (Gives.p hE rfl) rfl ?_; clear hE a; intro a hE
  refine WL.nil ?_
  refine W.seq ?_
  refine W.seq ?_
  refine W.region ?_
  refine WL.vS hS hE (runs_plain rfl) (Gives.p hE rfl) rfl ?_; clear hE a; intro a hE
  refine WL.fn hE (Fishref2TasksFault_ok hS h0 rfl) (runs_plain rfl) bd35 rfl rfl ?_
  clear hE hS; rintro e w ⟨rfl, hS⟩; refine ⟨_, rfl, ?_⟩; clear a; intro a hE
  refine WL.vS hS hE (runs_plain rfl) (Gives.p hE rfl) rfl ?_; clear hE a; intro a hE
  refine WL.nil ?_
  refine W.seq ?_
  refine W.region ?_
  refine WL.vS hS hE (runs_plain rfl) (Gives.p hE rfl) rfl ?_; clear hE a; intro a hE
  refine WL.vS hS hE (runs_plain rfl) (Gives.p hE rfl) rfl ?_; clear hE a; intro a hE
  refine WL.nil ?_
  refine W.cond hE rfl (fun hc52 => ?_) (fun hc52 => ?_)
  · replace hr := iteT hc52 hr
    refine W.seq ?_
    refine W.region ?_
    refine WL.vS hS hE (runs_plain rfl) (Gives.p hE rfl) rfl ?_; clear hE a; intro a hE
    refine WL.vS hS hE (runs_plain rfl) (Gives.p hE rfl) rfl ?_; clear hE a; intro a hE
    refine WL.vS hS hE (runs_plain rfl) (Gives.p hE rfl) rfl ?_; clear hE a; intro a hE
    refine WL.nil ?_
    refine W.ret ?_
    refine finG (fn := Try.f18) (rs := [.tmp 6, .tmp 7]) (vs := [_, _]) hE rfl ⟨rfl, rfl, trivial⟩ ?_
    obtain rfl := Option.some.inj hr
    replace hS := hS.tail
    exact ⟨rfl, hS⟩
  · replace hr := iteF hc52 hr
    refine W.skip ?_
    refine W.seq ?_
    refine W.seq ?_
    refine W.region ?_
    refine WL.vS hS hE (runs_plain rfl) (Gives.loadBA hE 0 rfl rfl ty35) rfl ?_; clear hE a; intro a hE
    refine WL.fn hE (Fishref2LimitsFault_ok hS  rfl) (runs_plain rfl) bd37 rfl rfl ?_
    clear hE hS; rintro e w ⟨rfl, hS⟩; refine ⟨_, rfl, ?_⟩; clear a; intro a hE
    refine WL.vS hS hE (runs_plain rfl) (Gives.p hE rfl) rfl ?_; clear hE a; intro a hE
    refine WL.nil ?_
    refine W.seq ?_
    refine W.region ?_
    refine WL.vS hS hE (runs_plain rfl) (Gives.p hE rfl) rfl ?_; clear hE a; intro a hE
    refine WL.vS hS hE (runs_plain rfl) (Gives.p hE rfl) rfl ?_; clear hE a; intro a hE
    refine WL.nil ?_
    refine W.cond hE rfl (fun hc53 => ?_) (fun hc53 => ?_)
    · replace hr := iteT hc53 hr
      refine W.seq ?_
      refine W.region ?_
      refine WL.vS hS hE (runs_plain rfl) (Gives.p hE rfl) rfl ?_; clear hE a; intro a hE
      refine WL.vS hS hE (runs_plain rfl) (Gives.p hE rfl) rfl ?_; clear hE a; intro a hE
      refine WL.vS hS hE (runs_plain rfl) (Gives.p hE rfl) rfl ?_; clear hE a; intro a hE
      refine WL.nil ?_
      refine W.ret ?_
      refine finG (fn := Try.f18) (rs := [.tmp 6, .tmp 7]) (vs := [_, _]) hE rfl ⟨rfl, rfl, trivial⟩ ?_
      obtain rfl := Option.some.inj hr
      replace hS := hS.tail
      exact ⟨rfl, hS⟩
    · replace hr := iteF hc53 hr
      refine W.skip ?_
      refine W.seq ?_
      refine W.seq ?_
      refine W.region ?_
      refine WL.vS hS hE (runs_plain rfl) (Gives.p hE rfl) rfl ?_; clear hE a; intro a hE
      refine WL.vS hS hE (runs_plain rfl) (Gives.len hE rfl sl22) rfl ?_; clear hE a; intro a hE
      refine WL.vS hS hE (runs_plain rfl) (Gives.p hE rfl) rfl ?_; clear hE a; intro a hE
      refine WL.nil ?_
      refine W.cond hE rfl (fun hc54 => ?_) (fun hc54 => ?_)
      · replace hr := iteT hc54 hr
        refine W.seq ?_
        refine W.region ?_
        refine WL.vS hS hE (runs_plain rfl) (Gives.p hE rfl) rfl ?_; clear hE a; intro a hE
        refine WL.vS hS hE (runs_plain rfl) (Gives.p hE rfl) rfl ?_; clear hE a; intro a hE
        refine WL.nil ?_
        refine W.ret ?_
        refine finG (fn := Try.f18) (rs := [.tmp 6, .tmp 7]) (vs := [_, _]) hE rfl ⟨rfl, rfl, trivial⟩ ?_
        obtain rfl := Option.some.inj hr
        replace hS := hS.tail
        exact ⟨rfl, hS⟩
      · replace hr := iteF hc54 hr
        refine W.skip ?_
        refine W.seq ?_
        refine W.seq ?_
        refine W.region ?_
        refine WL.vS hS hE (runs_plain rfl) (Gives.p hE rfl) rfl ?_; clear hE a; intro a hE
        refine WL.vS hS hE (runs_plain rfl) (Gives.len hE rfl sl22) rfl ?_; clear hE a; intro a hE
        refine WL.vS hS hE (runs_plain rfl) (Gives.p hE rfl) rfl ?_; clear hE a; intro a hE
        refine WL.nil ?_
        obtain ⟨q56, hq55, hr⟩ := bindS hr
        refine W.cut (fun a w => (.next ()) = q56 ∧ Rep a 50 [(0, .slice a0 x0.length c0), (1, .slice a1 x1.length c1), (5, .pointer (some ⟨b51, 0, none⟩))] ∧ St w s (pt b51 (.cells (FleetLimits.cells x2).toArray 35 (0, 0)) :: R)) ?_ ?_
        · refine W.block ?_
          refine W.loop (fun m a w => ∃ (rest59 : List Int) (k57 : Nat), rest59.length = m ∧ x1.drop k57 = rest59 ∧ Fishref2JudgeOf.loop1 x0 x1 rest59 k57 = some q56 ∧ Rep a 50 [(0, .slice a0 x0.length c0), (1, .slice a1 x1.length c1), (5, .pointer (some ⟨b51, 0, none⟩)), (25, .slice a1 x1.length c1), (26, .int .i64 ((x1).length : Int)), (27, .int .i64 ((k57 : Nat) : Int))] ∧ St w s (pt b51 (.cells (FleetLimits.cells x2).toArray 35 (0, 0)) :: R)) (m := x1.length) ⟨x1, 0, rfl, rfl, hq55, hE.pick _ ⟨rfl, rfl, rfl, rfl, rfl, rfl, trivial⟩, hS⟩ ?_
          clear hE hS a w hq55; rintro m63 a w ⟨rest59, k57, rfl, hd60, hq55, hE, hS⟩
          refine W.gen fun K66 hK66 => ?_
          rcases rest59 with _ | ⟨x58, rest59⟩
          · have hlt61 := drop_nil hd60
            refine W.seq ?_
            refine W.region ?_
            refine WL.vS hS hE (runs_plain rfl) (Gives.p hE rfl) rfl ?_; clear hE a; intro a hE
            refine WL.nil ?_
            refine W.seq ?_
            refine W.condF hE rfl (decide_eq_false (by omega)) ?_
            subst hK66
            refine W.exit rfl ?_
            exact ⟨Option.some.inj hq55, hE.pick _ ⟨rfl, rfl, rfl, trivial⟩, hS⟩
          · obtain ⟨hlt61, hx62, hd60⟩ := drop_cons hd60
            rw [Fishref2JudgeOf.loop1] at hq55
            refine W.seq ?_
            refine W.region ?_
            refine WL.vS hS hE (runs_plain rfl) (Gives.p hE rfl) rfl ?_; clear hE a; intro a hE
            refine WL.nil ?_
            refine W.seq ?_
            refine W.condT hE rfl (decide_eq_true (by omega)) ?_
            refine W.skip ?_
            refine W.seq ?_
            refine W.block ?_
            refine W.seq ?_
            refine W.region ?_
            refine WL.vS hS hE (runs_plain rfl) (Gives.p hE rfl) rfl ?_; clear hE a; intro a hE
            obtain ⟨cs67, hl68, hR69, hat70⟩ := h1.at hx62
            subst hR69
            refine WL.vS hS hE (runs_plain rfl) (Gives.idx hE k57 rfl rfl sl22 rfl hlt61 (h1.aok hlt61)) rfl ?_; clear hE a; intro a hE
            refine WL.vS hS hE (runs_plain rfl) (Gives.load1 hE rfl (fun w h => hat70 w _ h) ty3) rfl ?_; clear hE a; intro a hE
            refine WL.vS hS hE (runs_plain rfl) (Gives.p hE rfl) rfl ?_; clear hE a; intro a hE
            refine WL.vS hS hE (runs_plain rfl) (Gives.p hE rfl) rfl ?_; clear hE a; intro a hE
            refine WL.nil ?_
            refine W.seq ?_
            refine W.seq ?_
            obtain ⟨q72, hq71, hq55⟩ := bndS hq55
            refine W.cut (fun a w => ∃ (q75 : Bool), q75 = q72 ∧ Rep a 50 [(0, .slice a0 x0.length c0), (1, .slice a1 x1.length c1), (5, .pointer (some ⟨b51, 0, none⟩)), (10, .int .i64 ((k57 : Nat) : Int)), (11, .int .i64 x58), (25, .slice a1 x1.length c1), (26, .int .i64 ((x1).length : Int)), (27, .int .i64 ((k57 : Nat) : Int)), (39, .bool q75)] ∧ St w s (pt b51 (.cells (FleetLimits.cells x2).toArray 35 (0, 0)) :: R)) ?_ ?_
            · refine W.gen fun K76 hK76 => ?_
              refine W.region ?_
              refine WL.vS hS hE (runs_plain rfl) (Gives.p hE rfl) rfl ?_; clear hE a; intro a hE
              refine WL.vS hS hE (runs_plain rfl) (Gives.p hE rfl) rfl ?_; clear hE a; intro a hE
              refine WL.vS hS hE (runs_plain rfl) (Gives.p hE rfl) rfl ?_; clear hE a; intro a hE
              rcases Bool.eq_false_or_eq_true (decide (x58 < 0)) with hg77 | hg77
              · replace hq71 := iteT hg77 hq71
                refine WL.no hE (runs_not hE rfl rfl rfl (by rw [hg77]; decide)) rfl ?_; clear hE a; intro a hE
                refine WL.no hE (runs_not hE rfl rfl rfl (by rw [hg77]; decide)) rfl ?_; clear hE a; intro a hE
                refine WL.no hE (runs_not hE rfl rfl rfl (by rw [hg77]; decide)) rfl ?_; clear hE a; intro a hE
                refine WL.no hE (runs_not hE rfl rfl rfl (by rw [hg77]; decide)) rfl ?_; clear hE a; intro a hE
                refine WL.vS hS hE (runs_plain rfl) (Gives.pickT hE rfl hg77 rfl) rfl ?_; clear hE a; intro a hE
                refine WL.nil ?_
                subst hK76
                exact ⟨true, hq71, hE.pick _ ⟨rfl, rfl, rfl, rfl, rfl, rfl, rfl, rfl, rfl, trivial⟩, hS⟩
              · replace hq71 := iteF hg77 hq71
                refine WL.vS hS hE (runs_if hE rfl rfl rfl hg77) (Gives.p hE rfl) rfl ?_; clear hE a; intro a hE
                refine WL.vS hS hE (runs_if hE rfl rfl rfl hg77) (Gives.p hE rfl) rfl ?_; clear hE a; intro a hE
                refine WL.vS hS hE (runs_if hE rfl rfl rfl hg77) (Gives.len hE rfl sl33) rfl ?_; clear hE a; intro a hE
                refine WL.vS hS hE (runs_if hE rfl rfl rfl hg77) (Gives.p hE rfl) rfl ?_; clear hE a; intro a hE
                refine WL.vS hS hE (runs_plain rfl) (Gives.pickF hE rfl hg77 rfl) rfl ?_; clear hE a; intro a hE
                refine WL.nil ?_
                subst hK76
                exact ⟨decide (x58 ≥ ((x0).length : Int)), hq71, hE.pick _ ⟨rfl, rfl, rfl, rfl, rfl, rfl, rfl, rfl, rfl, trivial⟩, hS⟩
            · clear hE hS a w; rintro a w ⟨q75, rfl, hE, hS⟩
              refine W.cond hE rfl (fun hc78 => ?_) (fun hc78 => ?_)
              · replace hq55 := iteT hc78 hq55
                refine W.seq ?_
                refine W.region ?_
                refine WL.vS hS hE (runs_plain rfl) (Gives.p hE rfl) rfl ?_; clear hE a; intro a hE
                refine WL.vS hS hE (runs_plain rfl) (Gives.p hE rfl) rfl ?_; clear hE a; intro a hE
                refine WL.nil ?_
                refine W.ret ?_
                subst hK66
                rw [← Option.some.inj hq55] at hr
                dsimp only at hr
                refine finG (fn := Try.f18) (rs := [.tmp 6, .tmp 7]) (vs := [_, _]) hE rfl ⟨rfl, rfl, trivial⟩ ?_
                obtain rfl := Option.some.inj hr
                replace hS := hS.tail
                exact ⟨rfl, hS⟩
              · replace hq55 := iteF hc78 hq55
                refine W.skip ?_
                refine W.seq ?_
                refine W.region ?_
                refine WL.vS hS hE (runs_plain rfl) (Gives.p hE rfl) rfl ?_; clear hE a; intro a hE
                refine WL.vS hS hE (runs_plain rfl) (Gives.p hE rfl) rfl ?_; clear hE a; intro a hE
                obtain ⟨x79, hx80, hq55⟩ := bindS hq55
                obtain ⟨a81, c82, heq83, h84⟩ := h1.cut hx80
                obtain ⟨h85, h86, h87, _⟩ := cutl_some hx80
                refine WL.vS hS hE (runs_plain rfl) (Gives.slH hE sl22 rfl rfl (by omega) (by have := h1.len; omega) heq83) rfl ?_; clear hE a; intro a hE
                refine WL.vS hS hE (runs_plain rfl) (Gives.p hE rfl) rfl ?_; clear hE a; intro a hE
                refine WL.fn hE (SlicesContainsLint_ok hS h84 rfl) (runs_plain rfl) bd50 rfl rfl ?_
                clear hE hS; rintro e w ⟨rfl, hS⟩; refine ⟨_, rfl, ?_⟩; clear a; intro a hE
                refine WL.nil ?_
                refine W.cond hE rfl (fun hc88 => ?_) (fun hc88 => ?_)
                · replace hq55 := iteT hc88 hq55
                  refine W.seq ?_
                  refine W.region ?_
                  refine WL.vS hS hE (runs_plain rfl) (Gives.p hE rfl) rfl ?_; clear hE a; intro a hE
                  refine WL.vS hS hE (runs_plain rfl) (Gives.p hE rfl) rfl ?_; clear hE a; intro a hE
                  refine WL.nil ?_
                  refine W.ret ?_
                  subst hK66
                  rw [← Option.some.inj hq55] at hr
                  dsimp only at hr
                  refine finG (fn := Try.f18) (rs := [.tmp 6, .tmp 7]) (vs := [_, _]) hE rfl ⟨rfl, rfl, trivial⟩ ?_
                  obtain rfl := Option.some.inj hr
                  replace hS := hS.tail
                  exact ⟨rfl, hS⟩
                · replace hq55 := iteF hc88 hq55
                  refine W.skip ?_
                  refine W.region ?_
                  refine WL.vS hS hE (runs_plain rfl) (Gives.inc hE rfl (by have := h1.small; omega)) rfl ?_; clear hE a; intro a hE
                  refine WL.vS hS hE (runs_plain rfl) (Gives.p hE rfl) rfl ?_; clear hE a; intro a hE
                  refine WL.nil ?_
                  subst hK66
                  exact ⟨rest59.length, Nat.lt_succ_self _, rest59, k57 + 1, rfl, hd60, hq55, hE.pick _ ⟨rfl, rfl, rfl, rfl, rfl, rfl, trivial⟩, hS⟩
        · clear hE hS a w; rintro a w ⟨rfl, hE, hS⟩
          dsimp only at hr
          refine W.seq ?_
          refine W.region ?_
          refine WL.vS hS hE (runs_plain rfl) (Gives.p hE rfl) rfl ?_; clear hE a; intro a hE
          refine WL.vS hS hE (runs_plain rfl) (Gives.p hE rfl) rfl ?_; clear hE a; intro a hE
          refine WL.vS hS hE (runs_plain rfl) (Gives.loadBA hE 0 rfl rfl ty35) rfl ?_; clear hE a; intro a hE
          obtain ⟨q89, hq90, hr⟩ := bindS hr
          refine WL.fn hE (Fishref2Code_ok hS h0 h1 hq90) (runs_plain rfl) bd54 rfl rfl ?_
          clear hE hS; rintro e w ⟨rfl, hS⟩; refine ⟨_, rfl, ?_⟩; clear a; intro a hE
          refine WL.vS hS hE (runs_plain rfl) (Gives.p hE rfl) rfl ?_; clear hE a; intro a hE
          refine WL.vS hS hE (runs_plain rfl) (Gives.p hE rfl) rfl ?_; clear hE a; intro a hE
          refine WL.nil ?_
          refine W.ret ?_
          refine finG (fn := Try.f18) (rs := [.tmp 6, .tmp 7]) (vs := [_, _]) hE rfl ⟨rfl, rfl, trivial⟩ ?_
          obtain rfl := Option.some.inj hr
          replace hS := hS.tail
          exact ⟨rfl, hS⟩
set_option maxHeartbeats 8000000 in
theorem Fishlaw2crews_ok {w : World} {s : Sg} {R : List HP}  (hS : St w s (R))  {r : Bool} (hr : Fishlaw2crews = some r) :
    Calls Try.prog 19 [].toArray w (fun e w => e = .returned (.bool r) ∧ St w s (R)) := by
  refine enter Try.func19 rfl rfl rfl fun a hE => ?_
  rw [Fishlaw2crews] at hr
  refine W.seq ?_
  refine W.region ?_
  refine WL.vS hS hE (runs_plain rfl) (Gives.p hE rfl) rfl ?_; clear hE a; intro a hE
  refine WL.nil ?_
  refine W.seq ?_
  refine W.region ?_
  refine WL.vS hS hE (runs_plain rfl) (Gives.build hE (vs := [(0, .int .i64 0), (1, .int .i64 1), (2, .int .i64 0), (3, .int .i64 100), (5, .int .i64 1)]) [.int .i64 0, .int .i64 1, .int .i64 0, .int .i64 100, .int .i64 0, .int .i64 1] rfl (by kernel_rfl)) rfl ?_; clear hE a; intro a hE
  refine WL.lit hE hS (e := 84) (es := 6) (vs := [(0, .agg [.int .i64 0, .int .i64 1, .int .i64 0, .int .i64 100, .int .i64 0, .int .i64 1].toArray)]) (cs := [.int .i64 0, .int .i64 1, .int .i64 0, .int .i64 100, .int .i64 0, .int .i64 1]) (runs_plain rfl) rfl (by kernel_rfl) rfl ?_; clear hE hS a w; intro b51 a w hE hS
  replace hS := hS.ptVec (es := 6) (m := 1) rfl (by decide)
  have h53 : Ev 6 RFleetTask s [.int .i64 0, .int .i64 1, .int .i64 0, .int .i64 100, .int .i64 0, .int .i64 1] [(FleetTask.mk 0 1 0 100 0 1)] := (Ev.cons (c1 := [.int .i64 0, .int .i64 1, .int .i64 0, .int .i64 100, .int .i64 0, .int .i64 1]) rfl rfl (Ev.nil))
  have hF := hS.fixD RFleetTask.mono 0 rfl h53 (rfl); clear hS; obtain ⟨s54, hle55, hS, h56⟩ := hF
  refine WL.vS hS hE (runs_plain rfl) (Gives.p hE rfl) rfl ?_; clear hE a; intro a hE
  refine WL.nil ?_
  refine W.seq ?_
  refine W.region ?_
  refine WL.vS hS hE (runs_plain rfl) (Gives.p hE rfl) rfl ?_; clear hE a; intro a hE
  refine WL.lit hE hS (e := 3) (es := 1) (vs := [(0, .int .i64 0)]) (cs := [.int .i64 0]) (runs_plain rfl) rfl (by kernel_rfl) rfl ?_; clear hE hS a w; intro b57 a w hE hS
  replace hS := hS.ptVec (es := 1) (m := 1) rfl (by decide)
  have h59 : Ev 1 (RI .i64) s54 [.int .i64 0] [0] := (Ev.cons (c1 := [.int .i64 0]) rfl rfl (Ev.nil))
  have hF := hS.fixD RI.mono 0 rfl h59 (rfl); clear hS; obtain ⟨s60, hle61, hS, h62⟩ := hF
  replace h56 := Sl.mono RFleetTask.mono hle61 h56
  refine WL.vS hS hE (runs_plain rfl) (Gives.build hE (vs := [(1, .int .i64 100), (2, .int .i64 100), (3, .int .i64 100), (6, .int .i64 1)]) [.int .i64 0, .int .i64 100, .int .i64 100, .int .i64 100, .int .i64 0, .int .i64 0, .int .i64 1] rfl (by kernel_rfl)) rfl ?_; clear hE a; intro a hE
  obtain ⟨q63, hq64, hr⟩ := bindS hr
  refine WL.fn hE (FleetJudge_ok hS h56 h62 hq64) (runs_plain rfl) bd17 rfl rfl ?_
  clear hE hS; rintro e w ⟨rfl, hS⟩; refine ⟨_, rfl, ?_⟩; clear a; intro a hE
  refine WL.vS hS hE (runs_plain rfl) (Gives.p hE rfl) rfl ?_; clear hE a; intro a hE
  refine WL.vS hS hE (runs_plain rfl) (Gives.p hE rfl) rfl ?_; clear hE a; intro a hE
  refine WL.vS hS hE (runs_plain rfl) (Gives.p hE rfl) rfl ?_; clear hE a; intro a hE
  refine WL.vS hS hE (runs_plain rfl) (Gives.p hE rfl) rfl ?_; clear hE a; intro a hE
  refine WL.vS hS hE (runs_plain rfl) (Gives.p hE rfl) rfl ?_; clear hE a; intro a hE
  refine WL.nil ?_
  refine W.seq ?_
  obtain ⟨q66, hq65, hr⟩ := bndS hr
  refine W.cut (fun a w => ∃ (q69 : Bool), q69 = q66 ∧ Rep a 19 [(0, .bool q69)] ∧ St w s60 (R)) ?_ ?_
  · refine W.gen fun K70 hK70 => ?_
    refine W.region ?_
    refine WL.vS hS hE (runs_plain rfl) (Gives.p hE rfl) rfl ?_; clear hE a; intro a hE
    refine WL.vS hS hE (runs_plain rfl) (Gives.p hE rfl) rfl ?_; clear hE a; intro a hE
    refine WL.vS hS hE (runs_plain rfl) (Gives.p hE rfl) rfl ?_; clear hE a; intro a hE
    rcases Bool.eq_false_or_eq_true (q63.2 == 0) with hg71 | hg71
    · replace hq65 := iteT hg71 hq65
      refine WL.vS hS hE (runs_if hE rfl rfl rfl hg71) (Gives.p hE rfl) rfl ?_; clear hE a; intro a hE
      refine WL.vS hS hE (runs_if hE rfl rfl rfl hg71) (Gives.p hE rfl) rfl ?_; clear hE a; intro a hE
      refine WL.vS hS hE (runs_plain rfl) (Gives.pickT hE rfl hg71 rfl) rfl ?_; clear hE a; intro a hE
      refine WL.vS hS hE (runs_plain rfl) (Gives.p hE rfl) rfl ?_; clear hE a; intro a hE
      refine WL.nil ?_
      subst hK70
      exact ⟨(q63.1 == 5), hq65, hE.pick _ ⟨rfl, trivial⟩, hS⟩
    · replace hq65 := iteF hg71 hq65
      refine WL.no hE (runs_not hE rfl rfl rfl (by rw [hg71]; decide)) rfl ?_; clear hE a; intro a hE
      refine WL.no hE (runs_not hE rfl rfl rfl (by rw [hg71]; decide)) rfl ?_; clear hE a; intro a hE
      refine WL.vS hS hE (runs_plain rfl) (Gives.pickF hE rfl hg71 rfl) rfl ?_; clear hE a; intro a hE
      refine WL.vS hS hE (runs_plain rfl) (Gives.p hE rfl) rfl ?_; clear hE a; intro a hE
      refine WL.nil ?_
      subst hK70
      exact ⟨false, hq65, hE.pick _ ⟨rfl, trivial⟩, hS⟩
  · clear hE hS a w; rintro a w ⟨q69, rfl, hE, hS⟩
    refine W.ret ?_
    refine finG (fn := Try.f19) (rs := [.tmp 0]) (vs := [_]) hE rfl ⟨rfl, trivial⟩ ?_
    obtain rfl := Option.some.inj hr
    exact ⟨rfl, (hS.down (Sg.Le.trans hle55 hle61))⟩
set_option maxHeartbeats 8000000 in
theorem Fishlaw2FleetJudges_ok {w : World} {s : Sg} {R : List HP} {x0 : List FleetTask} {a0 : Option Addr} {c0 : Nat} {x1 : List Int} {a1 : Option Addr} {c1 : Nat} {x2 : FleetLimits} (hS : St w s (R)) (h0 : Sl 6 RFleetTask s a0 c0 x0) (h1 : Sl 1 (RI .i64) s a1 c1 x1) {r : Bool} (hr : Fishlaw2FleetJudges x0 x1 x2 = some r) :
    Calls Try.prog 4 [.slice a0 x0.length c0, .slice a1 x1.length c1, .agg (FleetLimits.cells x2).toArray].toArray w (fun e w => e = .returned (.bool r) ∧ St w s (R)) := by
  refine enter Try.func4 rfl rfl rfl fun a hE => ?_
  rw [Fishlaw2FleetJudges] at hr
  refine W.seq ?_
  refine W.region ?_
  refine WL.box hE hS (runs_plain rfl) rfl rfl rfl ?_; clear hE hS a w; intro b51 a w hE hS
  refine WL.vS hS hE (runs_plain rfl) (Gives.p hE rfl) rfl ?_; clear hE a; intro a hE
  refine WL.nil ?_
  refine W.seq ?_
  refine W.region ?_
  refine WL.vS hS hE (runs_plain rfl) (Gives.p hE rfl) rfl ?_; clear hE a; intro a hE
  refine WL.vS hS hE (runs_plain rfl) (Gives.p hE rfl) rfl ?_; clear hE a; intro a hE
  refine WL.vS hS hE (runs_plain rfl) (Gives.loadBA hE 0 rfl rfl ty35) rfl ?_; clear hE a; intro a hE
  obtain ⟨q52, hq53, hr⟩ := bindS hr
  refine WL.fn hE (FleetJudge_ok hS h0 h1 hq53) (runs_plain rfl) bd17 rfl rfl ?_
  clear hE hS; rintro e w ⟨rfl, hS⟩; refine ⟨_, rfl, ?_⟩; clear a; intro a hE
  refine WL.vS hS hE (runs_plain rfl) (Gives.p hE rfl) rfl ?_; clear hE a; intro a hE
  refine WL.vS hS hE (runs_plain rfl) (Gives.p hE rfl) rfl ?_; clear hE a; intro a hE
  refine WL.vS hS hE (runs_plain rfl) (Gives.p hE rfl) rfl ?_; clear hE a; intro a hE
  refine WL.vS hS hE (runs_plain rfl) (Gives.p hE rfl) rfl ?_; clear hE a; intro a hE
  refine WL.vS hS hE (runs_plain rfl) (Gives.p hE rfl) rfl ?_; clear hE a; intro a hE
  refine WL.nil ?_
  refine W.seq ?_
  refine W.region ?_
  refine WL.vS hS hE (runs_plain rfl) (Gives.p hE rfl) rfl ?_; clear hE a; intro a hE
  refine WL.vS hS hE (runs_plain rfl) (Gives.p hE rfl) rfl ?_; clear hE a; intro a hE
  refine WL.vS hS hE (runs_plain rfl) (Gives.loadBA hE 0 rfl rfl ty35) rfl ?_; clear hE a; intro a hE
  obtain ⟨q54, hq55, hr⟩ := bindS hr
  refine WL.fn hE (Fishref2JudgeOf_ok hS h0 h1 hq55) (runs_plain rfl) bd18 rfl rfl ?_
  clear hE hS; rintro e w ⟨rfl, hS⟩; refine ⟨_, rfl, ?_⟩; clear a; intro a hE
  refine WL.vS hS hE (runs_plain rfl) (Gives.p hE rfl) rfl ?_; clear hE a; intro a hE
  refine WL.vS hS hE (runs_plain rfl) (Gives.p hE rfl) rfl ?_; clear hE a; intro a hE
  refine WL.vS hS hE (runs_plain rfl) (Gives.p hE rfl) rfl ?_; clear hE a; intro a hE
  refine WL.vS hS hE (runs_plain rfl) (Gives.p hE rfl) rfl ?_; clear hE a; intro a hE
  refine WL.vS hS hE (runs_plain rfl) (Gives.p hE rfl) rfl ?_; clear hE a; intro a hE
  refine WL.nil ?_
  refine W.seq ?_
  obtain ⟨q57, hq56, hr⟩ := bindS hr
  refine W.cut (fun a w => ∃ (q60 : Bool), q60 = q57 ∧ Rep a 36 [(6, .bool q60)] ∧ St w s (pt b51 (.cells (FleetLimits.cells x2).toArray 35 (0, 0)) :: R)) ?_ ?_
  · refine W.gen fun K61 hK61 => ?_
    refine W.region ?_
    obtain ⟨q62, hq63, hq56⟩ := bindS hq56
    refine WL.fn hE (Fishlaw2crews_ok hS  hq63) (runs_plain rfl) bd19 rfl rfl ?_
    clear hE hS; rintro e w ⟨rfl, hS⟩; refine ⟨_, rfl, ?_⟩; clear a; intro a hE
    refine WL.vS hS hE (runs_plain rfl) (Gives.p hE rfl) rfl ?_; clear hE a; intro a hE
    rcases Bool.eq_false_or_eq_true q62 with hg64 | hg64
    · replace hq56 := iteT hg64 hq56
      refine WL.vS hS hE (runs_if hE rfl rfl rfl hg64) (Gives.p hE rfl) rfl ?_; clear hE a; intro a hE
      refine WL.vS hS hE (runs_if hE rfl rfl rfl hg64) (Gives.p hE rfl) rfl ?_; clear hE a; intro a hE
      refine WL.vS hS hE (runs_if hE rfl rfl rfl hg64) (Gives.p hE rfl) rfl ?_; clear hE a; intro a hE
      refine WL.vS hS hE (runs_plain rfl) (Gives.pickT hE rfl hg64 rfl) rfl ?_; clear hE a; intro a hE
      refine WL.vS hS hE (runs_plain rfl) (Gives.p hE rfl) rfl ?_; clear hE a; intro a hE
      rcases Bool.eq_false_or_eq_true (q52.1 == q54.1) with hg65 | hg65
      · replace hq56 := iteT hg65 hq56
        refine WL.vS hS hE (runs_if hE rfl rfl rfl hg65) (Gives.p hE rfl) rfl ?_; clear hE a; intro a hE
        refine WL.vS hS hE (runs_if hE rfl rfl rfl hg65) (Gives.p hE rfl) rfl ?_; clear hE a; intro a hE
        refine WL.vS hS hE (runs_if hE rfl rfl rfl hg65) (Gives.p hE rfl) rfl ?_; clear hE a; intro a hE
        refine WL.vS hS hE (runs_plain rfl) (Gives.pickT hE rfl hg65 rfl) rfl ?_; clear hE a; intro a hE
        refine WL.vS hS hE (runs_plain rfl) (Gives.p hE rfl) rfl ?_; clear hE a; intro a hE
        refine WL.nil ?_
        subst hK61
        exact ⟨(q52.2 == q54.2), Option.some.inj hq56, hE.pick _ ⟨rfl, trivial⟩, hS⟩
      · replace hq56 := iteF hg65 hq56
        refine WL.no hE (runs_not hE rfl rfl rfl (by rw [hg65]; decide)) rfl ?_; clear hE a; intro a hE
        refine WL.no hE (runs_not hE rfl rfl rfl (by rw [hg65]; decide)) rfl ?_; clear hE a; intro a hE
        refine WL.no hE (runs_not hE rfl rfl rfl (by rw [hg65]; decide)) rfl ?_; clear hE a; intro a hE
        refine WL.vS hS hE (runs_plain rfl) (Gives.pickF hE rfl hg65 rfl) rfl ?_; clear hE a; intro a hE
        refine WL.vS hS hE (runs_plain rfl) (Gives.p hE rfl) rfl ?_; clear hE a; intro a hE
        refine WL.nil ?_
        subst hK61
        exact ⟨false, Option.some.inj hq56, hE.pick _ ⟨rfl, trivial⟩, hS⟩
    · replace hq56 := iteF hg64 hq56
      refine WL.no hE (runs_not hE rfl rfl rfl (by rw [hg64]; decide)) rfl ?_; clear hE a; intro a hE
      refine WL.no hE (runs_not hE rfl rfl rfl (by rw [hg64]; decide)) rfl ?_; clear hE a; intro a hE
      refine WL.no hE (runs_not hE rfl rfl rfl (by rw [hg64]; decide)) rfl ?_; clear hE a; intro a hE
      refine WL.vS hS hE (runs_plain rfl) (Gives.pickF hE rfl hg64 rfl) rfl ?_; clear hE a; intro a hE
      refine WL.vS hS hE (runs_plain rfl) (Gives.p hE rfl) rfl ?_; clear hE a; intro a hE
      refine WL.no hE (runs_not hE rfl rfl rfl (by decide)) rfl ?_; clear hE a; intro a hE
      refine WL.no hE (runs_not hE rfl rfl rfl (by decide)) rfl ?_; clear hE a; intro a hE
      refine WL.no hE (runs_not hE rfl rfl rfl (by decide)) rfl ?_; clear hE a; intro a hE
      refine WL.vS hS hE (runs_plain rfl) (Gives.pickF hE rfl rfl rfl) rfl ?_; clear hE a; intro a hE
      refine WL.vS hS hE (runs_plain rfl) (Gives.p hE rfl) rfl ?_; clear hE a; intro a hE
      refine WL.nil ?_
      subst hK61
      exact ⟨false, Option.some.inj hq56, hE.pick _ ⟨rfl, trivial⟩, hS⟩
  · clear hE hS a w; rintro a w ⟨q60, rfl, hE, hS⟩
    refine W.ret ?_
    refine finG (fn := Try.f4) (rs := [.tmp 6]) (vs := [_]) hE rfl ⟨rfl, trivial⟩ ?_
    obtain rfl := Option.some.inj hr
    replace hS := hS.tail
    exact ⟨rfl, hS⟩
end Go.Proofs.Ytpoooohaoekbaaa
