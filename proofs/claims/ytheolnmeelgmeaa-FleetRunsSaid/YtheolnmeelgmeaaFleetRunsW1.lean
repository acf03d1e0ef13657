/- The walks of the functions that FleetRuns reaches: each call comes to what its mirror says. The conditions are those of each contract. -/
import Derived.Test.YtheolnmeelgmeaaProg
import Derived.Test.YtheolnmeelgmeaaFleetRunsM
import Derived.Test.YtheolnmeelgmeaaFpMore
import Derived.Test.YtheolnmeelgmeaaFpWide
import Derived.Test.YtheolnmeelgmeaaFpRgn
set_option maxRecDepth 10000
namespace Go.Proofs.Ytheolnmeelgmeaa
open Go Go.Fp
theorem ap23 : apOk Try.prog 23 31 1 = true := by kernel_rfl
theorem aw23 : apOkW Try.prog 23 31 1 24 = true := by kernel_rfl
theorem ap31 : apOk Try.prog 31 3 1 = true := by kernel_rfl
theorem aw31 : apOkW Try.prog 31 3 1 8 = true := by kernel_rfl
theorem bd10 : bodied Try.prog 10 = true := by kernel_rfl
theorem bd11 : bodied Try.prog 11 = true := by kernel_rfl
theorem bd12 : bodied Try.prog 12 = true := by kernel_rfl
theorem bd13 : bodied Try.prog 13 = true := by kernel_rfl
theorem bd14 : bodied Try.prog 14 = true := by kernel_rfl
theorem bd15 : bodied Try.prog 15 = true := by kernel_rfl
theorem bd16 : bodied Try.prog 16 = true := by kernel_rfl
theorem bd17 : bodied Try.prog 17 = true := by kernel_rfl
theorem bd18 : bodied Try.prog 18 = true := by kernel_rfl
theorem bd19 : bodied Try.prog 19 = true := by kernel_rfl
theorem bd20 : bodied Try.prog 20 = true := by kernel_rfl
theorem bd21 : bodied Try.prog 21 = true := by kernel_rfl
theorem bd22 : bodied Try.prog 22 = true := by kernel_rfl
theorem bd23 : bodied Try.prog 23 = true := by kernel_rfl
theorem bd24 : bodied Try.prog 24 = true := by kernel_rfl
theorem bd25 : bodied Try.prog 25 = true := by kernel_rfl
theorem bd26 : bodied Try.prog 26 = true := by kernel_rfl
theorem bd4 : bodied Try.prog 4 = true := by kernel_rfl
theorem bd5 : bodied Try.prog 5 = true := by kernel_rfl
theorem bd6 : bodied Try.prog 6 = true := by kernel_rfl
theorem bd7 : bodied Try.prog 7 = true := by kernel_rfl
theorem bd8 : bodied Try.prog 8 = true := by kernel_rfl
theorem bd9 : bodied Try.prog 9 = true := by kernel_rfl
theorem fl34_0 : fldOk Try.prog 34 0 0 = true := by kernel_rfl
theorem fl34_1 : fldOk Try.prog 34 1 1 = true := by kernel_rfl
theorem fl34_2 : fldOk Try.prog 34 2 2 = true := by kernel_rfl
theorem fl34_3 : fldOk Try.prog 34 3 3 = true := by kernel_rfl
theorem fl34_4 : fldOk Try.prog 34 4 4 = true := by kernel_rfl
theorem fl34_5 : fldOk Try.prog 34 5 5 = true := by kernel_rfl
theorem hu3 : (Try.prog.underlying 3).isSome = true := by kernel_rfl
theorem hu47 : (Try.prog.underlying 47).isSome = true := by kernel_rfl
theorem mixed : Try.prog.follows .mixedOrders = true := by kernel_rfl
theorem sl22 : slOk Try.prog 22 34 6 = true := by kernel_rfl
theorem sl23 : slOk Try.prog 23 31 1 = true := by kernel_rfl
theorem sl31 : slOk Try.prog 31 3 1 = true := by kernel_rfl
theorem ty22 : tyOk Try.prog 22 false 1 = true := by kernel_rfl
theorem ty3 : tyOk Try.prog 3 false 1 = true := by kernel_rfl
theorem ty31 : tyOk Try.prog 31 false 1 = true := by kernel_rfl
theorem ty34 : tyOk Try.prog 34 true 6 = true := by kernel_rfl
theorem ui3 : Try.prog.underlying 3 = some (.int .i64) := by kernel_rfl
theorem ui47 : Try.prog.underlying 47 = some (.int .u64) := by kernel_rfl
theorem zr3 : (Try.prog.info? 3).bind (fun i => i.zero.map fun z => z.cells.toList) = some [.int .i64 0] := by kernel_rfl
theorem zr34 : (Try.prog.info? 34).bind (fun i => i.zero.map fun z => z.cells.toList) = some [.int .i64 0, .int .i64 0, .int .i64 0, .int .i64 0, .int .i64 0, .int .i64 0] := by kernel_rfl
set_option maxHeartbeats 8000000 in
theorem Fleetwithin_ok  {w : World} {s : Sg} {R : List HP} {x0 : Int} {x1 : Int} {x2 : Int} (hS : St w s (R))  {r : Bool} (hr : Fleetwithin x0 x1 x2 = r) :
    Calls Try.prog 10 [.int .i64 x0, .int .i64 x1, .int .i64 x2].toArray w (fun e w => e = .returned (.bool r) ∧ St w s (R)) := by
  refine enter Try.func10 rfl rfl rfl fun a hE => ?_
  rw [Fleetwithin] at hr
  refine W.seq ?_
  refine W.region ?_
  refine WL.vS hS hE (runs_plain rfl) (Gives.p hE rfl) rfl ?_; clear hE a; intro a hE
  refine WL.nil ?_
  refine W.seq ?_
  obtain ⟨q52, hq51, hr⟩ := bndS hr
  refine W.cut (fun a w => ∃ (q55 : Bool), q55 = q52 ∧ Rep a 15 [(6, .bool q55)] ∧ St w s (R)) ?_ ?_
  · refine W.gen fun K56 hK56 => ?_
    refine W.region ?_
    refine WL.vS hS hE (runs_plain rfl) (Gives.p hE rfl) rfl ?_; clear hE a; intro a hE
    refine WL.vS hS hE (runs_plain rfl) (Gives.p hE rfl) rfl ?_; clear hE a; intro a hE
    refine WL.vS hS hE (runs_plain rfl) (Gives.p hE rfl) rfl ?_; clear hE a; intro a hE
    refine WL.vS hS hE (runs_plain rfl) (Gives.p hE rfl) rfl ?_; clear hE a; intro a hE
    rcases Bool.eq_false_or_eq_true (decide (x0 ≥ x1)) with hg57 | hg57
    · replace hq51 := iteT hg57 hq51
      refine WL.vS hS hE (runs_if hE rfl rfl rfl hg57) (Gives.p hE rfl) rfl ?_; clear hE a; intro a hE
      refine WL.vS hS hE (runs_if hE rfl rfl rfl hg57) (Gives.p hE rfl) rfl ?_; clear hE a; intro a hE
      refine WL.vS hS hE (runs_if hE rfl rfl rfl hg57) (Gives.p hE rfl) rfl ?_; clear hE a; intro a hE
      refine WL.vS hS hE (runs_plain rfl) (Gives.pickT hE rfl hg57 rfl) rfl ?_; clear hE a; intro a hE
      refine WL.vS hS hE (runs_plain rfl) (Gives.p hE rfl) rfl ?_; clear hE a; intro a hE
      refine WL.nil ?_
      subst hK56
      exact ⟨decide (x0 ≤ x2), hq51, hE.pick _ ⟨rfl, trivial⟩, hS⟩
    · replace hq51 := iteF hg57 hq51
      refine WL.no hE (runs_not hE rfl rfl rfl (by rw [hg57]; decide)) rfl ?_; clear hE a; intro a hE
      refine WL.no hE (runs_not hE rfl rfl rfl (by rw [hg57]; decide)) rfl ?_; clear hE a; intro a hE
      refine WL.no hE (runs_not hE rfl rfl rfl (by rw [hg57]; decide)) rfl ?_; clear hE a; intro a hE
      refine WL.vS hS hE (runs_plain rfl) (Gives.pickF hE rfl hg57 rfl) rfl ?_; clear hE a; intro a hE
      refine WL.vS hS hE (runs_plain rfl) (Gives.p hE rfl) rfl ?_; clear hE a; intro a hE
      refine WL.nil ?_
      subst hK56
      exact ⟨false, hq51, hE.pick _ ⟨rfl, trivial⟩, hS⟩
  · clear hE hS a w; rintro a w ⟨q55, rfl, hE, hS⟩
    refine W.ret ?_
    refine finG (fn := Try.f10) (rs := [.tmp 6]) (vs := [_]) hE rfl ⟨rfl, trivial⟩ ?_
    subst hr
    exact ⟨rfl, hS⟩
set_option maxHeartbeats 8000000 in
theorem FleetCheckTasks_ok  {w : World} {s : Sg} {R : List HP} {x0 : List FleetTask} {a0 : Option Addr} {c0 : Nat} (hS : St w s (R)) (h0 : Sl 6 RFleetTask s a0 c0 x0) {r : Int} (hr : FleetCheckTasks x0 = r) :
    Calls Try.prog 9 [.slice a0 x0.length c0].toArray w (fun e w => e = .returned (.int .i64 r) ∧ St w s (R)) := by
  refine enter Try.func9 rfl rfl rfl fun a hE => ?_
  rw [FleetCheckTasks] at hr
  refine W.seq ?_
  refine W.region ?_
  refine WL.vS hS hE (runs_plain rfl) (Gives.p hE rfl) rfl ?_; clear hE a; intro a hE
  refine WL.nil ?_
  refine W.seq ?_
  refine W.seq ?_
  refine W.region ?_
  refine WL.vS hS hE (runs_plain rfl) (Gives.p hE rfl) rfl ?_; clear hE a; intro a hE
  refine WL.vS hS hE (runs_plain rfl) (Gives.len hE rfl sl22) rfl ?_; clear hE a; intro a hE
  refine WL.vS hS hE (runs_plain rfl) (Gives.p hE rfl) rfl ?_; clear hE a; intro a hE
  refine WL.nil ?_
  refine W.cond hE rfl (fun hc51 => ?_) (fun hc51 => ?_)
  · replace hr := iteT hc51 hr
    refine W.seq ?_
    refine W.region ?_
    refine WL.vS hS hE (runs_plain rfl) (Gives.p hE rfl) rfl ?_; clear hE a; intro a hE
    refine WL.nil ?_
    refine W.ret ?_
    refine finG (fn := Try.f9) (rs := [.tmp 2]) (vs := [_]) hE rfl ⟨rfl, trivial⟩ ?_
    subst hr
    exact ⟨rfl, hS⟩
  · replace hr := iteF hc51 hr
    refine W.skip ?_
    refine W.seq ?_
    refine W.seq ?_
    refine W.region ?_
    refine WL.vS hS hE (runs_plain rfl) (Gives.p hE rfl) rfl ?_; clear hE a; intro a hE
    refine WL.vS hS hE (runs_plain rfl) (Gives.len hE rfl sl22) rfl ?_; clear hE a; intro a hE
    refine WL.vS hS hE (runs_plain rfl) (Gives.p hE rfl) rfl ?_; clear hE a; intro a hE
    refine WL.nil ?_
    obtain ⟨q53, hq52, hr⟩ := bndS hr
    refine W.cut (fun a w => (.next ()) = q53 ∧ Rep a 55 [] ∧ St w s (R)) ?_ ?_
    · refine W.block ?_
      refine W.loop (fun m a w => ∃ (rest56 : List FleetTask) (k54 : Nat), rest56.length = m ∧ x0.drop k54 = rest56 ∧ FleetCheckTasks.loop1 rest56 = q53 ∧ Rep a 55 [(8, .slice a0 x0.length c0), (9, .int .i64 ((x0).length : Int)), (10, .int .i64 ((k54 : Nat) : Int))] ∧ St w s (R)) (m := x0.length) ⟨x0, 0, rfl, rfl, hq52, hE.pick _ ⟨rfl, rfl, rfl, trivial⟩, hS⟩ ?_
      clear hE hS a w hq52; rintro m60 a w ⟨rest56, k54, rfl, hd57, hq52, hE, hS⟩
      refine W.gen fun K63 hK63 => ?_
      rcases rest56 with _ | ⟨x55, rest56⟩
      · have hlt58 := drop_nil hd57
        refine W.seq ?_
        refine W.region ?_
        refine WL.vS hS hE (runs_plain rfl) (Gives.p hE rfl) rfl ?_; clear hE a; intro a hE
        refine WL.nil ?_
        refine W.seq ?_
        refine W.condF hE rfl (decide_eq_false (by omega)) ?_
        subst hK63
        refine W.exit rfl ?_
        exact ⟨hq52, hE.pick _ trivial, hS⟩
      · obtain ⟨hlt58, hx59, hd57⟩ := drop_cons hd57
        rw [FleetCheckTasks.loop1] at hq52
        refine W.seq ?_
        refine W.region ?_
        refine WL.vS hS hE (runs_plain rfl) (Gives.p hE rfl) rfl ?_; clear hE a; intro a hE
        refine WL.nil ?_
        refine W.seq ?_
        refine W.condT hE rfl (decide_eq_true (by omega)) ?_
        refine W.skip ?_
        refine W.seq ?_
        refine W.block ?_
        refine W.seq ?_
        refine W.region ?_
        obtain ⟨cs64, hl65, hR66, hat67⟩ := h0.at hx59
        subst hR66
        refine WL.vS hS hE (runs_plain rfl) (Gives.idx hE k54 rfl rfl sl22 rfl hlt58 (h0.aok hlt58)) rfl ?_; clear hE a; intro a hE
        refine WL.vS hS hE (runs_plain rfl) (Gives.loadA hE rfl (fun w h => hat67 w _ h) ty34) rfl ?_; clear hE a; intro a hE
        refine WL.alloc hE hS (runs_plain rfl) zr34 rfl ?_; clear hE hS a w; intro b68 a w hE hS
        refine WL.storeI hE hS 0 rfl (FleetTask.cells x55) (runs_plain rfl) rfl rfl rfl ty34 rfl rfl rfl rfl ?_; clear hE hS a w; intro a w hE hS
        refine WL.nil ?_
        refine W.block ?_
        refine W.seq ?_
        obtain ⟨q70, hq69, hq52⟩ := bndS hq52
        refine W.cut (fun a w => ∃ (q73 : Bool), q73 = q70 ∧ Rep a 55 [(4, .pointer (some ⟨b68, 0, none⟩)), (8, .slice a0 x0.length c0), (9, .int .i64 ((x0).length : Int)), (10, .int .i64 ((k54 : Nat) : Int)), (14, .bool q73)] ∧ St w s (pt b68 (.cells (FleetTask.cells x55).toArray 34 (0, 0)) :: R)) ?_ ?_
        · refine W.gen fun K74 hK74 => ?_
          refine W.region ?_
          refine WL.vS hS hE (runs_plain rfl) (Gives.fld hE rfl fl34_0) rfl ?_; clear hE a; intro a hE
          refine WL.vS hS hE (runs_plain rfl) (Gives.loadB hE 0 rfl rfl rfl ty3) rfl ?_; clear hE a; intro a hE
          refine WL.fnq hE (Fleetwithin_ok hS  rfl (r := Fleetwithin x55.From 0 11)) (runs_plain rfl) bd10 rfl rfl rfl ?_
          clear hE hS; rintro e w ⟨rfl, hS⟩; refine ⟨_, rfl, ?_⟩; clear a; intro a hE
          refine WL.vS hS hE (runs_plain rfl) (Gives.p hE rfl) rfl ?_; clear hE a; intro a hE
          refine WL.vS hS hE (runs_plain rfl) (Gives.p hE rfl) rfl ?_; clear hE a; intro a hE
          rcases Bool.eq_false_or_eq_true (!(Fleetwithin x55.From 0 11)) with hg75 | hg75
          · replace hq69 := iteT hg75 hq69
            refine WL.no hE (runs_not hE rfl rfl rfl (by rw [hg75]; decide)) rfl ?_; clear hE a; intro a hE
            refine WL.no hE (runs_not hE rfl rfl rfl (by rw [hg75]; decide)) rfl ?_; clear hE a; intro a hE
            refine WL.no hE (runs_not hE rfl rfl rfl (by rw [hg75]; decide)) rfl ?_; clear hE a; intro a hE
            refine WL.no hE (runs_not hE rfl rfl rfl (by rw [hg75]; decide)) rfl ?_; clear hE a; intro a hE
            refine WL.vS hS hE (runs_plain rfl) (Gives.pickT hE rfl hg75 rfl) rfl ?_; clear hE a; intro a hE
            refine WL.vS hS hE (runs_plain rfl) (Gives.p hE rfl) rfl ?_; clear hE a; intro a hE
            refine WL.no hE (runs_not hE rfl rfl rfl (by decide)) rfl ?_; clear hE a; intro a hE
            refine WL.no hE (runs_not hE rfl rfl rfl (by decide)) rfl ?_; clear hE a; intro a hE
            refine WL.no hE (runs_not hE rfl rfl rfl (by decide)) rfl ?_; clear hE a; intro a hE
            refine WL.no hE (runs_not hE rfl rfl rfl (by decide)) rfl ?_; clear hE a; intro a hE
            refine WL.vS hS hE (runs_plain rfl) (Gives.pickT hE rfl rfl rfl) rfl ?_; clear hE a; intro a hE
            refine WL.vS hS hE (runs_plain rfl) (Gives.p hE rfl) rfl ?_; clear hE a; intro a hE
            refine WL.no hE (runs_not hE rfl rfl rfl (by decide)) rfl ?_; clear hE a; intro a hE
            refine WL.no hE (runs_not hE rfl rfl rfl (by decide)) rfl ?_; clear hE a; intro a hE
            refine WL.no hE (runs_not hE rfl rfl rfl (by decide)) rfl ?_; clear hE a; intro a hE
            refine WL.no hE (runs_not hE rfl rfl rfl (by decide)) rfl ?_; clear hE a; intro a hE
            refine WL.vS hS hE (runs_plain rfl) (Gives.pickT hE rfl rfl rfl) rfl ?_; clear hE a; intro a hE
            refine WL.vS hS hE (runs_plain rfl) (Gives.p hE rfl) rfl ?_; clear hE a; intro a hE
            refine WL.nil ?_
            subst hK74
            exact ⟨true, hq69, hE.pick _ ⟨rfl, rfl, rfl, rfl, rfl, trivial⟩, hS⟩
          · replace hq69 := iteF hg75 hq69
            refine WL.vS hS hE (runs_if hE rfl rfl rfl hg75) (Gives.fld hE rfl fl34_1) rfl ?_; clear hE a; intro a hE
            refine WL.vS hS hE (runs_if hE rfl rfl rfl hg75) (Gives.loadB hE 0 rfl rfl rfl ty3) rfl ?_; clear hE a; intro a hE
            refine WL.fnq hE (Fleetwithin_ok hS  rfl (r := Fleetwithin x55.To 0 11)) (runs_if hE rfl rfl rfl hg75) bd10 rfl rfl rfl ?_
            clear hE hS; rintro e w ⟨rfl, hS⟩; refine ⟨_, rfl, ?_⟩; clear a; intro a hE
            refine WL.vS hS hE (runs_if hE rfl rfl rfl hg75) (Gives.p hE rfl) rfl ?_; clear hE a; intro a hE
            refine WL.vS hS hE (runs_plain rfl) (Gives.pickF hE rfl hg75 rfl) rfl ?_; clear hE a; intro a hE
            refine WL.vS hS hE (runs_plain rfl) (Gives.p hE rfl) rfl ?_; clear hE a; intro a hE
            rcases Bool.eq_false_or_eq_true (!(Fleetwithin x55.To 0 11)) with hg76 | hg76
            · replace hq69 := iteT hg76 hq69
              refine WL.no hE (runs_not hE rfl rfl rfl (by rw [hg76]; decide)) rfl ?_; clear hE a; intro a hE
              refine WL.no hE (runs_not hE rfl rfl rfl (by rw [hg76]; decide)) rfl ?_; clear hE a; intro a hE
              refine WL.no hE (runs_not hE rfl rfl rfl (by rw [hg76]; decide)) rfl ?_; clear hE a; intro a hE
              refine WL.no hE (runs_not hE rfl rfl rfl (by rw [hg76]; decide)) rfl ?_; clear hE a; intro a hE
              refine WL.vS hS hE (runs_plain rfl) (Gives.pickT hE rfl hg76 rfl) rfl ?_; clear hE a; intro a hE
              refine WL.vS hS hE (runs_plain rfl) (Gives.p hE rfl) rfl ?_; clear hE a; intro a hE
              refine WL.no hE (runs_not hE rfl rfl rfl (by decide)) rfl ?_; clear hE a; intro a hE
              refine WL.no hE (runs_not hE rfl rfl rfl (by decide)) rfl ?_; clear hE a; intro a hE
              refine WL.no hE (runs_not hE rfl rfl rfl (by decide)) rfl ?_; clear hE a; intro a hE
              refine WL.no hE (runs_not hE rfl rfl rfl (by decide)) rfl ?_; clear hE a; intro a hE
              refine WL.vS hS hE (runs_plain rfl) (Gives.pickT hE rfl rfl rfl) rfl ?_; clear hE a; intro a hE
              refine WL.vS hS hE (runs_plain rfl) (Gives.p hE rfl) rfl ?_; clear hE a; intro a hE
              refine WL.nil ?_
              subst hK74
              exact ⟨true, hq69, hE.pick _ ⟨rfl, rfl, rfl, rfl, rfl, trivial⟩, hS⟩
            · replace hq69 := iteF hg76 hq69
              refine WL.vS hS hE (runs_if hE rfl rfl rfl hg76) (Gives.fld hE rfl fl34_2) rfl ?_; clear hE a; intro a hE
              refine WL.vS hS hE (runs_if hE rfl rfl rfl hg76) (Gives.loadB hE 0 rfl rfl rfl ty3) rfl ?_; clear hE a; intro a hE
              refine WL.fnq hE (Fleetwithin_ok hS  rfl (r := Fleetwithin x55.Dep 0 28800)) (runs_if hE rfl rfl rfl hg76) bd10 rfl rfl rfl ?_
              clear hE hS; rintro e w ⟨rfl, hS⟩; refine ⟨_, rfl, ?_⟩; clear a; intro a hE
              refine WL.vS hS hE (runs_if hE rfl rfl rfl hg76) (Gives.p hE rfl) rfl ?_; clear hE a; intro a hE
              refine WL.vS hS hE (runs_plain rfl) (Gives.pickF hE rfl hg76 rfl) rfl ?_; clear hE a; intro a hE
              refine WL.vS hS hE (runs_plain rfl) (Gives.p hE rfl) rfl ?_; clear hE a; intro a hE
              rcases Bool.eq_false_or_eq_true (!(Fleetwithin x55.Dep 0 28800)) with hg77 | hg77
              · replace hq69 := iteT hg77 hq69
                refine WL.no hE (runs_not hE rfl rfl rfl (by rw [hg77]; decide)) rfl ?_; clear hE a; intro a hE
                refine WL.no hE (runs_not hE rfl rfl rfl (by rw [hg77]; decide)) rfl ?_; clear hE a; intro a hE
                refine WL.no hE (runs_not hE rfl rfl rfl (by rw [hg77]; decide)) rfl ?_; clear hE a; intro a hE
                refine WL.no hE (runs_not hE rfl rfl rfl (by rw [hg77]; decide)) rfl ?_; clear hE a; intro a hE
                refine WL.vS hS hE (runs_plain rfl) (Gives.pickT hE rfl hg77 rfl) rfl ?_; clear hE a; intro a hE
                refine WL.vS hS hE (runs_plain rfl) (Gives.p hE rfl) rfl ?_; clear hE a; intro a hE
                refine WL.nil ?_
                subst hK74
                exact ⟨true, hq69, hE.pick _ ⟨rfl, rfl, rfl, rfl, rfl, trivial⟩, hS⟩
              · replace hq69 := iteF hg77 hq69
                refine WL.vS hS hE (runs_if hE rfl rfl rfl hg77) (Gives.fld hE rfl fl34_3) rfl ?_; clear hE a; intro a hE
                refine WL.vS hS hE (runs_if hE rfl rfl rfl hg77) (Gives.loadB hE 0 rfl rfl rfl ty3) rfl ?_; clear hE a; intro a hE
                refine WL.fnq hE (Fleetwithin_ok hS  rfl (r := Fleetwithin x55.Arr 0 28800)) (runs_if hE rfl rfl rfl hg77) bd10 rfl rfl rfl ?_
                clear hE hS; rintro e w ⟨rfl, hS⟩; refine ⟨_, rfl, ?_⟩; clear a; intro a hE
                refine WL.vS hS hE (runs_if hE rfl rfl rfl hg77) (Gives.p hE rfl) rfl ?_; clear hE a; intro a hE
                refine WL.vS hS hE (runs_plain rfl) (Gives.pickF hE rfl hg77 rfl) rfl ?_; clear hE a; intro a hE
                refine WL.vS hS hE (runs_plain rfl) (Gives.p hE rfl) rfl ?_; clear hE a; intro a hE
                refine WL.nil ?_
                subst hK74
                exact ⟨!(Fleetwithin x55.Arr 0 28800), hq69, hE.pick _ ⟨rfl, rfl, rfl, rfl, rfl, trivial⟩, hS⟩
        · clear hE hS a w; rintro a w ⟨q73, rfl, hE, hS⟩
          refine W.cond hE rfl (fun hc78 => ?_) (fun hc78 => ?_)
          · replace hq52 := iteT hc78 hq52
            refine W.seq ?_
            refine W.region ?_
            refine WL.vS hS hE (runs_plain rfl) (Gives.p hE rfl) rfl ?_; clear hE a; intro a hE
            refine WL.nil ?_
            refine W.ret ?_
            subst hK63
            rw [← hq52] at hr
            dsimp only at hr
            refine finG (fn := Try.f9) (rs := [.tmp 2]) (vs := [_]) hE rfl ⟨rfl, trivial⟩ ?_
            subst hr
            replace hS := hS.tail
            exact ⟨rfl, hS⟩
          · replace hq52 := iteF hc78 hq52
            refine W.seq ?_
            refine W.region ?_
            refine WL.vS hS hE (runs_plain rfl) (Gives.fld hE rfl fl34_3) rfl ?_; clear hE a; intro a hE
            refine WL.vS hS hE (runs_plain rfl) (Gives.loadB hE 0 rfl rfl rfl ty3) rfl ?_; clear hE a; intro a hE
            refine WL.vS hS hE (runs_plain rfl) (Gives.fld hE rfl fl34_2) rfl ?_; clear hE a; intro a hE
            refine WL.vS hS hE (runs_plain rfl) (Gives.loadB hE 0 rfl rfl rfl ty3) rfl ?_; clear hE a; intro a hE
            refine WL.vS hS hE (runs_plain rfl) (Gives.p hE rfl) rfl ?_; clear hE a; intro a hE
            refine WL.vS hS hE (runs_plain rfl) (Gives.p hE rfl) rfl ?_; clear hE a; intro a hE
            refine WL.nil ?_
            refine W.cond hE rfl (fun hc79 => ?_) (fun hc79 => ?_)
            · replace hq52 := iteT hc79 hq52
              refine W.seq ?_
              refine W.region ?_
              refine WL.vS hS hE (runs_plain rfl) (Gives.p hE rfl) rfl ?_; clear hE a; intro a hE
              refine WL.nil ?_
              refine W.ret ?_
              subst hK63
              rw [← hq52] at hr
              dsimp only at hr
              refine finG (fn := Try.f9) (rs := [.tmp 2]) (vs := [_]) hE rfl ⟨rfl, trivial⟩ ?_
              subst hr
              replace hS := hS.tail
              exact ⟨rfl, hS⟩
            · replace hq52 := iteF hc79 hq52
              refine W.seq ?_
              obtain ⟨q81, hq80, hq52⟩ := bndS hq52
              refine W.cut (fun a w => ∃ (q84 : Bool), q84 = q81 ∧ Rep a 55 [(8, .slice a0 x0.length c0), (9, .int .i64 ((x0).length : Int)), (10, .int .i64 ((k54 : Nat) : Int)), (43, .bool q84)] ∧ St w s (pt b68 (.cells (FleetTask.cells x55).toArray 34 (0, 0)) :: R)) ?_ ?_
              · refine W.gen fun K85 hK85 => ?_
                refine W.region ?_
                refine WL.vS hS hE (runs_plain rfl) (Gives.fld hE rfl fl34_4) rfl ?_; clear hE a; intro a hE
                refine WL.vS hS hE (runs_plain rfl) (Gives.loadB hE 0 rfl rfl rfl ty3) rfl ?_; clear hE a; intro a hE
                refine WL.fnq hE (Fleetwithin_ok hS  rfl (r := Fleetwithin x55.Km 0 10000)) (runs_plain rfl) bd10 rfl rfl rfl ?_
                clear hE hS; rintro e w ⟨rfl, hS⟩; refine ⟨_, rfl, ?_⟩; clear a; intro a hE
                refine WL.vS hS hE (runs_plain rfl) (Gives.p hE rfl) rfl ?_; clear hE a; intro a hE
                refine WL.vS hS hE (runs_plain rfl) (Gives.p hE rfl) rfl ?_; clear hE a; intro a hE
                rcases Bool.eq_false_or_eq_true (!(Fleetwithin x55.Km 0 10000)) with hg86 | hg86
                · replace hq80 := iteT hg86 hq80
                  refine WL.no hE (runs_not hE rfl rfl rfl (by rw [hg86]; decide)) rfl ?_; clear hE a; intro a hE
                  refine WL.no hE (runs_not hE rfl rfl rfl (by rw [hg86]; decide)) rfl ?_; clear hE a; intro a hE
                  refine WL.no hE (runs_not hE rfl rfl rfl (by rw [hg86]; decide)) rfl ?_; clear hE a; intro a hE
                  refine WL.no hE (runs_not hE rfl rfl rfl (by rw [hg86]; decide)) rfl ?_; clear hE a; intro a hE
                  refine WL.vS hS hE (runs_plain rfl) (Gives.pickT hE rfl hg86 rfl) rfl ?_; clear hE a; intro a hE
                  refine WL.vS hS hE (runs_plain rfl) (Gives.p hE rfl) rfl ?_; clear hE a; intro a hE
                  refine WL.nil ?_
                  subst hK85
                  exact ⟨true, hq80, hE.pick _ ⟨rfl, rfl, rfl, rfl, trivial⟩, hS⟩
                · replace hq80 := iteF hg86 hq80
                  refine WL.vS hS hE (runs_if hE rfl rfl rfl hg86) (Gives.fld hE rfl fl34_5) rfl ?_; clear hE a; intro a hE
                  refine WL.vS hS hE (runs_if hE rfl rfl rfl hg86) (Gives.loadB hE 0 rfl rfl rfl ty3) rfl ?_; clear hE a; intro a hE
                  refine WL.fnq hE (Fleetwithin_ok hS  rfl (r := Fleetwithin x55.Units 1 4)) (runs_if hE rfl rfl rfl hg86) bd10 rfl rfl rfl ?_
                  clear hE hS; rintro e w ⟨rfl, hS⟩; refine ⟨_, rfl, ?_⟩; clear a; intro a hE
                  refine WL.vS hS hE (runs_if hE rfl rfl rfl hg86) (Gives.p hE rfl) rfl ?_; clear hE a; intro a hE
                  refine WL.vS hS hE (runs_plain rfl) (Gives.pickF hE rfl hg86 rfl) rfl ?_; clear hE a; intro a hE
                  refine WL.vS hS hE (runs_plain rfl) (Gives.p hE rfl) rfl ?_; clear hE a; intro a hE
                  refine WL.nil ?_
                  subst hK85
                  exact ⟨!(Fleetwithin x55.Units 1 4), hq80, hE.pick _ ⟨rfl, rfl, rfl, rfl, trivial⟩, hS⟩
              · clear hE hS a w; rintro a w ⟨q84, rfl, hE, hS⟩
                refine W.cond hE rfl (fun hc87 => ?_) (fun hc87 => ?_)
                · replace hq52 := iteT hc87 hq52
                  refine W.seq ?_
                  refine W.region ?_
                  refine WL.vS hS hE (runs_plain rfl) (Gives.p hE rfl) rfl ?_; clear hE a; intro a hE
                  refine WL.nil ?_
                  refine W.ret ?_
                  subst hK63
                  rw [← hq52] at hr
                  dsimp only at hr
                  refine finG (fn := Try.f9) (rs := [.tmp 2]) (vs := [_]) hE rfl ⟨rfl, trivial⟩ ?_
                  subst hr
                  replace hS := hS.tail
                  exact ⟨rfl, hS⟩
                · replace hq52 := iteF hc87 hq52
                  refine W.skip ?_
                  refine W.region ?_
                  refine WL.vS hS hE (runs_plain rfl) (Gives.inc hE rfl (by have := h0.small; omega)) rfl ?_; clear hE a; intro a hE
                  refine WL.vS hS hE (runs_plain rfl) (Gives.p hE rfl) rfl ?_; clear hE a; intro a hE
                  refine WL.nil ?_
                  replace hS := hS.tail
                  subst hK63
                  exact ⟨rest56.length, Nat.lt_succ_self _, rest56, k54 + 1, rfl, hd57, hq52, hE.pick _ ⟨rfl, rfl, rfl, trivial⟩, hS⟩
    · clear hE hS a w; rintro a w ⟨rfl, hE, hS⟩
      dsimp only at hr
      refine W.seq ?_
      refine W.region ?_
      refine WL.vS hS hE (runs_plain rfl) (Gives.p hE rfl) rfl ?_; clear hE a; intro a hE
      refine WL.nil ?_
      refine W.ret ?_
      refine finG (fn := Try.f9) (rs := [.tmp 2]) (vs := [_]) hE rfl ⟨rfl, trivial⟩ ?_
      subst hr
      exact ⟨rfl, hS⟩
set_option maxHeartbeats 8000000 in
theorem FleetRuns_ok  {w : World} {s : Sg} {R : List HP} {x0 : List FleetTask} {a0 : Option Addr} {c0 : Nat} {x1 : List (List Int)} {a1 : Option Addr} {c1 : Nat} (hS : St w s (R)) (h0 : Sl 6 RFleetTask s a0 c0 x0) (h1 : Sl 1 (RL 1 (RI .i64)) s a1 c1 x1) {r : (List (List Int)) × Int} (hr : FleetRuns x0 x1 = some r) :
    Calls Try.prog 4 [.slice a0 x0.length c0, .slice a1 x1.length c1].toArray w (fun e w => ∃ (a0 : Option Addr) (c0 n0 : Nat) (cs0 : List Value) (t : Sg), e = .returned (.tuple #[.slice a0 n0 c0, .int .i64 r.2]) ∧ s.Le t ∧ Ev 1 (RL 1 (RI .i64)) t cs0 r.1 ∧ r.1.length = n0 ∧ St w t (vecC 31 1 a0 c0 n0 cs0 :: R)) := by
  refine enter Try.func4 rfl rfl rfl fun a hE => ?_
  rw [FleetRuns] at hr
  refine W.seq ?_
  refine W.region ?_
  refine WL.vS hS hE (runs_plain rfl) (Gives.p hE rfl) rfl ?_; clear hE a; intro a hE
  refine WL.vS hS hE (runs_plain rfl) (Gives.p hE rfl) rfl ?_; clear hE a; intro a hE
  refine WL.nil ?_
  refine W.seq ?_
  refine W.seq ?_
  refine W.region ?_
  refine WL.vS hS hE (runs_plain rfl) (Gives.p hE rfl) rfl ?_; clear hE a; intro a hE
  refine WL.fnq hE (FleetCheckTasks_ok hS h0 rfl (r := FleetCheckTasks x0)) (runs_plain rfl) bd9 rfl rfl rfl ?_
  clear hE hS; rintro e w ⟨rfl, hS⟩; refine ⟨_, rfl, ?_⟩; clear a; intro a hE
  refine WL.vS hS hE (runs_plain rfl) (Gives.p hE rfl) rfl ?_; clear hE a; intro a hE
  refine WL.nil ?_
  refine W.seq ?_
  refine W.region ?_
  refine WL.vS hS hE (runs_plain rfl) (Gives.p hE rfl) rfl ?_; clear hE a; intro a hE
  refine WL.vS hS hE (runs_plain rfl) (Gives.p hE rfl) rfl ?_; clear hE a; intro a hE
  refine WL.nil ?_
  refine W.cond hE rfl (fun hc51 => ?_) (fun hc51 => ?_)
  · replace hr := iteT hc51 hr
    refine W.seq ?_
    refine W.region ?_
    refine WL.vS hS hE (runs_plain rfl) (Gives.p hE rfl) rfl ?_; clear hE a; intro a hE
    refine WL.vS hS hE (runs_plain rfl) (Gives.p hE rfl) rfl ?_; clear hE a; intro a hE
    refine WL.vS hS hE (runs_plain rfl) (Gives.p hE rfl) rfl ?_; clear hE a; intro a hE
    refine WL.nil ?_
    refine W.ret ?_
    replace hS := hS.vecNil 31 1
    refine finG (fn := Try.f4) (rs := [.tmp 4, .tmp 5]) (vs := [_, _]) hE rfl ⟨rfl, rfl, trivial⟩ ?_
    obtain rfl := Option.some.inj hr
    exact ⟨none, 0, 0, [], s, rfl, (Sg.Le.refl _), (Ev.nil), (rfl), hS⟩
  · replace hr := iteF hc51 hr
    refine W.skip ?_
    refine W.seq ?_
    refine W.region ?_
    replace hS := hS.vecNil 31 1
    refine WL.vS hS hE (runs_plain rfl) (Gives.p hE rfl) rfl ?_; clear hE a; intro a hE
    refine WL.nil ?_
    refine W.seq ?_
    refine W.seq ?_
    refine W.region ?_
    refine WL.vS hS hE (runs_plain rfl) (Gives.p hE rfl) rfl ?_; clear hE a; intro a hE
    refine WL.vS hS hE (runs_plain rfl) (Gives.len hE rfl sl23) rfl ?_; clear hE a; intro a hE
    refine WL.vS hS hE (runs_plain rfl) (Gives.p hE rfl) rfl ?_; clear hE a; intro a hE
    refine WL.nil ?_
    obtain ⟨q55, hq54, hr⟩ := bindS hr
    refine W.cut (fun a w => ∃ (q65 : List (List Int)), ∃ (a66 : Option Addr), ∃ (c67 : Nat), ∃ (n69 : Nat), ∃ (cs70 : List Value), ∃ (s63 : Sg), s.Le s63 ∧ (.next q65) = q55 ∧ Ev 1 (RL 1 (RI .i64)) s63 cs70 q65 ∧ q65.length = n69 ∧ Rep a 55 [(7, .slice a66 n69 c67)] ∧ St w s63 (vecC 31 1 a66 c67 n69 cs70 :: R)) ?_ ?_
    · refine W.block ?_
      refine W.loop (fun m a w => ∃ (rest58 : List (List Int)) (k56 : Nat), ∃ (q65 : List (List Int)), ∃ (a66 : Option Addr), ∃ (c67 : Nat), ∃ (n69 : Nat), ∃ (cs70 : List Value), ∃ (s63 : Sg), rest58.length = m ∧ x1.drop k56 = rest58 ∧ s.Le s63 ∧ FleetRuns.loop1 x0 rest58 q65 = some q55 ∧ Ev 1 (RL 1 (RI .i64)) s63 cs70 q65 ∧ q65.length = n69 ∧ Rep a 55 [(0, .slice a0 x0.length c0), (7, .slice a66 n69 c67), (19, .slice a1 x1.length c1), (20, .int .i64 ((x1).length : Int)), (21, .int .i64 ((k56 : Nat) : Int))] ∧ St w s63 (vecC 31 1 a66 c67 n69 cs70 :: R)) (m := x1.length) ⟨x1, 0, [], none, 0, 0, [], s, rfl, rfl, (Sg.Le.refl _), hq54, (Ev.nil), (rfl), hE.pick _ ⟨rfl, rfl, rfl, rfl, rfl, trivial⟩, hS⟩ ?_
      clear hE hS a w hq54; rintro m62 a w ⟨rest58, k56, q65, a66, c67, n69, cs70, s63, rfl, hd59, hle64, hq54, h68, rfl, hE, hS⟩
      refine W.gen fun K72 hK72 => ?_
      replace h0 := Sl.mono RFleetTask.mono hle64 h0
      replace h1 := Sl.mono (RL.mono RI.mono) hle64 h1
      rcases rest58 with _ | ⟨x57, rest58⟩
      · have hlt60 := drop_nil hd59
        refine W.seq ?_
        refine W.region ?_
        refine WL.vS hS hE (runs_plain rfl) (Gives.p hE rfl) rfl ?_; clear hE a; intro a hE
        refine WL.nil ?_
        refine W.seq ?_
        refine W.condF hE rfl (decide_eq_false (by omega)) ?_
        subst hK72
        refine W.exit rfl ?_
        exact ⟨q65, a66, c67, q65.length, cs70, s63, hle64, Option.some.inj hq54, h68, rfl, hE.pick _ ⟨rfl, trivial⟩, hS⟩
      · obtain ⟨hlt60, hx61, hd59⟩ := drop_cons hd59
        rw [FleetRuns.loop1] at hq54
        refine W.seq ?_
        refine W.region ?_
        refine WL.vS hS hE (runs_plain rfl) (Gives.p hE rfl) rfl ?_; clear hE a; intro a hE
        refine WL.nil ?_
        refine W.seq ?_
        refine W.condT hE rfl (decide_eq_true (by omega)) ?_
        refine W.skip ?_
        refine W.seq ?_
        refine W.block ?_
        refine W.seq ?_
        refine W.region ?_
        obtain ⟨cs73, hl74, hR75, hat76⟩ := h1.at hx61
        obtain ⟨a77, c78, rfl, h79⟩ := hR75
        refine WL.vS hS hE (runs_plain rfl) (Gives.idx hE k56 rfl rfl sl23 rfl hlt60 (h1.aok hlt60)) rfl ?_; clear hE a; intro a hE
        refine WL.vS hS hE (runs_plain rfl) (Gives.load1 hE rfl (fun w h => hat76 w _ h) ty31) rfl ?_; clear hE a; intro a hE
        refine WL.vS hS hE (runs_plain rfl) (Gives.p hE rfl) rfl ?_; clear hE a; intro a hE
        refine WL.nil ?_
        refine W.seq ?_
        refine W.region ?_
        refine WL.vS hS hE (runs_plain rfl) (Gives.p hE rfl) rfl ?_; clear hE a; intro a hE
        refine WL.nil ?_
        refine W.seq ?_
        refine W.region ?_
        replace hS := hS.vecNil 3 1
        refine WL.vS hS hE (runs_plain rfl) (Gives.p hE rfl) rfl ?_; clear hE a; intro a hE
        refine WL.nil ?_
        refine W.seq ?_
        refine W.seq ?_
        refine W.region ?_
        refine WL.vS hS hE (runs_plain rfl) (Gives.p hE rfl) rfl ?_; clear hE a; intro a hE
        refine WL.vS hS hE (runs_plain rfl) (Gives.len hE rfl sl31) rfl ?_; clear hE a; intro a hE
        refine WL.vS hS hE (runs_plain rfl) (Gives.p hE rfl) rfl ?_; clear hE a; intro a hE
        refine WL.nil ?_
        obtain ⟨q82, hq81, hq54⟩ := bindS hq54
        refine W.cut (fun a w => ∃ (q92 : Int), ∃ (q93 : List Int), ∃ (a94 : Option Addr), ∃ (c95 : Nat), ∃ (n97 : Nat), ∃ (cs98 : List Value), (.next (q92, q93)) = q82 ∧ Ev 1 (RI .i64) s63 cs98 q93 ∧ q93.length = n97 ∧ Rep a 55 [(0, .slice a0 x0.length c0), (7, .slice a66 q65.length c67), (11, .slice a94 n97 c95), (19, .slice a1 x1.length c1), (20, .int .i64 ((x1).length : Int)), (21, .int .i64 ((k56 : Nat) : Int))] ∧ St w s63 (vecC 3 1 a94 c95 n97 cs98 :: vecC 31 1 a66 c67 q65.length cs70 :: R)) ?_ ?_
        · refine W.block ?_
          refine W.loop (fun m a w => ∃ (rest85 : List Int) (k83 : Nat), ∃ (q92 : Int), ∃ (q93 : List Int), ∃ (a94 : Option Addr), ∃ (c95 : Nat), ∃ (n97 : Nat), ∃ (cs98 : List Value), rest85.length = m ∧ x57.drop k83 = rest85 ∧ FleetRuns.loop2 x0 rest85 q92 q93 = some q82 ∧ Ev 1 (RI .i64) s63 cs98 q93 ∧ q93.length = n97 ∧ Rep a 55 [(0, .slice a0 x0.length c0), (7, .slice a66 q65.length c67), (10, .int .i64 q92), (11, .slice a94 n97 c95), (19, .slice a1 x1.length c1), (20, .int .i64 ((x1).length : Int)), (21, .int .i64 ((k56 : Nat) : Int)), (25, .slice a77 x57.length c78), (26, .int .i64 ((x57).length : Int)), (27, .int .i64 ((k83 : Nat) : Int))] ∧ St w s63 (vecC 3 1 a94 c95 n97 cs98 :: vecC 31 1 a66 c67 q65.length cs70 :: R)) (m := x57.length) ⟨x57, 0, 0, [], none, 0, 0, [], rfl, rfl, hq81, (Ev.nil), (rfl), hE.pick _ ⟨rfl, rfl, rfl, rfl, rfl, rfl, rfl, rfl, rfl, rfl, trivial⟩, hS⟩ ?_
          clear hE hS a w hq81; rintro m89 a w ⟨rest85, k83, q92, q93, a94, c95, n97, cs98, rfl, hd86, hq81, h96, rfl, hE, hS⟩
          refine W.gen fun K100 hK100 => ?_
          rcases rest85 with _ | ⟨x84, rest85⟩
          · have hlt87 := drop_nil hd86
            refine W.seq ?_
            refine W.region ?_
            refine WL.vS hS hE (runs_plain rfl) (Gives.p hE rfl) rfl ?_; clear hE a; intro a hE
            refine WL.nil ?_
            refine W.seq ?_
            refine W.condF hE rfl (decide_eq_false (by omega)) ?_
            subst hK100
            refine W.exit rfl ?_
            exact ⟨q92, q93, a94, c95, q93.length, cs98, Option.some.inj hq81, h96, rfl, hE.pick _ ⟨rfl, rfl, rfl, rfl, rfl, rfl, trivial⟩, hS⟩
          · obtain ⟨hlt87, hx88, hd86⟩ := drop_cons hd86
            rw [FleetRuns.loop2] at hq81
            refine W.seq ?_
            refine W.region ?_
            refine WL.vS hS hE (runs_plain rfl) (Gives.p hE rfl) rfl ?_; clear hE a; intro a hE
            refine WL.nil ?_
            refine W.seq ?_
            refine W.condT hE rfl (decide_eq_true (by omega)) ?_
            refine W.skip ?_
            refine W.seq ?_
            refine W.block ?_
            refine W.seq ?_
            refine W.region ?_
            obtain ⟨cs101, hl102, hR103, hat104⟩ := h79.at hx88
            subst hR103
            refine WL.vS hS hE (runs_plain rfl) (Gives.idx hE k83 rfl rfl sl31 rfl hlt87 (h79.aok hlt87)) rfl ?_; clear hE a; intro a hE
            refine WL.vS hS hE (runs_plain rfl) (Gives.load1 hE rfl (fun w h => hat104 w _ h) ty3) rfl ?_; clear hE a; intro a hE
            refine WL.vS hS hE (runs_plain rfl) (Gives.p hE rfl) rfl ?_; clear hE a; intro a hE
            refine WL.nil ?_
            refine W.seq ?_
            refine W.seq ?_
            refine W.region ?_
            refine WL.vS hS hE (runs_plain rfl) (Gives.p hE rfl) rfl ?_; clear hE a; intro a hE
            refine WL.vS hS hE (runs_plain rfl) (Gives.p hE rfl) rfl ?_; clear hE a; intro a hE
            refine WL.vS hS hE (runs_plain rfl) (Gives.len hE rfl sl22) rfl ?_; clear hE a; intro a hE
            refine WL.vS hS hE (runs_plain rfl) (Gives.p hE rfl) rfl ?_; clear hE a; intro a hE
            refine WL.fnq hE (Fleetwithin_ok hS  rfl (r := Fleetwithin x84 0 (w64 (((x0).length : Int) - 1)))) (runs_plain rfl) bd10 rfl rfl rfl ?_
            clear hE hS; rintro e w ⟨rfl, hS⟩; refine ⟨_, rfl, ?_⟩; clear a; intro a hE
            refine WL.vS hS hE (runs_plain rfl) (Gives.p hE rfl) rfl ?_; clear hE a; intro a hE
            refine WL.nil ?_
            refine W.cond hE rfl (fun hc105 => ?_) (fun hc105 => ?_)
            · replace hq81 := iteT hc105 hq81
              refine W.seq ?_
              refine W.region ?_
              refine WL.vS hS hE (runs_plain rfl) (Gives.p hE rfl) rfl ?_; clear hE a; intro a hE
              refine WL.vS hS hE (runs_plain rfl) (Gives.p hE rfl) rfl ?_; clear hE a; intro a hE
              refine WL.nil ?_
              refine W.ret ?_
              subst hK100
              subst hK72
              rw [← Option.some.inj hq81] at hq54
              dsimp only at hq54
              rw [← Option.some.inj hq54] at hr
              dsimp only at hr
              replace hS := hS.vecNil 31 1
              refine finG (fn := Try.f4) (rs := [.tmp 4, .tmp 5]) (vs := [_, _]) hE rfl ⟨rfl, rfl, trivial⟩ ?_
              obtain rfl := Option.some.inj hr
              replace hS := hS.dropAt 1
              replace hS := hS.dropAt 1
              exact ⟨none, 0, 0, [], s63, rfl, hle64, (Ev.nil), (rfl), hS⟩
            · replace hq81 := iteF hc105 hq81
              refine W.skip ?_
              refine W.seq ?_
              refine W.region ?_
              refine WL.vS hS hE (runs_plain rfl) (Gives.p hE rfl) rfl ?_; clear hE a; intro a hE
              refine WL.vS hS hE (runs_plain rfl) (Gives.p hE rfl) rfl ?_; clear hE a; intro a hE
              refine WL.vS hS hE (runs_plain rfl) (Gives.p hE rfl) rfl ?_; clear hE a; intro a hE
              obtain ⟨x107, hx108, hq81⟩ := bindS hq81
              obtain ⟨hi109, hlt110, hy111⟩ := gx_some hx108
              obtain ⟨cs112, hl113, hR114, hat115⟩ := h0.at hy111
              subst hR114
              refine WL.vS hS hE (runs_plain rfl) (Gives.idx hE (x84).toNat rfl rfl sl22 hi109 hlt110 (h0.aok hlt110)) rfl ?_; clear hE a; intro a hE
              refine WL.vS hS hE (runs_plain rfl) (Gives.fld hE rfl fl34_4) rfl ?_; clear hE a; intro a hE
              refine WL.vS hS hE (runs_plain rfl) (Gives.load1 hE rfl (fun w h => (hat115 w _ h).one rfl) ty3) rfl ?_; clear hE a; intro a hE
              refine WL.vS hS hE (runs_plain rfl) (Gives.p hE rfl) rfl ?_; clear hE a; intro a hE
              refine WL.vS hS hE (runs_plain rfl) (Gives.p hE rfl) rfl ?_; clear hE a; intro a hE
              refine WL.nil ?_
              refine W.region ?_
              refine WL.vS hS hE (runs_plain rfl) (Gives.p hE rfl) rfl ?_; clear hE a; intro a hE
              refine WL.vS hS hE (runs_plain rfl) (Gives.p hE rfl) rfl ?_; clear hE a; intro a hE
              refine WL.lit hE hS (e := 3) (es := 1) (vs := [(0, .int .i64 (w64 (q92 + x107.Km)))]) (cs := [.int .i64 (w64 (q92 + x107.Km))]) (runs_plain rfl) rfl (by kernel_rfl) rfl ?_; clear hE hS a w; intro b116 a w hE hS
              obtain ⟨x117, hx118, hq81⟩ := bindS hq81
              refine WL.appDW (kk := 8) hE hS 0 (m := 1) (runs_plain rfl) rfl rfl rfl aw31 rfl h96 rfl (xs := [w64 (q92 + x107.Km)]) (Ev.cons (c1 := [.int .i64 (w64 (q92 + x107.Km))]) rfl rfl (Ev.nil)) rfl rfl hx118 rfl ?_; clear hE hS a w; intro a119 c120 cs121 a w h122 hE hS
              refine WL.vS hS hE (runs_plain rfl) (Gives.p hE rfl) rfl ?_; clear hE a; intro a hE
              refine WL.nil ?_
              refine W.region ?_
              refine WL.vS hS hE (runs_plain rfl) (Gives.inc hE rfl (by have := h79.small; omega)) rfl ?_; clear hE a; intro a hE
              refine WL.vS hS hE (runs_plain rfl) (Gives.p hE rfl) rfl ?_; clear hE a; intro a hE
              refine WL.nil ?_
              subst hK100
              exact ⟨rest85.length, Nat.lt_succ_self _, rest85, k83 + 1, (w64 (q92 + x107.Km)), x117, a119, c120, x117.length, cs121, rfl, hd86, hq81, h122, (rfl), hE.pick _ ⟨rfl, rfl, rfl, rfl, rfl, rfl, rfl, rfl, rfl, rfl, trivial⟩, hS⟩
        · clear hE hS a w; rintro a w ⟨q92, q93, a94, c95, n97, cs98, rfl, h96, rfl, hE, hS⟩
          dsimp only at hq54
          refine W.region ?_
          refine WL.vS hS hE (runs_plain rfl) (Gives.p hE rfl) rfl ?_; clear hE a; intro a hE
          refine WL.vS hS hE (runs_plain rfl) (Gives.p hE rfl) rfl ?_; clear hE a; intro a hE
          have hF := hS.fixD RI.mono 0 rfl h96 rfl; clear hS; obtain ⟨s123, hle124, hS, h125⟩ := hF
          replace h0 := Sl.mono RFleetTask.mono hle124 h0
          replace h1 := Sl.mono (RL.mono RI.mono) hle124 h1
          replace h68 := Ev.mono (RL.mono RI.mono) hle124 h68
          refine WL.lit hE hS (e := 31) (es := 1) (vs := [(0, .slice a94 q93.length c95)]) (cs := [.slice a94 q93.length c95]) (runs_plain rfl) rfl (by kernel_rfl) rfl ?_; clear hE hS a w; intro b126 a w hE hS
          obtain ⟨x127, hx128, hq54⟩ := bindS hq54
          refine WL.appDW (kk := 24) hE hS 0 (m := 1) (runs_plain rfl) rfl rfl rfl aw23 rfl h68 rfl (xs := [q93]) (Ev.cons (c1 := [.slice a94 q93.length c95]) ⟨_, _, rfl, h125⟩ rfl (Ev.nil)) rfl rfl hx128 rfl ?_; clear hE hS a w; intro a129 c130 cs131 a w h132 hE hS
          refine WL.vS hS hE (runs_plain rfl) (Gives.p hE rfl) rfl ?_; clear hE a; intro a hE
          refine WL.nil ?_
          refine W.region ?_
          refine WL.vS hS hE (runs_plain rfl) (Gives.inc hE rfl (by have := h1.small; omega)) rfl ?_; clear hE a; intro a hE
          refine WL.vS hS hE (runs_plain rfl) (Gives.p hE rfl) rfl ?_; clear hE a; intro a hE
          refine WL.nil ?_
          subst hK72
          exact ⟨rest58.length, Nat.lt_succ_self _, rest58, k56 + 1, x127, a129, c130, x127.length, cs131, s123, rfl, hd59, (Sg.Le.trans hle64 hle124), hq54, h132, (rfl), hE.pick _ ⟨rfl, rfl, rfl, rfl, rfl, trivial⟩, hS⟩
    · clear hE hS a w; rintro a w ⟨q65, a66, c67, n69, cs70, s63, hle64, rfl, h68, rfl, hE, hS⟩
      dsimp only at hr
      replace h0 := Sl.mono RFleetTask.mono hle64 h0
      replace h1 := Sl.mono (RL.mono RI.mono) hle64 h1
      refine W.seq ?_
      refine W.region ?_
      refine WL.vS hS hE (runs_plain rfl) (Gives.p hE rfl) rfl ?_; clear hE a; intro a hE
      refine WL.vS hS hE (runs_plain rfl) (Gives.p hE rfl) rfl ?_; clear hE a; intro a hE
      refine WL.vS hS hE (runs_plain rfl) (Gives.p hE rfl) rfl ?_; clear hE a; intro a hE
      refine WL.nil ?_
      refine W.ret ?_
      refine finG (fn := Try.f4) (rs := [.tmp 4, .tmp 5]) (vs := [_, _]) hE rfl ⟨rfl, rfl, trivial⟩ ?_
      obtain rfl := Option.some.inj hr
      exact ⟨a66, c67, q65.length, cs70, s63, rfl, hle64, h68, rfl, hS⟩
set_option maxHeartbeats 8000000 in
theorem Fishref2within_ok  {w : World} {s : Sg} {R : List HP} {x0 : Int} {x1 : Int} {x2 : Int} (hS : St w s (R))  {r : Bool} (hr : Fishref2within x0 x1 x2 = r) :
    Calls Try.prog 11 [.int .i64 x0, .int .i64 x1, .int .i64 x2].toArray w (fun e w => e = .returned (.bool r) ∧ St w s (R)) := by
  refine enter Try.func11 rfl rfl rfl fun a hE => ?_
  rw [Fishref2within] at hr
  refine W.seq ?_
  refine W.region ?_
  refine WL.vS hS hE (runs_plain rfl) (Gives.p hE rfl) rfl ?_; clear hE a; intro a hE
  refine WL.nil ?_
  refine W.seq ?_
  obtain ⟨q52, hq51, hr⟩ := bndS hr
  refine W.cut (fun a w => ∃ (q55 : Bool), q55 = q52 ∧ Rep a 15 [(6, .bool q55)] ∧ St w s (R)) ?_ ?_
  · refine W.gen fun K56 hK56 => ?_
    refine W.region ?_
    refine WL.vS hS hE (runs_plain rfl) (Gives.p hE rfl) rfl ?_; clear hE a; intro a hE
    refine WL.vS hS hE (runs_plain rfl) (Gives.p hE rfl) rfl ?_; clear hE a; intro a hE
    refine WL.vS hS hE (runs_plain rfl) (Gives.p hE rfl) rfl ?_; clear hE a; intro a hE
    refine WL.vS hS hE (runs_plain rfl) (Gives.p hE rfl) rfl ?_; clear hE a; intro a hE
    rcases Bool.eq_false_or_eq_true (decide (x0 ≥ x1)) with hg57 | hg57
    · replace hq51 := iteT hg57 hq51
      refine WL.vS hS hE (runs_if hE rfl rfl rfl hg57) (Gives.p hE rfl) rfl ?_; clear hE a; intro a hE
      refine WL.vS hS hE (runs_if hE rfl rfl rfl hg57) (Gives.p hE rfl) rfl ?_; clear hE a; intro a hE
      refine WL.vS hS hE (runs_if hE rfl rfl rfl hg57) (Gives.p hE rfl) rfl ?_; clear hE a; intro a hE
      refine WL.vS hS hE (runs_plain rfl) (Gives.pickT hE rfl hg57 rfl) rfl ?_; clear hE a; intro a hE
      refine WL.vS hS hE (runs_plain rfl) (Gives.p hE rfl) rfl ?_; clear hE a; intro a hE
      refine WL.nil ?_
      subst hK56
      exact ⟨decide (x0 ≤ x2), hq51, hE.pick _ ⟨rfl, trivial⟩, hS⟩
    · replace hq51 := iteF hg57 hq51
      refine WL.no hE (runs_not hE rfl rfl rfl (by rw [hg57]; decide)) rfl ?_; clear hE a; intro a hE
      refine WL.no hE (runs_not hE rfl rfl rfl (by rw [hg57]; decide)) rfl ?_; clear hE a; intro a hE
      refine WL.no hE (runs_not hE rfl rfl rfl (by rw [hg57]; decide)) rfl ?_; clear hE a; intro a hE
      refine WL.vS hS hE (runs_plain rfl) (Gives.pickF hE rfl hg57 rfl) rfl ?_; clear hE a; intro a hE
      refine WL.vS hS hE (runs_plain rfl) (Gives.p hE rfl) rfl ?_; clear hE a; intro a hE
      refine WL.nil ?_
      subst hK56
      exact ⟨false, hq51, hE.pick _ ⟨rfl, trivial⟩, hS⟩
  · clear hE hS a w; rintro a w ⟨q55, rfl, hE, hS⟩
    refine W.ret ?_
    refine finG (fn := Try.f11) (rs := [.tmp 6]) (vs := [_]) hE rfl ⟨rfl, trivial⟩ ?_
    subst hr
    exact ⟨rfl, hS⟩
set_option maxHeartbeats 8000000 in
theorem Fishref2TasksFault_ok  {w : World} {s : Sg} {R : List HP} {x0 : List FleetTask} {a0 : Option Addr} {c0 : Nat} (hS : St w s (R)) (h0 : Sl 6 RFleetTask s a0 c0 x0) {r : Int} (hr : Fishref2TasksFault x0 = r) :
    Calls Try.prog 5 [.slice a0 x0.length c0].toArray w (fun e w => e = .returned (.int .i64 r) ∧ St w s (R)) := by
  refine enter Try.func5 rfl rfl rfl fun a hE => ?_
  rw [Fishref2TasksFault] at hr
  refine W.seq ?_
  refine W.region ?_
  refine WL.vS hS hE (runs_plain rfl) (Gives.p hE rfl) rfl ?_; clear hE a; intro a hE
  refine WL.nil ?_
  refine W.seq ?_
  refine W.seq ?_
  refine W.region ?_
  refine WL.vS hS hE (runs_plain rfl) (Gives.p hE rfl) rfl ?_; clear hE a; intro a hE
  refine WL.vS hS hE (runs_plain rfl) (Gives.len hE rfl sl22) rfl ?_; clear hE a; intro a hE
  refine WL.vS hS hE (runs_plain rfl) (Gives.p hE rfl) rfl ?_; clear hE a; intro a hE
  refine WL.nil ?_
  refine W.cond hE rfl (fun hc51 => ?_) (fun hc51 => ?_)
  · replace hr := iteT hc51 hr
    refine W.seq ?_
    refine W.region ?_
    refine WL.vS hS hE (runs_plain rfl) (Gives.p hE rfl) rfl ?_; clear hE a; intro a hE
    refine WL.nil ?_
    refine W.ret ?_
    refine finG (fn := Try.f5) (rs := [.tmp 2]) (vs := [_]) hE rfl ⟨rfl, trivial⟩ ?_
    subst hr
    exact ⟨rfl, hS⟩
  · replace hr := iteF hc51 hr
    refine W.skip ?_
    refine W.seq ?_
    refine W.seq ?_
    refine W.region ?_
    refine WL.vS hS hE (runs_plain rfl) (Gives.p hE rfl) rfl ?_; clear hE a; intro a hE
    refine WL.vS hS hE (runs_plain rfl) (Gives.len hE rfl sl22) rfl ?_; clear hE a; intro a hE
    refine WL.vS hS hE (runs_plain rfl) (Gives.p hE rfl) rfl ?_; clear hE a; intro a hE
    refine WL.nil ?_
    obtain ⟨q53, hq52, hr⟩ := bndS hr
    refine W.cut (fun a w => (.next ()) = q53 ∧ Rep a 52 [] ∧ St w s (R)) ?_ ?_
    · refine W.block ?_
      refine W.loop (fun m a w => ∃ (rest56 : List FleetTask) (k54 : Nat), rest56.length = m ∧ x0.drop k54 = rest56 ∧ Fishref2TasksFault.loop1 rest56 = q53 ∧ Rep a 52 [(8, .slice a0 x0.length c0), (9, .int .i64 ((x0).length : Int)), (10, .int .i64 ((k54 : Nat) : Int))] ∧ St w s (R)) (m := x0.length) ⟨x0, 0, rfl, rfl, hq52, hE.pick _ ⟨rfl, rfl, rfl, trivial⟩, hS⟩ ?_
      clear hE hS a w hq52; rintro m60 a w ⟨rest56, k54, rfl, hd57, hq52, hE, hS⟩
      refine W.gen fun K63 hK63 => ?_
      rcases rest56 with _ | ⟨x55, rest56⟩
      · have hlt58 := drop_nil hd57
        refine W.seq ?_
        refine W.region ?_
        refine WL.vS hS hE (runs_plain rfl) (Gives.p hE rfl) rfl ?_; clear hE a; intro a hE
        refine WL.nil ?_
        refine W.seq ?_
        refine W.condF hE rfl (decide_eq_false (by omega)) ?_
        subst hK63
        refine W.exit rfl ?_
        exact ⟨hq52, hE.pick _ trivial, hS⟩
      · obtain ⟨hlt58, hx59, hd57⟩ := drop_cons hd57
        rw [Fishref2TasksFault.loop1] at hq52
        refine W.seq ?_
        refine W.region ?_
        refine WL.vS hS hE (runs_plain rfl) (Gives.p hE rfl) rfl ?_; clear hE a; intro a hE
        refine WL.nil ?_
        refine W.seq ?_
        refine W.condT hE rfl (decide_eq_true (by omega)) ?_
        refine W.skip ?_
        refine W.seq ?_
        refine W.block ?_
        refine W.seq ?_
        refine W.region ?_
        obtain ⟨cs64, hl65, hR66, hat67⟩ := h0.at hx59
        subst hR66
        refine WL.vS hS hE (runs_plain rfl) (Gives.idx hE k54 rfl rfl sl22 rfl hlt58 (h0.aok hlt58)) rfl ?_; clear hE a; intro a hE
        refine WL.vS hS hE (runs_plain rfl) (Gives.loadA hE rfl (fun w h => hat67 w _ h) ty34) rfl ?_; clear hE a; intro a hE
        refine WL.alloc hE hS (runs_plain rfl) zr34 rfl ?_; clear hE hS a w; intro b68 a w hE hS
        refine WL.storeI hE hS 0 rfl (FleetTask.cells x55) (runs_plain rfl) rfl rfl rfl ty34 rfl rfl rfl rfl ?_; clear hE hS a w; intro a w hE hS
        refine WL.nil ?_
        refine W.seq ?_
        refine W.seq ?_
        obtain ⟨q70, hq69, hq52⟩ := bndS hq52
        refine W.cut (fun a w => ∃ (q73 : Bool), q73 = q70 ∧ Rep a 52 [(4, .pointer (some ⟨b68, 0, none⟩)), (8, .slice a0 x0.length c0), (9, .int .i64 ((x0).length : Int)), (10, .int .i64 ((k54 : Nat) : Int)), (35, .bool q73)] ∧ St w s (pt b68 (.cells (FleetTask.cells x55).toArray 34 (0, 0)) :: R)) ?_ ?_
        · refine W.gen fun K74 hK74 => ?_
          refine W.region ?_
          refine WL.vS hS hE (runs_plain rfl) (Gives.fld hE rfl fl34_0) rfl ?_; clear hE a; intro a hE
          refine WL.vS hS hE (runs_plain rfl) (Gives.loadB hE 0 rfl rfl rfl ty3) rfl ?_; clear hE a; intro a hE
          refine WL.fnq hE (Fishref2within_ok hS  rfl (r := Fishref2within x55.From 0 11)) (runs_plain rfl) bd11 rfl rfl rfl ?_
          clear hE hS; rintro e w ⟨rfl, hS⟩; refine ⟨_, rfl, ?_⟩; clear a; intro a hE
          refine WL.vS hS hE (runs_plain rfl) (Gives.p hE rfl) rfl ?_; clear hE a; intro a hE
          refine WL.vS hS hE (runs_plain rfl) (Gives.p hE rfl) rfl ?_; clear hE a; intro a hE
          rcases Bool.eq_false_or_eq_true (!(Fishref2within x55.From 0 11)) with hg75 | hg75
          · replace hq69 := iteT hg75 hq69
            refine WL.no hE (runs_not hE rfl rfl rfl (by rw [hg75]; decide)) rfl ?_; clear hE a; intro a hE
            refine WL.no hE (runs_not hE rfl rfl rfl (by rw [hg75]; decide)) rfl ?_; clear hE a; intro a hE
            refine WL.no hE (runs_not hE rfl rfl rfl (by rw [hg75]; decide)) rfl ?_; clear hE a; intro a hE
            refine WL.no hE (runs_not hE rfl rfl rfl (by rw [hg75]; decide)) rfl ?_; clear hE a; intro a hE
            refine WL.vS hS hE (runs_plain rfl) (Gives.pickT hE rfl hg75 rfl) rfl ?_; clear hE a; intro a hE
            refine WL.vS hS hE (runs_plain rfl) (Gives.p hE rfl) rfl ?_; clear hE a; intro a hE
            refine WL.no hE (runs_not hE rfl rfl rfl (by decide)) rfl ?_; clear hE a; intro a hE
            refine WL.no hE (runs_not hE rfl rfl rfl (by decide)) rfl ?_; clear hE a; intro a hE
            refine WL.no hE (runs_not hE rfl rfl rfl (by decide)) rfl ?_; clear hE a; intro a hE
            refine WL.no hE (runs_not hE rfl rfl rfl (by decide)) rfl ?_; clear hE a; intro a hE
            refine WL.vS hS hE (runs_plain rfl) (Gives.pickT hE rfl rfl rfl) rfl ?_; clear hE a; intro a hE
            refine WL.vS hS hE (runs_plain rfl) (Gives.p hE rfl) rfl ?_; clear hE a; intro a hE
            refine WL.no hE (runs_not hE rfl rfl rfl (by decide)) rfl ?_; clear hE a; intro a hE
            refine WL.no hE (runs_not hE rfl rfl rfl (by decide)) rfl ?_; clear hE a; intro a hE
            refine WL.no hE (runs_not hE rfl rfl rfl (by decide)) rfl ?_; clear hE a; intro a hE
            refine WL.no hE (runs_not hE rfl rfl rfl (by decide)) rfl ?_; clear hE a; intro a hE
            refine WL.vS hS hE (runs_plain rfl) (Gives.pickT hE rfl rfl rfl) rfl ?_; clear hE a; intro a hE
            refine WL.nil ?_
            subst hK74
            exact ⟨true, hq69, hE.pick _ ⟨rfl, rfl, rfl, rfl, rfl, trivial⟩, hS⟩
          · replace hq69 := iteF hg75 hq69
            refine WL.vS hS hE (runs_if hE rfl rfl rfl hg75) (Gives.fld hE rfl fl34_1) rfl ?_; clear hE a; intro a hE
            refine WL.vS hS hE (runs_if hE rfl rfl rfl hg75) (Gives.loadB hE 0 rfl rfl rfl ty3) rfl ?_; clear hE a; intro a hE
            refine WL.fnq hE (Fishref2within_ok hS  rfl (r := Fishref2within x55.To 0 11)) (runs_if hE rfl rfl rfl hg75) bd11 rfl rfl rfl ?_
            clear hE hS; rintro e w ⟨rfl, hS⟩; refine ⟨_, rfl, ?_⟩; clear a; intro a hE
            refine WL.vS hS hE (runs_if hE rfl rfl rfl hg75) (Gives.p hE rfl) rfl ?_; clear hE a; intro a hE
            refine WL.vS hS hE (runs_plain rfl) (Gives.pickF hE rfl hg75 rfl) rfl ?_; clear hE a; intro a hE
            refine WL.vS hS hE (runs_plain rfl) (Gives.p hE rfl) rfl ?_; clear hE a; intro a hE
            rcases Bool.eq_false_or_eq_true (!(Fishref2within x55.To 0 11)) with hg76 | hg76
            · replace hq69 := iteT hg76 hq69
              refine WL.no hE (runs_not hE rfl rfl rfl (by rw [hg76]; decide)) rfl ?_; clear hE a; intro a hE
              refine WL.no hE (runs_not hE rfl rfl rfl (by rw [hg76]; decide)) rfl ?_; clear hE a; intro a hE
              refine WL.no hE (runs_not hE rfl rfl rfl (by rw [hg76]; decide)) rfl ?_; clear hE a; intro a hE
              refine WL.no hE (runs_not hE rfl rfl rfl (by rw [hg76]; decide)) rfl ?_; clear hE a; intro a hE
              refine WL.vS hS hE (runs_plain rfl) (Gives.pickT hE rfl hg76 rfl) rfl ?_; clear hE a; intro a hE
              refine WL.vS hS hE (runs_plain rfl) (Gives.p hE rfl) rfl ?_; clear hE a; intro a hE
              refine WL.no hE (runs_not hE rfl rfl rfl (by decide)) rfl ?_; clear hE a; intro a hE
              refine WL.no hE (runs_not hE rfl rfl rfl (by decide)) rfl ?_; clear hE a; intro a hE
              refine WL.no hE (runs_not hE rfl rfl rfl (by decide)) rfl ?_; clear hE a; intro a hE
              refine WL.no hE (runs_not hE rfl rfl rfl (by decide)) rfl ?_; clear hE a; intro a hE
              refine WL.vS hS hE (runs_plain rfl) (Gives.pickT hE rfl rfl rfl) rfl ?_; clear hE a; intro a hE
              refine WL.nil ?_
              subst hK74
              exact ⟨true, hq69, hE.pick _ ⟨rfl, rfl, rfl, rfl, rfl, trivial⟩, hS⟩
            · replace hq69 := iteF hg76 hq69
              refine WL.vS hS hE (runs_if hE rfl rfl rfl hg76) (Gives.fld hE rfl fl34_2) rfl ?_; clear hE a; intro a hE
              refine WL.vS hS hE (runs_if hE rfl rfl rfl hg76) (Gives.loadB hE 0 rfl rfl rfl ty3) rfl ?_; clear hE a; intro a hE
              refine WL.fnq hE (Fishref2within_ok hS  rfl (r := Fishref2within x55.Dep 0 28800)) (runs_if hE rfl rfl rfl hg76) bd11 rfl rfl rfl ?_
              clear hE hS; rintro e w ⟨rfl, hS⟩; refine ⟨_, rfl, ?_⟩; clear a; intro a hE
              refine WL.vS hS hE (runs_if hE rfl rfl rfl hg76) (Gives.p hE rfl) rfl ?_; clear hE a; intro a hE
              refine WL.vS hS hE (runs_plain rfl) (Gives.pickF hE rfl hg76 rfl) rfl ?_; clear hE a; intro a hE
              refine WL.vS hS hE (runs_plain rfl) (Gives.p hE rfl) rfl ?_; clear hE a; intro a hE
              rcases Bool.eq_false_or_eq_true (!(Fishref2within x55.Dep 0 28800)) with hg77 | hg77
              · replace hq69 := iteT hg77 hq69
                refine WL.no hE (runs_not hE rfl rfl rfl (by rw [hg77]; decide)) rfl ?_; clear hE a; intro a hE
                refine WL.no hE (runs_not hE rfl rfl rfl (by rw [hg77]; decide)) rfl ?_; clear hE a; intro a hE
                refine WL.no hE (runs_not hE rfl rfl rfl (by rw [hg77]; decide)) rfl ?_; clear hE a; intro a hE
                refine WL.no hE (runs_not hE rfl rfl rfl (by rw [hg77]; decide)) rfl ?_; clear hE a; intro a hE
                refine WL.vS hS hE (runs_plain rfl) (Gives.pickT hE rfl hg77 rfl) rfl ?_; clear hE a; intro a hE
                refine WL.nil ?_
                subst hK74
                exact ⟨true, hq69, hE.pick _ ⟨rfl, rfl, rfl, rfl, rfl, trivial⟩, hS⟩
              · replace hq69 := iteF hg77 hq69
                refine WL.vS hS hE (runs_if hE rfl rfl rfl hg77) (Gives.fld hE rfl fl34_3) rfl ?_; clear hE a; intro a hE
                refine WL.vS hS hE (runs_if hE rfl rfl rfl hg77) (Gives.loadB hE 0 rfl rfl rfl ty3) rfl ?_; clear hE a; intro a hE
                refine WL.fnq hE (Fishref2within_ok hS  rfl (r := Fishref2within x55.Arr 0 28800)) (runs_if hE rfl rfl rfl hg77) bd11 rfl rfl rfl ?_
                clear hE hS; rintro e w ⟨rfl, hS⟩; refine ⟨_, rfl, ?_⟩; clear a; intro a hE
                refine WL.vS hS hE (runs_if hE rfl rfl rfl hg77) (Gives.p hE rfl) rfl ?_; clear hE a; intro a hE
                refine WL.vS hS hE (runs_plain rfl) (Gives.pickF hE rfl hg77 rfl) rfl ?_; clear hE a; intro a hE
                refine WL.nil ?_
                subst hK74
                exact ⟨!(Fishref2within x55.Arr 0 28800), hq69, hE.pick _ ⟨rfl, rfl, rfl, rfl, rfl, trivial⟩, hS⟩
        · clear hE hS a w; rintro a w ⟨q73, rfl, hE, hS⟩
          refine W.cond hE rfl (fun hc78 => ?_) (fun hc78 => ?_)
          · replace hq52 := iteT hc78 hq52
            refine W.seq ?_
            refine W.region ?_
            refine WL.vS hS hE (runs_plain rfl) (Gives.p hE rfl) rfl ?_; clear hE a; intro a hE
            refine WL.nil ?_
            refine W.ret ?_
            subst hK63
            rw [← hq52] at hr
            dsimp only at hr
            refine finG (fn := Try.f5) (rs := [.tmp 2]) (vs := [_]) hE rfl ⟨rfl, trivial⟩ ?_
            subst hr
            replace hS := hS.tail
            exact ⟨rfl, hS⟩
          · replace hq52 := iteF hc78 hq52
            refine W.skip ?_
            refine W.seq ?_
            refine W.seq ?_
            refine W.region ?_
            refine WL.vS hS hE (runs_plain rfl) (Gives.fld hE rfl fl34_3) rfl ?_; clear hE a; intro a hE
            refine WL.vS hS hE (runs_plain rfl) (Gives.loadB hE 0 rfl rfl rfl ty3) rfl ?_; clear hE a; intro a hE
            refine WL.vS hS hE (runs_plain rfl) (Gives.fld hE rfl fl34_2) rfl ?_; clear hE a; intro a hE
            refine WL.vS hS hE (runs_plain rfl) (Gives.loadB hE 0 rfl rfl rfl ty3) rfl ?_; clear hE a; intro a hE
            refine WL.vS hS hE (runs_plain rfl) (Gives.p hE rfl) rfl ?_; clear hE a; intro a hE
            refine WL.nil ?_
            refine W.cond hE rfl (fun hc79 => ?_) (fun hc79 => ?_)
            · replace hq52 := iteT hc79 hq52
              refine W.seq ?_
              refine W.region ?_
              refine WL.vS hS hE (runs_plain rfl) (Gives.p hE rfl) rfl ?_; clear hE a; intro a hE
              refine WL.nil ?_
              refine W.ret ?_
              subst hK63
              rw [← hq52] at hr
              dsimp only at hr
              refine finG (fn := Try.f5) (rs := [.tmp 2]) (vs := [_]) hE rfl ⟨rfl, trivial⟩ ?_
              subst hr
              replace hS := hS.tail
              exact ⟨rfl, hS⟩
            · replace hq52 := iteF hc79 hq52
              refine W.skip ?_
              refine W.seq ?_
              obtain ⟨q81, hq80, hq52⟩ := bndS hq52
              refine W.cut (fun a w => ∃ (q84 : Bool), q84 = q81 ∧ Rep a 52 [(8, .slice a0 x0.length c0), (9, .int .i64 ((x0).length : Int)), (10, .int .i64 ((k54 : Nat) : Int)), (50, .bool q84)] ∧ St w s (pt b68 (.cells (FleetTask.cells x55).toArray 34 (0, 0)) :: R)) ?_ ?_
              · refine W.gen fun K85 hK85 => ?_
                refine W.region ?_
                refine WL.vS hS hE (runs_plain rfl) (Gives.fld hE rfl fl34_4) rfl ?_; clear hE a; intro a hE
                refine WL.vS hS hE (runs_plain rfl) (Gives.loadB hE 0 rfl rfl rfl ty3) rfl ?_; clear hE a; intro a hE
                refine WL.fnq hE (Fishref2within_ok hS  rfl (r := Fishref2within x55.Km 0 10000)) (runs_plain rfl) bd11 rfl rfl rfl ?_
                clear hE hS; rintro e w ⟨rfl, hS⟩; refine ⟨_, rfl, ?_⟩; clear a; intro a hE
                refine WL.vS hS hE (runs_plain rfl) (Gives.p hE rfl) rfl ?_; clear hE a; intro a hE
                refine WL.vS hS hE (runs_plain rfl) (Gives.p hE rfl) rfl ?_; clear hE a; intro a hE
                rcases Bool.eq_false_or_eq_true (!(Fishref2within x55.Km 0 10000)) with hg86 | hg86
                · replace hq80 := iteT hg86 hq80
                  refine WL.no hE (runs_not hE rfl rfl rfl (by rw [hg86]; decide)) rfl ?_; clear hE a; intro a hE
                  refine WL.no hE (runs_not hE rfl rfl rfl (by rw [hg86]; decide)) rfl ?_; clear hE a; intro a hE
                  refine WL.no hE (runs_not hE rfl rfl rfl (by rw [hg86]; decide)) rfl ?_; clear hE a; intro a hE
                  refine WL.no hE (runs_not hE rfl rfl rfl (by rw [hg86]; decide)) rfl ?_; clear hE a; intro a hE
                  refine WL.vS hS hE (runs_plain rfl) (Gives.pickT hE rfl hg86 rfl) rfl ?_; clear hE a; intro a hE
                  refine WL.nil ?_
                  subst hK85
                  exact ⟨true, hq80, hE.pick _ ⟨rfl, rfl, rfl, rfl, trivial⟩, hS⟩
                · replace hq80 := iteF hg86 hq80
                  refine WL.vS hS hE (runs_if hE rfl rfl rfl hg86) (Gives.fld hE rfl fl34_5) rfl ?_; clear hE a; intro a hE
                  refine WL.vS hS hE (runs_if hE rfl rfl rfl hg86) (Gives.loadB hE 0 rfl rfl rfl ty3) rfl ?_; clear hE a; intro a hE
                  refine WL.fnq hE (Fishref2within_ok hS  rfl (r := Fishref2within x55.Units 1 4)) (runs_if hE rfl rfl rfl hg86) bd11 rfl rfl rfl ?_
                  clear hE hS; rintro e w ⟨rfl, hS⟩; refine ⟨_, rfl, ?_⟩; clear a; intro a hE
                  refine WL.vS hS hE (runs_if hE rfl rfl rfl hg86) (Gives.p hE rfl) rfl ?_; clear hE a; intro a hE
                  refine WL.vS hS hE (runs_plain rfl) (Gives.pickF hE rfl hg86 rfl) rfl ?_; clear hE a; intro a hE
                  refine WL.nil ?_
                  subst hK85
                  exact ⟨!(Fishref2within x55.Units 1 4), hq80, hE.pick _ ⟨rfl, rfl, rfl, rfl, trivial⟩, hS⟩
              · clear hE hS a w; rintro a w ⟨q84, rfl, hE, hS⟩
                refine W.cond hE rfl (fun hc87 => ?_) (fun hc87 => ?_)
                · replace hq52 := iteT hc87 hq52
                  refine W.seq ?_
                  refine W.region ?_
                  refine WL.vS hS hE (runs_plain rfl) (Gives.p hE rfl) rfl ?_; clear hE a; intro a hE
                  refine WL.nil ?_
                  refine W.ret ?_
                  subst hK63
                  rw [← hq52] at hr
                  dsimp only at hr
                  refine finG (fn := Try.f5) (rs := [.tmp 2]) (vs := [_]) hE rfl ⟨rfl, trivial⟩ ?_
                  subst hr
                  replace hS := hS.tail
                  exact ⟨rfl, hS⟩
                · replace hq52 := iteF hc87 hq52
                  refine W.skip ?_
                  refine W.region ?_
                  refine WL.vS hS hE (runs_plain rfl) (Gives.inc hE rfl (by have := h0.small; omega)) rfl ?_; clear hE a; intro a hE
                  refine WL.vS hS hE (runs_plain rfl) (Gives.p hE rfl) rfl ?_; clear hE a; intro a hE
                  refine WL.nil ?_
                  replace hS := hS.tail
                  subst hK63
                  exact ⟨rest56.length, Nat.lt_succ_self _, rest56, k54 + 1, rfl, hd57, hq52, hE.pick _ ⟨rfl, rfl, rfl, trivial⟩, hS⟩
    · clear hE hS a w; rintro a w ⟨rfl, hE, hS⟩
      dsimp only at hr
      refine W.seq ?_
      refine W.region ?_
      refine WL.vS hS hE (runs_plain rfl) (Gives.p hE rfl) rfl ?_; clear hE a; intro a hE
      refine WL.nil ?_
      refine W.ret ?_
      refine finG (fn := Try.f5) (rs := [.tmp 2]) (vs := [_]) hE rfl ⟨rfl, trivial⟩ ?_
      subst hr
      exact ⟨rfl, hS⟩
set_option maxHeartbeats 8000000 in
theorem Fishref2SumsOf_ok  {w : World} {s : Sg} {R : List HP} {x0 : List FleetTask} {a0 : Option Addr} {c0 : Nat} {x1 : List (List Int)} {a1 : Option Addr} {c1 : Nat} (hS : St w s (R)) (h0 : Sl 6 RFleetTask s a0 c0 x0) (h1 : Sl 1 (RL 1 (RI .i64)) s a1 c1 x1) {r : (List (List Int)) × Int} (hr : Fishref2SumsOf x0 x1 = some r) :
    Calls Try.prog 6 [.slice a0 x0.length c0, .slice a1 x1.length c1].toArray w (fun e w => ∃ (a0 : Option Addr) (c0 n0 : Nat) (cs0 : List Value) (t : Sg), e = .returned (.tuple #[.slice a0 n0 c0, .int .i64 r.2]) ∧ s.Le t ∧ Ev 1 (RL 1 (RI .i64)) t cs0 r.1 ∧ r.1.length = n0 ∧ St w t (vecC 31 1 a0 c0 n0 cs0 :: R)) := by
  refine enter Try.func6 rfl rfl rfl fun a hE => ?_
  rw [Fishref2SumsOf] at hr
  refine W.seq ?_
  refine W.region ?_
  refine WL.vS hS hE (runs_plain rfl) (Gives.p hE rfl) rfl ?_; clear hE a; intro a hE
  refine WL.vS hS hE (runs_plain rfl) (Gives.p hE rfl) rfl ?_; clear hE a; intro a hE
  refine WL.nil ?_
  refine W.seq ?_
  refine W.region ?_
  replace hS := hS.vecNil 31 1
  refine WL.vS hS hE (runs_plain rfl) (Gives.p hE rfl) rfl ?_; clear hE a; intro a hE
  refine WL.nil ?_
  refine W.seq ?_
  refine W.seq ?_
  refine W.region ?_
  refine WL.vS hS hE (runs_plain rfl) (Gives.p hE rfl) rfl ?_; clear hE a; intro a hE
  refine WL.vS hS hE (runs_plain rfl) (Gives.len hE rfl sl23) rfl ?_; clear hE a; intro a hE
  refine WL.vS hS hE (runs_plain rfl) (Gives.p hE rfl) rfl ?_; clear hE a; intro a hE
  refine WL.nil ?_
  obtain ⟨q53, hq52, hr⟩ := bindS hr
  refine W.cut (fun a w => ∃ (q63 : List (List Int)), ∃ (a64 : Option Addr), ∃ (c65 : Nat), ∃ (n67 : Nat), ∃ (cs68 : List Value), ∃ (s61 : Sg), s.Le s61 ∧ (.next q63) = q53 ∧ Ev 1 (RL 1 (RI .i64)) s61 cs68 q63 ∧ q63.length = n67 ∧ Rep a 51 [(6, .slice a64 n67 c65)] ∧ St w s61 (vecC 31 1 a64 c65 n67 cs68 :: R)) ?_ ?_
  · refine W.block ?_
    refine W.loop (fun m a w => ∃ (rest56 : List (List Int)) (k54 : Nat), ∃ (q63 : List (List Int)), ∃ (a64 : Option Addr), ∃ (c65 : Nat), ∃ (n67 : Nat), ∃ (cs68 : List Value), ∃ (s61 : Sg), rest56.length = m ∧ x1.drop k54 = rest56 ∧ s.Le s61 ∧ Fishref2SumsOf.loop1 x0 rest56 q63 = some q53 ∧ Ev 1 (RL 1 (RI .i64)) s61 cs68 q63 ∧ q63.length = n67 ∧ Rep a 51 [(0, .slice a0 x0.length c0), (6, .slice a64 n67 c65), (13, .slice a1 x1.length c1), (14, .int .i64 ((x1).length : Int)), (15, .int .i64 ((k54 : Nat) : Int))] ∧ St w s61 (vecC 31 1 a64 c65 n67 cs68 :: R)) (m := x1.length) ⟨x1, 0, [], none, 0, 0, [], s, rfl, rfl, (Sg.Le.refl _), hq52, (Ev.nil), (rfl), hE.pick _ ⟨rfl, rfl, rfl, rfl, rfl, trivial⟩, hS⟩ ?_
    clear hE hS a w hq52; rintro m60 a w ⟨rest56, k54, q63, a64, c65, n67, cs68, s61, rfl, hd57, hle62, hq52, h66, rfl, hE, hS⟩
    refine W.gen fun K70 hK70 => ?_
    replace h0 := Sl.mono RFleetTask.mono hle62 h0
    replace h1 := Sl.mono (RL.mono RI.mono) hle62 h1
    rcases rest56 with _ | ⟨x55, rest56⟩
    · have hlt58 := drop_nil hd57
      refine W.seq ?_
      refine W.region ?_
      refine WL.vS hS hE (runs_plain rfl) (Gives.p hE rfl) rfl ?_; clear hE a; intro a hE
      refine WL.nil ?_
      refine W.seq ?_
      refine W.condF hE rfl (decide_eq_false (by omega)) ?_
      subst hK70
      refine W.exit rfl ?_
      exact ⟨q63, a64, c65, q63.length, cs68, s61, hle62, Option.some.inj hq52, h66, rfl, hE.pick _ ⟨rfl, trivial⟩, hS⟩
    · obtain ⟨hlt58, hx59, hd57⟩ := drop_cons hd57
      rw [Fishref2SumsOf.loop1] at hq52
      refine W.seq ?_
      refine W.region ?_
      refine WL.vS hS hE (runs_plain rfl) (Gives.p hE rfl) rfl ?_; clear hE a; intro a hE
      refine WL.nil ?_
      refine W.seq ?_
      refine W.condT hE rfl (decide_eq_true (by omega)) ?_
      refine W.skip ?_
      refine W.seq ?_
      refine W.block ?_
      refine W.seq ?_
      refine W.region ?_
      obtain ⟨cs71, hl72, hR73, hat74⟩ := h1.at hx59
      obtain ⟨a75, c76, rfl, h77⟩ := hR73
      refine WL.vS hS hE (runs_plain rfl) (Gives.idx hE k54 rfl rfl sl23 rfl hlt58 (h1.aok hlt58)) rfl ?_; clear hE a; intro a hE
      refine WL.vS hS hE (runs_plain rfl) (Gives.load1 hE rfl (fun w h => hat74 w _ h) ty31) rfl ?_; clear hE a; intro a hE
      refine WL.vS hS hE (runs_plain rfl) (Gives.p hE rfl) rfl ?_; clear hE a; intro a hE
      refine WL.nil ?_
      refine W.seq ?_
      refine W.region ?_
      refine WL.vS hS hE (runs_plain rfl) (Gives.p hE rfl) rfl ?_; clear hE a; intro a hE
      refine WL.nil ?_
      refine W.seq ?_
      refine W.region ?_
      replace hS := hS.vecNil 3 1
      refine WL.vS hS hE (runs_plain rfl) (Gives.p hE rfl) rfl ?_; clear hE a; intro a hE
      refine WL.nil ?_
      refine W.seq ?_
      refine W.seq ?_
      refine W.region ?_
      refine WL.vS hS hE (runs_plain rfl) (Gives.p hE rfl) rfl ?_; clear hE a; intro a hE
      refine WL.vS hS hE (runs_plain rfl) (Gives.len hE rfl sl31) rfl ?_; clear hE a; intro a hE
      refine WL.vS hS hE (runs_plain rfl) (Gives.p hE rfl) rfl ?_; clear hE a; intro a hE
      refine WL.nil ?_
      obtain ⟨q80, hq79, hq52⟩ := bindS hq52
      refine W.cut (fun a w => ∃ (q90 : Int), ∃ (q91 : List Int), ∃ (a92 : Option Addr), ∃ (c93 : Nat), ∃ (n95 : Nat), ∃ (cs96 : List Value), (.next (q90, q91)) = q80 ∧ Ev 1 (RI .i64) s61 cs96 q91 ∧ q91.length = n95 ∧ Rep a 51 [(0, .slice a0 x0.length c0), (6, .slice a64 q63.length c65), (10, .slice a92 n95 c93), (13, .slice a1 x1.length c1), (14, .int .i64 ((x1).length : Int)), (15, .int .i64 ((k54 : Nat) : Int))] ∧ St w s61 (vecC 3 1 a92 c93 n95 cs96 :: vecC 31 1 a64 c65 q63.length cs68 :: R)) ?_ ?_
      · refine W.block ?_
        refine W.loop (fun m a w => ∃ (rest83 : List Int) (k81 : Nat), ∃ (q90 : Int), ∃ (q91 : List Int), ∃ (a92 : Option Addr), ∃ (c93 : Nat), ∃ (n95 : Nat), ∃ (cs96 : List Value), rest83.length = m ∧ x55.drop k81 = rest83 ∧ Fishref2SumsOf.loop2 x0 rest83 q90 q91 = some q80 ∧ Ev 1 (RI .i64) s61 cs96 q91 ∧ q91.length = n95 ∧ Rep a 51 [(0, .slice a0 x0.length c0), (6, .slice a64 q63.length c65), (9, .int .i64 q90), (10, .slice a92 n95 c93), (13, .slice a1 x1.length c1), (14, .int .i64 ((x1).length : Int)), (15, .int .i64 ((k54 : Nat) : Int)), (19, .slice a75 x55.length c76), (20, .int .i64 ((x55).length : Int)), (21, .int .i64 ((k81 : Nat) : Int))] ∧ St w s61 (vecC 3 1 a92 c93 n95 cs96 :: vecC 31 1 a64 c65 q63.length cs68 :: R)) (m := x55.length) ⟨x55, 0, 0, [], none, 0, 0, [], rfl, rfl, hq79, (Ev.nil), (rfl), hE.pick _ ⟨rfl, rfl, rfl, rfl, rfl, rfl, rfl, rfl, rfl, rfl, trivial⟩, hS⟩ ?_
        clear hE hS a w hq79; rintro m87 a w ⟨rest83, k81, q90, q91, a92, c93, n95, cs96, rfl, hd84, hq79, h94, rfl, hE, hS⟩
        refine W.gen fun K98 hK98 => ?_
        rcases rest83 with _ | ⟨x82, rest83⟩
        · have hlt85 := drop_nil hd84
          refine W.seq ?_
          refine W.region ?_
          refine WL.vS hS hE (runs_plain rfl) (Gives.p hE rfl) rfl ?_; clear hE a; intro a hE
          refine WL.nil ?_
          refine W.seq ?_
          refine W.condF hE rfl (decide_eq_false (by omega)) ?_
          subst hK98
          refine W.exit rfl ?_
          exact ⟨q90, q91, a92, c93, q91.length, cs96, Option.some.inj hq79, h94, rfl, hE.pick _ ⟨rfl, rfl, rfl, rfl, rfl, rfl, trivial⟩, hS⟩
        · obtain ⟨hlt85, hx86, hd84⟩ := drop_cons hd84
          rw [Fishref2SumsOf.loop2] at hq79
          refine W.seq ?_
          refine W.region ?_
          refine WL.vS hS hE (runs_plain rfl) (Gives.p hE rfl) rfl ?_; clear hE a; intro a hE
          refine WL.nil ?_
          refine W.seq ?_
          refine W.condT hE rfl (decide_eq_true (by omega)) ?_
          refine W.skip ?_
          refine W.seq ?_
          refine W.block ?_
          refine W.seq ?_
          refine W.region ?_
          obtain ⟨cs99, hl100, hR101, hat102⟩ := h77.at hx86
          subst hR101
          refine WL.vS hS hE (runs_plain rfl) (Gives.idx hE k81 rfl rfl sl31 rfl hlt85 (h77.aok hlt85)) rfl ?_; clear hE a; intro a hE
          refine WL.vS hS hE (runs_plain rfl) (Gives.load1 hE rfl (fun w h => hat102 w _ h) ty3) rfl ?_; clear hE a; intro a hE
          refine WL.vS hS hE (runs_plain rfl) (Gives.p hE rfl) rfl ?_; clear hE a; intro a hE
          refine WL.nil ?_
          refine W.seq ?_
          refine W.seq ?_
          obtain ⟨q104, hq103, hq79⟩ := bndS hq79
          refine W.cut (fun a w => ∃ (q107 : Bool), q107 = q104 ∧ Rep a 51 [(0, .slice a0 x0.length c0), (6, .slice a64 q63.length c65), (9, .int .i64 q90), (10, .slice a92 q91.length c93), (12, .int .i64 x82), (13, .slice a1 x1.length c1), (14, .int .i64 ((x1).length : Int)), (15, .int .i64 ((k54 : Nat) : Int)), (19, .slice a75 x55.length c76), (20, .int .i64 ((x55).length : Int)), (21, .int .i64 ((k81 : Nat) : Int)), (32, .bool q107)] ∧ St w s61 (vecC 3 1 a92 c93 q91.length cs96 :: vecC 31 1 a64 c65 q63.length cs68 :: R)) ?_ ?_
          · refine W.gen fun K108 hK108 => ?_
            refine W.region ?_
            refine WL.vS hS hE (runs_plain rfl) (Gives.p hE rfl) rfl ?_; clear hE a; intro a hE
            refine WL.vS hS hE (runs_plain rfl) (Gives.p hE rfl) rfl ?_; clear hE a; intro a hE
            refine WL.vS hS hE (runs_plain rfl) (Gives.p hE rfl) rfl ?_; clear hE a; intro a hE
            rcases Bool.eq_false_or_eq_true (decide (x82 < 0)) with hg109 | hg109
            · replace hq103 := iteT hg109 hq103
              refine WL.no hE (runs_not hE rfl rfl rfl (by rw [hg109]; decide)) rfl ?_; clear hE a; intro a hE
              refine WL.no hE (runs_not hE rfl rfl rfl (by rw [hg109]; decide)) rfl ?_; clear hE a; intro a hE
              refine WL.no hE (runs_not hE rfl rfl rfl (by rw [hg109]; decide)) rfl ?_; clear hE a; intro a hE
              refine WL.no hE (runs_not hE rfl rfl rfl (by rw [hg109]; decide)) rfl ?_; clear hE a; intro a hE
              refine WL.vS hS hE (runs_plain rfl) (Gives.pickT hE rfl hg109 rfl) rfl ?_; clear hE a; intro a hE
              refine WL.nil ?_
              subst hK108
              exact ⟨true, hq103, hE.pick _ ⟨rfl, rfl, rfl, rfl, rfl, rfl, rfl, rfl, rfl, rfl, rfl, rfl, trivial⟩, hS⟩
            · replace hq103 := iteF hg109 hq103
              refine WL.vS hS hE (runs_if hE rfl rfl rfl hg109) (Gives.p hE rfl) rfl ?_; clear hE a; intro a hE
              refine WL.vS hS hE (runs_if hE rfl rfl rfl hg109) (Gives.p hE rfl) rfl ?_; clear hE a; intro a hE
              refine WL.vS hS hE (runs_if hE rfl rfl rfl hg109) (Gives.len hE rfl sl22) rfl ?_; clear hE a; intro a hE
              refine WL.vS hS hE (runs_if hE rfl rfl rfl hg109) (Gives.p hE rfl) rfl ?_; clear hE a; intro a hE
              refine WL.vS hS hE (runs_plain rfl) (Gives.pickF hE rfl hg109 rfl) rfl ?_; clear hE a; intro a hE
              refine WL.nil ?_
              subst hK108
              exact ⟨decide (x82 ≥ ((x0).length : Int)), hq103, hE.pick _ ⟨rfl, rfl, rfl, rfl, rfl, rfl, rfl, rfl, rfl, rfl, rfl, rfl, trivial⟩, hS⟩
          · clear hE hS a w; rintro a w ⟨q107, rfl, hE, hS⟩
            refine W.cond hE rfl (fun hc110 => ?_) (fun hc110 => ?_)
            · replace hq79 := iteT hc110 hq79
              refine W.seq ?_
              refine W.region ?_
              refine WL.vS hS hE (runs_plain rfl) (Gives.p hE rfl) rfl ?_; clear hE a; intro a hE
              refine WL.vS hS hE (runs_plain rfl) (Gives.p hE rfl) rfl ?_; clear hE a; intro a hE
              refine WL.nil ?_
              refine W.ret ?_
              subst hK98
              subst hK70
              rw [← Option.some.inj hq79] at hq52
              dsimp only at hq52
              rw [← Option.some.inj hq52] at hr
              dsimp only at hr
              replace hS := hS.vecNil 31 1
              refine finG (fn := Try.f6) (rs := [.tmp 4, .tmp 5]) (vs := [_, _]) hE rfl ⟨rfl, rfl, trivial⟩ ?_
              obtain rfl := Option.some.inj hr
              replace hS := hS.dropAt 1
              replace hS := hS.dropAt 1
              exact ⟨none, 0, 0, [], s61, rfl, hle62, (Ev.nil), (rfl), hS⟩
            · replace hq79 := iteF hc110 hq79
              refine W.skip ?_
              refine W.seq ?_
              refine W.region ?_
              refine WL.vS hS hE (runs_plain rfl) (Gives.p hE rfl) rfl ?_; clear hE a; intro a hE
              refine WL.vS hS hE (runs_plain rfl) (Gives.p hE rfl) rfl ?_; clear hE a; intro a hE
              refine WL.vS hS hE (runs_plain rfl) (Gives.p hE rfl) rfl ?_; clear hE a; intro a hE
              obtain ⟨x112, hx113, hq79⟩ := bindS hq79
              obtain ⟨hi114, hlt115, hy116⟩ := gx_some hx113
              obtain ⟨cs117, hl118, hR119, hat120⟩ := h0.at hy116
              subst hR119
              refine WL.vS hS hE (runs_plain rfl) (Gives.idx hE (x82).toNat rfl rfl sl22 hi114 hlt115 (h0.aok hlt115)) rfl ?_; clear hE a; intro a hE
              refine WL.vS hS hE (runs_plain rfl) (Gives.fld hE rfl fl34_4) rfl ?_; clear hE a; intro a hE
              refine WL.vS hS hE (runs_plain rfl) (Gives.load1 hE rfl (fun w h => (hat120 w _ h).one rfl) ty3) rfl ?_; clear hE a; intro a hE
              refine WL.vS hS hE (runs_plain rfl) (Gives.p hE rfl) rfl ?_; clear hE a; intro a hE
              refine WL.vS hS hE (runs_plain rfl) (Gives.p hE rfl) rfl ?_; clear hE a; intro a hE
              refine WL.nil ?_
              refine W.region ?_
              refine WL.vS hS hE (runs_plain rfl) (Gives.p hE rfl) rfl ?_; clear hE a; intro a hE
              refine WL.vS hS hE (runs_plain rfl) (Gives.p hE rfl) rfl ?_; clear hE a; intro a hE
              refine WL.lit hE hS (e := 3) (es := 1) (vs := [(0, .int .i64 (w64 (q90 + x112.Km)))]) (cs := [.int .i64 (w64 (q90 + x112.Km))]) (runs_plain rfl) rfl (by kernel_rfl) rfl ?_; clear hE hS a w; intro b121 a w hE hS
              obtain ⟨x122, hx123, hq79⟩ := bindS hq79
              refine WL.appDW (kk := 8) hE hS 0 (m := 1) (runs_plain rfl) rfl rfl rfl aw31 rfl h94 rfl (xs := [w64 (q90 + x112.Km)]) (Ev.cons (c1 := [.int .i64 (w64 (q90 + x112.Km))]) rfl rfl (Ev.nil)) rfl rfl hx123 rfl ?_; clear hE hS a w; intro a124 c125 cs126 a w h127 hE hS
              refine WL.vS hS hE (runs_plain rfl) (Gives.p hE rfl) rfl ?_; clear hE a; intro a hE
              refine WL.nil ?_
              refine W.region ?_
              refine WL.vS hS hE (runs_plain rfl) (Gives.inc hE rfl (by have := h77.small; omega)) rfl ?_; clear hE a; intro a hE
              refine WL.vS hS hE (runs_plain rfl) (Gives.p hE rfl) rfl ?_; clear hE a; intro a hE
              refine WL.nil ?_
              subst hK98
              exact ⟨rest83.length, Nat.lt_succ_self _, rest83, k81 + 1, (w64 (q90 + x112.Km)), x122, a124, c125, x122.length, cs126, rfl, hd84, hq79, h127, (rfl), hE.pick _ ⟨rfl, rfl, rfl, rfl, rfl, rfl, rfl, rfl, rfl, rfl, trivial⟩, hS⟩
      · clear hE hS a w; rintro a w ⟨q90, q91, a92, c93, n95, cs96, rfl, h94, rfl, hE, hS⟩
        dsimp only at hq52
        refine W.region ?_
        refine WL.vS hS hE (runs_plain rfl) (Gives.p hE rfl) rfl ?_; clear hE a; intro a hE
        refine WL.vS hS hE (runs_plain rfl) (Gives.p hE rfl) rfl ?_; clear hE a; intro a hE
        have hF := hS.fixD RI.mono 0 rfl h94 rfl; clear hS; obtain ⟨s128, hle129, hS, h130⟩ := hF
        replace h0 := Sl.mono RFleetTask.mono hle129 h0
        replace h1 := Sl.mono (RL.mono RI.mono) hle129 h1
        replace h66 := Ev.mono (RL.mono RI.mono) hle129 h66
        refine WL.lit hE hS (e := 31) (es := 1) (vs := [(0, .slice a92 q91.length c93)]) (cs := [.slice a92 q91.length c93]) (runs_plain rfl) rfl (by kernel_rfl) rfl ?_; clear hE hS a w; intro b131 a w hE hS
        obtain ⟨x132, hx133, hq52⟩ := bindS hq52
        refine WL.appDW (kk := 24) hE hS 0 (m := 1) (runs_plain rfl) rfl rfl rfl aw23 rfl h66 rfl (xs := [q91]) (Ev.cons (c1 := [.slice a92 q91.length c93]) ⟨_, _, rfl, h130⟩ rfl (Ev.nil)) rfl rfl hx133 rfl ?_; clear hE hS a w; intro a134 c135 cs136 a w h137 hE hS
        refine WL.vS hS hE (runs_plain rfl) (Gives.p hE rfl) rfl ?_; clear hE a; intro a hE
        refine WL.nil ?_
        refine W.region ?_
        refine WL.vS hS hE (runs_plain rfl) (Gives.inc hE rfl (by have := h1.small; omega)) rfl ?_; clear hE a; intro a hE
        refine WL.vS hS hE (runs_plain rfl) (Gives.p hE rfl) rfl ?_; clear hE a; intro a hE
        refine WL.nil ?_
        subst hK70
        exact ⟨rest56.length, Nat.lt_succ_self _, rest56, k54 + 1, x132, a134, c135, x132.length, cs136, s128, rfl, hd57, (Sg.Le.trans hle62 hle129), hq52, h137, (rfl), hE.pick _ ⟨rfl, rfl, rfl, rfl, rfl, trivial⟩, hS⟩
  · clear hE hS a w; rintro a w ⟨q63, a64, c65, n67, cs68, s61, hle62, rfl, h66, rfl, hE, hS⟩
    dsimp only at hr
    replace h0 := Sl.mono RFleetTask.mono hle62 h0
    replace h1 := Sl.mono (RL.mono RI.mono) hle62 h1
    refine W.seq ?_
    refine W.region ?_
    refine WL.vS hS hE (runs_plain rfl) (Gives.p hE rfl) rfl ?_; clear hE a; intro a hE
    refine WL.vS hS hE (runs_plain rfl) (Gives.p hE rfl) rfl ?_; clear hE a; intro a hE
    refine WL.vS hS hE (runs_plain rfl) (Gives.p hE rfl) rfl ?_; clear hE a; intro a hE
    refine WL.nil ?_
    refine W.ret ?_
    refine finG (fn := Try.f6) (rs := [.tmp 4, .tmp 5]) (vs := [_, _]) hE rfl ⟨rfl, rfl, trivial⟩ ?_
    obtain rfl := Option.some.inj hr
    exact ⟨a64, c65, q63.length, cs68, s61, rfl, hle62, h66, rfl, hS⟩
set_option maxHeartbeats 8000000 in
theorem FleetcheckTurn_ok  {w : World} {s : Sg} {R : List HP} {x0 : List FleetTask} {a0 : Option Addr} {c0 : Nat} {x1 : Int} (hS : St w s (R)) (h0 : Sl 6 RFleetTask s a0 c0 x0) {r : Int} (hr : FleetcheckTurn x0 x1 = r) :
    Calls Try.prog 15 [.slice a0 x0.length c0, .int .i64 x1].toArray w (fun e w => e = .returned (.int .i64 r) ∧ St w s (R)) := by
  refine enter Try.func15 rfl rfl rfl fun a hE => ?_
  rw [FleetcheckTurn] at hr
  refine W.seq ?_
  refine W.region ?_
  refine WL.vS hS hE (runs_plain rfl) (Gives.p hE rfl) rfl ?_; clear hE a; intro a hE
  refine WL.nil ?_
  refine W.seq ?_
  refine W.seq ?_
  refine W.region ?_
  refine WL.vS hS hE (runs_plain rfl) (Gives.p hE rfl) rfl ?_; clear hE a; intro a hE
  refine WL.fnq hE (FleetCheckTasks_ok hS h0 rfl (r := FleetCheckTasks x0)) (runs_plain rfl) bd9 rfl rfl rfl ?_
  clear hE hS; rintro e w ⟨rfl, hS⟩; refine ⟨_, rfl, ?_⟩; clear a; intro a hE
  refine WL.vS hS hE (runs_plain rfl) (Gives.p hE rfl) rfl ?_; clear hE a; intro a hE
  refine WL.nil ?_
  refine W.seq ?_
  refine W.region ?_
  refine WL.vS hS hE (runs_plain rfl) (Gives.p hE rfl) rfl ?_; clear hE a; intro a hE
  refine WL.vS hS hE (runs_plain rfl) (Gives.p hE rfl) rfl ?_; clear hE a; intro a hE
  refine WL.nil ?_
  refine W.cond hE rfl (fun hc51 => ?_) (fun hc51 => ?_)
  · replace hr := iteT hc51 hr
    refine W.seq ?_
    refine W.region ?_
    refine WL.vS hS hE (runs_plain rfl) (Gives.p hE rfl) rfl ?_; clear hE a; intro a hE
    refine WL.vS hS hE (runs_plain rfl) (Gives.p hE rfl) rfl ?_; clear hE a; intro a hE
    refine WL.nil ?_
    refine W.ret ?_
    refine finG (fn := Try.f15) (rs := [.tmp 4]) (vs := [_]) hE rfl ⟨rfl, trivial⟩ ?_
    subst hr
    exact ⟨rfl, hS⟩
  · replace hr := iteF hc51 hr
    refine W.skip ?_
    refine W.seq ?_
    refine W.seq ?_
    refine W.region ?_
    refine WL.vS hS hE (runs_plain rfl) (Gives.p hE rfl) rfl ?_; clear hE a; intro a hE
    refine WL.fnq hE (Fleetwithin_ok hS  rfl (r := Fleetwithin x1 0 28800)) (runs_plain rfl) bd10 rfl rfl rfl ?_
    clear hE hS; rintro e w ⟨rfl, hS⟩; refine ⟨_, rfl, ?_⟩; clear a; intro a hE
    refine WL.vS hS hE (runs_plain rfl) (Gives.p hE rfl) rfl ?_; clear hE a; intro a hE
    refine WL.nil ?_
    refine W.cond hE rfl (fun hc52 => ?_) (fun hc52 => ?_)
    · replace hr := iteT hc52 hr
      refine W.seq ?_
      refine W.region ?_
      refine WL.vS hS hE (runs_plain rfl) (Gives.p hE rfl) rfl ?_; clear hE a; intro a hE
      refine WL.nil ?_
      refine W.ret ?_
      refine finG (fn := Try.f15) (rs := [.tmp 4]) (vs := [_]) hE rfl ⟨rfl, trivial⟩ ?_
      subst hr
      exact ⟨rfl, hS⟩
    · replace hr := iteF hc52 hr
      refine W.skip ?_
      refine W.seq ?_
      refine W.region ?_
      refine WL.vS hS hE (runs_plain rfl) (Gives.p hE rfl) rfl ?_; clear hE a; intro a hE
      refine WL.nil ?_
      refine W.ret ?_
      refine finG (fn := Try.f15) (rs := [.tmp 4]) (vs := [_]) hE rfl ⟨rfl, trivial⟩ ?_
      subst hr
      exact ⟨rfl, hS⟩
set_option maxHeartbeats 8000000 in
theorem CmpisNaNint_ok  {w : World} {s : Sg} {R : List HP} {x0 : Int} (hS : St w s (R))  {r : Bool} (hr : CmpisNaNint x0 = r) :
    Calls Try.prog 22 [.int .i64 x0].toArray w (fun e w => e = .returned (.bool r) ∧ St w s (R)) := by
  refine enter Try.func22 rfl rfl rfl fun a hE => ?_
  rw [CmpisNaNint] at hr
  refine W.seq ?_
  refine W.region ?_
  refine WL.vS hS hE (runs_plain rfl) (Gives.p hE rfl) rfl ?_; clear hE a; intro a hE
  refine WL.nil ?_
  refine W.seq ?_
  refine W.region ?_
  refine WL.vS hS hE (runs_plain rfl) (Gives.p hE rfl) rfl ?_; clear hE a; intro a hE
  refine WL.vS hS hE (runs_plain rfl) (Gives.p hE rfl) rfl ?_; clear hE a; intro a hE
  refine WL.vS hS hE (runs_plain rfl) (Gives.p hE rfl) rfl ?_; clear hE a; intro a hE
  refine WL.vS hS hE (runs_plain rfl) (Gives.p hE rfl) rfl ?_; clear hE a; intro a hE
  refine WL.nil ?_
  refine W.ret ?_
  refine finG (fn := Try.f22) (rs := [.tmp 2]) (vs := [_]) hE rfl ⟨rfl, trivial⟩ ?_
  subst hr
  exact ⟨rfl, hS⟩
set_option maxHeartbeats 8000000 in
theorem CmpCompareint_ok  {w : World} {s : Sg} {R : List HP} {x0 : Int} {x1 : Int} (hS : St w s (R))  {r : Int} (hr : CmpCompareint x0 x1 = r) :
    Calls Try.prog 20 [.int .i64 x0, .int .i64 x1].toArray w (fun e w => e = .returned (.int .i64 r) ∧ St w s (R)) := by
  refine enter Try.func20 rfl rfl rfl fun a hE => ?_
  rw [CmpCompareint] at hr
  refine W.seq ?_
  refine W.region ?_
  refine WL.vS hS hE (runs_plain rfl) (Gives.p hE rfl) rfl ?_; clear hE a; intro a hE
  refine WL.nil ?_
  refine W.seq ?_
  refine W.region ?_
  refine WL.vS hS hE (runs_plain rfl) (Gives.p hE rfl) rfl ?_; clear hE a; intro a hE
  refine WL.fnq hE (CmpisNaNint_ok hS  rfl (r := CmpisNaNint x0)) (runs_plain rfl) bd22 rfl rfl rfl ?_
  clear hE hS; rintro e w ⟨rfl, hS⟩; refine ⟨_, rfl, ?_⟩; clear a; intro a hE
  refine WL.vS hS hE (runs_plain rfl) (Gives.p hE rfl) rfl ?_; clear hE a; intro a hE
  refine WL.nil ?_
  refine W.seq ?_
  refine W.region ?_
  refine WL.vS hS hE (runs_plain rfl) (Gives.p hE rfl) rfl ?_; clear hE a; intro a hE
  refine WL.fnq hE (CmpisNaNint_ok hS  rfl (r := CmpisNaNint x1)) (runs_plain rfl) bd22 rfl rfl rfl ?_
  clear hE hS; rintro e w ⟨rfl, hS⟩; refine ⟨_, rfl, ?_⟩; clear a; intro a hE
  refine WL.vS hS hE (runs_plain rfl) (Gives.p hE rfl) rfl ?_; clear hE a; intro a hE
  refine WL.nil ?_
  refine W.seq ?_
  refine W.seq ?_
  refine W.region ?_
  refine WL.vS hS hE (runs_plain rfl) (Gives.p hE rfl) rfl ?_; clear hE a; intro a hE
  refine WL.nil ?_
  refine W.cond hE rfl (fun hc51 => ?_) (fun hc51 => ?_)
  · replace hr := iteT hc51 hr
    refine W.seq ?_
    refine W.seq ?_
    refine W.region ?_
    refine WL.vS hS hE (runs_plain rfl) (Gives.p hE rfl) rfl ?_; clear hE a; intro a hE
    refine WL.nil ?_
    refine W.cond hE rfl (fun hc52 => ?_) (fun hc52 => ?_)
    · replace hr := iteT hc52 hr
      refine W.seq ?_
      refine W.region ?_
      refine WL.vS hS hE (runs_plain rfl) (Gives.p hE rfl) rfl ?_; clear hE a; intro a hE
      refine WL.nil ?_
      refine W.ret ?_
      refine finG (fn := Try.f20) (rs := [.tmp 4]) (vs := [_]) hE rfl ⟨rfl, trivial⟩ ?_
      subst hr
      exact ⟨rfl, hS⟩
    · replace hr := iteF hc52 hr
      refine W.skip ?_
      refine W.seq ?_
      refine W.region ?_
      refine WL.vS hS hE (runs_plain rfl) (Gives.p hE rfl) rfl ?_; clear hE a; intro a hE
      refine WL.nil ?_
      refine W.ret ?_
      refine finG (fn := Try.f20) (rs := [.tmp 4]) (vs := [_]) hE rfl ⟨rfl, trivial⟩ ?_
      subst hr
      exact ⟨rfl, hS⟩
  · replace hr := iteF hc51 hr
    refine W.skip ?_
    refine W.seq ?_
    refine W.seq ?_
    refine W.region ?_
    refine WL.vS hS hE (runs_plain rfl) (Gives.p hE rfl) rfl ?_; clear hE a; intro a hE
    refine WL.nil ?_
    refine W.cond hE rfl (fun hc53 => ?_) (fun hc53 => ?_)
    · replace hr := iteT hc53 hr
      refine W.seq ?_
      refine W.region ?_
      refine WL.vS hS hE (runs_plain rfl) (Gives.p hE rfl) rfl ?_; clear hE a; intro a hE
      refine WL.nil ?_
      refine W.ret ?_
      refine finG (fn := Try.f20) (rs := [.tmp 4]) (vs := [_]) hE rfl ⟨rfl, trivial⟩ ?_
      subst hr
      exact ⟨rfl, hS⟩
    · replace hr := iteF hc53 hr
      refine W.skip ?_
      refine W.seq ?_
      refine W.seq ?_
      refine W.region ?_
      refine WL.vS hS hE (runs_plain rfl) (Gives.p hE rfl) rfl ?_; clear hE a; intro a hE
      refine WL.vS hS hE (runs_plain rfl) (Gives.p hE rfl) rfl ?_; clear hE a; intro a hE
      refine WL.vS hS hE (runs_plain rfl) (Gives.p hE rfl) rfl ?_; clear hE a; intro a hE
      refine WL.nil ?_
      refine W.cond hE rfl (fun hc54 => ?_) (fun hc54 => ?_)
      · replace hr := iteT hc54 hr
        refine W.seq ?_
        refine W.region ?_
        refine WL.vS hS hE (runs_plain rfl) (Gives.p hE rfl) rfl ?_; clear hE a; intro a hE
        refine WL.nil ?_
        refine W.ret ?_
        refine finG (fn := Try.f20) (rs := [.tmp 4]) (vs := [_]) hE rfl ⟨rfl, trivial⟩ ?_
        subst hr
        exact ⟨rfl, hS⟩
      · replace hr := iteF hc54 hr
        refine W.skip ?_
        refine W.seq ?_
        refine W.seq ?_
        refine W.region ?_
        refine WL.vS hS hE (runs_plain rfl) (Gives.p hE rfl) rfl ?_; clear hE a; intro a hE
        refine WL.vS hS hE (runs_plain rfl) (Gives.p hE rfl) rfl ?_; clear hE a; intro a hE
        refine WL.vS hS hE (runs_plain rfl) (Gives.p hE rfl) rfl ?_; clear hE a; intro a hE
        refine WL.nil ?_
        refine W.cond hE rfl (fun hc55 => ?_) (fun hc55 => ?_)
        · replace hr := iteT hc55 hr
          refine W.seq ?_
          refine W.region ?_
          refine WL.vS hS hE (runs_plain rfl) (Gives.p hE rfl) rfl ?_; clear hE a; intro a hE
          refine WL.nil ?_
          refine W.ret ?_
          refine finG (fn := Try.f20) (rs := [.tmp 4]) (vs := [_]) hE rfl ⟨rfl, trivial⟩ ?_
          subst hr
          exact ⟨rfl, hS⟩
        · replace hr := iteF hc55 hr
          refine W.skip ?_
          refine W.seq ?_
          refine W.region ?_
          refine WL.vS hS hE (runs_plain rfl) (Gives.p hE rfl) rfl ?_; clear hE a; intro a hE
          refine WL.nil ?_
          refine W.ret ?_
          refine finG (fn := Try.f20) (rs := [.tmp 4]) (vs := [_]) hE rfl ⟨rfl, trivial⟩ ?_
          subst hr
          exact ⟨rfl, hS⟩
set_option maxHeartbeats 8000000 in
theorem Fleetorder_1_v1_ok  {w : World} {s : Sg} {R : List HP} {pb0 : Nat} {x0 : Int} {x1 : Int} {y0 : List FleetTask} {a_y0_0 : Option Addr} {c_y0_0 : Nat} (hS : St w s (pt pb0 (.cells #[.slice a_y0_0 y0.length c_y0_0] 22 (0, 0)) :: R)) (h_y0_0 : Sl 6 RFleetTask s a_y0_0 c_y0_0 y0) {r : Int} (hr : Fleetorder_1_v1 x0 x1 y0 = some r) :
    Calls Try.prog 19 [.int .i64 x0, .int .i64 x1, .pointer (some ⟨pb0, 0, none⟩)].toArray w (fun e w => e = .returned (.int .i64 r) ∧ St w s (pt pb0 (.cells #[.slice a_y0_0 y0.length c_y0_0] 22 (0, 0)) :: R)) := by
  refine enter Try.func19 rfl rfl rfl fun a hE => ?_
  rw [Fleetorder_1_v1] at hr
  refine W.seq ?_
  refine W.region ?_
  refine WL.vS hS hE (runs_plain rfl) (Gives.p hE rfl) rfl ?_; clear hE a; intro a hE
  refine WL.nil ?_
  refine W.seq ?_
  refine W.regionQ (C := fun w => St w s (pt pb0 (.cells #[.slice a_y0_0 y0.length c_y0_0] 22 (0, 0)) :: R)) mixed (by kernel_rfl) hS.drew ?_
  refine QL.v hE (runs_plain rfl) (Gives.loadB hE 0 rfl rfl rfl ty22) rfl ?_; clear hE a; intro a hE
  refine QL.v hE (runs_plain rfl) (Gives.p hE rfl) rfl ?_; clear hE a; intro a hE
  obtain ⟨x51, hx52, hr⟩ := bindS hr
  obtain ⟨hi53, hlt54, hy55⟩ := gx_some hx52
  obtain ⟨cs56, hl57, hR58, hat59⟩ := h_y0_0.at hy55
  subst hR58
  refine QL.v hE (runs_plain rfl) (Gives.idx hE (x0).toNat rfl rfl sl22 hi53 hlt54 (h_y0_0.aok hlt54)) rfl ?_; clear hE a; intro a hE
  refine QL.v hE (runs_plain rfl) (Gives.fld hE rfl fl34_2) rfl ?_; clear hE a; intro a hE
  refine QL.v hE (runs_plain rfl) (Gives.load1 hE rfl (fun w h => (hat59 w _ h).one rfl) ty3) rfl ?_; clear hE a; intro a hE
  refine QL.v hE (runs_plain rfl) (Gives.loadB hE 0 rfl rfl rfl ty22) rfl ?_; clear hE a; intro a hE
  refine QL.v hE (runs_plain rfl) (Gives.p hE rfl) rfl ?_; clear hE a; intro a hE
  obtain ⟨x60, hx61, hr⟩ := bindS hr
  obtain ⟨hi62, hlt63, hy64⟩ := gx_some hx61
  obtain ⟨cs65, hl66, hR67, hat68⟩ := h_y0_0.at hy64
  subst hR67
  refine QL.v hE (runs_plain rfl) (Gives.idx hE (x1).toNat rfl rfl sl22 hi62 hlt63 (h_y0_0.aok hlt63)) rfl ?_; clear hE a; intro a hE
  refine QL.v hE (runs_plain rfl) (Gives.fld hE rfl fl34_2) rfl ?_; clear hE a; intro a hE
  refine QL.v hE (runs_plain rfl) (Gives.load1 hE rfl (fun w h => (hat68 w _ h).one rfl) ty3) rfl ?_; clear hE a; intro a hE
  refine QL.fnq hE (fun w hS => CmpCompareint_ok hS  rfl (r := CmpCompareint x51.Dep x60.Dep)) (runs_plain rfl) bd20 rfl rfl rfl ?_; clear hE a; intro a hE
  refine QL.v hE (runs_plain rfl) (Gives.p hE rfl) rfl ?_; clear hE a; intro a hE
  refine QL.nil ?_; clear hS w; intro w hS
  refine W.ret ?_
  refine finG (fn := Try.f19) (rs := [.tmp 5]) (vs := [_]) hE rfl ⟨rfl, trivial⟩ ?_
  obtain rfl := Option.some.inj hr
  exact ⟨rfl, hS⟩
set_option maxHeartbeats 8000000 in
theorem SlicesinsertionSortCmpFuncint_v1_ok {fu : Nat}  {w : World} {s : Sg} {R : List HP} {pb0 : Nat} {x0 : List Int} {a_v0 : Option Addr} {c_v0 n_v0 : Nat} {cs_v0 : List Value} {x1 : Int} {x2 : Int} {y0 : List FleetTask} {a_y0_0 : Option Addr} {c_y0_0 : Nat} (hS : St w s (pt pb0 (.cells #[.slice a_y0_0 y0.length c_y0_0] 22 (0, 0)) :: vecC 3 1 a_v0 c_v0 n_v0 cs_v0 :: R)) (h_v0 : Ev 1 (RI .i64) s cs_v0 x0) (hn_v0 : x0.length = n_v0) (h_y0_0 : Sl 6 RFleetTask s a_y0_0 c_y0_0 y0) {r : (List Int)} (hr : SlicesinsertionSortCmpFuncint_v1 fu x0 x1 x2 y0 = some r) :
    Calls Try.prog 23 [.slice a_v0 n_v0 c_v0, .int .i64 x1, .int .i64 x2, .func (.func 19) #[] #[.pointer (some ⟨pb0, 0, none⟩)]].toArray w (fun e w => ∃ (cs55 : List Value), e = .returned (.tuple #[]) ∧ Ev 1 (RI .i64) s cs55 r ∧ r.length = n_v0 ∧ St w s (pt pb0 (.cells #[.slice a_y0_0 y0.length c_y0_0] 22 (0, 0)) :: vecC 3 1 a_v0 c_v0 n_v0 cs55 :: R)) := by
  refine enter Try.func23 rfl rfl rfl fun a hE => ?_
  rw [SlicesinsertionSortCmpFuncint_v1] at hr
  subst hn_v0
  refine W.seq ?_
  refine W.region ?_
  refine WL.vS hS hE (runs_plain rfl) (Gives.p hE rfl) rfl ?_; clear hE a; intro a hE
  refine WL.vS hS hE (runs_plain rfl) (Gives.p hE rfl) rfl ?_; clear hE a; intro a hE
  refine WL.vS hS hE (runs_plain rfl) (Gives.p hE rfl) rfl ?_; clear hE a; intro a hE
  refine WL.nil ?_
  obtain ⟨q58, hq57, hr⟩ := bindS hr
  refine W.cut (fun a w => ∃ (q63 : Int), ∃ (q64 : List Int), ∃ (cs68 : List Value), (q63, q64) = q58 ∧ Ev 1 (RI .i64) s cs68 q64 ∧ q64.length = x0.length ∧ Rep a 53 [] ∧ St w s (pt pb0 (.cells #[.slice a_y0_0 y0.length c_y0_0] 22 (0, 0)) :: vecC 3 1 a_v0 c_v0 x0.length cs68 :: R)) ?_ ?_
  · refine W.block ?_
    refine W.loop (fun m a w => ∃ (n59 : Nat), ∃ (q63 : Int), ∃ (q64 : List Int), ∃ (cs68 : List Value), n59 = m ∧ SlicesinsertionSortCmpFuncint_v1.loop1 x1 x2 y0 fu n59 q63 q64 = some q58 ∧ Ev 1 (RI .i64) s cs68 q64 ∧ q64.length = x0.length ∧ Rep a 53 [(0, .slice a_v0 x0.length c_v0), (1, .int .i64 x1), (2, .int .i64 x2), (3, .func (.func 19) #[] #[.pointer (some ⟨pb0, 0, none⟩)]), (8, .int .i64 q63)] ∧ St w s (pt pb0 (.cells #[.slice a_y0_0 y0.length c_y0_0] 22 (0, 0)) :: vecC 3 1 a_v0 c_v0 x0.length cs68 :: R)) (m := fu) ⟨fu, (w64 (x1 + 1)), x0, cs_v0, rfl, hq57, h_v0, (rfl), hE.pick _ ⟨rfl, rfl, rfl, rfl, rfl, trivial⟩, hS⟩ ?_
    clear hE hS a w hq57; rintro m60 a w ⟨n59, q63, q64, cs68, rfl, hq57, h67, hn69, hE, hS⟩
    refine W.gen fun K70 hK70 => ?_
    rcases n59 with _ | n59
    · rw [SlicesinsertionSortCmpFuncint_v1.loop1] at hq57; exact absurd hq57 (by simp)
    rw [SlicesinsertionSortCmpFuncint_v1.loop1] at hq57
    refine W.seq ?_
    refine W.seq ?_
    refine W.region ?_
    refine WL.vS hS hE (runs_plain rfl) (Gives.p hE rfl) rfl ?_; clear hE a; intro a hE
    refine WL.vS hS hE (runs_plain rfl) (Gives.p hE rfl) rfl ?_; clear hE a; intro a hE
    refine WL.vS hS hE (runs_plain rfl) (Gives.p hE rfl) rfl ?_; clear hE a; intro a hE
    refine WL.nil ?_
    refine W.cond hE rfl (fun hc71 => ?_) (fun hc71 => ?_)
    · replace hq57 := iteT hc71 hq57
      refine W.skip ?_
      refine W.seq ?_
      refine W.block ?_
      refine W.seq ?_
      refine W.region ?_
      refine WL.vS hS hE (runs_plain rfl) (Gives.p hE rfl) rfl ?_; clear hE a; intro a hE
      refine WL.vS hS hE (runs_plain rfl) (Gives.p hE rfl) rfl ?_; clear hE a; intro a hE
      refine WL.nil ?_
      obtain ⟨q73, hq72, hq57⟩ := bindS hq57
      refine W.cut (fun a w => ∃ (q78 : Int), ∃ (q79 : List Int), ∃ (cs83 : List Value), (q78, q79) = q73 ∧ Ev 1 (RI .i64) s cs83 q79 ∧ q79.length = x0.length ∧ Rep a 53 [(0, .slice a_v0 x0.length c_v0), (1, .int .i64 x1), (2, .int .i64 x2), (3, .func (.func 19) #[] #[.pointer (some ⟨pb0, 0, none⟩)]), (8, .int .i64 q63)] ∧ St w s (pt pb0 (.cells #[.slice a_y0_0 y0.length c_y0_0] 22 (0, 0)) :: vecC 3 1 a_v0 c_v0 x0.length cs83 :: R)) ?_ ?_
      · refine W.block ?_
        refine W.loop (fun m a w => ∃ (n74 : Nat), ∃ (q78 : Int), ∃ (q79 : List Int), ∃ (cs83 : List Value), n74 = m ∧ SlicesinsertionSortCmpFuncint_v1.loop2 x1 y0 n74 q78 q79 = some q73 ∧ Ev 1 (RI .i64) s cs83 q79 ∧ q79.length = x0.length ∧ Rep a 53 [(0, .slice a_v0 x0.length c_v0), (1, .int .i64 x1), (2, .int .i64 x2), (3, .func (.func 19) #[] #[.pointer (some ⟨pb0, 0, none⟩)]), (8, .int .i64 q63), (9, .int .i64 q78)] ∧ St w s (pt pb0 (.cells #[.slice a_y0_0 y0.length c_y0_0] 22 (0, 0)) :: vecC 3 1 a_v0 c_v0 x0.length cs83 :: R)) (m := fu) ⟨fu, q63, q64, cs68, rfl, hq72, h67, hn69, hE.pick _ ⟨rfl, rfl, rfl, rfl, rfl, rfl, trivial⟩, hS⟩ ?_
        clear hE hS a w hq72; rintro m75 a w ⟨n74, q78, q79, cs83, rfl, hq72, h82, hn84, hE, hS⟩
        refine W.gen fun K85 hK85 => ?_
        rcases n74 with _ | n74
        · rw [SlicesinsertionSortCmpFuncint_v1.loop2] at hq72; exact absurd hq72 (by simp)
        rw [SlicesinsertionSortCmpFuncint_v1.loop2] at hq72
        refine W.seq ?_
        refine W.seq ?_
        obtain ⟨q87, hq86, hq72⟩ := bindS hq72
        refine W.cut (fun a w => ∃ (q90 : Bool), q90 = q87 ∧ Rep a 53 [(0, .slice a_v0 x0.length c_v0), (1, .int .i64 x1), (2, .int .i64 x2), (3, .func (.func 19) #[] #[.pointer (some ⟨pb0, 0, none⟩)]), (8, .int .i64 q63), (9, .int .i64 q78), (34, .bool q90)] ∧ St w s (pt pb0 (.cells #[.slice a_y0_0 y0.length c_y0_0] 22 (0, 0)) :: vecC 3 1 a_v0 c_v0 x0.length cs83 :: R)) ?_ ?_
        · refine W.gen fun K91 hK91 => ?_
          refine W.regionQ (C := fun w => St w s (pt pb0 (.cells #[.slice a_y0_0 y0.length c_y0_0] 22 (0, 0)) :: vecC 3 1 a_v0 c_v0 x0.length cs83 :: R)) mixed (by kernel_rfl) hS.drew ?_
          refine QL.v hE (runs_plain rfl) (Gives.p hE rfl) rfl ?_; clear hE a; intro a hE
          refine QL.v hE (runs_plain rfl) (Gives.p hE rfl) rfl ?_; clear hE a; intro a hE
          refine QL.v hE (runs_plain rfl) (Gives.p hE rfl) rfl ?_; clear hE a; intro a hE
          refine QL.v hE (runs_plain rfl) (Gives.p hE rfl) rfl ?_; clear hE a; intro a hE
          rcases Bool.eq_false_or_eq_true (decide (q78 > x1)) with hg92 | hg92
          · replace hq86 := iteT hg92 hq86
            refine QL.v hE (runs_if hE rfl rfl rfl hg92) (Gives.p hE rfl) rfl ?_; clear hE a; intro a hE
            refine QL.v hE (runs_if hE rfl rfl rfl hg92) (Gives.p hE rfl) rfl ?_; clear hE a; intro a hE
            refine QL.v hE (runs_if hE rfl rfl rfl hg92) (Gives.p hE rfl) rfl ?_; clear hE a; intro a hE
            obtain ⟨x93, hx94, hq86⟩ := bindS hq86
            obtain ⟨hi95, hlt96, hy97⟩ := gx_some hx94
            obtain ⟨vs98, hl99, hR100, hd101, hget102⟩ := h82.at hy97
            subst hR100
            refine QL.v hE (runs_if hE rfl rfl rfl hg92) (Gives.idx hE ((q78).toNat) rfl rfl sl31 hi95 (by have := hn84; omega) (hS.vecAok 1 rfl (by have := hn84; omega : (q78).toNat < x0.length))) rfl ?_; clear hE a; intro a hE
            refine QL.v hE (runs_if hE rfl rfl rfl hg92) (Gives.load1 hE rfl (fun w h => St.vecSees h 1 rfl ((q78).toNat * 1) _ hget102) ty3) rfl ?_; clear hE a; intro a hE
            refine QL.v hE (runs_if hE rfl rfl rfl hg92) (Gives.p hE rfl) rfl ?_; clear hE a; intro a hE
            refine QL.v hE (runs_if hE rfl rfl rfl hg92) (Gives.p hE rfl) rfl ?_; clear hE a; intro a hE
            refine QL.v hE (runs_if hE rfl rfl rfl hg92) (Gives.p hE rfl) rfl ?_; clear hE a; intro a hE
            obtain ⟨x103, hx104, hq86⟩ := bindS hq86
            obtain ⟨hi105, hlt106, hy107⟩ := gx_some hx104
            obtain ⟨vs108, hl109, hR110, hd111, hget112⟩ := h82.at hy107
            subst hR110
            refine QL.v hE (runs_if hE rfl rfl rfl hg92) (Gives.idx hE ((w64 (q78 - 1)).toNat) rfl rfl sl31 hi105 (by have := hn84; omega) (hS.vecAok 1 rfl (by have := hn84; omega : (w64 (q78 - 1)).toNat < x0.length))) rfl ?_; clear hE a; intro a hE
            refine QL.v hE (runs_if hE rfl rfl rfl hg92) (Gives.load1 hE rfl (fun w h => St.vecSees h 1 rfl ((w64 (q78 - 1)).toNat * 1) _ hget112) ty3) rfl ?_; clear hE a; intro a hE
            obtain ⟨q113, hq114, hq86⟩ := bindS hq86
            refine QL.fnw hE (fun w hS => Fleetorder_1_v1_ok hS h_y0_0 hq114) rfl (runs_if hE rfl rfl rfl hg92) bd19 rfl rfl rfl ?_; clear hE a; intro a hE
            refine QL.v hE (runs_if hE rfl rfl rfl hg92) (Gives.p hE rfl) rfl ?_; clear hE a; intro a hE
            refine QL.v hE (runs_plain rfl) (Gives.pickT hE rfl hg92 rfl) rfl ?_; clear hE a; intro a hE
            refine QL.nil ?_; clear hS w; intro w hS
            subst hK91
            exact ⟨decide (q113 < 0), Option.some.inj hq86, hE.pick _ ⟨rfl, rfl, rfl, rfl, rfl, rfl, rfl, trivial⟩, hS⟩
          · replace hq86 := iteF hg92 hq86
            refine QL.no hE (runs_not hE rfl rfl rfl (by rw [hg92]; decide)) rfl ?_; clear hE a; intro a hE
            refine QL.no hE (runs_not hE rfl rfl rfl (by rw [hg92]; decide)) rfl ?_; clear hE a; intro a hE
            refine QL.no hE (runs_not hE rfl rfl rfl (by rw [hg92]; decide)) rfl ?_; clear hE a; intro a hE
            refine QL.no hE (runs_not hE rfl rfl rfl (by rw [hg92]; decide)) rfl ?_; clear hE a; intro a hE
            refine QL.no hE (runs_not hE rfl rfl rfl (by rw [hg92]; decide)) rfl ?_; clear hE a; intro a hE
            refine QL.no hE (runs_not hE rfl rfl rfl (by rw [hg92]; decide)) rfl ?_; clear hE a; intro a hE
            refine QL.no hE (runs_not hE rfl rfl rfl (by rw [hg92]; decide)) rfl ?_; clear hE a; intro a hE
            refine QL.no hE (runs_not hE rfl rfl rfl (by rw [hg92]; decide)) rfl ?_; clear hE a; intro a hE
            refine QL.no hE (runs_not hE rfl rfl rfl (by rw [hg92]; decide)) rfl ?_; clear hE a; intro a hE
            refine QL.no hE (runs_not hE rfl rfl rfl (by rw [hg92]; decide)) rfl ?_; clear hE a; intro a hE
            refine QL.no hE (runs_not hE rfl rfl rfl (by rw [hg92]; decide)) rfl ?_; clear hE a; intro a hE
            refine QL.no hE (runs_not hE rfl rfl rfl (by rw [hg92]; decide)) rfl ?_; clear hE a; intro a hE
            refine QL.v hE (runs_plain rfl) (Gives.pickF hE rfl hg92 rfl) rfl ?_; clear hE a; intro a hE
            refine QL.nil ?_; clear hS w; intro w hS
            subst hK91
            exact ⟨false, Option.some.inj hq86, hE.pick _ ⟨rfl, rfl, rfl, rfl, rfl, rfl, rfl, trivial⟩, hS⟩
        · clear hE hS a w; rintro a w ⟨q90, rfl, hE, hS⟩
          refine W.cond hE rfl (fun hc115 => ?_) (fun hc115 => ?_)
          · replace hq72 := iteT hc115 hq72
            refine W.skip ?_
            refine W.seq ?_
            refine W.block ?_
            refine W.gen fun K116 hK116 => ?_
            refine rE hS [] [1] [0, 1, 2, 3, 4, 5, 6, 7, 8, 9, 10, 11, 12, 13, 14, 16] [0, 1, 2, 3, 4, 5, 6, 7, 8, 9, 10, 11, 12, 13, 14, 15, 16, 17] mixed ?_
            replace hS := hS.drew
            refine Rg.takeP (i := 0) hE rfl (by kernel_rfl) (runs_plain rfl) (Gives.p hE rfl) rfl (tw_sel (fun _ => hS) (fun _ => (hS.dropAt 1))) ?_; clear hE a; intro a hE
            refine Rg.takeP (i := 1) hE rfl (by kernel_rfl) (runs_plain rfl) (Gives.p hE rfl) rfl (tw_sel (fun _ => hS) (fun _ => (hS.dropAt 1))) ?_; clear hE a; intro a hE
            refine Rg.takeP (i := 2) hE rfl (by kernel_rfl) (runs_plain rfl) (Gives.p hE rfl) rfl (tw_sel (fun _ => hS) (fun _ => (hS.dropAt 1))) ?_; clear hE a; intro a hE
            refine Rg.takeP (i := 3) hE rfl (by kernel_rfl) (runs_plain rfl) (Gives.p hE rfl) rfl (tw_sel (fun _ => hS) (fun _ => (hS.dropAt 1))) ?_; clear hE a; intro a hE
            refine Rg.takeP (i := 4) hE rfl (by kernel_rfl) (runs_plain rfl) (Gives.p hE rfl) rfl (tw_sel (fun _ => hS) (fun _ => (hS.dropAt 1))) ?_; clear hE a; intro a hE
            refine Rg.takeP (i := 5) hE rfl (by kernel_rfl) (runs_plain rfl) (Gives.p hE rfl) rfl (tw_sel (fun _ => hS) (fun _ => (hS.dropAt 1))) ?_; clear hE a; intro a hE
            refine Rg.takeP (i := 6) hE rfl (by kernel_rfl) (runs_plain rfl) (Gives.p hE rfl) rfl (tw_sel (fun _ => hS) (fun _ => (hS.dropAt 1))) ?_; clear hE a; intro a hE
            refine Rg.takeP (i := 7) hE rfl (by kernel_rfl) (runs_plain rfl) (Gives.p hE rfl) rfl (tw_sel (fun _ => hS) (fun _ => (hS.dropAt 1))) ?_; clear hE a; intro a hE
            obtain ⟨x117, hx118, hq72⟩ := bindS hq72
            obtain ⟨hi119, hlt120, hy121⟩ := gx_some hx118
            obtain ⟨vs122, hl123, hR124, hd125, hget126⟩ := h82.at hy121
            subst hR124
            refine Rg.takeP (i := 8) hE rfl (by kernel_rfl) (runs_plain rfl) (Gives.idx hE ((w64 (q78 - 1)).toNat) rfl rfl sl31 hi119 (by have := hn84; omega) (hS.vecAok 1 rfl (by have := hn84; omega : (w64 (q78 - 1)).toNat < x0.length))) rfl (tw_sel (fun _ => hS) (fun _ => (hS.dropAt 1))) ?_; clear hE a; intro a hE
            refine Rg.take (i := 9) true rfl hE rfl (by kernel_rfl) (runs_plain rfl) (Gives.load1 hE rfl (fun w h => St.vecSees h 1 rfl ((w64 (q78 - 1)).toNat * 1) _ hget126) ty3) rfl (tw_sel (fun _ => hS) (fun _ => (hS.dropAt 1))) ?_; clear hE a; intro a hE
            refine Rg.takeP (i := 10) hE rfl (by kernel_rfl) (runs_plain rfl) (Gives.p hE rfl) rfl (tw_sel (fun _ => hS) (fun _ => (hS.dropAt 1))) ?_; clear hE a; intro a hE
            refine Rg.takeP (i := 11) hE rfl (by kernel_rfl) (runs_plain rfl) (Gives.p hE rfl) rfl (tw_sel (fun _ => hS) (fun _ => (hS.dropAt 1))) ?_; clear hE a; intro a hE
            obtain ⟨x127, hx128, hq72⟩ := bindS hq72
            obtain ⟨hi129, hlt130, hy131⟩ := gx_some hx128
            obtain ⟨vs132, hl133, hR134, hd135, hget136⟩ := h82.at hy131
            subst hR134
            refine Rg.takeP (i := 12) hE rfl (by kernel_rfl) (runs_plain rfl) (Gives.idx hE ((q78).toNat) rfl rfl sl31 hi129 (by have := hn84; omega) (hS.vecAok 1 rfl (by have := hn84; omega : (q78).toNat < x0.length))) rfl (tw_sel (fun _ => hS) (fun _ => (hS.dropAt 1))) ?_; clear hE a; intro a hE
            refine Rg.take (i := 13) true rfl hE rfl (by kernel_rfl) (runs_plain rfl) (Gives.load1 hE rfl (fun w h => St.vecSees h 1 rfl ((q78).toNat * 1) _ hget136) ty3) rfl (tw_sel (fun _ => hS) (fun _ => (hS.dropAt 1))) ?_; clear hE a; intro a hE
            obtain ⟨_, hx138, hq72⟩ := bindS hq72
            obtain ⟨h139, h140⟩ := ix_some hx138
            refine Rg.takeP (i := 14) hE rfl (by kernel_rfl) (runs_plain rfl) (Gives.idx hE ((q78).toNat) rfl rfl sl31 h139 (by have := hn84; omega) (hS.vecAok 1 rfl (by have := hn84; omega : (q78).toNat < x0.length))) rfl (tw_sel (fun _ => hS) (fun _ => (hS.dropAt 1))) ?_; clear hE a; intro a hE
            refine Rg.one (i := 15) false true rfl (by kernel_rfl) (by kernel_rfl) (by kernel_rfl) ?_
            obtain ⟨x142, hx143, hq72⟩ := bindS hq72
            refine WL.setD hE hS 1 rfl (runs_plain rfl) rfl rfl (vs := [.int .i64 x117]) rfl ty3 rfl rfl rfl h82 hn84 (sx_some hx143).1 hx143 rfl rfl ?_; clear hE hS a w; intro cs144 a w h145 hn146 hE hS
            refine WL.nil ?_
            refine ⟨⟨fun h => absurd h (by decide), fun _ => (hS.dropAt 1)⟩, ?_⟩
            obtain ⟨_, hx148, hq72⟩ := bindS hq72
            obtain ⟨h149, h150⟩ := ix_some hx148
            refine Rg.takeP (i := 16) hE rfl (by kernel_rfl) (runs_plain rfl) (Gives.idx hE ((w64 (q78 - 1)).toNat) rfl rfl sl31 h149 (by have := hn146; omega) (hS.vecAok 1 rfl (by have := hn146; omega : (w64 (q78 - 1)).toNat < x0.length))) rfl (tw_sel (fun h => absurd h (by decide)) (fun _ => (hS.dropAt 1))) ?_; clear hE a; intro a hE
            refine Rg.one (i := 17) false true rfl (by kernel_rfl) (by kernel_rfl) (by kernel_rfl) ?_
            obtain ⟨x152, hx153, hq72⟩ := bindS hq72
            refine WL.setD hE hS 1 rfl (runs_plain rfl) rfl rfl (vs := [.int .i64 x127]) rfl ty3 rfl rfl rfl h145 hn146 (sx_some hx153).1 hx153 rfl rfl ?_; clear hE hS a w; intro cs154 a w h155 hn156 hE hS
            refine WL.nil ?_
            refine ⟨⟨fun h => absurd h (by decide), fun _ => (hS.dropAt 1)⟩, ?_⟩
            refine Rg.done (by kernel_rfl) ?_
            subst hK116
            refine W.region ?_
            refine WL.vS hS hE (runs_plain rfl) (Gives.p hE rfl) rfl ?_; clear hE a; intro a hE
            refine WL.vS hS hE (runs_plain rfl) (Gives.p hE rfl) rfl ?_; clear hE a; intro a hE
            refine WL.vS hS hE (runs_plain rfl) (Gives.p hE rfl) rfl ?_; clear hE a; intro a hE
            refine WL.nil ?_
            subst hK85
            exact ⟨n74, Nat.lt_succ_self _, n74, (w64 (q78 - 1)), x152, cs154, rfl, hq72, h155, hn156, hE.pick _ ⟨rfl, rfl, rfl, rfl, rfl, rfl, trivial⟩, hS⟩
          · replace hq72 := iteF hc115 hq72
            subst hK85
            refine W.exit rfl ?_
            exact ⟨q78, q79, cs83, Option.some.inj hq72, h82, hn84, hE.pick _ ⟨rfl, rfl, rfl, rfl, rfl, trivial⟩, hS⟩
      · clear hE hS a w; rintro a w ⟨q78, q79, cs83, rfl, h82, hn84, hE, hS⟩
        dsimp only at hq57
        refine W.region ?_
        refine WL.vS hS hE (runs_plain rfl) (Gives.p hE rfl) rfl ?_; clear hE a; intro a hE
        refine WL.vS hS hE (runs_plain rfl) (Gives.p hE rfl) rfl ?_; clear hE a; intro a hE
        refine WL.vS hS hE (runs_plain rfl) (Gives.p hE rfl) rfl ?_; clear hE a; intro a hE
        refine WL.nil ?_
        subst hK70
        exact ⟨n59, Nat.lt_succ_self _, n59, (w64 (q63 + 1)), q79, cs83, rfl, hq57, h82, hn84, hE.pick _ ⟨rfl, rfl, rfl, rfl, rfl, trivial⟩, hS⟩
    · replace hq57 := iteF hc71 hq57
      subst hK70
      refine W.exit rfl ?_
      exact ⟨q63, q64, cs68, Option.some.inj hq57, h67, hn69, hE.pick _ trivial, hS⟩
  · clear hE hS a w; rintro a w ⟨q63, q64, cs68, rfl, h67, hn69, hE, hS⟩
    dsimp only at hr
    refine finG (fn := Try.f23) (rs := []) (vs := []) hE rfl trivial ?_
    obtain rfl := Option.some.inj hr
    exact ⟨cs68, rfl, h67, hn69, hS⟩
set_option maxHeartbeats 8000000 in
theorem SlicesswapRangeCmpFuncint_v1_ok {fu : Nat}  {w : World} {s : Sg} {R : List HP} {pb0 : Nat} {x0 : List Int} {a_v0 : Option Addr} {c_v0 n_v0 : Nat} {cs_v0 : List Value} {x1 : Int} {x2 : Int} {x3 : Int} {y0 : List FleetTask} {a_y0_0 : Option Addr} {c_y0_0 : Nat} (hS : St w s (pt pb0 (.cells #[.slice a_y0_0 y0.length c_y0_0] 22 (0, 0)) :: vecC 3 1 a_v0 c_v0 n_v0 cs_v0 :: R)) (h_v0 : Ev 1 (RI .i64) s cs_v0 x0) (hn_v0 : x0.length = n_v0) (_h_y0_0 : Sl 6 RFleetTask s a_y0_0 c_y0_0 y0) {r : (List Int)} (hr : SlicesswapRangeCmpFuncint_v1 fu x0 x1 x2 x3 y0 = some r) :
    Calls Try.prog 26 [.slice a_v0 n_v0 c_v0, .int .i64 x1, .int .i64 x2, .int .i64 x3, .func (.func 19) #[] #[.pointer (some ⟨pb0, 0, none⟩)]].toArray w (fun e w => ∃ (cs55 : List Value), e = .returned (.tuple #[]) ∧ Ev 1 (RI .i64) s cs55 r ∧ r.length = n_v0 ∧ St w s (pt pb0 (.cells #[.slice a_y0_0 y0.length c_y0_0] 22 (0, 0)) :: vecC 3 1 a_v0 c_v0 n_v0 cs55 :: R)) := by
  refine enter Try.func26 rfl rfl rfl fun a hE => ?_
  rw [SlicesswapRangeCmpFuncint_v1] at hr
  subst hn_v0
  refine W.seq ?_
  refine W.region ?_
  refine WL.vS hS hE (runs_plain rfl) (Gives.p hE rfl) rfl ?_; clear hE a; intro a hE
  refine WL.nil ?_
  obtain ⟨q58, hq57, hr⟩ := bindS hr
  refine W.cut (fun a w => ∃ (q63 : Int), ∃ (q64 : List Int), ∃ (cs68 : List Value), (q63, q64) = q58 ∧ Ev 1 (RI .i64) s cs68 q64 ∧ q64.length = x0.length ∧ Rep a 38 [] ∧ St w s (pt pb0 (.cells #[.slice a_y0_0 y0.length c_y0_0] 22 (0, 0)) :: vecC 3 1 a_v0 c_v0 x0.length cs68 :: R)) ?_ ?_
  · refine W.block ?_
    refine W.loop (fun m a w => ∃ (n59 : Nat), ∃ (q63 : Int), ∃ (q64 : List Int), ∃ (cs68 : List Value), n59 = m ∧ SlicesswapRangeCmpFuncint_v1.loop1 x1 x2 x3 n59 q63 q64 = some q58 ∧ Ev 1 (RI .i64) s cs68 q64 ∧ q64.length = x0.length ∧ Rep a 38 [(0, .slice a_v0 x0.length c_v0), (1, .int .i64 x1), (2, .int .i64 x2), (3, .int .i64 x3), (10, .int .i64 q63)] ∧ St w s (pt pb0 (.cells #[.slice a_y0_0 y0.length c_y0_0] 22 (0, 0)) :: vecC 3 1 a_v0 c_v0 x0.length cs68 :: R)) (m := fu) ⟨fu, 0, x0, cs_v0, rfl, hq57, h_v0, (rfl), hE.pick _ ⟨rfl, rfl, rfl, rfl, rfl, trivial⟩, hS⟩ ?_
    clear hE hS a w hq57; rintro m60 a w ⟨n59, q63, q64, cs68, rfl, hq57, h67, hn69, hE, hS⟩
    refine W.gen fun K70 hK70 => ?_
    rcases n59 with _ | n59
    · rw [SlicesswapRangeCmpFuncint_v1.loop1] at hq57; exact absurd hq57 (by simp)
    rw [SlicesswapRangeCmpFuncint_v1.loop1] at hq57
    refine W.seq ?_
    refine W.seq ?_
    refine W.region ?_
    refine WL.vS hS hE (runs_plain rfl) (Gives.p hE rfl) rfl ?_; clear hE a; intro a hE
    refine WL.vS hS hE (runs_plain rfl) (Gives.p hE rfl) rfl ?_; clear hE a; intro a hE
    refine WL.vS hS hE (runs_plain rfl) (Gives.p hE rfl) rfl ?_; clear hE a; intro a hE
    refine WL.nil ?_
    refine W.cond hE rfl (fun hc71 => ?_) (fun hc71 => ?_)
    · replace hq57 := iteT hc71 hq57
      refine W.skip ?_
      refine W.seq ?_
      refine W.block ?_
      refine W.gen fun K72 hK72 => ?_
      refine rE hS [] [1] [0, 1, 2, 3, 4, 5, 6, 7, 8, 9, 10, 11, 12, 13, 14, 15, 16, 17, 18, 19, 20, 22] [0, 1, 2, 3, 4, 5, 6, 7, 8, 9, 10, 11, 12, 13, 14, 15, 16, 17, 18, 19, 20, 21, 22, 23] mixed ?_
      replace hS := hS.drew
      refine Rg.takeP (i := 0) hE rfl (by kernel_rfl) (runs_plain rfl) (Gives.p hE rfl) rfl (tw_sel (fun _ => hS) (fun _ => (hS.dropAt 1))) ?_; clear hE a; intro a hE
      refine Rg.takeP (i := 1) hE rfl (by kernel_rfl) (runs_plain rfl) (Gives.p hE rfl) rfl (tw_sel (fun _ => hS) (fun _ => (hS.dropAt 1))) ?_; clear hE a; intro a hE
      refine Rg.takeP (i := 2) hE rfl (by kernel_rfl) (runs_plain rfl) (Gives.p hE rfl) rfl (tw_sel (fun _ => hS) (fun _ => (hS.dropAt 1))) ?_; clear hE a; intro a hE
      refine Rg.takeP (i := 3) hE rfl (by kernel_rfl) (runs_plain rfl) (Gives.p hE rfl) rfl (tw_sel (fun _ => hS) (fun _ => (hS.dropAt 1))) ?_; clear hE a; intro a hE
      refine Rg.takeP (i := 4) hE rfl (by kernel_rfl) (runs_plain rfl) (Gives.p hE rfl) rfl (tw_sel (fun _ => hS) (fun _ => (hS.dropAt 1))) ?_; clear hE a; intro a hE
      refine Rg.takeP (i := 5) hE rfl (by kernel_rfl) (runs_plain rfl) (Gives.p hE rfl) rfl (tw_sel (fun _ => hS) (fun _ => (hS.dropAt 1))) ?_; clear hE a; intro a hE
      refine Rg.takeP (i := 6) hE rfl (by kernel_rfl) (runs_plain rfl) (Gives.p hE rfl) rfl (tw_sel (fun _ => hS) (fun _ => (hS.dropAt 1))) ?_; clear hE a; intro a hE
      refine Rg.takeP (i := 7) hE rfl (by kernel_rfl) (runs_plain rfl) (Gives.p hE rfl) rfl (tw_sel (fun _ => hS) (fun _ => (hS.dropAt 1))) ?_; clear hE a; intro a hE
      refine Rg.takeP (i := 8) hE rfl (by kernel_rfl) (runs_plain rfl) (Gives.p hE rfl) rfl (tw_sel (fun _ => hS) (fun _ => (hS.dropAt 1))) ?_; clear hE a; intro a hE
      refine Rg.takeP (i := 9) hE rfl (by kernel_rfl) (runs_plain rfl) (Gives.p hE rfl) rfl (tw_sel (fun _ => hS) (fun _ => (hS.dropAt 1))) ?_; clear hE a; intro a hE
      refine Rg.takeP (i := 10) hE rfl (by kernel_rfl) (runs_plain rfl) (Gives.p hE rfl) rfl (tw_sel (fun _ => hS) (fun _ => (hS.dropAt 1))) ?_; clear hE a; intro a hE
      refine Rg.takeP (i := 11) hE rfl (by kernel_rfl) (runs_plain rfl) (Gives.p hE rfl) rfl (tw_sel (fun _ => hS) (fun _ => (hS.dropAt 1))) ?_; clear hE a; intro a hE
      obtain ⟨x73, hx74, hq57⟩ := bindS hq57
      obtain ⟨hi75, hlt76, hy77⟩ := gx_some hx74
      obtain ⟨vs78, hl79, hR80, hd81, hget82⟩ := h67.at hy77
      subst hR80
      refine Rg.takeP (i := 12) hE rfl (by kernel_rfl) (runs_plain rfl) (Gives.idx hE ((w64 (x2 + q63)).toNat) rfl rfl sl31 hi75 (by have := hn69; omega) (hS.vecAok 1 rfl (by have := hn69; omega : (w64 (x2 + q63)).toNat < x0.length))) rfl (tw_sel (fun _ => hS) (fun _ => (hS.dropAt 1))) ?_; clear hE a; intro a hE
      refine Rg.take (i := 13) true rfl hE rfl (by kernel_rfl) (runs_plain rfl) (Gives.load1 hE rfl (fun w h => St.vecSees h 1 rfl ((w64 (x2 + q63)).toNat * 1) _ hget82) ty3) rfl (tw_sel (fun _ => hS) (fun _ => (hS.dropAt 1))) ?_; clear hE a; intro a hE
      refine Rg.takeP (i := 14) hE rfl (by kernel_rfl) (runs_plain rfl) (Gives.p hE rfl) rfl (tw_sel (fun _ => hS) (fun _ => (hS.dropAt 1))) ?_; clear hE a; intro a hE
      refine Rg.takeP (i := 15) hE rfl (by kernel_rfl) (runs_plain rfl) (Gives.p hE rfl) rfl (tw_sel (fun _ => hS) (fun _ => (hS.dropAt 1))) ?_; clear hE a; intro a hE
      refine Rg.takeP (i := 16) hE rfl (by kernel_rfl) (runs_plain rfl) (Gives.p hE rfl) rfl (tw_sel (fun _ => hS) (fun _ => (hS.dropAt 1))) ?_; clear hE a; intro a hE
      refine Rg.takeP (i := 17) hE rfl (by kernel_rfl) (runs_plain rfl) (Gives.p hE rfl) rfl (tw_sel (fun _ => hS) (fun _ => (hS.dropAt 1))) ?_; clear hE a; intro a hE
      obtain ⟨x83, hx84, hq57⟩ := bindS hq57
      obtain ⟨hi85, hlt86, hy87⟩ := gx_some hx84
      obtain ⟨vs88, hl89, hR90, hd91, hget92⟩ := h67.at hy87
      subst hR90
      refine Rg.takeP (i := 18) hE rfl (by kernel_rfl) (runs_plain rfl) (Gives.idx hE ((w64 (x1 + q63)).toNat) rfl rfl sl31 hi85 (by have := hn69; omega) (hS.vecAok 1 rfl (by have := hn69; omega : (w64 (x1 + q63)).toNat < x0.length))) rfl (tw_sel (fun _ => hS) (fun _ => (hS.dropAt 1))) ?_; clear hE a; intro a hE
      refine Rg.take (i := 19) true rfl hE rfl (by kernel_rfl) (runs_plain rfl) (Gives.load1 hE rfl (fun w h => St.vecSees h 1 rfl ((w64 (x1 + q63)).toNat * 1) _ hget92) ty3) rfl (tw_sel (fun _ => hS) (fun _ => (hS.dropAt 1))) ?_; clear hE a; intro a hE
      obtain ⟨_, hx94, hq57⟩ := bindS hq57
      obtain ⟨h95, h96⟩ := ix_some hx94
      refine Rg.takeP (i := 20) hE rfl (by kernel_rfl) (runs_plain rfl) (Gives.idx hE ((w64 (x1 + q63)).toNat) rfl rfl sl31 h95 (by have := hn69; omega) (hS.vecAok 1 rfl (by have := hn69; omega : (w64 (x1 + q63)).toNat < x0.length))) rfl (tw_sel (fun _ => hS) (fun _ => (hS.dropAt 1))) ?_; clear hE a; intro a hE
      refine Rg.one (i := 21) false true rfl (by kernel_rfl) (by kernel_rfl) (by kernel_rfl) ?_
      obtain ⟨x98, hx99, hq57⟩ := bindS hq57
      refine WL.setD hE hS 1 rfl (runs_plain rfl) rfl rfl (vs := [.int .i64 x73]) rfl ty3 rfl rfl rfl h67 hn69 (sx_some hx99).1 hx99 rfl rfl ?_; clear hE hS a w; intro cs100 a w h101 hn102 hE hS
      refine WL.nil ?_
      refine ⟨⟨fun h => absurd h (by decide), fun _ => (hS.dropAt 1)⟩, ?_⟩
      obtain ⟨_, hx104, hq57⟩ := bindS hq57
      obtain ⟨h105, h106⟩ := ix_some hx104
      refine Rg.takeP (i := 22) hE rfl (by kernel_rfl) (runs_plain rfl) (Gives.idx hE ((w64 (x2 + q63)).toNat) rfl rfl sl31 h105 (by have := hn102; omega) (hS.vecAok 1 rfl (by have := hn102; omega : (w64 (x2 + q63)).toNat < x0.length))) rfl (tw_sel (fun h => absurd h (by decide)) (fun _ => (hS.dropAt 1))) ?_; clear hE a; intro a hE
      refine Rg.one (i := 23) false true rfl (by kernel_rfl) (by kernel_rfl) (by kernel_rfl) ?_
      obtain ⟨x108, hx109, hq57⟩ := bindS hq57
      refine WL.setD hE hS 1 rfl (runs_plain rfl) rfl rfl (vs := [.int .i64 x83]) rfl ty3 rfl rfl rfl h101 hn102 (sx_some hx109).1 hx109 rfl rfl ?_; clear hE hS a w; intro cs110 a w h111 hn112 hE hS
      refine WL.nil ?_
      refine ⟨⟨fun h => absurd h (by decide), fun _ => (hS.dropAt 1)⟩, ?_⟩
      refine Rg.done (by kernel_rfl) ?_
      subst hK72
      refine W.region ?_
      refine WL.vS hS hE (runs_plain rfl) (Gives.p hE rfl) rfl ?_; clear hE a; intro a hE
      refine WL.vS hS hE (runs_plain rfl) (Gives.p hE rfl) rfl ?_; clear hE a; intro a hE
      refine WL.vS hS hE (runs_plain rfl) (Gives.p hE rfl) rfl ?_; clear hE a; intro a hE
      refine WL.nil ?_
      subst hK70
      exact ⟨n59, Nat.lt_succ_self _, n59, (w64 (q63 + 1)), x108, cs110, rfl, hq57, h111, hn112, hE.pick _ ⟨rfl, rfl, rfl, rfl, rfl, trivial⟩, hS⟩
    · replace hq57 := iteF hc71 hq57
      subst hK70
      refine W.exit rfl ?_
      exact ⟨q63, q64, cs68, Option.some.inj hq57, h67, hn69, hE.pick _ trivial, hS⟩
  · clear hE hS a w; rintro a w ⟨q63, q64, cs68, rfl, h67, hn69, hE, hS⟩
    dsimp only at hr
    refine finG (fn := Try.f26) (rs := []) (vs := []) hE rfl trivial ?_
    obtain rfl := Option.some.inj hr
    exact ⟨cs68, rfl, h67, hn69, hS⟩
set_option maxHeartbeats 8000000 in
theorem SlicesrotateCmpFuncint_v1_ok {fu : Nat}  {w : World} {s : Sg} {R : List HP} {pb0 : Nat} {x0 : List Int} {a_v0 : Option Addr} {c_v0 n_v0 : Nat} {cs_v0 : List Value} {x1 : Int} {x2 : Int} {x3 : Int} {y0 : List FleetTask} {a_y0_0 : Option Addr} {c_y0_0 : Nat} (hS : St w s (pt pb0 (.cells #[.slice a_y0_0 y0.length c_y0_0] 22 (0, 0)) :: vecC 3 1 a_v0 c_v0 n_v0 cs_v0 :: R)) (h_v0 : Ev 1 (RI .i64) s cs_v0 x0) (hn_v0 : x0.length = n_v0) (h_y0_0 : Sl 6 RFleetTask s a_y0_0 c_y0_0 y0) {r : (List Int)} (hr : SlicesrotateCmpFuncint_v1 fu x0 x1 x2 x3 y0 = some r) :
    Calls Try.prog 25 [.slice a_v0 n_v0 c_v0, .int .i64 x1, .int .i64 x2, .int .i64 x3, .func (.func 19) #[] #[.pointer (some ⟨pb0, 0, none⟩)]].toArray w (fun e w => ∃ (cs55 : List Value), e = .returned (.tuple #[]) ∧ Ev 1 (RI .i64) s cs55 r ∧ r.length = n_v0 ∧ St w s (pt pb0 (.cells #[.slice a_y0_0 y0.length c_y0_0] 22 (0, 0)) :: vecC 3 1 a_v0 c_v0 n_v0 cs55 :: R)) := by
  refine enter Try.func25 rfl rfl rfl fun a hE => ?_
  rw [SlicesrotateCmpFuncint_v1] at hr
  subst hn_v0
  refine W.seq ?_
  refine W.region ?_
  refine WL.vS hS hE (runs_plain rfl) (Gives.p hE rfl) rfl ?_; clear hE a; intro a hE
  refine WL.vS hS hE (runs_plain rfl) (Gives.p hE rfl) rfl ?_; clear hE a; intro a hE
  refine WL.vS hS hE (runs_plain rfl) (Gives.p hE rfl) rfl ?_; clear hE a; intro a hE
  refine WL.vS hS hE (runs_plain rfl) (Gives.p hE rfl) rfl ?_; clear hE a; intro a hE
  refine WL.nil ?_
  refine W.seq ?_
  refine W.region ?_
  refine WL.vS hS hE (runs_plain rfl) (Gives.p hE rfl) rfl ?_; clear hE a; intro a hE
  refine WL.vS hS hE (runs_plain rfl) (Gives.p hE rfl) rfl ?_; clear hE a; intro a hE
  refine WL.vS hS hE (runs_plain rfl) (Gives.p hE rfl) rfl ?_; clear hE a; intro a hE
  refine WL.vS hS hE (runs_plain rfl) (Gives.p hE rfl) rfl ?_; clear hE a; intro a hE
  refine WL.nil ?_
  refine W.seq ?_
  obtain ⟨q58, hq57, hr⟩ := bindS hr
  refine W.cut (fun a w => ∃ (q63 : Int), ∃ (q64 : Int), ∃ (q65 : List Int), ∃ (cs69 : List Value), (q63, q64, q65) = q58 ∧ Ev 1 (RI .i64) s cs69 q65 ∧ q65.length = x0.length ∧ Rep a 58 [(0, .slice a_v0 x0.length c_v0), (2, .int .i64 x2), (4, .func (.func 19) #[] #[.pointer (some ⟨pb0, 0, none⟩)]), (10, .int .i64 q63)] ∧ St w s (pt pb0 (.cells #[.slice a_y0_0 y0.length c_y0_0] 22 (0, 0)) :: vecC 3 1 a_v0 c_v0 x0.length cs69 :: R)) ?_ ?_
  · refine W.block ?_
    refine W.loop (fun m a w => ∃ (n59 : Nat), ∃ (q63 : Int), ∃ (q64 : Int), ∃ (q65 : List Int), ∃ (cs69 : List Value), n59 = m ∧ SlicesrotateCmpFuncint_v1.loop1 x2 y0 fu n59 q63 q64 q65 = some q58 ∧ Ev 1 (RI .i64) s cs69 q65 ∧ q65.length = x0.length ∧ Rep a 58 [(0, .slice a_v0 x0.length c_v0), (2, .int .i64 x2), (4, .func (.func 19) #[] #[.pointer (some ⟨pb0, 0, none⟩)]), (10, .int .i64 q63), (11, .int .i64 q64)] ∧ St w s (pt pb0 (.cells #[.slice a_y0_0 y0.length c_y0_0] 22 (0, 0)) :: vecC 3 1 a_v0 c_v0 x0.length cs69 :: R)) (m := fu) ⟨fu, (w64 (x2 - x1)), (w64 (x3 - x2)), x0, cs_v0, rfl, hq57, h_v0, (rfl), hE.pick _ ⟨rfl, rfl, rfl, rfl, rfl, trivial⟩, hS⟩ ?_
    clear hE hS a w hq57; rintro m60 a w ⟨n59, q63, q64, q65, cs69, rfl, hq57, h68, hn70, hE, hS⟩
    refine W.gen fun K71 hK71 => ?_
    rcases n59 with _ | n59
    · rw [SlicesrotateCmpFuncint_v1.loop1] at hq57; exact absurd hq57 (by simp)
    rw [SlicesrotateCmpFuncint_v1.loop1] at hq57
    refine W.seq ?_
    refine W.seq ?_
    refine W.region ?_
    refine WL.vS hS hE (runs_plain rfl) (Gives.p hE rfl) rfl ?_; clear hE a; intro a hE
    refine WL.vS hS hE (runs_plain rfl) (Gives.p hE rfl) rfl ?_; clear hE a; intro a hE
    refine WL.vS hS hE (runs_plain rfl) (Gives.p hE rfl) rfl ?_; clear hE a; intro a hE
    refine WL.nil ?_
    refine W.cond hE rfl (fun hc72 => ?_) (fun hc72 => ?_)
    · replace hq57 := iteT hc72 hq57
      refine W.skip ?_
      refine W.block ?_
      refine W.seq ?_
      refine W.region ?_
      refine WL.vS hS hE (runs_plain rfl) (Gives.p hE rfl) rfl ?_; clear hE a; intro a hE
      refine WL.vS hS hE (runs_plain rfl) (Gives.p hE rfl) rfl ?_; clear hE a; intro a hE
      refine WL.vS hS hE (runs_plain rfl) (Gives.p hE rfl) rfl ?_; clear hE a; intro a hE
      refine WL.nil ?_
      obtain ⟨q74, hq73, hq57⟩ := bindS hq57
      refine W.cut (fun a w => ∃ (q77 : Int), ∃ (q78 : Int), ∃ (q79 : List Int), ∃ (cs83 : List Value), (q77, q78, q79) = q74 ∧ Ev 1 (RI .i64) s cs83 q79 ∧ q79.length = x0.length ∧ Rep a 58 [(0, .slice a_v0 x0.length c_v0), (2, .int .i64 x2), (4, .func (.func 19) #[] #[.pointer (some ⟨pb0, 0, none⟩)]), (10, .int .i64 q77), (11, .int .i64 q78)] ∧ St w s (pt pb0 (.cells #[.slice a_y0_0 y0.length c_y0_0] 22 (0, 0)) :: vecC 3 1 a_v0 c_v0 x0.length cs83 :: R)) ?_ ?_
      · refine W.gen fun K85 hK85 => ?_
        refine W.cond hE rfl (fun hc86 => ?_) (fun hc86 => ?_)
        · replace hq73 := iteT hc86 hq73
          refine W.seq ?_
          refine W.region ?_
          refine WL.vS hS hE (runs_plain rfl) (Gives.p hE rfl) rfl ?_; clear hE a; intro a hE
          refine WL.vS hS hE (runs_plain rfl) (Gives.p hE rfl) rfl ?_; clear hE a; intro a hE
          refine WL.vS hS hE (runs_plain rfl) (Gives.p hE rfl) rfl ?_; clear hE a; intro a hE
          refine WL.vS hS hE (runs_plain rfl) (Gives.p hE rfl) rfl ?_; clear hE a; intro a hE
          refine WL.vS hS hE (runs_plain rfl) (Gives.p hE rfl) rfl ?_; clear hE a; intro a hE
          refine WL.vS hS hE (runs_plain rfl) (Gives.p hE rfl) rfl ?_; clear hE a; intro a hE
          refine WL.vS hS hE (runs_plain rfl) (Gives.p hE rfl) rfl ?_; clear hE a; intro a hE
          obtain ⟨q87, hq88, hq73⟩ := bindS hq73
          have hc_ := SlicesswapRangeCmpFuncint_v1_ok hS h68 hn70 h_y0_0 hq88
          refine WL.fnq hE (hc_) (runs_plain rfl) bd26 rfl rfl rfl ?_
          clear hE hS hc_; rintro e w ⟨cs89, rfl, h90, hn91, hS⟩; refine ⟨_, rfl, ?_⟩; clear a; intro a hE
          refine WL.nil ?_
          refine W.region ?_
          refine WL.vS hS hE (runs_plain rfl) (Gives.p hE rfl) rfl ?_; clear hE a; intro a hE
          refine WL.vS hS hE (runs_plain rfl) (Gives.p hE rfl) rfl ?_; clear hE a; intro a hE
          refine WL.vS hS hE (runs_plain rfl) (Gives.p hE rfl) rfl ?_; clear hE a; intro a hE
          refine WL.vS hS hE (runs_plain rfl) (Gives.p hE rfl) rfl ?_; clear hE a; intro a hE
          refine WL.nil ?_
          subst hK85
          exact ⟨w64 (q63 - q64), q64, q87, cs89, Option.some.inj hq73, h90, hn91, hE.pick _ ⟨rfl, rfl, rfl, rfl, rfl, trivial⟩, hS⟩
        · replace hq73 := iteF hc86 hq73
          refine W.seq ?_
          refine W.region ?_
          refine WL.vS hS hE (runs_plain rfl) (Gives.p hE rfl) rfl ?_; clear hE a; intro a hE
          refine WL.vS hS hE (runs_plain rfl) (Gives.p hE rfl) rfl ?_; clear hE a; intro a hE
          refine WL.vS hS hE (runs_plain rfl) (Gives.p hE rfl) rfl ?_; clear hE a; intro a hE
          refine WL.vS hS hE (runs_plain rfl) (Gives.p hE rfl) rfl ?_; clear hE a; intro a hE
          refine WL.vS hS hE (runs_plain rfl) (Gives.p hE rfl) rfl ?_; clear hE a; intro a hE
          refine WL.vS hS hE (runs_plain rfl) (Gives.p hE rfl) rfl ?_; clear hE a; intro a hE
          refine WL.vS hS hE (runs_plain rfl) (Gives.p hE rfl) rfl ?_; clear hE a; intro a hE
          refine WL.vS hS hE (runs_plain rfl) (Gives.p hE rfl) rfl ?_; clear hE a; intro a hE
          refine WL.vS hS hE (runs_plain rfl) (Gives.p hE rfl) rfl ?_; clear hE a; intro a hE
          refine WL.vS hS hE (runs_plain rfl) (Gives.p hE rfl) rfl ?_; clear hE a; intro a hE
          refine WL.vS hS hE (runs_plain rfl) (Gives.p hE rfl) rfl ?_; clear hE a; intro a hE
          obtain ⟨q92, hq93, hq73⟩ := bindS hq73
          have hc_ := SlicesswapRangeCmpFuncint_v1_ok hS h68 hn70 h_y0_0 hq93
          refine WL.fnq hE (hc_) (runs_plain rfl) bd26 rfl rfl rfl ?_
          clear hE hS hc_; rintro e w ⟨cs94, rfl, h95, hn96, hS⟩; refine ⟨_, rfl, ?_⟩; clear a; intro a hE
          refine WL.nil ?_
          refine W.region ?_
          refine WL.vS hS hE (runs_plain rfl) (Gives.p hE rfl) rfl ?_; clear hE a; intro a hE
          refine WL.vS hS hE (runs_plain rfl) (Gives.p hE rfl) rfl ?_; clear hE a; intro a hE
          refine WL.vS hS hE (runs_plain rfl) (Gives.p hE rfl) rfl ?_; clear hE a; intro a hE
          refine WL.vS hS hE (runs_plain rfl) (Gives.p hE rfl) rfl ?_; clear hE a; intro a hE
          refine WL.nil ?_
          subst hK85
          exact ⟨q63, w64 (q64 - q63), q92, cs94, Option.some.inj hq73, h95, hn96, hE.pick _ ⟨rfl, rfl, rfl, rfl, rfl, trivial⟩, hS⟩
      · clear hE hS a w; rintro a w ⟨q77, q78, q79, cs83, rfl, h82, hn84, hE, hS⟩
        dsimp only at hq57
        subst hK71
        exact ⟨n59, Nat.lt_succ_self _, n59, q77, q78, q79, cs83, rfl, hq57, h82, hn84, hE.pick _ ⟨rfl, rfl, rfl, rfl, rfl, trivial⟩, hS⟩
    · replace hq57 := iteF hc72 hq57
      subst hK71
      refine W.exit rfl ?_
      exact ⟨q63, q64, q65, cs69, Option.some.inj hq57, h68, hn70, hE.pick _ ⟨rfl, rfl, rfl, rfl, trivial⟩, hS⟩
  · clear hE hS a w; rintro a w ⟨q63, q64, q65, cs69, rfl, h68, hn70, hE, hS⟩
    dsimp only at hr
    refine W.region ?_
    refine WL.vS hS hE (runs_plain rfl) (Gives.p hE rfl) rfl ?_; clear hE a; intro a hE
    refine WL.vS hS hE (runs_plain rfl) (Gives.p hE rfl) rfl ?_; clear hE a; intro a hE
    refine WL.vS hS hE (runs_plain rfl) (Gives.p hE rfl) rfl ?_; clear hE a; intro a hE
    refine WL.vS hS hE (runs_plain rfl) (Gives.p hE rfl) rfl ?_; clear hE a; intro a hE
    refine WL.vS hS hE (runs_plain rfl) (Gives.p hE rfl) rfl ?_; clear hE a; intro a hE
    refine WL.vS hS hE (runs_plain rfl) (Gives.p hE rfl) rfl ?_; clear hE a; intro a hE
    refine WL.vS hS hE (runs_plain rfl) (Gives.p hE rfl) rfl ?_; clear hE a; intro a hE
    obtain ⟨q97, hq98, hr⟩ := bindS hr
    have hc_ := SlicesswapRangeCmpFuncint_v1_ok hS h68 hn70 h_y0_0 hq98
    refine WL.fnq hE (hc_) (runs_plain rfl) bd26 rfl rfl rfl ?_
    clear hE hS hc_; rintro e w ⟨cs99, rfl, h100, hn101, hS⟩; refine ⟨_, rfl, ?_⟩; clear a; intro a hE
    refine WL.nil ?_
    refine finG (fn := Try.f25) (rs := []) (vs := []) hE rfl trivial ?_
    obtain rfl := Option.some.inj hr
    exact ⟨cs99, rfl, h100, hn101, hS⟩
set_option maxHeartbeats 8000000 in
theorem SlicessymMergeCmpFuncint_v1_ok : ∀ {fu : Nat} {w : World} {s : Sg} {R : List HP} {pb0 : Nat} {x0 : List Int} {a_v0 : Option Addr} {c_v0 n_v0 : Nat} {cs_v0 : List Value} {x1 : Int} {x2 : Int} {x3 : Int} {y0 : List FleetTask} {a_y0_0 : Option Addr} {c_y0_0 : Nat} (_hS : St w s (pt pb0 (.cells #[.slice a_y0_0 y0.length c_y0_0] 22 (0, 0)) :: vecC 3 1 a_v0 c_v0 n_v0 cs_v0 :: R)) (_h_v0 : Ev 1 (RI .i64) s cs_v0 x0) (_hn_v0 : x0.length = n_v0) (_h_y0_0 : Sl 6 RFleetTask s a_y0_0 c_y0_0 y0) {r : (List Int)} (_hr : SlicessymMergeCmpFuncint_v1 fu x0 x1 x2 x3 y0 = some r),
    Calls Try.prog 24 [.slice a_v0 n_v0 c_v0, .int .i64 x1, .int .i64 x2, .int .i64 x3, .func (.func 19) #[] #[.pointer (some ⟨pb0, 0, none⟩)]].toArray w (fun e w => ∃ (cs55 : List Value), e = .returned (.tuple #[]) ∧ Ev 1 (RI .i64) s cs55 r ∧ r.length = n_v0 ∧ St w s (pt pb0 (.cells #[.slice a_y0_0 y0.length c_y0_0] 22 (0, 0)) :: vecC 3 1 a_v0 c_v0 n_v0 cs55 :: R)) := by
  intro fu
  induction fu with
  | zero => intro w s R pb0 x0 a_v0 c_v0 n_v0 cs_v0 x1 x2 x3 y0 a_y0_0 c_y0_0 hS h_v0 hn_v0 h_y0_0 r hr; rw [SlicessymMergeCmpFuncint_v1] at hr; exact absurd hr (by simp)
  | succ fu ih_SlicessymMergeCmpFuncint_v1 =>
    intro w s R pb0 x0 a_v0 c_v0 n_v0 cs_v0 x1 x2 x3 y0 a_y0_0 c_y0_0 hS h_v0 hn_v0 h_y0_0 r hr
    rw [SlicessymMergeCmpFuncint_v1] at hr
    generalize SlicessymMergeCmpFuncint_v1 fu = self_SlicessymMergeCmpFuncint_v1 at hr ih_SlicessymMergeCmpFuncint_v1
    refine enter Try.func24 rfl rfl rfl fun a hE => ?_
    subst hn_v0
    refine W.seq ?_
    refine W.seq ?_
    refine W.region ?_
    refine WL.vS hS hE (runs_plain rfl) (Gives.p hE rfl) rfl ?_; clear hE a; intro a hE
    refine WL.vS hS hE (runs_plain rfl) (Gives.p hE rfl) rfl ?_; clear hE a; intro a hE
    refine WL.vS hS hE (runs_plain rfl) (Gives.p hE rfl) rfl ?_; clear hE a; intro a hE
    refine WL.vS hS hE (runs_plain rfl) (Gives.p hE rfl) rfl ?_; clear hE a; intro a hE
    refine WL.nil ?_
    refine W.cond hE rfl (fun hc57 => ?_) (fun hc57 => ?_)
    · replace hr := iteT hc57 hr
      refine W.seq ?_
      refine W.region ?_
      refine WL.vS hS hE (runs_plain rfl) (Gives.p hE rfl) rfl ?_; clear hE a; intro a hE
      refine WL.vS hS hE (runs_plain rfl) (Gives.p hE rfl) rfl ?_; clear hE a; intro a hE
      refine WL.nil ?_
      refine W.seq ?_
      refine W.region ?_
      refine WL.vS hS hE (runs_plain rfl) (Gives.p hE rfl) rfl ?_; clear hE a; intro a hE
      refine WL.vS hS hE (runs_plain rfl) (Gives.p hE rfl) rfl ?_; clear hE a; intro a hE
      refine WL.nil ?_
      refine W.seq ?_
      obtain ⟨q59, hq58, hr⟩ := bindS hr
      refine W.cut (fun a w => ∃ (q64 : Int), ∃ (q65 : Int), (q64, q65) = q59 ∧ Rep a 220 [(0, .slice a_v0 x0.length c_v0), (1, .int .i64 x1), (10, .int .i64 q64)] ∧ St w s (pt pb0 (.cells #[.slice a_y0_0 y0.length c_y0_0] 22 (0, 0)) :: vecC 3 1 a_v0 c_v0 x0.length cs_v0 :: R)) ?_ ?_
      · refine W.block ?_
        refine W.loop (fun m a w => ∃ (n60 : Nat), ∃ (q64 : Int), ∃ (q65 : Int), n60 = m ∧ SlicessymMergeCmpFuncint_v1.loop1 x0 x1 y0 n60 q64 q65 = some q59 ∧ Rep a 220 [(0, .slice a_v0 x0.length c_v0), (1, .int .i64 x1), (4, .func (.func 19) #[] #[.pointer (some ⟨pb0, 0, none⟩)]), (10, .int .i64 q64), (11, .int .i64 q65)] ∧ St w s (pt pb0 (.cells #[.slice a_y0_0 y0.length c_y0_0] 22 (0, 0)) :: vecC 3 1 a_v0 c_v0 x0.length cs_v0 :: R)) (m := fu) ⟨fu, x2, x3, rfl, hq58, hE.pick _ ⟨rfl, rfl, rfl, rfl, rfl, trivial⟩, hS⟩ ?_
        clear hE hS a w hq58; rintro m61 a w ⟨n60, q64, q65, rfl, hq58, hE, hS⟩
        refine W.gen fun K66 hK66 => ?_
        rcases n60 with _ | n60
        · rw [SlicessymMergeCmpFuncint_v1.loop1] at hq58; exact absurd hq58 (by simp)
        rw [SlicessymMergeCmpFuncint_v1.loop1] at hq58
        refine W.seq ?_
        refine W.seq ?_
        refine W.region ?_
        refine WL.vS hS hE (runs_plain rfl) (Gives.p hE rfl) rfl ?_; clear hE a; intro a hE
        refine WL.vS hS hE (runs_plain rfl) (Gives.p hE rfl) rfl ?_; clear hE a; intro a hE
        refine WL.vS hS hE (runs_plain rfl) (Gives.p hE rfl) rfl ?_; clear hE a; intro a hE
        refine WL.nil ?_
        refine W.cond hE rfl (fun hc67 => ?_) (fun hc67 => ?_)
        · replace hq58 := iteT hc67 hq58
          refine W.skip ?_
          refine W.block ?_
          refine W.seq ?_
          refine W.region ?_
          refine WL.vS hS hE (runs_plain rfl) (Gives.p hE rfl) rfl ?_; clear hE a; intro a hE
          refine WL.vS hS hE (runs_plain rfl) (Gives.p hE rfl) rfl ?_; clear hE a; intro a hE
          refine WL.vS hS hE (runs_plain rfl) (Gives.p hE rfl) rfl ?_; clear hE a; intro a hE
          refine WL.vS hS hE (runs_plain rfl) (Gives.conv hE rfl hu3 ui47) rfl ?_; clear hE a; intro a hE
          refine WL.vS hS hE (runs_plain rfl) (Gives.shr hE rfl rfl (by decide)) rfl ?_; clear hE a; intro a hE
          refine WL.vS hS hE (runs_plain rfl) (Gives.conv hE rfl hu47 ui3) rfl ?_; clear hE a; intro a hE
          refine WL.vS hS hE (runs_plain rfl) (Gives.p hE rfl) rfl ?_; clear hE a; intro a hE
          refine WL.nil ?_
          refine W.seq ?_
          refine W.regionQ (C := fun w => St w s (pt pb0 (.cells #[.slice a_y0_0 y0.length c_y0_0] 22 (0, 0)) :: vecC 3 1 a_v0 c_v0 x0.length cs_v0 :: R)) mixed (by kernel_rfl) hS.drew ?_
          refine QL.v hE (runs_plain rfl) (Gives.p hE rfl) rfl ?_; clear hE a; intro a hE
          refine QL.v hE (runs_plain rfl) (Gives.p hE rfl) rfl ?_; clear hE a; intro a hE
          refine QL.v hE (runs_plain rfl) (Gives.p hE rfl) rfl ?_; clear hE a; intro a hE
          obtain ⟨x68, hx69, hq58⟩ := bindS hq58
          obtain ⟨hi70, hlt71, hy72⟩ := gx_some hx69
          obtain ⟨vs73, hl74, hR75, hd76, hget77⟩ := h_v0.at hy72
          subst hR75
          refine QL.v hE (runs_plain rfl) (Gives.idx hE ((w64 (Int.fdiv (IntKind.wrap .u64 (w64 (q64 + q65))) (2 ^ (min (Int.toNat 1) (IntKind.bits .u64))))).toNat) rfl rfl sl31 hi70 (by omega) (hS.vecAok 1 rfl (by omega : (w64 (Int.fdiv (IntKind.wrap .u64 (w64 (q64 + q65))) (2 ^ (min (Int.toNat 1) (IntKind.bits .u64))))).toNat < x0.length))) rfl ?_; clear hE a; intro a hE
          refine QL.v hE (runs_plain rfl) (Gives.load1 hE rfl (fun w h => St.vecSees h 1 rfl ((w64 (Int.fdiv (IntKind.wrap .u64 (w64 (q64 + q65))) (2 ^ (min (Int.toNat 1) (IntKind.bits .u64))))).toNat * 1) _ hget77) ty3) rfl ?_; clear hE a; intro a hE
          refine QL.v hE (runs_plain rfl) (Gives.p hE rfl) rfl ?_; clear hE a; intro a hE
          refine QL.v hE (runs_plain rfl) (Gives.p hE rfl) rfl ?_; clear hE a; intro a hE
          obtain ⟨x78, hx79, hq58⟩ := bindS hq58
          obtain ⟨hi80, hlt81, hy82⟩ := gx_some hx79
          obtain ⟨vs83, hl84, hR85, hd86, hget87⟩ := h_v0.at hy82
          subst hR85
          refine QL.v hE (runs_plain rfl) (Gives.idx hE ((x1).toNat) rfl rfl sl31 hi80 (by omega) (hS.vecAok 1 rfl (by omega : (x1).toNat < x0.length))) rfl ?_; clear hE a; intro a hE
          refine QL.v hE (runs_plain rfl) (Gives.load1 hE rfl (fun w h => St.vecSees h 1 rfl ((x1).toNat * 1) _ hget87) ty3) rfl ?_; clear hE a; intro a hE
          obtain ⟨q88, hq89, hq58⟩ := bindS hq58
          refine QL.fnw hE (fun w hS => Fleetorder_1_v1_ok hS h_y0_0 hq89) rfl (runs_plain rfl) bd19 rfl rfl rfl ?_; clear hE a; intro a hE
          refine QL.v hE (runs_plain rfl) (Gives.p hE rfl) rfl ?_; clear hE a; intro a hE
          refine QL.nil ?_; clear hS w; intro w hS
          obtain ⟨q91, hq90, hq58⟩ := bndS hq58
          refine W.cut (fun a w => ∃ (q94 : Int), ∃ (q95 : Int), (q94, q95) = q91 ∧ Rep a 220 [(0, .slice a_v0 x0.length c_v0), (1, .int .i64 x1), (4, .func (.func 19) #[] #[.pointer (some ⟨pb0, 0, none⟩)]), (10, .int .i64 q94), (11, .int .i64 q95)] ∧ St w s (pt pb0 (.cells #[.slice a_y0_0 y0.length c_y0_0] 22 (0, 0)) :: vecC 3 1 a_v0 c_v0 x0.length cs_v0 :: R)) ?_ ?_
          · refine W.gen fun K96 hK96 => ?_
            refine W.cond hE rfl (fun hc97 => ?_) (fun hc97 => ?_)
            · replace hq90 := iteT hc97 hq90
              refine W.region ?_
              refine WL.vS hS hE (runs_plain rfl) (Gives.p hE rfl) rfl ?_; clear hE a; intro a hE
              refine WL.vS hS hE (runs_plain rfl) (Gives.p hE rfl) rfl ?_; clear hE a; intro a hE
              refine WL.vS hS hE (runs_plain rfl) (Gives.p hE rfl) rfl ?_; clear hE a; intro a hE
              refine WL.nil ?_
              subst hK96
              exact ⟨w64 ((w64 (Int.fdiv (IntKind.wrap .u64 (w64 (q64 + q65))) (2 ^ (min (Int.toNat 1) (IntKind.bits .u64))))) + 1), q65, hq90, hE.pick _ ⟨rfl, rfl, rfl, rfl, rfl, trivial⟩, hS⟩
            · replace hq90 := iteF hc97 hq90
              refine W.region ?_
              refine WL.vS hS hE (runs_plain rfl) (Gives.p hE rfl) rfl ?_; clear hE a; intro a hE
              refine WL.vS hS hE (runs_plain rfl) (Gives.p hE rfl) rfl ?_; clear hE a; intro a hE
              refine WL.nil ?_
              subst hK96
              exact ⟨q64, w64 (Int.fdiv (IntKind.wrap .u64 (w64 (q64 + q65))) (2 ^ (min (Int.toNat 1) (IntKind.bits .u64)))), hq90, hE.pick _ ⟨rfl, rfl, rfl, rfl, rfl, trivial⟩, hS⟩
          · clear hE hS a w; rintro a w ⟨q94, q95, rfl, hE, hS⟩
            dsimp only at hq58
            subst hK66
            exact ⟨n60, Nat.lt_succ_self _, n60, q94, q95, rfl, hq58, hE.pick _ ⟨rfl, rfl, rfl, rfl, rfl, trivial⟩, hS⟩
        · replace hq58 := iteF hc67 hq58
          subst hK66
          refine W.exit rfl ?_
          exact ⟨q64, q65, Option.some.inj hq58, hE.pick _ ⟨rfl, rfl, rfl, trivial⟩, hS⟩
      · clear hE hS a w; rintro a w ⟨q64, q65, rfl, hE, hS⟩
        dsimp only at hr
        refine W.seq ?_
        refine W.seq ?_
        refine W.region ?_
        refine WL.vS hS hE (runs_plain rfl) (Gives.p hE rfl) rfl ?_; clear hE a; intro a hE
        refine WL.vS hS hE (runs_plain rfl) (Gives.p hE rfl) rfl ?_; clear hE a; intro a hE
        refine WL.nil ?_
        obtain ⟨q99, hq98, hr⟩ := bindS hr
        refine W.cut (fun a w => ∃ (q104 : Int), ∃ (q105 : List Int), ∃ (cs109 : List Value), (q104, q105) = q99 ∧ Ev 1 (RI .i64) s cs109 q105 ∧ q105.length = x0.length ∧ Rep a 220 [] ∧ St w s (pt pb0 (.cells #[.slice a_y0_0 y0.length c_y0_0] 22 (0, 0)) :: vecC 3 1 a_v0 c_v0 x0.length cs109 :: R)) ?_ ?_
        · refine W.block ?_
          refine W.loop (fun m a w => ∃ (n100 : Nat), ∃ (q104 : Int), ∃ (q105 : List Int), ∃ (cs109 : List Value), n100 = m ∧ SlicessymMergeCmpFuncint_v1.loop2 q64 n100 q104 q105 = some q99 ∧ Ev 1 (RI .i64) s cs109 q105 ∧ q105.length = x0.length ∧ Rep a 220 [(0, .slice a_v0 x0.length c_v0), (10, .int .i64 q64), (13, .int .i64 q104)] ∧ St w s (pt pb0 (.cells #[.slice a_y0_0 y0.length c_y0_0] 22 (0, 0)) :: vecC 3 1 a_v0 c_v0 x0.length cs109 :: R)) (m := fu) ⟨fu, x1, x0, cs_v0, rfl, hq98, h_v0, (rfl), hE.pick _ ⟨rfl, rfl, rfl, trivial⟩, hS⟩ ?_
          clear hE hS a w hq98; rintro m101 a w ⟨n100, q104, q105, cs109, rfl, hq98, h108, hn110, hE, hS⟩
          refine W.gen fun K111 hK111 => ?_
          rcases n100 with _ | n100
          · rw [SlicessymMergeCmpFuncint_v1.loop2] at hq98; exact absurd hq98 (by simp)
          rw [SlicessymMergeCmpFuncint_v1.loop2] at hq98
          refine W.seq ?_
          refine W.seq ?_
          refine W.region ?_
          refine WL.vS hS hE (runs_plain rfl) (Gives.p hE rfl) rfl ?_; clear hE a; intro a hE
          refine WL.vS hS hE (runs_plain rfl) (Gives.p hE rfl) rfl ?_; clear hE a; intro a hE
          refine WL.vS hS hE (runs_plain rfl) (Gives.p hE rfl) rfl ?_; clear hE a; intro a hE
          refine WL.vS hS hE (runs_plain rfl) (Gives.p hE rfl) rfl ?_; clear hE a; intro a hE
          refine WL.nil ?_
          refine W.cond hE rfl (fun hc112 => ?_) (fun hc112 => ?_)
          · replace hq98 := iteT hc112 hq98
            refine W.skip ?_
            refine W.seq ?_
            refine W.block ?_
            refine W.gen fun K113 hK113 => ?_
            refine rE hS [] [1] [0, 1, 2, 3, 4, 5, 6, 7, 8, 9, 10, 11, 12, 13, 14, 16] [0, 1, 2, 3, 4, 5, 6, 7, 8, 9, 10, 11, 12, 13, 14, 15, 16, 17] mixed ?_
            replace hS := hS.drew
            refine Rg.takeP (i := 0) hE rfl (by kernel_rfl) (runs_plain rfl) (Gives.p hE rfl) rfl (tw_sel (fun _ => hS) (fun _ => (hS.dropAt 1))) ?_; clear hE a; intro a hE
            refine Rg.takeP (i := 1) hE rfl (by kernel_rfl) (runs_plain rfl) (Gives.p hE rfl) rfl (tw_sel (fun _ => hS) (fun _ => (hS.dropAt 1))) ?_; clear hE a; intro a hE
            refine Rg.takeP (i := 2) hE rfl (by kernel_rfl) (runs_plain rfl) (Gives.p hE rfl) rfl (tw_sel (fun _ => hS) (fun _ => (hS.dropAt 1))) ?_; clear hE a; intro a hE
            refine Rg.takeP (i := 3) hE rfl (by kernel_rfl) (runs_plain rfl) (Gives.p hE rfl) rfl (tw_sel (fun _ => hS) (fun _ => (hS.dropAt 1))) ?_; clear hE a; intro a hE
            refine Rg.takeP (i := 4) hE rfl (by kernel_rfl) (runs_plain rfl) (Gives.p hE rfl) rfl (tw_sel (fun _ => hS) (fun _ => (hS.dropAt 1))) ?_; clear hE a; intro a hE
            refine Rg.takeP (i := 5) hE rfl (by kernel_rfl) (runs_plain rfl) (Gives.p hE rfl) rfl (tw_sel (fun _ => hS) (fun _ => (hS.dropAt 1))) ?_; clear hE a; intro a hE
            refine Rg.takeP (i := 6) hE rfl (by kernel_rfl) (runs_plain rfl) (Gives.p hE rfl) rfl (tw_sel (fun _ => hS) (fun _ => (hS.dropAt 1))) ?_; clear hE a; intro a hE
            refine Rg.takeP (i := 7) hE rfl (by kernel_rfl) (runs_plain rfl) (Gives.p hE rfl) rfl (tw_sel (fun _ => hS) (fun _ => (hS.dropAt 1))) ?_; clear hE a; intro a hE
            obtain ⟨x114, hx115, hq98⟩ := bindS hq98
            obtain ⟨hi116, hlt117, hy118⟩ := gx_some hx115
            obtain ⟨vs119, hl120, hR121, hd122, hget123⟩ := h108.at hy118
            subst hR121
            refine Rg.takeP (i := 8) hE rfl (by kernel_rfl) (runs_plain rfl) (Gives.idx hE ((w64 (q104 + 1)).toNat) rfl rfl sl31 hi116 (by have := hn110; omega) (hS.vecAok 1 rfl (by have := hn110; omega : (w64 (q104 + 1)).toNat < x0.length))) rfl (tw_sel (fun _ => hS) (fun _ => (hS.dropAt 1))) ?_; clear hE a; intro a hE
            refine Rg.take (i := 9) true rfl hE rfl (by kernel_rfl) (runs_plain rfl) (Gives.load1 hE rfl (fun w h => St.vecSees h 1 rfl ((w64 (q104 + 1)).toNat * 1) _ hget123) ty3) rfl (tw_sel (fun _ => hS) (fun _ => (hS.dropAt 1))) ?_; clear hE a; intro a hE
            refine Rg.takeP (i := 10) hE rfl (by kernel_rfl) (runs_plain rfl) (Gives.p hE rfl) rfl (tw_sel (fun _ => hS) (fun _ => (hS.dropAt 1))) ?_; clear hE a; intro a hE
            refine Rg.takeP (i := 11) hE rfl (by kernel_rfl) (runs_plain rfl) (Gives.p hE rfl) rfl (tw_sel (fun _ => hS) (fun _ => (hS.dropAt 1))) ?_; clear hE a; intro a hE
            obtain ⟨x124, hx125, hq98⟩ := bindS hq98
            obtain ⟨hi126, hlt127, hy128⟩ := gx_some hx125
            obtain ⟨vs129, hl130, hR131, hd132, hget133⟩ := h108.at hy128
            subst hR131
            refine Rg.takeP (i := 12) hE rfl (by kernel_rfl) (runs_plain rfl) (Gives.idx hE ((q104).toNat) rfl rfl sl31 hi126 (by have := hn110; omega) (hS.vecAok 1 rfl (by have := hn110; omega : (q104).toNat < x0.length))) rfl (tw_sel (fun _ => hS) (fun _ => (hS.dropAt 1))) ?_; clear hE a; intro a hE
            refine Rg.take (i := 13) true rfl hE rfl (by kernel_rfl) (runs_plain rfl) (Gives.load1 hE rfl (fun w h => St.vecSees h 1 rfl ((q104).toNat * 1) _ hget133) ty3) rfl (tw_sel (fun _ => hS) (fun _ => (hS.dropAt 1))) ?_; clear hE a; intro a hE
            obtain ⟨_, hx135, hq98⟩ := bindS hq98
            obtain ⟨h136, h137⟩ := ix_some hx135
            refine Rg.takeP (i := 14) hE rfl (by kernel_rfl) (runs_plain rfl) (Gives.idx hE ((q104).toNat) rfl rfl sl31 h136 (by have := hn110; omega) (hS.vecAok 1 rfl (by have := hn110; omega : (q104).toNat < x0.length))) rfl (tw_sel (fun _ => hS) (fun _ => (hS.dropAt 1))) ?_; clear hE a; intro a hE
            refine Rg.one (i := 15) false true rfl (by kernel_rfl) (by kernel_rfl) (by kernel_rfl) ?_
            obtain ⟨x139, hx140, hq98⟩ := bindS hq98
            refine WL.setD hE hS 1 rfl (runs_plain rfl) rfl rfl (vs := [.int .i64 x114]) rfl ty3 rfl rfl rfl h108 hn110 (sx_some hx140).1 hx140 rfl rfl ?_; clear hE hS a w; intro cs141 a w h142 hn143 hE hS
            refine WL.nil ?_
            refine ⟨⟨fun h => absurd h (by decide), fun _ => (hS.dropAt 1)⟩, ?_⟩
            obtain ⟨_, hx145, hq98⟩ := bindS hq98
            obtain ⟨h146, h147⟩ := ix_some hx145
            refine Rg.takeP (i := 16) hE rfl (by kernel_rfl) (runs_plain rfl) (Gives.idx hE ((w64 (q104 + 1)).toNat) rfl rfl sl31 h146 (by have := hn143; omega) (hS.vecAok 1 rfl (by have := hn143; omega : (w64 (q104 + 1)).toNat < x0.length))) rfl (tw_sel (fun h => absurd h (by decide)) (fun _ => (hS.dropAt 1))) ?_; clear hE a; intro a hE
            refine Rg.one (i := 17) false true rfl (by kernel_rfl) (by kernel_rfl) (by kernel_rfl) ?_
            obtain ⟨x149, hx150, hq98⟩ := bindS hq98
            refine WL.setD hE hS 1 rfl (runs_plain rfl) rfl rfl (vs := [.int .i64 x124]) rfl ty3 rfl rfl rfl h142 hn143 (sx_some hx150).1 hx150 rfl rfl ?_; clear hE hS a w; intro cs151 a w h152 hn153 hE hS
            refine WL.nil ?_
            refine ⟨⟨fun h => absurd h (by decide), fun _ => (hS.dropAt 1)⟩, ?_⟩
            refine Rg.done (by kernel_rfl) ?_
            subst hK113
            refine W.region ?_
            refine WL.vS hS hE (runs_plain rfl) (Gives.p hE rfl) rfl ?_; clear hE a; intro a hE
            refine WL.vS hS hE (runs_plain rfl) (Gives.p hE rfl) rfl ?_; clear hE a; intro a hE
            refine WL.vS hS hE (runs_plain rfl) (Gives.p hE rfl) rfl ?_; clear hE a; intro a hE
            refine WL.nil ?_
            subst hK111
            exact ⟨n100, Nat.lt_succ_self _, n100, (w64 (q104 + 1)), x149, cs151, rfl, hq98, h152, hn153, hE.pick _ ⟨rfl, rfl, rfl, trivial⟩, hS⟩
          · replace hq98 := iteF hc112 hq98
            subst hK111
            refine W.exit rfl ?_
            exact ⟨q104, q105, cs109, Option.some.inj hq98, h108, hn110, hE.pick _ trivial, hS⟩
        · clear hE hS a w; rintro a w ⟨q104, q105, cs109, rfl, h108, hn110, hE, hS⟩
          dsimp only at hr
          refine W.ret ?_
          refine finG (fn := Try.f24) (rs := []) (vs := []) hE rfl trivial ?_
          obtain rfl := Option.some.inj hr
          exact ⟨cs109, rfl, h108, hn110, hS⟩
    · replace hr := iteF hc57 hr
      refine W.skip ?_
      refine W.seq ?_
      refine W.seq ?_
      refine W.region ?_
      refine WL.vS hS hE (runs_plain rfl) (Gives.p hE rfl) rfl ?_; clear hE a; intro a hE
      refine WL.vS hS hE (runs_plain rfl) (Gives.p hE rfl) rfl ?_; clear hE a; intro a hE
      refine WL.vS hS hE (runs_plain rfl) (Gives.p hE rfl) rfl ?_; clear hE a; intro a hE
      refine WL.vS hS hE (runs_plain rfl) (Gives.p hE rfl) rfl ?_; clear hE a; intro a hE
      refine WL.nil ?_
      refine W.cond hE rfl (fun hc154 => ?_) (fun hc154 => ?_)
      · replace hr := iteT hc154 hr
        refine W.seq ?_
        refine W.region ?_
        refine WL.vS hS hE (runs_plain rfl) (Gives.p hE rfl) rfl ?_; clear hE a; intro a hE
        refine WL.vS hS hE (runs_plain rfl) (Gives.p hE rfl) rfl ?_; clear hE a; intro a hE
        refine WL.nil ?_
        refine W.seq ?_
        refine W.region ?_
        refine WL.vS hS hE (runs_plain rfl) (Gives.p hE rfl) rfl ?_; clear hE a; intro a hE
        refine WL.vS hS hE (runs_plain rfl) (Gives.p hE rfl) rfl ?_; clear hE a; intro a hE
        refine WL.nil ?_
        refine W.seq ?_
        obtain ⟨q156, hq155, hr⟩ := bindS hr
        refine W.cut (fun a w => ∃ (q161 : Int), ∃ (q162 : Int), (q161, q162) = q156 ∧ Rep a 220 [(0, .slice a_v0 x0.length c_v0), (2, .int .i64 x2), (14, .int .i64 q161)] ∧ St w s (pt pb0 (.cells #[.slice a_y0_0 y0.length c_y0_0] 22 (0, 0)) :: vecC 3 1 a_v0 c_v0 x0.length cs_v0 :: R)) ?_ ?_
        · refine W.block ?_
          refine W.loop (fun m a w => ∃ (n157 : Nat), ∃ (q161 : Int), ∃ (q162 : Int), n157 = m ∧ SlicessymMergeCmpFuncint_v1.loop3 x0 x2 y0 n157 q161 q162 = some q156 ∧ Rep a 220 [(0, .slice a_v0 x0.length c_v0), (2, .int .i64 x2), (4, .func (.func 19) #[] #[.pointer (some ⟨pb0, 0, none⟩)]), (14, .int .i64 q161), (15, .int .i64 q162)] ∧ St w s (pt pb0 (.cells #[.slice a_y0_0 y0.length c_y0_0] 22 (0, 0)) :: vecC 3 1 a_v0 c_v0 x0.length cs_v0 :: R)) (m := fu) ⟨fu, x1, x2, rfl, hq155, hE.pick _ ⟨rfl, rfl, rfl, rfl, rfl, trivial⟩, hS⟩ ?_
          clear hE hS a w hq155; rintro m158 a w ⟨n157, q161, q162, rfl, hq155, hE, hS⟩
          refine W.gen fun K163 hK163 => ?_
          rcases n157 with _ | n157
          · rw [SlicessymMergeCmpFuncint_v1.loop3] at hq155; exact absurd hq155 (by simp)
          rw [SlicessymMergeCmpFuncint_v1.loop3] at hq155
          refine W.seq ?_
          refine W.seq ?_
          refine W.region ?_
          refine WL.vS hS hE (runs_plain rfl) (Gives.p hE rfl) rfl ?_; clear hE a; intro a hE
          refine WL.vS hS hE (runs_plain rfl) (Gives.p hE rfl) rfl ?_; clear hE a; intro a hE
          refine WL.vS hS hE (runs_plain rfl) (Gives.p hE rfl) rfl ?_; clear hE a; intro a hE
          refine WL.nil ?_
          refine W.cond hE rfl (fun hc164 => ?_) (fun hc164 => ?_)
          · replace hq155 := iteT hc164 hq155
            refine W.skip ?_
            refine W.block ?_
            refine W.seq ?_
            refine W.region ?_
            refine WL.vS hS hE (runs_plain rfl) (Gives.p hE rfl) rfl ?_; clear hE a; intro a hE
            refine WL.vS hS hE (runs_plain rfl) (Gives.p hE rfl) rfl ?_; clear hE a; intro a hE
            refine WL.vS hS hE (runs_plain rfl) (Gives.p hE rfl) rfl ?_; clear hE a; intro a hE
            refine WL.vS hS hE (runs_plain rfl) (Gives.conv hE rfl hu3 ui47) rfl ?_; clear hE a; intro a hE
            refine WL.vS hS hE (runs_plain rfl) (Gives.shr hE rfl rfl (by decide)) rfl ?_; clear hE a; intro a hE
            refine WL.vS hS hE (runs_plain rfl) (Gives.conv hE rfl hu47 ui3) rfl ?_; clear hE a; intro a hE
            refine WL.vS hS hE (runs_plain rfl) (Gives.p hE rfl) rfl ?_; clear hE a; intro a hE
            refine WL.nil ?_
            refine W.seq ?_
            refine W.regionQ (C := fun w => St w s (pt pb0 (.cells #[.slice a_y0_0 y0.length c_y0_0] 22 (0, 0)) :: vecC 3 1 a_v0 c_v0 x0.length cs_v0 :: R)) mixed (by kernel_rfl) hS.drew ?_
            refine QL.v hE (runs_plain rfl) (Gives.p hE rfl) rfl ?_; clear hE a; intro a hE
            refine QL.v hE (runs_plain rfl) (Gives.p hE rfl) rfl ?_; clear hE a; intro a hE
            refine QL.v hE (runs_plain rfl) (Gives.p hE rfl) rfl ?_; clear hE a; intro a hE
            obtain ⟨x165, hx166, hq155⟩ := bindS hq155
            obtain ⟨hi167, hlt168, hy169⟩ := gx_some hx166
            obtain ⟨vs170, hl171, hR172, hd173, hget174⟩ := h_v0.at hy169
            subst hR172
            refine QL.v hE (runs_plain rfl) (Gives.idx hE ((x2).toNat) rfl rfl sl31 hi167 (by omega) (hS.vecAok 1 rfl (by omega : (x2).toNat < x0.length))) rfl ?_; clear hE a; intro a hE
            refine QL.v hE (runs_plain rfl) (Gives.load1 hE rfl (fun w h => St.vecSees h 1 rfl ((x2).toNat * 1) _ hget174) ty3) rfl ?_; clear hE a; intro a hE
            refine QL.v hE (runs_plain rfl) (Gives.p hE rfl) rfl ?_; clear hE a; intro a hE
            refine QL.v hE (runs_plain rfl) (Gives.p hE rfl) rfl ?_; clear hE a; intro a hE
            obtain ⟨x175, hx176, hq155⟩ := bindS hq155
            obtain ⟨hi177, hlt178, hy179⟩ := gx_some hx176
            obtain ⟨vs180, hl181, hR182, hd183, hget184⟩ := h_v0.at hy179
            subst hR182
            refine QL.v hE (runs_plain rfl) (Gives.idx hE ((w64 (Int.fdiv (IntKind.wrap .u64 (w64 (q161 + q162))) (2 ^ (min (Int.toNat 1) (IntKind.bits .u64))))).toNat) rfl rfl sl31 hi177 (by omega) (hS.vecAok 1 rfl (by omega : (w64 (Int.fdiv (IntKind.wrap .u64 (w64 (q161 + q162))) (2 ^ (min (Int.toNat 1) (IntKind.bits .u64))))).toNat < x0.length))) rfl ?_; clear hE a; intro a hE
            refine QL.v hE (runs_plain rfl) (Gives.load1 hE rfl (fun w h => St.vecSees h 1 rfl ((w64 (Int.fdiv (IntKind.wrap .u64 (w64 (q161 + q162))) (2 ^ (min (Int.toNat 1) (IntKind.bits .u64))))).toNat * 1) _ hget184) ty3) rfl ?_; clear hE a; intro a hE
            obtain ⟨q185, hq186, hq155⟩ := bindS hq155
            refine QL.fnw hE (fun w hS => Fleetorder_1_v1_ok hS h_y0_0 hq186) rfl (runs_plain rfl) bd19 rfl rfl rfl ?_; clear hE a; intro a hE
            refine QL.v hE (runs_plain rfl) (Gives.p hE rfl) rfl ?_; clear hE a; intro a hE
            refine QL.v hE (runs_plain rfl) (Gives.p hE rfl) rfl ?_; clear hE a; intro a hE
            refine QL.nil ?_; clear hS w; intro w hS
            obtain ⟨q188, hq187, hq155⟩ := bndS hq155
            refine W.cut (fun a w => ∃ (q191 : Int), ∃ (q192 : Int), (q191, q192) = q188 ∧ Rep a 220 [(0, .slice a_v0 x0.length c_v0), (2, .int .i64 x2), (4, .func (.func 19) #[] #[.pointer (some ⟨pb0, 0, none⟩)]), (14, .int .i64 q191), (15, .int .i64 q192)] ∧ St w s (pt pb0 (.cells #[.slice a_y0_0 y0.length c_y0_0] 22 (0, 0)) :: vecC 3 1 a_v0 c_v0 x0.length cs_v0 :: R)) ?_ ?_
            · refine W.gen fun K193 hK193 => ?_
              refine W.cond hE rfl (fun hc194 => ?_) (fun hc194 => ?_)
              · replace hq187 := iteT hc194 hq187
                refine W.region ?_
                refine WL.vS hS hE (runs_plain rfl) (Gives.p hE rfl) rfl ?_; clear hE a; intro a hE
                refine WL.vS hS hE (runs_plain rfl) (Gives.p hE rfl) rfl ?_; clear hE a; intro a hE
                refine WL.vS hS hE (runs_plain rfl) (Gives.p hE rfl) rfl ?_; clear hE a; intro a hE
                refine WL.nil ?_
                subst hK193
                exact ⟨w64 ((w64 (Int.fdiv (IntKind.wrap .u64 (w64 (q161 + q162))) (2 ^ (min (Int.toNat 1) (IntKind.bits .u64))))) + 1), q162, hq187, hE.pick _ ⟨rfl, rfl, rfl, rfl, rfl, trivial⟩, hS⟩
              · replace hq187 := iteF hc194 hq187
                refine W.region ?_
                refine WL.vS hS hE (runs_plain rfl) (Gives.p hE rfl) rfl ?_; clear hE a; intro a hE
                refine WL.vS hS hE (runs_plain rfl) (Gives.p hE rfl) rfl ?_; clear hE a; intro a hE
                refine WL.nil ?_
                subst hK193
                exact ⟨q161, w64 (Int.fdiv (IntKind.wrap .u64 (w64 (q161 + q162))) (2 ^ (min (Int.toNat 1) (IntKind.bits .u64)))), hq187, hE.pick _ ⟨rfl, rfl, rfl, rfl, rfl, trivial⟩, hS⟩
            · clear hE hS a w; rintro a w ⟨q191, q192, rfl, hE, hS⟩
              dsimp only at hq155
              subst hK163
              exact ⟨n157, Nat.lt_succ_self _, n157, q191, q192, rfl, hq155, hE.pick _ ⟨rfl, rfl, rfl, rfl, rfl, trivial⟩, hS⟩
          · replace hq155 := iteF hc164 hq155
            subst hK163
            refine W.exit rfl ?_
            exact ⟨q161, q162, Option.some.inj hq155, hE.pick _ ⟨rfl, rfl, rfl, trivial⟩, hS⟩
        · clear hE hS a w; rintro a w ⟨q161, q162, rfl, hE, hS⟩
          dsimp only at hr
          refine W.seq ?_
          refine W.seq ?_
          refine W.region ?_
          refine WL.vS hS hE (runs_plain rfl) (Gives.p hE rfl) rfl ?_; clear hE a; intro a hE
          refine WL.vS hS hE (runs_plain rfl) (Gives.p hE rfl) rfl ?_; clear hE a; intro a hE
          refine WL.nil ?_
          obtain ⟨q196, hq195, hr⟩ := bindS hr
          refine W.cut (fun a w => ∃ (q201 : Int), ∃ (q202 : List Int), ∃ (cs206 : List Value), (q201, q202) = q196 ∧ Ev 1 (RI .i64) s cs206 q202 ∧ q202.length = x0.length ∧ Rep a 220 [] ∧ St w s (pt pb0 (.cells #[.slice a_y0_0 y0.length c_y0_0] 22 (0, 0)) :: vecC 3 1 a_v0 c_v0 x0.length cs206 :: R)) ?_ ?_
          · refine W.block ?_
            refine W.loop (fun m a w => ∃ (n197 : Nat), ∃ (q201 : Int), ∃ (q202 : List Int), ∃ (cs206 : List Value), n197 = m ∧ SlicessymMergeCmpFuncint_v1.loop4 q161 n197 q201 q202 = some q196 ∧ Ev 1 (RI .i64) s cs206 q202 ∧ q202.length = x0.length ∧ Rep a 220 [(0, .slice a_v0 x0.length c_v0), (14, .int .i64 q161), (17, .int .i64 q201)] ∧ St w s (pt pb0 (.cells #[.slice a_y0_0 y0.length c_y0_0] 22 (0, 0)) :: vecC 3 1 a_v0 c_v0 x0.length cs206 :: R)) (m := fu) ⟨fu, x2, x0, cs_v0, rfl, hq195, h_v0, (rfl), hE.pick _ ⟨rfl, rfl, rfl, trivial⟩, hS⟩ ?_
            clear hE hS a w hq195; rintro m198 a w ⟨n197, q201, q202, cs206, rfl, hq195, h205, hn207, hE, hS⟩
            refine W.gen fun K208 hK208 => ?_
            rcases n197 with _ | n197
            · rw [SlicessymMergeCmpFuncint_v1.loop4] at hq195; exact absurd hq195 (by simp)
            rw [SlicessymMergeCmpFuncint_v1.loop4] at hq195
            refine W.seq ?_
            refine W.seq ?_
            refine W.region ?_
            refine WL.vS hS hE (runs_plain rfl) (Gives.p hE rfl) rfl ?_; clear hE a; intro a hE
            refine WL.vS hS hE (runs_plain rfl) (Gives.p hE rfl) rfl ?_; clear hE a; intro a hE
            refine WL.vS hS hE (runs_plain rfl) (Gives.p hE rfl) rfl ?_; clear hE a; intro a hE
            refine WL.nil ?_
            refine W.cond hE rfl (fun hc209 => ?_) (fun hc209 => ?_)
            · replace hq195 := iteT hc209 hq195
              refine W.skip ?_
              refine W.seq ?_
              refine W.block ?_
              refine W.gen fun K210 hK210 => ?_
              refine rE hS [] [1] [0, 1, 2, 3, 4, 5, 6, 7, 8, 9, 10, 11, 12, 13, 14, 16] [0, 1, 2, 3, 4, 5, 6, 7, 8, 9, 10, 11, 12, 13, 14, 15, 16, 17] mixed ?_
              replace hS := hS.drew
              refine Rg.takeP (i := 0) hE rfl (by kernel_rfl) (runs_plain rfl) (Gives.p hE rfl) rfl (tw_sel (fun _ => hS) (fun _ => (hS.dropAt 1))) ?_; clear hE a; intro a hE
              refine Rg.takeP (i := 1) hE rfl (by kernel_rfl) (runs_plain rfl) (Gives.p hE rfl) rfl (tw_sel (fun _ => hS) (fun _ => (hS.dropAt 1))) ?_; clear hE a; intro a hE
              refine Rg.takeP (i := 2) hE rfl (by kernel_rfl) (runs_plain rfl) (Gives.p hE rfl) rfl (tw_sel (fun _ => hS) (fun _ => (hS.dropAt 1))) ?_; clear hE a; intro a hE
              refine Rg.takeP (i := 3) hE rfl (by kernel_rfl) (runs_plain rfl) (Gives.p hE rfl) rfl (tw_sel (fun _ => hS) (fun _ => (hS.dropAt 1))) ?_; clear hE a; intro a hE
              refine Rg.takeP (i := 4) hE rfl (by kernel_rfl) (runs_plain rfl) (Gives.p hE rfl) rfl (tw_sel (fun _ => hS) (fun _ => (hS.dropAt 1))) ?_; clear hE a; intro a hE
              refine Rg.takeP (i := 5) hE rfl (by kernel_rfl) (runs_plain rfl) (Gives.p hE rfl) rfl (tw_sel (fun _ => hS) (fun _ => (hS.dropAt 1))) ?_; clear hE a; intro a hE
              refine Rg.takeP (i := 6) hE rfl (by kernel_rfl) (runs_plain rfl) (Gives.p hE rfl) rfl (tw_sel (fun _ => hS) (fun _ => (hS.dropAt 1))) ?_; clear hE a; intro a hE
              refine Rg.takeP (i := 7) hE rfl (by kernel_rfl) (runs_plain rfl) (Gives.p hE rfl) rfl (tw_sel (fun _ => hS) (fun _ => (hS.dropAt 1))) ?_; clear hE a; intro a hE
              obtain ⟨x211, hx212, hq195⟩ := bindS hq195
              obtain ⟨hi213, hlt214, hy215⟩ := gx_some hx212
              obtain ⟨vs216, hl217, hR218, hd219, hget220⟩ := h205.at hy215
              subst hR218
              refine Rg.takeP (i := 8) hE rfl (by kernel_rfl) (runs_plain rfl) (Gives.idx hE ((w64 (q201 - 1)).toNat) rfl rfl sl31 hi213 (by have := hn207; omega) (hS.vecAok 1 rfl (by have := hn207; omega : (w64 (q201 - 1)).toNat < x0.length))) rfl (tw_sel (fun _ => hS) (fun _ => (hS.dropAt 1))) ?_; clear hE a; intro a hE
              refine Rg.take (i := 9) true rfl hE rfl (by kernel_rfl) (runs_plain rfl) (Gives.load1 hE rfl (fun w h => St.vecSees h 1 rfl ((w64 (q201 - 1)).toNat * 1) _ hget220) ty3) rfl (tw_sel (fun _ => hS) (fun _ => (hS.dropAt 1))) ?_; clear hE a; intro a hE
              refine Rg.takeP (i := 10) hE rfl (by kernel_rfl) (runs_plain rfl) (Gives.p hE rfl) rfl (tw_sel (fun _ => hS) (fun _ => (hS.dropAt 1))) ?_; clear hE a; intro a hE
              refine Rg.takeP (i := 11) hE rfl (by kernel_rfl) (runs_plain rfl) (Gives.p hE rfl) rfl (tw_sel (fun _ => hS) (fun _ => (hS.dropAt 1))) ?_; clear hE a; intro a hE
              obtain ⟨x221, hx222, hq195⟩ := bindS hq195
              obtain ⟨hi223, hlt224, hy225⟩ := gx_some hx222
              obtain ⟨vs226, hl227, hR228, hd229, hget230⟩ := h205.at hy225
              subst hR228
              refine Rg.takeP (i := 12) hE rfl (by kernel_rfl) (runs_plain rfl) (Gives.idx hE ((q201).toNat) rfl rfl sl31 hi223 (by have := hn207; omega) (hS.vecAok 1 rfl (by have := hn207; omega : (q201).toNat < x0.length))) rfl (tw_sel (fun _ => hS) (fun _ => (hS.dropAt 1))) ?_; clear hE a; intro a hE
              refine Rg.take (i := 13) true rfl hE rfl (by kernel_rfl) (runs_plain rfl) (Gives.load1 hE rfl (fun w h => St.vecSees h 1 rfl ((q201).toNat * 1) _ hget230) ty3) rfl (tw_sel (fun _ => hS) (fun _ => (hS.dropAt 1))) ?_; clear hE a; intro a hE
              obtain ⟨_, hx232, hq195⟩ := bindS hq195
              obtain ⟨h233, h234⟩ := ix_some hx232
              refine Rg.takeP (i := 14) hE rfl (by kernel_rfl) (runs_plain rfl) (Gives.idx hE ((q201).toNat) rfl rfl sl31 h233 (by have := hn207; omega) (hS.vecAok 1 rfl (by have := hn207; omega : (q201).toNat < x0.length))) rfl (tw_sel (fun _ => hS) (fun _ => (hS.dropAt 1))) ?_; clear hE a; intro a hE
              refine Rg.one (i := 15) false true rfl (by kernel_rfl) (by kernel_rfl) (by kernel_rfl) ?_
              obtain ⟨x236, hx237, hq195⟩ := bindS hq195
              refine WL.setD hE hS 1 rfl (runs_plain rfl) rfl rfl (vs := [.int .i64 x211]) rfl ty3 rfl rfl rfl h205 hn207 (sx_some hx237).1 hx237 rfl rfl ?_; clear hE hS a w; intro cs238 a w h239 hn240 hE hS
              refine WL.nil ?_
              refine ⟨⟨fun h => absurd h (by decide), fun _ => (hS.dropAt 1)⟩, ?_⟩
              obtain ⟨_, hx242, hq195⟩ := bindS hq195
              obtain ⟨h243, h244⟩ := ix_some hx242
              refine Rg.takeP (i := 16) hE rfl (by kernel_rfl) (runs_plain rfl) (Gives.idx hE ((w64 (q201 - 1)).toNat) rfl rfl sl31 h243 (by have := hn240; omega) (hS.vecAok 1 rfl (by have := hn240; omega : (w64 (q201 - 1)).toNat < x0.length))) rfl (tw_sel (fun h => absurd h (by decide)) (fun _ => (hS.dropAt 1))) ?_; clear hE a; intro a hE
              refine Rg.one (i := 17) false true rfl (by kernel_rfl) (by kernel_rfl) (by kernel_rfl) ?_
              obtain ⟨x246, hx247, hq195⟩ := bindS hq195
              refine WL.setD hE hS 1 rfl (runs_plain rfl) rfl rfl (vs := [.int .i64 x221]) rfl ty3 rfl rfl rfl h239 hn240 (sx_some hx247).1 hx247 rfl rfl ?_; clear hE hS a w; intro cs248 a w h249 hn250 hE hS
              refine WL.nil ?_
              refine ⟨⟨fun h => absurd h (by decide), fun _ => (hS.dropAt 1)⟩, ?_⟩
              refine Rg.done (by kernel_rfl) ?_
              subst hK210
              refine W.region ?_
              refine WL.vS hS hE (runs_plain rfl) (Gives.p hE rfl) rfl ?_; clear hE a; intro a hE
              refine WL.vS hS hE (runs_plain rfl) (Gives.p hE rfl) rfl ?_; clear hE a; intro a hE
              refine WL.vS hS hE (runs_plain rfl) (Gives.p hE rfl) rfl ?_; clear hE a; intro a hE
              refine WL.nil ?_
              subst hK208
              exact ⟨n197, Nat.lt_succ_self _, n197, (w64 (q201 - 1)), x246, cs248, rfl, hq195, h249, hn250, hE.pick _ ⟨rfl, rfl, rfl, trivial⟩, hS⟩
            · replace hq195 := iteF hc209 hq195
              subst hK208
              refine W.exit rfl ?_
              exact ⟨q201, q202, cs206, Option.some.inj hq195, h205, hn207, hE.pick _ trivial, hS⟩
          · clear hE hS a w; rintro a w ⟨q201, q202, cs206, rfl, h205, hn207, hE, hS⟩
            dsimp only at hr
            refine W.ret ?_
            refine finG (fn := Try.f24) (rs := []) (vs := []) hE rfl trivial ?_
            obtain rfl := Option.some.inj hr
            exact ⟨cs206, rfl, h205, hn207, hS⟩
      · replace hr := iteF hc154 hr
        refine W.skip ?_
        refine W.seq ?_
        refine W.region ?_
        refine WL.vS hS hE (runs_plain rfl) (Gives.p hE rfl) rfl ?_; clear hE a; intro a hE
        refine WL.vS hS hE (runs_plain rfl) (Gives.p hE rfl) rfl ?_; clear hE a; intro a hE
        refine WL.vS hS hE (runs_plain rfl) (Gives.p hE rfl) rfl ?_; clear hE a; intro a hE
        refine WL.vS hS hE (runs_plain rfl) (Gives.conv hE rfl hu3 ui47) rfl ?_; clear hE a; intro a hE
        refine WL.vS hS hE (runs_plain rfl) (Gives.shr hE rfl rfl (by decide)) rfl ?_; clear hE a; intro a hE
        refine WL.vS hS hE (runs_plain rfl) (Gives.conv hE rfl hu47 ui3) rfl ?_; clear hE a; intro a hE
        refine WL.vS hS hE (runs_plain rfl) (Gives.p hE rfl) rfl ?_; clear hE a; intro a hE
        refine WL.nil ?_
        refine W.seq ?_
        refine W.region ?_
        refine WL.vS hS hE (runs_plain rfl) (Gives.p hE rfl) rfl ?_; clear hE a; intro a hE
        refine WL.vS hS hE (runs_plain rfl) (Gives.p hE rfl) rfl ?_; clear hE a; intro a hE
        refine WL.vS hS hE (runs_plain rfl) (Gives.p hE rfl) rfl ?_; clear hE a; intro a hE
        refine WL.vS hS hE (runs_plain rfl) (Gives.p hE rfl) rfl ?_; clear hE a; intro a hE
        refine WL.nil ?_
        refine W.seq ?_
        refine W.region ?_
        refine WL.vS hS hE (runs_plain rfl) (Gives.p hE rfl) rfl ?_; clear hE a; intro a hE
        refine WL.vS hS hE (runs_plain rfl) (Gives.p hE rfl) rfl ?_; clear hE a; intro a hE
        refine WL.nil ?_
        refine W.seq ?_
        refine W.seq ?_
        refine W.region ?_
        refine WL.vS hS hE (runs_plain rfl) (Gives.p hE rfl) rfl ?_; clear hE a; intro a hE
        refine WL.vS hS hE (runs_plain rfl) (Gives.p hE rfl) rfl ?_; clear hE a; intro a hE
        refine WL.vS hS hE (runs_plain rfl) (Gives.p hE rfl) rfl ?_; clear hE a; intro a hE
        refine WL.nil ?_
        obtain ⟨q252, hq251, hr⟩ := bndS hr
        refine W.cut (fun a w => ∃ (q255 : Int), ∃ (q256 : Int), (q255, q256) = q252 ∧ Rep a 220 [(0, .slice a_v0 x0.length c_v0), (1, .int .i64 x1), (2, .int .i64 x2), (3, .int .i64 x3), (4, .func (.func 19) #[] #[.pointer (some ⟨pb0, 0, none⟩)]), (18, .int .i64 (w64 (Int.fdiv (IntKind.wrap .u64 (w64 (x1 + x3))) (2 ^ (min (Int.toNat 1) (IntKind.bits .u64)))))), (19, .int .i64 (w64 ((w64 (Int.fdiv (IntKind.wrap .u64 (w64 (x1 + x3))) (2 ^ (min (Int.toNat 1) (IntKind.bits .u64))))) + x2))), (20, .int .i64 q255), (21, .int .i64 q256)] ∧ St w s (pt pb0 (.cells #[.slice a_y0_0 y0.length c_y0_0] 22 (0, 0)) :: vecC 3 1 a_v0 c_v0 x0.length cs_v0 :: R)) ?_ ?_
        · refine W.gen fun K257 hK257 => ?_
          refine W.cond hE rfl (fun hc258 => ?_) (fun hc258 => ?_)
          · replace hq251 := iteT hc258 hq251
            refine W.seq ?_
            refine W.region ?_
            refine WL.vS hS hE (runs_plain rfl) (Gives.p hE rfl) rfl ?_; clear hE a; intro a hE
            refine WL.vS hS hE (runs_plain rfl) (Gives.p hE rfl) rfl ?_; clear hE a; intro a hE
            refine WL.vS hS hE (runs_plain rfl) (Gives.p hE rfl) rfl ?_; clear hE a; intro a hE
            refine WL.vS hS hE (runs_plain rfl) (Gives.p hE rfl) rfl ?_; clear hE a; intro a hE
            refine WL.nil ?_
            refine W.region ?_
            refine WL.vS hS hE (runs_plain rfl) (Gives.p hE rfl) rfl ?_; clear hE a; intro a hE
            refine WL.vS hS hE (runs_plain rfl) (Gives.p hE rfl) rfl ?_; clear hE a; intro a hE
            refine WL.nil ?_
            subst hK257
            exact ⟨w64 ((w64 ((w64 (Int.fdiv (IntKind.wrap .u64 (w64 (x1 + x3))) (2 ^ (min (Int.toNat 1) (IntKind.bits .u64))))) + x2)) - x3), w64 (Int.fdiv (IntKind.wrap .u64 (w64 (x1 + x3))) (2 ^ (min (Int.toNat 1) (IntKind.bits .u64)))), hq251, hE.pick _ ⟨rfl, rfl, rfl, rfl, rfl, rfl, rfl, rfl, rfl, trivial⟩, hS⟩
          · replace hq251 := iteF hc258 hq251
            refine W.seq ?_
            refine W.region ?_
            refine WL.vS hS hE (runs_plain rfl) (Gives.p hE rfl) rfl ?_; clear hE a; intro a hE
            refine WL.vS hS hE (runs_plain rfl) (Gives.p hE rfl) rfl ?_; clear hE a; intro a hE
            refine WL.nil ?_
            refine W.region ?_
            refine WL.vS hS hE (runs_plain rfl) (Gives.p hE rfl) rfl ?_; clear hE a; intro a hE
            refine WL.vS hS hE (runs_plain rfl) (Gives.p hE rfl) rfl ?_; clear hE a; intro a hE
            refine WL.nil ?_
            subst hK257
            exact ⟨x1, x2, hq251, hE.pick _ ⟨rfl, rfl, rfl, rfl, rfl, rfl, rfl, rfl, rfl, trivial⟩, hS⟩
        · clear hE hS a w; rintro a w ⟨q255, q256, rfl, hE, hS⟩
          dsimp only at hr
          refine W.seq ?_
          refine W.region ?_
          refine WL.vS hS hE (runs_plain rfl) (Gives.p hE rfl) rfl ?_; clear hE a; intro a hE
          refine WL.vS hS hE (runs_plain rfl) (Gives.p hE rfl) rfl ?_; clear hE a; intro a hE
          refine WL.vS hS hE (runs_plain rfl) (Gives.p hE rfl) rfl ?_; clear hE a; intro a hE
          refine WL.nil ?_
          refine W.seq ?_
          obtain ⟨q260, hq259, hr⟩ := bindS hr
          refine W.cut (fun a w => ∃ (q265 : Int), ∃ (q266 : Int), (q265, q266) = q260 ∧ Rep a 220 [(0, .slice a_v0 x0.length c_v0), (1, .int .i64 x1), (2, .int .i64 x2), (3, .int .i64 x3), (4, .func (.func 19) #[] #[.pointer (some ⟨pb0, 0, none⟩)]), (18, .int .i64 (w64 (Int.fdiv (IntKind.wrap .u64 (w64 (x1 + x3))) (2 ^ (min (Int.toNat 1) (IntKind.bits .u64)))))), (19, .int .i64 (w64 ((w64 (Int.fdiv (IntKind.wrap .u64 (w64 (x1 + x3))) (2 ^ (min (Int.toNat 1) (IntKind.bits .u64))))) + x2))), (20, .int .i64 q265)] ∧ St w s (pt pb0 (.cells #[.slice a_y0_0 y0.length c_y0_0] 22 (0, 0)) :: vecC 3 1 a_v0 c_v0 x0.length cs_v0 :: R)) ?_ ?_
          · refine W.block ?_
            refine W.loop (fun m a w => ∃ (n261 : Nat), ∃ (q265 : Int), ∃ (q266 : Int), n261 = m ∧ SlicessymMergeCmpFuncint_v1.loop5 x0 x1 x2 x3 y0 n261 q265 q266 = some q260 ∧ Rep a 220 [(0, .slice a_v0 x0.length c_v0), (1, .int .i64 x1), (2, .int .i64 x2), (3, .int .i64 x3), (4, .func (.func 19) #[] #[.pointer (some ⟨pb0, 0, none⟩)]), (18, .int .i64 (w64 (Int.fdiv (IntKind.wrap .u64 (w64 (x1 + x3))) (2 ^ (min (Int.toNat 1) (IntKind.bits .u64)))))), (19, .int .i64 (w64 ((w64 (Int.fdiv (IntKind.wrap .u64 (w64 (x1 + x3))) (2 ^ (min (Int.toNat 1) (IntKind.bits .u64))))) + x2))), (20, .int .i64 q265), (21, .int .i64 q266), (22, .int .i64 (w64 ((w64 ((w64 (Int.fdiv (IntKind.wrap .u64 (w64 (x1 + x3))) (2 ^ (min (Int.toNat 1) (IntKind.bits .u64))))) + x2)) - 1)))] ∧ St w s (pt pb0 (.cells #[.slice a_y0_0 y0.length c_y0_0] 22 (0, 0)) :: vecC 3 1 a_v0 c_v0 x0.length cs_v0 :: R)) (m := fu) ⟨fu, q255, q256, rfl, hq259, hE.pick _ ⟨rfl, rfl, rfl, rfl, rfl, rfl, rfl, rfl, rfl, rfl, trivial⟩, hS⟩ ?_
            clear hE hS a w hq259; rintro m262 a w ⟨n261, q265, q266, rfl, hq259, hE, hS⟩
            refine W.gen fun K267 hK267 => ?_
            rcases n261 with _ | n261
            · rw [SlicessymMergeCmpFuncint_v1.loop5] at hq259; exact absurd hq259 (by simp)
            rw [SlicessymMergeCmpFuncint_v1.loop5] at hq259
            refine W.seq ?_
            refine W.seq ?_
            refine W.region ?_
            refine WL.vS hS hE (runs_plain rfl) (Gives.p hE rfl) rfl ?_; clear hE a; intro a hE
            refine WL.vS hS hE (runs_plain rfl) (Gives.p hE rfl) rfl ?_; clear hE a; intro a hE
            refine WL.vS hS hE (runs_plain rfl) (Gives.p hE rfl) rfl ?_; clear hE a; intro a hE
            refine WL.nil ?_
            refine W.cond hE rfl (fun hc268 => ?_) (fun hc268 => ?_)
            · replace hq259 := iteT hc268 hq259
              refine W.skip ?_
              refine W.block ?_
              refine W.seq ?_
              refine W.region ?_
              refine WL.vS hS hE (runs_plain rfl) (Gives.p hE rfl) rfl ?_; clear hE a; intro a hE
              refine WL.vS hS hE (runs_plain rfl) (Gives.p hE rfl) rfl ?_; clear hE a; intro a hE
              refine WL.vS hS hE (runs_plain rfl) (Gives.p hE rfl) rfl ?_; clear hE a; intro a hE
              refine WL.vS hS hE (runs_plain rfl) (Gives.conv hE rfl hu3 ui47) rfl ?_; clear hE a; intro a hE
              refine WL.vS hS hE (runs_plain rfl) (Gives.shr hE rfl rfl (by decide)) rfl ?_; clear hE a; intro a hE
              refine WL.vS hS hE (runs_plain rfl) (Gives.conv hE rfl hu47 ui3) rfl ?_; clear hE a; intro a hE
              refine WL.vS hS hE (runs_plain rfl) (Gives.p hE rfl) rfl ?_; clear hE a; intro a hE
              refine WL.nil ?_
              refine W.seq ?_
              refine W.regionQ (C := fun w => St w s (pt pb0 (.cells #[.slice a_y0_0 y0.length c_y0_0] 22 (0, 0)) :: vecC 3 1 a_v0 c_v0 x0.length cs_v0 :: R)) mixed (by kernel_rfl) hS.drew ?_
              refine QL.v hE (runs_plain rfl) (Gives.p hE rfl) rfl ?_; clear hE a; intro a hE
              refine QL.v hE (runs_plain rfl) (Gives.p hE rfl) rfl ?_; clear hE a; intro a hE
              refine QL.v hE (runs_plain rfl) (Gives.p hE rfl) rfl ?_; clear hE a; intro a hE
              refine QL.v hE (runs_plain rfl) (Gives.p hE rfl) rfl ?_; clear hE a; intro a hE
              refine QL.v hE (runs_plain rfl) (Gives.p hE rfl) rfl ?_; clear hE a; intro a hE
              obtain ⟨x269, hx270, hq259⟩ := bindS hq259
              obtain ⟨hi271, hlt272, hy273⟩ := gx_some hx270
              obtain ⟨vs274, hl275, hR276, hd277, hget278⟩ := h_v0.at hy273
              subst hR276
              refine QL.v hE (runs_plain rfl) (Gives.idx hE ((w64 ((w64 ((w64 ((w64 (Int.fdiv (IntKind.wrap .u64 (w64 (x1 + x3))) (2 ^ (min (Int.toNat 1) (IntKind.bits .u64))))) + x2)) - 1)) - (w64 (Int.fdiv (IntKind.wrap .u64 (w64 (q265 + q266))) (2 ^ (min (Int.toNat 1) (IntKind.bits .u64))))))).toNat) rfl rfl sl31 hi271 (by omega) (hS.vecAok 1 rfl (by omega : (w64 ((w64 ((w64 ((w64 (Int.fdiv (IntKind.wrap .u64 (w64 (x1 + x3))) (2 ^ (min (Int.toNat 1) (IntKind.bits .u64))))) + x2)) - 1)) - (w64 (Int.fdiv (IntKind.wrap .u64 (w64 (q265 + q266))) (2 ^ (min (Int.toNat 1) (IntKind.bits .u64))))))).toNat < x0.length))) rfl ?_; clear hE a; intro a hE
              refine QL.v hE (runs_plain rfl) (Gives.load1 hE rfl (fun w h => St.vecSees h 1 rfl ((w64 ((w64 ((w64 ((w64 (Int.fdiv (IntKind.wrap .u64 (w64 (x1 + x3))) (2 ^ (min (Int.toNat 1) (IntKind.bits .u64))))) + x2)) - 1)) - (w64 (Int.fdiv (IntKind.wrap .u64 (w64 (q265 + q266))) (2 ^ (min (Int.toNat 1) (IntKind.bits .u64))))))).toNat * 1) _ hget278) ty3) rfl ?_; clear hE a; intro a hE
              refine QL.v hE (runs_plain rfl) (Gives.p hE rfl) rfl ?_; clear hE a; intro a hE
              refine QL.v hE (runs_plain rfl) (Gives.p hE rfl) rfl ?_; clear hE a; intro a hE
              obtain ⟨x279, hx280, hq259⟩ := bindS hq259
              obtain ⟨hi281, hlt282, hy283⟩ := gx_some hx280
              obtain ⟨vs284, hl285, hR286, hd287, hget288⟩ := h_v0.at hy283
              subst hR286
              refine QL.v hE (runs_plain rfl) (Gives.idx hE ((w64 (Int.fdiv (IntKind.wrap .u64 (w64 (q265 + q266))) (2 ^ (min (Int.toNat 1) (IntKind.bits .u64))))).toNat) rfl rfl sl31 hi281 (by omega) (hS.vecAok 1 rfl (by omega : (w64 (Int.fdiv (IntKind.wrap .u64 (w64 (q265 + q266))) (2 ^ (min (Int.toNat 1) (IntKind.bits .u64))))).toNat < x0.length))) rfl ?_; clear hE a; intro a hE
              refine QL.v hE (runs_plain rfl) (Gives.load1 hE rfl (fun w h => St.vecSees h 1 rfl ((w64 (Int.fdiv (IntKind.wrap .u64 (w64 (q265 + q266))) (2 ^ (min (Int.toNat 1) (IntKind.bits .u64))))).toNat * 1) _ hget288) ty3) rfl ?_; clear hE a; intro a hE
              obtain ⟨q289, hq290, hq259⟩ := bindS hq259
              refine QL.fnw hE (fun w hS => Fleetorder_1_v1_ok hS h_y0_0 hq290) rfl (runs_plain rfl) bd19 rfl rfl rfl ?_; clear hE a; intro a hE
              refine QL.v hE (runs_plain rfl) (Gives.p hE rfl) rfl ?_; clear hE a; intro a hE
              refine QL.v hE (runs_plain rfl) (Gives.p hE rfl) rfl ?_; clear hE a; intro a hE
              refine QL.nil ?_; clear hS w; intro w hS
              obtain ⟨q292, hq291, hq259⟩ := bndS hq259
              refine W.cut (fun a w => ∃ (q295 : Int), ∃ (q296 : Int), (q295, q296) = q292 ∧ Rep a 220 [(0, .slice a_v0 x0.length c_v0), (1, .int .i64 x1), (2, .int .i64 x2), (3, .int .i64 x3), (4, .func (.func 19) #[] #[.pointer (some ⟨pb0, 0, none⟩)]), (18, .int .i64 (w64 (Int.fdiv (IntKind.wrap .u64 (w64 (x1 + x3))) (2 ^ (min (Int.toNat 1) (IntKind.bits .u64)))))), (19, .int .i64 (w64 ((w64 (Int.fdiv (IntKind.wrap .u64 (w64 (x1 + x3))) (2 ^ (min (Int.toNat 1) (IntKind.bits .u64))))) + x2))), (20, .int .i64 q295), (21, .int .i64 q296), (22, .int .i64 (w64 ((w64 ((w64 (Int.fdiv (IntKind.wrap .u64 (w64 (x1 + x3))) (2 ^ (min (Int.toNat 1) (IntKind.bits .u64))))) + x2)) - 1)))] ∧ St w s (pt pb0 (.cells #[.slice a_y0_0 y0.length c_y0_0] 22 (0, 0)) :: vecC 3 1 a_v0 c_v0 x0.length cs_v0 :: R)) ?_ ?_
              · refine W.gen fun K297 hK297 => ?_
                refine W.cond hE rfl (fun hc298 => ?_) (fun hc298 => ?_)
                · replace hq291 := iteT hc298 hq291
                  refine W.region ?_
                  refine WL.vS hS hE (runs_plain rfl) (Gives.p hE rfl) rfl ?_; clear hE a; intro a hE
                  refine WL.vS hS hE (runs_plain rfl) (Gives.p hE rfl) rfl ?_; clear hE a; intro a hE
                  refine WL.vS hS hE (runs_plain rfl) (Gives.p hE rfl) rfl ?_; clear hE a; intro a hE
                  refine WL.nil ?_
                  subst hK297
                  exact ⟨w64 ((w64 (Int.fdiv (IntKind.wrap .u64 (w64 (q265 + q266))) (2 ^ (min (Int.toNat 1) (IntKind.bits .u64))))) + 1), q266, hq291, hE.pick _ ⟨rfl, rfl, rfl, rfl, rfl, rfl, rfl, rfl, rfl, rfl, trivial⟩, hS⟩
                · replace hq291 := iteF hc298 hq291
                  refine W.region ?_
                  refine WL.vS hS hE (runs_plain rfl) (Gives.p hE rfl) rfl ?_; clear hE a; intro a hE
                  refine WL.vS hS hE (runs_plain rfl) (Gives.p hE rfl) rfl ?_; clear hE a; intro a hE
                  refine WL.nil ?_
                  subst hK297
                  exact ⟨q265, w64 (Int.fdiv (IntKind.wrap .u64 (w64 (q265 + q266))) (2 ^ (min (Int.toNat 1) (IntKind.bits .u64)))), hq291, hE.pick _ ⟨rfl, rfl, rfl, rfl, rfl, rfl, rfl, rfl, rfl, rfl, trivial⟩, hS⟩
              · clear hE hS a w; rintro a w ⟨q295, q296, rfl, hE, hS⟩
                dsimp only at hq259
                subst hK267
                exact ⟨n261, Nat.lt_succ_self _, n261, q295, q296, rfl, hq259, hE.pick _ ⟨rfl, rfl, rfl, rfl, rfl, rfl, rfl, rfl, rfl, rfl, trivial⟩, hS⟩
            · replace hq259 := iteF hc268 hq259
              subst hK267
              refine W.exit rfl ?_
              exact ⟨q265, q266, Option.some.inj hq259, hE.pick _ ⟨rfl, rfl, rfl, rfl, rfl, rfl, rfl, rfl, trivial⟩, hS⟩
          · clear hE hS a w; rintro a w ⟨q265, q266, rfl, hE, hS⟩
            dsimp only at hr
            refine W.seq ?_
            refine W.region ?_
            refine WL.vS hS hE (runs_plain rfl) (Gives.p hE rfl) rfl ?_; clear hE a; intro a hE
            refine WL.vS hS hE (runs_plain rfl) (Gives.p hE rfl) rfl ?_; clear hE a; intro a hE
            refine WL.vS hS hE (runs_plain rfl) (Gives.p hE rfl) rfl ?_; clear hE a; intro a hE
            refine WL.vS hS hE (runs_plain rfl) (Gives.p hE rfl) rfl ?_; clear hE a; intro a hE
            refine WL.nil ?_
            refine W.seq ?_
            refine W.seq ?_
            obtain ⟨q300, hq299, hr⟩ := bndS hr
            refine W.cut (fun a w => ∃ (q303 : Bool), q303 = q300 ∧ Rep a 220 [(0, .slice a_v0 x0.length c_v0), (1, .int .i64 x1), (2, .int .i64 x2), (3, .int .i64 x3), (4, .func (.func 19) #[] #[.pointer (some ⟨pb0, 0, none⟩)]), (18, .int .i64 (w64 (Int.fdiv (IntKind.wrap .u64 (w64 (x1 + x3))) (2 ^ (min (Int.toNat 1) (IntKind.bits .u64)))))), (20, .int .i64 q265), (24, .int .i64 (w64 ((w64 ((w64 (Int.fdiv (IntKind.wrap .u64 (w64 (x1 + x3))) (2 ^ (min (Int.toNat 1) (IntKind.bits .u64))))) + x2)) - q265))), (185, .bool q303)] ∧ St w s (pt pb0 (.cells #[.slice a_y0_0 y0.length c_y0_0] 22 (0, 0)) :: vecC 3 1 a_v0 c_v0 x0.length cs_v0 :: R)) ?_ ?_
            · refine W.gen fun K304 hK304 => ?_
              refine W.region ?_
              refine WL.vS hS hE (runs_plain rfl) (Gives.p hE rfl) rfl ?_; clear hE a; intro a hE
              refine WL.vS hS hE (runs_plain rfl) (Gives.p hE rfl) rfl ?_; clear hE a; intro a hE
              refine WL.vS hS hE (runs_plain rfl) (Gives.p hE rfl) rfl ?_; clear hE a; intro a hE
              refine WL.vS hS hE (runs_plain rfl) (Gives.p hE rfl) rfl ?_; clear hE a; intro a hE
              rcases Bool.eq_false_or_eq_true (decide (q265 < x2)) with hg305 | hg305
              · replace hq299 := iteT hg305 hq299
                refine WL.vS hS hE (runs_if hE rfl rfl rfl hg305) (Gives.p hE rfl) rfl ?_; clear hE a; intro a hE
                refine WL.vS hS hE (runs_if hE rfl rfl rfl hg305) (Gives.p hE rfl) rfl ?_; clear hE a; intro a hE
                refine WL.vS hS hE (runs_if hE rfl rfl rfl hg305) (Gives.p hE rfl) rfl ?_; clear hE a; intro a hE
                refine WL.vS hS hE (runs_plain rfl) (Gives.pickT hE rfl hg305 rfl) rfl ?_; clear hE a; intro a hE
                refine WL.nil ?_
                subst hK304
                exact ⟨decide (x2 < (w64 ((w64 ((w64 (Int.fdiv (IntKind.wrap .u64 (w64 (x1 + x3))) (2 ^ (min (Int.toNat 1) (IntKind.bits .u64))))) + x2)) - q265))), hq299, hE.pick _ ⟨rfl, rfl, rfl, rfl, rfl, rfl, rfl, rfl, rfl, trivial⟩, hS⟩
              · replace hq299 := iteF hg305 hq299
                refine WL.no hE (runs_not hE rfl rfl rfl (by rw [hg305]; decide)) rfl ?_; clear hE a; intro a hE
                refine WL.no hE (runs_not hE rfl rfl rfl (by rw [hg305]; decide)) rfl ?_; clear hE a; intro a hE
                refine WL.no hE (runs_not hE rfl rfl rfl (by rw [hg305]; decide)) rfl ?_; clear hE a; intro a hE
                refine WL.vS hS hE (runs_plain rfl) (Gives.pickF hE rfl hg305 rfl) rfl ?_; clear hE a; intro a hE
                refine WL.nil ?_
                subst hK304
                exact ⟨false, hq299, hE.pick _ ⟨rfl, rfl, rfl, rfl, rfl, rfl, rfl, rfl, rfl, trivial⟩, hS⟩
            · clear hE hS a w; rintro a w ⟨q303, rfl, hE, hS⟩
              refine W.cond hE rfl (fun hc306 => ?_) (fun hc306 => ?_)
              · replace hr := iteT hc306 hr
                refine W.region ?_
                refine WL.vS hS hE (runs_plain rfl) (Gives.p hE rfl) rfl ?_; clear hE a; intro a hE
                refine WL.vS hS hE (runs_plain rfl) (Gives.p hE rfl) rfl ?_; clear hE a; intro a hE
                refine WL.vS hS hE (runs_plain rfl) (Gives.p hE rfl) rfl ?_; clear hE a; intro a hE
                refine WL.vS hS hE (runs_plain rfl) (Gives.p hE rfl) rfl ?_; clear hE a; intro a hE
                refine WL.vS hS hE (runs_plain rfl) (Gives.p hE rfl) rfl ?_; clear hE a; intro a hE
                obtain ⟨q307, hq308, hr⟩ := bindS hr
                have hc_ := SlicesrotateCmpFuncint_v1_ok hS h_v0 (rfl) h_y0_0 hq308
                refine WL.fnq hE (hc_) (runs_plain rfl) bd25 rfl rfl rfl ?_
                clear hE hS hc_; rintro e w ⟨cs309, rfl, h310, hn311, hS⟩; refine ⟨_, rfl, ?_⟩; clear a; intro a hE
                refine WL.nil ?_
                refine W.seq ?_
                refine W.seq ?_
                obtain ⟨q313, hq312, hr⟩ := bndS hr
                refine W.cut (fun a w => ∃ (q316 : Bool), q316 = q313 ∧ Rep a 220 [(0, .slice a_v0 x0.length c_v0), (1, .int .i64 x1), (3, .int .i64 x3), (4, .func (.func 19) #[] #[.pointer (some ⟨pb0, 0, none⟩)]), (18, .int .i64 (w64 (Int.fdiv (IntKind.wrap .u64 (w64 (x1 + x3))) (2 ^ (min (Int.toNat 1) (IntKind.bits .u64)))))), (20, .int .i64 q265), (24, .int .i64 (w64 ((w64 ((w64 (Int.fdiv (IntKind.wrap .u64 (w64 (x1 + x3))) (2 ^ (min (Int.toNat 1) (IntKind.bits .u64))))) + x2)) - q265))), (199, .bool q316)] ∧ St w s (pt pb0 (.cells #[.slice a_y0_0 y0.length c_y0_0] 22 (0, 0)) :: vecC 3 1 a_v0 c_v0 x0.length cs309 :: R)) ?_ ?_
                · refine W.gen fun K317 hK317 => ?_
                  refine W.region ?_
                  refine WL.vS hS hE (runs_plain rfl) (Gives.p hE rfl) rfl ?_; clear hE a; intro a hE
                  refine WL.vS hS hE (runs_plain rfl) (Gives.p hE rfl) rfl ?_; clear hE a; intro a hE
                  refine WL.vS hS hE (runs_plain rfl) (Gives.p hE rfl) rfl ?_; clear hE a; intro a hE
                  refine WL.vS hS hE (runs_plain rfl) (Gives.p hE rfl) rfl ?_; clear hE a; intro a hE
                  rcases Bool.eq_false_or_eq_true (decide (x1 < q265)) with hg318 | hg318
                  · replace hq312 := iteT hg318 hq312
                    refine WL.vS hS hE (runs_if hE rfl rfl rfl hg318) (Gives.p hE rfl) rfl ?_; clear hE a; intro a hE
                    refine WL.vS hS hE (runs_if hE rfl rfl rfl hg318) (Gives.p hE rfl) rfl ?_; clear hE a; intro a hE
                    refine WL.vS hS hE (runs_if hE rfl rfl rfl hg318) (Gives.p hE rfl) rfl ?_; clear hE a; intro a hE
                    refine WL.vS hS hE (runs_plain rfl) (Gives.pickT hE rfl hg318 rfl) rfl ?_; clear hE a; intro a hE
                    refine WL.nil ?_
                    subst hK317
                    exact ⟨decide (q265 < (w64 (Int.fdiv (IntKind.wrap .u64 (w64 (x1 + x3))) (2 ^ (min (Int.toNat 1) (IntKind.bits .u64)))))), hq312, hE.pick _ ⟨rfl, rfl, rfl, rfl, rfl, rfl, rfl, rfl, trivial⟩, hS⟩
                  · replace hq312 := iteF hg318 hq312
                    refine WL.no hE (runs_not hE rfl rfl rfl (by rw [hg318]; decide)) rfl ?_; clear hE a; intro a hE
                    refine WL.no hE (runs_not hE rfl rfl rfl (by rw [hg318]; decide)) rfl ?_; clear hE a; intro a hE
                    refine WL.no hE (runs_not hE rfl rfl rfl (by rw [hg318]; decide)) rfl ?_; clear hE a; intro a hE
                    refine WL.vS hS hE (runs_plain rfl) (Gives.pickF hE rfl hg318 rfl) rfl ?_; clear hE a; intro a hE
                    refine WL.nil ?_
                    subst hK317
                    exact ⟨false, hq312, hE.pick _ ⟨rfl, rfl, rfl, rfl, rfl, rfl, rfl, rfl, trivial⟩, hS⟩
                · clear hE hS a w; rintro a w ⟨q316, rfl, hE, hS⟩
                  refine W.cond hE rfl (fun hc319 => ?_) (fun hc319 => ?_)
                  · replace hr := iteT hc319 hr
                    refine W.region ?_
                    refine WL.vS hS hE (runs_plain rfl) (Gives.p hE rfl) rfl ?_; clear hE a; intro a hE
                    refine WL.vS hS hE (runs_plain rfl) (Gives.p hE rfl) rfl ?_; clear hE a; intro a hE
                    refine WL.vS hS hE (runs_plain rfl) (Gives.p hE rfl) rfl ?_; clear hE a; intro a hE
                    refine WL.vS hS hE (runs_plain rfl) (Gives.p hE rfl) rfl ?_; clear hE a; intro a hE
                    refine WL.vS hS hE (runs_plain rfl) (Gives.p hE rfl) rfl ?_; clear hE a; intro a hE
                    obtain ⟨q320, hq321, hr⟩ := bindS hr
                    have hc_ := ih_SlicessymMergeCmpFuncint_v1 hS h310 hn311 h_y0_0 hq321
                    refine WL.fnq hE (hc_) (runs_plain rfl) bd24 rfl rfl rfl ?_
                    clear hE hS hc_; rintro e w ⟨cs322, rfl, h323, hn324, hS⟩; refine ⟨_, rfl, ?_⟩; clear a; intro a hE
                    refine WL.nil ?_
                    refine W.seq ?_
                    obtain ⟨q326, hq325, hr⟩ := bndS hr
                    refine W.cut (fun a w => ∃ (q329 : Bool), q329 = q326 ∧ Rep a 220 [(0, .slice a_v0 x0.length c_v0), (3, .int .i64 x3), (4, .func (.func 19) #[] #[.pointer (some ⟨pb0, 0, none⟩)]), (18, .int .i64 (w64 (Int.fdiv (IntKind.wrap .u64 (w64 (x1 + x3))) (2 ^ (min (Int.toNat 1) (IntKind.bits .u64)))))), (24, .int .i64 (w64 ((w64 ((w64 (Int.fdiv (IntKind.wrap .u64 (w64 (x1 + x3))) (2 ^ (min (Int.toNat 1) (IntKind.bits .u64))))) + x2)) - q265))), (213, .bool q329)] ∧ St w s (pt pb0 (.cells #[.slice a_y0_0 y0.length c_y0_0] 22 (0, 0)) :: vecC 3 1 a_v0 c_v0 x0.length cs322 :: R)) ?_ ?_
                    · refine W.gen fun K330 hK330 => ?_
                      refine W.region ?_
                      refine WL.vS hS hE (runs_plain rfl) (Gives.p hE rfl) rfl ?_; clear hE a; intro a hE
                      refine WL.vS hS hE (runs_plain rfl) (Gives.p hE rfl) rfl ?_; clear hE a; intro a hE
                      refine WL.vS hS hE (runs_plain rfl) (Gives.p hE rfl) rfl ?_; clear hE a; intro a hE
                      refine WL.vS hS hE (runs_plain rfl) (Gives.p hE rfl) rfl ?_; clear hE a; intro a hE
                      rcases Bool.eq_false_or_eq_true (decide ((w64 (Int.fdiv (IntKind.wrap .u64 (w64 (x1 + x3))) (2 ^ (min (Int.toNat 1) (IntKind.bits .u64))))) < (w64 ((w64 ((w64 (Int.fdiv (IntKind.wrap .u64 (w64 (x1 + x3))) (2 ^ (min (Int.toNat 1) (IntKind.bits .u64))))) + x2)) - q265)))) with hg331 | hg331
                      · replace hq325 := iteT hg331 hq325
                        refine WL.vS hS hE (runs_if hE rfl rfl rfl hg331) (Gives.p hE rfl) rfl ?_; clear hE a; intro a hE
                        refine WL.vS hS hE (runs_if hE rfl rfl rfl hg331) (Gives.p hE rfl) rfl ?_; clear hE a; intro a hE
                        refine WL.vS hS hE (runs_if hE rfl rfl rfl hg331) (Gives.p hE rfl) rfl ?_; clear hE a; intro a hE
                        refine WL.vS hS hE (runs_plain rfl) (Gives.pickT hE rfl hg331 rfl) rfl ?_; clear hE a; intro a hE
                        refine WL.nil ?_
                        subst hK330
                        exact ⟨decide ((w64 ((w64 ((w64 (Int.fdiv (IntKind.wrap .u64 (w64 (x1 + x3))) (2 ^ (min (Int.toNat 1) (IntKind.bits .u64))))) + x2)) - q265)) < x3), hq325, hE.pick _ ⟨rfl, rfl, rfl, rfl, rfl, rfl, trivial⟩, hS⟩
                      · replace hq325 := iteF hg331 hq325
                        refine WL.no hE (runs_not hE rfl rfl rfl (by rw [hg331]; decide)) rfl ?_; clear hE a; intro a hE
                        refine WL.no hE (runs_not hE rfl rfl rfl (by rw [hg331]; decide)) rfl ?_; clear hE a; intro a hE
                        refine WL.no hE (runs_not hE rfl rfl rfl (by rw [hg331]; decide)) rfl ?_; clear hE a; intro a hE
                        refine WL.vS hS hE (runs_plain rfl) (Gives.pickF hE rfl hg331 rfl) rfl ?_; clear hE a; intro a hE
                        refine WL.nil ?_
                        subst hK330
                        exact ⟨false, hq325, hE.pick _ ⟨rfl, rfl, rfl, rfl, rfl, rfl, trivial⟩, hS⟩
                    · clear hE hS a w; rintro a w ⟨q329, rfl, hE, hS⟩
                      refine W.cond hE rfl (fun hc332 => ?_) (fun hc332 => ?_)
                      · replace hr := iteT hc332 hr
                        refine W.region ?_
                        refine WL.vS hS hE (runs_plain rfl) (Gives.p hE rfl) rfl ?_; clear hE a; intro a hE
                        refine WL.vS hS hE (runs_plain rfl) (Gives.p hE rfl) rfl ?_; clear hE a; intro a hE
                        refine WL.vS hS hE (runs_plain rfl) (Gives.p hE rfl) rfl ?_; clear hE a; intro a hE
                        refine WL.vS hS hE (runs_plain rfl) (Gives.p hE rfl) rfl ?_; clear hE a; intro a hE
                        refine WL.vS hS hE (runs_plain rfl) (Gives.p hE rfl) rfl ?_; clear hE a; intro a hE
                        obtain ⟨q333, hq334, hr⟩ := bindS hr
                        have hc_ := ih_SlicessymMergeCmpFuncint_v1 hS h323 hn324 h_y0_0 hq334
                        refine WL.fnq hE (hc_) (runs_plain rfl) bd24 rfl rfl rfl ?_
                        clear hE hS hc_; rintro e w ⟨cs335, rfl, h336, hn337, hS⟩; refine ⟨_, rfl, ?_⟩; clear a; intro a hE
                        refine WL.nil ?_
                        refine finG (fn := Try.f24) (rs := []) (vs := []) hE rfl trivial ?_
                        obtain rfl := Option.some.inj hr
                        exact ⟨cs335, rfl, h336, hn337, hS⟩
                      · replace hr := iteF hc332 hr
                        refine W.skip ?_
                        refine finG (fn := Try.f24) (rs := []) (vs := []) hE rfl trivial ?_
                        obtain rfl := Option.some.inj hr
                        exact ⟨cs322, rfl, h323, hn324, hS⟩
                  · replace hr := iteF hc319 hr
                    refine W.skip ?_
                    refine W.seq ?_
                    obtain ⟨q339, hq338, hr⟩ := bndS hr
                    refine W.cut (fun a w => ∃ (q342 : Bool), q342 = q339 ∧ Rep a 220 [(0, .slice a_v0 x0.length c_v0), (3, .int .i64 x3), (4, .func (.func 19) #[] #[.pointer (some ⟨pb0, 0, none⟩)]), (18, .int .i64 (w64 (Int.fdiv (IntKind.wrap .u64 (w64 (x1 + x3))) (2 ^ (min (Int.toNat 1) (IntKind.bits .u64)))))), (24, .int .i64 (w64 ((w64 ((w64 (Int.fdiv (IntKind.wrap .u64 (w64 (x1 + x3))) (2 ^ (min (Int.toNat 1) (IntKind.bits .u64))))) + x2)) - q265))), (213, .bool q342)] ∧ St w s (pt pb0 (.cells #[.slice a_y0_0 y0.length c_y0_0] 22 (0, 0)) :: vecC 3 1 a_v0 c_v0 x0.length cs309 :: R)) ?_ ?_
                    · refine W.gen fun K343 hK343 => ?_
                      refine W.region ?_
                      refine WL.vS hS hE (runs_plain rfl) (Gives.p hE rfl) rfl ?_; clear hE a; intro a hE
                      refine WL.vS hS hE (runs_plain rfl) (Gives.p hE rfl) rfl ?_; clear hE a; intro a hE
                      refine WL.vS hS hE (runs_plain rfl) (Gives.p hE rfl) rfl ?_; clear hE a; intro a hE
                      refine WL.vS hS hE (runs_plain rfl) (Gives.p hE rfl) rfl ?_; clear hE a; intro a hE
                      rcases Bool.eq_false_or_eq_true (decide ((w64 (Int.fdiv (IntKind.wrap .u64 (w64 (x1 + x3))) (2 ^ (min (Int.toNat 1) (IntKind.bits .u64))))) < (w64 ((w64 ((w64 (Int.fdiv (IntKind.wrap .u64 (w64 (x1 + x3))) (2 ^ (min (Int.toNat 1) (IntKind.bits .u64))))) + x2)) - q265)))) with hg344 | hg344
                      · replace hq338 := iteT hg344 hq338
                        refine WL.vS hS hE (runs_if hE rfl rfl rfl hg344) (Gives.p hE rfl) rfl ?_; clear hE a; intro a hE
                        refine WL.vS hS hE (runs_if hE rfl rfl rfl hg344) (Gives.p hE rfl) rfl ?_; clear hE a; intro a hE
                        refine WL.vS hS hE (runs_if hE rfl rfl rfl hg344) (Gives.p hE rfl) rfl ?_; clear hE a; intro a hE
                        refine WL.vS hS hE (runs_plain rfl) (Gives.pickT hE rfl hg344 rfl) rfl ?_; clear hE a; intro a hE
                        refine WL.nil ?_
                        subst hK343
                        exact ⟨decide ((w64 ((w64 ((w64 (Int.fdiv (IntKind.wrap .u64 (w64 (x1 + x3))) (2 ^ (min (Int.toNat 1) (IntKind.bits .u64))))) + x2)) - q265)) < x3), hq338, hE.pick _ ⟨rfl, rfl, rfl, rfl, rfl, rfl, trivial⟩, hS⟩
                      · replace hq338 := iteF hg344 hq338
                        refine WL.no hE (runs_not hE rfl rfl rfl (by rw [hg344]; decide)) rfl ?_; clear hE a; intro a hE
                        refine WL.no hE (runs_not hE rfl rfl rfl (by rw [hg344]; decide)) rfl ?_; clear hE a; intro a hE
                        refine WL.no hE (runs_not hE rfl rfl rfl (by rw [hg344]; decide)) rfl ?_; clear hE a; intro a hE
                        refine WL.vS hS hE (runs_plain rfl) (Gives.pickF hE rfl hg344 rfl) rfl ?_; clear hE a; intro a hE
                        refine WL.nil ?_
                        subst hK343
                        exact ⟨false, hq338, hE.pick _ ⟨rfl, rfl, rfl, rfl, rfl, rfl, trivial⟩, hS⟩
                    · clear hE hS a w; rintro a w ⟨q342, rfl, hE, hS⟩
                      refine W.cond hE rfl (fun hc345 => ?_) (fun hc345 => ?_)
                      · replace hr := iteT hc345 hr
                        refine W.region ?_
                        refine WL.vS hS hE (runs_plain rfl) (Gives.p hE rfl) rfl ?_; clear hE a; intro a hE
                        refine WL.vS hS hE (runs_plain rfl) (Gives.p hE rfl) rfl ?_; clear hE a; intro a hE
                        refine WL.vS hS hE (runs_plain rfl) (Gives.p hE rfl) rfl ?_; clear hE a; intro a hE
                        refine WL.vS hS hE (runs_plain rfl) (Gives.p hE rfl) rfl ?_; clear hE a; intro a hE
                        refine WL.vS hS hE (runs_plain rfl) (Gives.p hE rfl) rfl ?_; clear hE a; intro a hE
                        obtain ⟨q346, hq347, hr⟩ := bindS hr
                        have hc_ := ih_SlicessymMergeCmpFuncint_v1 hS h310 hn311 h_y0_0 hq347
                        refine WL.fnq hE (hc_) (runs_plain rfl) bd24 rfl rfl rfl ?_
                        clear hE hS hc_; rintro e w ⟨cs348, rfl, h349, hn350, hS⟩; refine ⟨_, rfl, ?_⟩; clear a; intro a hE
                        refine WL.nil ?_
                        refine finG (fn := Try.f24) (rs := []) (vs := []) hE rfl trivial ?_
                        obtain rfl := Option.some.inj hr
                        exact ⟨cs348, rfl, h349, hn350, hS⟩
                      · replace hr := iteF hc345 hr
                        refine W.skip ?_
                        refine finG (fn := Try.f24) (rs := []) (vs := []) hE rfl trivial ?_
                        obtain rfl := Option.some.inj hr
                        exact ⟨cs309, rfl, h310, hn311, hS⟩
              · replace hr := iteF hc306 hr
                refine W.skip ?_
                refine W.seq ?_
                refine W.seq ?_
                obtain ⟨q352, hq351, hr⟩ := bndS hr
                refine W.cut (fun a w => ∃ (q355 : Bool), q355 = q352 ∧ Rep a 220 [(0, .slice a_v0 x0.length c_v0), (1, .int .i64 x1), (3, .int .i64 x3), (4, .func (.func 19) #[] #[.pointer (some ⟨pb0, 0, none⟩)]), (18, .int .i64 (w64 (Int.fdiv (IntKind.wrap .u64 (w64 (x1 + x3))) (2 ^ (min (Int.toNat 1) (IntKind.bits .u64)))))), (20, .int .i64 q265), (24, .int .i64 (w64 ((w64 ((w64 (Int.fdiv (IntKind.wrap .u64 (w64 (x1 + x3))) (2 ^ (min (Int.toNat 1) (IntKind.bits .u64))))) + x2)) - q265))), (199, .bool q355)] ∧ St w s (pt pb0 (.cells #[.slice a_y0_0 y0.length c_y0_0] 22 (0, 0)) :: vecC 3 1 a_v0 c_v0 x0.length cs_v0 :: R)) ?_ ?_
                · refine W.gen fun K356 hK356 => ?_
                  refine W.region ?_
                  refine WL.vS hS hE (runs_plain rfl) (Gives.p hE rfl) rfl ?_; clear hE a; intro a hE
                  refine WL.vS hS hE (runs_plain rfl) (Gives.p hE rfl) rfl ?_; clear hE a; intro a hE
                  refine WL.vS hS hE (runs_plain rfl) (Gives.p hE rfl) rfl ?_; clear hE a; intro a hE
                  refine WL.vS hS hE (runs_plain rfl) (Gives.p hE rfl) rfl ?_; clear hE a; intro a hE
                  rcases Bool.eq_false_or_eq_true (decide (x1 < q265)) with hg357 | hg357
                  · replace hq351 := iteT hg357 hq351
                    refine WL.vS hS hE (runs_if hE rfl rfl rfl hg357) (Gives.p hE rfl) rfl ?_; clear hE a; intro a hE
                    refine WL.vS hS hE (runs_if hE rfl rfl rfl hg357) (Gives.p hE rfl) rfl ?_; clear hE a; intro a hE
                    refine WL.vS hS hE (runs_if hE rfl rfl rfl hg357) (Gives.p hE rfl) rfl ?_; clear hE a; intro a hE
                    refine WL.vS hS hE (runs_plain rfl) (Gives.pickT hE rfl hg357 rfl) rfl ?_; clear hE a; intro a hE
                    refine WL.nil ?_
                    subst hK356
                    exact ⟨decide (q265 < (w64 (Int.fdiv (IntKind.wrap .u64 (w64 (x1 + x3))) (2 ^ (min (Int.toNat 1) (IntKind.bits .u64)))))), hq351, hE.pick _ ⟨rfl, rfl, rfl, rfl, rfl, rfl, rfl, rfl, trivial⟩, hS⟩
                  · replace hq351 := iteF hg357 hq351
                    refine WL.no hE (runs_not hE rfl rfl rfl (by rw [hg357]; decide)) rfl ?_; clear hE a; intro a hE
                    refine WL.no hE (runs_not hE rfl rfl rfl (by rw [hg357]; decide)) rfl ?_; clear hE a; intro a hE
                    refine WL.no hE (runs_not hE rfl rfl rfl (by rw [hg357]; decide)) rfl ?_; clear hE a; intro a hE
                    refine WL.vS hS hE (runs_plain rfl) (Gives.pickF hE rfl hg357 rfl) rfl ?_; clear hE a; intro a hE
                    refine WL.nil ?_
                    subst hK356
                    exact ⟨false, hq351, hE.pick _ ⟨rfl, rfl, rfl, rfl, rfl, rfl, rfl, rfl, trivial⟩, hS⟩
                · clear hE hS a w; rintro a w ⟨q355, rfl, hE, hS⟩
                  refine W.cond hE rfl (fun hc358 => ?_) (fun hc358 => ?_)
                  · replace hr := iteT hc358 hr
                    refine W.region ?_
                    refine WL.vS hS hE (runs_plain rfl) (Gives.p hE rfl) rfl ?_; clear hE a; intro a hE
                    refine WL.vS hS hE (runs_plain rfl) (Gives.p hE rfl) rfl ?_; clear hE a; intro a hE
                    refine WL.vS hS hE (runs_plain rfl) (Gives.p hE rfl) rfl ?_; clear hE a; intro a hE
                    refine WL.vS hS hE (runs_plain rfl) (Gives.p hE rfl) rfl ?_; clear hE a; intro a hE
                    refine WL.vS hS hE (runs_plain rfl) (Gives.p hE rfl) rfl ?_; clear hE a; intro a hE
                    obtain ⟨q359, hq360, hr⟩ := bindS hr
                    have hc_ := ih_SlicessymMergeCmpFuncint_v1 hS h_v0 (rfl) h_y0_0 hq360
                    refine WL.fnq hE (hc_) (runs_plain rfl) bd24 rfl rfl rfl ?_
                    clear hE hS hc_; rintro e w ⟨cs361, rfl, h362, hn363, hS⟩; refine ⟨_, rfl, ?_⟩; clear a; intro a hE
                    refine WL.nil ?_
                    refine W.seq ?_
                    obtain ⟨q365, hq364, hr⟩ := bndS hr
                    refine W.cut (fun a w => ∃ (q368 : Bool), q368 = q365 ∧ Rep a 220 [(0, .slice a_v0 x0.length c_v0), (3, .int .i64 x3), (4, .func (.func 19) #[] #[.pointer (some ⟨pb0, 0, none⟩)]), (18, .int .i64 (w64 (Int.fdiv (IntKind.wrap .u64 (w64 (x1 + x3))) (2 ^ (min (Int.toNat 1) (IntKind.bits .u64)))))), (24, .int .i64 (w64 ((w64 ((w64 (Int.fdiv (IntKind.wrap .u64 (w64 (x1 + x3))) (2 ^ (min (Int.toNat 1) (IntKind.bits .u64))))) + x2)) - q265))), (213, .bool q368)] ∧ St w s (pt pb0 (.cells #[.slice a_y0_0 y0.length c_y0_0] 22 (0, 0)) :: vecC 3 1 a_v0 c_v0 x0.length cs361 :: R)) ?_ ?_
                    · refine W.gen fun K369 hK369 => ?_
                      refine W.region ?_
                      refine WL.vS hS hE (runs_plain rfl) (Gives.p hE rfl) rfl ?_; clear hE a; intro a hE
                      refine WL.vS hS hE (runs_plain rfl) (Gives.p hE rfl) rfl ?_; clear hE a; intro a hE
                      refine WL.vS hS hE (runs_plain rfl) (Gives.p hE rfl) rfl ?_; clear hE a; intro a hE
                      refine WL.vS hS hE (runs_plain rfl) (Gives.p hE rfl) rfl ?_; clear hE a; intro a hE
                      rcases Bool.eq_false_or_eq_true (decide ((w64 (Int.fdiv (IntKind.wrap .u64 (w64 (x1 + x3))) (2 ^ (min (Int.toNat 1) (IntKind.bits .u64))))) < (w64 ((w64 ((w64 (Int.fdiv (IntKind.wrap .u64 (w64 (x1 + x3))) (2 ^ (min (Int.toNat 1) (IntKind.bits .u64))))) + x2)) - q265)))) with hg370 | hg370
                      · replace hq364 := iteT hg370 hq364
                        refine WL.vS hS hE (runs_if hE rfl rfl rfl hg370) (Gives.p hE rfl) rfl ?_; clear hE a; intro a hE
                        refine WL.vS hS hE (runs_if hE rfl rfl rfl hg370) (Gives.p hE rfl) rfl ?_; clear hE a; intro a hE
                        refine WL.vS hS hE (runs_if hE rfl rfl rfl hg370) (Gives.p hE rfl) rfl ?_; clear hE a; intro a hE
                        refine WL.vS hS hE (runs_plain rfl) (Gives.pickT hE rfl hg370 rfl) rfl ?_; clear hE a; intro a hE
                        refine WL.nil ?_
                        subst hK369
                        exact ⟨decide ((w64 ((w64 ((w64 (Int.fdiv (IntKind.wrap .u64 (w64 (x1 + x3))) (2 ^ (min (Int.toNat 1) (IntKind.bits .u64))))) + x2)) - q265)) < x3), hq364, hE.pick _ ⟨rfl, rfl, rfl, rfl, rfl, rfl, trivial⟩, hS⟩
                      · replace hq364 := iteF hg370 hq364
                        refine WL.no hE (runs_not hE rfl rfl rfl (by rw [hg370]; decide)) rfl ?_; clear hE a; intro a hE
                        refine WL.no hE (runs_not hE rfl rfl rfl (by rw [hg370]; decide)) rfl ?_; clear hE a; intro a hE
                        refine WL.no hE (runs_not hE rfl rfl rfl (by rw [hg370]; decide)) rfl ?_; clear hE a; intro a hE
                        refine WL.vS hS hE (runs_plain rfl) (Gives.pickF hE rfl hg370 rfl) rfl ?_; clear hE a; intro a hE
                        refine WL.nil ?_
                        subst hK369
                        exact ⟨false, hq364, hE.pick _ ⟨rfl, rfl, rfl, rfl, rfl, rfl, trivial⟩, hS⟩
                    · clear hE hS a w; rintro a w ⟨q368, rfl, hE, hS⟩
                      refine W.cond hE rfl (fun hc371 => ?_) (fun hc371 => ?_)
                      · replace hr := iteT hc371 hr
                        refine W.region ?_
                        refine WL.vS hS hE (runs_plain rfl) (Gives.p hE rfl) rfl ?_; clear hE a; intro a hE
                        refine WL.vS hS hE (runs_plain rfl) (Gives.p hE rfl) rfl ?_; clear hE a; intro a hE
                        refine WL.vS hS hE (runs_plain rfl) (Gives.p hE rfl) rfl ?_; clear hE a; intro a hE
                        refine WL.vS hS hE (runs_plain rfl) (Gives.p hE rfl) rfl ?_; clear hE a; intro a hE
                        refine WL.vS hS hE (runs_plain rfl) (Gives.p hE rfl) rfl ?_; clear hE a; intro a hE
                        obtain ⟨q372, hq373, hr⟩ := bindS hr
                        have hc_ := ih_SlicessymMergeCmpFuncint_v1 hS h362 hn363 h_y0_0 hq373
                        refine WL.fnq hE (hc_) (runs_plain rfl) bd24 rfl rfl rfl ?_
                        clear hE hS hc_; rintro e w ⟨cs374, rfl, h375, hn376, hS⟩; refine ⟨_, rfl, ?_⟩; clear a; intro a hE
                        refine WL.nil ?_
                        refine finG (fn := Try.f24) (rs := []) (vs := []) hE rfl trivial ?_
                        obtain rfl := Option.some.inj hr
                        exact ⟨cs374, rfl, h375, hn376, hS⟩
                      · replace hr := iteF hc371 hr
                        refine W.skip ?_
                        refine finG (fn := Try.f24) (rs := []) (vs := []) hE rfl trivial ?_
                        obtain rfl := Option.some.inj hr
                        exact ⟨cs361, rfl, h362, hn363, hS⟩
                  · replace hr := iteF hc358 hr
                    refine W.skip ?_
                    refine W.seq ?_
                    obtain ⟨q378, hq377, hr⟩ := bndS hr
                    refine W.cut (fun a w => ∃ (q381 : Bool), q381 = q378 ∧ Rep a 220 [(0, .slice a_v0 x0.length c_v0), (3, .int .i64 x3), (4, .func (.func 19) #[] #[.pointer (some ⟨pb0, 0, none⟩)]), (18, .int .i64 (w64 (Int.fdiv (IntKind.wrap .u64 (w64 (x1 + x3))) (2 ^ (min (Int.toNat 1) (IntKind.bits .u64)))))), (24, .int .i64 (w64 ((w64 ((w64 (Int.fdiv (IntKind.wrap .u64 (w64 (x1 + x3))) (2 ^ (min (Int.toNat 1) (IntKind.bits .u64))))) + x2)) - q265))), (213, .bool q381)] ∧ St w s (pt pb0 (.cells #[.slice a_y0_0 y0.length c_y0_0] 22 (0, 0)) :: vecC 3 1 a_v0 c_v0 x0.length cs_v0 :: R)) ?_ ?_
                    · refine W.gen fun K382 hK382 => ?_
                      refine W.region ?_
                      refine WL.vS hS hE (runs_plain rfl) (Gives.p hE rfl) rfl ?_; clear hE a; intro a hE
                      refine WL.vS hS hE (runs_plain rfl) (Gives.p hE rfl) rfl ?_; clear hE a; intro a hE
                      refine WL.vS hS hE (runs_plain rfl) (Gives.p hE rfl) rfl ?_; clear hE a; intro a hE
                      refine WL.vS hS hE (runs_plain rfl) (Gives.p hE rfl) rfl ?_; clear hE a; intro a hE
                      rcases Bool.eq_false_or_eq_true (decide ((w64 (Int.fdiv (IntKind.wrap .u64 (w64 (x1 + x3))) (2 ^ (min (Int.toNat 1) (IntKind.bits .u64))))) < (w64 ((w64 ((w64 (Int.fdiv (IntKind.wrap .u64 (w64 (x1 + x3))) (2 ^ (min (Int.toNat 1) (IntKind.bits .u64))))) + x2)) - q265)))) with hg383 | hg383
                      · replace hq377 := iteT hg383 hq377
                        refine WL.vS hS hE (runs_if hE rfl rfl rfl hg383) (Gives.p hE rfl) rfl ?_; clear hE a; intro a hE
                        refine WL.vS hS hE (runs_if hE rfl rfl rfl hg383) (Gives.p hE rfl) rfl ?_; clear hE a; intro a hE
                        refine WL.vS hS hE (runs_if hE rfl rfl rfl hg383) (Gives.p hE rfl) rfl ?_; clear hE a; intro a hE
                        refine WL.vS hS hE (runs_plain rfl) (Gives.pickT hE rfl hg383 rfl) rfl ?_; clear hE a; intro a hE
                        refine WL.nil ?_
                        subst hK382
                        exact ⟨decide ((w64 ((w64 ((w64 (Int.fdiv (IntKind.wrap .u64 (w64 (x1 + x3))) (2 ^ (min (Int.toNat 1) (IntKind.bits .u64))))) + x2)) - q265)) < x3), hq377, hE.pick _ ⟨rfl, rfl, rfl, rfl, rfl, rfl, trivial⟩, hS⟩
                      · replace hq377 := iteF hg383 hq377
                        refine WL.no hE (runs_not hE rfl rfl rfl (by rw [hg383]; decide)) rfl ?_; clear hE a; intro a hE
                        refine WL.no hE (runs_not hE rfl rfl rfl (by rw [hg383]; decide)) rfl ?_; clear hE a; intro a hE
                        refine WL.no hE (runs_not hE rfl rfl rfl (by rw [hg383]; decide)) rfl ?_; clear hE a; intro a hE
                        refine WL.vS hS hE (runs_plain rfl) (Gives.pickF hE rfl hg383 rfl) rfl ?_; clear hE a; intro a hE
                        refine WL.nil ?_
                        subst hK382
                        exact ⟨false, hq377, hE.pick _ ⟨rfl, rfl, rfl, rfl, rfl, rfl, trivial⟩, hS⟩
                    · clear hE hS a w; rintro a w ⟨q381, rfl, hE, hS⟩
                      refine W.cond hE rfl (fun hc384 => ?_) (fun hc384 => ?_)
                      · replace hr := iteT hc384 hr
                        refine W.region ?_
                        refine WL.vS hS hE (runs_plain rfl) (Gives.p hE rfl) rfl ?_; clear hE a; intro a hE
                        refine WL.vS hS hE (runs_plain rfl) (Gives.p hE rfl) rfl ?_; clear hE a; intro a hE
                        refine WL.vS hS hE (runs_plain rfl) (Gives.p hE rfl) rfl ?_; clear hE a; intro a hE
                        refine WL.vS hS hE (runs_plain rfl) (Gives.p hE rfl) rfl ?_; clear hE a; intro a hE
                        refine WL.vS hS hE (runs_plain rfl) (Gives.p hE rfl) rfl ?_; clear hE a; intro a hE
                        obtain ⟨q385, hq386, hr⟩ := bindS hr
                        have hc_ := ih_SlicessymMergeCmpFuncint_v1 hS h_v0 (rfl) h_y0_0 hq386
                        refine WL.fnq hE (hc_) (runs_plain rfl) bd24 rfl rfl rfl ?_
                        clear hE hS hc_; rintro e w ⟨cs387, rfl, h388, hn389, hS⟩; refine ⟨_, rfl, ?_⟩; clear a; intro a hE
                        refine WL.nil ?_
                        refine finG (fn := Try.f24) (rs := []) (vs := []) hE rfl trivial ?_
                        obtain rfl := Option.some.inj hr
                        exact ⟨cs387, rfl, h388, hn389, hS⟩
                      · replace hr := iteF hc384 hr
                        refine W.skip ?_
                        refine finG (fn := Try.f24) (rs := []) (vs := []) hE rfl trivial ?_
                        obtain rfl := Option.some.inj hr
                        exact ⟨cs_v0, rfl, h_v0, (rfl), hS⟩
set_option maxHeartbeats 8000000 in
theorem SlicesstableCmpFuncint_v1_ok {fu : Nat}  {w : World} {s : Sg} {R : List HP} {pb0 : Nat} {x0 : List Int} {a_v0 : Option Addr} {c_v0 n_v0 : Nat} {cs_v0 : List Value} {x1 : Int} {y0 : List FleetTask} {a_y0_0 : Option Addr} {c_y0_0 : Nat} (hS : St w s (pt pb0 (.cells #[.slice a_y0_0 y0.length c_y0_0] 22 (0, 0)) :: vecC 3 1 a_v0 c_v0 n_v0 cs_v0 :: R)) (h_v0 : Ev 1 (RI .i64) s cs_v0 x0) (hn_v0 : x0.length = n_v0) (h_y0_0 : Sl 6 RFleetTask s a_y0_0 c_y0_0 y0) {r : (List Int)} (hr : SlicesstableCmpFuncint_v1 fu x0 x1 y0 = some r) :
    Calls Try.prog 21 [.slice a_v0 n_v0 c_v0, .int .i64 x1, .func (.func 19) #[] #[.pointer (some ⟨pb0, 0, none⟩)]].toArray w (fun e w => ∃ (cs55 : List Value), e = .returned (.tuple #[]) ∧ Ev 1 (RI .i64) s cs55 r ∧ r.length = n_v0 ∧ St w s (pt pb0 (.cells #[.slice a_y0_0 y0.length c_y0_0] 22 (0, 0)) :: vecC 3 1 a_v0 c_v0 n_v0 cs55 :: R)) := by
  refine enter Try.func21 rfl rfl rfl fun a hE => ?_
  rw [SlicesstableCmpFuncint_v1] at hr
  subst hn_v0
  refine W.seq ?_
  refine W.region ?_
  refine WL.vS hS hE (runs_plain rfl) (Gives.p hE rfl) rfl ?_; clear hE a; intro a hE
  refine WL.nil ?_
  refine W.seq ?_
  refine W.region ?_
  refine WL.vS hS hE (runs_plain rfl) (Gives.p hE rfl) rfl ?_; clear hE a; intro a hE
  refine WL.vS hS hE (runs_plain rfl) (Gives.p hE rfl) rfl ?_; clear hE a; intro a hE
  refine WL.vS hS hE (runs_plain rfl) (Gives.p hE rfl) rfl ?_; clear hE a; intro a hE
  refine WL.nil ?_
  refine W.seq ?_
  obtain ⟨q58, hq57, hr⟩ := bindS hr
  refine W.cut (fun a w => ∃ (q63 : Int), ∃ (q64 : Int), ∃ (q65 : List Int), ∃ (cs69 : List Value), (q63, q64, q65) = q58 ∧ Ev 1 (RI .i64) s cs69 q65 ∧ q65.length = x0.length ∧ Rep a 63 [(0, .slice a_v0 x0.length c_v0), (1, .int .i64 x1), (2, .func (.func 19) #[] #[.pointer (some ⟨pb0, 0, none⟩)]), (6, .int .i64 20), (7, .int .i64 q63)] ∧ St w s (pt pb0 (.cells #[.slice a_y0_0 y0.length c_y0_0] 22 (0, 0)) :: vecC 3 1 a_v0 c_v0 x0.length cs69 :: R)) ?_ ?_
  · refine W.block ?_
    refine W.loop (fun m a w => ∃ (n59 : Nat), ∃ (q63 : Int), ∃ (q64 : Int), ∃ (q65 : List Int), ∃ (cs69 : List Value), n59 = m ∧ SlicesstableCmpFuncint_v1.loop1 x1 y0 fu n59 q63 q64 q65 = some q58 ∧ Ev 1 (RI .i64) s cs69 q65 ∧ q65.length = x0.length ∧ Rep a 63 [(0, .slice a_v0 x0.length c_v0), (1, .int .i64 x1), (2, .func (.func 19) #[] #[.pointer (some ⟨pb0, 0, none⟩)]), (6, .int .i64 20), (7, .int .i64 q63), (8, .int .i64 q64)] ∧ St w s (pt pb0 (.cells #[.slice a_y0_0 y0.length c_y0_0] 22 (0, 0)) :: vecC 3 1 a_v0 c_v0 x0.length cs69 :: R)) (m := fu) ⟨fu, 0, 20, x0, cs_v0, rfl, hq57, h_v0, (rfl), hE.pick _ ⟨rfl, rfl, rfl, rfl, rfl, rfl, trivial⟩, hS⟩ ?_
    clear hE hS a w hq57; rintro m60 a w ⟨n59, q63, q64, q65, cs69, rfl, hq57, h68, hn70, hE, hS⟩
    refine W.gen fun K71 hK71 => ?_
    rcases n59 with _ | n59
    · rw [SlicesstableCmpFuncint_v1.loop1] at hq57; exact absurd hq57 (by simp)
    rw [SlicesstableCmpFuncint_v1.loop1] at hq57
    refine W.seq ?_
    refine W.seq ?_
    refine W.region ?_
    refine WL.vS hS hE (runs_plain rfl) (Gives.p hE rfl) rfl ?_; clear hE a; intro a hE
    refine WL.vS hS hE (runs_plain rfl) (Gives.p hE rfl) rfl ?_; clear hE a; intro a hE
    refine WL.vS hS hE (runs_plain rfl) (Gives.p hE rfl) rfl ?_; clear hE a; intro a hE
    refine WL.nil ?_
    refine W.cond hE rfl (fun hc72 => ?_) (fun hc72 => ?_)
    · replace hq57 := iteT hc72 hq57
      refine W.skip ?_
      refine W.block ?_
      refine W.seq ?_
      refine W.region ?_
      refine WL.vS hS hE (runs_plain rfl) (Gives.p hE rfl) rfl ?_; clear hE a; intro a hE
      refine WL.vS hS hE (runs_plain rfl) (Gives.p hE rfl) rfl ?_; clear hE a; intro a hE
      refine WL.vS hS hE (runs_plain rfl) (Gives.p hE rfl) rfl ?_; clear hE a; intro a hE
      refine WL.vS hS hE (runs_plain rfl) (Gives.p hE rfl) rfl ?_; clear hE a; intro a hE
      obtain ⟨q73, hq74, hq57⟩ := bindS hq57
      have hc_ := SlicesinsertionSortCmpFuncint_v1_ok hS h68 hn70 h_y0_0 hq74
      refine WL.fnq hE (hc_) (runs_plain rfl) bd23 rfl rfl rfl ?_
      clear hE hS hc_; rintro e w ⟨cs75, rfl, h76, hn77, hS⟩; refine ⟨_, rfl, ?_⟩; clear a; intro a hE
      refine WL.nil ?_
      refine W.seq ?_
      refine W.region ?_
      refine WL.vS hS hE (runs_plain rfl) (Gives.p hE rfl) rfl ?_; clear hE a; intro a hE
      refine WL.vS hS hE (runs_plain rfl) (Gives.p hE rfl) rfl ?_; clear hE a; intro a hE
      refine WL.nil ?_
      refine W.region ?_
      refine WL.vS hS hE (runs_plain rfl) (Gives.p hE rfl) rfl ?_; clear hE a; intro a hE
      refine WL.vS hS hE (runs_plain rfl) (Gives.p hE rfl) rfl ?_; clear hE a; intro a hE
      refine WL.vS hS hE (runs_plain rfl) (Gives.p hE rfl) rfl ?_; clear hE a; intro a hE
      refine WL.vS hS hE (runs_plain rfl) (Gives.p hE rfl) rfl ?_; clear hE a; intro a hE
      refine WL.nil ?_
      subst hK71
      exact ⟨n59, Nat.lt_succ_self _, n59, q64, (w64 (q64 + 20)), q73, cs75, rfl, hq57, h76, hn77, hE.pick _ ⟨rfl, rfl, rfl, rfl, rfl, rfl, trivial⟩, hS⟩
    · replace hq57 := iteF hc72 hq57
      subst hK71
      refine W.exit rfl ?_
      exact ⟨q63, q64, q65, cs69, Option.some.inj hq57, h68, hn70, hE.pick _ ⟨rfl, rfl, rfl, rfl, rfl, trivial⟩, hS⟩
  · clear hE hS a w; rintro a w ⟨q63, q64, q65, cs69, rfl, h68, hn70, hE, hS⟩
    dsimp only at hr
    refine W.seq ?_
    refine W.region ?_
    refine WL.vS hS hE (runs_plain rfl) (Gives.p hE rfl) rfl ?_; clear hE a; intro a hE
    refine WL.vS hS hE (runs_plain rfl) (Gives.p hE rfl) rfl ?_; clear hE a; intro a hE
    refine WL.vS hS hE (runs_plain rfl) (Gives.p hE rfl) rfl ?_; clear hE a; intro a hE
    refine WL.vS hS hE (runs_plain rfl) (Gives.p hE rfl) rfl ?_; clear hE a; intro a hE
    obtain ⟨q78, hq79, hr⟩ := bindS hr
    have hc_ := SlicesinsertionSortCmpFuncint_v1_ok hS h68 hn70 h_y0_0 hq79
    refine WL.fnq hE (hc_) (runs_plain rfl) bd23 rfl rfl rfl ?_
    clear hE hS hc_; rintro e w ⟨cs80, rfl, h81, hn82, hS⟩; refine ⟨_, rfl, ?_⟩; clear a; intro a hE
    refine WL.nil ?_
    obtain ⟨q84, hq83, hr⟩ := bindS hr
    refine W.cut (fun a w => ∃ (q89 : Int), ∃ (q90 : List Int), ∃ (cs94 : List Value), (q89, q90) = q84 ∧ Ev 1 (RI .i64) s cs94 q90 ∧ q90.length = x0.length ∧ Rep a 63 [] ∧ St w s (pt pb0 (.cells #[.slice a_y0_0 y0.length c_y0_0] 22 (0, 0)) :: vecC 3 1 a_v0 c_v0 x0.length cs94 :: R)) ?_ ?_
    · refine W.block ?_
      refine W.loop (fun m a w => ∃ (n85 : Nat), ∃ (q89 : Int), ∃ (q90 : List Int), ∃ (cs94 : List Value), n85 = m ∧ SlicesstableCmpFuncint_v1.loop2 x1 y0 fu n85 q89 q90 = some q84 ∧ Ev 1 (RI .i64) s cs94 q90 ∧ q90.length = x0.length ∧ Rep a 63 [(0, .slice a_v0 x0.length c_v0), (1, .int .i64 x1), (2, .func (.func 19) #[] #[.pointer (some ⟨pb0, 0, none⟩)]), (6, .int .i64 q89)] ∧ St w s (pt pb0 (.cells #[.slice a_y0_0 y0.length c_y0_0] 22 (0, 0)) :: vecC 3 1 a_v0 c_v0 x0.length cs94 :: R)) (m := fu) ⟨fu, 20, q78, cs80, rfl, hq83, h81, hn82, hE.pick _ ⟨rfl, rfl, rfl, rfl, trivial⟩, hS⟩ ?_
      clear hE hS a w hq83; rintro m86 a w ⟨n85, q89, q90, cs94, rfl, hq83, h93, hn95, hE, hS⟩
      refine W.gen fun K96 hK96 => ?_
      rcases n85 with _ | n85
      · rw [SlicesstableCmpFuncint_v1.loop2] at hq83; exact absurd hq83 (by simp)
      rw [SlicesstableCmpFuncint_v1.loop2] at hq83
      refine W.seq ?_
      refine W.seq ?_
      refine W.region ?_
      refine WL.vS hS hE (runs_plain rfl) (Gives.p hE rfl) rfl ?_; clear hE a; intro a hE
      refine WL.vS hS hE (runs_plain rfl) (Gives.p hE rfl) rfl ?_; clear hE a; intro a hE
      refine WL.vS hS hE (runs_plain rfl) (Gives.p hE rfl) rfl ?_; clear hE a; intro a hE
      refine WL.nil ?_
      refine W.cond hE rfl (fun hc97 => ?_) (fun hc97 => ?_)
      · replace hq83 := iteT hc97 hq83
        refine W.skip ?_
        refine W.block ?_
        refine W.seq ?_
        refine W.region ?_
        refine WL.vS hS hE (runs_plain rfl) (Gives.p hE rfl) rfl ?_; clear hE a; intro a hE
        refine WL.vS hS hE (runs_plain rfl) (Gives.p hE rfl) rfl ?_; clear hE a; intro a hE
        refine WL.vS hS hE (runs_plain rfl) (Gives.p hE rfl) rfl ?_; clear hE a; intro a hE
        refine WL.vS hS hE (runs_plain rfl) (Gives.p hE rfl) rfl ?_; clear hE a; intro a hE
        refine WL.nil ?_
        refine W.seq ?_
        obtain ⟨q99, hq98, hq83⟩ := bindS hq83
        refine W.cut (fun a w => ∃ (q104 : Int), ∃ (q105 : Int), ∃ (q106 : List Int), ∃ (cs110 : List Value), (q104, q105, q106) = q99 ∧ Ev 1 (RI .i64) s cs110 q106 ∧ q106.length = x0.length ∧ Rep a 63 [(0, .slice a_v0 x0.length c_v0), (1, .int .i64 x1), (2, .func (.func 19) #[] #[.pointer (some ⟨pb0, 0, none⟩)]), (6, .int .i64 q89), (7, .int .i64 q104)] ∧ St w s (pt pb0 (.cells #[.slice a_y0_0 y0.length c_y0_0] 22 (0, 0)) :: vecC 3 1 a_v0 c_v0 x0.length cs110 :: R)) ?_ ?_
        · refine W.block ?_
          refine W.loop (fun m a w => ∃ (n100 : Nat), ∃ (q104 : Int), ∃ (q105 : Int), ∃ (q106 : List Int), ∃ (cs110 : List Value), n100 = m ∧ SlicesstableCmpFuncint_v1.loop3 x1 y0 fu q89 n100 q104 q105 q106 = some q99 ∧ Ev 1 (RI .i64) s cs110 q106 ∧ q106.length = x0.length ∧ Rep a 63 [(0, .slice a_v0 x0.length c_v0), (1, .int .i64 x1), (2, .func (.func 19) #[] #[.pointer (some ⟨pb0, 0, none⟩)]), (6, .int .i64 q89), (7, .int .i64 q104), (8, .int .i64 q105)] ∧ St w s (pt pb0 (.cells #[.slice a_y0_0 y0.length c_y0_0] 22 (0, 0)) :: vecC 3 1 a_v0 c_v0 x0.length cs110 :: R)) (m := fu) ⟨fu, 0, (w64 (2 * q89)), q90, cs94, rfl, hq98, h93, hn95, hE.pick _ ⟨rfl, rfl, rfl, rfl, rfl, rfl, trivial⟩, hS⟩ ?_
          clear hE hS a w hq98; rintro m101 a w ⟨n100, q104, q105, q106, cs110, rfl, hq98, h109, hn111, hE, hS⟩
          refine W.gen fun K112 hK112 => ?_
          rcases n100 with _ | n100
          · rw [SlicesstableCmpFuncint_v1.loop3] at hq98; exact absurd hq98 (by simp)
          rw [SlicesstableCmpFuncint_v1.loop3] at hq98
          refine W.seq ?_
          refine W.seq ?_
          refine W.region ?_
          refine WL.vS hS hE (runs_plain rfl) (Gives.p hE rfl) rfl ?_; clear hE a; intro a hE
          refine WL.vS hS hE (runs_plain rfl) (Gives.p hE rfl) rfl ?_; clear hE a; intro a hE
          refine WL.vS hS hE (runs_plain rfl) (Gives.p hE rfl) rfl ?_; clear hE a; intro a hE
          refine WL.nil ?_
          refine W.cond hE rfl (fun hc113 => ?_) (fun hc113 => ?_)
          · replace hq98 := iteT hc113 hq98
            refine W.skip ?_
            refine W.block ?_
            refine W.seq ?_
            refine W.region ?_
            refine WL.vS hS hE (runs_plain rfl) (Gives.p hE rfl) rfl ?_; clear hE a; intro a hE
            refine WL.vS hS hE (runs_plain rfl) (Gives.p hE rfl) rfl ?_; clear hE a; intro a hE
            refine WL.vS hS hE (runs_plain rfl) (Gives.p hE rfl) rfl ?_; clear hE a; intro a hE
            refine WL.vS hS hE (runs_plain rfl) (Gives.p hE rfl) rfl ?_; clear hE a; intro a hE
            refine WL.vS hS hE (runs_plain rfl) (Gives.p hE rfl) rfl ?_; clear hE a; intro a hE
            refine WL.vS hS hE (runs_plain rfl) (Gives.p hE rfl) rfl ?_; clear hE a; intro a hE
            refine WL.vS hS hE (runs_plain rfl) (Gives.p hE rfl) rfl ?_; clear hE a; intro a hE
            obtain ⟨q114, hq115, hq98⟩ := bindS hq98
            have hc_ := SlicessymMergeCmpFuncint_v1_ok hS h109 hn111 h_y0_0 hq115
            refine WL.fnq hE (hc_) (runs_plain rfl) bd24 rfl rfl rfl ?_
            clear hE hS hc_; rintro e w ⟨cs116, rfl, h117, hn118, hS⟩; refine ⟨_, rfl, ?_⟩; clear a; intro a hE
            refine WL.nil ?_
            refine W.seq ?_
            refine W.region ?_
            refine WL.vS hS hE (runs_plain rfl) (Gives.p hE rfl) rfl ?_; clear hE a; intro a hE
            refine WL.vS hS hE (runs_plain rfl) (Gives.p hE rfl) rfl ?_; clear hE a; intro a hE
            refine WL.nil ?_
            refine W.region ?_
            refine WL.vS hS hE (runs_plain rfl) (Gives.p hE rfl) rfl ?_; clear hE a; intro a hE
            refine WL.vS hS hE (runs_plain rfl) (Gives.p hE rfl) rfl ?_; clear hE a; intro a hE
            refine WL.vS hS hE (runs_plain rfl) (Gives.p hE rfl) rfl ?_; clear hE a; intro a hE
            refine WL.vS hS hE (runs_plain rfl) (Gives.p hE rfl) rfl ?_; clear hE a; intro a hE
            refine WL.vS hS hE (runs_plain rfl) (Gives.p hE rfl) rfl ?_; clear hE a; intro a hE
            refine WL.nil ?_
            subst hK112
            exact ⟨n100, Nat.lt_succ_self _, n100, q105, (w64 (q105 + (w64 (2 * q89)))), q114, cs116, rfl, hq98, h117, hn118, hE.pick _ ⟨rfl, rfl, rfl, rfl, rfl, rfl, trivial⟩, hS⟩
          · replace hq98 := iteF hc113 hq98
            subst hK112
            refine W.exit rfl ?_
            exact ⟨q104, q105, q106, cs110, Option.some.inj hq98, h109, hn111, hE.pick _ ⟨rfl, rfl, rfl, rfl, rfl, trivial⟩, hS⟩
        · clear hE hS a w; rintro a w ⟨q104, q105, q106, cs110, rfl, h109, hn111, hE, hS⟩
          dsimp only at hq83
          refine W.seq ?_
          refine W.seq ?_
          refine W.region ?_
          refine WL.vS hS hE (runs_plain rfl) (Gives.p hE rfl) rfl ?_; clear hE a; intro a hE
          refine WL.vS hS hE (runs_plain rfl) (Gives.p hE rfl) rfl ?_; clear hE a; intro a hE
          refine WL.vS hS hE (runs_plain rfl) (Gives.p hE rfl) rfl ?_; clear hE a; intro a hE
          refine WL.vS hS hE (runs_plain rfl) (Gives.p hE rfl) rfl ?_; clear hE a; intro a hE
          refine WL.nil ?_
          refine W.seq ?_
          refine W.region ?_
          refine WL.vS hS hE (runs_plain rfl) (Gives.p hE rfl) rfl ?_; clear hE a; intro a hE
          refine WL.vS hS hE (runs_plain rfl) (Gives.p hE rfl) rfl ?_; clear hE a; intro a hE
          refine WL.vS hS hE (runs_plain rfl) (Gives.p hE rfl) rfl ?_; clear hE a; intro a hE
          refine WL.nil ?_
          refine W.cond hE rfl (fun hc119 => ?_) (fun hc119 => ?_)
          · replace hq83 := iteT hc119 hq83
            refine W.region ?_
            refine WL.vS hS hE (runs_plain rfl) (Gives.p hE rfl) rfl ?_; clear hE a; intro a hE
            refine WL.vS hS hE (runs_plain rfl) (Gives.p hE rfl) rfl ?_; clear hE a; intro a hE
            refine WL.vS hS hE (runs_plain rfl) (Gives.p hE rfl) rfl ?_; clear hE a; intro a hE
            refine WL.vS hS hE (runs_plain rfl) (Gives.p hE rfl) rfl ?_; clear hE a; intro a hE
            refine WL.vS hS hE (runs_plain rfl) (Gives.p hE rfl) rfl ?_; clear hE a; intro a hE
            obtain ⟨q120, hq121, hq83⟩ := bindS hq83
            have hc_ := SlicessymMergeCmpFuncint_v1_ok hS h109 hn111 h_y0_0 hq121
            refine WL.fnq hE (hc_) (runs_plain rfl) bd24 rfl rfl rfl ?_
            clear hE hS hc_; rintro e w ⟨cs122, rfl, h123, hn124, hS⟩; refine ⟨_, rfl, ?_⟩; clear a; intro a hE
            refine WL.nil ?_
            refine W.region ?_
            refine WL.vS hS hE (runs_plain rfl) (Gives.p hE rfl) rfl ?_; clear hE a; intro a hE
            refine WL.vS hS hE (runs_plain rfl) (Gives.p hE rfl) rfl ?_; clear hE a; intro a hE
            refine WL.vS hS hE (runs_plain rfl) (Gives.p hE rfl) rfl ?_; clear hE a; intro a hE
            refine WL.nil ?_
            subst hK96
            exact ⟨n85, Nat.lt_succ_self _, n85, (w64 (q89 * 2)), q120, cs122, rfl, hq83, h123, hn124, hE.pick _ ⟨rfl, rfl, rfl, rfl, trivial⟩, hS⟩
          · replace hq83 := iteF hc119 hq83
            refine W.skip ?_
            refine W.region ?_
            refine WL.vS hS hE (runs_plain rfl) (Gives.p hE rfl) rfl ?_; clear hE a; intro a hE
            refine WL.vS hS hE (runs_plain rfl) (Gives.p hE rfl) rfl ?_; clear hE a; intro a hE
            refine WL.vS hS hE (runs_plain rfl) (Gives.p hE rfl) rfl ?_; clear hE a; intro a hE
            refine WL.nil ?_
            subst hK96
            exact ⟨n85, Nat.lt_succ_self _, n85, (w64 (q89 * 2)), q106, cs110, rfl, hq83, h109, hn111, hE.pick _ ⟨rfl, rfl, rfl, rfl, trivial⟩, hS⟩
      · replace hq83 := iteF hc97 hq83
        subst hK96
        refine W.exit rfl ?_
        exact ⟨q89, q90, cs94, Option.some.inj hq83, h93, hn95, hE.pick _ trivial, hS⟩
    · clear hE hS a w; rintro a w ⟨q89, q90, cs94, rfl, h93, hn95, hE, hS⟩
      dsimp only at hr
      refine finG (fn := Try.f21) (rs := []) (vs := []) hE rfl trivial ?_
      obtain rfl := Option.some.inj hr
      exact ⟨cs94, rfl, h93, hn95, hS⟩
set_option maxHeartbeats 8000000 in
theorem SlicesSortStableFuncLint_v1_ok {fu : Nat}  {w : World} {s : Sg} {R : List HP} {pb0 : Nat} {x0 : List Int} {a_v0 : Option Addr} {c_v0 n_v0 : Nat} {cs_v0 : List Value} {y0 : List FleetTask} {a_y0_0 : Option Addr} {c_y0_0 : Nat} (hS : St w s (pt pb0 (.cells #[.slice a_y0_0 y0.length c_y0_0] 22 (0, 0)) :: vecC 3 1 a_v0 c_v0 n_v0 cs_v0 :: R)) (h_v0 : Ev 1 (RI .i64) s cs_v0 x0) (hn_v0 : x0.length = n_v0) (h_y0_0 : Sl 6 RFleetTask s a_y0_0 c_y0_0 y0) {r : (List Int)} (hr : SlicesSortStableFuncLint_v1 fu x0 y0 = some r) :
    Calls Try.prog 18 [.slice a_v0 n_v0 c_v0, .func (.func 19) #[] #[.pointer (some ⟨pb0, 0, none⟩)]].toArray w (fun e w => ∃ (cs55 : List Value), e = .returned (.tuple #[]) ∧ Ev 1 (RI .i64) s cs55 r ∧ r.length = n_v0 ∧ St w s (pt pb0 (.cells #[.slice a_y0_0 y0.length c_y0_0] 22 (0, 0)) :: vecC 3 1 a_v0 c_v0 n_v0 cs55 :: R)) := by
  refine enter Try.func18 rfl rfl rfl fun a hE => ?_
  rw [SlicesSortStableFuncLint_v1] at hr
  subst hn_v0
  refine W.region ?_
  refine WL.vS hS hE (runs_plain rfl) (Gives.p hE rfl) rfl ?_; clear hE a; intro a hE
  refine WL.vS hS hE (runs_plain rfl) (Gives.p hE rfl) rfl ?_; clear hE a; intro a hE
  refine WL.vS hS hE (runs_plain rfl) (Gives.len hE rfl sl31) rfl ?_; clear hE a; intro a hE
  refine WL.vS hS hE (runs_plain rfl) (Gives.p hE rfl) rfl ?_; clear hE a; intro a hE
  obtain ⟨q57, hq58, hr⟩ := bindS hr
  have hc_ := SlicesstableCmpFuncint_v1_ok hS h_v0 (rfl) h_y0_0 hq58
  refine WL.fnq hE (hc_) (runs_plain rfl) bd21 rfl rfl rfl ?_
  clear hE hS hc_; rintro e w ⟨cs59, rfl, h60, hn61, hS⟩; refine ⟨_, rfl, ?_⟩; clear a; intro a hE
  refine WL.nil ?_
  refine finG (fn := Try.f18) (rs := []) (vs := []) hE rfl trivial ?_
  obtain rfl := Option.some.inj hr
  exact ⟨cs59, rfl, h60, hn61, hS⟩
set_option maxHeartbeats 8000000 in
theorem Fleetorder_ok {fu : Nat}  {w : World} {s : Sg} {R : List HP} {x0 : List FleetTask} {a0 : Option Addr} {c0 : Nat} (hS : St w s (R)) (h0 : Sl 6 RFleetTask s a0 c0 x0) {r : (List Int)} (hr : Fleetorder fu x0 = some r) :
    Calls Try.prog 16 [.slice a0 x0.length c0].toArray w (fun e w => ∃ (a0 : Option Addr) (c0 n0 : Nat) (cs0 : List Value), e = .returned (.slice a0 n0 c0) ∧ Ev 1 (RI .i64) s cs0 r ∧ r.length = n0 ∧ St w s (vecC 3 1 a0 c0 n0 cs0 :: R)) := by
  refine enter Try.func16 rfl rfl rfl fun a hE => ?_
  rw [Fleetorder] at hr
  refine W.seq ?_
  refine W.region ?_
  refine WL.box hE hS (runs_plain rfl) rfl rfl rfl ?_; clear hE hS a w; intro b51 a w hE hS
  refine WL.vS hS hE (runs_plain rfl) (Gives.p hE rfl) rfl ?_; clear hE a; intro a hE
  refine WL.nil ?_
  refine W.seq ?_
  refine W.region ?_
  refine WL.vS hS hE (runs_plain rfl) (Gives.loadB hE 0 rfl rfl rfl ty22) rfl ?_; clear hE a; intro a hE
  refine WL.vS hS hE (runs_plain rfl) (Gives.len hE rfl sl22) rfl ?_; clear hE a; intro a hE
  obtain ⟨x52, hx53, hr⟩ := bindS hr
  refine WL.mkD (Rr := RI .i64) hE hS (runs_plain rfl) rfl rfl ap31 zr3 rfl hx53 rfl ?_; clear hE hS a w; intro b54 cs55 a w h56 hE hS
  refine WL.vS hS hE (runs_plain rfl) (Gives.p hE rfl) rfl ?_; clear hE a; intro a hE
  refine WL.nil ?_
  refine W.seq ?_
  refine W.seq ?_
  refine W.region ?_
  refine WL.vS hS hE (runs_plain rfl) (Gives.p hE rfl) rfl ?_; clear hE a; intro a hE
  refine WL.vS hS hE (runs_plain rfl) (Gives.len hE rfl sl31) rfl ?_; clear hE a; intro a hE
  refine WL.vS hS hE (runs_plain rfl) (Gives.p hE rfl) rfl ?_; clear hE a; intro a hE
  refine WL.nil ?_
  have hb69 : x52.length ≤ 9223372036854775807 := by have := hS.vecCap 0 rfl; unfold maxLen at this; omega
  obtain ⟨q59, hq58, hr⟩ := bindS hr
  refine W.cut (fun a w => ∃ (q70 : List Int), ∃ (cs74 : List Value), q70 = q59 ∧ Ev 1 (RI .i64) s cs74 q70 ∧ q70.length = x52.length ∧ Rep a 22 [(1, .pointer (some ⟨b51, 0, none⟩)), (3, .slice (some ⟨b54, 0, none⟩) x52.length x52.length)] ∧ St w s (vecC 3 1 (some ⟨b54, 0, none⟩) x52.length x52.length cs74 :: pt b51 (.cells #[.slice a0 x0.length c0] 22 (0, 0)) :: R)) ?_ ?_
  · refine W.block ?_
    refine W.loop (fun m a w => ∃ (rest62 : Nat) (k60 : Nat), ∃ (q70 : List Int), ∃ (cs74 : List Value), rest62 = m ∧ k60 + rest62 = x52.length ∧ Fleetorder.loop1 rest62 k60 q70 = some q59 ∧ Ev 1 (RI .i64) s cs74 q70 ∧ q70.length = x52.length ∧ Rep a 22 [(1, .pointer (some ⟨b51, 0, none⟩)), (3, .slice (some ⟨b54, 0, none⟩) x52.length x52.length), (9, .int .i64 ((x52.length : Nat) : Int)), (10, .int .i64 ((k60 : Nat) : Int))] ∧ St w s (vecC 3 1 (some ⟨b54, 0, none⟩) x52.length x52.length cs74 :: pt b51 (.cells #[.slice a0 x0.length c0] 22 (0, 0)) :: R)) (m := x52.length) ⟨x52.length, 0, x52, cs55, rfl, by omega, hq58, h56, (rfl), hE.pick _ ⟨rfl, rfl, rfl, rfl, trivial⟩, hS⟩ ?_
    clear hE hS a w hq58; rintro m66 a w ⟨rest62, k60, q70, cs74, rfl, hd63, hq58, h73, hn75, hE, hS⟩
    refine W.gen fun K76 hK76 => ?_
    rcases rest62 with _ | rest62
    · skip
      refine W.seq ?_
      refine W.region ?_
      refine WL.vS hS hE (runs_plain rfl) (Gives.p hE rfl) rfl ?_; clear hE a; intro a hE
      refine WL.nil ?_
      refine W.seq ?_
      refine W.condF hE rfl (decide_eq_false (by omega)) ?_
      subst hK76
      refine W.exit rfl ?_
      exact ⟨q70, cs74, Option.some.inj hq58, h73, hn75, hE.pick _ ⟨rfl, rfl, trivial⟩, hS⟩
    · have hlt64 : k60 < x52.length := by omega
      rw [Fleetorder.loop1] at hq58
      refine W.seq ?_
      refine W.region ?_
      refine WL.vS hS hE (runs_plain rfl) (Gives.p hE rfl) rfl ?_; clear hE a; intro a hE
      refine WL.nil ?_
      refine W.seq ?_
      refine W.condT hE rfl (decide_eq_true (by omega)) ?_
      refine W.skip ?_
      refine W.seq ?_
      refine W.block ?_
      refine W.seq ?_
      refine W.region ?_
      refine WL.vS hS hE (runs_plain rfl) (Gives.p hE rfl) rfl ?_; clear hE a; intro a hE
      refine WL.vS hS hE (runs_plain rfl) (Gives.p hE rfl) rfl ?_; clear hE a; intro a hE
      refine WL.nil ?_
      refine W.region ?_
      refine WL.vS hS hE (runs_plain rfl) (Gives.p hE rfl) rfl ?_; clear hE a; intro a hE
      refine WL.vS hS hE (runs_plain rfl) (Gives.p hE rfl) rfl ?_; clear hE a; intro a hE
      refine WL.vS hS hE (runs_plain rfl) (Gives.p hE rfl) rfl ?_; clear hE a; intro a hE
      obtain ⟨_, hx78, hq58⟩ := bindS hq58
      obtain ⟨h79, h80⟩ := ix_some hx78
      refine WL.vS hS hE (runs_plain rfl) (Gives.idx hE ((((k60 : Nat) : Int)).toNat) rfl rfl sl31 h79 (by have := hn75; omega) (hS.vecAok 0 rfl (by have := hn75; omega : (((k60 : Nat) : Int)).toNat < x52.length))) rfl ?_; clear hE a; intro a hE
      obtain ⟨x82, hx83, hq58⟩ := bindS hq58
      refine WL.setD hE hS 0 rfl (runs_plain rfl) rfl rfl (vs := [.int .i64 ((k60 : Nat) : Int)]) rfl ty3 rfl rfl rfl h73 hn75 (sx_some hx83).1 hx83 rfl rfl ?_; clear hE hS a w; intro cs84 a w h85 hn86 hE hS
      refine WL.nil ?_
      refine W.region ?_
      refine WL.vS hS hE (runs_plain rfl) (Gives.inc hE rfl (by omega)) rfl ?_; clear hE a; intro a hE
      refine WL.vS hS hE (runs_plain rfl) (Gives.p hE rfl) rfl ?_; clear hE a; intro a hE
      refine WL.nil ?_
      subst hK76
      exact ⟨rest62, Nat.lt_succ_self _, rest62, k60 + 1, x82, cs84, rfl, (by omega), hq58, h85, hn86, hE.pick _ ⟨rfl, rfl, rfl, rfl, trivial⟩, hS⟩
  · clear hE hS a w; rintro a w ⟨q70, cs74, rfl, h73, hn75, hE, hS⟩
    refine W.seq ?_
    refine W.region ?_
    refine WL.vS hS hE (runs_plain rfl) (Gives.p hE rfl) rfl ?_; clear hE a; intro a hE
    refine WL.vS hS hE (runs_plain rfl) (Gives.mkfn hE (vs := [.pointer (some ⟨b51, 0, none⟩)]) rfl) rfl ?_; clear hE a; intro a hE
    obtain ⟨q87, hq88, hr⟩ := bindS hr
    replace hS := hS.front 0 rfl
    replace hS := hS.front 1 rfl
    have hc_ := SlicesSortStableFuncLint_v1_ok hS h73 hn75 h0 hq88
    refine WL.fnq hE (hc_) (runs_plain rfl) bd18 rfl rfl rfl ?_
    clear hE hS hc_; rintro e w ⟨cs89, rfl, h90, hn91, hS⟩; refine ⟨_, rfl, ?_⟩; clear a; intro a hE
    refine WL.nil ?_
    refine W.seq ?_
    refine W.region ?_
    refine WL.vS hS hE (runs_plain rfl) (Gives.p hE rfl) rfl ?_; clear hE a; intro a hE
    refine WL.vS hS hE (runs_plain rfl) (Gives.p hE rfl) rfl ?_; clear hE a; intro a hE
    refine WL.nil ?_
    refine W.ret ?_
    refine finG (fn := Try.f16) (rs := [.tmp 2]) (vs := [_]) hE rfl ⟨rfl, trivial⟩ ?_
    obtain rfl := Option.some.inj hr
    replace hS := hS.tail
    exact ⟨(some ⟨b54, 0, none⟩), x52.length, x52.length, cs89, rfl, h90, hn91, hS⟩
set_option maxHeartbeats 8000000 in
theorem Fleetfollows_ok  {w : World} {s : Sg} {R : List HP} {x0 : FleetTask} {x1 : FleetTask} {x2 : Int} (hS : St w s (R))  {r : Bool} (hr : Fleetfollows x0 x1 x2 = r) :
    Calls Try.prog 17 [.agg (FleetTask.cells x0).toArray, .agg (FleetTask.cells x1).toArray, .int .i64 x2].toArray w (fun e w => e = .returned (.bool r) ∧ St w s (R)) := by
  refine enter Try.func17 rfl rfl rfl fun a hE => ?_
  rw [Fleetfollows] at hr
  refine W.seq ?_
  refine W.region ?_
  refine WL.box hE hS (runs_plain rfl) rfl rfl rfl ?_; clear hE hS a w; intro b51 a w hE hS
  refine WL.box hE hS (runs_plain rfl) rfl rfl rfl ?_; clear hE hS a w; intro b52 a w hE hS
  refine WL.vS hS hE (runs_plain rfl) (Gives.p hE rfl) rfl ?_; clear hE a; intro a hE
  refine WL.nil ?_
  refine W.seq ?_
  obtain ⟨q54, hq53, hr⟩ := bndS hr
  refine W.cut (fun a w => ∃ (q57 : Bool), q57 = q54 ∧ Rep a 21 [(6, .bool q57)] ∧ St w s (pt b52 (.cells (FleetTask.cells x1).toArray 34 (0, 0)) :: pt b51 (.cells (FleetTask.cells x0).toArray 34 (0, 0)) :: R)) ?_ ?_
  · refine W.gen fun K58 hK58 => ?_
    refine W.region ?_
    refine WL.vS hS hE (runs_plain rfl) (Gives.fld hE rfl fl34_0) rfl ?_; clear hE a; intro a hE
    refine WL.vS hS hE (runs_plain rfl) (Gives.loadB hE 0 rfl rfl rfl ty3) rfl ?_; clear hE a; intro a hE
    refine WL.vS hS hE (runs_plain rfl) (Gives.fld hE rfl fl34_1) rfl ?_; clear hE a; intro a hE
    refine WL.vS hS hE (runs_plain rfl) (Gives.loadB hE 1 rfl rfl rfl ty3) rfl ?_; clear hE a; intro a hE
    refine WL.vS hS hE (runs_plain rfl) (Gives.p hE rfl) rfl ?_; clear hE a; intro a hE
    refine WL.vS hS hE (runs_plain rfl) (Gives.p hE rfl) rfl ?_; clear hE a; intro a hE
    rcases Bool.eq_false_or_eq_true (x1.From == x0.To) with hg59 | hg59
    · replace hq53 := iteT hg59 hq53
      refine WL.vS hS hE (runs_if hE rfl rfl rfl hg59) (Gives.fld hE rfl fl34_2) rfl ?_; clear hE a; intro a hE
      refine WL.vS hS hE (runs_if hE rfl rfl rfl hg59) (Gives.loadB hE 0 rfl rfl rfl ty3) rfl ?_; clear hE a; intro a hE
      refine WL.vS hS hE (runs_if hE rfl rfl rfl hg59) (Gives.fld hE rfl fl34_3) rfl ?_; clear hE a; intro a hE
      refine WL.vS hS hE (runs_if hE rfl rfl rfl hg59) (Gives.loadB hE 1 rfl rfl rfl ty3) rfl ?_; clear hE a; intro a hE
      refine WL.vS hS hE (runs_if hE rfl rfl rfl hg59) (Gives.p hE rfl) rfl ?_; clear hE a; intro a hE
      refine WL.vS hS hE (runs_if hE rfl rfl rfl hg59) (Gives.p hE rfl) rfl ?_; clear hE a; intro a hE
      refine WL.vS hS hE (runs_if hE rfl rfl rfl hg59) (Gives.p hE rfl) rfl ?_; clear hE a; intro a hE
      refine WL.vS hS hE (runs_plain rfl) (Gives.pickT hE rfl hg59 rfl) rfl ?_; clear hE a; intro a hE
      refine WL.vS hS hE (runs_plain rfl) (Gives.p hE rfl) rfl ?_; clear hE a; intro a hE
      refine WL.nil ?_
      subst hK58
      exact ⟨decide (x1.Dep ≥ (w64 (x0.Arr + x2))), hq53, hE.pick _ ⟨rfl, trivial⟩, hS⟩
    · replace hq53 := iteF hg59 hq53
      refine WL.no hE (runs_not hE rfl rfl rfl (by rw [hg59]; decide)) rfl ?_; clear hE a; intro a hE
      refine WL.no hE (runs_not hE rfl rfl rfl (by rw [hg59]; decide)) rfl ?_; clear hE a; intro a hE
      refine WL.no hE (runs_not hE rfl rfl rfl (by rw [hg59]; decide)) rfl ?_; clear hE a; intro a hE
      refine WL.no hE (runs_not hE rfl rfl rfl (by rw [hg59]; decide)) rfl ?_; clear hE a; intro a hE
      refine WL.no hE (runs_not hE rfl rfl rfl (by rw [hg59]; decide)) rfl ?_; clear hE a; intro a hE
      refine WL.no hE (runs_not hE rfl rfl rfl (by rw [hg59]; decide)) rfl ?_; clear hE a; intro a hE
      refine WL.no hE (runs_not hE rfl rfl rfl (by rw [hg59]; decide)) rfl ?_; clear hE a; intro a hE
      refine WL.vS hS hE (runs_plain rfl) (Gives.pickF hE rfl hg59 rfl) rfl ?_; clear hE a; intro a hE
      refine WL.vS hS hE (runs_plain rfl) (Gives.p hE rfl) rfl ?_; clear hE a; intro a hE
      refine WL.nil ?_
      subst hK58
      exact ⟨false, hq53, hE.pick _ ⟨rfl, trivial⟩, hS⟩
  · clear hE hS a w; rintro a w ⟨q57, rfl, hE, hS⟩
    refine W.ret ?_
    refine finG (fn := Try.f17) (rs := [.tmp 6]) (vs := [_]) hE rfl ⟨rfl, trivial⟩ ?_
    subst hr
    replace hS := hS.tail
    replace hS := hS.tail
    exact ⟨rfl, hS⟩
end Go.Proofs.Ytheolnmeelgmeaa
