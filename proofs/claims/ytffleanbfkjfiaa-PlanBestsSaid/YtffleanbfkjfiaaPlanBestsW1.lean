/- The walks of the functions that PlanBests reaches: each call comes to what its mirror says. The conditions are those of each contract. -/
import Derived.Test.YtffleanbfkjfiaaProg
import Derived.Test.YtffleanbfkjfiaaPlanBestsM
import Derived.Test.YtffleanbfkjfiaaFpMore
namespace Go.Proofs.Ytffleanbfkjfiaa
open Go Go.Fp
theorem an116 : arN Try.prog 116 8 8 = true := by kernel_rfl
theorem an81 : arN Try.prog 81 8 1 = true := by kernel_rfl
theorem ap118 : apOk Try.prog 118 87 1 = true := by kernel_rfl
theorem ap22 : apOk Try.prog 22 37 5 = true := by kernel_rfl
theorem ap29 : apOk Try.prog 29 3 1 = true := by kernel_rfl
theorem ap71 : apOk Try.prog 71 4 1 = true := by kernel_rfl
theorem ap87 : apOk Try.prog 87 29 1 = true := by kernel_rfl
theorem bd10 : bodied Try.prog 10 = true := by kernel_rfl
theorem bd11 : bodied Try.prog 11 = true := by kernel_rfl
theorem bd15 : bodied Try.prog 15 = true := by kernel_rfl
theorem bd16 : bodied Try.prog 16 = true := by kernel_rfl
theorem bd17 : bodied Try.prog 17 = true := by kernel_rfl
theorem bd18 : bodied Try.prog 18 = true := by kernel_rfl
theorem bd19 : bodied Try.prog 19 = true := by kernel_rfl
theorem bd21 : bodied Try.prog 21 = true := by kernel_rfl
theorem bd24 : bodied Try.prog 24 = true := by kernel_rfl
theorem bd25 : bodied Try.prog 25 = true := by kernel_rfl
theorem bd26 : bodied Try.prog 26 = true := by kernel_rfl
theorem bd35 : bodied Try.prog 35 = true := by kernel_rfl
theorem bd36 : bodied Try.prog 36 = true := by kernel_rfl
theorem bd39 : bodied Try.prog 39 = true := by kernel_rfl
theorem bd42 : bodied Try.prog 42 = true := by kernel_rfl
theorem bd43 : bodied Try.prog 43 = true := by kernel_rfl
theorem bd46 : bodied Try.prog 46 = true := by kernel_rfl
theorem bd48 : bodied Try.prog 48 = true := by kernel_rfl
theorem bd49 : bodied Try.prog 49 = true := by kernel_rfl
theorem bd50 : bodied Try.prog 50 = true := by kernel_rfl
theorem bd51 : bodied Try.prog 51 = true := by kernel_rfl
theorem bd52 : bodied Try.prog 52 = true := by kernel_rfl
theorem bd53 : bodied Try.prog 53 = true := by kernel_rfl
theorem bd54 : bodied Try.prog 54 = true := by kernel_rfl
theorem bd55 : bodied Try.prog 55 = true := by kernel_rfl
theorem bd56 : bodied Try.prog 56 = true := by kernel_rfl
theorem bd57 : bodied Try.prog 57 = true := by kernel_rfl
theorem bd58 : bodied Try.prog 58 = true := by kernel_rfl
theorem bd59 : bodied Try.prog 59 = true := by kernel_rfl
theorem bd60 : bodied Try.prog 60 = true := by kernel_rfl
theorem bd61 : bodied Try.prog 61 = true := by kernel_rfl
theorem bd62 : bodied Try.prog 62 = true := by kernel_rfl
theorem bd67 : bodied Try.prog 67 = true := by kernel_rfl
theorem bd70 : bodied Try.prog 70 = true := by kernel_rfl
theorem bd71 : bodied Try.prog 71 = true := by kernel_rfl
theorem bd72 : bodied Try.prog 72 = true := by kernel_rfl
theorem bd77 : bodied Try.prog 77 = true := by kernel_rfl
theorem bd79 : bodied Try.prog 79 = true := by kernel_rfl
theorem bd80 : bodied Try.prog 80 = true := by kernel_rfl
theorem bd81 : bodied Try.prog 81 = true := by kernel_rfl
theorem bd82 : bodied Try.prog 82 = true := by kernel_rfl
theorem bd83 : bodied Try.prog 83 = true := by kernel_rfl
theorem bd84 : bodied Try.prog 84 = true := by kernel_rfl
theorem bd87 : bodied Try.prog 87 = true := by kernel_rfl
theorem bd89 : bodied Try.prog 89 = true := by kernel_rfl
theorem bd9 : bodied Try.prog 9 = true := by kernel_rfl
theorem bd90 : bodied Try.prog 90 = true := by kernel_rfl
theorem bd91 : bodied Try.prog 91 = true := by kernel_rfl
theorem cl22 : clOk Try.prog 22 37 5 = true := by kernel_rfl
theorem cp29 : cpOk Try.prog 29 3 1 = true := by kernel_rfl
theorem cp71 : cpOk Try.prog 71 4 1 = true := by kernel_rfl
theorem fl24_0 : fldOk Try.prog 24 0 0 = true := by kernel_rfl
theorem fl24_1 : fldOk Try.prog 24 1 1 = true := by kernel_rfl
theorem fl24_2 : fldOk Try.prog 24 2 2 = true := by kernel_rfl
theorem fl37_0 : fldOk Try.prog 37 0 0 = true := by kernel_rfl
theorem fl37_1 : fldOk Try.prog 37 1 1 = true := by kernel_rfl
theorem fl37_2 : fldOk Try.prog 37 2 2 = true := by kernel_rfl
theorem fl37_3 : fldOk Try.prog 37 3 3 = true := by kernel_rfl
theorem fl37_4 : fldOk Try.prog 37 4 4 = true := by kernel_rfl
theorem fl80_0 : fldOk Try.prog 80 0 0 = true := by kernel_rfl
theorem fl80_1 : fldOk Try.prog 80 1 3 = true := by kernel_rfl
theorem fl80_2 : fldOk Try.prog 80 2 4 = true := by kernel_rfl
theorem fl80_3 : fldOk Try.prog 80 3 5 = true := by kernel_rfl
theorem fl80_4 : fldOk Try.prog 80 4 6 = true := by kernel_rfl
theorem hu110 : (Try.prog.underlying 110).isSome = true := by kernel_rfl
theorem hu3 : (Try.prog.underlying 3).isSome = true := by kernel_rfl
theorem isl22 : isSl Try.prog 22 = true := by kernel_rfl
theorem isl29 : isSl Try.prog 29 = true := by kernel_rfl
theorem mixed : Try.prog.follows .mixedOrders = true := by kernel_rfl
theorem sl118 : slOk Try.prog 118 87 1 = true := by kernel_rfl
theorem sl22 : slOk Try.prog 22 37 5 = true := by kernel_rfl
theorem sl29 : slOk Try.prog 29 3 1 = true := by kernel_rfl
theorem sl71 : slOk Try.prog 71 4 1 = true := by kernel_rfl
theorem sl87 : slOk Try.prog 87 29 1 = true := by kernel_rfl
theorem ty116 : tyOk Try.prog 116 true 64 = true := by kernel_rfl
theorem ty22 : tyOk Try.prog 22 false 1 = true := by kernel_rfl
theorem ty24 : tyOk Try.prog 24 true 3 = true := by kernel_rfl
theorem ty29 : tyOk Try.prog 29 false 1 = true := by kernel_rfl
theorem ty3 : tyOk Try.prog 3 false 1 = true := by kernel_rfl
theorem ty37 : tyOk Try.prog 37 true 5 = true := by kernel_rfl
theorem ty4 : tyOk Try.prog 4 false 1 = true := by kernel_rfl
theorem ty71 : tyOk Try.prog 71 false 1 = true := by kernel_rfl
theorem ty74 : tyOk Try.prog 74 false 1 = true := by kernel_rfl
theorem ty76 : tyOk Try.prog 76 false 1 = true := by kernel_rfl
theorem ty77 : tyOk Try.prog 77 false 1 = true := by kernel_rfl
theorem ty78 : tyOk Try.prog 78 false 1 = true := by kernel_rfl
theorem ty87 : tyOk Try.prog 87 false 1 = true := by kernel_rfl
theorem ty93 : tyOk Try.prog 93 false 1 = true := by kernel_rfl
theorem ui110 : Try.prog.underlying 110 = some (.int .u64) := by kernel_rfl
theorem ui3 : Try.prog.underlying 3 = some (.int .i64) := by kernel_rfl
theorem zr116 : (Try.prog.info? 116).bind (fun i => i.zero.map fun z => z.cells.toList) = some [.int .i64 0, .int .i64 0, .int .i64 0, .int .i64 0, .int .i64 0, .int .i64 0, .int .i64 0, .int .i64 0, .int .i64 0, .int .i64 0, .int .i64 0, .int .i64 0, .int .i64 0, .int .i64 0, .int .i64 0, .int .i64 0, .int .i64 0, .int .i64 0, .int .i64 0, .int .i64 0, .int .i64 0, .int .i64 0, .int .i64 0, .int .i64 0, .int .i64 0, .int .i64 0, .int .i64 0, .int .i64 0, .int .i64 0, .int .i64 0, .int .i64 0, .int .i64 0, .int .i64 0, .int .i64 0, .int .i64 0, .int .i64 0, .int .i64 0, .int .i64 0, .int .i64 0, .int .i64 0, .int .i64 0, .int .i64 0, .int .i64 0, .int .i64 0, .int .i64 0, .int .i64 0, .int .i64 0, .int .i64 0, .int .i64 0, .int .i64 0, .int .i64 0, .int .i64 0, .int .i64 0, .int .i64 0, .int .i64 0, .int .i64 0, .int .i64 0, .int .i64 0, .int .i64 0, .int .i64 0, .int .i64 0, .int .i64 0, .int .i64 0, .int .i64 0] := by kernel_rfl
theorem zr24 : (Try.prog.info? 24).bind (fun i => i.zero.map fun z => z.cells.toList) = some [.int .i64 0, .int .i64 0, .slice none 0 0] := by kernel_rfl
theorem zr29 : (Try.prog.info? 29).bind (fun i => i.zero.map fun z => z.cells.toList) = some [.slice none 0 0] := by kernel_rfl
theorem zr3 : (Try.prog.info? 3).bind (fun i => i.zero.map fun z => z.cells.toList) = some [.int .i64 0] := by kernel_rfl
theorem zr37 : (Try.prog.info? 37).bind (fun i => i.zero.map fun z => z.cells.toList) = some [.int .i64 0, .int .i64 0, .int .i64 0, .int .i64 0, .int .i64 0] := by kernel_rfl
theorem zr4 : (Try.prog.info? 4).bind (fun i => i.zero.map fun z => z.cells.toList) = some [.bool false] := by kernel_rfl
theorem zr74 : (Try.prog.info? 74).bind (fun i => i.zero.map fun z => z.cells.toList) = some [.pointer none] := by kernel_rfl
theorem zr93 : (Try.prog.info? 93).bind (fun i => i.zero.map fun z => z.cells.toList) = some [.nilFunc] := by kernel_rfl
set_option maxHeartbeats 8000000 in
theorem Planwithin_ok  {w : World} {s : Sg} {R : List HP} {x0 : Int} {x1 : Int} {x2 : Int} (hS : St w s (R))  {r : Bool} (hr : Planwithin x0 x1 x2 = r) :
    Calls Try.prog 35 [.int .i64 x0, .int .i64 x1, .int .i64 x2].toArray w (fun e w => e = .returned (.bool r) ∧ St w s (R)) := by
  refine enter Try.func35 rfl rfl rfl fun a hE => ?_
  rw [Planwithin] at hr
  refine W.seq ?_
  refine W.region ?_
  refine WL.vS hS hE (runs_plain rfl) (Gives.p hE rfl) rfl ?_; clear hE a; intro a hE
  refine WL.nil ?_
  refine W.seq ?_
  obtain ⟨q52, hq51, hr⟩ := bndS hr
  refine W.cut (fun a w => ∃ (q55 : Bool), q55 = q52 ∧ Rep a 15 [(6, .bool q55)] ∧ St w s (R)) ?_ ?_
  · refine W.gen fun K56 hK56 => ?_
    refine W.region ?_
    refine WL.vS hS hE (runs_plain rfl) (Gives.p hE rfl) rfl ?_; clear hE a; intro a hE
    refine WL.vS hS hE (runs_plain rfl) (Gives.p hE rfl) rfl ?_; clear hE a; intro a hE
    refine WL.vS hS hE (runs_plain rfl) (Gives.p hE rfl) rfl ?_; clear hE a; intro a hE
    refine WL.vS hS hE (runs_plain rfl) (Gives.p hE rfl) rfl ?_; clear hE a; intro a hE
    rcases Bool.eq_false_or_eq_true (decide (x0 ≥ x1)) with hg57 | hg57
    · replace hq51 := iteT hg57 hq51
      refine WL.vS hS hE (runs_if hE rfl rfl rfl hg57) (Gives.p hE rfl) rfl ?_; clear hE a; intro a hE
      refine WL.vS hS hE (runs_if hE rfl rfl rfl hg57) (Gives.p hE rfl) rfl ?_; clear hE a; intro a hE
      refine WL.vS hS hE (runs_if hE rfl rfl rfl hg57) (Gives.p hE rfl) rfl ?_; clear hE a; intro a hE
      refine WL.vS hS hE (runs_plain rfl) (Gives.pickT hE rfl hg57 rfl) rfl ?_; clear hE a; intro a hE
      refine WL.vS hS hE (runs_plain rfl) (Gives.p hE rfl) rfl ?_; clear hE a; intro a hE
      refine WL.nil ?_
      subst hK56
      exact ⟨decide (x0 ≤ x2), hq51, hE.pick _ ⟨rfl, trivial⟩, hS⟩
    · replace hq51 := iteF hg57 hq51
      refine WL.no hE (runs_not hE rfl rfl rfl (by rw [hg57]; decide)) rfl ?_; clear hE a; intro a hE
      refine WL.no hE (runs_not hE rfl rfl rfl (by rw [hg57]; decide)) rfl ?_; clear hE a; intro a hE
      refine WL.no hE (runs_not hE rfl rfl rfl (by rw [hg57]; decide)) rfl ?_; clear hE a; intro a hE
      refine WL.vS hS hE (runs_plain rfl) (Gives.pickF hE rfl hg57 rfl) rfl ?_; clear hE a; intro a hE
      refine WL.vS hS hE (runs_plain rfl) (Gives.p hE rfl) rfl ?_; clear hE a; intro a hE
      refine WL.nil ?_
      subst hK56
      exact ⟨false, hq51, hE.pick _ ⟨rfl, trivial⟩, hS⟩
  · clear hE hS a w; rintro a w ⟨q55, rfl, hE, hS⟩
    refine W.ret ?_
    refine finG (fn := Try.f35) (rs := [.tmp 6]) (vs := [_]) hE rfl ⟨rfl, trivial⟩ ?_
    subst hr
    exact ⟨rfl, hS⟩
set_option maxHeartbeats 8000000 in
theorem PlanCheckPeriodic_ok  {w : World} {s : Sg} {R : List HP} {x0 : PlanPeriodic} {a0_0 : Option Addr} {c0_0 : Nat} (hS : St w s (R)) (h0_0 : Sl 5 RPlanRule s a0_0 c0_0 x0.Rules) {r : Int} (hr : PlanCheckPeriodic x0 = r) :
    Calls Try.prog 10 [.agg [.int .i64 x0.Period, .int .i64 x0.Events, .slice a0_0 x0.Rules.length c0_0].toArray].toArray w (fun e w => e = .returned (.int .i64 r) ∧ St w s (R)) := by
  refine enter Try.func10 rfl rfl rfl fun a hE => ?_
  rw [PlanCheckPeriodic] at hr
  refine W.seq ?_
  refine W.region ?_
  refine WL.box hE hS (runs_plain rfl) rfl rfl rfl ?_; clear hE hS a w; intro b51 a w hE hS
  refine WL.vS hS hE (runs_plain rfl) (Gives.p hE rfl) rfl ?_; clear hE a; intro a hE
  refine WL.nil ?_
  refine W.seq ?_
  refine W.block ?_
  refine W.seq ?_
  obtain ⟨q53, hq52, hr⟩ := bndS hr
  refine W.cut (fun a w => ∃ (q56 : Bool), q56 = q53 ∧ Rep a 77 [(1, .pointer (some ⟨b51, 0, none⟩)), (5, .bool q56)] ∧ St w s (pt b51 (.cells #[.int .i64 x0.Period, .int .i64 x0.Events, .slice a0_0 x0.Rules.length c0_0] 24 (0, 0)) :: R)) ?_ ?_
  · refine W.gen fun K57 hK57 => ?_
    refine W.region ?_
    refine WL.vS hS hE (runs_plain rfl) (Gives.fld hE rfl fl24_0) rfl ?_; clear hE a; intro a hE
    refine WL.vS hS hE (runs_plain rfl) (Gives.loadB hE 0 rfl rfl rfl ty3) rfl ?_; clear hE a; intro a hE
    refine WL.fnq hE (Planwithin_ok hS  rfl (r := Planwithin x0.Period 2 3600)) (runs_plain rfl) bd35 rfl rfl rfl ?_
    clear hE hS; rintro e w ⟨rfl, hS⟩; refine ⟨_, rfl, ?_⟩; clear a; intro a hE
    refine WL.vS hS hE (runs_plain rfl) (Gives.p hE rfl) rfl ?_; clear hE a; intro a hE
    refine WL.vS hS hE (runs_plain rfl) (Gives.p hE rfl) rfl ?_; clear hE a; intro a hE
    rcases Bool.eq_false_or_eq_true (!(Planwithin x0.Period 2 3600)) with hg58 | hg58
    · replace hq52 := iteT hg58 hq52
      refine WL.no hE (runs_not hE rfl rfl rfl (by rw [hg58]; decide)) rfl ?_; clear hE a; intro a hE
      refine WL.no hE (runs_not hE rfl rfl rfl (by rw [hg58]; decide)) rfl ?_; clear hE a; intro a hE
      refine WL.no hE (runs_not hE rfl rfl rfl (by rw [hg58]; decide)) rfl ?_; clear hE a; intro a hE
      refine WL.no hE (runs_not hE rfl rfl rfl (by rw [hg58]; decide)) rfl ?_; clear hE a; intro a hE
      refine WL.vS hS hE (runs_plain rfl) (Gives.pickT hE rfl hg58 rfl) rfl ?_; clear hE a; intro a hE
      refine WL.vS hS hE (runs_plain rfl) (Gives.p hE rfl) rfl ?_; clear hE a; intro a hE
      refine WL.nil ?_
      subst hK57
      exact ⟨true, hq52, hE.pick _ ⟨rfl, rfl, trivial⟩, hS⟩
    · replace hq52 := iteF hg58 hq52
      refine WL.vS hS hE (runs_if hE rfl rfl rfl hg58) (Gives.fld hE rfl fl24_1) rfl ?_; clear hE a; intro a hE
      refine WL.vS hS hE (runs_if hE rfl rfl rfl hg58) (Gives.loadB hE 0 rfl rfl rfl ty3) rfl ?_; clear hE a; intro a hE
      refine WL.fnq hE (Planwithin_ok hS  rfl (r := Planwithin x0.Events 1 8)) (runs_if hE rfl rfl rfl hg58) bd35 rfl rfl rfl ?_
      clear hE hS; rintro e w ⟨rfl, hS⟩; refine ⟨_, rfl, ?_⟩; clear a; intro a hE
      refine WL.vS hS hE (runs_if hE rfl rfl rfl hg58) (Gives.p hE rfl) rfl ?_; clear hE a; intro a hE
      refine WL.vS hS hE (runs_plain rfl) (Gives.pickF hE rfl hg58 rfl) rfl ?_; clear hE a; intro a hE
      refine WL.vS hS hE (runs_plain rfl) (Gives.p hE rfl) rfl ?_; clear hE a; intro a hE
      refine WL.nil ?_
      subst hK57
      exact ⟨!(Planwithin x0.Events 1 8), hq52, hE.pick _ ⟨rfl, rfl, trivial⟩, hS⟩
  · clear hE hS a w; rintro a w ⟨q56, rfl, hE, hS⟩
    refine W.cond hE rfl (fun hc59 => ?_) (fun hc59 => ?_)
    · replace hr := iteT hc59 hr
      refine W.seq ?_
      refine W.region ?_
      refine WL.vS hS hE (runs_plain rfl) (Gives.p hE rfl) rfl ?_; clear hE a; intro a hE
      refine WL.nil ?_
      refine W.ret ?_
      refine finG (fn := Try.f10) (rs := [.tmp 2]) (vs := [_]) hE rfl ⟨rfl, trivial⟩ ?_
      subst hr
      replace hS := hS.tail
      exact ⟨rfl, hS⟩
    · replace hr := iteF hc59 hr
      refine W.seq ?_
      refine W.region ?_
      refine WL.vS hS hE (runs_plain rfl) (Gives.fld hE rfl fl24_2) rfl ?_; clear hE a; intro a hE
      refine WL.vS hS hE (runs_plain rfl) (Gives.loadB hE 0 rfl rfl rfl ty22) rfl ?_; clear hE a; intro a hE
      refine WL.vS hS hE (runs_plain rfl) (Gives.len hE rfl sl22) rfl ?_; clear hE a; intro a hE
      refine WL.vS hS hE (runs_plain rfl) (Gives.p hE rfl) rfl ?_; clear hE a; intro a hE
      refine WL.vS hS hE (runs_plain rfl) (Gives.p hE rfl) rfl ?_; clear hE a; intro a hE
      refine WL.nil ?_
      refine W.cond hE rfl (fun hc60 => ?_) (fun hc60 => ?_)
      · replace hr := iteT hc60 hr
        refine W.seq ?_
        refine W.region ?_
        refine WL.vS hS hE (runs_plain rfl) (Gives.p hE rfl) rfl ?_; clear hE a; intro a hE
        refine WL.nil ?_
        refine W.ret ?_
        refine finG (fn := Try.f10) (rs := [.tmp 2]) (vs := [_]) hE rfl ⟨rfl, trivial⟩ ?_
        subst hr
        replace hS := hS.tail
        exact ⟨rfl, hS⟩
      · replace hr := iteF hc60 hr
        refine W.skip ?_
        refine W.seq ?_
        refine W.seq ?_
        refine W.region ?_
        refine WL.vS hS hE (runs_plain rfl) (Gives.fld hE rfl fl24_2) rfl ?_; clear hE a; intro a hE
        refine WL.vS hS hE (runs_plain rfl) (Gives.loadB hE 0 rfl rfl rfl ty22) rfl ?_; clear hE a; intro a hE
        refine WL.vS hS hE (runs_plain rfl) (Gives.len hE rfl sl22) rfl ?_; clear hE a; intro a hE
        refine WL.vS hS hE (runs_plain rfl) (Gives.p hE rfl) rfl ?_; clear hE a; intro a hE
        refine WL.nil ?_
        obtain ⟨q62, hq61, hr⟩ := bndS hr
        refine W.cut (fun a w => (.next ()) = q62 ∧ Rep a 77 [] ∧ St w s (pt b51 (.cells #[.int .i64 x0.Period, .int .i64 x0.Events, .slice a0_0 x0.Rules.length c0_0] 24 (0, 0)) :: R)) ?_ ?_
        · refine W.block ?_
          refine W.loop (fun m a w => ∃ (rest65 : List PlanRule) (k63 : Nat), rest65.length = m ∧ x0.Rules.drop k63 = rest65 ∧ PlanCheckPeriodic.loop1 x0 rest65 = q62 ∧ Rep a 77 [(1, .pointer (some ⟨b51, 0, none⟩)), (22, .slice a0_0 x0.Rules.length c0_0), (23, .int .i64 ((x0.Rules).length : Int)), (24, .int .i64 ((k63 : Nat) : Int))] ∧ St w s (pt b51 (.cells #[.int .i64 x0.Period, .int .i64 x0.Events, .slice a0_0 x0.Rules.length c0_0] 24 (0, 0)) :: R)) (m := x0.Rules.length) ⟨x0.Rules, 0, rfl, rfl, hq61, hE.pick _ ⟨rfl, rfl, rfl, rfl, trivial⟩, hS⟩ ?_
          clear hE hS a w hq61; rintro m69 a w ⟨rest65, k63, rfl, hd66, hq61, hE, hS⟩
          refine W.gen fun K72 hK72 => ?_
          rcases rest65 with _ | ⟨x64, rest65⟩
          · have hlt67 := drop_nil hd66
            refine W.seq ?_
            refine W.region ?_
            refine WL.vS hS hE (runs_plain rfl) (Gives.p hE rfl) rfl ?_; clear hE a; intro a hE
            refine WL.nil ?_
            refine W.seq ?_
            refine W.condF hE rfl (decide_eq_false (by omega)) ?_
            subst hK72
            refine W.exit rfl ?_
            exact ⟨hq61, hE.pick _ trivial, hS⟩
          · obtain ⟨hlt67, hx68, hd66⟩ := drop_cons hd66
            rw [PlanCheckPeriodic.loop1] at hq61
            refine W.seq ?_
            refine W.region ?_
            refine WL.vS hS hE (runs_plain rfl) (Gives.p hE rfl) rfl ?_; clear hE a; intro a hE
            refine WL.nil ?_
            refine W.seq ?_
            refine W.condT hE rfl (decide_eq_true (by omega)) ?_
            refine W.skip ?_
            refine W.seq ?_
            refine W.block ?_
            refine W.seq ?_
            refine W.region ?_
            obtain ⟨cs73, hl74, hR75, hat76⟩ := h0_0.at hx68
            subst hR75
            refine WL.vS hS hE (runs_plain rfl) (Gives.idx hE k63 rfl rfl sl22 rfl hlt67 (h0_0.aok hlt67)) rfl ?_; clear hE a; intro a hE
            refine WL.vS hS hE (runs_plain rfl) (Gives.loadA hE rfl (fun w h => hat76 w _ h) ty37) rfl ?_; clear hE a; intro a hE
            refine WL.alloc hE hS (runs_plain rfl) zr37 rfl ?_; clear hE hS a w; intro b77 a w hE hS
            refine WL.storeI hE hS 0 rfl (PlanRule.cells x64) (runs_plain rfl) rfl rfl rfl ty37 rfl rfl rfl rfl ?_; clear hE hS a w; intro a w hE hS
            refine WL.nil ?_
            refine W.block ?_
            refine W.seq ?_
            obtain ⟨q79, hq78, hq61⟩ := bndS hq61
            refine W.cut (fun a w => ∃ (q82 : Bool), q82 = q79 ∧ Rep a 77 [(1, .pointer (some ⟨b51, 0, none⟩)), (4, .pointer (some ⟨b77, 0, none⟩)), (22, .slice a0_0 x0.Rules.length c0_0), (23, .int .i64 ((x0.Rules).length : Int)), (24, .int .i64 ((k63 : Nat) : Int)), (28, .bool q82)] ∧ St w s (pt b77 (.cells (PlanRule.cells x64).toArray 37 (0, 0)) :: pt b51 (.cells #[.int .i64 x0.Period, .int .i64 x0.Events, .slice a0_0 x0.Rules.length c0_0] 24 (0, 0)) :: R)) ?_ ?_
            · refine W.gen fun K83 hK83 => ?_
              refine W.region ?_
              refine WL.vS hS hE (runs_plain rfl) (Gives.fld hE rfl fl37_0) rfl ?_; clear hE a; intro a hE
              refine WL.vS hS hE (runs_plain rfl) (Gives.loadB hE 0 rfl rfl rfl ty3) rfl ?_; clear hE a; intro a hE
              refine WL.vS hS hE (runs_plain rfl) (Gives.fld hE rfl fl24_1) rfl ?_; clear hE a; intro a hE
              refine WL.vS hS hE (runs_plain rfl) (Gives.loadB hE 1 rfl rfl rfl ty3) rfl ?_; clear hE a; intro a hE
              refine WL.vS hS hE (runs_plain rfl) (Gives.p hE rfl) rfl ?_; clear hE a; intro a hE
              refine WL.fnq hE (Planwithin_ok hS  rfl (r := Planwithin x64.From 0 (w64 (x0.Events - 1)))) (runs_plain rfl) bd35 rfl rfl rfl ?_
              clear hE hS; rintro e w ⟨rfl, hS⟩; refine ⟨_, rfl, ?_⟩; clear a; intro a hE
              refine WL.vS hS hE (runs_plain rfl) (Gives.p hE rfl) rfl ?_; clear hE a; intro a hE
              refine WL.vS hS hE (runs_plain rfl) (Gives.p hE rfl) rfl ?_; clear hE a; intro a hE
              rcases Bool.eq_false_or_eq_true (!(Planwithin x64.From 0 (w64 (x0.Events - 1)))) with hg84 | hg84
              · replace hq78 := iteT hg84 hq78
                refine WL.no hE (runs_not hE rfl rfl rfl (by rw [hg84]; decide)) rfl ?_; clear hE a; intro a hE
                refine WL.no hE (runs_not hE rfl rfl rfl (by rw [hg84]; decide)) rfl ?_; clear hE a; intro a hE
                refine WL.no hE (runs_not hE rfl rfl rfl (by rw [hg84]; decide)) rfl ?_; clear hE a; intro a hE
                refine WL.no hE (runs_not hE rfl rfl rfl (by rw [hg84]; decide)) rfl ?_; clear hE a; intro a hE
                refine WL.no hE (runs_not hE rfl rfl rfl (by rw [hg84]; decide)) rfl ?_; clear hE a; intro a hE
                refine WL.no hE (runs_not hE rfl rfl rfl (by rw [hg84]; decide)) rfl ?_; clear hE a; intro a hE
                refine WL.no hE (runs_not hE rfl rfl rfl (by rw [hg84]; decide)) rfl ?_; clear hE a; intro a hE
                refine WL.vS hS hE (runs_plain rfl) (Gives.pickT hE rfl hg84 rfl) rfl ?_; clear hE a; intro a hE
                refine WL.vS hS hE (runs_plain rfl) (Gives.p hE rfl) rfl ?_; clear hE a; intro a hE
                refine WL.nil ?_
                subst hK83
                exact ⟨true, hq78, hE.pick _ ⟨rfl, rfl, rfl, rfl, rfl, rfl, trivial⟩, hS⟩
              · replace hq78 := iteF hg84 hq78
                refine WL.vS hS hE (runs_if hE rfl rfl rfl hg84) (Gives.fld hE rfl fl37_1) rfl ?_; clear hE a; intro a hE
                refine WL.vS hS hE (runs_if hE rfl rfl rfl hg84) (Gives.loadB hE 0 rfl rfl rfl ty3) rfl ?_; clear hE a; intro a hE
                refine WL.vS hS hE (runs_if hE rfl rfl rfl hg84) (Gives.fld hE rfl fl24_1) rfl ?_; clear hE a; intro a hE
                refine WL.vS hS hE (runs_if hE rfl rfl rfl hg84) (Gives.loadB hE 1 rfl rfl rfl ty3) rfl ?_; clear hE a; intro a hE
                refine WL.vS hS hE (runs_if hE rfl rfl rfl hg84) (Gives.p hE rfl) rfl ?_; clear hE a; intro a hE
                refine WL.fnq hE (Planwithin_ok hS  rfl (r := Planwithin x64.To 0 (w64 (x0.Events - 1)))) (runs_if hE rfl rfl rfl hg84) bd35 rfl rfl rfl ?_
                clear hE hS; rintro e w ⟨rfl, hS⟩; refine ⟨_, rfl, ?_⟩; clear a; intro a hE
                refine WL.vS hS hE (runs_if hE rfl rfl rfl hg84) (Gives.p hE rfl) rfl ?_; clear hE a; intro a hE
                refine WL.vS hS hE (runs_plain rfl) (Gives.pickF hE rfl hg84 rfl) rfl ?_; clear hE a; intro a hE
                refine WL.vS hS hE (runs_plain rfl) (Gives.p hE rfl) rfl ?_; clear hE a; intro a hE
                refine WL.nil ?_
                subst hK83
                exact ⟨!(Planwithin x64.To 0 (w64 (x0.Events - 1))), hq78, hE.pick _ ⟨rfl, rfl, rfl, rfl, rfl, rfl, trivial⟩, hS⟩
            · clear hE hS a w; rintro a w ⟨q82, rfl, hE, hS⟩
              refine W.cond hE rfl (fun hc85 => ?_) (fun hc85 => ?_)
              · replace hq61 := iteT hc85 hq61
                refine W.seq ?_
                refine W.region ?_
                refine WL.vS hS hE (runs_plain rfl) (Gives.p hE rfl) rfl ?_; clear hE a; intro a hE
                refine WL.nil ?_
                refine W.ret ?_
                subst hK72
                rw [← hq61] at hr
                dsimp only at hr
                refine finG (fn := Try.f10) (rs := [.tmp 2]) (vs := [_]) hE rfl ⟨rfl, trivial⟩ ?_
                subst hr
                replace hS := hS.tail
                replace hS := hS.tail
                exact ⟨rfl, hS⟩
              · replace hq61 := iteF hc85 hq61
                refine W.seq ?_
                refine W.region ?_
                refine WL.vS hS hE (runs_plain rfl) (Gives.fld hE rfl fl37_0) rfl ?_; clear hE a; intro a hE
                refine WL.vS hS hE (runs_plain rfl) (Gives.loadB hE 0 rfl rfl rfl ty3) rfl ?_; clear hE a; intro a hE
                refine WL.vS hS hE (runs_plain rfl) (Gives.fld hE rfl fl37_1) rfl ?_; clear hE a; intro a hE
                refine WL.vS hS hE (runs_plain rfl) (Gives.loadB hE 0 rfl rfl rfl ty3) rfl ?_; clear hE a; intro a hE
                refine WL.vS hS hE (runs_plain rfl) (Gives.p hE rfl) rfl ?_; clear hE a; intro a hE
                refine WL.vS hS hE (runs_plain rfl) (Gives.p hE rfl) rfl ?_; clear hE a; intro a hE
                refine WL.nil ?_
                refine W.cond hE rfl (fun hc86 => ?_) (fun hc86 => ?_)
                · replace hq61 := iteT hc86 hq61
                  refine W.seq ?_
                  refine W.region ?_
                  refine WL.vS hS hE (runs_plain rfl) (Gives.p hE rfl) rfl ?_; clear hE a; intro a hE
                  refine WL.nil ?_
                  refine W.ret ?_
                  subst hK72
                  rw [← hq61] at hr
                  dsimp only at hr
                  refine finG (fn := Try.f10) (rs := [.tmp 2]) (vs := [_]) hE rfl ⟨rfl, trivial⟩ ?_
                  subst hr
                  replace hS := hS.tail
                  replace hS := hS.tail
                  exact ⟨rfl, hS⟩
                · replace hq61 := iteF hc86 hq61
                  refine W.seq ?_
                  obtain ⟨q88, hq87, hq61⟩ := bndS hq61
                  refine W.cut (fun a w => ∃ (q91 : Bool), q91 = q88 ∧ Rep a 77 [(1, .pointer (some ⟨b51, 0, none⟩)), (22, .slice a0_0 x0.Rules.length c0_0), (23, .int .i64 ((x0.Rules).length : Int)), (24, .int .i64 ((k63 : Nat) : Int)), (51, .bool q91)] ∧ St w s (pt b77 (.cells (PlanRule.cells x64).toArray 37 (0, 0)) :: pt b51 (.cells #[.int .i64 x0.Period, .int .i64 x0.Events, .slice a0_0 x0.Rules.length c0_0] 24 (0, 0)) :: R)) ?_ ?_
                  · refine W.gen fun K92 hK92 => ?_
                    refine W.region ?_
                    refine WL.vS hS hE (runs_plain rfl) (Gives.fld hE rfl fl37_2) rfl ?_; clear hE a; intro a hE
                    refine WL.vS hS hE (runs_plain rfl) (Gives.loadB hE 0 rfl rfl rfl ty3) rfl ?_; clear hE a; intro a hE
                    refine WL.fnq hE (Planwithin_ok hS  rfl (r := Planwithin x64.Min 0 3600)) (runs_plain rfl) bd35 rfl rfl rfl ?_
                    clear hE hS; rintro e w ⟨rfl, hS⟩; refine ⟨_, rfl, ?_⟩; clear a; intro a hE
                    refine WL.vS hS hE (runs_plain rfl) (Gives.p hE rfl) rfl ?_; clear hE a; intro a hE
                    refine WL.vS hS hE (runs_plain rfl) (Gives.p hE rfl) rfl ?_; clear hE a; intro a hE
                    rcases Bool.eq_false_or_eq_true (!(Planwithin x64.Min 0 3600)) with hg93 | hg93
                    · replace hq87 := iteT hg93 hq87
                      refine WL.no hE (runs_not hE rfl rfl rfl (by rw [hg93]; decide)) rfl ?_; clear hE a; intro a hE
                      refine WL.no hE (runs_not hE rfl rfl rfl (by rw [hg93]; decide)) rfl ?_; clear hE a; intro a hE
                      refine WL.no hE (runs_not hE rfl rfl rfl (by rw [hg93]; decide)) rfl ?_; clear hE a; intro a hE
                      refine WL.no hE (runs_not hE rfl rfl rfl (by rw [hg93]; decide)) rfl ?_; clear hE a; intro a hE
                      refine WL.no hE (runs_not hE rfl rfl rfl (by rw [hg93]; decide)) rfl ?_; clear hE a; intro a hE
                      refine WL.no hE (runs_not hE rfl rfl rfl (by rw [hg93]; decide)) rfl ?_; clear hE a; intro a hE
                      refine WL.no hE (runs_not hE rfl rfl rfl (by rw [hg93]; decide)) rfl ?_; clear hE a; intro a hE
                      refine WL.no hE (runs_not hE rfl rfl rfl (by rw [hg93]; decide)) rfl ?_; clear hE a; intro a hE
                      refine WL.no hE (runs_not hE rfl rfl rfl (by rw [hg93]; decide)) rfl ?_; clear hE a; intro a hE
                      refine WL.no hE (runs_not hE rfl rfl rfl (by rw [hg93]; decide)) rfl ?_; clear hE a; intro a hE
                      refine WL.no hE (runs_not hE rfl rfl rfl (by rw [hg93]; decide)) rfl ?_; clear hE a; intro a hE
                      refine WL.no hE (runs_not hE rfl rfl rfl (by rw [hg93]; decide)) rfl ?_; clear hE a; intro a hE
                      refine WL.vS hS hE (runs_plain rfl) (Gives.pickT hE rfl hg93 rfl) rfl ?_; clear hE a; intro a hE
                      refine WL.vS hS hE (runs_plain rfl) (Gives.p hE rfl) rfl ?_; clear hE a; intro a hE
                      refine WL.no hE (runs_not hE rfl rfl rfl (by decide)) rfl ?_; clear hE a; intro a hE
                      refine WL.no hE (runs_not hE rfl rfl rfl (by decide)) rfl ?_; clear hE a; intro a hE
                      refine WL.no hE (runs_not hE rfl rfl rfl (by decide)) rfl ?_; clear hE a; intro a hE
                      refine WL.no hE (runs_not hE rfl rfl rfl (by decide)) rfl ?_; clear hE a; intro a hE
                      refine WL.vS hS hE (runs_plain rfl) (Gives.pickT hE rfl rfl rfl) rfl ?_; clear hE a; intro a hE
                      refine WL.vS hS hE (runs_plain rfl) (Gives.p hE rfl) rfl ?_; clear hE a; intro a hE
                      refine WL.nil ?_
                      subst hK92
                      exact ⟨true, hq87, hE.pick _ ⟨rfl, rfl, rfl, rfl, rfl, trivial⟩, hS⟩
                    · replace hq87 := iteF hg93 hq87
                      refine WL.vS hS hE (runs_if hE rfl rfl rfl hg93) (Gives.fld hE rfl fl37_3) rfl ?_; clear hE a; intro a hE
                      refine WL.vS hS hE (runs_if hE rfl rfl rfl hg93) (Gives.loadB hE 0 rfl rfl rfl ty3) rfl ?_; clear hE a; intro a hE
                      refine WL.vS hS hE (runs_if hE rfl rfl rfl hg93) (Gives.fld hE rfl fl37_2) rfl ?_; clear hE a; intro a hE
                      refine WL.vS hS hE (runs_if hE rfl rfl rfl hg93) (Gives.loadB hE 0 rfl rfl rfl ty3) rfl ?_; clear hE a; intro a hE
                      refine WL.vS hS hE (runs_if hE rfl rfl rfl hg93) (Gives.fld hE rfl fl37_2) rfl ?_; clear hE a; intro a hE
                      refine WL.vS hS hE (runs_if hE rfl rfl rfl hg93) (Gives.loadB hE 0 rfl rfl rfl ty3) rfl ?_; clear hE a; intro a hE
                      refine WL.vS hS hE (runs_if hE rfl rfl rfl hg93) (Gives.fld hE rfl fl24_0) rfl ?_; clear hE a; intro a hE
                      refine WL.vS hS hE (runs_if hE rfl rfl rfl hg93) (Gives.loadB hE 1 rfl rfl rfl ty3) rfl ?_; clear hE a; intro a hE
                      refine WL.vS hS hE (runs_if hE rfl rfl rfl hg93) (Gives.p hE rfl) rfl ?_; clear hE a; intro a hE
                      refine WL.vS hS hE (runs_if hE rfl rfl rfl hg93) (Gives.p hE rfl) rfl ?_; clear hE a; intro a hE
                      refine WL.fnq hE (Planwithin_ok hS  rfl (r := Planwithin x64.Max x64.Min (w64 ((w64 (x64.Min + x0.Period)) - 1)))) (runs_if hE rfl rfl rfl hg93) bd35 rfl rfl rfl ?_
                      clear hE hS; rintro e w ⟨rfl, hS⟩; refine ⟨_, rfl, ?_⟩; clear a; intro a hE
                      refine WL.vS hS hE (runs_if hE rfl rfl rfl hg93) (Gives.p hE rfl) rfl ?_; clear hE a; intro a hE
                      refine WL.vS hS hE (runs_plain rfl) (Gives.pickF hE rfl hg93 rfl) rfl ?_; clear hE a; intro a hE
                      refine WL.vS hS hE (runs_plain rfl) (Gives.p hE rfl) rfl ?_; clear hE a; intro a hE
                      rcases Bool.eq_false_or_eq_true (!(Planwithin x64.Max x64.Min (w64 ((w64 (x64.Min + x0.Period)) - 1)))) with hg94 | hg94
                      · replace hq87 := iteT hg94 hq87
                        refine WL.no hE (runs_not hE rfl rfl rfl (by rw [hg94]; decide)) rfl ?_; clear hE a; intro a hE
                        refine WL.no hE (runs_not hE rfl rfl rfl (by rw [hg94]; decide)) rfl ?_; clear hE a; intro a hE
                        refine WL.no hE (runs_not hE rfl rfl rfl (by rw [hg94]; decide)) rfl ?_; clear hE a; intro a hE
                        refine WL.no hE (runs_not hE rfl rfl rfl (by rw [hg94]; decide)) rfl ?_; clear hE a; intro a hE
                        refine WL.vS hS hE (runs_plain rfl) (Gives.pickT hE rfl hg94 rfl) rfl ?_; clear hE a; intro a hE
                        refine WL.vS hS hE (runs_plain rfl) (Gives.p hE rfl) rfl ?_; clear hE a; intro a hE
                        refine WL.nil ?_
                        subst hK92
                        exact ⟨true, hq87, hE.pick _ ⟨rfl, rfl, rfl, rfl, rfl, trivial⟩, hS⟩
                      · replace hq87 := iteF hg94 hq87
                        refine WL.vS hS hE (runs_if hE rfl rfl rfl hg94) (Gives.fld hE rfl fl37_4) rfl ?_; clear hE a; intro a hE
                        refine WL.vS hS hE (runs_if hE rfl rfl rfl hg94) (Gives.loadB hE 0 rfl rfl rfl ty3) rfl ?_; clear hE a; intro a hE
                        refine WL.fnq hE (Planwithin_ok hS  rfl (r := Planwithin x64.Weight 0 1000)) (runs_if hE rfl rfl rfl hg94) bd35 rfl rfl rfl ?_
                        clear hE hS; rintro e w ⟨rfl, hS⟩; refine ⟨_, rfl, ?_⟩; clear a; intro a hE
                        refine WL.vS hS hE (runs_if hE rfl rfl rfl hg94) (Gives.p hE rfl) rfl ?_; clear hE a; intro a hE
                        refine WL.vS hS hE (runs_plain rfl) (Gives.pickF hE rfl hg94 rfl) rfl ?_; clear hE a; intro a hE
                        refine WL.vS hS hE (runs_plain rfl) (Gives.p hE rfl) rfl ?_; clear hE a; intro a hE
                        refine WL.nil ?_
                        subst hK92
                        exact ⟨!(Planwithin x64.Weight 0 1000), hq87, hE.pick _ ⟨rfl, rfl, rfl, rfl, rfl, trivial⟩, hS⟩
                  · clear hE hS a w; rintro a w ⟨q91, rfl, hE, hS⟩
                    refine W.cond hE rfl (fun hc95 => ?_) (fun hc95 => ?_)
                    · replace hq61 := iteT hc95 hq61
                      refine W.seq ?_
                      refine W.region ?_
                      refine WL.vS hS hE (runs_plain rfl) (Gives.p hE rfl) rfl ?_; clear hE a; intro a hE
                      refine WL.nil ?_
                      refine W.ret ?_
                      subst hK72
                      rw [← hq61] at hr
                      dsimp only at hr
                      refine finG (fn := Try.f10) (rs := [.tmp 2]) (vs := [_]) hE rfl ⟨rfl, trivial⟩ ?_
                      subst hr
                      replace hS := hS.tail
                      replace hS := hS.tail
                      exact ⟨rfl, hS⟩
                    · replace hq61 := iteF hc95 hq61
                      refine W.skip ?_
                      refine W.region ?_
                      refine WL.vS hS hE (runs_plain rfl) (Gives.inc hE rfl (by have := h0_0.small; omega)) rfl ?_; clear hE a; intro a hE
                      refine WL.vS hS hE (runs_plain rfl) (Gives.p hE rfl) rfl ?_; clear hE a; intro a hE
                      refine WL.nil ?_
                      replace hS := hS.tail
                      subst hK72
                      exact ⟨rest65.length, Nat.lt_succ_self _, rest65, k63 + 1, rfl, hd66, hq61, hE.pick _ ⟨rfl, rfl, rfl, rfl, trivial⟩, hS⟩
        · clear hE hS a w; rintro a w ⟨rfl, hE, hS⟩
          dsimp only at hr
          refine W.seq ?_
          refine W.region ?_
          refine WL.vS hS hE (runs_plain rfl) (Gives.p hE rfl) rfl ?_; clear hE a; intro a hE
          refine WL.nil ?_
          refine W.ret ?_
          refine finG (fn := Try.f10) (rs := [.tmp 2]) (vs := [_]) hE rfl ⟨rfl, trivial⟩ ?_
          subst hr
          replace hS := hS.tail
          exact ⟨rfl, hS⟩
set_option maxHeartbeats 8000000 in
theorem MathBitsMul64_ok  {w : World} {s : Sg} {R : List HP} {x0 : Int} {x1 : Int} (hS : St w s (R))  {r : Int × Int} (hr : MathBitsMul64 x0 x1 = r) :
    Calls Try.prog 89 [.int .u64 x0, .int .u64 x1].toArray w (fun e w => e = .returned (.tuple #[.int .u64 r.1, .int .u64 r.2]) ∧ St w s (R)) := by
  refine enter Try.func89 rfl rfl rfl fun a hE => ?_
  rw [MathBitsMul64] at hr
  refine W.seq ?_
  refine W.region ?_
  refine WL.vS hS hE (runs_plain rfl) (Gives.p hE rfl) rfl ?_; clear hE a; intro a hE
  refine WL.vS hS hE (runs_plain rfl) (Gives.p hE rfl) rfl ?_; clear hE a; intro a hE
  refine WL.nil ?_
  refine W.seq ?_
  refine W.region ?_
  refine WL.vS hS hE (runs_plain rfl) (Gives.p hE rfl) rfl ?_; clear hE a; intro a hE
  refine WL.vS hS hE (runs_plain rfl) (Gives.p hE rfl) rfl ?_; clear hE a; intro a hE
  refine WL.vS hS hE (runs_plain rfl) (Gives.p hE rfl) rfl ?_; clear hE a; intro a hE
  refine WL.nil ?_
  refine W.seq ?_
  refine W.region ?_
  refine WL.vS hS hE (runs_plain rfl) (Gives.p hE rfl) rfl ?_; clear hE a; intro a hE
  refine WL.vS hS hE (runs_plain rfl) (Gives.shr hE rfl rfl (by decide)) rfl ?_; clear hE a; intro a hE
  refine WL.vS hS hE (runs_plain rfl) (Gives.p hE rfl) rfl ?_; clear hE a; intro a hE
  refine WL.nil ?_
  refine W.seq ?_
  refine W.region ?_
  refine WL.vS hS hE (runs_plain rfl) (Gives.p hE rfl) rfl ?_; clear hE a; intro a hE
  refine WL.vS hS hE (runs_plain rfl) (Gives.p hE rfl) rfl ?_; clear hE a; intro a hE
  refine WL.vS hS hE (runs_plain rfl) (Gives.p hE rfl) rfl ?_; clear hE a; intro a hE
  refine WL.nil ?_
  refine W.seq ?_
  refine W.region ?_
  refine WL.vS hS hE (runs_plain rfl) (Gives.p hE rfl) rfl ?_; clear hE a; intro a hE
  refine WL.vS hS hE (runs_plain rfl) (Gives.shr hE rfl rfl (by decide)) rfl ?_; clear hE a; intro a hE
  refine WL.vS hS hE (runs_plain rfl) (Gives.p hE rfl) rfl ?_; clear hE a; intro a hE
  refine WL.nil ?_
  refine W.seq ?_
  refine W.region ?_
  refine WL.vS hS hE (runs_plain rfl) (Gives.p hE rfl) rfl ?_; clear hE a; intro a hE
  refine WL.vS hS hE (runs_plain rfl) (Gives.p hE rfl) rfl ?_; clear hE a; intro a hE
  refine WL.vS hS hE (runs_plain rfl) (Gives.p hE rfl) rfl ?_; clear hE a; intro a hE
  refine WL.vS hS hE (runs_plain rfl) (Gives.p hE rfl) rfl ?_; clear hE a; intro a hE
  refine WL.nil ?_
  refine W.seq ?_
  refine W.region ?_
  refine WL.vS hS hE (runs_plain rfl) (Gives.p hE rfl) rfl ?_; clear hE a; intro a hE
  refine WL.vS hS hE (runs_plain rfl) (Gives.p hE rfl) rfl ?_; clear hE a; intro a hE
  refine WL.vS hS hE (runs_plain rfl) (Gives.p hE rfl) rfl ?_; clear hE a; intro a hE
  refine WL.vS hS hE (runs_plain rfl) (Gives.p hE rfl) rfl ?_; clear hE a; intro a hE
  refine WL.vS hS hE (runs_plain rfl) (Gives.shr hE rfl rfl (by decide)) rfl ?_; clear hE a; intro a hE
  refine WL.vS hS hE (runs_plain rfl) (Gives.p hE rfl) rfl ?_; clear hE a; intro a hE
  refine WL.vS hS hE (runs_plain rfl) (Gives.p hE rfl) rfl ?_; clear hE a; intro a hE
  refine WL.nil ?_
  refine W.seq ?_
  refine W.region ?_
  refine WL.vS hS hE (runs_plain rfl) (Gives.p hE rfl) rfl ?_; clear hE a; intro a hE
  refine WL.vS hS hE (runs_plain rfl) (Gives.p hE rfl) rfl ?_; clear hE a; intro a hE
  refine WL.vS hS hE (runs_plain rfl) (Gives.p hE rfl) rfl ?_; clear hE a; intro a hE
  refine WL.nil ?_
  refine W.seq ?_
  refine W.region ?_
  refine WL.vS hS hE (runs_plain rfl) (Gives.p hE rfl) rfl ?_; clear hE a; intro a hE
  refine WL.vS hS hE (runs_plain rfl) (Gives.shr hE rfl rfl (by decide)) rfl ?_; clear hE a; intro a hE
  refine WL.vS hS hE (runs_plain rfl) (Gives.p hE rfl) rfl ?_; clear hE a; intro a hE
  refine WL.nil ?_
  refine W.seq ?_
  refine W.region ?_
  refine WL.vS hS hE (runs_plain rfl) (Gives.p hE rfl) rfl ?_; clear hE a; intro a hE
  refine WL.vS hS hE (runs_plain rfl) (Gives.p hE rfl) rfl ?_; clear hE a; intro a hE
  refine WL.vS hS hE (runs_plain rfl) (Gives.p hE rfl) rfl ?_; clear hE a; intro a hE
  refine WL.vS hS hE (runs_plain rfl) (Gives.p hE rfl) rfl ?_; clear hE a; intro a hE
  refine WL.vS hS hE (runs_plain rfl) (Gives.p hE rfl) rfl ?_; clear hE a; intro a hE
  refine WL.vS hS hE (runs_plain rfl) (Gives.p hE rfl) rfl ?_; clear hE a; intro a hE
  refine WL.nil ?_
  refine W.seq ?_
  refine W.region ?_
  refine WL.vS hS hE (runs_plain rfl) (Gives.p hE rfl) rfl ?_; clear hE a; intro a hE
  refine WL.vS hS hE (runs_plain rfl) (Gives.p hE rfl) rfl ?_; clear hE a; intro a hE
  refine WL.vS hS hE (runs_plain rfl) (Gives.p hE rfl) rfl ?_; clear hE a; intro a hE
  refine WL.vS hS hE (runs_plain rfl) (Gives.p hE rfl) rfl ?_; clear hE a; intro a hE
  refine WL.vS hS hE (runs_plain rfl) (Gives.p hE rfl) rfl ?_; clear hE a; intro a hE
  refine WL.vS hS hE (runs_plain rfl) (Gives.p hE rfl) rfl ?_; clear hE a; intro a hE
  refine WL.vS hS hE (runs_plain rfl) (Gives.shr hE rfl rfl (by decide)) rfl ?_; clear hE a; intro a hE
  refine WL.vS hS hE (runs_plain rfl) (Gives.p hE rfl) rfl ?_; clear hE a; intro a hE
  refine WL.vS hS hE (runs_plain rfl) (Gives.p hE rfl) rfl ?_; clear hE a; intro a hE
  refine WL.nil ?_
  refine W.seq ?_
  refine W.region ?_
  refine WL.vS hS hE (runs_plain rfl) (Gives.p hE rfl) rfl ?_; clear hE a; intro a hE
  refine WL.vS hS hE (runs_plain rfl) (Gives.p hE rfl) rfl ?_; clear hE a; intro a hE
  refine WL.vS hS hE (runs_plain rfl) (Gives.p hE rfl) rfl ?_; clear hE a; intro a hE
  refine WL.vS hS hE (runs_plain rfl) (Gives.p hE rfl) rfl ?_; clear hE a; intro a hE
  refine WL.nil ?_
  refine W.ret ?_
  refine finG (fn := Try.f89) (rs := [.tmp 4, .tmp 5]) (vs := [_, _]) hE rfl ⟨rfl, rfl, trivial⟩ ?_
  subst hr
  exact ⟨rfl, hS⟩
set_option maxHeartbeats 8000000 in
theorem MathBitsMul_ok  {w : World} {s : Sg} {R : List HP} {x0 : Int} {x1 : Int} (hS : St w s (R))  {r : Int × Int} (hr : MathBitsMul x0 x1 = r) :
    Calls Try.prog 77 [.int .u64 x0, .int .u64 x1].toArray w (fun e w => e = .returned (.tuple #[.int .u64 r.1, .int .u64 r.2]) ∧ St w s (R)) := by
  refine enter Try.func77 rfl rfl rfl fun a hE => ?_
  rw [MathBitsMul] at hr
  refine W.seq ?_
  refine W.region ?_
  refine WL.vS hS hE (runs_plain rfl) (Gives.p hE rfl) rfl ?_; clear hE a; intro a hE
  refine WL.vS hS hE (runs_plain rfl) (Gives.p hE rfl) rfl ?_; clear hE a; intro a hE
  refine WL.nil ?_
  refine W.seq ?_
  refine W.condF hE rfl rfl ?_
  refine W.skip ?_
  refine W.seq ?_
  refine W.region ?_
  refine WL.vS hS hE (runs_plain rfl) (Gives.p hE rfl) rfl ?_; clear hE a; intro a hE
  refine WL.vS hS hE (runs_plain rfl) (Gives.p hE rfl) rfl ?_; clear hE a; intro a hE
  obtain ⟨q51, hq52, hr⟩ := bndS hr
  have hc_ := MathBitsMul64_ok hS  hq52
  refine WL.fnq hE (hc_) (runs_plain rfl) bd89 rfl rfl rfl ?_
  clear hE hS hc_; rintro e w ⟨rfl, hS⟩; refine ⟨_, rfl, ?_⟩; clear a; intro a hE
  refine WL.vS hS hE (runs_plain rfl) (Gives.p hE rfl) rfl ?_; clear hE a; intro a hE
  refine WL.vS hS hE (runs_plain rfl) (Gives.p hE rfl) rfl ?_; clear hE a; intro a hE
  refine WL.vS hS hE (runs_plain rfl) (Gives.p hE rfl) rfl ?_; clear hE a; intro a hE
  refine WL.vS hS hE (runs_plain rfl) (Gives.p hE rfl) rfl ?_; clear hE a; intro a hE
  refine WL.vS hS hE (runs_plain rfl) (Gives.p hE rfl) rfl ?_; clear hE a; intro a hE
  refine WL.nil ?_
  refine W.seq ?_
  refine W.region ?_
  refine WL.vS hS hE (runs_plain rfl) (Gives.p hE rfl) rfl ?_; clear hE a; intro a hE
  refine WL.vS hS hE (runs_plain rfl) (Gives.p hE rfl) rfl ?_; clear hE a; intro a hE
  refine WL.vS hS hE (runs_plain rfl) (Gives.p hE rfl) rfl ?_; clear hE a; intro a hE
  refine WL.vS hS hE (runs_plain rfl) (Gives.p hE rfl) rfl ?_; clear hE a; intro a hE
  refine WL.nil ?_
  refine W.ret ?_
  refine finG (fn := Try.f77) (rs := [.tmp 4, .tmp 5]) (vs := [_, _]) hE rfl ⟨rfl, rfl, trivial⟩ ?_
  subst hr
  exact ⟨rfl, hS⟩
set_option maxHeartbeats 8000000 in
theorem SlicesRepeatLbool_ok {fu : Nat}  {w : World} {s : Sg} {R : List HP} {x0 : List Bool} {a0 : Option Addr} {c0 : Nat} {x1 : Int} (hS : St w s (R)) (h0 : Sl 1 RB s a0 c0 x0) {r : (List Bool)} (hr : SlicesRepeatLbool fu x0 x1 = some r) :
    Calls Try.prog 46 [.slice a0 x0.length c0, .int .i64 x1].toArray w (fun e w => ∃ (a0 : Option Addr) (c0 n0 : Nat) (cs0 : List Value), e = .returned (.slice a0 n0 c0) ∧ Ev 1 RB s cs0 r ∧ r.length = n0 ∧ St w s (vecC 4 1 a0 c0 n0 cs0 :: R)) := by
  refine enter Try.func46 rfl rfl rfl fun a hE => ?_
  rw [SlicesRepeatLbool] at hr
  refine W.seq ?_
  refine W.region ?_
  refine WL.vS hS hE (runs_plain rfl) (Gives.p hE rfl) rfl ?_; clear hE a; intro a hE
  refine WL.nil ?_
  refine W.seq ?_
  refine W.seq ?_
  refine W.region ?_
  refine WL.vS hS hE (runs_plain rfl) (Gives.p hE rfl) rfl ?_; clear hE a; intro a hE
  refine WL.vS hS hE (runs_plain rfl) (Gives.p hE rfl) rfl ?_; clear hE a; intro a hE
  refine WL.nil ?_
  refine W.cond hE rfl (fun hc51 => ?_) (fun hc51 => ?_)
  · replace hr := iteT hc51 hr
    refine W.region ?_
    exact absurd hr (by simp)
  · replace hr := iteF hc51 hr
    refine W.skip ?_
    refine W.seq ?_
    refine W.region ?_
    refine WL.vS hS hE (runs_plain rfl) (Gives.p hE rfl) rfl ?_; clear hE a; intro a hE
    refine WL.vS hS hE (runs_plain rfl) (Gives.len hE rfl sl71) rfl ?_; clear hE a; intro a hE
    refine WL.vS hS hE (runs_plain rfl) (Gives.conv hE rfl hu3 ui110) rfl ?_; clear hE a; intro a hE
    refine WL.vS hS hE (runs_plain rfl) (Gives.p hE rfl) rfl ?_; clear hE a; intro a hE
    refine WL.vS hS hE (runs_plain rfl) (Gives.conv hE rfl hu3 ui110) rfl ?_; clear hE a; intro a hE
    obtain ⟨q52, hq53, hr⟩ := bndS hr
    have hc_ := MathBitsMul_ok hS  hq53
    refine WL.fnq hE (hc_) (runs_plain rfl) bd77 rfl rfl rfl ?_
    clear hE hS hc_; rintro e w ⟨rfl, hS⟩; refine ⟨_, rfl, ?_⟩; clear a; intro a hE
    refine WL.vS hS hE (runs_plain rfl) (Gives.p hE rfl) rfl ?_; clear hE a; intro a hE
    refine WL.vS hS hE (runs_plain rfl) (Gives.p hE rfl) rfl ?_; clear hE a; intro a hE
    refine WL.vS hS hE (runs_plain rfl) (Gives.p hE rfl) rfl ?_; clear hE a; intro a hE
    refine WL.vS hS hE (runs_plain rfl) (Gives.p hE rfl) rfl ?_; clear hE a; intro a hE
    refine WL.vS hS hE (runs_plain rfl) (Gives.p hE rfl) rfl ?_; clear hE a; intro a hE
    refine WL.nil ?_
    refine W.seq ?_
    refine W.seq ?_
    obtain ⟨q55, hq54, hr⟩ := bndS hr
    refine W.cut (fun a w => ∃ (q58 : Bool), q58 = q55 ∧ Rep a 48 [(0, .slice a0 x0.length c0), (6, .int .u64 q52.2), (26, .bool q58)] ∧ St w s (R)) ?_ ?_
    · refine W.gen fun K59 hK59 => ?_
      refine W.region ?_
      refine WL.vS hS hE (runs_plain rfl) (Gives.p hE rfl) rfl ?_; clear hE a; intro a hE
      refine WL.vS hS hE (runs_plain rfl) (Gives.p hE rfl) rfl ?_; clear hE a; intro a hE
      refine WL.vS hS hE (runs_plain rfl) (Gives.p hE rfl) rfl ?_; clear hE a; intro a hE
      rcases Bool.eq_false_or_eq_true (decide (q52.1 > 0)) with hg60 | hg60
      · replace hq54 := iteT hg60 hq54
        refine WL.no hE (runs_not hE rfl rfl rfl (by rw [hg60]; decide)) rfl ?_; clear hE a; intro a hE
        refine WL.no hE (runs_not hE rfl rfl rfl (by rw [hg60]; decide)) rfl ?_; clear hE a; intro a hE
        refine WL.vS hS hE (runs_plain rfl) (Gives.pickT hE rfl hg60 rfl) rfl ?_; clear hE a; intro a hE
        refine WL.nil ?_
        subst hK59
        exact ⟨true, hq54, hE.pick _ ⟨rfl, rfl, rfl, trivial⟩, hS⟩
      · replace hq54 := iteF hg60 hq54
        refine WL.vS hS hE (runs_if hE rfl rfl rfl hg60) (Gives.p hE rfl) rfl ?_; clear hE a; intro a hE
        refine WL.vS hS hE (runs_if hE rfl rfl rfl hg60) (Gives.p hE rfl) rfl ?_; clear hE a; intro a hE
        refine WL.vS hS hE (runs_plain rfl) (Gives.pickF hE rfl hg60 rfl) rfl ?_; clear hE a; intro a hE
        refine WL.nil ?_
        subst hK59
        exact ⟨decide (q52.2 > 9223372036854775807), hq54, hE.pick _ ⟨rfl, rfl, rfl, trivial⟩, hS⟩
    · clear hE hS a w; rintro a w ⟨q58, rfl, hE, hS⟩
      refine W.cond hE rfl (fun hc61 => ?_) (fun hc61 => ?_)
      · replace hr := iteT hc61 hr
        refine W.region ?_
        exact absurd hr (by simp)
      · replace hr := iteF hc61 hr
        refine W.skip ?_
        refine W.seq ?_
        refine W.region ?_
        refine WL.vS hS hE (runs_plain rfl) (Gives.p hE rfl) rfl ?_; clear hE a; intro a hE
        refine WL.vS hS hE (runs_plain rfl) (Gives.conv hE rfl hu110 ui3) rfl ?_; clear hE a; intro a hE
        obtain ⟨x62, hx63, hr⟩ := bindS hr
        refine WL.mkD (Rr := RB) hE hS (runs_plain rfl) rfl rfl ap71 zr4 rfl hx63 rfl ?_; clear hE hS a w; intro b64 cs65 a w h66 hE hS
        refine WL.vS hS hE (runs_plain rfl) (Gives.p hE rfl) rfl ?_; clear hE a; intro a hE
        refine WL.nil ?_
        refine W.seq ?_
        refine W.region ?_
        refine WL.vS hS hE (runs_plain rfl) (Gives.p hE rfl) rfl ?_; clear hE a; intro a hE
        refine WL.vS hS hE (runs_plain rfl) (Gives.p hE rfl) rfl ?_; clear hE a; intro a hE
        obtain ⟨x68, hx69, hr⟩ := bndS hr
        refine WL.cpS hE hS 0 (runs_plain rfl) cp71 (by rw [sliced_zero]; rfl) rfl rfl (Nat.zero_le _) (Nat.le_refl _) h66 rfl RB.one h0 rfl rfl ?_; clear hE hS a w; intro cs70 a w h71 hE hS
        have hn72 : x68.length = x62.length := by rw [← hx69, cpl_length (Nat.zero_le _) (by omega)]; try rfl
        rw [hx69] at h71
        refine WL.vS hS hE (runs_plain rfl) (Gives.p hE rfl) rfl ?_; clear hE a; intro a hE
        refine WL.nil ?_
        refine W.seq ?_
        obtain ⟨q74, hq73, hr⟩ := bindS hr
        refine W.cut (fun a w => ∃ (q79 : Int), ∃ (q80 : List Bool), ∃ (cs84 : List Value), (q79, q80) = q74 ∧ Ev 1 RB s cs84 q80 ∧ q80.length = x62.length ∧ Rep a 48 [(7, .slice (some ⟨b64, 0, none⟩) x62.length x62.length)] ∧ St w s (vecC 4 1 (some ⟨b64, 0, none⟩) x62.length x62.length cs84 :: R)) ?_ ?_
        · refine W.block ?_
          refine W.loop (fun m a w => ∃ (n75 : Nat), ∃ (q79 : Int), ∃ (q80 : List Bool), ∃ (cs84 : List Value), n75 = m ∧ SlicesRepeatLbool.loop1 x62 n75 q79 q80 = some q74 ∧ Ev 1 RB s cs84 q80 ∧ q80.length = x62.length ∧ Rep a 48 [(7, .slice (some ⟨b64, 0, none⟩) x62.length x62.length), (8, .int .i64 q79)] ∧ St w s (vecC 4 1 (some ⟨b64, 0, none⟩) x62.length x62.length cs84 :: R)) (m := fu) ⟨fu, ((min x0.length (x62.length - 0) : Nat) : Int), x68, cs70, rfl, hq73, h71, hn72, hE.pick _ ⟨rfl, rfl, trivial⟩, hS⟩ ?_
          clear hE hS a w hq73; rintro m76 a w ⟨n75, q79, q80, cs84, rfl, hq73, h83, hn85, hE, hS⟩
          refine W.gen fun K86 hK86 => ?_
          rcases n75 with _ | n75
          · rw [SlicesRepeatLbool.loop1] at hq73; exact absurd hq73 (by simp)
          rw [SlicesRepeatLbool.loop1] at hq73
          refine W.seq ?_
          refine W.seq ?_
          refine W.region ?_
          refine WL.vS hS hE (runs_plain rfl) (Gives.p hE rfl) rfl ?_; clear hE a; intro a hE
          refine WL.vS hS hE (runs_plain rfl) (Gives.p hE rfl) rfl ?_; clear hE a; intro a hE
          refine WL.vS hS hE (runs_plain rfl) (Gives.len hE rfl sl71) rfl ?_; clear hE a; intro a hE
          refine WL.vS hS hE (runs_plain rfl) (Gives.p hE rfl) rfl ?_; clear hE a; intro a hE
          refine WL.nil ?_
          refine W.cond hE rfl (fun hc87 => ?_) (fun hc87 => ?_)
          · replace hq73 := iteT hc87 hq73
            refine W.skip ?_
            refine W.block ?_
            refine W.gen fun K88 hK88 => ?_
            refine W.regionE (sel (fun w => St w s (R)) (fun w => St w s (R))) (fun b i => cond b ([0, 1, 2, 3, 4, 5, 6, 7, 8, 9].contains i) ([0, 1, 2, 3, 4, 5, 6, 7, 8, 9].contains i)) mixed ?_
            replace hS := hS.drew
            refine Rg.takeP (i := 0) hE rfl (by kernel_rfl) (runs_plain rfl) (Gives.p hE rfl) rfl (tw_sel (fun _ => (hS.tail)) (fun _ => (hS.tail))) ?_; clear hE a; intro a hE
            refine Rg.takeP (i := 1) hE rfl (by kernel_rfl) (runs_plain rfl) (Gives.p hE rfl) rfl (tw_sel (fun _ => (hS.tail)) (fun _ => (hS.tail))) ?_; clear hE a; intro a hE
            refine Rg.takeP (i := 2) hE rfl (by kernel_rfl) (runs_plain rfl) (Gives.p hE rfl) rfl (tw_sel (fun _ => (hS.tail)) (fun _ => (hS.tail))) ?_; clear hE a; intro a hE
            obtain ⟨x89, hx90, hq73⟩ := bindS hq73
            obtain ⟨h91, h92, h93, h94, h95, h96⟩ := cutl_some hx90
            have h97 := (hS.vecCap 0 rfl).1
            refine Rg.takeP (i := 3) hE rfl (by kernel_rfl) (runs_plain rfl) (Gives.slL hE sl71 rfl rfl h91 (by have := hn85; omega) rfl) rfl (tw_sel (fun _ => (hS.tail)) (fun _ => (hS.tail))) ?_; clear hE a; intro a hE
            refine Rg.takeP (i := 4) hE rfl (by kernel_rfl) (runs_plain rfl) (Gives.p hE rfl) rfl (tw_sel (fun _ => (hS.tail)) (fun _ => (hS.tail))) ?_; clear hE a; intro a hE
            refine Rg.takeP (i := 5) hE rfl (by kernel_rfl) (runs_plain rfl) (Gives.p hE rfl) rfl (tw_sel (fun _ => (hS.tail)) (fun _ => (hS.tail))) ?_; clear hE a; intro a hE
            obtain ⟨x98, hx99, hq73⟩ := bindS hq73
            obtain ⟨h100, h101, h102, h103, h104, h105⟩ := cutl_some hx99
            have h106 := (hS.vecCap 0 rfl).1
            refine Rg.takeP (i := 6) hE rfl (by kernel_rfl) (runs_plain rfl) (Gives.slH hE sl71 rfl rfl h101 (Int.le_trans h102 (by have := hn85; omega)) rfl) rfl (tw_sel (fun _ => (hS.tail)) (fun _ => (hS.tail))) ?_; clear hE a; intro a hE
            refine Rg.one (i := 7) true true rfl (by kernel_rfl) (by kernel_rfl) (by kernel_rfl) ?_
            obtain ⟨x107, hx108, hq73⟩ := bndS hq73
            refine WL.cpO (lo2 := 0) (hi2 := (q79).toNat) hE hS 0 (runs_plain rfl) cp71 rfl rfl rfl (by have := hn85; omega) (by have := hn85; omega) (by have := hn85; omega) (by have := hn85; omega) h83 hn85 (h83.allOne RB.one) rfl ?_; clear hE hS a w; intro cs109 a w h110 hE hS
            have hn111 : x107.length = x62.length := by rw [← hx108, cpl_length (by have := hn85; omega) (by have := hn85; omega)]; try exact hn85
            rw [hx108] at h110
            refine WL.nil ?_
            refine ⟨⟨fun _ => (hS.tail), fun _ => (hS.tail)⟩, ?_⟩
            refine Rg.takeP (i := 8) hE rfl (by kernel_rfl) (runs_plain rfl) (Gives.p hE rfl) rfl (tw_sel (fun _ => (hS.tail)) (fun _ => (hS.tail))) ?_; clear hE a; intro a hE
            refine Rg.takeP (i := 9) hE rfl (by kernel_rfl) (runs_plain rfl) (Gives.p hE rfl) rfl (tw_sel (fun _ => (hS.tail)) (fun _ => (hS.tail))) ?_; clear hE a; intro a hE
            refine Rg.done (by kernel_rfl) ?_
            subst hK88
            subst hK86
            exact ⟨n75, Nat.lt_succ_self _, n75, (w64 (q79 + ((min ((q80.take ((q79).toNat)).drop 0).length (x62.length - ((q79).toNat)) : Nat) : Int))), x107, cs109, rfl, hq73, h110, hn111, hE.pick _ ⟨rfl, rfl, trivial⟩, hS⟩
          · replace hq73 := iteF hc87 hq73
            subst hK86
            refine W.exit rfl ?_
            exact ⟨q79, q80, cs84, Option.some.inj hq73, h83, hn85, hE.pick _ ⟨rfl, trivial⟩, hS⟩
        · clear hE hS a w; rintro a w ⟨q79, q80, cs84, rfl, h83, hn85, hE, hS⟩
          dsimp only at hr
          refine W.seq ?_
          refine W.region ?_
          refine WL.vS hS hE (runs_plain rfl) (Gives.p hE rfl) rfl ?_; clear hE a; intro a hE
          refine WL.vS hS hE (runs_plain rfl) (Gives.p hE rfl) rfl ?_; clear hE a; intro a hE
          refine WL.nil ?_
          refine W.ret ?_
          refine finG (fn := Try.f46) (rs := [.tmp 4]) (vs := [_]) hE rfl ⟨rfl, trivial⟩ ?_
          obtain rfl := Option.some.inj hr
          exact ⟨(some ⟨b64, 0, none⟩), x62.length, x62.length, cs84, rfl, h83, hn85, hS⟩
set_option maxHeartbeats 8000000 in
theorem PlannewSearch_ok {fu : Nat}  {w : World} {s : Sg} {R : List HP} {x0 : PlanPeriodic} {a0_0 : Option Addr} {c0_0 : Nat} (hS : St w s (R)) (h0_0 : Sl 5 RPlanRule s a0_0 c0_0 x0.Rules) {r : (Int × Int × (List PlanRule) × (List Int) × (List Bool))} (hr : PlannewSearch fu x0 = some r) :
    Calls Try.prog 48 [.agg [.int .i64 x0.Period, .int .i64 x0.Events, .slice a0_0 x0.Rules.length c0_0].toArray].toArray w (fun e w => ∃ (b0 : Nat) (a0_2 : Option Addr) (c0_2 : Nat) (a0_5 : Option Addr) (c0_5 n0_5 : Nat) (cs0_5 : List Value) (a0_6 : Option Addr) (c0_6 n0_6 : Nat) (cs0_6 : List Value) (t : Sg), e = .returned (.pointer (some ⟨b0, 0, none⟩)) ∧ s.Le t ∧ Sl 5 RPlanRule t a0_2 c0_2 r.2.2.1 ∧ Ev 1 (RI .i64) t cs0_5 r.2.2.2.1 ∧ (r.2.2.2.1).length = n0_5 ∧ Ev 1 RB t cs0_6 r.2.2.2.2 ∧ (r.2.2.2.2).length = n0_6 ∧ St w t (pt b0 (.cells #[.int .i64 r.1, .int .i64 r.2.1, .slice a0_2 (r.2.2.1).length c0_2, .nilFunc, .func (.func 78) #[] #[], .slice a0_5 n0_5 c0_5, .slice a0_6 n0_6 c0_6] 80 (0, 0)) :: vecC 3 1 a0_5 c0_5 n0_5 cs0_5 :: vecC 4 1 a0_6 c0_6 n0_6 cs0_6 :: R)) := by
  refine enter Try.func48 rfl rfl rfl fun a hE => ?_
  rw [PlannewSearch] at hr
  refine W.seq ?_
  refine W.region ?_
  refine WL.box hE hS (runs_plain rfl) rfl rfl rfl ?_; clear hE hS a w; intro b51 a w hE hS
  refine WL.vS hS hE (runs_plain rfl) (Gives.p hE rfl) rfl ?_; clear hE a; intro a hE
  refine WL.nil ?_
  refine W.seq ?_
  refine W.gen fun K52 hK52 => ?_
  refine W.regionE (sel (fun w => St w s (pt b51 (.cells #[.int .i64 x0.Period, .int .i64 x0.Events, .slice a0_0 x0.Rules.length c0_0] 24 (0, 0)) :: R)) (fun w => St w s (pt b51 (.cells #[.int .i64 x0.Period, .int .i64 x0.Events, .slice a0_0 x0.Rules.length c0_0] 24 (0, 0)) :: R))) (fun b i => cond b ([0, 1, 2, 3, 4, 5, 6, 7, 8, 9, 10, 11, 12].contains i) ([0, 1, 2, 3, 4, 5, 6, 7, 8, 9, 10, 11, 12].contains i)) mixed ?_
  replace hS := hS.drew
  have hT := tw_sel (A := fun w => St w s (pt b51 (.cells #[.int .i64 x0.Period, .int .i64 x0.Events, .slice a0_0 x0.Rules.length c0_0] 24 (0, 0)) :: R)) (B := fun w => St w s (pt b51 (.cells #[.int .i64 x0.Period, .int .i64 x0.Events, .slice a0_0 x0.Rules.length c0_0] 24 (0, 0)) :: R)) (w := _) (x := true) (y := true) (fun _ => hS) (fun _ => hS)
  have hF := hS; replace hS := hS
  refine Rg.take (i := 0) true rfl hE rfl (by kernel_rfl) (runs_plain rfl) (Gives.loadBA hE 0 rfl rfl ty24) rfl hT ?_; clear hE a; intro a hE
  replace hS := hF; clear hF hT
  refine Rg.takeP (i := 1) hE rfl (by kernel_rfl) (runs_plain rfl) (Gives.fld hE rfl fl24_2) rfl (tw_sel (fun _ => hS) (fun _ => hS)) ?_; clear hE a; intro a hE
  have hT := tw_sel (A := fun w => St w s (pt b51 (.cells #[.int .i64 x0.Period, .int .i64 x0.Events, .slice a0_0 x0.Rules.length c0_0] 24 (0, 0)) :: R)) (B := fun w => St w s (pt b51 (.cells #[.int .i64 x0.Period, .int .i64 x0.Events, .slice a0_0 x0.Rules.length c0_0] 24 (0, 0)) :: R)) (w := _) (x := true) (y := true) (fun _ => hS) (fun _ => hS)
  have hF := hS; replace hS := hS
  refine Rg.take (i := 2) true rfl hE rfl (by kernel_rfl) (runs_plain rfl) (Gives.loadB hE 0 rfl rfl rfl ty22) rfl hT ?_; clear hE a; intro a hE
  replace hS := hF; clear hF hT
  refine Rg.takeP (i := 3) hE rfl (by kernel_rfl) (runs_plain rfl) (Gives.len hE rfl sl22) rfl (tw_sel (fun _ => hS) (fun _ => hS)) ?_; clear hE a; intro a hE
  refine Rg.takeP (i := 6) hE rfl (by kernel_rfl) (runs_plain rfl) (Gives.fld hE rfl fl24_2) rfl (tw_sel (fun _ => hS) (fun _ => hS)) ?_; clear hE a; intro a hE
  have hT := tw_sel (A := fun w => St w s (pt b51 (.cells #[.int .i64 x0.Period, .int .i64 x0.Events, .slice a0_0 x0.Rules.length c0_0] 24 (0, 0)) :: R)) (B := fun w => St w s (pt b51 (.cells #[.int .i64 x0.Period, .int .i64 x0.Events, .slice a0_0 x0.Rules.length c0_0] 24 (0, 0)) :: R)) (w := _) (x := true) (y := true) (fun _ => hS) (fun _ => hS)
  have hF := hS; replace hS := hS
  refine Rg.take (i := 7) true rfl hE rfl (by kernel_rfl) (runs_plain rfl) (Gives.loadB hE 0 rfl rfl rfl ty22) rfl hT ?_; clear hE a; intro a hE
  replace hS := hF; clear hF hT
  refine Rg.takeP (i := 8) hE rfl (by kernel_rfl) (runs_plain rfl) (Gives.len hE rfl sl22) rfl (tw_sel (fun _ => hS) (fun _ => hS)) ?_; clear hE a; intro a hE
  obtain ⟨x53, hx54, hr⟩ := bindS hr
  obtain ⟨q65, hq66, hr⟩ := bindS hr
  suffices key : ∀ s62 cs70 cs56 b73 b55 a67 c68 (a : Act) (w : World), s.Le s62 → Sl 5 RPlanRule s62 a0_0 c0_0 x0.Rules → Ev 1 RB s62 cs70 q65 → Ev 1 (RI .i64) s62 cs56 x53 → Rep a 15 [(2, .pointer (some ⟨b73, 0, none⟩))] → St w s62 (pt b73 (.cells #[.int .i64 x0.Period, .int .i64 x0.Events, .slice a0_0 x0.Rules.length c0_0, .nilFunc, .func (.func 78) #[] #[], .slice (some ⟨b55, 0, none⟩) x53.length x53.length, .slice a67 q65.length c68] 80 (0, 0)) :: vecC 4 1 a67 c68 q65.length cs70 :: vecC 3 1 (some ⟨b55, 0, none⟩) x53.length x53.length cs56 :: pt b51 (.cells #[.int .i64 x0.Period, .int .i64 x0.Events, .slice a0_0 x0.Rules.length c0_0] 24 (0, 0)) :: R) → K52.nor a w by
    refine Rg.many 4 [5] (by kernel_rfl) ⟨?_, ?_, trivial⟩
    · refine Br.mk (i := 4) true true rfl (by kernel_rfl) (by kernel_rfl) ?_
      refine WL.mkD (Rr := RI .i64) hE hS (runs_plain rfl) rfl rfl ap29 zr3 rfl hx54 rfl ?_; clear hE hS a w; intro b55 cs56 a w h57 hE hS
      refine WL.nil ?_
      refine ⟨⟨fun _ => (hS.tail), fun _ => (hS.tail)⟩, ?_⟩
      refine Rg.one (i := 5) true true rfl (by kernel_rfl) (by kernel_rfl) (by kernel_rfl) ?_
      refine WL.lit hE hS (e := 4) (es := 1) (vs := [(0, .bool true)]) (cs := [.bool true]) (runs_plain rfl) rfl (by kernel_rfl) rfl ?_; clear hE hS a w; intro b59 a w hE hS
      replace hS := hS.ptVec (es := 1) (m := 1) rfl (by decide)
      have h61 : Ev 1 RB s [.bool true] [true] := (Ev.cons (c1 := [.bool true]) rfl rfl (Ev.nil))
      have hF := hS.fixD RB.mono 0 rfl h61 (rfl); clear hS; obtain ⟨s62, hle63, hS, h64⟩ := hF
      replace h0_0 := Sl.mono RPlanRule.mono hle63 h0_0
      replace h57 := Ev.mono RI.mono hle63 h57
      refine WL.nil ?_
      refine ⟨⟨fun _ => (St.down hle63 (hS.tail)), fun _ => (St.down hle63 (hS.tail))⟩, ?_⟩
      refine Rg.one (i := 9) true true rfl (by kernel_rfl) (by kernel_rfl) (by kernel_rfl) ?_
      have hc_ := SlicesRepeatLbool_ok hS h64 hq66
      refine WL.fnq hE (hc_) (runs_plain rfl) bd46 rfl rfl rfl ?_
      clear hE hS hc_; rintro e w ⟨a67, c68, n69, cs70, rfl, h71, rfl, hS⟩; refine ⟨_, rfl, ?_⟩; clear a; intro a hE
      refine WL.nil ?_
      refine ⟨⟨fun _ => (St.down hle63 ((hS.tail).tail)), fun _ => (St.down hle63 ((hS.tail).tail))⟩, ?_⟩
      refine Rg.takeP (i := 10) hE rfl (by kernel_rfl) (runs_plain rfl) (Gives.build hE (vs := [(0, .agg [.int .i64 x0.Period, .int .i64 x0.Events, .slice a0_0 x0.Rules.length c0_0].toArray), (3, .slice (some ⟨b55, 0, none⟩) x53.length x53.length), (4, .slice a67 q65.length c68), (2, .func (.func 78) #[] #[])]) [.int .i64 x0.Period, .int .i64 x0.Events, .slice a0_0 x0.Rules.length c0_0, .nilFunc, .func (.func 78) #[] #[], .slice (some ⟨b55, 0, none⟩) x53.length x53.length, .slice a67 q65.length c68] rfl (by kernel_rfl)) rfl (tw_sel (fun _ => (St.down hle63 ((hS.tail).tail))) (fun _ => (St.down hle63 ((hS.tail).tail)))) ?_; clear hE a; intro a hE
      refine Rg.one (i := 11) true true rfl (by kernel_rfl) (by kernel_rfl) (by kernel_rfl) ?_
      refine WL.box hE hS (runs_plain rfl) rfl rfl rfl ?_; clear hE hS a w; intro b73 a w hE hS
      refine WL.nil ?_
      refine ⟨⟨fun _ => (St.down hle63 (((hS.tail).tail).tail)), fun _ => (St.down hle63 (((hS.tail).tail).tail))⟩, ?_⟩
      refine Rg.takeP (i := 12) hE rfl (by kernel_rfl) (runs_plain rfl) (Gives.p hE rfl) rfl (tw_sel (fun _ => (St.down hle63 (((hS.tail).tail).tail))) (fun _ => (St.down hle63 (((hS.tail).tail).tail)))) ?_; clear hE a; intro a hE
      refine Rg.done (by kernel_rfl) ?_
      exact key _ _ _ _ _ _ _ _ _ hle63 h0_0 h71 h57 (hE.pick _ ⟨rfl, trivial⟩) hS
    · refine Br.mk (i := 5) true true rfl (by kernel_rfl) (by kernel_rfl) ?_
      refine WL.lit hE hS (e := 4) (es := 1) (vs := [(0, .bool true)]) (cs := [.bool true]) (runs_plain rfl) rfl (by kernel_rfl) rfl ?_; clear hE hS a w; intro b59 a w hE hS
      replace hS := hS.ptVec (es := 1) (m := 1) rfl (by decide)
      have h61 : Ev 1 RB s [.bool true] [true] := (Ev.cons (c1 := [.bool true]) rfl rfl (Ev.nil))
      have hF := hS.fixD RB.mono 0 rfl h61 (rfl); clear hS; obtain ⟨s62, hle63, hS, h64⟩ := hF
      replace h0_0 := Sl.mono RPlanRule.mono hle63 h0_0
      refine WL.nil ?_
      refine ⟨⟨fun _ => (St.down hle63 hS), fun _ => (St.down hle63 hS)⟩, ?_⟩
      refine Rg.many 4 [9] (by kernel_rfl) ⟨?_, ?_, trivial⟩
      · refine Br.mk (i := 4) true true rfl (by kernel_rfl) (by kernel_rfl) ?_
        refine WL.mkD (Rr := RI .i64) hE hS (runs_plain rfl) rfl rfl ap29 zr3 rfl hx54 rfl ?_; clear hE hS a w; intro b55 cs56 a w h57 hE hS
        refine WL.nil ?_
        refine ⟨⟨fun _ => (St.down hle63 (hS.tail)), fun _ => (St.down hle63 (hS.tail))⟩, ?_⟩
        refine Rg.one (i := 9) true true rfl (by kernel_rfl) (by kernel_rfl) (by kernel_rfl) ?_
        have hc_ := SlicesRepeatLbool_ok hS h64 hq66
        refine WL.fnq hE (hc_) (runs_plain rfl) bd46 rfl rfl rfl ?_
        clear hE hS hc_; rintro e w ⟨a67, c68, n69, cs70, rfl, h71, rfl, hS⟩; refine ⟨_, rfl, ?_⟩; clear a; intro a hE
        refine WL.nil ?_
        refine ⟨⟨fun _ => (St.down hle63 ((hS.tail).tail)), fun _ => (St.down hle63 ((hS.tail).tail))⟩, ?_⟩
        refine Rg.takeP (i := 10) hE rfl (by kernel_rfl) (runs_plain rfl) (Gives.build hE (vs := [(0, .agg [.int .i64 x0.Period, .int .i64 x0.Events, .slice a0_0 x0.Rules.length c0_0].toArray), (3, .slice (some ⟨b55, 0, none⟩) x53.length x53.length), (4, .slice a67 q65.length c68), (2, .func (.func 78) #[] #[])]) [.int .i64 x0.Period, .int .i64 x0.Events, .slice a0_0 x0.Rules.length c0_0, .nilFunc, .func (.func 78) #[] #[], .slice (some ⟨b55, 0, none⟩) x53.length x53.length, .slice a67 q65.length c68] rfl (by kernel_rfl)) rfl (tw_sel (fun _ => (St.down hle63 ((hS.tail).tail))) (fun _ => (St.down hle63 ((hS.tail).tail)))) ?_; clear hE a; intro a hE
        refine Rg.one (i := 11) true true rfl (by kernel_rfl) (by kernel_rfl) (by kernel_rfl) ?_
        refine WL.box hE hS (runs_plain rfl) rfl rfl rfl ?_; clear hE hS a w; intro b73 a w hE hS
        refine WL.nil ?_
        refine ⟨⟨fun _ => (St.down hle63 (((hS.tail).tail).tail)), fun _ => (St.down hle63 (((hS.tail).tail).tail))⟩, ?_⟩
        refine Rg.takeP (i := 12) hE rfl (by kernel_rfl) (runs_plain rfl) (Gives.p hE rfl) rfl (tw_sel (fun _ => (St.down hle63 (((hS.tail).tail).tail))) (fun _ => (St.down hle63 (((hS.tail).tail).tail)))) ?_; clear hE a; intro a hE
        refine Rg.done (by kernel_rfl) ?_
        exact key _ _ _ _ _ _ _ _ _ hle63 h0_0 h71 h57 (hE.pick _ ⟨rfl, trivial⟩) hS
      · refine Br.mk (i := 9) true true rfl (by kernel_rfl) (by kernel_rfl) ?_
        have hc_ := SlicesRepeatLbool_ok hS h64 hq66
        refine WL.fnq hE (hc_) (runs_plain rfl) bd46 rfl rfl rfl ?_
        clear hE hS hc_; rintro e w ⟨a67, c68, n69, cs70, rfl, h71, rfl, hS⟩; refine ⟨_, rfl, ?_⟩; clear a; intro a hE
        refine WL.nil ?_
        refine ⟨⟨fun _ => (St.down hle63 (hS.tail)), fun _ => (St.down hle63 (hS.tail))⟩, ?_⟩
        refine Rg.one (i := 4) true true rfl (by kernel_rfl) (by kernel_rfl) (by kernel_rfl) ?_
        refine WL.mkD (Rr := RI .i64) hE hS (runs_plain rfl) rfl rfl ap29 zr3 rfl hx54 rfl ?_; clear hE hS a w; intro b55 cs56 a w h57 hE hS
        refine WL.nil ?_
        refine ⟨⟨fun _ => (St.down hle63 ((hS.tail).tail)), fun _ => (St.down hle63 ((hS.tail).tail))⟩, ?_⟩
        refine Rg.takeP (i := 10) hE rfl (by kernel_rfl) (runs_plain rfl) (Gives.build hE (vs := [(0, .agg [.int .i64 x0.Period, .int .i64 x0.Events, .slice a0_0 x0.Rules.length c0_0].toArray), (3, .slice (some ⟨b55, 0, none⟩) x53.length x53.length), (4, .slice a67 q65.length c68), (2, .func (.func 78) #[] #[])]) [.int .i64 x0.Period, .int .i64 x0.Events, .slice a0_0 x0.Rules.length c0_0, .nilFunc, .func (.func 78) #[] #[], .slice (some ⟨b55, 0, none⟩) x53.length x53.length, .slice a67 q65.length c68] rfl (by kernel_rfl)) rfl (tw_sel (fun _ => (St.down hle63 ((hS.tail).tail))) (fun _ => (St.down hle63 ((hS.tail).tail)))) ?_; clear hE a; intro a hE
        refine Rg.one (i := 11) true true rfl (by kernel_rfl) (by kernel_rfl) (by kernel_rfl) ?_
        refine WL.box hE hS (runs_plain rfl) rfl rfl rfl ?_; clear hE hS a w; intro b73 a w hE hS
        refine WL.nil ?_
        refine ⟨⟨fun _ => (St.down hle63 (((hS.tail).tail).tail)), fun _ => (St.down hle63 (((hS.tail).tail).tail))⟩, ?_⟩
        refine Rg.takeP (i := 12) hE rfl (by kernel_rfl) (runs_plain rfl) (Gives.p hE rfl) rfl (tw_sel (fun _ => (St.down hle63 (((hS.tail).tail).tail))) (fun _ => (St.down hle63 (((hS.tail).tail).tail)))) ?_; clear hE a; intro a hE
        refine Rg.done (by kernel_rfl) ?_
        replace hS := hS.front 3 rfl
        replace hS := hS.front 2 rfl
        replace hS := hS.front 3 rfl
        replace hS := hS.front 3 rfl
        exact key _ _ _ _ _ _ _ _ _ hle63 h0_0 h71 h57 (hE.pick _ ⟨rfl, trivial⟩) hS
  clear hE hS a w; intro s62 cs70 cs56 b73 b55 a67 c68 a w hle74 h0_0 h71 h57 hE hS
  subst hK52
  refine W.ret ?_
  refine finG (fn := Try.f48) (rs := [.tmp 2]) (vs := [_]) hE rfl ⟨rfl, trivial⟩ ?_
  obtain rfl := Option.some.inj hr
  replace hS := hS.front 1 rfl
  replace hS := hS.front 2 rfl
  replace hS := hS.front 2 rfl
  replace hS := hS.dropAt 3
  exact ⟨b73, a0_0, c0_0, (some ⟨b55, 0, none⟩), x53.length, x53.length, cs56, a67, c68, q65.length, cs70, s62, rfl, hle74, h0_0, h57, (rfl), h71, rfl, hS⟩
set_option maxHeartbeats 8000000 in
theorem PlanSearchstart_v1_ok {fu : Nat}  {w : World} {s : Sg} {R : List HP} {pb0 : Nat} {pb1 : Nat} {pb2 : Nat} {pb3 : Nat} {pb4 : Nat} {y0_0 : Int} {y0_1 : Int} {y0_2 : List PlanRule} {a_y0_2 : Option Addr} {c_y0_2 : Nat} {y0_5 : List Int} {a_v0 : Option Addr} {c_v0 n_v0 : Nat} {cs_v0 : List Value} {y0_6 : List Bool} {a_v1 : Option Addr} {c_v1 n_v1 : Nat} {cs_v1 : List Value} {y1 : PlanPeriodic} {a_y1_2 : Option Addr} {c_y1_2 : Nat} {y2 : List Int} {a_y2_0 : Option Addr} {c_y2_0 : Nat} {y3 : Int} (hS : St w s (pt pb0 (.cells #[.int .i64 y0_0, .int .i64 y0_1, .slice a_y0_2 y0_2.length c_y0_2, .func (.func 50) #[] #[.pointer (some ⟨pb1, 0, none⟩), .pointer (some ⟨pb2, 0, none⟩), .pointer (some ⟨pb3, 0, none⟩)], .func (.func 49) #[] #[.pointer (some ⟨pb2, 0, none⟩), .pointer (some ⟨pb1, 0, none⟩), .pointer (some ⟨pb4, 0, none⟩), .pointer (some ⟨pb3, 0, none⟩)], .slice a_v0 n_v0 c_v0, .slice a_v1 n_v1 c_v1] 80 (0, 0)) :: pt pb1 (.cells #[.int .i64 y1.Period, .int .i64 y1.Events, .slice a_y1_2 y1.Rules.length c_y1_2] 24 (0, 0)) :: pt pb2 (.cells #[.slice a_y2_0 y2.length c_y2_0] 29 (0, 0)) :: pt pb3 (.cells #[.int .i64 y3] 3 (0, 0)) :: pt pb4 (.cells #[.pointer (some ⟨pb0, 0, none⟩)] 74 (0, 0)) :: vecC 3 1 a_v0 c_v0 n_v0 cs_v0 :: vecC 4 1 a_v1 c_v1 n_v1 cs_v1 :: R)) (h_y0_2 : Sl 5 RPlanRule s a_y0_2 c_y0_2 y0_2) (h_v0 : Ev 1 (RI .i64) s cs_v0 y0_5) (hn_v0 : y0_5.length = n_v0) (h_v1 : Ev 1 RB s cs_v1 y0_6) (hn_v1 : y0_6.length = n_v1) (h_y1_2 : Sl 5 RPlanRule s a_y1_2 c_y1_2 y1.Rules) (h_y2_0 : Sl 1 (RI .i64) s a_y2_0 c_y2_0 y2) (_hz_y2_0 : y2 = [] → a_y2_0 = none) {r : (Option (List Int))} (hr : PlanSearchstart_v1 fu y0_0 y0_1 y0_2 y0_5 y0_6 y1 y2 y3 = some r) :
    Calls Try.prog 53 [.pointer (some ⟨pb0, 0, none⟩)].toArray w (fun e w => ∃ (a0 : Option Addr) (t : Sg), e = .returned (.pointer a0) ∧ s.Le t ∧ Pt 64 (RA .i64 64) t a0 r ∧ St w t (pt pb0 (.cells #[.int .i64 y0_0, .int .i64 y0_1, .slice a_y0_2 y0_2.length c_y0_2, .func (.func 50) #[] #[.pointer (some ⟨pb1, 0, none⟩), .pointer (some ⟨pb2, 0, none⟩), .pointer (some ⟨pb3, 0, none⟩)], .func (.func 49) #[] #[.pointer (some ⟨pb2, 0, none⟩), .pointer (some ⟨pb1, 0, none⟩), .pointer (some ⟨pb4, 0, none⟩), .pointer (some ⟨pb3, 0, none⟩)], .slice a_v0 n_v0 c_v0, .slice a_v1 n_v1 c_v1] 80 (0, 0)) :: pt pb1 (.cells #[.int .i64 y1.Period, .int .i64 y1.Events, .slice a_y1_2 y1.Rules.length c_y1_2] 24 (0, 0)) :: pt pb2 (.cells #[.slice a_y2_0 y2.length c_y2_0] 29 (0, 0)) :: pt pb3 (.cells #[.int .i64 y3] 3 (0, 0)) :: pt pb4 (.cells #[.pointer (some ⟨pb0, 0, none⟩)] 74 (0, 0)) :: vecC 3 1 a_v0 c_v0 n_v0 cs_v0 :: vecC 4 1 a_v1 c_v1 n_v1 cs_v1 :: R)) := by
  refine enter Try.func53 rfl rfl rfl fun a hE => ?_
  rw [PlanSearchstart_v1] at hr
  subst hn_v0
  subst hn_v1
  refine W.seq ?_
  refine W.region ?_
  refine WL.vS hS hE (runs_plain rfl) (Gives.p hE rfl) rfl ?_; clear hE a; intro a hE
  refine WL.nil ?_
  refine W.seq ?_
  refine W.region ?_
  refine WL.vS hS hE (runs_plain rfl) (Gives.build hE (vs := []) [.int .i64 0, .int .i64 0, .int .i64 0, .int .i64 0, .int .i64 0, .int .i64 0, .int .i64 0, .int .i64 0, .int .i64 0, .int .i64 0, .int .i64 0, .int .i64 0, .int .i64 0, .int .i64 0, .int .i64 0, .int .i64 0, .int .i64 0, .int .i64 0, .int .i64 0, .int .i64 0, .int .i64 0, .int .i64 0, .int .i64 0, .int .i64 0, .int .i64 0, .int .i64 0, .int .i64 0, .int .i64 0, .int .i64 0, .int .i64 0, .int .i64 0, .int .i64 0, .int .i64 0, .int .i64 0, .int .i64 0, .int .i64 0, .int .i64 0, .int .i64 0, .int .i64 0, .int .i64 0, .int .i64 0, .int .i64 0, .int .i64 0, .int .i64 0, .int .i64 0, .int .i64 0, .int .i64 0, .int .i64 0, .int .i64 0, .int .i64 0, .int .i64 0, .int .i64 0, .int .i64 0, .int .i64 0, .int .i64 0, .int .i64 0, .int .i64 0, .int .i64 0, .int .i64 0, .int .i64 0, .int .i64 0, .int .i64 0, .int .i64 0, .int .i64 0] rfl (by kernel_rfl)) rfl ?_; clear hE a; intro a hE
  refine WL.box hE hS (runs_plain rfl) rfl rfl rfl ?_; clear hE hS a w; intro b51 a w hE hS
  replace hS := hS.ptVec (es := 1) (m := 64) rfl (by decide)
  have h52 : Ev 1 (RI .i64) s [.int .i64 0, .int .i64 0, .int .i64 0, .int .i64 0, .int .i64 0, .int .i64 0, .int .i64 0, .int .i64 0, .int .i64 0, .int .i64 0, .int .i64 0, .int .i64 0, .int .i64 0, .int .i64 0, .int .i64 0, .int .i64 0, .int .i64 0, .int .i64 0, .int .i64 0, .int .i64 0, .int .i64 0, .int .i64 0, .int .i64 0, .int .i64 0, .int .i64 0, .int .i64 0, .int .i64 0, .int .i64 0, .int .i64 0, .int .i64 0, .int .i64 0, .int .i64 0, .int .i64 0, .int .i64 0, .int .i64 0, .int .i64 0, .int .i64 0, .int .i64 0, .int .i64 0, .int .i64 0, .int .i64 0, .int .i64 0, .int .i64 0, .int .i64 0, .int .i64 0, .int .i64 0, .int .i64 0, .int .i64 0, .int .i64 0, .int .i64 0, .int .i64 0, .int .i64 0, .int .i64 0, .int .i64 0, .int .i64 0, .int .i64 0, .int .i64 0, .int .i64 0, .int .i64 0, .int .i64 0, .int .i64 0, .int .i64 0, .int .i64 0, .int .i64 0] (List.replicate 64 (0 : Int)) := (Ev.ofMap (k := .i64) (List.replicate 64 (0 : Int)))
  refine WL.vS hS hE (runs_plain rfl) (Gives.p hE rfl) rfl ?_; clear hE a; intro a hE
  refine WL.nil ?_
  refine W.seq ?_
  refine W.seq ?_
  refine W.region ?_
  refine WL.vS hS hE (runs_plain rfl) (Gives.p hE rfl) rfl ?_; clear hE a; intro a hE
  refine WL.vS hS hE (runs_plain rfl) (Gives.nilOk hE rfl) rfl ?_; clear hE a; intro a hE
  refine WL.vS hS hE (runs_plain rfl) (Gives.fld hE rfl fl80_0) rfl ?_; clear hE a; intro a hE
  refine WL.vS hS hE (runs_plain rfl) (Gives.fld hE rfl fl24_1) rfl ?_; clear hE a; intro a hE
  refine WL.vS hS hE (runs_plain rfl) (Gives.loadB hE 1 rfl rfl rfl ty3) rfl ?_; clear hE a; intro a hE
  refine WL.vS hS hE (runs_plain rfl) (Gives.p hE rfl) rfl ?_; clear hE a; intro a hE
  refine WL.nil ?_
  obtain ⟨q66, hq65, hr⟩ := bindS hr
  refine W.cut (fun a w => ∃ (q71 : Int), ∃ (q72 : List Int), ∃ (cs76 : List Value), (q71, q72) = q66 ∧ Ev 1 (RI .i64) s cs76 q72 ∧ q72.length = 64 ∧ Rep a 47 [(3, .pointer (some ⟨b51, 0, none⟩))] ∧ St w s (vecC 116 1 (some ⟨b51, 0, none⟩) 64 64 cs76 :: pt pb0 (.cells #[.int .i64 y0_0, .int .i64 y0_1, .slice a_y0_2 y0_2.length c_y0_2, .func (.func 50) #[] #[.pointer (some ⟨pb1, 0, none⟩), .pointer (some ⟨pb2, 0, none⟩), .pointer (some ⟨pb3, 0, none⟩)], .func (.func 49) #[] #[.pointer (some ⟨pb2, 0, none⟩), .pointer (some ⟨pb1, 0, none⟩), .pointer (some ⟨pb4, 0, none⟩), .pointer (some ⟨pb3, 0, none⟩)], .slice a_v0 y0_5.length c_v0, .slice a_v1 y0_6.length c_v1] 80 (0, 0)) :: pt pb1 (.cells #[.int .i64 y1.Period, .int .i64 y1.Events, .slice a_y1_2 y1.Rules.length c_y1_2] 24 (0, 0)) :: pt pb2 (.cells #[.slice a_y2_0 y2.length c_y2_0] 29 (0, 0)) :: pt pb3 (.cells #[.int .i64 y3] 3 (0, 0)) :: pt pb4 (.cells #[.pointer (some ⟨pb0, 0, none⟩)] 74 (0, 0)) :: vecC 3 1 a_v0 c_v0 y0_5.length cs_v0 :: vecC 4 1 a_v1 c_v1 y0_6.length cs_v1 :: R)) ?_ ?_
  · refine W.block ?_
    refine W.loop (fun m a w => ∃ (n67 : Nat), ∃ (q71 : Int), ∃ (q72 : List Int), ∃ (cs76 : List Value), n67 = m ∧ PlanSearchstart_v1.loop2 y0_0 y0_1 fu n67 q71 q72 = some q66 ∧ Ev 1 (RI .i64) s cs76 q72 ∧ q72.length = 64 ∧ Rep a 47 [(0, .pointer (some ⟨pb0, 0, none⟩)), (3, .pointer (some ⟨b51, 0, none⟩)), (12, .int .i64 y0_1), (13, .int .i64 q71)] ∧ St w s (vecC 116 1 (some ⟨b51, 0, none⟩) 64 64 cs76 :: pt pb0 (.cells #[.int .i64 y0_0, .int .i64 y0_1, .slice a_y0_2 y0_2.length c_y0_2, .func (.func 50) #[] #[.pointer (some ⟨pb1, 0, none⟩), .pointer (some ⟨pb2, 0, none⟩), .pointer (some ⟨pb3, 0, none⟩)], .func (.func 49) #[] #[.pointer (some ⟨pb2, 0, none⟩), .pointer (some ⟨pb1, 0, none⟩), .pointer (some ⟨pb4, 0, none⟩), .pointer (some ⟨pb3, 0, none⟩)], .slice a_v0 y0_5.length c_v0, .slice a_v1 y0_6.length c_v1] 80 (0, 0)) :: pt pb1 (.cells #[.int .i64 y1.Period, .int .i64 y1.Events, .slice a_y1_2 y1.Rules.length c_y1_2] 24 (0, 0)) :: pt pb2 (.cells #[.slice a_y2_0 y2.length c_y2_0] 29 (0, 0)) :: pt pb3 (.cells #[.int .i64 y3] 3 (0, 0)) :: pt pb4 (.cells #[.pointer (some ⟨pb0, 0, none⟩)] 74 (0, 0)) :: vecC 3 1 a_v0 c_v0 y0_5.length cs_v0 :: vecC 4 1 a_v1 c_v1 y0_6.length cs_v1 :: R)) (m := fu) ⟨fu, 0, (List.replicate 64 (0 : Int)), [.int .i64 0, .int .i64 0, .int .i64 0, .int .i64 0, .int .i64 0, .int .i64 0, .int .i64 0, .int .i64 0, .int .i64 0, .int .i64 0, .int .i64 0, .int .i64 0, .int .i64 0, .int .i64 0, .int .i64 0, .int .i64 0, .int .i64 0, .int .i64 0, .int .i64 0, .int .i64 0, .int .i64 0, .int .i64 0, .int .i64 0, .int .i64 0, .int .i64 0, .int .i64 0, .int .i64 0, .int .i64 0, .int .i64 0, .int .i64 0, .int .i64 0, .int .i64 0, .int .i64 0, .int .i64 0, .int .i64 0, .int .i64 0, .int .i64 0, .int .i64 0, .int .i64 0, .int .i64 0, .int .i64 0, .int .i64 0, .int .i64 0, .int .i64 0, .int .i64 0, .int .i64 0, .int .i64 0, .int .i64 0, .int .i64 0, .int .i64 0, .int .i64 0, .int .i64 0, .int .i64 0, .int .i64 0, .int .i64 0, .int .i64 0, .int .i64 0, .int .i64 0, .int .i64 0, .int .i64 0, .int .i64 0, .int .i64 0, .int .i64 0, .int .i64 0], rfl, hq65, h52, (rfl), hE.pick _ ⟨rfl, rfl, rfl, rfl, trivial⟩, hS⟩ ?_
    clear hE hS a w hq65; rintro m68 a w ⟨n67, q71, q72, cs76, rfl, hq65, h75, hn77, hE, hS⟩
    refine W.gen fun K78 hK78 => ?_
    rcases n67 with _ | n67
    · rw [PlanSearchstart_v1.loop2] at hq65; exact absurd hq65 (by simp)
    rw [PlanSearchstart_v1.loop2] at hq65
    refine W.seq ?_
    refine W.region ?_
    refine WL.vS hS hE (runs_plain rfl) (Gives.p hE rfl) rfl ?_; clear hE a; intro a hE
    refine WL.nil ?_
    refine W.seq ?_
    refine W.cond hE rfl (fun hc79 => ?_) (fun hc79 => ?_)
    · replace hq65 := iteT hc79 hq65
      refine W.skip ?_
      refine W.seq ?_
      refine W.block ?_
      refine W.seq ?_
      refine W.region ?_
      refine WL.vS hS hE (runs_plain rfl) (Gives.p hE rfl) rfl ?_; clear hE a; intro a hE
      refine WL.vS hS hE (runs_plain rfl) (Gives.p hE rfl) rfl ?_; clear hE a; intro a hE
      refine WL.nil ?_
      refine W.seq ?_
      refine W.seq ?_
      refine W.region ?_
      refine WL.vS hS hE (runs_plain rfl) (Gives.p hE rfl) rfl ?_; clear hE a; intro a hE
      refine WL.vS hS hE (runs_plain rfl) (Gives.nilOk hE rfl) rfl ?_; clear hE a; intro a hE
      refine WL.vS hS hE (runs_plain rfl) (Gives.fld hE rfl fl80_0) rfl ?_; clear hE a; intro a hE
      refine WL.vS hS hE (runs_plain rfl) (Gives.fld hE rfl fl24_1) rfl ?_; clear hE a; intro a hE
      refine WL.vS hS hE (runs_plain rfl) (Gives.loadB hE 1 rfl rfl rfl ty3) rfl ?_; clear hE a; intro a hE
      refine WL.vS hS hE (runs_plain rfl) (Gives.p hE rfl) rfl ?_; clear hE a; intro a hE
      refine WL.nil ?_
      obtain ⟨q92, hq91, hq65⟩ := bindS hq65
      refine W.cut (fun a w => ∃ (q97 : Int), ∃ (q98 : List Int), ∃ (cs102 : List Value), (q97, q98) = q92 ∧ Ev 1 (RI .i64) s cs102 q98 ∧ q98.length = 64 ∧ Rep a 47 [(0, .pointer (some ⟨pb0, 0, none⟩)), (3, .pointer (some ⟨b51, 0, none⟩)), (4, .int .i64 q71), (12, .int .i64 y0_1), (13, .int .i64 q71)] ∧ St w s (vecC 116 1 (some ⟨b51, 0, none⟩) 64 64 cs102 :: pt pb0 (.cells #[.int .i64 y0_0, .int .i64 y0_1, .slice a_y0_2 y0_2.length c_y0_2, .func (.func 50) #[] #[.pointer (some ⟨pb1, 0, none⟩), .pointer (some ⟨pb2, 0, none⟩), .pointer (some ⟨pb3, 0, none⟩)], .func (.func 49) #[] #[.pointer (some ⟨pb2, 0, none⟩), .pointer (some ⟨pb1, 0, none⟩), .pointer (some ⟨pb4, 0, none⟩), .pointer (some ⟨pb3, 0, none⟩)], .slice a_v0 y0_5.length c_v0, .slice a_v1 y0_6.length c_v1] 80 (0, 0)) :: pt pb1 (.cells #[.int .i64 y1.Period, .int .i64 y1.Events, .slice a_y1_2 y1.Rules.length c_y1_2] 24 (0, 0)) :: pt pb2 (.cells #[.slice a_y2_0 y2.length c_y2_0] 29 (0, 0)) :: pt pb3 (.cells #[.int .i64 y3] 3 (0, 0)) :: pt pb4 (.cells #[.pointer (some ⟨pb0, 0, none⟩)] 74 (0, 0)) :: vecC 3 1 a_v0 c_v0 y0_5.length cs_v0 :: vecC 4 1 a_v1 c_v1 y0_6.length cs_v1 :: R)) ?_ ?_
      · refine W.block ?_
        refine W.loop (fun m a w => ∃ (n93 : Nat), ∃ (q97 : Int), ∃ (q98 : List Int), ∃ (cs102 : List Value), n93 = m ∧ PlanSearchstart_v1.loop4 y0_0 y0_1 q71 n93 q97 q98 = some q92 ∧ Ev 1 (RI .i64) s cs102 q98 ∧ q98.length = 64 ∧ Rep a 47 [(0, .pointer (some ⟨pb0, 0, none⟩)), (3, .pointer (some ⟨b51, 0, none⟩)), (4, .int .i64 q71), (12, .int .i64 y0_1), (13, .int .i64 q71), (20, .int .i64 y0_1), (21, .int .i64 q97)] ∧ St w s (vecC 116 1 (some ⟨b51, 0, none⟩) 64 64 cs102 :: pt pb0 (.cells #[.int .i64 y0_0, .int .i64 y0_1, .slice a_y0_2 y0_2.length c_y0_2, .func (.func 50) #[] #[.pointer (some ⟨pb1, 0, none⟩), .pointer (some ⟨pb2, 0, none⟩), .pointer (some ⟨pb3, 0, none⟩)], .func (.func 49) #[] #[.pointer (some ⟨pb2, 0, none⟩), .pointer (some ⟨pb1, 0, none⟩), .pointer (some ⟨pb4, 0, none⟩), .pointer (some ⟨pb3, 0, none⟩)], .slice a_v0 y0_5.length c_v0, .slice a_v1 y0_6.length c_v1] 80 (0, 0)) :: pt pb1 (.cells #[.int .i64 y1.Period, .int .i64 y1.Events, .slice a_y1_2 y1.Rules.length c_y1_2] 24 (0, 0)) :: pt pb2 (.cells #[.slice a_y2_0 y2.length c_y2_0] 29 (0, 0)) :: pt pb3 (.cells #[.int .i64 y3] 3 (0, 0)) :: pt pb4 (.cells #[.pointer (some ⟨pb0, 0, none⟩)] 74 (0, 0)) :: vecC 3 1 a_v0 c_v0 y0_5.length cs_v0 :: vecC 4 1 a_v1 c_v1 y0_6.length cs_v1 :: R)) (m := fu) ⟨fu, 0, q72, cs76, rfl, hq91, h75, hn77, hE.pick _ ⟨rfl, rfl, rfl, rfl, rfl, rfl, rfl, trivial⟩, hS⟩ ?_
        clear hE hS a w hq91; rintro m94 a w ⟨n93, q97, q98, cs102, rfl, hq91, h101, hn103, hE, hS⟩
        refine W.gen fun K104 hK104 => ?_
        rcases n93 with _ | n93
        · rw [PlanSearchstart_v1.loop4] at hq91; exact absurd hq91 (by simp)
        rw [PlanSearchstart_v1.loop4] at hq91
        refine W.seq ?_
        refine W.region ?_
        refine WL.vS hS hE (runs_plain rfl) (Gives.p hE rfl) rfl ?_; clear hE a; intro a hE
        refine WL.nil ?_
        refine W.seq ?_
        refine W.cond hE rfl (fun hc105 => ?_) (fun hc105 => ?_)
        · replace hq91 := iteT hc105 hq91
          refine W.skip ?_
          refine W.seq ?_
          refine W.block ?_
          refine W.seq ?_
          refine W.region ?_
          refine WL.vS hS hE (runs_plain rfl) (Gives.p hE rfl) rfl ?_; clear hE a; intro a hE
          refine WL.vS hS hE (runs_plain rfl) (Gives.p hE rfl) rfl ?_; clear hE a; intro a hE
          refine WL.nil ?_
          refine W.seq ?_
          refine W.region ?_
          refine WL.vS hS hE (runs_plain rfl) (Gives.p hE rfl) rfl ?_; clear hE a; intro a hE
          refine WL.vS hS hE (runs_plain rfl) (Gives.p hE rfl) rfl ?_; clear hE a; intro a hE
          refine WL.vS hS hE (runs_plain rfl) (Gives.p hE rfl) rfl ?_; clear hE a; intro a hE
          refine WL.nil ?_
          obtain ⟨q107, hq106, hq91⟩ := bindS hq91
          refine W.cut (fun a w => ∃ (q110 : List Int), ∃ (cs114 : List Value), q110 = q107 ∧ Ev 1 (RI .i64) s cs114 q110 ∧ q110.length = 64 ∧ Rep a 47 [(0, .pointer (some ⟨pb0, 0, none⟩)), (3, .pointer (some ⟨b51, 0, none⟩)), (4, .int .i64 q71), (12, .int .i64 y0_1), (13, .int .i64 q71), (20, .int .i64 y0_1), (21, .int .i64 q97)] ∧ St w s (vecC 116 1 (some ⟨b51, 0, none⟩) 64 64 cs114 :: pt pb0 (.cells #[.int .i64 y0_0, .int .i64 y0_1, .slice a_y0_2 y0_2.length c_y0_2, .func (.func 50) #[] #[.pointer (some ⟨pb1, 0, none⟩), .pointer (some ⟨pb2, 0, none⟩), .pointer (some ⟨pb3, 0, none⟩)], .func (.func 49) #[] #[.pointer (some ⟨pb2, 0, none⟩), .pointer (some ⟨pb1, 0, none⟩), .pointer (some ⟨pb4, 0, none⟩), .pointer (some ⟨pb3, 0, none⟩)], .slice a_v0 y0_5.length c_v0, .slice a_v1 y0_6.length c_v1] 80 (0, 0)) :: pt pb1 (.cells #[.int .i64 y1.Period, .int .i64 y1.Events, .slice a_y1_2 y1.Rules.length c_y1_2] 24 (0, 0)) :: pt pb2 (.cells #[.slice a_y2_0 y2.length c_y2_0] 29 (0, 0)) :: pt pb3 (.cells #[.int .i64 y3] 3 (0, 0)) :: pt pb4 (.cells #[.pointer (some ⟨pb0, 0, none⟩)] 74 (0, 0)) :: vecC 3 1 a_v0 c_v0 y0_5.length cs_v0 :: vecC 4 1 a_v1 c_v1 y0_6.length cs_v1 :: R)) ?_ ?_
          · refine W.gen fun K116 hK116 => ?_
            refine W.cond hE rfl (fun hc117 => ?_) (fun hc117 => ?_)
            · replace hq106 := iteT hc117 hq106
              refine W.gen fun K118 hK118 => ?_
              refine W.regionE (sel (fun w => St w s (vecC 116 1 (some ⟨b51, 0, none⟩) 64 64 cs102 :: pt pb0 (.cells #[.int .i64 y0_0, .int .i64 y0_1, .slice a_y0_2 y0_2.length c_y0_2, .func (.func 50) #[] #[.pointer (some ⟨pb1, 0, none⟩), .pointer (some ⟨pb2, 0, none⟩), .pointer (some ⟨pb3, 0, none⟩)], .func (.func 49) #[] #[.pointer (some ⟨pb2, 0, none⟩), .pointer (some ⟨pb1, 0, none⟩), .pointer (some ⟨pb4, 0, none⟩), .pointer (some ⟨pb3, 0, none⟩)], .slice a_v0 y0_5.length c_v0, .slice a_v1 y0_6.length c_v1] 80 (0, 0)) :: pt pb1 (.cells #[.int .i64 y1.Period, .int .i64 y1.Events, .slice a_y1_2 y1.Rules.length c_y1_2] 24 (0, 0)) :: pt pb2 (.cells #[.slice a_y2_0 y2.length c_y2_0] 29 (0, 0)) :: pt pb3 (.cells #[.int .i64 y3] 3 (0, 0)) :: pt pb4 (.cells #[.pointer (some ⟨pb0, 0, none⟩)] 74 (0, 0)) :: vecC 3 1 a_v0 c_v0 y0_5.length cs_v0 :: vecC 4 1 a_v1 c_v1 y0_6.length cs_v1 :: R)) (fun w => St w s (pt pb0 (.cells #[.int .i64 y0_0, .int .i64 y0_1, .slice a_y0_2 y0_2.length c_y0_2, .func (.func 50) #[] #[.pointer (some ⟨pb1, 0, none⟩), .pointer (some ⟨pb2, 0, none⟩), .pointer (some ⟨pb3, 0, none⟩)], .func (.func 49) #[] #[.pointer (some ⟨pb2, 0, none⟩), .pointer (some ⟨pb1, 0, none⟩), .pointer (some ⟨pb4, 0, none⟩), .pointer (some ⟨pb3, 0, none⟩)], .slice a_v0 y0_5.length c_v0, .slice a_v1 y0_6.length c_v1] 80 (0, 0)) :: pt pb1 (.cells #[.int .i64 y1.Period, .int .i64 y1.Events, .slice a_y1_2 y1.Rules.length c_y1_2] 24 (0, 0)) :: pt pb2 (.cells #[.slice a_y2_0 y2.length c_y2_0] 29 (0, 0)) :: pt pb3 (.cells #[.int .i64 y3] 3 (0, 0)) :: pt pb4 (.cells #[.pointer (some ⟨pb0, 0, none⟩)] 74 (0, 0)) :: vecC 3 1 a_v0 c_v0 y0_5.length cs_v0 :: vecC 4 1 a_v1 c_v1 y0_6.length cs_v1 :: R))) (fun b i => cond b ([0, 1, 2, 3, 4, 5, 6, 7, 8, 9, 10, 11].contains i) ([0, 1, 2, 3, 4, 5, 6, 7, 8, 9, 10, 11, 12].contains i)) mixed ?_
              replace hS := hS.drew
              refine Rg.takeP (i := 0) hE rfl (by kernel_rfl) (runs_plain rfl) (Gives.p hE rfl) rfl (tw_sel (fun _ => hS) (fun _ => (hS.tail))) ?_; clear hE a; intro a hE
              refine Rg.takeP (i := 1) hE rfl (by kernel_rfl) (runs_plain rfl) (Gives.p hE rfl) rfl (tw_sel (fun _ => hS) (fun _ => (hS.tail))) ?_; clear hE a; intro a hE
              refine Rg.takeP (i := 2) hE rfl (by kernel_rfl) (runs_plain rfl) (Gives.p hE rfl) rfl (tw_sel (fun _ => hS) (fun _ => (hS.tail))) ?_; clear hE a; intro a hE
              refine Rg.takeP (i := 3) hE rfl (by kernel_rfl) (runs_plain rfl) (Gives.p hE rfl) rfl (tw_sel (fun _ => hS) (fun _ => (hS.tail))) ?_; clear hE a; intro a hE
              have hT := tw_sel (A := fun w => St w s (vecC 116 1 (some ⟨b51, 0, none⟩) 64 64 cs102 :: pt pb0 (.cells #[.int .i64 y0_0, .int .i64 y0_1, .slice a_y0_2 y0_2.length c_y0_2, .func (.func 50) #[] #[.pointer (some ⟨pb1, 0, none⟩), .pointer (some ⟨pb2, 0, none⟩), .pointer (some ⟨pb3, 0, none⟩)], .func (.func 49) #[] #[.pointer (some ⟨pb2, 0, none⟩), .pointer (some ⟨pb1, 0, none⟩), .pointer (some ⟨pb4, 0, none⟩), .pointer (some ⟨pb3, 0, none⟩)], .slice a_v0 y0_5.length c_v0, .slice a_v1 y0_6.length c_v1] 80 (0, 0)) :: pt pb1 (.cells #[.int .i64 y1.Period, .int .i64 y1.Events, .slice a_y1_2 y1.Rules.length c_y1_2] 24 (0, 0)) :: pt pb2 (.cells #[.slice a_y2_0 y2.length c_y2_0] 29 (0, 0)) :: pt pb3 (.cells #[.int .i64 y3] 3 (0, 0)) :: pt pb4 (.cells #[.pointer (some ⟨pb0, 0, none⟩)] 74 (0, 0)) :: vecC 3 1 a_v0 c_v0 y0_5.length cs_v0 :: vecC 4 1 a_v1 c_v1 y0_6.length cs_v1 :: R)) (B := fun w => St w s (pt pb0 (.cells #[.int .i64 y0_0, .int .i64 y0_1, .slice a_y0_2 y0_2.length c_y0_2, .func (.func 50) #[] #[.pointer (some ⟨pb1, 0, none⟩), .pointer (some ⟨pb2, 0, none⟩), .pointer (some ⟨pb3, 0, none⟩)], .func (.func 49) #[] #[.pointer (some ⟨pb2, 0, none⟩), .pointer (some ⟨pb1, 0, none⟩), .pointer (some ⟨pb4, 0, none⟩), .pointer (some ⟨pb3, 0, none⟩)], .slice a_v0 y0_5.length c_v0, .slice a_v1 y0_6.length c_v1] 80 (0, 0)) :: pt pb1 (.cells #[.int .i64 y1.Period, .int .i64 y1.Events, .slice a_y1_2 y1.Rules.length c_y1_2] 24 (0, 0)) :: pt pb2 (.cells #[.slice a_y2_0 y2.length c_y2_0] 29 (0, 0)) :: pt pb3 (.cells #[.int .i64 y3] 3 (0, 0)) :: pt pb4 (.cells #[.pointer (some ⟨pb0, 0, none⟩)] 74 (0, 0)) :: vecC 3 1 a_v0 c_v0 y0_5.length cs_v0 :: vecC 4 1 a_v1 c_v1 y0_6.length cs_v1 :: R)) (w := _) (x := true) (y := true) (fun _ => hS) (fun _ => (hS.tail))
              have hF := hS; replace hS := hS
              refine Rg.take (i := 4) true rfl hE rfl (by kernel_rfl) (runs_plain rfl) (Gives.nilOk hE rfl) rfl hT ?_; clear hE a; intro a hE
              replace hS := hF; clear hF hT
              refine Rg.takeP (i := 5) hE rfl (by kernel_rfl) (runs_plain rfl) (Gives.fld hE rfl fl80_0) rfl (tw_sel (fun _ => hS) (fun _ => (hS.tail))) ?_; clear hE a; intro a hE
              refine Rg.takeP (i := 6) hE rfl (by kernel_rfl) (runs_plain rfl) (Gives.fld hE rfl fl24_0) rfl (tw_sel (fun _ => hS) (fun _ => (hS.tail))) ?_; clear hE a; intro a hE
              have hT := tw_sel (A := fun w => St w s (vecC 116 1 (some ⟨b51, 0, none⟩) 64 64 cs102 :: pt pb0 (.cells #[.int .i64 y0_0, .int .i64 y0_1, .slice a_y0_2 y0_2.length c_y0_2, .func (.func 50) #[] #[.pointer (some ⟨pb1, 0, none⟩), .pointer (some ⟨pb2, 0, none⟩), .pointer (some ⟨pb3, 0, none⟩)], .func (.func 49) #[] #[.pointer (some ⟨pb2, 0, none⟩), .pointer (some ⟨pb1, 0, none⟩), .pointer (some ⟨pb4, 0, none⟩), .pointer (some ⟨pb3, 0, none⟩)], .slice a_v0 y0_5.length c_v0, .slice a_v1 y0_6.length c_v1] 80 (0, 0)) :: pt pb1 (.cells #[.int .i64 y1.Period, .int .i64 y1.Events, .slice a_y1_2 y1.Rules.length c_y1_2] 24 (0, 0)) :: pt pb2 (.cells #[.slice a_y2_0 y2.length c_y2_0] 29 (0, 0)) :: pt pb3 (.cells #[.int .i64 y3] 3 (0, 0)) :: pt pb4 (.cells #[.pointer (some ⟨pb0, 0, none⟩)] 74 (0, 0)) :: vecC 3 1 a_v0 c_v0 y0_5.length cs_v0 :: vecC 4 1 a_v1 c_v1 y0_6.length cs_v1 :: R)) (B := fun w => St w s (pt pb0 (.cells #[.int .i64 y0_0, .int .i64 y0_1, .slice a_y0_2 y0_2.length c_y0_2, .func (.func 50) #[] #[.pointer (some ⟨pb1, 0, none⟩), .pointer (some ⟨pb2, 0, none⟩), .pointer (some ⟨pb3, 0, none⟩)], .func (.func 49) #[] #[.pointer (some ⟨pb2, 0, none⟩), .pointer (some ⟨pb1, 0, none⟩), .pointer (some ⟨pb4, 0, none⟩), .pointer (some ⟨pb3, 0, none⟩)], .slice a_v0 y0_5.length c_v0, .slice a_v1 y0_6.length c_v1] 80 (0, 0)) :: pt pb1 (.cells #[.int .i64 y1.Period, .int .i64 y1.Events, .slice a_y1_2 y1.Rules.length c_y1_2] 24 (0, 0)) :: pt pb2 (.cells #[.slice a_y2_0 y2.length c_y2_0] 29 (0, 0)) :: pt pb3 (.cells #[.int .i64 y3] 3 (0, 0)) :: pt pb4 (.cells #[.pointer (some ⟨pb0, 0, none⟩)] 74 (0, 0)) :: vecC 3 1 a_v0 c_v0 y0_5.length cs_v0 :: vecC 4 1 a_v1 c_v1 y0_6.length cs_v1 :: R)) (w := _) (x := true) (y := true) (fun _ => hS) (fun _ => (hS.tail))
              have hF := hS; replace hS := hS
              refine Rg.take (i := 7) true rfl hE rfl (by kernel_rfl) (runs_plain rfl) (Gives.loadB hE 1 rfl rfl rfl ty3) rfl hT ?_; clear hE a; intro a hE
              replace hS := hF; clear hF hT
              refine Rg.takeP (i := 8) hE rfl (by kernel_rfl) (runs_plain rfl) (Gives.p hE rfl) rfl (tw_sel (fun _ => hS) (fun _ => (hS.tail))) ?_; clear hE a; intro a hE
              have hT := tw_sel (A := fun w => St w s (vecC 116 1 (some ⟨b51, 0, none⟩) 64 64 cs102 :: pt pb0 (.cells #[.int .i64 y0_0, .int .i64 y0_1, .slice a_y0_2 y0_2.length c_y0_2, .func (.func 50) #[] #[.pointer (some ⟨pb1, 0, none⟩), .pointer (some ⟨pb2, 0, none⟩), .pointer (some ⟨pb3, 0, none⟩)], .func (.func 49) #[] #[.pointer (some ⟨pb2, 0, none⟩), .pointer (some ⟨pb1, 0, none⟩), .pointer (some ⟨pb4, 0, none⟩), .pointer (some ⟨pb3, 0, none⟩)], .slice a_v0 y0_5.length c_v0, .slice a_v1 y0_6.length c_v1] 80 (0, 0)) :: pt pb1 (.cells #[.int .i64 y1.Period, .int .i64 y1.Events, .slice a_y1_2 y1.Rules.length c_y1_2] 24 (0, 0)) :: pt pb2 (.cells #[.slice a_y2_0 y2.length c_y2_0] 29 (0, 0)) :: pt pb3 (.cells #[.int .i64 y3] 3 (0, 0)) :: pt pb4 (.cells #[.pointer (some ⟨pb0, 0, none⟩)] 74 (0, 0)) :: vecC 3 1 a_v0 c_v0 y0_5.length cs_v0 :: vecC 4 1 a_v1 c_v1 y0_6.length cs_v1 :: R)) (B := fun w => St w s (pt pb0 (.cells #[.int .i64 y0_0, .int .i64 y0_1, .slice a_y0_2 y0_2.length c_y0_2, .func (.func 50) #[] #[.pointer (some ⟨pb1, 0, none⟩), .pointer (some ⟨pb2, 0, none⟩), .pointer (some ⟨pb3, 0, none⟩)], .func (.func 49) #[] #[.pointer (some ⟨pb2, 0, none⟩), .pointer (some ⟨pb1, 0, none⟩), .pointer (some ⟨pb4, 0, none⟩), .pointer (some ⟨pb3, 0, none⟩)], .slice a_v0 y0_5.length c_v0, .slice a_v1 y0_6.length c_v1] 80 (0, 0)) :: pt pb1 (.cells #[.int .i64 y1.Period, .int .i64 y1.Events, .slice a_y1_2 y1.Rules.length c_y1_2] 24 (0, 0)) :: pt pb2 (.cells #[.slice a_y2_0 y2.length c_y2_0] 29 (0, 0)) :: pt pb3 (.cells #[.int .i64 y3] 3 (0, 0)) :: pt pb4 (.cells #[.pointer (some ⟨pb0, 0, none⟩)] 74 (0, 0)) :: vecC 3 1 a_v0 c_v0 y0_5.length cs_v0 :: vecC 4 1 a_v1 c_v1 y0_6.length cs_v1 :: R)) (w := _) (x := true) (y := true) (fun _ => hS) (fun _ => (hS.tail))
              have hF := hS; replace hS := (hS.tail)
              refine Rg.take (i := 9) false rfl hE rfl (by kernel_rfl) (runs_plain rfl) (Gives.nilOk hE rfl) rfl hT ?_; clear hE a; intro a hE
              replace hS := hF; clear hF hT
              obtain ⟨_, hx119, hq106⟩ := bindS hq106
              obtain ⟨h120, h121⟩ := bx_some hx119
              refine Rg.takeP (i := 10) hE rfl (by kernel_rfl) (runs_plain rfl) (Gives.idxG hE ((q71).toNat) rfl rfl an116 h120 h121 (hS.vecAok 0 rfl (k := 0) (by decide)) rfl) rfl (tw_sel (fun _ => hS) (fun _ => (hS.tail))) ?_; clear hE a; intro a hE
              obtain ⟨_, hx122, hq106⟩ := bindS hq106
              obtain ⟨h123, h124⟩ := bx_some hx122
              refine Rg.takeP (i := 11) hE rfl (by kernel_rfl) (runs_plain rfl) (Gives.idxG hE ((q97).toNat) rfl rfl an81 h123 h124 ⟨_, _, rfl⟩ (by show ao (some ⟨b51, 0, none⟩) + (q71).toNat * 8 + (q97).toNat * 1 = ao (some ⟨b51, 0, none⟩) + ((q71 * 8 + q97)).toNat * 1; omega)) rfl (tw_sel (fun _ => hS) (fun _ => (hS.tail))) ?_; clear hE a; intro a hE
              refine Rg.one (i := 12) false true rfl (by kernel_rfl) (by kernel_rfl) (by kernel_rfl) ?_
              obtain ⟨x125, hx126, hq106⟩ := bindS hq106
              refine WL.setD hE hS 0 rfl (runs_plain rfl) rfl rfl (vs := [.int .i64 (w64 (y0_0 - 1))]) rfl ty3 rfl rfl rfl h101 hn103 (sx_some hx126).1 hx126 rfl rfl ?_; clear hE hS a w; intro cs127 a w h128 hn129 hE hS
              refine WL.nil ?_
              refine ⟨⟨fun h => absurd h (by decide), fun _ => (hS.tail)⟩, ?_⟩
              refine Rg.done (by kernel_rfl) ?_
              subst hK118
              subst hK116
              exact ⟨x125, cs127, Option.some.inj hq106, h128, hn129, hE.pick _ ⟨rfl, rfl, rfl, rfl, rfl, rfl, rfl, trivial⟩, hS⟩
            · replace hq106 := iteF hc117 hq106
              refine W.skip ?_
              subst hK116
              exact ⟨q98, cs102, Option.some.inj hq106, h101, hn103, hE.pick _ ⟨rfl, rfl, rfl, rfl, rfl, rfl, rfl, trivial⟩, hS⟩
          · clear hE hS a w; rintro a w ⟨q110, cs114, rfl, h113, hn115, hE, hS⟩
            refine W.region ?_
            refine WL.vS hS hE (runs_plain rfl) (Gives.p hE rfl) rfl ?_; clear hE a; intro a hE
            refine WL.vS hS hE (runs_plain rfl) (Gives.p hE rfl) rfl ?_; clear hE a; intro a hE
            refine WL.nil ?_
            subst hK104
            exact ⟨n93, Nat.lt_succ_self _, n93, (w64 (q97 + 1)), q110, cs114, rfl, hq91, h113, hn115, hE.pick _ ⟨rfl, rfl, rfl, rfl, rfl, rfl, rfl, trivial⟩, hS⟩
        · replace hq91 := iteF hc105 hq91
          subst hK104
          refine W.exit rfl ?_
          exact ⟨q97, q98, cs102, Option.some.inj hq91, h101, hn103, hE.pick _ ⟨rfl, rfl, rfl, rfl, rfl, trivial⟩, hS⟩
      · clear hE hS a w; rintro a w ⟨q97, q98, cs102, rfl, h101, hn103, hE, hS⟩
        dsimp only at hq65
        refine W.region ?_
        refine WL.vS hS hE (runs_plain rfl) (Gives.p hE rfl) rfl ?_; clear hE a; intro a hE
        refine WL.vS hS hE (runs_plain rfl) (Gives.p hE rfl) rfl ?_; clear hE a; intro a hE
        refine WL.vS hS hE (runs_plain rfl) (Gives.nilOk hE rfl) rfl ?_; clear hE a; intro a hE
        obtain ⟨_, hx130, hq65⟩ := bindS hq65
        obtain ⟨h131, h132⟩ := bx_some hx130
        refine WL.vS hS hE (runs_plain rfl) (Gives.idxG hE ((q71).toNat) rfl rfl an116 h131 h132 (hS.vecAok 0 rfl (k := 0) (by decide)) rfl) rfl ?_; clear hE a; intro a hE
        obtain ⟨_, hx133, hq65⟩ := bindS hq65
        obtain ⟨h134, h135⟩ := bx_some hx133
        refine WL.vS hS hE (runs_plain rfl) (Gives.idxG hE (((0 : Int)).toNat) rfl rfl an81 h134 h135 ⟨_, _, rfl⟩ (by show ao (some ⟨b51, 0, none⟩) + (q71).toNat * 8 + ((0 : Int)).toNat * 1 = ao (some ⟨b51, 0, none⟩) + ((q71 * 8 + 0)).toNat * 1; omega)) rfl ?_; clear hE a; intro a hE
        obtain ⟨x136, hx137, hq65⟩ := bindS hq65
        refine WL.setD hE hS 0 rfl (runs_plain rfl) rfl rfl (vs := [.int .i64 0]) rfl ty3 rfl rfl rfl h101 hn103 (sx_some hx137).1 hx137 rfl rfl ?_; clear hE hS a w; intro cs138 a w h139 hn140 hE hS
        refine WL.nil ?_
        refine W.region ?_
        refine WL.vS hS hE (runs_plain rfl) (Gives.p hE rfl) rfl ?_; clear hE a; intro a hE
        refine WL.vS hS hE (runs_plain rfl) (Gives.p hE rfl) rfl ?_; clear hE a; intro a hE
        refine WL.nil ?_
        subst hK78
        exact ⟨n67, Nat.lt_succ_self _, n67, (w64 (q71 + 1)), x136, cs138, rfl, hq65, h139, hn140, hE.pick _ ⟨rfl, rfl, rfl, rfl, trivial⟩, hS⟩
    · replace hq65 := iteF hc79 hq65
      subst hK78
      refine W.exit rfl ?_
      exact ⟨q71, q72, cs76, Option.some.inj hq65, h75, hn77, hE.pick _ ⟨rfl, trivial⟩, hS⟩
  · clear hE hS a w; rintro a w ⟨q71, q72, cs76, rfl, h75, hn77, hE, hS⟩
    dsimp only at hr
    refine W.seq ?_
    refine W.region ?_
    refine WL.vS hS hE (runs_plain rfl) (Gives.p hE rfl) rfl ?_; clear hE a; intro a hE
    refine WL.vS hS hE (runs_plain rfl) (Gives.p hE rfl) rfl ?_; clear hE a; intro a hE
    refine WL.nil ?_
    refine W.ret ?_
    have hF := hS.fixA 0 rfl h75 hn77 (by decide); clear hS; obtain ⟨s141, hle142, hS, h143⟩ := hF
    replace h_y0_2 := Sl.mono RPlanRule.mono hle142 h_y0_2
    replace h_y1_2 := Sl.mono RPlanRule.mono hle142 h_y1_2
    replace h_y2_0 := Sl.mono RI.mono hle142 h_y2_0
    replace h_v0 := Ev.mono RI.mono hle142 h_v0
    replace h_v1 := Ev.mono RB.mono hle142 h_v1
    refine finG (fn := Try.f53) (rs := [.tmp 2]) (vs := [_]) hE rfl ⟨rfl, trivial⟩ ?_
    obtain rfl := Option.some.inj hr
    exact ⟨(some ⟨b51, 0, none⟩), s141, rfl, hle142, h143, hS⟩
set_option maxHeartbeats 8000000 in
theorem PlanBest_1_v1_ok  {w : World} {s : Sg} {R : List HP} {pb0 : Nat} {pb1 : Nat} {pb2 : Nat} {pb3 : Nat} {pb4 : Nat} {x0 : Option (List Int)} {a0 : Option Addr} {y0 : List Int} {a_y0_0 : Option Addr} {c_y0_0 : Nat} {y1 : PlanPeriodic} {a_y1_2 : Option Addr} {c_y1_2 : Nat} {y3 : Int} {y4_0 : Int} {y4_1 : Int} {y4_2 : List PlanRule} {a_y4_2 : Option Addr} {c_y4_2 : Nat} {y4_5 : List Int} {a_v0 : Option Addr} {c_v0 n_v0 : Nat} {cs_v0 : List Value} {y4_6 : List Bool} {a_v1 : Option Addr} {c_v1 n_v1 : Nat} {cs_v1 : List Value} (hS : St w s (pt pb0 (.cells #[.slice a_y0_0 y0.length c_y0_0] 29 (0, 0)) :: pt pb1 (.cells #[.int .i64 y1.Period, .int .i64 y1.Events, .slice a_y1_2 y1.Rules.length c_y1_2] 24 (0, 0)) :: pt pb2 (.cells #[.pointer (some ⟨pb4, 0, none⟩)] 74 (0, 0)) :: pt pb3 (.cells #[.int .i64 y3] 3 (0, 0)) :: pt pb4 (.cells #[.int .i64 y4_0, .int .i64 y4_1, .slice a_y4_2 y4_2.length c_y4_2, .func (.func 50) #[] #[.pointer (some ⟨pb1, 0, none⟩), .pointer (some ⟨pb0, 0, none⟩), .pointer (some ⟨pb3, 0, none⟩)], .func (.func 49) #[] #[.pointer (some ⟨pb0, 0, none⟩), .pointer (some ⟨pb1, 0, none⟩), .pointer (some ⟨pb2, 0, none⟩), .pointer (some ⟨pb3, 0, none⟩)], .slice a_v0 n_v0 c_v0, .slice a_v1 n_v1 c_v1] 80 (0, 0)) :: vecC 3 1 a_v0 c_v0 n_v0 cs_v0 :: vecC 4 1 a_v1 c_v1 n_v1 cs_v1 :: R)) (h0 : Pt 64 (RA .i64 64) s a0 x0) (h_y0_0 : Sl 1 (RI .i64) s a_y0_0 c_y0_0 y0) (hz_y0_0 : y0 = [] → a_y0_0 = none) (h_y1_2 : Sl 5 RPlanRule s a_y1_2 c_y1_2 y1.Rules) (_h_y4_2 : Sl 5 RPlanRule s a_y4_2 c_y4_2 y4_2) (h_v0 : Ev 1 (RI .i64) s cs_v0 y4_5) (hn_v0 : y4_5.length = n_v0) (h_v1 : Ev 1 RB s cs_v1 y4_6) (hn_v1 : y4_6.length = n_v1) {r : Bool} (hr : PlanBest_1_v1 x0 y0 y1 y3 y4_0 y4_1 y4_2 y4_5 y4_6 = some r) :
    Calls Try.prog 49 [.pointer a0, .pointer (some ⟨pb0, 0, none⟩), .pointer (some ⟨pb1, 0, none⟩), .pointer (some ⟨pb2, 0, none⟩), .pointer (some ⟨pb3, 0, none⟩)].toArray w (fun e w => e = .returned (.bool r) ∧ St w s (pt pb0 (.cells #[.slice a_y0_0 y0.length c_y0_0] 29 (0, 0)) :: pt pb1 (.cells #[.int .i64 y1.Period, .int .i64 y1.Events, .slice a_y1_2 y1.Rules.length c_y1_2] 24 (0, 0)) :: pt pb2 (.cells #[.pointer (some ⟨pb4, 0, none⟩)] 74 (0, 0)) :: pt pb3 (.cells #[.int .i64 y3] 3 (0, 0)) :: pt pb4 (.cells #[.int .i64 y4_0, .int .i64 y4_1, .slice a_y4_2 y4_2.length c_y4_2, .func (.func 50) #[] #[.pointer (some ⟨pb1, 0, none⟩), .pointer (some ⟨pb0, 0, none⟩), .pointer (some ⟨pb3, 0, none⟩)], .func (.func 49) #[] #[.pointer (some ⟨pb0, 0, none⟩), .pointer (some ⟨pb1, 0, none⟩), .pointer (some ⟨pb2, 0, none⟩), .pointer (some ⟨pb3, 0, none⟩)], .slice a_v0 n_v0 c_v0, .slice a_v1 n_v1 c_v1] 80 (0, 0)) :: vecC 3 1 a_v0 c_v0 n_v0 cs_v0 :: vecC 4 1 a_v1 c_v1 n_v1 cs_v1 :: R)) := by
  refine enter Try.func49 rfl rfl rfl fun a hE => ?_
  rw [PlanBest_1_v1] at hr
  subst hn_v0
  subst hn_v1
  refine W.seq ?_
  refine W.region ?_
  refine WL.vS hS hE (runs_plain rfl) (Gives.p hE rfl) rfl ?_; clear hE a; intro a hE
  refine WL.nil ?_
  refine W.seq ?_
  refine W.seq ?_
  refine W.region ?_
  refine WL.vS hS hE (runs_plain rfl) (Gives.loadB hE 0 rfl rfl rfl ty29) rfl ?_; clear hE a; intro a hE
  refine WL.vS hS hE (runs_plain rfl) (Gives.isNilZ hE (isNone_eq h_y0_0 hz_y0_0) rfl rfl isl29) rfl ?_; clear hE a; intro a hE
  refine WL.nil ?_
  refine W.cond hE rfl (fun hc51 => ?_) (fun hc51 => ?_)
  · replace hr := iteT hc51 hr
    refine W.seq ?_
    refine W.region ?_
    refine WL.vS hS hE (runs_plain rfl) (Gives.p hE rfl) rfl ?_; clear hE a; intro a hE
    refine WL.nil ?_
    refine W.ret ?_
    refine finG (fn := Try.f49) (rs := [.tmp 6]) (vs := [_]) hE rfl ⟨rfl, trivial⟩ ?_
    obtain rfl := Option.some.inj hr
    exact ⟨rfl, hS⟩
  · replace hr := iteF hc51 hr
    refine W.skip ?_
    refine W.seq ?_
    refine W.region ?_
    refine WL.vS hS hE (runs_plain rfl) (Gives.p hE rfl) rfl ?_; clear hE a; intro a hE
    refine WL.nil ?_
    refine W.seq ?_
    refine W.seq ?_
    refine W.region ?_
    refine WL.vS hS hE (runs_plain rfl) (Gives.fld hE rfl fl24_2) rfl ?_; clear hE a; intro a hE
    refine WL.vS hS hE (runs_plain rfl) (Gives.loadB hE 1 rfl rfl rfl ty22) rfl ?_; clear hE a; intro a hE
    refine WL.vS hS hE (runs_plain rfl) (Gives.len hE rfl sl22) rfl ?_; clear hE a; intro a hE
    refine WL.vS hS hE (runs_plain rfl) (Gives.p hE rfl) rfl ?_; clear hE a; intro a hE
    refine WL.nil ?_
    obtain ⟨q53, hq52, hr⟩ := bindS hr
    refine W.cut (fun a w => ∃ (q63 : Int), q63 = q53 ∧ Rep a 62 [(4, .pointer (some ⟨pb3, 0, none⟩)), (7, .int .i64 q63)] ∧ St w s (pt pb0 (.cells #[.slice a_y0_0 y0.length c_y0_0] 29 (0, 0)) :: pt pb1 (.cells #[.int .i64 y1.Period, .int .i64 y1.Events, .slice a_y1_2 y1.Rules.length c_y1_2] 24 (0, 0)) :: pt pb2 (.cells #[.pointer (some ⟨pb4, 0, none⟩)] 74 (0, 0)) :: pt pb3 (.cells #[.int .i64 y3] 3 (0, 0)) :: pt pb4 (.cells #[.int .i64 y4_0, .int .i64 y4_1, .slice a_y4_2 y4_2.length c_y4_2, .func (.func 50) #[] #[.pointer (some ⟨pb1, 0, none⟩), .pointer (some ⟨pb0, 0, none⟩), .pointer (some ⟨pb3, 0, none⟩)], .func (.func 49) #[] #[.pointer (some ⟨pb0, 0, none⟩), .pointer (some ⟨pb1, 0, none⟩), .pointer (some ⟨pb2, 0, none⟩), .pointer (some ⟨pb3, 0, none⟩)], .slice a_v0 y4_5.length c_v0, .slice a_v1 y4_6.length c_v1] 80 (0, 0)) :: vecC 3 1 a_v0 c_v0 y4_5.length cs_v0 :: vecC 4 1 a_v1 c_v1 y4_6.length cs_v1 :: R)) ?_ ?_
    · refine W.block ?_
      refine W.loop (fun m a w => ∃ (rest56 : List PlanRule) (k54 : Nat), ∃ (q63 : Int), rest56.length = m ∧ y1.Rules.drop k54 = rest56 ∧ PlanBest_1_v1.loop1 x0 y1 y4_5 y4_6 rest56 k54 q63 = some q53 ∧ Rep a 62 [(0, .pointer a0), (2, .pointer (some ⟨pb1, 0, none⟩)), (3, .pointer (some ⟨pb2, 0, none⟩)), (4, .pointer (some ⟨pb3, 0, none⟩)), (7, .int .i64 q63), (13, .slice a_y1_2 y1.Rules.length c_y1_2), (14, .int .i64 ((y1.Rules).length : Int)), (15, .int .i64 ((k54 : Nat) : Int))] ∧ St w s (pt pb0 (.cells #[.slice a_y0_0 y0.length c_y0_0] 29 (0, 0)) :: pt pb1 (.cells #[.int .i64 y1.Period, .int .i64 y1.Events, .slice a_y1_2 y1.Rules.length c_y1_2] 24 (0, 0)) :: pt pb2 (.cells #[.pointer (some ⟨pb4, 0, none⟩)] 74 (0, 0)) :: pt pb3 (.cells #[.int .i64 y3] 3 (0, 0)) :: pt pb4 (.cells #[.int .i64 y4_0, .int .i64 y4_1, .slice a_y4_2 y4_2.length c_y4_2, .func (.func 50) #[] #[.pointer (some ⟨pb1, 0, none⟩), .pointer (some ⟨pb0, 0, none⟩), .pointer (some ⟨pb3, 0, none⟩)], .func (.func 49) #[] #[.pointer (some ⟨pb0, 0, none⟩), .pointer (some ⟨pb1, 0, none⟩), .pointer (some ⟨pb2, 0, none⟩), .pointer (some ⟨pb3, 0, none⟩)], .slice a_v0 y4_5.length c_v0, .slice a_v1 y4_6.length c_v1] 80 (0, 0)) :: vecC 3 1 a_v0 c_v0 y4_5.length cs_v0 :: vecC 4 1 a_v1 c_v1 y4_6.length cs_v1 :: R)) (m := y1.Rules.length) ⟨y1.Rules, 0, 0, rfl, rfl, hq52, hE.pick _ ⟨rfl, rfl, rfl, rfl, rfl, rfl, rfl, rfl, trivial⟩, hS⟩ ?_
      clear hE hS a w hq52; rintro m60 a w ⟨rest56, k54, q63, rfl, hd57, hq52, hE, hS⟩
      refine W.gen fun K64 hK64 => ?_
      rcases rest56 with _ | ⟨x55, rest56⟩
      · have hlt58 := drop_nil hd57
        refine W.seq ?_
        refine W.region ?_
        refine WL.vS hS hE (runs_plain rfl) (Gives.p hE rfl) rfl ?_; clear hE a; intro a hE
        refine WL.nil ?_
        refine W.seq ?_
        refine W.condF hE rfl (decide_eq_false (by omega)) ?_
        subst hK64
        refine W.exit rfl ?_
        exact ⟨q63, Option.some.inj hq52, hE.pick _ ⟨rfl, rfl, trivial⟩, hS⟩
      · obtain ⟨hlt58, hx59, hd57⟩ := drop_cons hd57
        rw [PlanBest_1_v1.loop1] at hq52
        refine W.seq ?_
        refine W.region ?_
        refine WL.vS hS hE (runs_plain rfl) (Gives.p hE rfl) rfl ?_; clear hE a; intro a hE
        refine WL.nil ?_
        refine W.seq ?_
        refine W.condT hE rfl (decide_eq_true (by omega)) ?_
        refine W.skip ?_
        refine W.seq ?_
        refine W.block ?_
        refine W.seq ?_
        refine W.region ?_
        refine WL.vS hS hE (runs_plain rfl) (Gives.p hE rfl) rfl ?_; clear hE a; intro a hE
        obtain ⟨cs65, hl66, hR67, hat68⟩ := h_y1_2.at hx59
        subst hR67
        refine WL.vS hS hE (runs_plain rfl) (Gives.idx hE k54 rfl rfl sl22 rfl hlt58 (h_y1_2.aok hlt58)) rfl ?_; clear hE a; intro a hE
        refine WL.vS hS hE (runs_plain rfl) (Gives.loadA hE rfl (fun w h => hat68 w _ h) ty37) rfl ?_; clear hE a; intro a hE
        refine WL.alloc hE hS (runs_plain rfl) zr37 rfl ?_; clear hE hS a w; intro b69 a w hE hS
        refine WL.vS hS hE (runs_plain rfl) (Gives.p hE rfl) rfl ?_; clear hE a; intro a hE
        refine WL.storeI hE hS 0 rfl (PlanRule.cells x55) (runs_plain rfl) rfl rfl rfl ty37 rfl rfl rfl rfl ?_; clear hE hS a w; intro a w hE hS
        refine WL.nil ?_
        refine W.seq ?_
        refine W.region ?_
        refine WL.vS hS hE (runs_plain rfl) (Gives.loadB hE 3 rfl rfl rfl ty74) rfl ?_; clear hE a; intro a hE
        refine WL.vS hS hE (runs_plain rfl) (Gives.nilOk hE rfl) rfl ?_; clear hE a; intro a hE
        refine WL.vS hS hE (runs_plain rfl) (Gives.fld hE rfl fl80_4) rfl ?_; clear hE a; intro a hE
        refine WL.vS hS hE (runs_plain rfl) (Gives.loadB hE 5 rfl rfl rfl ty71) rfl ?_; clear hE a; intro a hE
        refine WL.vS hS hE (runs_plain rfl) (Gives.p hE rfl) rfl ?_; clear hE a; intro a hE
        obtain ⟨x70, hx71, hq52⟩ := bindS hq52
        obtain ⟨hi72, hlt73, hy74⟩ := gx_some hx71
        obtain ⟨vs75, hl76, hR77, hd78, hget79⟩ := h_v1.at hy74
        subst hR77
        refine WL.vS hS hE (runs_plain rfl) (Gives.idx hE ((((k54 : Nat) : Int)).toNat) rfl rfl sl71 hi72 (by omega) (hS.vecAok 7 rfl (by omega : (((k54 : Nat) : Int)).toNat < y4_6.length))) rfl ?_; clear hE a; intro a hE
        refine WL.vS hS hE (runs_plain rfl) (Gives.load1 hE rfl (fun w h => St.vecSees h 7 rfl ((((k54 : Nat) : Int)).toNat * 1) _ hget79) ty4) rfl ?_; clear hE a; intro a hE
        refine WL.vS hS hE (runs_plain rfl) (Gives.p hE rfl) rfl ?_; clear hE a; intro a hE
        refine WL.nil ?_
        obtain ⟨q81, hq80, hq52⟩ := bindS hq52
        refine W.cut (fun a w => ∃ (q84 : Int), q84 = q81 ∧ Rep a 62 [(0, .pointer a0), (2, .pointer (some ⟨pb1, 0, none⟩)), (3, .pointer (some ⟨pb2, 0, none⟩)), (4, .pointer (some ⟨pb3, 0, none⟩)), (7, .int .i64 q84), (13, .slice a_y1_2 y1.Rules.length c_y1_2), (14, .int .i64 ((y1.Rules).length : Int)), (15, .int .i64 ((k54 : Nat) : Int))] ∧ St w s (pt b69 (.cells (PlanRule.cells x55).toArray 37 (0, 0)) :: pt pb0 (.cells #[.slice a_y0_0 y0.length c_y0_0] 29 (0, 0)) :: pt pb1 (.cells #[.int .i64 y1.Period, .int .i64 y1.Events, .slice a_y1_2 y1.Rules.length c_y1_2] 24 (0, 0)) :: pt pb2 (.cells #[.pointer (some ⟨pb4, 0, none⟩)] 74 (0, 0)) :: pt pb3 (.cells #[.int .i64 y3] 3 (0, 0)) :: pt pb4 (.cells #[.int .i64 y4_0, .int .i64 y4_1, .slice a_y4_2 y4_2.length c_y4_2, .func (.func 50) #[] #[.pointer (some ⟨pb1, 0, none⟩), .pointer (some ⟨pb0, 0, none⟩), .pointer (some ⟨pb3, 0, none⟩)], .func (.func 49) #[] #[.pointer (some ⟨pb0, 0, none⟩), .pointer (some ⟨pb1, 0, none⟩), .pointer (some ⟨pb2, 0, none⟩), .pointer (some ⟨pb3, 0, none⟩)], .slice a_v0 y4_5.length c_v0, .slice a_v1 y4_6.length c_v1] 80 (0, 0)) :: vecC 3 1 a_v0 c_v0 y4_5.length cs_v0 :: vecC 4 1 a_v1 c_v1 y4_6.length cs_v1 :: R)) ?_ ?_
        · refine W.gen fun K85 hK85 => ?_
          refine W.cond hE rfl (fun hc86 => ?_) (fun hc86 => ?_)
          · replace hq80 := iteT hc86 hq80
            refine W.regionQ (C := fun w => St w s (pt b69 (.cells (PlanRule.cells x55).toArray 37 (0, 0)) :: pt pb0 (.cells #[.slice a_y0_0 y0.length c_y0_0] 29 (0, 0)) :: pt pb1 (.cells #[.int .i64 y1.Period, .int .i64 y1.Events, .slice a_y1_2 y1.Rules.length c_y1_2] 24 (0, 0)) :: pt pb2 (.cells #[.pointer (some ⟨pb4, 0, none⟩)] 74 (0, 0)) :: pt pb3 (.cells #[.int .i64 y3] 3 (0, 0)) :: pt pb4 (.cells #[.int .i64 y4_0, .int .i64 y4_1, .slice a_y4_2 y4_2.length c_y4_2, .func (.func 50) #[] #[.pointer (some ⟨pb1, 0, none⟩), .pointer (some ⟨pb0, 0, none⟩), .pointer (some ⟨pb3, 0, none⟩)], .func (.func 49) #[] #[.pointer (some ⟨pb0, 0, none⟩), .pointer (some ⟨pb1, 0, none⟩), .pointer (some ⟨pb2, 0, none⟩), .pointer (some ⟨pb3, 0, none⟩)], .slice a_v0 y4_5.length c_v0, .slice a_v1 y4_6.length c_v1] 80 (0, 0)) :: vecC 3 1 a_v0 c_v0 y4_5.length cs_v0 :: vecC 4 1 a_v1 c_v1 y4_6.length cs_v1 :: R)) mixed (by kernel_rfl) hS.drew ?_
            refine QL.v hE (runs_plain rfl) (Gives.p hE rfl) rfl ?_; clear hE a; intro a hE
            refine QL.v hE (runs_plain rfl) (Gives.fld hE rfl fl37_4) rfl ?_; clear hE a; intro a hE
            refine QL.v hE (runs_plain rfl) (Gives.loadB hE 0 rfl rfl rfl ty3) rfl ?_; clear hE a; intro a hE
            refine QL.v hE (runs_plain rfl) (Gives.p hE rfl) rfl ?_; clear hE a; intro a hE
            refine QL.v hE (runs_plain rfl) (Gives.fld hE rfl fl37_1) rfl ?_; clear hE a; intro a hE
            refine QL.v hE (runs_plain rfl) (Gives.loadB hE 0 rfl rfl rfl ty3) rfl ?_; clear hE a; intro a hE
            refine QL.v hE (runs_plain rfl) (Gives.fld hE rfl fl37_0) rfl ?_; clear hE a; intro a hE
            refine QL.v hE (runs_plain rfl) (Gives.loadB hE 0 rfl rfl rfl ty3) rfl ?_; clear hE a; intro a hE
            obtain ⟨x87, hx88, hq80⟩ := bindS hq80
            obtain ⟨b89, o90, cs91, rfl, hl92, hR93, hat94⟩ := h0.at hx88
            obtain ⟨rfl, hl95⟩ := hR93
            refine QL.v hE (runs_plain rfl) (Gives.nilOk hE rfl) rfl ?_; clear hE a; intro a hE
            obtain ⟨_, hx96, hq80⟩ := bindS hq80
            obtain ⟨h97, h98⟩ := bx_some hx96
            refine QL.v hE (runs_plain rfl) (Gives.idxG hE ((x55.To).toNat) rfl rfl an116 h97 h98 ⟨_, _, rfl⟩ rfl) rfl ?_; clear hE a; intro a hE
            obtain ⟨_, hx99, hq80⟩ := bindS hq80
            obtain ⟨h100, h101⟩ := bx_some hx99
            obtain ⟨x102, hx103, hq80⟩ := bindS hq80
            obtain ⟨hi104, hlt105, hy106⟩ := gx_some hx103
            refine QL.v hE (runs_plain rfl) (Gives.idxG hE ((x55.From).toNat) rfl rfl an81 h100 h101 ⟨_, _, rfl⟩ (by show ao (some ⟨b89, o90, none⟩) + (x55.To).toNat * 8 + (x55.From).toNat * 1 = ao (some ⟨b89, o90, none⟩) + ((x55.To * 8 + x55.From)).toNat; omega)) rfl ?_; clear hE a; intro a hE
            refine QL.v hE (runs_plain rfl) (Gives.load1 hE rfl (fun w h => Sees.cell1 (hat94 w _ h) hy106) ty3) rfl ?_; clear hE a; intro a hE
            refine QL.v hE (runs_plain rfl) (Gives.p hE rfl) rfl ?_; clear hE a; intro a hE
            refine QL.v hE (runs_plain rfl) (Gives.loadB hE 3 rfl rfl rfl ty74) rfl ?_; clear hE a; intro a hE
            refine QL.v hE (runs_plain rfl) (Gives.nilOk hE rfl) rfl ?_; clear hE a; intro a hE
            refine QL.v hE (runs_plain rfl) (Gives.fld hE rfl fl80_3) rfl ?_; clear hE a; intro a hE
            refine QL.v hE (runs_plain rfl) (Gives.loadB hE 5 rfl rfl rfl ty29) rfl ?_; clear hE a; intro a hE
            refine QL.v hE (runs_plain rfl) (Gives.p hE rfl) rfl ?_; clear hE a; intro a hE
            obtain ⟨x107, hx108, hq80⟩ := bindS hq80
            obtain ⟨hi109, hlt110, hy111⟩ := gx_some hx108
            obtain ⟨vs112, hl113, hR114, hd115, hget116⟩ := h_v0.at hy111
            subst hR114
            refine QL.v hE (runs_plain rfl) (Gives.idx hE ((((k54 : Nat) : Int)).toNat) rfl rfl sl29 hi109 (by omega) (hS.vecAok 6 rfl (by omega : (((k54 : Nat) : Int)).toNat < y4_5.length))) rfl ?_; clear hE a; intro a hE
            refine QL.v hE (runs_plain rfl) (Gives.load1 hE rfl (fun w h => St.vecSees h 6 rfl ((((k54 : Nat) : Int)).toNat * 1) _ hget116) ty3) rfl ?_; clear hE a; intro a hE
            refine QL.v hE (runs_plain rfl) (Gives.fld hE rfl fl24_0) rfl ?_; clear hE a; intro a hE
            refine QL.v hE (runs_plain rfl) (Gives.loadB hE 2 rfl rfl rfl ty3) rfl ?_; clear hE a; intro a hE
            refine QL.v hE (runs_plain rfl) (Gives.p hE rfl) rfl ?_; clear hE a; intro a hE
            refine QL.v hE (runs_plain rfl) (Gives.p hE rfl) rfl ?_; clear hE a; intro a hE
            refine QL.v hE (runs_plain rfl) (Gives.fld hE rfl fl37_2) rfl ?_; clear hE a; intro a hE
            refine QL.v hE (runs_plain rfl) (Gives.loadB hE 0 rfl rfl rfl ty3) rfl ?_; clear hE a; intro a hE
            refine QL.v hE (runs_plain rfl) (Gives.p hE rfl) rfl ?_; clear hE a; intro a hE
            refine QL.v hE (runs_plain rfl) (Gives.max2 hE rfl rfl) rfl ?_; clear hE a; intro a hE
            refine QL.v hE (runs_plain rfl) (Gives.p hE rfl) rfl ?_; clear hE a; intro a hE
            refine QL.v hE (runs_plain rfl) (Gives.p hE rfl) rfl ?_; clear hE a; intro a hE
            refine QL.v hE (runs_plain rfl) (Gives.p hE rfl) rfl ?_; clear hE a; intro a hE
            refine QL.nil ?_; clear hS w; intro w hS
            subst hK85
            exact ⟨w64 (q63 + (w64 (x55.Weight * (mx 0 (w64 ((w64 ((w64 (0 - x102)) + (w64 (x107 * y1.Period)))) - x55.Min)))))), Option.some.inj hq80, hE.pick _ ⟨rfl, rfl, rfl, rfl, rfl, rfl, rfl, rfl, trivial⟩, hS⟩
          · replace hq80 := iteF hc86 hq80
            refine W.skip ?_
            subst hK85
            exact ⟨q63, Option.some.inj hq80, hE.pick _ ⟨rfl, rfl, rfl, rfl, rfl, rfl, rfl, rfl, trivial⟩, hS⟩
        · clear hE hS a w; rintro a w ⟨q84, rfl, hE, hS⟩
          refine W.region ?_
          refine WL.vS hS hE (runs_plain rfl) (Gives.inc hE rfl (by have := h_y1_2.small; omega)) rfl ?_; clear hE a; intro a hE
          refine WL.vS hS hE (runs_plain rfl) (Gives.p hE rfl) rfl ?_; clear hE a; intro a hE
          refine WL.nil ?_
          replace hS := hS.tail
          subst hK64
          exact ⟨rest56.length, Nat.lt_succ_self _, rest56, k54 + 1, q84, rfl, hd57, hq52, hE.pick _ ⟨rfl, rfl, rfl, rfl, rfl, rfl, rfl, rfl, trivial⟩, hS⟩
    · clear hE hS a w; rintro a w ⟨q63, rfl, hE, hS⟩
      refine W.seq ?_
      refine W.region ?_
      refine WL.vS hS hE (runs_plain rfl) (Gives.p hE rfl) rfl ?_; clear hE a; intro a hE
      refine WL.vS hS hE (runs_plain rfl) (Gives.loadB hE 3 rfl rfl rfl ty3) rfl ?_; clear hE a; intro a hE
      refine WL.vS hS hE (runs_plain rfl) (Gives.p hE rfl) rfl ?_; clear hE a; intro a hE
      refine WL.vS hS hE (runs_plain rfl) (Gives.p hE rfl) rfl ?_; clear hE a; intro a hE
      refine WL.nil ?_
      refine W.ret ?_
      refine finG (fn := Try.f49) (rs := [.tmp 6]) (vs := [_]) hE rfl ⟨rfl, trivial⟩ ?_
      obtain rfl := Option.some.inj hr
      exact ⟨rfl, hS⟩
set_option maxHeartbeats 8000000 in
theorem Planfloor_ok  {w : World} {s : Sg} {R : List HP} {x0 : Int} {x1 : Int} (hS : St w s (R))  {r : Int} (hr : Planfloor x0 x1 = some r) :
    Calls Try.prog 91 [.int .i64 x0, .int .i64 x1].toArray w (fun e w => e = .returned (.int .i64 r) ∧ St w s (R)) := by
  refine enter Try.func91 rfl rfl rfl fun a hE => ?_
  rw [Planfloor] at hr
  refine W.seq ?_
  refine W.region ?_
  refine WL.vS hS hE (runs_plain rfl) (Gives.p hE rfl) rfl ?_; clear hE a; intro a hE
  refine WL.nil ?_
  refine W.seq ?_
  refine W.region ?_
  refine WL.vS hS hE (runs_plain rfl) (Gives.p hE rfl) rfl ?_; clear hE a; intro a hE
  refine WL.vS hS hE (runs_plain rfl) (Gives.p hE rfl) rfl ?_; clear hE a; intro a hE
  obtain ⟨x51, hx52, hr⟩ := bindS hr
  refine WL.vS hS hE (runs_plain rfl) (Gives.dv hE rfl rfl hx52) rfl ?_; clear hE a; intro a hE
  refine WL.vS hS hE (runs_plain rfl) (Gives.p hE rfl) rfl ?_; clear hE a; intro a hE
  refine WL.nil ?_
  refine W.seq ?_
  refine W.seq ?_
  refine W.region ?_
  refine WL.vS hS hE (runs_plain rfl) (Gives.p hE rfl) rfl ?_; clear hE a; intro a hE
  refine WL.vS hS hE (runs_plain rfl) (Gives.p hE rfl) rfl ?_; clear hE a; intro a hE
  obtain ⟨x53, hx54, hr⟩ := bindS hr
  refine WL.vS hS hE (runs_plain rfl) (Gives.rm hE rfl rfl hx54) rfl ?_; clear hE a; intro a hE
  refine WL.vS hS hE (runs_plain rfl) (Gives.p hE rfl) rfl ?_; clear hE a; intro a hE
  refine WL.nil ?_
  obtain ⟨q56, hq55, hr⟩ := bndS hr
  refine W.cut (fun a w => ∃ (q59 : Int), q59 = q56 ∧ Rep a 16 [(5, .int .i64 q59)] ∧ St w s (R)) ?_ ?_
  · refine W.gen fun K60 hK60 => ?_
    refine W.cond hE rfl (fun hc61 => ?_) (fun hc61 => ?_)
    · replace hq55 := iteT hc61 hq55
      refine W.region ?_
      refine WL.vS hS hE (runs_plain rfl) (Gives.p hE rfl) rfl ?_; clear hE a; intro a hE
      refine WL.vS hS hE (runs_plain rfl) (Gives.p hE rfl) rfl ?_; clear hE a; intro a hE
      refine WL.vS hS hE (runs_plain rfl) (Gives.p hE rfl) rfl ?_; clear hE a; intro a hE
      refine WL.nil ?_
      subst hK60
      exact ⟨w64 (x51 - 1), hq55, hE.pick _ ⟨rfl, trivial⟩, hS⟩
    · replace hq55 := iteF hc61 hq55
      refine W.skip ?_
      subst hK60
      exact ⟨x51, hq55, hE.pick _ ⟨rfl, trivial⟩, hS⟩
  · clear hE hS a w; rintro a w ⟨q59, rfl, hE, hS⟩
    refine W.seq ?_
    refine W.region ?_
    refine WL.vS hS hE (runs_plain rfl) (Gives.p hE rfl) rfl ?_; clear hE a; intro a hE
    refine WL.vS hS hE (runs_plain rfl) (Gives.p hE rfl) rfl ?_; clear hE a; intro a hE
    refine WL.nil ?_
    refine W.ret ?_
    refine finG (fn := Try.f91) (rs := [.tmp 4]) (vs := [_]) hE rfl ⟨rfl, trivial⟩ ?_
    obtain rfl := Option.some.inj hr
    exact ⟨rfl, hS⟩
set_option maxHeartbeats 8000000 in
theorem PlanSearchchoices_v1_ok {fu : Nat}  {w : World} {s : Sg} {R : List HP} {pb0 : Nat} {pb1 : Nat} {pb2 : Nat} {pb3 : Nat} {pb4 : Nat} {x1 : Option (List Int)} {a1 : Option Addr} {x2 : PlanRule} {y0_0 : Int} {y0_1 : Int} {y0_2 : List PlanRule} {a_y0_2 : Option Addr} {c_y0_2 : Nat} {y0_5 : List Int} {a_v0 : Option Addr} {c_v0 n_v0 : Nat} {cs_v0 : List Value} {y0_6 : List Bool} {a_v1 : Option Addr} {c_v1 n_v1 : Nat} {cs_v1 : List Value} {y1 : PlanPeriodic} {a_y1_2 : Option Addr} {c_y1_2 : Nat} {y2 : List Int} {a_y2_0 : Option Addr} {c_y2_0 : Nat} {y3 : Int} (hS : St w s (pt pb0 (.cells #[.int .i64 y0_0, .int .i64 y0_1, .slice a_y0_2 y0_2.length c_y0_2, .func (.func 50) #[] #[.pointer (some ⟨pb1, 0, none⟩), .pointer (some ⟨pb2, 0, none⟩), .pointer (some ⟨pb3, 0, none⟩)], .func (.func 49) #[] #[.pointer (some ⟨pb2, 0, none⟩), .pointer (some ⟨pb1, 0, none⟩), .pointer (some ⟨pb4, 0, none⟩), .pointer (some ⟨pb3, 0, none⟩)], .slice a_v0 n_v0 c_v0, .slice a_v1 n_v1 c_v1] 80 (0, 0)) :: pt pb1 (.cells #[.int .i64 y1.Period, .int .i64 y1.Events, .slice a_y1_2 y1.Rules.length c_y1_2] 24 (0, 0)) :: pt pb2 (.cells #[.slice a_y2_0 y2.length c_y2_0] 29 (0, 0)) :: pt pb3 (.cells #[.int .i64 y3] 3 (0, 0)) :: pt pb4 (.cells #[.pointer (some ⟨pb0, 0, none⟩)] 74 (0, 0)) :: vecC 3 1 a_v0 c_v0 n_v0 cs_v0 :: vecC 4 1 a_v1 c_v1 n_v1 cs_v1 :: R)) (h1 : Pt 64 (RA .i64 64) s a1 x1) (_h_y0_2 : Sl 5 RPlanRule s a_y0_2 c_y0_2 y0_2) (_h_v0 : Ev 1 (RI .i64) s cs_v0 y0_5) (hn_v0 : y0_5.length = n_v0) (_h_v1 : Ev 1 RB s cs_v1 y0_6) (hn_v1 : y0_6.length = n_v1) (_h_y1_2 : Sl 5 RPlanRule s a_y1_2 c_y1_2 y1.Rules) (_h_y2_0 : Sl 1 (RI .i64) s a_y2_0 c_y2_0 y2) (_hz_y2_0 : y2 = [] → a_y2_0 = none) {r : (List Int)} (hr : PlanSearchchoices_v1 fu x1 x2 y0_0 y0_1 y0_2 y0_5 y0_6 y1 y2 y3 = some r) :
    Calls Try.prog 82 [.pointer (some ⟨pb0, 0, none⟩), .pointer a1, .agg (PlanRule.cells x2).toArray].toArray w (fun e w => ∃ (a0 : Option Addr) (c0 n0 : Nat) (cs0 : List Value), e = .returned (.slice a0 n0 c0) ∧ Ev 1 (RI .i64) s cs0 r ∧ r.length = n0 ∧ St w s (vecC 3 1 a0 c0 n0 cs0 :: pt pb0 (.cells #[.int .i64 y0_0, .int .i64 y0_1, .slice a_y0_2 y0_2.length c_y0_2, .func (.func 50) #[] #[.pointer (some ⟨pb1, 0, none⟩), .pointer (some ⟨pb2, 0, none⟩), .pointer (some ⟨pb3, 0, none⟩)], .func (.func 49) #[] #[.pointer (some ⟨pb2, 0, none⟩), .pointer (some ⟨pb1, 0, none⟩), .pointer (some ⟨pb4, 0, none⟩), .pointer (some ⟨pb3, 0, none⟩)], .slice a_v0 n_v0 c_v0, .slice a_v1 n_v1 c_v1] 80 (0, 0)) :: pt pb1 (.cells #[.int .i64 y1.Period, .int .i64 y1.Events, .slice a_y1_2 y1.Rules.length c_y1_2] 24 (0, 0)) :: pt pb2 (.cells #[.slice a_y2_0 y2.length c_y2_0] 29 (0, 0)) :: pt pb3 (.cells #[.int .i64 y3] 3 (0, 0)) :: pt pb4 (.cells #[.pointer (some ⟨pb0, 0, none⟩)] 74 (0, 0)) :: vecC 3 1 a_v0 c_v0 n_v0 cs_v0 :: vecC 4 1 a_v1 c_v1 n_v1 cs_v1 :: R)) := by
  refine enter Try.func82 rfl rfl rfl fun a hE => ?_
  rw [PlanSearchchoices_v1] at hr
  subst hn_v0
  subst hn_v1
  refine W.seq ?_
  refine W.region ?_
  refine WL.box hE hS (runs_plain rfl) rfl rfl rfl ?_; clear hE hS a w; intro b51 a w hE hS
  refine WL.vS hS hE (runs_plain rfl) (Gives.p hE rfl) rfl ?_; clear hE a; intro a hE
  refine WL.nil ?_
  refine W.seq ?_
  refine W.region ?_
  replace hS := hS.vecNil 3 1
  refine WL.vS hS hE (runs_plain rfl) (Gives.p hE rfl) rfl ?_; clear hE a; intro a hE
  refine WL.nil ?_
  refine W.seq ?_
  refine W.regionQ (C := fun w => St w s (vecC 3 1 none 0 0 [] :: pt b51 (.cells (PlanRule.cells x2).toArray 37 (0, 0)) :: pt pb0 (.cells #[.int .i64 y0_0, .int .i64 y0_1, .slice a_y0_2 y0_2.length c_y0_2, .func (.func 50) #[] #[.pointer (some ⟨pb1, 0, none⟩), .pointer (some ⟨pb2, 0, none⟩), .pointer (some ⟨pb3, 0, none⟩)], .func (.func 49) #[] #[.pointer (some ⟨pb2, 0, none⟩), .pointer (some ⟨pb1, 0, none⟩), .pointer (some ⟨pb4, 0, none⟩), .pointer (some ⟨pb3, 0, none⟩)], .slice a_v0 y0_5.length c_v0, .slice a_v1 y0_6.length c_v1] 80 (0, 0)) :: pt pb1 (.cells #[.int .i64 y1.Period, .int .i64 y1.Events, .slice a_y1_2 y1.Rules.length c_y1_2] 24 (0, 0)) :: pt pb2 (.cells #[.slice a_y2_0 y2.length c_y2_0] 29 (0, 0)) :: pt pb3 (.cells #[.int .i64 y3] 3 (0, 0)) :: pt pb4 (.cells #[.pointer (some ⟨pb0, 0, none⟩)] 74 (0, 0)) :: vecC 3 1 a_v0 c_v0 y0_5.length cs_v0 :: vecC 4 1 a_v1 c_v1 y0_6.length cs_v1 :: R)) mixed (by kernel_rfl) hS.drew ?_
  refine QL.v hE (runs_plain rfl) (Gives.p hE rfl) rfl ?_; clear hE a; intro a hE
  refine QL.v hE (runs_plain rfl) (Gives.fld hE rfl fl37_0) rfl ?_; clear hE a; intro a hE
  refine QL.v hE (runs_plain rfl) (Gives.loadB hE 1 rfl rfl rfl ty3) rfl ?_; clear hE a; intro a hE
  refine QL.v hE (runs_plain rfl) (Gives.fld hE rfl fl37_1) rfl ?_; clear hE a; intro a hE
  refine QL.v hE (runs_plain rfl) (Gives.loadB hE 1 rfl rfl rfl ty3) rfl ?_; clear hE a; intro a hE
  obtain ⟨x53, hx54, hr⟩ := bindS hr
  obtain ⟨b55, o56, cs57, rfl, hl58, hR59, hat60⟩ := h1.at hx54
  obtain ⟨rfl, hl61⟩ := hR59
  refine QL.v hE (runs_plain rfl) (Gives.nilOk hE rfl) rfl ?_; clear hE a; intro a hE
  obtain ⟨_, hx62, hr⟩ := bindS hr
  obtain ⟨h63, h64⟩ := bx_some hx62
  refine QL.v hE (runs_plain rfl) (Gives.idxG hE ((x2.From).toNat) rfl rfl an116 h63 h64 ⟨_, _, rfl⟩ rfl) rfl ?_; clear hE a; intro a hE
  obtain ⟨_, hx65, hr⟩ := bindS hr
  obtain ⟨h66, h67⟩ := bx_some hx65
  obtain ⟨x68, hx69, hr⟩ := bindS hr
  obtain ⟨hi70, hlt71, hy72⟩ := gx_some hx69
  refine QL.v hE (runs_plain rfl) (Gives.idxG hE ((x2.To).toNat) rfl rfl an81 h66 h67 ⟨_, _, rfl⟩ (by show ao (some ⟨b55, o56, none⟩) + (x2.From).toNat * 8 + (x2.To).toNat * 1 = ao (some ⟨b55, o56, none⟩) + ((x2.From * 8 + x2.To)).toNat; omega)) rfl ?_; clear hE a; intro a hE
  refine QL.v hE (runs_plain rfl) (Gives.load1 hE rfl (fun w h => Sees.cell1 (hat60 w _ h) hy72) ty3) rfl ?_; clear hE a; intro a hE
  refine QL.v hE (runs_plain rfl) (Gives.fld hE rfl fl37_2) rfl ?_; clear hE a; intro a hE
  refine QL.v hE (runs_plain rfl) (Gives.loadB hE 1 rfl rfl rfl ty3) rfl ?_; clear hE a; intro a hE
  refine QL.v hE (runs_plain rfl) (Gives.p hE rfl) rfl ?_; clear hE a; intro a hE
  refine QL.v hE (runs_plain rfl) (Gives.p hE rfl) rfl ?_; clear hE a; intro a hE
  refine QL.v hE (runs_plain rfl) (Gives.nilOk hE rfl) rfl ?_; clear hE a; intro a hE
  refine QL.v hE (runs_plain rfl) (Gives.fld hE rfl fl80_0) rfl ?_; clear hE a; intro a hE
  refine QL.v hE (runs_plain rfl) (Gives.fld hE rfl fl24_0) rfl ?_; clear hE a; intro a hE
  refine QL.v hE (runs_plain rfl) (Gives.loadB hE 2 rfl rfl rfl ty3) rfl ?_; clear hE a; intro a hE
  obtain ⟨q73, hq74, hr⟩ := bindS hr
  refine QL.fnq hE (fun w hS => Planfloor_ok hS  hq74) (runs_plain rfl) bd91 rfl rfl rfl ?_; clear hE a; intro a hE
  refine QL.v hE (runs_plain rfl) (Gives.p hE rfl) rfl ?_; clear hE a; intro a hE
  refine QL.v hE (runs_plain rfl) (Gives.p hE rfl) rfl ?_; clear hE a; intro a hE
  refine QL.nil ?_; clear hS w; intro w hS
  refine W.seq ?_
  refine W.seq ?_
  refine W.region ?_
  refine WL.vS hS hE (runs_plain rfl) (Gives.p hE rfl) rfl ?_; clear hE a; intro a hE
  refine WL.vS hS hE (runs_plain rfl) (Gives.p hE rfl) rfl ?_; clear hE a; intro a hE
  refine WL.nil ?_
  obtain ⟨q76, hq75, hr⟩ := bindS hr
  refine W.cut (fun a w => ∃ (q81 : List Int), ∃ (q88 : Int), ∃ (a82 : Option Addr), ∃ (c83 : Nat), ∃ (n85 : Nat), ∃ (cs86 : List Value), (q81, q88) = q76 ∧ Ev 1 (RI .i64) s cs86 q81 ∧ q81.length = n85 ∧ Rep a 58 [(7, .slice a82 n85 c83)] ∧ St w s (vecC 3 1 a82 c83 n85 cs86 :: pt b51 (.cells (PlanRule.cells x2).toArray 37 (0, 0)) :: pt pb0 (.cells #[.int .i64 y0_0, .int .i64 y0_1, .slice a_y0_2 y0_2.length c_y0_2, .func (.func 50) #[] #[.pointer (some ⟨pb1, 0, none⟩), .pointer (some ⟨pb2, 0, none⟩), .pointer (some ⟨pb3, 0, none⟩)], .func (.func 49) #[] #[.pointer (some ⟨pb2, 0, none⟩), .pointer (some ⟨pb1, 0, none⟩), .pointer (some ⟨pb4, 0, none⟩), .pointer (some ⟨pb3, 0, none⟩)], .slice a_v0 y0_5.length c_v0, .slice a_v1 y0_6.length c_v1] 80 (0, 0)) :: pt pb1 (.cells #[.int .i64 y1.Period, .int .i64 y1.Events, .slice a_y1_2 y1.Rules.length c_y1_2] 24 (0, 0)) :: pt pb2 (.cells #[.slice a_y2_0 y2.length c_y2_0] 29 (0, 0)) :: pt pb3 (.cells #[.int .i64 y3] 3 (0, 0)) :: pt pb4 (.cells #[.pointer (some ⟨pb0, 0, none⟩)] 74 (0, 0)) :: vecC 3 1 a_v0 c_v0 y0_5.length cs_v0 :: vecC 4 1 a_v1 c_v1 y0_6.length cs_v1 :: R)) ?_ ?_
  · refine W.block ?_
    refine W.loop (fun m a w => ∃ (n77 : Nat), ∃ (q81 : List Int), ∃ (q88 : Int), ∃ (a82 : Option Addr), ∃ (c83 : Nat), ∃ (n85 : Nat), ∃ (cs86 : List Value), n77 = m ∧ PlanSearchchoices_v1.loop1 x2 y0_0 x53 n77 q81 q88 = some q76 ∧ Ev 1 (RI .i64) s cs86 q81 ∧ q81.length = n85 ∧ Rep a 58 [(0, .pointer (some ⟨pb0, 0, none⟩)), (1, .pointer (some ⟨b55, o56, none⟩)), (5, .pointer (some ⟨b51, 0, none⟩)), (7, .slice a82 n85 c83), (9, .int .i64 q88)] ∧ St w s (vecC 3 1 a82 c83 n85 cs86 :: pt b51 (.cells (PlanRule.cells x2).toArray 37 (0, 0)) :: pt pb0 (.cells #[.int .i64 y0_0, .int .i64 y0_1, .slice a_y0_2 y0_2.length c_y0_2, .func (.func 50) #[] #[.pointer (some ⟨pb1, 0, none⟩), .pointer (some ⟨pb2, 0, none⟩), .pointer (some ⟨pb3, 0, none⟩)], .func (.func 49) #[] #[.pointer (some ⟨pb2, 0, none⟩), .pointer (some ⟨pb1, 0, none⟩), .pointer (some ⟨pb4, 0, none⟩), .pointer (some ⟨pb3, 0, none⟩)], .slice a_v0 y0_5.length c_v0, .slice a_v1 y0_6.length c_v1] 80 (0, 0)) :: pt pb1 (.cells #[.int .i64 y1.Period, .int .i64 y1.Events, .slice a_y1_2 y1.Rules.length c_y1_2] 24 (0, 0)) :: pt pb2 (.cells #[.slice a_y2_0 y2.length c_y2_0] 29 (0, 0)) :: pt pb3 (.cells #[.int .i64 y3] 3 (0, 0)) :: pt pb4 (.cells #[.pointer (some ⟨pb0, 0, none⟩)] 74 (0, 0)) :: vecC 3 1 a_v0 c_v0 y0_5.length cs_v0 :: vecC 4 1 a_v1 c_v1 y0_6.length cs_v1 :: R)) (m := fu) ⟨fu, [], (w64 (0 - q73)), none, 0, 0, [], rfl, hq75, (Ev.nil), (rfl), hE.pick _ ⟨rfl, rfl, rfl, rfl, rfl, trivial⟩, hS⟩ ?_
    clear hE hS a w hq75; rintro m78 a w ⟨n77, q81, q88, a82, c83, n85, cs86, rfl, hq75, h84, rfl, hE, hS⟩
    refine W.gen fun K89 hK89 => ?_
    rcases n77 with _ | n77
    · rw [PlanSearchchoices_v1.loop1] at hq75; exact absurd hq75 (by simp)
    rw [PlanSearchchoices_v1.loop1] at hq75
    refine W.seq ?_
    refine W.seq ?_
    refine W.regionQ (C := fun w => St w s (vecC 3 1 a82 c83 q81.length cs86 :: pt b51 (.cells (PlanRule.cells x2).toArray 37 (0, 0)) :: pt pb0 (.cells #[.int .i64 y0_0, .int .i64 y0_1, .slice a_y0_2 y0_2.length c_y0_2, .func (.func 50) #[] #[.pointer (some ⟨pb1, 0, none⟩), .pointer (some ⟨pb2, 0, none⟩), .pointer (some ⟨pb3, 0, none⟩)], .func (.func 49) #[] #[.pointer (some ⟨pb2, 0, none⟩), .pointer (some ⟨pb1, 0, none⟩), .pointer (some ⟨pb4, 0, none⟩), .pointer (some ⟨pb3, 0, none⟩)], .slice a_v0 y0_5.length c_v0, .slice a_v1 y0_6.length c_v1] 80 (0, 0)) :: pt pb1 (.cells #[.int .i64 y1.Period, .int .i64 y1.Events, .slice a_y1_2 y1.Rules.length c_y1_2] 24 (0, 0)) :: pt pb2 (.cells #[.slice a_y2_0 y2.length c_y2_0] 29 (0, 0)) :: pt pb3 (.cells #[.int .i64 y3] 3 (0, 0)) :: pt pb4 (.cells #[.pointer (some ⟨pb0, 0, none⟩)] 74 (0, 0)) :: vecC 3 1 a_v0 c_v0 y0_5.length cs_v0 :: vecC 4 1 a_v1 c_v1 y0_6.length cs_v1 :: R)) mixed (by kernel_rfl) hS.drew ?_
    refine QL.v hE (runs_plain rfl) (Gives.fld hE rfl fl37_3) rfl ?_; clear hE a; intro a hE
    refine QL.v hE (runs_plain rfl) (Gives.loadB hE 1 rfl rfl rfl ty3) rfl ?_; clear hE a; intro a hE
    refine QL.v hE (runs_plain rfl) (Gives.p hE rfl) rfl ?_; clear hE a; intro a hE
    refine QL.v hE (runs_plain rfl) (Gives.p hE rfl) rfl ?_; clear hE a; intro a hE
    refine QL.v hE (runs_plain rfl) (Gives.nilOk hE rfl) rfl ?_; clear hE a; intro a hE
    refine QL.v hE (runs_plain rfl) (Gives.fld hE rfl fl80_0) rfl ?_; clear hE a; intro a hE
    refine QL.v hE (runs_plain rfl) (Gives.fld hE rfl fl24_0) rfl ?_; clear hE a; intro a hE
    refine QL.v hE (runs_plain rfl) (Gives.loadB hE 2 rfl rfl rfl ty3) rfl ?_; clear hE a; intro a hE
    refine QL.v hE (runs_plain rfl) (Gives.p hE rfl) rfl ?_; clear hE a; intro a hE
    refine QL.v hE (runs_plain rfl) (Gives.p hE rfl) rfl ?_; clear hE a; intro a hE
    refine QL.v hE (runs_plain rfl) (Gives.p hE rfl) rfl ?_; clear hE a; intro a hE
    refine QL.v hE (runs_plain rfl) (Gives.fld hE rfl fl37_1) rfl ?_; clear hE a; intro a hE
    refine QL.v hE (runs_plain rfl) (Gives.loadB hE 1 rfl rfl rfl ty3) rfl ?_; clear hE a; intro a hE
    refine QL.v hE (runs_plain rfl) (Gives.fld hE rfl fl37_0) rfl ?_; clear hE a; intro a hE
    refine QL.v hE (runs_plain rfl) (Gives.loadB hE 1 rfl rfl rfl ty3) rfl ?_; clear hE a; intro a hE
    refine QL.v hE (runs_plain rfl) (Gives.nilOk hE rfl) rfl ?_; clear hE a; intro a hE
    obtain ⟨_, hx90, hq75⟩ := bindS hq75
    obtain ⟨h91, h92⟩ := bx_some hx90
    refine QL.v hE (runs_plain rfl) (Gives.idxG hE ((x2.To).toNat) rfl rfl an116 h91 h92 ⟨_, _, rfl⟩ rfl) rfl ?_; clear hE a; intro a hE
    obtain ⟨_, hx93, hq75⟩ := bindS hq75
    obtain ⟨h94, h95⟩ := bx_some hx93
    obtain ⟨x96, hx97, hq75⟩ := bindS hq75
    obtain ⟨hi98, hlt99, hy100⟩ := gx_some hx97
    refine QL.v hE (runs_plain rfl) (Gives.idxG hE ((x2.From).toNat) rfl rfl an81 h94 h95 ⟨_, _, rfl⟩ (by show ao (some ⟨b55, o56, none⟩) + (x2.To).toNat * 8 + (x2.From).toNat * 1 = ao (some ⟨b55, o56, none⟩) + ((x2.To * 8 + x2.From)).toNat; omega)) rfl ?_; clear hE a; intro a hE
    refine QL.v hE (runs_plain rfl) (Gives.load1 hE rfl (fun w h => Sees.cell1 (hat60 w _ h) hy100) ty3) rfl ?_; clear hE a; intro a hE
    refine QL.v hE (runs_plain rfl) (Gives.p hE rfl) rfl ?_; clear hE a; intro a hE
    refine QL.v hE (runs_plain rfl) (Gives.p hE rfl) rfl ?_; clear hE a; intro a hE
    refine QL.nil ?_; clear hS w; intro w hS
    refine W.cond hE rfl (fun hc101 => ?_) (fun hc101 => ?_)
    · replace hq75 := iteT hc101 hq75
      refine W.skip ?_
      refine W.seq ?_
      refine W.block ?_
      refine W.region ?_
      refine WL.vS hS hE (runs_plain rfl) (Gives.p hE rfl) rfl ?_; clear hE a; intro a hE
      refine WL.vS hS hE (runs_plain rfl) (Gives.p hE rfl) rfl ?_; clear hE a; intro a hE
      refine WL.lit hE hS (e := 3) (es := 1) (vs := [(0, .int .i64 q88)]) (cs := [.int .i64 q88]) (runs_plain rfl) rfl (by kernel_rfl) rfl ?_; clear hE hS a w; intro b102 a w hE hS
      obtain ⟨x103, hx104, hq75⟩ := bindS hq75
      refine WL.appD hE hS 0 (m := 1) (runs_plain rfl) rfl rfl rfl ap29 rfl h84 rfl (xs := [q88]) (Ev.cons (c1 := [.int .i64 q88]) rfl rfl (Ev.nil)) rfl rfl hx104 rfl ?_; clear hE hS a w; intro a105 c106 cs107 a w h108 hE hS
      refine WL.vS hS hE (runs_plain rfl) (Gives.p hE rfl) rfl ?_; clear hE a; intro a hE
      refine WL.nil ?_
      refine W.region ?_
      refine WL.vS hS hE (runs_plain rfl) (Gives.p hE rfl) rfl ?_; clear hE a; intro a hE
      refine WL.vS hS hE (runs_plain rfl) (Gives.p hE rfl) rfl ?_; clear hE a; intro a hE
      refine WL.vS hS hE (runs_plain rfl) (Gives.p hE rfl) rfl ?_; clear hE a; intro a hE
      refine WL.nil ?_
      subst hK89
      exact ⟨n77, Nat.lt_succ_self _, n77, x103, (w64 (q88 + 1)), a105, c106, x103.length, cs107, rfl, hq75, h108, (rfl), hE.pick _ ⟨rfl, rfl, rfl, rfl, rfl, trivial⟩, hS⟩
    · replace hq75 := iteF hc101 hq75
      subst hK89
      refine W.exit rfl ?_
      exact ⟨q81, q88, a82, c83, q81.length, cs86, Option.some.inj hq75, h84, rfl, hE.pick _ ⟨rfl, trivial⟩, hS⟩
  · clear hE hS a w; rintro a w ⟨q81, q88, a82, c83, n85, cs86, rfl, h84, rfl, hE, hS⟩
    dsimp only at hr
    refine W.seq ?_
    refine W.region ?_
    refine WL.vS hS hE (runs_plain rfl) (Gives.p hE rfl) rfl ?_; clear hE a; intro a hE
    refine WL.vS hS hE (runs_plain rfl) (Gives.p hE rfl) rfl ?_; clear hE a; intro a hE
    refine WL.nil ?_
    refine W.ret ?_
    refine finG (fn := Try.f82) (rs := [.tmp 6]) (vs := [_]) hE rfl ⟨rfl, trivial⟩ ?_
    obtain rfl := Option.some.inj hr
    replace hS := hS.dropAt 1
    exact ⟨a82, c83, q81.length, cs86, rfl, h84, rfl, hS⟩
set_option maxHeartbeats 8000000 in
theorem Plancheapest_1_v1_ok  {w : World} {s : Sg} {R : List HP} {pb0 : Nat} {pb1 : Nat} {pb2 : Nat} {x0 : Int} {x1 : Int} {y0 : PlanPeriodic} {a_y0_2 : Option Addr} {c_y0_2 : Nat} {y1 : List Int} {a_v0 : Option Addr} {c_v0 n_v0 : Nat} {cs_v0 : List Value} {y2 : Option (List Int)} {a_y2_0 : Option Addr} (hS : St w s (pt pb0 (.cells #[.int .i64 y0.Period, .int .i64 y0.Events, .slice a_y0_2 y0.Rules.length c_y0_2] 24 (0, 0)) :: pt pb1 (.cells #[.slice a_v0 n_v0 c_v0] 29 (0, 0)) :: pt pb2 (.cells #[.pointer a_y2_0] 76 (0, 0)) :: vecC 3 1 a_v0 c_v0 n_v0 cs_v0 :: R)) (_h_y0_2 : Sl 5 RPlanRule s a_y0_2 c_y0_2 y0.Rules) (h_v0 : Ev 1 (RI .i64) s cs_v0 y1) (hn_v0 : y1.length = n_v0) (h_y2_0 : Pt 64 (RA .i64 64) s a_y2_0 y2) {r : Int} (hr : Plancheapest_1_v1 x0 x1 y0 y1 y2 = some r) :
    Calls Try.prog 79 [.int .i64 x0, .int .i64 x1, .pointer (some ⟨pb0, 0, none⟩), .pointer (some ⟨pb1, 0, none⟩), .pointer (some ⟨pb2, 0, none⟩)].toArray w (fun e w => e = .returned (.int .i64 r) ∧ St w s (pt pb0 (.cells #[.int .i64 y0.Period, .int .i64 y0.Events, .slice a_y0_2 y0.Rules.length c_y0_2] 24 (0, 0)) :: pt pb1 (.cells #[.slice a_v0 n_v0 c_v0] 29 (0, 0)) :: pt pb2 (.cells #[.pointer a_y2_0] 76 (0, 0)) :: vecC 3 1 a_v0 c_v0 n_v0 cs_v0 :: R)) := by
  refine enter Try.func79 rfl rfl rfl fun a hE => ?_
  rw [Plancheapest_1_v1] at hr
  subst hn_v0
  refine W.seq ?_
  refine W.region ?_
  refine WL.vS hS hE (runs_plain rfl) (Gives.p hE rfl) rfl ?_; clear hE a; intro a hE
  refine WL.nil ?_
  refine W.seq ?_
  refine W.region ?_
  refine WL.vS hS hE (runs_plain rfl) (Gives.fld hE rfl fl24_0) rfl ?_; clear hE a; intro a hE
  refine WL.vS hS hE (runs_plain rfl) (Gives.loadB hE 0 rfl rfl rfl ty3) rfl ?_; clear hE a; intro a hE
  refine WL.vS hS hE (runs_plain rfl) (Gives.p hE rfl) rfl ?_; clear hE a; intro a hE
  refine WL.nil ?_
  refine W.seq ?_
  refine W.seq ?_
  refine W.region ?_
  refine WL.vS hS hE (runs_plain rfl) (Gives.loadB hE 1 rfl rfl rfl ty29) rfl ?_; clear hE a; intro a hE
  refine WL.vS hS hE (runs_plain rfl) (Gives.len hE rfl sl29) rfl ?_; clear hE a; intro a hE
  refine WL.vS hS hE (runs_plain rfl) (Gives.p hE rfl) rfl ?_; clear hE a; intro a hE
  refine WL.nil ?_
  have hb62 : y1.length ≤ 9223372036854775807 := by have := hS.vecCap 3 rfl; unfold maxLen at this; omega
  obtain ⟨q52, hq51, hr⟩ := bindS hr
  refine W.cut (fun a w => ∃ (q63 : Int), q63 = q52 ∧ Rep a 78 [(8, .int .i64 q63)] ∧ St w s (pt pb0 (.cells #[.int .i64 y0.Period, .int .i64 y0.Events, .slice a_y0_2 y0.Rules.length c_y0_2] 24 (0, 0)) :: pt pb1 (.cells #[.slice a_v0 y1.length c_v0] 29 (0, 0)) :: pt pb2 (.cells #[.pointer a_y2_0] 76 (0, 0)) :: vecC 3 1 a_v0 c_v0 y1.length cs_v0 :: R)) ?_ ?_
  · refine W.block ?_
    refine W.loop (fun m a w => ∃ (rest55 : Nat) (k53 : Nat), ∃ (q63 : Int), rest55 = m ∧ k53 + rest55 = y1.length ∧ Plancheapest_1_v1.loop1 x0 x1 y1 y2 rest55 k53 q63 = some q52 ∧ Rep a 78 [(0, .int .i64 x0), (1, .int .i64 x1), (3, .pointer (some ⟨pb1, 0, none⟩)), (4, .pointer (some ⟨pb2, 0, none⟩)), (8, .int .i64 q63), (14, .int .i64 ((y1.length : Nat) : Int)), (15, .int .i64 ((k53 : Nat) : Int))] ∧ St w s (pt pb0 (.cells #[.int .i64 y0.Period, .int .i64 y0.Events, .slice a_y0_2 y0.Rules.length c_y0_2] 24 (0, 0)) :: pt pb1 (.cells #[.slice a_v0 y1.length c_v0] 29 (0, 0)) :: pt pb2 (.cells #[.pointer a_y2_0] 76 (0, 0)) :: vecC 3 1 a_v0 c_v0 y1.length cs_v0 :: R)) (m := y1.length) ⟨y1.length, 0, y0.Period, rfl, by omega, hq51, hE.pick _ ⟨rfl, rfl, rfl, rfl, rfl, rfl, rfl, trivial⟩, hS⟩ ?_
    clear hE hS a w hq51; rintro m59 a w ⟨rest55, k53, q63, rfl, hd56, hq51, hE, hS⟩
    refine W.gen fun K64 hK64 => ?_
    rcases rest55 with _ | rest55
    · skip
      refine W.seq ?_
      refine W.region ?_
      refine WL.vS hS hE (runs_plain rfl) (Gives.p hE rfl) rfl ?_; clear hE a; intro a hE
      refine WL.nil ?_
      refine W.seq ?_
      refine W.condF hE rfl (decide_eq_false (by omega)) ?_
      subst hK64
      refine W.exit rfl ?_
      exact ⟨q63, Option.some.inj hq51, hE.pick _ ⟨rfl, trivial⟩, hS⟩
    · have hlt57 : k53 < y1.length := by omega
      rw [Plancheapest_1_v1.loop1] at hq51
      refine W.seq ?_
      refine W.region ?_
      refine WL.vS hS hE (runs_plain rfl) (Gives.p hE rfl) rfl ?_; clear hE a; intro a hE
      refine WL.nil ?_
      refine W.seq ?_
      refine W.condT hE rfl (decide_eq_true (by omega)) ?_
      refine W.skip ?_
      refine W.seq ?_
      refine W.block ?_
      refine W.seq ?_
      refine W.region ?_
      refine WL.vS hS hE (runs_plain rfl) (Gives.p hE rfl) rfl ?_; clear hE a; intro a hE
      refine WL.vS hS hE (runs_plain rfl) (Gives.p hE rfl) rfl ?_; clear hE a; intro a hE
      refine WL.nil ?_
      refine W.seq ?_
      refine W.region ?_
      refine WL.vS hS hE (runs_plain rfl) (Gives.loadB hE 1 rfl rfl rfl ty29) rfl ?_; clear hE a; intro a hE
      refine WL.vS hS hE (runs_plain rfl) (Gives.len hE rfl sl29) rfl ?_; clear hE a; intro a hE
      refine WL.vS hS hE (runs_plain rfl) (Gives.p hE rfl) rfl ?_; clear hE a; intro a hE
      refine WL.nil ?_
      have hb76 : y1.length ≤ 9223372036854775807 := by have := hS.vecCap 3 rfl; unfold maxLen at this; omega
      obtain ⟨q66, hq65, hq51⟩ := bindS hq51
      refine W.cut (fun a w => ∃ (q77 : Int), q77 = q66 ∧ Rep a 78 [(0, .int .i64 x0), (1, .int .i64 x1), (3, .pointer (some ⟨pb1, 0, none⟩)), (4, .pointer (some ⟨pb2, 0, none⟩)), (8, .int .i64 q77), (14, .int .i64 ((y1.length : Nat) : Int)), (15, .int .i64 ((k53 : Nat) : Int))] ∧ St w s (pt pb0 (.cells #[.int .i64 y0.Period, .int .i64 y0.Events, .slice a_y0_2 y0.Rules.length c_y0_2] 24 (0, 0)) :: pt pb1 (.cells #[.slice a_v0 y1.length c_v0] 29 (0, 0)) :: pt pb2 (.cells #[.pointer a_y2_0] 76 (0, 0)) :: vecC 3 1 a_v0 c_v0 y1.length cs_v0 :: R)) ?_ ?_
      · refine W.block ?_
        refine W.loop (fun m a w => ∃ (rest69 : Nat) (k67 : Nat), ∃ (q77 : Int), rest69 = m ∧ k67 + rest69 = y1.length ∧ Plancheapest_1_v1.loop2 x0 x1 y1 y2 k53 rest69 k67 q77 = some q66 ∧ Rep a 78 [(0, .int .i64 x0), (1, .int .i64 x1), (3, .pointer (some ⟨pb1, 0, none⟩)), (4, .pointer (some ⟨pb2, 0, none⟩)), (8, .int .i64 q77), (9, .int .i64 ((k53 : Nat) : Int)), (14, .int .i64 ((y1.length : Nat) : Int)), (15, .int .i64 ((k53 : Nat) : Int)), (19, .int .i64 ((y1.length : Nat) : Int)), (20, .int .i64 ((k67 : Nat) : Int))] ∧ St w s (pt pb0 (.cells #[.int .i64 y0.Period, .int .i64 y0.Events, .slice a_y0_2 y0.Rules.length c_y0_2] 24 (0, 0)) :: pt pb1 (.cells #[.slice a_v0 y1.length c_v0] 29 (0, 0)) :: pt pb2 (.cells #[.pointer a_y2_0] 76 (0, 0)) :: vecC 3 1 a_v0 c_v0 y1.length cs_v0 :: R)) (m := y1.length) ⟨y1.length, 0, q63, rfl, by omega, hq65, hE.pick _ ⟨rfl, rfl, rfl, rfl, rfl, rfl, rfl, rfl, rfl, rfl, trivial⟩, hS⟩ ?_
        clear hE hS a w hq65; rintro m73 a w ⟨rest69, k67, q77, rfl, hd70, hq65, hE, hS⟩
        refine W.gen fun K78 hK78 => ?_
        rcases rest69 with _ | rest69
        · skip
          refine W.seq ?_
          refine W.region ?_
          refine WL.vS hS hE (runs_plain rfl) (Gives.p hE rfl) rfl ?_; clear hE a; intro a hE
          refine WL.nil ?_
          refine W.seq ?_
          refine W.condF hE rfl (decide_eq_false (by omega)) ?_
          subst hK78
          refine W.exit rfl ?_
          exact ⟨q77, Option.some.inj hq65, hE.pick _ ⟨rfl, rfl, rfl, rfl, rfl, rfl, rfl, trivial⟩, hS⟩
        · have hlt71 : k67 < y1.length := by omega
          rw [Plancheapest_1_v1.loop2] at hq65
          refine W.seq ?_
          refine W.region ?_
          refine WL.vS hS hE (runs_plain rfl) (Gives.p hE rfl) rfl ?_; clear hE a; intro a hE
          refine WL.nil ?_
          refine W.seq ?_
          refine W.condT hE rfl (decide_eq_true (by omega)) ?_
          refine W.skip ?_
          refine W.seq ?_
          refine W.block ?_
          refine W.seq ?_
          refine W.region ?_
          refine WL.vS hS hE (runs_plain rfl) (Gives.p hE rfl) rfl ?_; clear hE a; intro a hE
          refine WL.vS hS hE (runs_plain rfl) (Gives.p hE rfl) rfl ?_; clear hE a; intro a hE
          refine WL.nil ?_
          refine W.seq ?_
          obtain ⟨q80, hq79, hq65⟩ := bndS hq65
          refine W.cut (fun a w => ∃ (q83 : Bool), q83 = q80 ∧ Rep a 78 [(0, .int .i64 x0), (1, .int .i64 x1), (3, .pointer (some ⟨pb1, 0, none⟩)), (4, .pointer (some ⟨pb2, 0, none⟩)), (8, .int .i64 q77), (9, .int .i64 ((k53 : Nat) : Int)), (10, .int .i64 ((k67 : Nat) : Int)), (14, .int .i64 ((y1.length : Nat) : Int)), (15, .int .i64 ((k53 : Nat) : Int)), (19, .int .i64 ((y1.length : Nat) : Int)), (20, .int .i64 ((k67 : Nat) : Int)), (34, .bool q83)] ∧ St w s (pt pb0 (.cells #[.int .i64 y0.Period, .int .i64 y0.Events, .slice a_y0_2 y0.Rules.length c_y0_2] 24 (0, 0)) :: pt pb1 (.cells #[.slice a_v0 y1.length c_v0] 29 (0, 0)) :: pt pb2 (.cells #[.pointer a_y2_0] 76 (0, 0)) :: vecC 3 1 a_v0 c_v0 y1.length cs_v0 :: R)) ?_ ?_
          · refine W.gen fun K84 hK84 => ?_
            refine W.region ?_
            refine WL.vS hS hE (runs_plain rfl) (Gives.p hE rfl) rfl ?_; clear hE a; intro a hE
            refine WL.vS hS hE (runs_plain rfl) (Gives.p hE rfl) rfl ?_; clear hE a; intro a hE
            refine WL.vS hS hE (runs_plain rfl) (Gives.shr hE rfl rfl (by omega)) rfl ?_; clear hE a; intro a hE
            refine WL.vS hS hE (runs_plain rfl) (Gives.p hE rfl) rfl ?_; clear hE a; intro a hE
            refine WL.vS hS hE (runs_plain rfl) (Gives.p hE rfl) rfl ?_; clear hE a; intro a hE
            refine WL.vS hS hE (runs_plain rfl) (Gives.p hE rfl) rfl ?_; clear hE a; intro a hE
            rcases Bool.eq_false_or_eq_true ((IntKind.wrap .i64 ((BitVec.ofInt (IntKind.bits .i64) (Int.fdiv x0 (2 ^ (min (Int.toNat ((k53 : Nat) : Int)) (IntKind.bits .i64)))) &&& BitVec.ofInt (IntKind.bits .i64) 1).toNat : Int)) == 1) with hg85 | hg85
            · replace hq79 := iteT hg85 hq79
              refine WL.vS hS hE (runs_if hE rfl rfl rfl hg85) (Gives.p hE rfl) rfl ?_; clear hE a; intro a hE
              refine WL.vS hS hE (runs_if hE rfl rfl rfl hg85) (Gives.p hE rfl) rfl ?_; clear hE a; intro a hE
              refine WL.vS hS hE (runs_if hE rfl rfl rfl hg85) (Gives.shr hE rfl rfl (by omega)) rfl ?_; clear hE a; intro a hE
              refine WL.vS hS hE (runs_if hE rfl rfl rfl hg85) (Gives.p hE rfl) rfl ?_; clear hE a; intro a hE
              refine WL.vS hS hE (runs_if hE rfl rfl rfl hg85) (Gives.p hE rfl) rfl ?_; clear hE a; intro a hE
              refine WL.vS hS hE (runs_plain rfl) (Gives.pickT hE rfl hg85 rfl) rfl ?_; clear hE a; intro a hE
              refine WL.nil ?_
              subst hK84
              exact ⟨((IntKind.wrap .i64 ((BitVec.ofInt (IntKind.bits .i64) (Int.fdiv x0 (2 ^ (min (Int.toNat ((k67 : Nat) : Int)) (IntKind.bits .i64)))) &&& BitVec.ofInt (IntKind.bits .i64) 1).toNat : Int)) == 0), hq79, hE.pick _ ⟨rfl, rfl, rfl, rfl, rfl, rfl, rfl, rfl, rfl, rfl, rfl, rfl, trivial⟩, hS⟩
            · replace hq79 := iteF hg85 hq79
              refine WL.no hE (runs_not hE rfl rfl rfl (by rw [hg85]; decide)) rfl ?_; clear hE a; intro a hE
              refine WL.no hE (runs_not hE rfl rfl rfl (by rw [hg85]; decide)) rfl ?_; clear hE a; intro a hE
              refine WL.no hE (runs_not hE rfl rfl rfl (by rw [hg85]; decide)) rfl ?_; clear hE a; intro a hE
              refine WL.no hE (runs_not hE rfl rfl rfl (by rw [hg85]; decide)) rfl ?_; clear hE a; intro a hE
              refine WL.no hE (runs_not hE rfl rfl rfl (by rw [hg85]; decide)) rfl ?_; clear hE a; intro a hE
              refine WL.vS hS hE (runs_plain rfl) (Gives.pickF hE rfl hg85 rfl) rfl ?_; clear hE a; intro a hE
              refine WL.nil ?_
              subst hK84
              exact ⟨false, hq79, hE.pick _ ⟨rfl, rfl, rfl, rfl, rfl, rfl, rfl, rfl, rfl, rfl, rfl, rfl, trivial⟩, hS⟩
          · clear hE hS a w; rintro a w ⟨q83, rfl, hE, hS⟩
            obtain ⟨q87, hq86, hq65⟩ := bindS hq65
            refine W.cut (fun a w => ∃ (q90 : Int), q90 = q87 ∧ Rep a 78 [(0, .int .i64 x0), (1, .int .i64 x1), (3, .pointer (some ⟨pb1, 0, none⟩)), (4, .pointer (some ⟨pb2, 0, none⟩)), (8, .int .i64 q90), (9, .int .i64 ((k53 : Nat) : Int)), (14, .int .i64 ((y1.length : Nat) : Int)), (15, .int .i64 ((k53 : Nat) : Int)), (19, .int .i64 ((y1.length : Nat) : Int)), (20, .int .i64 ((k67 : Nat) : Int))] ∧ St w s (pt pb0 (.cells #[.int .i64 y0.Period, .int .i64 y0.Events, .slice a_y0_2 y0.Rules.length c_y0_2] 24 (0, 0)) :: pt pb1 (.cells #[.slice a_v0 y1.length c_v0] 29 (0, 0)) :: pt pb2 (.cells #[.pointer a_y2_0] 76 (0, 0)) :: vecC 3 1 a_v0 c_v0 y1.length cs_v0 :: R)) ?_ ?_
            · refine W.gen fun K91 hK91 => ?_
              refine W.cond hE rfl (fun hc92 => ?_) (fun hc92 => ?_)
              · replace hq86 := iteT hc92 hq86
                refine W.seq ?_
                refine W.region ?_
                refine WL.vS hS hE (runs_plain rfl) (Gives.p hE rfl) rfl ?_; clear hE a; intro a hE
                refine WL.vS hS hE (runs_plain rfl) (Gives.p hE rfl) rfl ?_; clear hE a; intro a hE
                refine WL.nil ?_
                obtain ⟨q94, hq93, hq86⟩ := bindS hq86
                refine W.cut (fun a w => ∃ (q97 : Int), q97 = q94 ∧ Rep a 78 [(0, .int .i64 x0), (1, .int .i64 x1), (3, .pointer (some ⟨pb1, 0, none⟩)), (4, .pointer (some ⟨pb2, 0, none⟩)), (8, .int .i64 q97), (9, .int .i64 ((k53 : Nat) : Int)), (14, .int .i64 ((y1.length : Nat) : Int)), (15, .int .i64 ((k53 : Nat) : Int)), (19, .int .i64 ((y1.length : Nat) : Int)), (20, .int .i64 ((k67 : Nat) : Int))] ∧ St w s (pt pb0 (.cells #[.int .i64 y0.Period, .int .i64 y0.Events, .slice a_y0_2 y0.Rules.length c_y0_2] 24 (0, 0)) :: pt pb1 (.cells #[.slice a_v0 y1.length c_v0] 29 (0, 0)) :: pt pb2 (.cells #[.pointer a_y2_0] 76 (0, 0)) :: vecC 3 1 a_v0 c_v0 y1.length cs_v0 :: R)) ?_ ?_
                · refine W.gen fun K98 hK98 => ?_
                  refine W.cond hE rfl (fun hc99 => ?_) (fun hc99 => ?_)
                  · replace hq93 := iteT hc99 hq93
                    refine W.regionQ (C := fun w => St w s (pt pb0 (.cells #[.int .i64 y0.Period, .int .i64 y0.Events, .slice a_y0_2 y0.Rules.length c_y0_2] 24 (0, 0)) :: pt pb1 (.cells #[.slice a_v0 y1.length c_v0] 29 (0, 0)) :: pt pb2 (.cells #[.pointer a_y2_0] 76 (0, 0)) :: vecC 3 1 a_v0 c_v0 y1.length cs_v0 :: R)) mixed (by kernel_rfl) hS.drew ?_
                    refine QL.v hE (runs_plain rfl) (Gives.p hE rfl) rfl ?_; clear hE a; intro a hE
                    refine QL.v hE (runs_plain rfl) (Gives.loadB hE 2 rfl rfl rfl ty76) rfl ?_; clear hE a; intro a hE
                    refine QL.v hE (runs_plain rfl) (Gives.p hE rfl) rfl ?_; clear hE a; intro a hE
                    refine QL.v hE (runs_plain rfl) (Gives.p hE rfl) rfl ?_; clear hE a; intro a hE
                    obtain ⟨x100, hx101, hq93⟩ := bindS hq93
                    obtain ⟨b102, o103, cs104, rfl, hl105, hR106, hat107⟩ := h_y2_0.at hx101
                    obtain ⟨rfl, hl108⟩ := hR106
                    refine QL.v hE (runs_plain rfl) (Gives.nilOk hE rfl) rfl ?_; clear hE a; intro a hE
                    obtain ⟨_, hx109, hq93⟩ := bindS hq93
                    obtain ⟨h110, h111⟩ := bx_some hx109
                    refine QL.v hE (runs_plain rfl) (Gives.idxG hE ((((k67 : Nat) : Int)).toNat) rfl rfl an116 h110 h111 ⟨_, _, rfl⟩ rfl) rfl ?_; clear hE a; intro a hE
                    obtain ⟨_, hx112, hq93⟩ := bindS hq93
                    obtain ⟨h113, h114⟩ := bx_some hx112
                    obtain ⟨x115, hx116, hq93⟩ := bindS hq93
                    obtain ⟨hi117, hlt118, hy119⟩ := gx_some hx116
                    refine QL.v hE (runs_plain rfl) (Gives.idxG hE ((((k53 : Nat) : Int)).toNat) rfl rfl an81 h113 h114 ⟨_, _, rfl⟩ (by show ao (some ⟨b102, o103, none⟩) + (((k67 : Nat) : Int)).toNat * 8 + (((k53 : Nat) : Int)).toNat * 1 = ao (some ⟨b102, o103, none⟩) + ((((k67 : Nat) : Int) * 8 + ((k53 : Nat) : Int))).toNat; omega)) rfl ?_; clear hE a; intro a hE
                    refine QL.v hE (runs_plain rfl) (Gives.load1 hE rfl (fun w h => Sees.cell1 (hat107 w _ h) hy119) ty3) rfl ?_; clear hE a; intro a hE
                    refine QL.v hE (runs_plain rfl) (Gives.loadB hE 1 rfl rfl rfl ty29) rfl ?_; clear hE a; intro a hE
                    refine QL.v hE (runs_plain rfl) (Gives.p hE rfl) rfl ?_; clear hE a; intro a hE
                    obtain ⟨x120, hx121, hq93⟩ := bindS hq93
                    obtain ⟨hi122, hlt123, hy124⟩ := gx_some hx121
                    obtain ⟨vs125, hl126, hR127, hd128, hget129⟩ := h_v0.at hy124
                    subst hR127
                    refine QL.v hE (runs_plain rfl) (Gives.idx hE ((((k53 : Nat) : Int)).toNat) rfl rfl sl29 hi122 (by omega) (hS.vecAok 3 rfl (by omega : (((k53 : Nat) : Int)).toNat < y1.length))) rfl ?_; clear hE a; intro a hE
                    refine QL.v hE (runs_plain rfl) (Gives.load1 hE rfl (fun w h => St.vecSees h 3 rfl ((((k53 : Nat) : Int)).toNat * 1) _ hget129) ty3) rfl ?_; clear hE a; intro a hE
                    refine QL.v hE (runs_plain rfl) (Gives.loadB hE 1 rfl rfl rfl ty29) rfl ?_; clear hE a; intro a hE
                    refine QL.v hE (runs_plain rfl) (Gives.p hE rfl) rfl ?_; clear hE a; intro a hE
                    obtain ⟨x130, hx131, hq93⟩ := bindS hq93
                    obtain ⟨hi132, hlt133, hy134⟩ := gx_some hx131
                    obtain ⟨vs135, hl136, hR137, hd138, hget139⟩ := h_v0.at hy134
                    subst hR137
                    refine QL.v hE (runs_plain rfl) (Gives.idx hE ((((k67 : Nat) : Int)).toNat) rfl rfl sl29 hi132 (by omega) (hS.vecAok 3 rfl (by omega : (((k67 : Nat) : Int)).toNat < y1.length))) rfl ?_; clear hE a; intro a hE
                    refine QL.v hE (runs_plain rfl) (Gives.load1 hE rfl (fun w h => St.vecSees h 3 rfl ((((k67 : Nat) : Int)).toNat * 1) _ hget139) ty3) rfl ?_; clear hE a; intro a hE
                    refine QL.v hE (runs_plain rfl) (Gives.p hE rfl) rfl ?_; clear hE a; intro a hE
                    refine QL.v hE (runs_plain rfl) (Gives.p hE rfl) rfl ?_; clear hE a; intro a hE
                    refine QL.v hE (runs_plain rfl) (Gives.min2 hE rfl rfl) rfl ?_; clear hE a; intro a hE
                    refine QL.v hE (runs_plain rfl) (Gives.p hE rfl) rfl ?_; clear hE a; intro a hE
                    refine QL.nil ?_; clear hS w; intro w hS
                    subst hK98
                    exact ⟨mn q77 (w64 (x115 - (w64 (x120 - x130)))), Option.some.inj hq93, hE.pick _ ⟨rfl, rfl, rfl, rfl, rfl, rfl, rfl, rfl, rfl, rfl, trivial⟩, hS⟩
                  · replace hq93 := iteF hc99 hq93
                    refine W.regionQ (C := fun w => St w s (pt pb0 (.cells #[.int .i64 y0.Period, .int .i64 y0.Events, .slice a_y0_2 y0.Rules.length c_y0_2] 24 (0, 0)) :: pt pb1 (.cells #[.slice a_v0 y1.length c_v0] 29 (0, 0)) :: pt pb2 (.cells #[.pointer a_y2_0] 76 (0, 0)) :: vecC 3 1 a_v0 c_v0 y1.length cs_v0 :: R)) mixed (by kernel_rfl) hS.drew ?_
                    refine QL.v hE (runs_plain rfl) (Gives.p hE rfl) rfl ?_; clear hE a; intro a hE
                    refine QL.v hE (runs_plain rfl) (Gives.loadB hE 2 rfl rfl rfl ty76) rfl ?_; clear hE a; intro a hE
                    refine QL.v hE (runs_plain rfl) (Gives.p hE rfl) rfl ?_; clear hE a; intro a hE
                    refine QL.v hE (runs_plain rfl) (Gives.p hE rfl) rfl ?_; clear hE a; intro a hE
                    obtain ⟨x140, hx141, hq93⟩ := bindS hq93
                    obtain ⟨b142, o143, cs144, rfl, hl145, hR146, hat147⟩ := h_y2_0.at hx141
                    obtain ⟨rfl, hl148⟩ := hR146
                    refine QL.v hE (runs_plain rfl) (Gives.nilOk hE rfl) rfl ?_; clear hE a; intro a hE
                    obtain ⟨_, hx149, hq93⟩ := bindS hq93
                    obtain ⟨h150, h151⟩ := bx_some hx149
                    refine QL.v hE (runs_plain rfl) (Gives.idxG hE ((((k53 : Nat) : Int)).toNat) rfl rfl an116 h150 h151 ⟨_, _, rfl⟩ rfl) rfl ?_; clear hE a; intro a hE
                    obtain ⟨_, hx152, hq93⟩ := bindS hq93
                    obtain ⟨h153, h154⟩ := bx_some hx152
                    obtain ⟨x155, hx156, hq93⟩ := bindS hq93
                    obtain ⟨hi157, hlt158, hy159⟩ := gx_some hx156
                    refine QL.v hE (runs_plain rfl) (Gives.idxG hE ((((k67 : Nat) : Int)).toNat) rfl rfl an81 h153 h154 ⟨_, _, rfl⟩ (by show ao (some ⟨b142, o143, none⟩) + (((k53 : Nat) : Int)).toNat * 8 + (((k67 : Nat) : Int)).toNat * 1 = ao (some ⟨b142, o143, none⟩) + ((((k53 : Nat) : Int) * 8 + ((k67 : Nat) : Int))).toNat; omega)) rfl ?_; clear hE a; intro a hE
                    refine QL.v hE (runs_plain rfl) (Gives.load1 hE rfl (fun w h => Sees.cell1 (hat147 w _ h) hy159) ty3) rfl ?_; clear hE a; intro a hE
                    refine QL.v hE (runs_plain rfl) (Gives.loadB hE 1 rfl rfl rfl ty29) rfl ?_; clear hE a; intro a hE
                    refine QL.v hE (runs_plain rfl) (Gives.p hE rfl) rfl ?_; clear hE a; intro a hE
                    obtain ⟨x160, hx161, hq93⟩ := bindS hq93
                    obtain ⟨hi162, hlt163, hy164⟩ := gx_some hx161
                    obtain ⟨vs165, hl166, hR167, hd168, hget169⟩ := h_v0.at hy164
                    subst hR167
                    refine QL.v hE (runs_plain rfl) (Gives.idx hE ((((k67 : Nat) : Int)).toNat) rfl rfl sl29 hi162 (by omega) (hS.vecAok 3 rfl (by omega : (((k67 : Nat) : Int)).toNat < y1.length))) rfl ?_; clear hE a; intro a hE
                    refine QL.v hE (runs_plain rfl) (Gives.load1 hE rfl (fun w h => St.vecSees h 3 rfl ((((k67 : Nat) : Int)).toNat * 1) _ hget169) ty3) rfl ?_; clear hE a; intro a hE
                    refine QL.v hE (runs_plain rfl) (Gives.loadB hE 1 rfl rfl rfl ty29) rfl ?_; clear hE a; intro a hE
                    refine QL.v hE (runs_plain rfl) (Gives.p hE rfl) rfl ?_; clear hE a; intro a hE
                    obtain ⟨x170, hx171, hq93⟩ := bindS hq93
                    obtain ⟨hi172, hlt173, hy174⟩ := gx_some hx171
                    obtain ⟨vs175, hl176, hR177, hd178, hget179⟩ := h_v0.at hy174
                    subst hR177
                    refine QL.v hE (runs_plain rfl) (Gives.idx hE ((((k53 : Nat) : Int)).toNat) rfl rfl sl29 hi172 (by omega) (hS.vecAok 3 rfl (by omega : (((k53 : Nat) : Int)).toNat < y1.length))) rfl ?_; clear hE a; intro a hE
                    refine QL.v hE (runs_plain rfl) (Gives.load1 hE rfl (fun w h => St.vecSees h 3 rfl ((((k53 : Nat) : Int)).toNat * 1) _ hget179) ty3) rfl ?_; clear hE a; intro a hE
                    refine QL.v hE (runs_plain rfl) (Gives.p hE rfl) rfl ?_; clear hE a; intro a hE
                    refine QL.v hE (runs_plain rfl) (Gives.p hE rfl) rfl ?_; clear hE a; intro a hE
                    refine QL.v hE (runs_plain rfl) (Gives.min2 hE rfl rfl) rfl ?_; clear hE a; intro a hE
                    refine QL.v hE (runs_plain rfl) (Gives.p hE rfl) rfl ?_; clear hE a; intro a hE
                    refine QL.nil ?_; clear hS w; intro w hS
                    subst hK98
                    exact ⟨mn q77 (w64 (x155 - (w64 (x160 - x170)))), Option.some.inj hq93, hE.pick _ ⟨rfl, rfl, rfl, rfl, rfl, rfl, rfl, rfl, rfl, rfl, trivial⟩, hS⟩
                · clear hE hS a w; rintro a w ⟨q97, rfl, hE, hS⟩
                  subst hK91
                  exact ⟨q97, Option.some.inj hq86, hE.pick _ ⟨rfl, rfl, rfl, rfl, rfl, rfl, rfl, rfl, rfl, rfl, trivial⟩, hS⟩
              · replace hq86 := iteF hc92 hq86
                refine W.skip ?_
                subst hK91
                exact ⟨q77, Option.some.inj hq86, hE.pick _ ⟨rfl, rfl, rfl, rfl, rfl, rfl, rfl, rfl, rfl, rfl, trivial⟩, hS⟩
            · clear hE hS a w; rintro a w ⟨q90, rfl, hE, hS⟩
              refine W.region ?_
              refine WL.vS hS hE (runs_plain rfl) (Gives.inc hE rfl (by omega)) rfl ?_; clear hE a; intro a hE
              refine WL.vS hS hE (runs_plain rfl) (Gives.p hE rfl) rfl ?_; clear hE a; intro a hE
              refine WL.nil ?_
              subst hK78
              exact ⟨rest69, Nat.lt_succ_self _, rest69, k67 + 1, q90, rfl, (by omega), hq65, hE.pick _ ⟨rfl, rfl, rfl, rfl, rfl, rfl, rfl, rfl, rfl, rfl, trivial⟩, hS⟩
      · clear hE hS a w; rintro a w ⟨q77, rfl, hE, hS⟩
        refine W.region ?_
        refine WL.vS hS hE (runs_plain rfl) (Gives.inc hE rfl (by omega)) rfl ?_; clear hE a; intro a hE
        refine WL.vS hS hE (runs_plain rfl) (Gives.p hE rfl) rfl ?_; clear hE a; intro a hE
        refine WL.nil ?_
        subst hK64
        exact ⟨rest55, Nat.lt_succ_self _, rest55, k53 + 1, q77, rfl, (by omega), hq51, hE.pick _ ⟨rfl, rfl, rfl, rfl, rfl, rfl, rfl, trivial⟩, hS⟩
  · clear hE hS a w; rintro a w ⟨q63, rfl, hE, hS⟩
    refine W.seq ?_
    refine W.region ?_
    refine WL.vS hS hE (runs_plain rfl) (Gives.p hE rfl) rfl ?_; clear hE a; intro a hE
    refine WL.vS hS hE (runs_plain rfl) (Gives.p hE rfl) rfl ?_; clear hE a; intro a hE
    refine WL.nil ?_
    refine W.ret ?_
    refine finG (fn := Try.f79) (rs := [.tmp 7]) (vs := [_]) hE rfl ⟨rfl, trivial⟩ ?_
    obtain rfl := Option.some.inj hr
    exact ⟨rfl, hS⟩
set_option maxHeartbeats 8000000 in
theorem Plancheapest_2_v1_ok  {w : World} {s : Sg} {R : List HP} {pb0 : Nat} {pb1 : Nat} {pb2 : Nat} {x0 : Int} {x1 : Int} {y0 : List Int} {a_v0 : Option Addr} {c_v0 n_v0 : Nat} {cs_v0 : List Value} {y1 : Int} {y2 : List Int} {a_v1 : Option Addr} {c_v1 n_v1 : Nat} {cs_v1 : List Value} (hS : St w s (pt pb0 (.cells #[.slice a_v0 n_v0 c_v0] 29 (0, 0)) :: pt pb1 (.cells #[.int .i64 y1] 3 (0, 0)) :: pt pb2 (.cells #[.slice a_v1 n_v1 c_v1] 29 (0, 0)) :: vecC 3 1 a_v0 c_v0 n_v0 cs_v0 :: vecC 3 1 a_v1 c_v1 n_v1 cs_v1 :: R)) (h_v0 : Ev 1 (RI .i64) s cs_v0 y0) (hn_v0 : y0.length = n_v0) (h_v1 : Ev 1 (RI .i64) s cs_v1 y2) (hn_v1 : y2.length = n_v1) {r : (List Int) × Int} (hr : Plancheapest_2_v1 x0 x1 y0 y1 y2 = some r) :
    Calls Try.prog 80 [.int .i64 x0, .int .i64 x1, .pointer (some ⟨pb0, 0, none⟩), .pointer (some ⟨pb1, 0, none⟩), .pointer (some ⟨pb2, 0, none⟩)].toArray w (fun e w => ∃ (cs55 : List Value), e = .returned (.tuple #[]) ∧ Ev 1 (RI .i64) s cs55 r.1 ∧ r.1.length = n_v0 ∧ St w s (pt pb0 (.cells #[.slice a_v0 n_v0 c_v0] 29 (0, 0)) :: pt pb1 (.cells #[.int .i64 r.2] 3 (0, 0)) :: pt pb2 (.cells #[.slice a_v1 n_v1 c_v1] 29 (0, 0)) :: vecC 3 1 a_v0 c_v0 n_v0 cs55 :: vecC 3 1 a_v1 c_v1 n_v1 cs_v1 :: R)) := by
  refine enter Try.func80 rfl rfl rfl fun a hE => ?_
  rw [Plancheapest_2_v1] at hr
  subst hn_v0
  subst hn_v1
  refine W.seq ?_
  refine W.region ?_
  refine WL.vS hS hE (runs_plain rfl) (Gives.loadB hE 0 rfl rfl rfl ty29) rfl ?_; clear hE a; intro a hE
  refine WL.vS hS hE (runs_plain rfl) (Gives.len hE rfl sl29) rfl ?_; clear hE a; intro a hE
  refine WL.vS hS hE (runs_plain rfl) (Gives.p hE rfl) rfl ?_; clear hE a; intro a hE
  refine WL.nil ?_
  have hb69 : y0.length ≤ 9223372036854775807 := by have := hS.vecCap 3 rfl; unfold maxLen at this; omega
  obtain ⟨q59, hq58, hr⟩ := bindS hr
  refine W.cut (fun a w => ∃ (q70 : List Int), ∃ (q76 : Int), ∃ (cs74 : List Value), (q70, q76) = q59 ∧ Ev 1 (RI .i64) s cs74 q70 ∧ q70.length = y0.length ∧ Rep a 34 [] ∧ St w s (pt pb0 (.cells #[.slice a_v0 y0.length c_v0] 29 (0, 0)) :: pt pb1 (.cells #[.int .i64 q76] 3 (0, 0)) :: pt pb2 (.cells #[.slice a_v1 y2.length c_v1] 29 (0, 0)) :: vecC 3 1 a_v0 c_v0 y0.length cs74 :: vecC 3 1 a_v1 c_v1 y2.length cs_v1 :: R)) ?_ ?_
  · refine W.block ?_
    refine W.loop (fun m a w => ∃ (rest62 : Nat) (k60 : Nat), ∃ (q70 : List Int), ∃ (q76 : Int), ∃ (cs74 : List Value), rest62 = m ∧ k60 + rest62 = y0.length ∧ Plancheapest_2_v1.loop1 x0 x1 y2 rest62 k60 q70 q76 = some q59 ∧ Ev 1 (RI .i64) s cs74 q70 ∧ q70.length = y0.length ∧ Rep a 34 [(0, .int .i64 x0), (1, .int .i64 x1), (2, .pointer (some ⟨pb0, 0, none⟩)), (3, .pointer (some ⟨pb1, 0, none⟩)), (4, .pointer (some ⟨pb2, 0, none⟩)), (9, .int .i64 ((y0.length : Nat) : Int)), (10, .int .i64 ((k60 : Nat) : Int))] ∧ St w s (pt pb0 (.cells #[.slice a_v0 y0.length c_v0] 29 (0, 0)) :: pt pb1 (.cells #[.int .i64 q76] 3 (0, 0)) :: pt pb2 (.cells #[.slice a_v1 y2.length c_v1] 29 (0, 0)) :: vecC 3 1 a_v0 c_v0 y0.length cs74 :: vecC 3 1 a_v1 c_v1 y2.length cs_v1 :: R)) (m := y0.length) ⟨y0.length, 0, y0, y1, cs_v0, rfl, by omega, hq58, h_v0, (rfl), hE.pick _ ⟨rfl, rfl, rfl, rfl, rfl, rfl, rfl, trivial⟩, hS⟩ ?_
    clear hE hS a w hq58; rintro m66 a w ⟨rest62, k60, q70, q76, cs74, rfl, hd63, hq58, h73, hn75, hE, hS⟩
    refine W.gen fun K77 hK77 => ?_
    rcases rest62 with _ | rest62
    · skip
      refine W.seq ?_
      refine W.region ?_
      refine WL.vS hS hE (runs_plain rfl) (Gives.p hE rfl) rfl ?_; clear hE a; intro a hE
      refine WL.nil ?_
      refine W.seq ?_
      refine W.condF hE rfl (decide_eq_false (by omega)) ?_
      subst hK77
      refine W.exit rfl ?_
      exact ⟨q70, q76, cs74, Option.some.inj hq58, h73, hn75, hE.pick _ trivial, hS⟩
    · have hlt64 : k60 < y0.length := by omega
      rw [Plancheapest_2_v1.loop1] at hq58
      refine W.seq ?_
      refine W.region ?_
      refine WL.vS hS hE (runs_plain rfl) (Gives.p hE rfl) rfl ?_; clear hE a; intro a hE
      refine WL.nil ?_
      refine W.seq ?_
      refine W.condT hE rfl (decide_eq_true (by omega)) ?_
      refine W.skip ?_
      refine W.seq ?_
      refine W.block ?_
      refine W.seq ?_
      refine W.region ?_
      refine WL.vS hS hE (runs_plain rfl) (Gives.p hE rfl) rfl ?_; clear hE a; intro a hE
      refine WL.vS hS hE (runs_plain rfl) (Gives.p hE rfl) rfl ?_; clear hE a; intro a hE
      refine WL.nil ?_
      refine W.seq ?_
      refine W.region ?_
      refine WL.vS hS hE (runs_plain rfl) (Gives.p hE rfl) rfl ?_; clear hE a; intro a hE
      refine WL.vS hS hE (runs_plain rfl) (Gives.p hE rfl) rfl ?_; clear hE a; intro a hE
      refine WL.vS hS hE (runs_plain rfl) (Gives.shr hE rfl rfl (by omega)) rfl ?_; clear hE a; intro a hE
      refine WL.vS hS hE (runs_plain rfl) (Gives.p hE rfl) rfl ?_; clear hE a; intro a hE
      refine WL.vS hS hE (runs_plain rfl) (Gives.p hE rfl) rfl ?_; clear hE a; intro a hE
      refine WL.nil ?_
      obtain ⟨q79, hq78, hq58⟩ := bindS hq58
      refine W.cut (fun a w => ∃ (q82 : List Int), ∃ (q88 : Int), ∃ (cs86 : List Value), (q82, q88) = q79 ∧ Ev 1 (RI .i64) s cs86 q82 ∧ q82.length = y0.length ∧ Rep a 34 [(0, .int .i64 x0), (1, .int .i64 x1), (2, .pointer (some ⟨pb0, 0, none⟩)), (3, .pointer (some ⟨pb1, 0, none⟩)), (4, .pointer (some ⟨pb2, 0, none⟩)), (9, .int .i64 ((y0.length : Nat) : Int)), (10, .int .i64 ((k60 : Nat) : Int))] ∧ St w s (pt pb0 (.cells #[.slice a_v0 y0.length c_v0] 29 (0, 0)) :: pt pb1 (.cells #[.int .i64 q88] 3 (0, 0)) :: pt pb2 (.cells #[.slice a_v1 y2.length c_v1] 29 (0, 0)) :: vecC 3 1 a_v0 c_v0 y0.length cs86 :: vecC 3 1 a_v1 c_v1 y2.length cs_v1 :: R)) ?_ ?_
      · refine W.gen fun K89 hK89 => ?_
        refine W.cond hE rfl (fun hc90 => ?_) (fun hc90 => ?_)
        · replace hq78 := iteT hc90 hq78
          refine W.seq ?_
          refine W.region ?_
          refine WL.vS hS hE (runs_plain rfl) (Gives.loadB hE 0 rfl rfl rfl ty29) rfl ?_; clear hE a; intro a hE
          refine WL.vS hS hE (runs_plain rfl) (Gives.p hE rfl) rfl ?_; clear hE a; intro a hE
          obtain ⟨x91, hx92, hq78⟩ := bindS hq78
          obtain ⟨hi93, hlt94, hy95⟩ := gx_some hx92
          obtain ⟨vs96, hl97, hR98, hd99, hget100⟩ := h73.at hy95
          subst hR98
          refine WL.vS hS hE (runs_plain rfl) (Gives.idx hE ((((k60 : Nat) : Int)).toNat) rfl rfl sl29 hi93 (by have := hn75; omega) (hS.vecAok 3 rfl (by have := hn75; omega : (((k60 : Nat) : Int)).toNat < y0.length))) rfl ?_; clear hE a; intro a hE
          refine WL.vS hS hE (runs_plain rfl) (Gives.load1 hE rfl (fun w h => St.vecSees h 3 rfl ((((k60 : Nat) : Int)).toNat * 1) _ hget100) ty3) rfl ?_; clear hE a; intro a hE
          refine WL.vS hS hE (runs_plain rfl) (Gives.p hE rfl) rfl ?_; clear hE a; intro a hE
          refine WL.vS hS hE (runs_plain rfl) (Gives.p hE rfl) rfl ?_; clear hE a; intro a hE
          obtain ⟨_, hx102, hq78⟩ := bindS hq78
          obtain ⟨h103, h104⟩ := ix_some hx102
          refine WL.vS hS hE (runs_plain rfl) (Gives.idx hE ((((k60 : Nat) : Int)).toNat) rfl rfl sl29 h103 (by have := hn75; omega) (hS.vecAok 3 rfl (by have := hn75; omega : (((k60 : Nat) : Int)).toNat < y0.length))) rfl ?_; clear hE a; intro a hE
          obtain ⟨x106, hx107, hq78⟩ := bindS hq78
          refine WL.setD hE hS 3 rfl (runs_plain rfl) rfl rfl (vs := [.int .i64 (w64 (x91 + x1))]) rfl ty3 rfl rfl rfl h73 hn75 (sx_some hx107).1 hx107 rfl rfl ?_; clear hE hS a w; intro cs108 a w h109 hn110 hE hS
          refine WL.nil ?_
          refine W.gen fun K111 hK111 => ?_
          refine W.regionE (sel (fun w => St w s (pt pb0 (.cells #[.slice a_v0 y0.length c_v0] 29 (0, 0)) :: pt pb1 (.cells #[.int .i64 q76] 3 (0, 0)) :: pt pb2 (.cells #[.slice a_v1 y2.length c_v1] 29 (0, 0)) :: vecC 3 1 a_v0 c_v0 y0.length cs108 :: vecC 3 1 a_v1 c_v1 y2.length cs_v1 :: R)) (fun w => St w s (pt pb0 (.cells #[.slice a_v0 y0.length c_v0] 29 (0, 0)) :: pt pb2 (.cells #[.slice a_v1 y2.length c_v1] 29 (0, 0)) :: vecC 3 1 a_v0 c_v0 y0.length cs108 :: vecC 3 1 a_v1 c_v1 y2.length cs_v1 :: R))) (fun b i => cond b ([0, 1, 2, 3, 4, 5, 6, 7].contains i) ([0, 1, 2, 3, 4, 5, 6, 7, 8].contains i)) mixed ?_
          replace hS := hS.drew
          have hT := tw_sel (A := fun w => St w s (pt pb0 (.cells #[.slice a_v0 y0.length c_v0] 29 (0, 0)) :: pt pb1 (.cells #[.int .i64 q76] 3 (0, 0)) :: pt pb2 (.cells #[.slice a_v1 y2.length c_v1] 29 (0, 0)) :: vecC 3 1 a_v0 c_v0 y0.length cs108 :: vecC 3 1 a_v1 c_v1 y2.length cs_v1 :: R)) (B := fun w => St w s (pt pb0 (.cells #[.slice a_v0 y0.length c_v0] 29 (0, 0)) :: pt pb2 (.cells #[.slice a_v1 y2.length c_v1] 29 (0, 0)) :: vecC 3 1 a_v0 c_v0 y0.length cs108 :: vecC 3 1 a_v1 c_v1 y2.length cs_v1 :: R)) (w := _) (x := true) (y := true) (fun _ => hS) (fun _ => (hS.dropAt 1))
          have hF := hS; replace hS := hS
          refine Rg.take (i := 0) true rfl hE rfl (by kernel_rfl) (runs_plain rfl) (Gives.loadB hE 1 rfl rfl rfl ty3) rfl hT ?_; clear hE a; intro a hE
          replace hS := hF; clear hF hT
          refine Rg.takeP (i := 1) hE rfl (by kernel_rfl) (runs_plain rfl) (Gives.p hE rfl) rfl (tw_sel (fun _ => hS) (fun _ => (hS.dropAt 1))) ?_; clear hE a; intro a hE
          have hT := tw_sel (A := fun w => St w s (pt pb0 (.cells #[.slice a_v0 y0.length c_v0] 29 (0, 0)) :: pt pb1 (.cells #[.int .i64 q76] 3 (0, 0)) :: pt pb2 (.cells #[.slice a_v1 y2.length c_v1] 29 (0, 0)) :: vecC 3 1 a_v0 c_v0 y0.length cs108 :: vecC 3 1 a_v1 c_v1 y2.length cs_v1 :: R)) (B := fun w => St w s (pt pb0 (.cells #[.slice a_v0 y0.length c_v0] 29 (0, 0)) :: pt pb2 (.cells #[.slice a_v1 y2.length c_v1] 29 (0, 0)) :: vecC 3 1 a_v0 c_v0 y0.length cs108 :: vecC 3 1 a_v1 c_v1 y2.length cs_v1 :: R)) (w := _) (x := true) (y := true) (fun _ => hS) (fun _ => (hS.dropAt 1))
          have hF := hS; replace hS := hS
          refine Rg.take (i := 2) true rfl hE rfl (by kernel_rfl) (runs_plain rfl) (Gives.loadB hE 2 rfl rfl rfl ty29) rfl hT ?_; clear hE a; intro a hE
          replace hS := hF; clear hF hT
          refine Rg.takeP (i := 3) hE rfl (by kernel_rfl) (runs_plain rfl) (Gives.p hE rfl) rfl (tw_sel (fun _ => hS) (fun _ => (hS.dropAt 1))) ?_; clear hE a; intro a hE
          obtain ⟨x112, hx113, hq78⟩ := bindS hq78
          obtain ⟨hi114, hlt115, hy116⟩ := gx_some hx113
          obtain ⟨vs117, hl118, hR119, hd120, hget121⟩ := h_v1.at hy116
          subst hR119
          refine Rg.takeP (i := 4) hE rfl (by kernel_rfl) (runs_plain rfl) (Gives.idx hE ((((k60 : Nat) : Int)).toNat) rfl rfl sl29 hi114 (by omega) (hS.vecAok 4 rfl (by omega : (((k60 : Nat) : Int)).toNat < y2.length))) rfl (tw_sel (fun _ => hS) (fun _ => (hS.dropAt 1))) ?_; clear hE a; intro a hE
          have hT := tw_sel (A := fun w => St w s (pt pb0 (.cells #[.slice a_v0 y0.length c_v0] 29 (0, 0)) :: pt pb1 (.cells #[.int .i64 q76] 3 (0, 0)) :: pt pb2 (.cells #[.slice a_v1 y2.length c_v1] 29 (0, 0)) :: vecC 3 1 a_v0 c_v0 y0.length cs108 :: vecC 3 1 a_v1 c_v1 y2.length cs_v1 :: R)) (B := fun w => St w s (pt pb0 (.cells #[.slice a_v0 y0.length c_v0] 29 (0, 0)) :: pt pb2 (.cells #[.slice a_v1 y2.length c_v1] 29 (0, 0)) :: vecC 3 1 a_v0 c_v0 y0.length cs108 :: vecC 3 1 a_v1 c_v1 y2.length cs_v1 :: R)) (w := _) (x := true) (y := true) (fun _ => hS) (fun _ => (hS.dropAt 1))
          have hF := hS; replace hS := hS
          refine Rg.take (i := 5) true rfl hE rfl (by kernel_rfl) (runs_plain rfl) (Gives.load1 hE rfl (fun w h => St.vecSees h 4 rfl ((((k60 : Nat) : Int)).toNat * 1) _ hget121) ty3) rfl hT ?_; clear hE a; intro a hE
          replace hS := hF; clear hF hT
          refine Rg.takeP (i := 6) hE rfl (by kernel_rfl) (runs_plain rfl) (Gives.p hE rfl) rfl (tw_sel (fun _ => hS) (fun _ => (hS.dropAt 1))) ?_; clear hE a; intro a hE
          refine Rg.takeP (i := 7) hE rfl (by kernel_rfl) (runs_plain rfl) (Gives.p hE rfl) rfl (tw_sel (fun _ => hS) (fun _ => (hS.dropAt 1))) ?_; clear hE a; intro a hE
          refine Rg.one (i := 8) false true rfl (by kernel_rfl) (by kernel_rfl) (by kernel_rfl) ?_
          refine WL.storeI hE hS 1 rfl [.int .i64 (w64 (q76 + (w64 (x1 * x112))))] (runs_plain rfl) rfl rfl rfl ty3 rfl rfl rfl rfl ?_; clear hE hS a w; intro a w hE hS
          refine WL.nil ?_
          refine ⟨⟨fun h => absurd h (by decide), fun _ => (hS.dropAt 1)⟩, ?_⟩
          refine Rg.done (by kernel_rfl) ?_
          subst hK111
          subst hK89
          exact ⟨x106, w64 (q76 + (w64 (x1 * x112))), cs108, Option.some.inj hq78, h109, hn110, hE.pick _ ⟨rfl, rfl, rfl, rfl, rfl, rfl, rfl, trivial⟩, hS⟩
        · replace hq78 := iteF hc90 hq78
          refine W.skip ?_
          subst hK89
          exact ⟨q70, q76, cs74, Option.some.inj hq78, h73, hn75, hE.pick _ ⟨rfl, rfl, rfl, rfl, rfl, rfl, rfl, trivial⟩, hS⟩
      · clear hE hS a w; rintro a w ⟨q82, q88, cs86, rfl, h85, hn87, hE, hS⟩
        dsimp only at hq58
        refine W.region ?_
        refine WL.vS hS hE (runs_plain rfl) (Gives.inc hE rfl (by omega)) rfl ?_; clear hE a; intro a hE
        refine WL.vS hS hE (runs_plain rfl) (Gives.p hE rfl) rfl ?_; clear hE a; intro a hE
        refine WL.nil ?_
        subst hK77
        exact ⟨rest62, Nat.lt_succ_self _, rest62, k60 + 1, q82, q88, cs86, rfl, (by omega), hq58, h85, hn87, hE.pick _ ⟨rfl, rfl, rfl, rfl, rfl, rfl, rfl, trivial⟩, hS⟩
  · clear hE hS a w; rintro a w ⟨q70, q76, cs74, rfl, h73, hn75, hE, hS⟩
    dsimp only at hr
    refine finG (fn := Try.f80) (rs := []) (vs := []) hE rfl trivial ?_
    obtain rfl := Option.some.inj hr
    exact ⟨cs74, rfl, h73, hn75, hS⟩
set_option maxHeartbeats 8000000 in
theorem Plancheapest_ok {fu : Nat}  {w : World} {s : Sg} {R : List HP} {x0 : PlanPeriodic} {a0_0 : Option Addr} {c0_0 : Nat} {x1 : Option (List Int)} {a1 : Option Addr} {x2 : List Int} {a2 : Option Addr} {c2 : Nat} (hS : St w s (R)) (h0_0 : Sl 5 RPlanRule s a0_0 c0_0 x0.Rules) (h1 : Pt 64 (RA .i64 64) s a1 x1) (h2 : Sl 1 (RI .i64) s a2 c2 x2) {r : (List Int) × Int} (hr : Plancheapest fu x0 x1 x2 = some r) :
    Calls Try.prog 51 [.agg [.int .i64 x0.Period, .int .i64 x0.Events, .slice a0_0 x0.Rules.length c0_0].toArray, .pointer a1, .slice a2 x2.length c2].toArray w (fun e w => ∃ (a0 : Option Addr) (c0 n0 : Nat) (cs0 : List Value), e = .returned (.tuple #[.slice a0 n0 c0, .int .i64 r.2]) ∧ Ev 1 (RI .i64) s cs0 r.1 ∧ r.1.length = n0 ∧ St w s (vecC 3 1 a0 c0 n0 cs0 :: R)) := by
  refine enter Try.func51 rfl rfl rfl fun a hE => ?_
  rw [Plancheapest] at hr
  refine W.seq ?_
  refine W.region ?_
  refine WL.box hE hS (runs_plain rfl) rfl rfl rfl ?_; clear hE hS a w; intro b51 a w hE hS
  refine WL.box hE hS (runs_plain rfl) rfl rfl rfl ?_; clear hE hS a w; intro b52 a w hE hS
  refine WL.vS hS hE (runs_plain rfl) (Gives.p hE rfl) rfl ?_; clear hE a; intro a hE
  refine WL.vS hS hE (runs_plain rfl) (Gives.p hE rfl) rfl ?_; clear hE a; intro a hE
  refine WL.nil ?_
  refine W.seq ?_
  refine W.region ?_
  refine WL.vS hS hE (runs_plain rfl) (Gives.fld hE rfl fl24_1) rfl ?_; clear hE a; intro a hE
  refine WL.vS hS hE (runs_plain rfl) (Gives.loadB hE 1 rfl rfl rfl ty3) rfl ?_; clear hE a; intro a hE
  obtain ⟨x53, hx54, hr⟩ := bindS hr
  refine WL.mkD (Rr := RI .i64) hE hS (runs_plain rfl) rfl rfl ap29 zr3 rfl hx54 rfl ?_; clear hE hS a w; intro b55 cs56 a w h57 hE hS
  refine WL.alloc hE hS (runs_plain rfl) zr29 rfl ?_; clear hE hS a w; intro b59 a w hE hS
  refine WL.storeI hE hS 0 rfl [.slice (some ⟨b55, 0, none⟩) x53.length x53.length] (runs_plain rfl) rfl rfl rfl ty29 rfl rfl rfl rfl ?_; clear hE hS a w; intro a w hE hS
  refine WL.nil ?_
  refine W.seq ?_
  refine W.region ?_
  refine WL.vS hS hE (runs_plain rfl) (Gives.fld hE rfl fl24_1) rfl ?_; clear hE a; intro a hE
  refine WL.vS hS hE (runs_plain rfl) (Gives.loadB hE 3 rfl rfl rfl ty3) rfl ?_; clear hE a; intro a hE
  obtain ⟨x60, hx61, hr⟩ := bindS hr
  refine WL.mkD (Rr := RI .i64) hE hS (runs_plain rfl) rfl rfl ap29 zr3 rfl hx61 rfl ?_; clear hE hS a w; intro b62 cs63 a w h64 hE hS
  refine WL.alloc hE hS (runs_plain rfl) zr29 rfl ?_; clear hE hS a w; intro b66 a w hE hS
  refine WL.storeI hE hS 0 rfl [.slice (some ⟨b62, 0, none⟩) x60.length x60.length] (runs_plain rfl) rfl rfl rfl ty29 rfl rfl rfl rfl ?_; clear hE hS a w; intro a w hE hS
  refine WL.nil ?_
  refine W.seq ?_
  refine W.region ?_
  refine WL.alloc hE hS (runs_plain rfl) zr3 rfl ?_; clear hE hS a w; intro b67 a w hE hS
  refine WL.storeI hE hS 0 rfl [.int .i64 0] (runs_plain rfl) rfl rfl rfl ty3 rfl rfl rfl rfl ?_; clear hE hS a w; intro a w hE hS
  refine WL.nil ?_
  refine W.seq ?_
  refine W.seq ?_
  refine W.region ?_
  refine WL.vS hS hE (runs_plain rfl) (Gives.loadB hE 3 rfl rfl rfl ty29) rfl ?_; clear hE a; intro a hE
  refine WL.vS hS hE (runs_plain rfl) (Gives.len hE rfl sl29) rfl ?_; clear hE a; intro a hE
  refine WL.vS hS hE (runs_plain rfl) (Gives.p hE rfl) rfl ?_; clear hE a; intro a hE
  refine WL.nil ?_
  have hb79 : x53.length ≤ 9223372036854775807 := by have := hS.vecCap 4 rfl; unfold maxLen at this; omega
  obtain ⟨q69, hq68, hr⟩ := bindS hr
  refine W.cut (fun a w => ∃ (q80 : List Int), ∃ (cs84 : List Value), q80 = q69 ∧ Ev 1 (RI .i64) s cs84 q80 ∧ q80.length = x53.length ∧ Rep a 141 [(2, .slice a2 x2.length c2), (3, .pointer (some ⟨b51, 0, none⟩)), (4, .pointer (some ⟨b52, 0, none⟩)), (8, .pointer (some ⟨b59, 0, none⟩)), (9, .pointer (some ⟨b66, 0, none⟩)), (10, .pointer (some ⟨b67, 0, none⟩))] ∧ St w s (pt b67 (.cells #[.int .i64 0] 3 (0, 0)) :: pt b66 (.cells #[.slice (some ⟨b62, 0, none⟩) x60.length x60.length] 29 (0, 0)) :: vecC 3 1 (some ⟨b62, 0, none⟩) x60.length x60.length cs63 :: pt b59 (.cells #[.slice (some ⟨b55, 0, none⟩) x53.length x53.length] 29 (0, 0)) :: vecC 3 1 (some ⟨b55, 0, none⟩) x53.length x53.length cs84 :: pt b52 (.cells #[.pointer a1] 76 (0, 0)) :: pt b51 (.cells #[.int .i64 x0.Period, .int .i64 x0.Events, .slice a0_0 x0.Rules.length c0_0] 24 (0, 0)) :: R)) ?_ ?_
  · refine W.block ?_
    refine W.loop (fun m a w => ∃ (rest72 : Nat) (k70 : Nat), ∃ (q80 : List Int), ∃ (cs84 : List Value), rest72 = m ∧ k70 + rest72 = x53.length ∧ Plancheapest.loop1 x1 rest72 k70 q80 = some q69 ∧ Ev 1 (RI .i64) s cs84 q80 ∧ q80.length = x53.length ∧ Rep a 141 [(2, .slice a2 x2.length c2), (3, .pointer (some ⟨b51, 0, none⟩)), (4, .pointer (some ⟨b52, 0, none⟩)), (8, .pointer (some ⟨b59, 0, none⟩)), (9, .pointer (some ⟨b66, 0, none⟩)), (10, .pointer (some ⟨b67, 0, none⟩)), (29, .int .i64 ((x53.length : Nat) : Int)), (30, .int .i64 ((k70 : Nat) : Int))] ∧ St w s (pt b67 (.cells #[.int .i64 0] 3 (0, 0)) :: pt b66 (.cells #[.slice (some ⟨b62, 0, none⟩) x60.length x60.length] 29 (0, 0)) :: vecC 3 1 (some ⟨b62, 0, none⟩) x60.length x60.length cs63 :: pt b59 (.cells #[.slice (some ⟨b55, 0, none⟩) x53.length x53.length] 29 (0, 0)) :: vecC 3 1 (some ⟨b55, 0, none⟩) x53.length x53.length cs84 :: pt b52 (.cells #[.pointer a1] 76 (0, 0)) :: pt b51 (.cells #[.int .i64 x0.Period, .int .i64 x0.Events, .slice a0_0 x0.Rules.length c0_0] 24 (0, 0)) :: R)) (m := x53.length) ⟨x53.length, 0, x53, cs56, rfl, by omega, hq68, h57, (rfl), hE.pick _ ⟨rfl, rfl, rfl, rfl, rfl, rfl, rfl, rfl, trivial⟩, hS⟩ ?_
    clear hE hS a w hq68; rintro m76 a w ⟨rest72, k70, q80, cs84, rfl, hd73, hq68, h83, hn85, hE, hS⟩
    refine W.gen fun K86 hK86 => ?_
    rcases rest72 with _ | rest72
    · skip
      refine W.seq ?_
      refine W.region ?_
      refine WL.vS hS hE (runs_plain rfl) (Gives.p hE rfl) rfl ?_; clear hE a; intro a hE
      refine WL.nil ?_
      refine W.seq ?_
      refine W.condF hE rfl (decide_eq_false (by omega)) ?_
      subst hK86
      refine W.exit rfl ?_
      exact ⟨q80, cs84, Option.some.inj hq68, h83, hn85, hE.pick _ ⟨rfl, rfl, rfl, rfl, rfl, rfl, trivial⟩, hS⟩
    · have hlt74 : k70 < x53.length := by omega
      rw [Plancheapest.loop1] at hq68
      refine W.seq ?_
      refine W.region ?_
      refine WL.vS hS hE (runs_plain rfl) (Gives.p hE rfl) rfl ?_; clear hE a; intro a hE
      refine WL.nil ?_
      refine W.seq ?_
      refine W.condT hE rfl (decide_eq_true (by omega)) ?_
      refine W.skip ?_
      refine W.seq ?_
      refine W.block ?_
      refine W.seq ?_
      refine W.region ?_
      refine WL.vS hS hE (runs_plain rfl) (Gives.p hE rfl) rfl ?_; clear hE a; intro a hE
      refine WL.vS hS hE (runs_plain rfl) (Gives.p hE rfl) rfl ?_; clear hE a; intro a hE
      refine WL.nil ?_
      refine W.gen fun K87 hK87 => ?_
      refine W.regionE (sel (fun w => St w s (pt b67 (.cells #[.int .i64 0] 3 (0, 0)) :: pt b66 (.cells #[.slice (some ⟨b62, 0, none⟩) x60.length x60.length] 29 (0, 0)) :: vecC 3 1 (some ⟨b62, 0, none⟩) x60.length x60.length cs63 :: pt b59 (.cells #[.slice (some ⟨b55, 0, none⟩) x53.length x53.length] 29 (0, 0)) :: vecC 3 1 (some ⟨b55, 0, none⟩) x53.length x53.length cs84 :: pt b52 (.cells #[.pointer a1] 76 (0, 0)) :: pt b51 (.cells #[.int .i64 x0.Period, .int .i64 x0.Events, .slice a0_0 x0.Rules.length c0_0] 24 (0, 0)) :: R)) (fun w => St w s (pt b67 (.cells #[.int .i64 0] 3 (0, 0)) :: pt b66 (.cells #[.slice (some ⟨b62, 0, none⟩) x60.length x60.length] 29 (0, 0)) :: vecC 3 1 (some ⟨b62, 0, none⟩) x60.length x60.length cs63 :: pt b59 (.cells #[.slice (some ⟨b55, 0, none⟩) x53.length x53.length] 29 (0, 0)) :: pt b52 (.cells #[.pointer a1] 76 (0, 0)) :: pt b51 (.cells #[.int .i64 x0.Period, .int .i64 x0.Events, .slice a0_0 x0.Rules.length c0_0] 24 (0, 0)) :: R))) (fun b i => cond b ([0, 1, 2, 3, 4, 5, 6, 7, 8, 9].contains i) ([0, 1, 2, 3, 4, 5, 6, 7, 8, 9, 10].contains i)) mixed ?_
      replace hS := hS.drew
      have hT := tw_sel (A := fun w => St w s (pt b67 (.cells #[.int .i64 0] 3 (0, 0)) :: pt b66 (.cells #[.slice (some ⟨b62, 0, none⟩) x60.length x60.length] 29 (0, 0)) :: vecC 3 1 (some ⟨b62, 0, none⟩) x60.length x60.length cs63 :: pt b59 (.cells #[.slice (some ⟨b55, 0, none⟩) x53.length x53.length] 29 (0, 0)) :: vecC 3 1 (some ⟨b55, 0, none⟩) x53.length x53.length cs84 :: pt b52 (.cells #[.pointer a1] 76 (0, 0)) :: pt b51 (.cells #[.int .i64 x0.Period, .int .i64 x0.Events, .slice a0_0 x0.Rules.length c0_0] 24 (0, 0)) :: R)) (B := fun w => St w s (pt b67 (.cells #[.int .i64 0] 3 (0, 0)) :: pt b66 (.cells #[.slice (some ⟨b62, 0, none⟩) x60.length x60.length] 29 (0, 0)) :: vecC 3 1 (some ⟨b62, 0, none⟩) x60.length x60.length cs63 :: pt b59 (.cells #[.slice (some ⟨b55, 0, none⟩) x53.length x53.length] 29 (0, 0)) :: pt b52 (.cells #[.pointer a1] 76 (0, 0)) :: pt b51 (.cells #[.int .i64 x0.Period, .int .i64 x0.Events, .slice a0_0 x0.Rules.length c0_0] 24 (0, 0)) :: R)) (w := _) (x := true) (y := true) (fun _ => hS) (fun _ => (hS.dropAt 4))
      have hF := hS; replace hS := hS
      refine Rg.take (i := 0) true rfl hE rfl (by kernel_rfl) (runs_plain rfl) (Gives.loadB hE 3 rfl rfl rfl ty29) rfl hT ?_; clear hE a; intro a hE
      replace hS := hF; clear hF hT
      refine Rg.takeP (i := 1) hE rfl (by kernel_rfl) (runs_plain rfl) (Gives.p hE rfl) rfl (tw_sel (fun _ => hS) (fun _ => (hS.dropAt 4))) ?_; clear hE a; intro a hE
      have hT := tw_sel (A := fun w => St w s (pt b67 (.cells #[.int .i64 0] 3 (0, 0)) :: pt b66 (.cells #[.slice (some ⟨b62, 0, none⟩) x60.length x60.length] 29 (0, 0)) :: vecC 3 1 (some ⟨b62, 0, none⟩) x60.length x60.length cs63 :: pt b59 (.cells #[.slice (some ⟨b55, 0, none⟩) x53.length x53.length] 29 (0, 0)) :: vecC 3 1 (some ⟨b55, 0, none⟩) x53.length x53.length cs84 :: pt b52 (.cells #[.pointer a1] 76 (0, 0)) :: pt b51 (.cells #[.int .i64 x0.Period, .int .i64 x0.Events, .slice a0_0 x0.Rules.length c0_0] 24 (0, 0)) :: R)) (B := fun w => St w s (pt b67 (.cells #[.int .i64 0] 3 (0, 0)) :: pt b66 (.cells #[.slice (some ⟨b62, 0, none⟩) x60.length x60.length] 29 (0, 0)) :: vecC 3 1 (some ⟨b62, 0, none⟩) x60.length x60.length cs63 :: pt b59 (.cells #[.slice (some ⟨b55, 0, none⟩) x53.length x53.length] 29 (0, 0)) :: pt b52 (.cells #[.pointer a1] 76 (0, 0)) :: pt b51 (.cells #[.int .i64 x0.Period, .int .i64 x0.Events, .slice a0_0 x0.Rules.length c0_0] 24 (0, 0)) :: R)) (w := _) (x := true) (y := true) (fun _ => hS) (fun _ => (hS.dropAt 4))
      have hF := hS; replace hS := hS
      refine Rg.take (i := 2) true rfl hE rfl (by kernel_rfl) (runs_plain rfl) (Gives.loadB hE 5 rfl rfl rfl ty76) rfl hT ?_; clear hE a; intro a hE
      replace hS := hF; clear hF hT
      refine Rg.takeP (i := 3) hE rfl (by kernel_rfl) (runs_plain rfl) (Gives.p hE rfl) rfl (tw_sel (fun _ => hS) (fun _ => (hS.dropAt 4))) ?_; clear hE a; intro a hE
      have hT := tw_sel (A := fun w => St w s (pt b67 (.cells #[.int .i64 0] 3 (0, 0)) :: pt b66 (.cells #[.slice (some ⟨b62, 0, none⟩) x60.length x60.length] 29 (0, 0)) :: vecC 3 1 (some ⟨b62, 0, none⟩) x60.length x60.length cs63 :: pt b59 (.cells #[.slice (some ⟨b55, 0, none⟩) x53.length x53.length] 29 (0, 0)) :: vecC 3 1 (some ⟨b55, 0, none⟩) x53.length x53.length cs84 :: pt b52 (.cells #[.pointer a1] 76 (0, 0)) :: pt b51 (.cells #[.int .i64 x0.Period, .int .i64 x0.Events, .slice a0_0 x0.Rules.length c0_0] 24 (0, 0)) :: R)) (B := fun w => St w s (pt b67 (.cells #[.int .i64 0] 3 (0, 0)) :: pt b66 (.cells #[.slice (some ⟨b62, 0, none⟩) x60.length x60.length] 29 (0, 0)) :: vecC 3 1 (some ⟨b62, 0, none⟩) x60.length x60.length cs63 :: pt b59 (.cells #[.slice (some ⟨b55, 0, none⟩) x53.length x53.length] 29 (0, 0)) :: pt b52 (.cells #[.pointer a1] 76 (0, 0)) :: pt b51 (.cells #[.int .i64 x0.Period, .int .i64 x0.Events, .slice a0_0 x0.Rules.length c0_0] 24 (0, 0)) :: R)) (w := _) (x := true) (y := true) (fun _ => hS) (fun _ => (hS.dropAt 4))
      have hF := hS; replace hS := hS
      obtain ⟨x88, hx89, hq68⟩ := bindS hq68
      obtain ⟨b90, o91, cs92, rfl, hl93, hR94, hat95⟩ := h1.at hx89
      obtain ⟨rfl, hl96⟩ := hR94
      refine Rg.take (i := 4) true rfl hE rfl (by kernel_rfl) (runs_plain rfl) (Gives.nilOk hE rfl) rfl hT ?_; clear hE a; intro a hE
      replace hS := hF; clear hF hT
      obtain ⟨_, hx97, hq68⟩ := bindS hq68
      obtain ⟨h98, h99⟩ := bx_some hx97
      refine Rg.takeP (i := 5) hE rfl (by kernel_rfl) (runs_plain rfl) (Gives.idxG hE ((((k70 : Nat) : Int)).toNat) rfl rfl an116 h98 h99 ⟨_, _, rfl⟩ rfl) rfl (tw_sel (fun _ => hS) (fun _ => (hS.dropAt 4))) ?_; clear hE a; intro a hE
      obtain ⟨_, hx100, hq68⟩ := bindS hq68
      obtain ⟨h101, h102⟩ := bx_some hx100
      obtain ⟨x103, hx104, hq68⟩ := bindS hq68
      obtain ⟨hi105, hlt106, hy107⟩ := gx_some hx104
      refine Rg.takeP (i := 6) hE rfl (by kernel_rfl) (runs_plain rfl) (Gives.idxG hE (((0 : Int)).toNat) rfl rfl an81 h101 h102 ⟨_, _, rfl⟩ (by show ao (some ⟨b90, o91, none⟩) + (((k70 : Nat) : Int)).toNat * 8 + ((0 : Int)).toNat * 1 = ao (some ⟨b90, o91, none⟩) + ((((k70 : Nat) : Int) * 8 + 0)).toNat; omega)) rfl (tw_sel (fun _ => hS) (fun _ => (hS.dropAt 4))) ?_; clear hE a; intro a hE
      have hT := tw_sel (A := fun w => St w s (pt b67 (.cells #[.int .i64 0] 3 (0, 0)) :: pt b66 (.cells #[.slice (some ⟨b62, 0, none⟩) x60.length x60.length] 29 (0, 0)) :: vecC 3 1 (some ⟨b62, 0, none⟩) x60.length x60.length cs63 :: pt b59 (.cells #[.slice (some ⟨b55, 0, none⟩) x53.length x53.length] 29 (0, 0)) :: vecC 3 1 (some ⟨b55, 0, none⟩) x53.length x53.length cs84 :: pt b52 (.cells #[.pointer (some ⟨b90, o91, none⟩)] 76 (0, 0)) :: pt b51 (.cells #[.int .i64 x0.Period, .int .i64 x0.Events, .slice a0_0 x0.Rules.length c0_0] 24 (0, 0)) :: R)) (B := fun w => St w s (pt b67 (.cells #[.int .i64 0] 3 (0, 0)) :: pt b66 (.cells #[.slice (some ⟨b62, 0, none⟩) x60.length x60.length] 29 (0, 0)) :: vecC 3 1 (some ⟨b62, 0, none⟩) x60.length x60.length cs63 :: pt b59 (.cells #[.slice (some ⟨b55, 0, none⟩) x53.length x53.length] 29 (0, 0)) :: pt b52 (.cells #[.pointer (some ⟨b90, o91, none⟩)] 76 (0, 0)) :: pt b51 (.cells #[.int .i64 x0.Period, .int .i64 x0.Events, .slice a0_0 x0.Rules.length c0_0] 24 (0, 0)) :: R)) (w := _) (x := true) (y := true) (fun _ => hS) (fun _ => (hS.dropAt 4))
      have hF := hS; replace hS := hS
      refine Rg.take (i := 7) true rfl hE rfl (by kernel_rfl) (runs_plain rfl) (Gives.load1 hE rfl (fun w h => Sees.cell1 (hat95 w _ h) hy107) ty3) rfl hT ?_; clear hE a; intro a hE
      replace hS := hF; clear hF hT
      refine Rg.takeP (i := 8) hE rfl (by kernel_rfl) (runs_plain rfl) (Gives.p hE rfl) rfl (tw_sel (fun _ => hS) (fun _ => (hS.dropAt 4))) ?_; clear hE a; intro a hE
      obtain ⟨_, hx109, hq68⟩ := bindS hq68
      obtain ⟨h110, h111⟩ := ix_some hx109
      refine Rg.takeP (i := 9) hE rfl (by kernel_rfl) (runs_plain rfl) (Gives.idx hE ((((k70 : Nat) : Int)).toNat) rfl rfl sl29 h110 (by have := hn85; omega) (hS.vecAok 4 rfl (by have := hn85; omega : (((k70 : Nat) : Int)).toNat < x53.length))) rfl (tw_sel (fun _ => hS) (fun _ => (hS.dropAt 4))) ?_; clear hE a; intro a hE
      refine Rg.one (i := 10) false true rfl (by kernel_rfl) (by kernel_rfl) (by kernel_rfl) ?_
      obtain ⟨x113, hx114, hq68⟩ := bindS hq68
      refine WL.setD hE hS 4 rfl (runs_plain rfl) rfl rfl (vs := [.int .i64 (w64 (0 - x103))]) rfl ty3 rfl rfl rfl h83 hn85 (sx_some hx114).1 hx114 rfl rfl ?_; clear hE hS a w; intro cs115 a w h116 hn117 hE hS
      refine WL.nil ?_
      refine ⟨⟨fun h => absurd h (by decide), fun _ => (hS.dropAt 4)⟩, ?_⟩
      refine Rg.done (by kernel_rfl) ?_
      subst hK87
      refine W.region ?_
      refine WL.vS hS hE (runs_plain rfl) (Gives.inc hE rfl (by omega)) rfl ?_; clear hE a; intro a hE
      refine WL.vS hS hE (runs_plain rfl) (Gives.p hE rfl) rfl ?_; clear hE a; intro a hE
      refine WL.nil ?_
      subst hK86
      exact ⟨rest72, Nat.lt_succ_self _, rest72, k70 + 1, x113, cs115, rfl, (by omega), hq68, h116, hn117, hE.pick _ ⟨rfl, rfl, rfl, rfl, rfl, rfl, rfl, rfl, trivial⟩, hS⟩
  · clear hE hS a w; rintro a w ⟨q80, cs84, rfl, h83, hn85, hE, hS⟩
    refine W.seq ?_
    refine W.seq ?_
    refine W.region ?_
    refine WL.vS hS hE (runs_plain rfl) (Gives.fld hE rfl fl24_2) rfl ?_; clear hE a; intro a hE
    refine WL.vS hS hE (runs_plain rfl) (Gives.loadB hE 6 rfl rfl rfl ty22) rfl ?_; clear hE a; intro a hE
    refine WL.vS hS hE (runs_plain rfl) (Gives.len hE rfl sl22) rfl ?_; clear hE a; intro a hE
    refine WL.vS hS hE (runs_plain rfl) (Gives.p hE rfl) rfl ?_; clear hE a; intro a hE
    refine WL.nil ?_
    obtain ⟨q119, hq118, hr⟩ := bindS hr
    refine W.cut (fun a w => ∃ (q129 : List Int), ∃ (q135 : Int), ∃ (cs133 : List Value), (q129, q135) = q119 ∧ Ev 1 (RI .i64) s cs133 q129 ∧ q129.length = x60.length ∧ Rep a 141 [(3, .pointer (some ⟨b51, 0, none⟩)), (4, .pointer (some ⟨b52, 0, none⟩)), (8, .pointer (some ⟨b59, 0, none⟩)), (9, .pointer (some ⟨b66, 0, none⟩)), (10, .pointer (some ⟨b67, 0, none⟩))] ∧ St w s (pt b67 (.cells #[.int .i64 q135] 3 (0, 0)) :: pt b66 (.cells #[.slice (some ⟨b62, 0, none⟩) x60.length x60.length] 29 (0, 0)) :: vecC 3 1 (some ⟨b62, 0, none⟩) x60.length x60.length cs133 :: pt b59 (.cells #[.slice (some ⟨b55, 0, none⟩) x53.length x53.length] 29 (0, 0)) :: vecC 3 1 (some ⟨b55, 0, none⟩) x53.length x53.length cs84 :: pt b52 (.cells #[.pointer a1] 76 (0, 0)) :: pt b51 (.cells #[.int .i64 x0.Period, .int .i64 x0.Events, .slice a0_0 x0.Rules.length c0_0] 24 (0, 0)) :: R)) ?_ ?_
    · refine W.block ?_
      refine W.loop (fun m a w => ∃ (rest122 : List PlanRule) (k120 : Nat), ∃ (q129 : List Int), ∃ (q135 : Int), ∃ (cs133 : List Value), rest122.length = m ∧ x0.Rules.drop k120 = rest122 ∧ Plancheapest.loop2 x0 x2 q80 rest122 k120 q129 q135 = some q119 ∧ Ev 1 (RI .i64) s cs133 q129 ∧ q129.length = x60.length ∧ Rep a 141 [(2, .slice a2 x2.length c2), (3, .pointer (some ⟨b51, 0, none⟩)), (4, .pointer (some ⟨b52, 0, none⟩)), (8, .pointer (some ⟨b59, 0, none⟩)), (9, .pointer (some ⟨b66, 0, none⟩)), (10, .pointer (some ⟨b67, 0, none⟩)), (45, .slice a0_0 x0.Rules.length c0_0), (46, .int .i64 ((x0.Rules).length : Int)), (47, .int .i64 ((k120 : Nat) : Int))] ∧ St w s (pt b67 (.cells #[.int .i64 q135] 3 (0, 0)) :: pt b66 (.cells #[.slice (some ⟨b62, 0, none⟩) x60.length x60.length] 29 (0, 0)) :: vecC 3 1 (some ⟨b62, 0, none⟩) x60.length x60.length cs133 :: pt b59 (.cells #[.slice (some ⟨b55, 0, none⟩) x53.length x53.length] 29 (0, 0)) :: vecC 3 1 (some ⟨b55, 0, none⟩) x53.length x53.length cs84 :: pt b52 (.cells #[.pointer a1] 76 (0, 0)) :: pt b51 (.cells #[.int .i64 x0.Period, .int .i64 x0.Events, .slice a0_0 x0.Rules.length c0_0] 24 (0, 0)) :: R)) (m := x0.Rules.length) ⟨x0.Rules, 0, x60, 0, cs63, rfl, rfl, hq118, h64, (rfl), hE.pick _ ⟨rfl, rfl, rfl, rfl, rfl, rfl, rfl, rfl, rfl, trivial⟩, hS⟩ ?_
      clear hE hS a w hq118; rintro m126 a w ⟨rest122, k120, q129, q135, cs133, rfl, hd123, hq118, h132, hn134, hE, hS⟩
      refine W.gen fun K136 hK136 => ?_
      rcases rest122 with _ | ⟨x121, rest122⟩
      · have hlt124 := drop_nil hd123
        refine W.seq ?_
        refine W.region ?_
        refine WL.vS hS hE (runs_plain rfl) (Gives.p hE rfl) rfl ?_; clear hE a; intro a hE
        refine WL.nil ?_
        refine W.seq ?_
        refine W.condF hE rfl (decide_eq_false (by omega)) ?_
        subst hK136
        refine W.exit rfl ?_
        exact ⟨q129, q135, cs133, Option.some.inj hq118, h132, hn134, hE.pick _ ⟨rfl, rfl, rfl, rfl, rfl, trivial⟩, hS⟩
      · obtain ⟨hlt124, hx125, hd123⟩ := drop_cons hd123
        rw [Plancheapest.loop2] at hq118
        refine W.seq ?_
        refine W.region ?_
        refine WL.vS hS hE (runs_plain rfl) (Gives.p hE rfl) rfl ?_; clear hE a; intro a hE
        refine WL.nil ?_
        refine W.seq ?_
        refine W.condT hE rfl (decide_eq_true (by omega)) ?_
        refine W.skip ?_
        refine W.seq ?_
        refine W.block ?_
        refine W.seq ?_
        refine W.region ?_
        refine WL.vS hS hE (runs_plain rfl) (Gives.p hE rfl) rfl ?_; clear hE a; intro a hE
        obtain ⟨cs137, hl138, hR139, hat140⟩ := h0_0.at hx125
        subst hR139
        refine WL.vS hS hE (runs_plain rfl) (Gives.idx hE k120 rfl rfl sl22 rfl hlt124 (h0_0.aok hlt124)) rfl ?_; clear hE a; intro a hE
        refine WL.vS hS hE (runs_plain rfl) (Gives.loadA hE rfl (fun w h => hat140 w _ h) ty37) rfl ?_; clear hE a; intro a hE
        refine WL.alloc hE hS (runs_plain rfl) zr37 rfl ?_; clear hE hS a w; intro b141 a w hE hS
        refine WL.vS hS hE (runs_plain rfl) (Gives.p hE rfl) rfl ?_; clear hE a; intro a hE
        refine WL.storeI hE hS 0 rfl (PlanRule.cells x121) (runs_plain rfl) rfl rfl rfl ty37 rfl rfl rfl rfl ?_; clear hE hS a w; intro a w hE hS
        refine WL.nil ?_
        refine W.seq ?_
        refine W.gen fun K142 hK142 => ?_
        refine W.regionE (sel (fun w => St w s (pt b141 (.cells (PlanRule.cells x121).toArray 37 (0, 0)) :: pt b67 (.cells #[.int .i64 q135] 3 (0, 0)) :: pt b66 (.cells #[.slice (some ⟨b62, 0, none⟩) x60.length x60.length] 29 (0, 0)) :: vecC 3 1 (some ⟨b62, 0, none⟩) x60.length x60.length cs133 :: pt b59 (.cells #[.slice (some ⟨b55, 0, none⟩) x53.length x53.length] 29 (0, 0)) :: vecC 3 1 (some ⟨b55, 0, none⟩) x53.length x53.length cs84 :: pt b52 (.cells #[.pointer a1] 76 (0, 0)) :: pt b51 (.cells #[.int .i64 x0.Period, .int .i64 x0.Events, .slice a0_0 x0.Rules.length c0_0] 24 (0, 0)) :: R)) (fun w => St w s (pt b141 (.cells (PlanRule.cells x121).toArray 37 (0, 0)) :: pt b67 (.cells #[.int .i64 q135] 3 (0, 0)) :: pt b66 (.cells #[.slice (some ⟨b62, 0, none⟩) x60.length x60.length] 29 (0, 0)) :: pt b59 (.cells #[.slice (some ⟨b55, 0, none⟩) x53.length x53.length] 29 (0, 0)) :: vecC 3 1 (some ⟨b55, 0, none⟩) x53.length x53.length cs84 :: pt b52 (.cells #[.pointer a1] 76 (0, 0)) :: pt b51 (.cells #[.int .i64 x0.Period, .int .i64 x0.Events, .slice a0_0 x0.Rules.length c0_0] 24 (0, 0)) :: R))) (fun b i => cond b ([0, 1, 2, 3, 4, 5, 6, 7, 8].contains i) ([0, 1, 2, 3, 4, 5, 6, 7, 8, 9].contains i)) mixed ?_
        replace hS := hS.drew
        have hT := tw_sel (A := fun w => St w s (pt b141 (.cells (PlanRule.cells x121).toArray 37 (0, 0)) :: pt b67 (.cells #[.int .i64 q135] 3 (0, 0)) :: pt b66 (.cells #[.slice (some ⟨b62, 0, none⟩) x60.length x60.length] 29 (0, 0)) :: vecC 3 1 (some ⟨b62, 0, none⟩) x60.length x60.length cs133 :: pt b59 (.cells #[.slice (some ⟨b55, 0, none⟩) x53.length x53.length] 29 (0, 0)) :: vecC 3 1 (some ⟨b55, 0, none⟩) x53.length x53.length cs84 :: pt b52 (.cells #[.pointer a1] 76 (0, 0)) :: pt b51 (.cells #[.int .i64 x0.Period, .int .i64 x0.Events, .slice a0_0 x0.Rules.length c0_0] 24 (0, 0)) :: R)) (B := fun w => St w s (pt b141 (.cells (PlanRule.cells x121).toArray 37 (0, 0)) :: pt b67 (.cells #[.int .i64 q135] 3 (0, 0)) :: pt b66 (.cells #[.slice (some ⟨b62, 0, none⟩) x60.length x60.length] 29 (0, 0)) :: pt b59 (.cells #[.slice (some ⟨b55, 0, none⟩) x53.length x53.length] 29 (0, 0)) :: vecC 3 1 (some ⟨b55, 0, none⟩) x53.length x53.length cs84 :: pt b52 (.cells #[.pointer a1] 76 (0, 0)) :: pt b51 (.cells #[.int .i64 x0.Period, .int .i64 x0.Events, .slice a0_0 x0.Rules.length c0_0] 24 (0, 0)) :: R)) (w := _) (x := true) (y := true) (fun _ => hS) (fun _ => (hS.dropAt 3))
        have hF := hS; replace hS := hS
        refine Rg.take (i := 0) true rfl hE rfl (by kernel_rfl) (runs_plain rfl) (Gives.loadB hE 2 rfl rfl rfl ty29) rfl hT ?_; clear hE a; intro a hE
        replace hS := hF; clear hF hT
        refine Rg.takeP (i := 1) hE rfl (by kernel_rfl) (runs_plain rfl) (Gives.fld hE rfl fl37_1) rfl (tw_sel (fun _ => hS) (fun _ => (hS.dropAt 3))) ?_; clear hE a; intro a hE
        have hT := tw_sel (A := fun w => St w s (pt b141 (.cells (PlanRule.cells x121).toArray 37 (0, 0)) :: pt b67 (.cells #[.int .i64 q135] 3 (0, 0)) :: pt b66 (.cells #[.slice (some ⟨b62, 0, none⟩) x60.length x60.length] 29 (0, 0)) :: vecC 3 1 (some ⟨b62, 0, none⟩) x60.length x60.length cs133 :: pt b59 (.cells #[.slice (some ⟨b55, 0, none⟩) x53.length x53.length] 29 (0, 0)) :: vecC 3 1 (some ⟨b55, 0, none⟩) x53.length x53.length cs84 :: pt b52 (.cells #[.pointer a1] 76 (0, 0)) :: pt b51 (.cells #[.int .i64 x0.Period, .int .i64 x0.Events, .slice a0_0 x0.Rules.length c0_0] 24 (0, 0)) :: R)) (B := fun w => St w s (pt b141 (.cells (PlanRule.cells x121).toArray 37 (0, 0)) :: pt b67 (.cells #[.int .i64 q135] 3 (0, 0)) :: pt b66 (.cells #[.slice (some ⟨b62, 0, none⟩) x60.length x60.length] 29 (0, 0)) :: pt b59 (.cells #[.slice (some ⟨b55, 0, none⟩) x53.length x53.length] 29 (0, 0)) :: vecC 3 1 (some ⟨b55, 0, none⟩) x53.length x53.length cs84 :: pt b52 (.cells #[.pointer a1] 76 (0, 0)) :: pt b51 (.cells #[.int .i64 x0.Period, .int .i64 x0.Events, .slice a0_0 x0.Rules.length c0_0] 24 (0, 0)) :: R)) (w := _) (x := true) (y := true) (fun _ => hS) (fun _ => (hS.dropAt 3))
        have hF := hS; replace hS := hS
        refine Rg.take (i := 2) true rfl hE rfl (by kernel_rfl) (runs_plain rfl) (Gives.loadB hE 0 rfl rfl rfl ty3) rfl hT ?_; clear hE a; intro a hE
        replace hS := hF; clear hF hT
        obtain ⟨x143, hx144, hq118⟩ := bindS hq118
        obtain ⟨hi145, hlt146, hy147⟩ := gx_some hx144
        obtain ⟨vs148, hl149, hR150, hd151, hget152⟩ := h132.at hy147
        subst hR150
        refine Rg.takeP (i := 3) hE rfl (by kernel_rfl) (runs_plain rfl) (Gives.idx hE ((x121.To).toNat) rfl rfl sl29 hi145 (by have := hn134; omega) (hS.vecAok 3 rfl (by have := hn134; omega : (x121.To).toNat < x60.length))) rfl (tw_sel (fun _ => hS) (fun _ => (hS.dropAt 3))) ?_; clear hE a; intro a hE
        have hT := tw_sel (A := fun w => St w s (pt b141 (.cells (PlanRule.cells x121).toArray 37 (0, 0)) :: pt b67 (.cells #[.int .i64 q135] 3 (0, 0)) :: pt b66 (.cells #[.slice (some ⟨b62, 0, none⟩) x60.length x60.length] 29 (0, 0)) :: vecC 3 1 (some ⟨b62, 0, none⟩) x60.length x60.length cs133 :: pt b59 (.cells #[.slice (some ⟨b55, 0, none⟩) x53.length x53.length] 29 (0, 0)) :: vecC 3 1 (some ⟨b55, 0, none⟩) x53.length x53.length cs84 :: pt b52 (.cells #[.pointer a1] 76 (0, 0)) :: pt b51 (.cells #[.int .i64 x0.Period, .int .i64 x0.Events, .slice a0_0 x0.Rules.length c0_0] 24 (0, 0)) :: R)) (B := fun w => St w s (pt b141 (.cells (PlanRule.cells x121).toArray 37 (0, 0)) :: pt b67 (.cells #[.int .i64 q135] 3 (0, 0)) :: pt b66 (.cells #[.slice (some ⟨b62, 0, none⟩) x60.length x60.length] 29 (0, 0)) :: pt b59 (.cells #[.slice (some ⟨b55, 0, none⟩) x53.length x53.length] 29 (0, 0)) :: vecC 3 1 (some ⟨b55, 0, none⟩) x53.length x53.length cs84 :: pt b52 (.cells #[.pointer a1] 76 (0, 0)) :: pt b51 (.cells #[.int .i64 x0.Period, .int .i64 x0.Events, .slice a0_0 x0.Rules.length c0_0] 24 (0, 0)) :: R)) (w := _) (x := true) (y := true) (fun _ => hS) (fun _ => (hS.dropAt 3))
        have hF := hS; replace hS := hS
        refine Rg.take (i := 4) true rfl hE rfl (by kernel_rfl) (runs_plain rfl) (Gives.load1 hE rfl (fun w h => St.vecSees h 3 rfl ((x121.To).toNat * 1) _ hget152) ty3) rfl hT ?_; clear hE a; intro a hE
        replace hS := hF; clear hF hT
        refine Rg.takeP (i := 5) hE rfl (by kernel_rfl) (runs_plain rfl) (Gives.fld hE rfl fl37_4) rfl (tw_sel (fun _ => hS) (fun _ => (hS.dropAt 3))) ?_; clear hE a; intro a hE
        have hT := tw_sel (A := fun w => St w s (pt b141 (.cells (PlanRule.cells x121).toArray 37 (0, 0)) :: pt b67 (.cells #[.int .i64 q135] 3 (0, 0)) :: pt b66 (.cells #[.slice (some ⟨b62, 0, none⟩) x60.length x60.length] 29 (0, 0)) :: vecC 3 1 (some ⟨b62, 0, none⟩) x60.length x60.length cs133 :: pt b59 (.cells #[.slice (some ⟨b55, 0, none⟩) x53.length x53.length] 29 (0, 0)) :: vecC 3 1 (some ⟨b55, 0, none⟩) x53.length x53.length cs84 :: pt b52 (.cells #[.pointer a1] 76 (0, 0)) :: pt b51 (.cells #[.int .i64 x0.Period, .int .i64 x0.Events, .slice a0_0 x0.Rules.length c0_0] 24 (0, 0)) :: R)) (B := fun w => St w s (pt b141 (.cells (PlanRule.cells x121).toArray 37 (0, 0)) :: pt b67 (.cells #[.int .i64 q135] 3 (0, 0)) :: pt b66 (.cells #[.slice (some ⟨b62, 0, none⟩) x60.length x60.length] 29 (0, 0)) :: pt b59 (.cells #[.slice (some ⟨b55, 0, none⟩) x53.length x53.length] 29 (0, 0)) :: vecC 3 1 (some ⟨b55, 0, none⟩) x53.length x53.length cs84 :: pt b52 (.cells #[.pointer a1] 76 (0, 0)) :: pt b51 (.cells #[.int .i64 x0.Period, .int .i64 x0.Events, .slice a0_0 x0.Rules.length c0_0] 24 (0, 0)) :: R)) (w := _) (x := true) (y := true) (fun _ => hS) (fun _ => (hS.dropAt 3))
        have hF := hS; replace hS := hS
        refine Rg.take (i := 6) true rfl hE rfl (by kernel_rfl) (runs_plain rfl) (Gives.loadB hE 0 rfl rfl rfl ty3) rfl hT ?_; clear hE a; intro a hE
        replace hS := hF; clear hF hT
        refine Rg.takeP (i := 7) hE rfl (by kernel_rfl) (runs_plain rfl) (Gives.p hE rfl) rfl (tw_sel (fun _ => hS) (fun _ => (hS.dropAt 3))) ?_; clear hE a; intro a hE
        obtain ⟨_, hx154, hq118⟩ := bindS hq118
        obtain ⟨h155, h156⟩ := ix_some hx154
        refine Rg.takeP (i := 8) hE rfl (by kernel_rfl) (runs_plain rfl) (Gives.idx hE ((x121.To).toNat) rfl rfl sl29 h155 (by have := hn134; omega) (hS.vecAok 3 rfl (by have := hn134; omega : (x121.To).toNat < x60.length))) rfl (tw_sel (fun _ => hS) (fun _ => (hS.dropAt 3))) ?_; clear hE a; intro a hE
        refine Rg.one (i := 9) false true rfl (by kernel_rfl) (by kernel_rfl) (by kernel_rfl) ?_
        obtain ⟨x158, hx159, hq118⟩ := bindS hq118
        refine WL.setD hE hS 3 rfl (runs_plain rfl) rfl rfl (vs := [.int .i64 (w64 (x143 + x121.Weight))]) rfl ty3 rfl rfl rfl h132 hn134 (sx_some hx159).1 hx159 rfl rfl ?_; clear hE hS a w; intro cs160 a w h161 hn162 hE hS
        refine WL.nil ?_
        refine ⟨⟨fun h => absurd h (by decide), fun _ => (hS.dropAt 3)⟩, ?_⟩
        refine Rg.done (by kernel_rfl) ?_
        subst hK142
        refine W.seq ?_
        refine W.gen fun K163 hK163 => ?_
        refine W.regionE (sel (fun w => St w s (pt b141 (.cells (PlanRule.cells x121).toArray 37 (0, 0)) :: pt b67 (.cells #[.int .i64 q135] 3 (0, 0)) :: pt b66 (.cells #[.slice (some ⟨b62, 0, none⟩) x60.length x60.length] 29 (0, 0)) :: vecC 3 1 (some ⟨b62, 0, none⟩) x60.length x60.length cs160 :: pt b59 (.cells #[.slice (some ⟨b55, 0, none⟩) x53.length x53.length] 29 (0, 0)) :: vecC 3 1 (some ⟨b55, 0, none⟩) x53.length x53.length cs84 :: pt b52 (.cells #[.pointer a1] 76 (0, 0)) :: pt b51 (.cells #[.int .i64 x0.Period, .int .i64 x0.Events, .slice a0_0 x0.Rules.length c0_0] 24 (0, 0)) :: R)) (fun w => St w s (pt b141 (.cells (PlanRule.cells x121).toArray 37 (0, 0)) :: pt b67 (.cells #[.int .i64 q135] 3 (0, 0)) :: pt b66 (.cells #[.slice (some ⟨b62, 0, none⟩) x60.length x60.length] 29 (0, 0)) :: pt b59 (.cells #[.slice (some ⟨b55, 0, none⟩) x53.length x53.length] 29 (0, 0)) :: vecC 3 1 (some ⟨b55, 0, none⟩) x53.length x53.length cs84 :: pt b52 (.cells #[.pointer a1] 76 (0, 0)) :: pt b51 (.cells #[.int .i64 x0.Period, .int .i64 x0.Events, .slice a0_0 x0.Rules.length c0_0] 24 (0, 0)) :: R))) (fun b i => cond b ([0, 1, 2, 3, 4, 5, 6, 7, 8].contains i) ([0, 1, 2, 3, 4, 5, 6, 7, 8, 9].contains i)) mixed ?_
        replace hS := hS.drew
        have hT := tw_sel (A := fun w => St w s (pt b141 (.cells (PlanRule.cells x121).toArray 37 (0, 0)) :: pt b67 (.cells #[.int .i64 q135] 3 (0, 0)) :: pt b66 (.cells #[.slice (some ⟨b62, 0, none⟩) x60.length x60.length] 29 (0, 0)) :: vecC 3 1 (some ⟨b62, 0, none⟩) x60.length x60.length cs160 :: pt b59 (.cells #[.slice (some ⟨b55, 0, none⟩) x53.length x53.length] 29 (0, 0)) :: vecC 3 1 (some ⟨b55, 0, none⟩) x53.length x53.length cs84 :: pt b52 (.cells #[.pointer a1] 76 (0, 0)) :: pt b51 (.cells #[.int .i64 x0.Period, .int .i64 x0.Events, .slice a0_0 x0.Rules.length c0_0] 24 (0, 0)) :: R)) (B := fun w => St w s (pt b141 (.cells (PlanRule.cells x121).toArray 37 (0, 0)) :: pt b67 (.cells #[.int .i64 q135] 3 (0, 0)) :: pt b66 (.cells #[.slice (some ⟨b62, 0, none⟩) x60.length x60.length] 29 (0, 0)) :: pt b59 (.cells #[.slice (some ⟨b55, 0, none⟩) x53.length x53.length] 29 (0, 0)) :: vecC 3 1 (some ⟨b55, 0, none⟩) x53.length x53.length cs84 :: pt b52 (.cells #[.pointer a1] 76 (0, 0)) :: pt b51 (.cells #[.int .i64 x0.Period, .int .i64 x0.Events, .slice a0_0 x0.Rules.length c0_0] 24 (0, 0)) :: R)) (w := _) (x := true) (y := true) (fun _ => hS) (fun _ => (hS.dropAt 3))
        have hF := hS; replace hS := hS
        refine Rg.take (i := 0) true rfl hE rfl (by kernel_rfl) (runs_plain rfl) (Gives.loadB hE 2 rfl rfl rfl ty29) rfl hT ?_; clear hE a; intro a hE
        replace hS := hF; clear hF hT
        refine Rg.takeP (i := 1) hE rfl (by kernel_rfl) (runs_plain rfl) (Gives.fld hE rfl fl37_0) rfl (tw_sel (fun _ => hS) (fun _ => (hS.dropAt 3))) ?_; clear hE a; intro a hE
        have hT := tw_sel (A := fun w => St w s (pt b141 (.cells (PlanRule.cells x121).toArray 37 (0, 0)) :: pt b67 (.cells #[.int .i64 q135] 3 (0, 0)) :: pt b66 (.cells #[.slice (some ⟨b62, 0, none⟩) x60.length x60.length] 29 (0, 0)) :: vecC 3 1 (some ⟨b62, 0, none⟩) x60.length x60.length cs160 :: pt b59 (.cells #[.slice (some ⟨b55, 0, none⟩) x53.length x53.length] 29 (0, 0)) :: vecC 3 1 (some ⟨b55, 0, none⟩) x53.length x53.length cs84 :: pt b52 (.cells #[.pointer a1] 76 (0, 0)) :: pt b51 (.cells #[.int .i64 x0.Period, .int .i64 x0.Events, .slice a0_0 x0.Rules.length c0_0] 24 (0, 0)) :: R)) (B := fun w => St w s (pt b141 (.cells (PlanRule.cells x121).toArray 37 (0, 0)) :: pt b67 (.cells #[.int .i64 q135] 3 (0, 0)) :: pt b66 (.cells #[.slice (some ⟨b62, 0, none⟩) x60.length x60.length] 29 (0, 0)) :: pt b59 (.cells #[.slice (some ⟨b55, 0, none⟩) x53.length x53.length] 29 (0, 0)) :: vecC 3 1 (some ⟨b55, 0, none⟩) x53.length x53.length cs84 :: pt b52 (.cells #[.pointer a1] 76 (0, 0)) :: pt b51 (.cells #[.int .i64 x0.Period, .int .i64 x0.Events, .slice a0_0 x0.Rules.length c0_0] 24 (0, 0)) :: R)) (w := _) (x := true) (y := true) (fun _ => hS) (fun _ => (hS.dropAt 3))
        have hF := hS; replace hS := hS
        refine Rg.take (i := 2) true rfl hE rfl (by kernel_rfl) (runs_plain rfl) (Gives.loadB hE 0 rfl rfl rfl ty3) rfl hT ?_; clear hE a; intro a hE
        replace hS := hF; clear hF hT
        obtain ⟨x164, hx165, hq118⟩ := bindS hq118
        obtain ⟨hi166, hlt167, hy168⟩ := gx_some hx165
        obtain ⟨vs169, hl170, hR171, hd172, hget173⟩ := h161.at hy168
        subst hR171
        refine Rg.takeP (i := 3) hE rfl (by kernel_rfl) (runs_plain rfl) (Gives.idx hE ((x121.From).toNat) rfl rfl sl29 hi166 (by have := hn162; omega) (hS.vecAok 3 rfl (by have := hn162; omega : (x121.From).toNat < x60.length))) rfl (tw_sel (fun _ => hS) (fun _ => (hS.dropAt 3))) ?_; clear hE a; intro a hE
        have hT := tw_sel (A := fun w => St w s (pt b141 (.cells (PlanRule.cells x121).toArray 37 (0, 0)) :: pt b67 (.cells #[.int .i64 q135] 3 (0, 0)) :: pt b66 (.cells #[.slice (some ⟨b62, 0, none⟩) x60.length x60.length] 29 (0, 0)) :: vecC 3 1 (some ⟨b62, 0, none⟩) x60.length x60.length cs160 :: pt b59 (.cells #[.slice (some ⟨b55, 0, none⟩) x53.length x53.length] 29 (0, 0)) :: vecC 3 1 (some ⟨b55, 0, none⟩) x53.length x53.length cs84 :: pt b52 (.cells #[.pointer a1] 76 (0, 0)) :: pt b51 (.cells #[.int .i64 x0.Period, .int .i64 x0.Events, .slice a0_0 x0.Rules.length c0_0] 24 (0, 0)) :: R)) (B := fun w => St w s (pt b141 (.cells (PlanRule.cells x121).toArray 37 (0, 0)) :: pt b67 (.cells #[.int .i64 q135] 3 (0, 0)) :: pt b66 (.cells #[.slice (some ⟨b62, 0, none⟩) x60.length x60.length] 29 (0, 0)) :: pt b59 (.cells #[.slice (some ⟨b55, 0, none⟩) x53.length x53.length] 29 (0, 0)) :: vecC 3 1 (some ⟨b55, 0, none⟩) x53.length x53.length cs84 :: pt b52 (.cells #[.pointer a1] 76 (0, 0)) :: pt b51 (.cells #[.int .i64 x0.Period, .int .i64 x0.Events, .slice a0_0 x0.Rules.length c0_0] 24 (0, 0)) :: R)) (w := _) (x := true) (y := true) (fun _ => hS) (fun _ => (hS.dropAt 3))
        have hF := hS; replace hS := hS
        refine Rg.take (i := 4) true rfl hE rfl (by kernel_rfl) (runs_plain rfl) (Gives.load1 hE rfl (fun w h => St.vecSees h 3 rfl ((x121.From).toNat * 1) _ hget173) ty3) rfl hT ?_; clear hE a; intro a hE
        replace hS := hF; clear hF hT
        refine Rg.takeP (i := 5) hE rfl (by kernel_rfl) (runs_plain rfl) (Gives.fld hE rfl fl37_4) rfl (tw_sel (fun _ => hS) (fun _ => (hS.dropAt 3))) ?_; clear hE a; intro a hE
        have hT := tw_sel (A := fun w => St w s (pt b141 (.cells (PlanRule.cells x121).toArray 37 (0, 0)) :: pt b67 (.cells #[.int .i64 q135] 3 (0, 0)) :: pt b66 (.cells #[.slice (some ⟨b62, 0, none⟩) x60.length x60.length] 29 (0, 0)) :: vecC 3 1 (some ⟨b62, 0, none⟩) x60.length x60.length cs160 :: pt b59 (.cells #[.slice (some ⟨b55, 0, none⟩) x53.length x53.length] 29 (0, 0)) :: vecC 3 1 (some ⟨b55, 0, none⟩) x53.length x53.length cs84 :: pt b52 (.cells #[.pointer a1] 76 (0, 0)) :: pt b51 (.cells #[.int .i64 x0.Period, .int .i64 x0.Events, .slice a0_0 x0.Rules.length c0_0] 24 (0, 0)) :: R)) (B := fun w => St w s (pt b141 (.cells (PlanRule.cells x121).toArray 37 (0, 0)) :: pt b67 (.cells #[.int .i64 q135] 3 (0, 0)) :: pt b66 (.cells #[.slice (some ⟨b62, 0, none⟩) x60.length x60.length] 29 (0, 0)) :: pt b59 (.cells #[.slice (some ⟨b55, 0, none⟩) x53.length x53.length] 29 (0, 0)) :: vecC 3 1 (some ⟨b55, 0, none⟩) x53.length x53.length cs84 :: pt b52 (.cells #[.pointer a1] 76 (0, 0)) :: pt b51 (.cells #[.int .i64 x0.Period, .int .i64 x0.Events, .slice a0_0 x0.Rules.length c0_0] 24 (0, 0)) :: R)) (w := _) (x := true) (y := true) (fun _ => hS) (fun _ => (hS.dropAt 3))
        have hF := hS; replace hS := hS
        refine Rg.take (i := 6) true rfl hE rfl (by kernel_rfl) (runs_plain rfl) (Gives.loadB hE 0 rfl rfl rfl ty3) rfl hT ?_; clear hE a; intro a hE
        replace hS := hF; clear hF hT
        refine Rg.takeP (i := 7) hE rfl (by kernel_rfl) (runs_plain rfl) (Gives.p hE rfl) rfl (tw_sel (fun _ => hS) (fun _ => (hS.dropAt 3))) ?_; clear hE a; intro a hE
        obtain ⟨_, hx175, hq118⟩ := bindS hq118
        obtain ⟨h176, h177⟩ := ix_some hx175
        refine Rg.takeP (i := 8) hE rfl (by kernel_rfl) (runs_plain rfl) (Gives.idx hE ((x121.From).toNat) rfl rfl sl29 h176 (by have := hn162; omega) (hS.vecAok 3 rfl (by have := hn162; omega : (x121.From).toNat < x60.length))) rfl (tw_sel (fun _ => hS) (fun _ => (hS.dropAt 3))) ?_; clear hE a; intro a hE
        refine Rg.one (i := 9) false true rfl (by kernel_rfl) (by kernel_rfl) (by kernel_rfl) ?_
        obtain ⟨x179, hx180, hq118⟩ := bindS hq118
        refine WL.setD hE hS 3 rfl (runs_plain rfl) rfl rfl (vs := [.int .i64 (w64 (x164 - x121.Weight))]) rfl ty3 rfl rfl rfl h161 hn162 (sx_some hx180).1 hx180 rfl rfl ?_; clear hE hS a w; intro cs181 a w h182 hn183 hE hS
        refine WL.nil ?_
        refine ⟨⟨fun h => absurd h (by decide), fun _ => (hS.dropAt 3)⟩, ?_⟩
        refine Rg.done (by kernel_rfl) ?_
        subst hK163
        refine W.gen fun K184 hK184 => ?_
        refine W.regionE (sel (fun w => St w s (pt b141 (.cells (PlanRule.cells x121).toArray 37 (0, 0)) :: pt b67 (.cells #[.int .i64 q135] 3 (0, 0)) :: pt b66 (.cells #[.slice (some ⟨b62, 0, none⟩) x60.length x60.length] 29 (0, 0)) :: vecC 3 1 (some ⟨b62, 0, none⟩) x60.length x60.length cs181 :: pt b59 (.cells #[.slice (some ⟨b55, 0, none⟩) x53.length x53.length] 29 (0, 0)) :: vecC 3 1 (some ⟨b55, 0, none⟩) x53.length x53.length cs84 :: pt b52 (.cells #[.pointer a1] 76 (0, 0)) :: pt b51 (.cells #[.int .i64 x0.Period, .int .i64 x0.Events, .slice a0_0 x0.Rules.length c0_0] 24 (0, 0)) :: R)) (fun w => St w s (pt b141 (.cells (PlanRule.cells x121).toArray 37 (0, 0)) :: pt b66 (.cells #[.slice (some ⟨b62, 0, none⟩) x60.length x60.length] 29 (0, 0)) :: vecC 3 1 (some ⟨b62, 0, none⟩) x60.length x60.length cs181 :: pt b59 (.cells #[.slice (some ⟨b55, 0, none⟩) x53.length x53.length] 29 (0, 0)) :: vecC 3 1 (some ⟨b55, 0, none⟩) x53.length x53.length cs84 :: pt b52 (.cells #[.pointer a1] 76 (0, 0)) :: pt b51 (.cells #[.int .i64 x0.Period, .int .i64 x0.Events, .slice a0_0 x0.Rules.length c0_0] 24 (0, 0)) :: R))) (fun b i => cond b ([0, 1, 2, 3, 4, 5, 6, 7, 8, 9, 10, 11, 12, 13, 14, 15, 16, 17, 18, 19, 20, 21, 22, 23, 24, 25, 26].contains i) ([0, 1, 2, 3, 4, 5, 6, 7, 8, 9, 10, 11, 12, 13, 14, 15, 16, 17, 18, 19, 20, 21, 22, 23, 24, 25, 26, 27].contains i)) mixed ?_
        replace hS := hS.drew
        have hT := tw_sel (A := fun w => St w s (pt b141 (.cells (PlanRule.cells x121).toArray 37 (0, 0)) :: pt b67 (.cells #[.int .i64 q135] 3 (0, 0)) :: pt b66 (.cells #[.slice (some ⟨b62, 0, none⟩) x60.length x60.length] 29 (0, 0)) :: vecC 3 1 (some ⟨b62, 0, none⟩) x60.length x60.length cs181 :: pt b59 (.cells #[.slice (some ⟨b55, 0, none⟩) x53.length x53.length] 29 (0, 0)) :: vecC 3 1 (some ⟨b55, 0, none⟩) x53.length x53.length cs84 :: pt b52 (.cells #[.pointer a1] 76 (0, 0)) :: pt b51 (.cells #[.int .i64 x0.Period, .int .i64 x0.Events, .slice a0_0 x0.Rules.length c0_0] 24 (0, 0)) :: R)) (B := fun w => St w s (pt b141 (.cells (PlanRule.cells x121).toArray 37 (0, 0)) :: pt b66 (.cells #[.slice (some ⟨b62, 0, none⟩) x60.length x60.length] 29 (0, 0)) :: vecC 3 1 (some ⟨b62, 0, none⟩) x60.length x60.length cs181 :: pt b59 (.cells #[.slice (some ⟨b55, 0, none⟩) x53.length x53.length] 29 (0, 0)) :: vecC 3 1 (some ⟨b55, 0, none⟩) x53.length x53.length cs84 :: pt b52 (.cells #[.pointer a1] 76 (0, 0)) :: pt b51 (.cells #[.int .i64 x0.Period, .int .i64 x0.Events, .slice a0_0 x0.Rules.length c0_0] 24 (0, 0)) :: R)) (w := _) (x := true) (y := true) (fun _ => hS) (fun _ => (hS.dropAt 1))
        have hF := hS; replace hS := hS
        refine Rg.take (i := 0) true rfl hE rfl (by kernel_rfl) (runs_plain rfl) (Gives.loadB hE 1 rfl rfl rfl ty3) rfl hT ?_; clear hE a; intro a hE
        replace hS := hF; clear hF hT
        refine Rg.takeP (i := 1) hE rfl (by kernel_rfl) (runs_plain rfl) (Gives.fld hE rfl fl37_4) rfl (tw_sel (fun _ => hS) (fun _ => (hS.dropAt 1))) ?_; clear hE a; intro a hE
        have hT := tw_sel (A := fun w => St w s (pt b141 (.cells (PlanRule.cells x121).toArray 37 (0, 0)) :: pt b67 (.cells #[.int .i64 q135] 3 (0, 0)) :: pt b66 (.cells #[.slice (some ⟨b62, 0, none⟩) x60.length x60.length] 29 (0, 0)) :: vecC 3 1 (some ⟨b62, 0, none⟩) x60.length x60.length cs181 :: pt b59 (.cells #[.slice (some ⟨b55, 0, none⟩) x53.length x53.length] 29 (0, 0)) :: vecC 3 1 (some ⟨b55, 0, none⟩) x53.length x53.length cs84 :: pt b52 (.cells #[.pointer a1] 76 (0, 0)) :: pt b51 (.cells #[.int .i64 x0.Period, .int .i64 x0.Events, .slice a0_0 x0.Rules.length c0_0] 24 (0, 0)) :: R)) (B := fun w => St w s (pt b141 (.cells (PlanRule.cells x121).toArray 37 (0, 0)) :: pt b66 (.cells #[.slice (some ⟨b62, 0, none⟩) x60.length x60.length] 29 (0, 0)) :: vecC 3 1 (some ⟨b62, 0, none⟩) x60.length x60.length cs181 :: pt b59 (.cells #[.slice (some ⟨b55, 0, none⟩) x53.length x53.length] 29 (0, 0)) :: vecC 3 1 (some ⟨b55, 0, none⟩) x53.length x53.length cs84 :: pt b52 (.cells #[.pointer a1] 76 (0, 0)) :: pt b51 (.cells #[.int .i64 x0.Period, .int .i64 x0.Events, .slice a0_0 x0.Rules.length c0_0] 24 (0, 0)) :: R)) (w := _) (x := true) (y := true) (fun _ => hS) (fun _ => (hS.dropAt 1))
        have hF := hS; replace hS := hS
        refine Rg.take (i := 2) true rfl hE rfl (by kernel_rfl) (runs_plain rfl) (Gives.loadB hE 0 rfl rfl rfl ty3) rfl hT ?_; clear hE a; intro a hE
        replace hS := hF; clear hF hT
        have hT := tw_sel (A := fun w => St w s (pt b141 (.cells (PlanRule.cells x121).toArray 37 (0, 0)) :: pt b67 (.cells #[.int .i64 q135] 3 (0, 0)) :: pt b66 (.cells #[.slice (some ⟨b62, 0, none⟩) x60.length x60.length] 29 (0, 0)) :: vecC 3 1 (some ⟨b62, 0, none⟩) x60.length x60.length cs181 :: pt b59 (.cells #[.slice (some ⟨b55, 0, none⟩) x53.length x53.length] 29 (0, 0)) :: vecC 3 1 (some ⟨b55, 0, none⟩) x53.length x53.length cs84 :: pt b52 (.cells #[.pointer a1] 76 (0, 0)) :: pt b51 (.cells #[.int .i64 x0.Period, .int .i64 x0.Events, .slice a0_0 x0.Rules.length c0_0] 24 (0, 0)) :: R)) (B := fun w => St w s (pt b141 (.cells (PlanRule.cells x121).toArray 37 (0, 0)) :: pt b66 (.cells #[.slice (some ⟨b62, 0, none⟩) x60.length x60.length] 29 (0, 0)) :: vecC 3 1 (some ⟨b62, 0, none⟩) x60.length x60.length cs181 :: pt b59 (.cells #[.slice (some ⟨b55, 0, none⟩) x53.length x53.length] 29 (0, 0)) :: vecC 3 1 (some ⟨b55, 0, none⟩) x53.length x53.length cs84 :: pt b52 (.cells #[.pointer a1] 76 (0, 0)) :: pt b51 (.cells #[.int .i64 x0.Period, .int .i64 x0.Events, .slice a0_0 x0.Rules.length c0_0] 24 (0, 0)) :: R)) (w := _) (x := true) (y := true) (fun _ => hS) (fun _ => (hS.dropAt 1))
        have hF := hS; replace hS := hS
        refine Rg.take (i := 3) true rfl hE rfl (by kernel_rfl) (runs_plain rfl) (Gives.loadB hE 4 rfl rfl rfl ty29) rfl hT ?_; clear hE a; intro a hE
        replace hS := hF; clear hF hT
        refine Rg.takeP (i := 4) hE rfl (by kernel_rfl) (runs_plain rfl) (Gives.fld hE rfl fl37_1) rfl (tw_sel (fun _ => hS) (fun _ => (hS.dropAt 1))) ?_; clear hE a; intro a hE
        have hT := tw_sel (A := fun w => St w s (pt b141 (.cells (PlanRule.cells x121).toArray 37 (0, 0)) :: pt b67 (.cells #[.int .i64 q135] 3 (0, 0)) :: pt b66 (.cells #[.slice (some ⟨b62, 0, none⟩) x60.length x60.length] 29 (0, 0)) :: vecC 3 1 (some ⟨b62, 0, none⟩) x60.length x60.length cs181 :: pt b59 (.cells #[.slice (some ⟨b55, 0, none⟩) x53.length x53.length] 29 (0, 0)) :: vecC 3 1 (some ⟨b55, 0, none⟩) x53.length x53.length cs84 :: pt b52 (.cells #[.pointer a1] 76 (0, 0)) :: pt b51 (.cells #[.int .i64 x0.Period, .int .i64 x0.Events, .slice a0_0 x0.Rules.length c0_0] 24 (0, 0)) :: R)) (B := fun w => St w s (pt b141 (.cells (PlanRule.cells x121).toArray 37 (0, 0)) :: pt b66 (.cells #[.slice (some ⟨b62, 0, none⟩) x60.length x60.length] 29 (0, 0)) :: vecC 3 1 (some ⟨b62, 0, none⟩) x60.length x60.length cs181 :: pt b59 (.cells #[.slice (some ⟨b55, 0, none⟩) x53.length x53.length] 29 (0, 0)) :: vecC 3 1 (some ⟨b55, 0, none⟩) x53.length x53.length cs84 :: pt b52 (.cells #[.pointer a1] 76 (0, 0)) :: pt b51 (.cells #[.int .i64 x0.Period, .int .i64 x0.Events, .slice a0_0 x0.Rules.length c0_0] 24 (0, 0)) :: R)) (w := _) (x := true) (y := true) (fun _ => hS) (fun _ => (hS.dropAt 1))
        have hF := hS; replace hS := hS
        refine Rg.take (i := 5) true rfl hE rfl (by kernel_rfl) (runs_plain rfl) (Gives.loadB hE 0 rfl rfl rfl ty3) rfl hT ?_; clear hE a; intro a hE
        replace hS := hF; clear hF hT
        obtain ⟨x185, hx186, hq118⟩ := bindS hq118
        obtain ⟨hi187, hlt188, hy189⟩ := gx_some hx186
        obtain ⟨vs190, hl191, hR192, hd193, hget194⟩ := h83.at hy189
        subst hR192
        refine Rg.takeP (i := 6) hE rfl (by kernel_rfl) (runs_plain rfl) (Gives.idx hE ((x121.To).toNat) rfl rfl sl29 hi187 (by have := hn85; omega) (hS.vecAok 5 rfl (by have := hn85; omega : (x121.To).toNat < x53.length))) rfl (tw_sel (fun _ => hS) (fun _ => (hS.dropAt 1))) ?_; clear hE a; intro a hE
        have hT := tw_sel (A := fun w => St w s (pt b141 (.cells (PlanRule.cells x121).toArray 37 (0, 0)) :: pt b67 (.cells #[.int .i64 q135] 3 (0, 0)) :: pt b66 (.cells #[.slice (some ⟨b62, 0, none⟩) x60.length x60.length] 29 (0, 0)) :: vecC 3 1 (some ⟨b62, 0, none⟩) x60.length x60.length cs181 :: pt b59 (.cells #[.slice (some ⟨b55, 0, none⟩) x53.length x53.length] 29 (0, 0)) :: vecC 3 1 (some ⟨b55, 0, none⟩) x53.length x53.length cs84 :: pt b52 (.cells #[.pointer a1] 76 (0, 0)) :: pt b51 (.cells #[.int .i64 x0.Period, .int .i64 x0.Events, .slice a0_0 x0.Rules.length c0_0] 24 (0, 0)) :: R)) (B := fun w => St w s (pt b141 (.cells (PlanRule.cells x121).toArray 37 (0, 0)) :: pt b66 (.cells #[.slice (some ⟨b62, 0, none⟩) x60.length x60.length] 29 (0, 0)) :: vecC 3 1 (some ⟨b62, 0, none⟩) x60.length x60.length cs181 :: pt b59 (.cells #[.slice (some ⟨b55, 0, none⟩) x53.length x53.length] 29 (0, 0)) :: vecC 3 1 (some ⟨b55, 0, none⟩) x53.length x53.length cs84 :: pt b52 (.cells #[.pointer a1] 76 (0, 0)) :: pt b51 (.cells #[.int .i64 x0.Period, .int .i64 x0.Events, .slice a0_0 x0.Rules.length c0_0] 24 (0, 0)) :: R)) (w := _) (x := true) (y := true) (fun _ => hS) (fun _ => (hS.dropAt 1))
        have hF := hS; replace hS := hS
        refine Rg.take (i := 7) true rfl hE rfl (by kernel_rfl) (runs_plain rfl) (Gives.load1 hE rfl (fun w h => St.vecSees h 5 rfl ((x121.To).toNat * 1) _ hget194) ty3) rfl hT ?_; clear hE a; intro a hE
        replace hS := hF; clear hF hT
        have hT := tw_sel (A := fun w => St w s (pt b141 (.cells (PlanRule.cells x121).toArray 37 (0, 0)) :: pt b67 (.cells #[.int .i64 q135] 3 (0, 0)) :: pt b66 (.cells #[.slice (some ⟨b62, 0, none⟩) x60.length x60.length] 29 (0, 0)) :: vecC 3 1 (some ⟨b62, 0, none⟩) x60.length x60.length cs181 :: pt b59 (.cells #[.slice (some ⟨b55, 0, none⟩) x53.length x53.length] 29 (0, 0)) :: vecC 3 1 (some ⟨b55, 0, none⟩) x53.length x53.length cs84 :: pt b52 (.cells #[.pointer a1] 76 (0, 0)) :: pt b51 (.cells #[.int .i64 x0.Period, .int .i64 x0.Events, .slice a0_0 x0.Rules.length c0_0] 24 (0, 0)) :: R)) (B := fun w => St w s (pt b141 (.cells (PlanRule.cells x121).toArray 37 (0, 0)) :: pt b66 (.cells #[.slice (some ⟨b62, 0, none⟩) x60.length x60.length] 29 (0, 0)) :: vecC 3 1 (some ⟨b62, 0, none⟩) x60.length x60.length cs181 :: pt b59 (.cells #[.slice (some ⟨b55, 0, none⟩) x53.length x53.length] 29 (0, 0)) :: vecC 3 1 (some ⟨b55, 0, none⟩) x53.length x53.length cs84 :: pt b52 (.cells #[.pointer a1] 76 (0, 0)) :: pt b51 (.cells #[.int .i64 x0.Period, .int .i64 x0.Events, .slice a0_0 x0.Rules.length c0_0] 24 (0, 0)) :: R)) (w := _) (x := true) (y := true) (fun _ => hS) (fun _ => (hS.dropAt 1))
        have hF := hS; replace hS := hS
        refine Rg.take (i := 8) true rfl hE rfl (by kernel_rfl) (runs_plain rfl) (Gives.loadB hE 4 rfl rfl rfl ty29) rfl hT ?_; clear hE a; intro a hE
        replace hS := hF; clear hF hT
        refine Rg.takeP (i := 9) hE rfl (by kernel_rfl) (runs_plain rfl) (Gives.fld hE rfl fl37_0) rfl (tw_sel (fun _ => hS) (fun _ => (hS.dropAt 1))) ?_; clear hE a; intro a hE
        have hT := tw_sel (A := fun w => St w s (pt b141 (.cells (PlanRule.cells x121).toArray 37 (0, 0)) :: pt b67 (.cells #[.int .i64 q135] 3 (0, 0)) :: pt b66 (.cells #[.slice (some ⟨b62, 0, none⟩) x60.length x60.length] 29 (0, 0)) :: vecC 3 1 (some ⟨b62, 0, none⟩) x60.length x60.length cs181 :: pt b59 (.cells #[.slice (some ⟨b55, 0, none⟩) x53.length x53.length] 29 (0, 0)) :: vecC 3 1 (some ⟨b55, 0, none⟩) x53.length x53.length cs84 :: pt b52 (.cells #[.pointer a1] 76 (0, 0)) :: pt b51 (.cells #[.int .i64 x0.Period, .int .i64 x0.Events, .slice a0_0 x0.Rules.length c0_0] 24 (0, 0)) :: R)) (B := fun w => St w s (pt b141 (.cells (PlanRule.cells x121).toArray 37 (0, 0)) :: pt b66 (.cells #[.slice (some ⟨b62, 0, none⟩) x60.length x60.length] 29 (0, 0)) :: vecC 3 1 (some ⟨b62, 0, none⟩) x60.length x60.length cs181 :: pt b59 (.cells #[.slice (some ⟨b55, 0, none⟩) x53.length x53.length] 29 (0, 0)) :: vecC 3 1 (some ⟨b55, 0, none⟩) x53.length x53.length cs84 :: pt b52 (.cells #[.pointer a1] 76 (0, 0)) :: pt b51 (.cells #[.int .i64 x0.Period, .int .i64 x0.Events, .slice a0_0 x0.Rules.length c0_0] 24 (0, 0)) :: R)) (w := _) (x := true) (y := true) (fun _ => hS) (fun _ => (hS.dropAt 1))
        have hF := hS; replace hS := hS
        refine Rg.take (i := 10) true rfl hE rfl (by kernel_rfl) (runs_plain rfl) (Gives.loadB hE 0 rfl rfl rfl ty3) rfl hT ?_; clear hE a; intro a hE
        replace hS := hF; clear hF hT
        obtain ⟨x195, hx196, hq118⟩ := bindS hq118
        obtain ⟨hi197, hlt198, hy199⟩ := gx_some hx196
        obtain ⟨vs200, hl201, hR202, hd203, hget204⟩ := h83.at hy199
        subst hR202
        refine Rg.takeP (i := 11) hE rfl (by kernel_rfl) (runs_plain rfl) (Gives.idx hE ((x121.From).toNat) rfl rfl sl29 hi197 (by have := hn85; omega) (hS.vecAok 5 rfl (by have := hn85; omega : (x121.From).toNat < x53.length))) rfl (tw_sel (fun _ => hS) (fun _ => (hS.dropAt 1))) ?_; clear hE a; intro a hE
        have hT := tw_sel (A := fun w => St w s (pt b141 (.cells (PlanRule.cells x121).toArray 37 (0, 0)) :: pt b67 (.cells #[.int .i64 q135] 3 (0, 0)) :: pt b66 (.cells #[.slice (some ⟨b62, 0, none⟩) x60.length x60.length] 29 (0, 0)) :: vecC 3 1 (some ⟨b62, 0, none⟩) x60.length x60.length cs181 :: pt b59 (.cells #[.slice (some ⟨b55, 0, none⟩) x53.length x53.length] 29 (0, 0)) :: vecC 3 1 (some ⟨b55, 0, none⟩) x53.length x53.length cs84 :: pt b52 (.cells #[.pointer a1] 76 (0, 0)) :: pt b51 (.cells #[.int .i64 x0.Period, .int .i64 x0.Events, .slice a0_0 x0.Rules.length c0_0] 24 (0, 0)) :: R)) (B := fun w => St w s (pt b141 (.cells (PlanRule.cells x121).toArray 37 (0, 0)) :: pt b66 (.cells #[.slice (some ⟨b62, 0, none⟩) x60.length x60.length] 29 (0, 0)) :: vecC 3 1 (some ⟨b62, 0, none⟩) x60.length x60.length cs181 :: pt b59 (.cells #[.slice (some ⟨b55, 0, none⟩) x53.length x53.length] 29 (0, 0)) :: vecC 3 1 (some ⟨b55, 0, none⟩) x53.length x53.length cs84 :: pt b52 (.cells #[.pointer a1] 76 (0, 0)) :: pt b51 (.cells #[.int .i64 x0.Period, .int .i64 x0.Events, .slice a0_0 x0.Rules.length c0_0] 24 (0, 0)) :: R)) (w := _) (x := true) (y := true) (fun _ => hS) (fun _ => (hS.dropAt 1))
        have hF := hS; replace hS := hS
        refine Rg.take (i := 12) true rfl hE rfl (by kernel_rfl) (runs_plain rfl) (Gives.load1 hE rfl (fun w h => St.vecSees h 5 rfl ((x121.From).toNat * 1) _ hget204) ty3) rfl hT ?_; clear hE a; intro a hE
        replace hS := hF; clear hF hT
        refine Rg.takeP (i := 13) hE rfl (by kernel_rfl) (runs_plain rfl) (Gives.p hE rfl) rfl (tw_sel (fun _ => hS) (fun _ => (hS.dropAt 1))) ?_; clear hE a; intro a hE
        refine Rg.takeP (i := 14) hE rfl (by kernel_rfl) (runs_plain rfl) (Gives.p hE rfl) rfl (tw_sel (fun _ => hS) (fun _ => (hS.dropAt 1))) ?_; clear hE a; intro a hE
        refine Rg.takeP (i := 15) hE rfl (by kernel_rfl) (runs_plain rfl) (Gives.p hE rfl) rfl (tw_sel (fun _ => hS) (fun _ => (hS.dropAt 1))) ?_; clear hE a; intro a hE
        obtain ⟨x205, hx206, hq118⟩ := bindS hq118
        obtain ⟨hi207, hlt208, hy209⟩ := gx_some hx206
        obtain ⟨cs210, hl211, hR212, hat213⟩ := h2.at hy209
        subst hR212
        refine Rg.takeP (i := 16) hE rfl (by kernel_rfl) (runs_plain rfl) (Gives.idx hE (((k120 : Nat) : Int)).toNat rfl rfl sl29 hi207 hlt208 (h2.aok hlt208)) rfl (tw_sel (fun _ => hS) (fun _ => (hS.dropAt 1))) ?_; clear hE a; intro a hE
        have hT := tw_sel (A := fun w => St w s (pt b141 (.cells (PlanRule.cells x121).toArray 37 (0, 0)) :: pt b67 (.cells #[.int .i64 q135] 3 (0, 0)) :: pt b66 (.cells #[.slice (some ⟨b62, 0, none⟩) x60.length x60.length] 29 (0, 0)) :: vecC 3 1 (some ⟨b62, 0, none⟩) x60.length x60.length cs181 :: pt b59 (.cells #[.slice (some ⟨b55, 0, none⟩) x53.length x53.length] 29 (0, 0)) :: vecC 3 1 (some ⟨b55, 0, none⟩) x53.length x53.length cs84 :: pt b52 (.cells #[.pointer a1] 76 (0, 0)) :: pt b51 (.cells #[.int .i64 x0.Period, .int .i64 x0.Events, .slice a0_0 x0.Rules.length c0_0] 24 (0, 0)) :: R)) (B := fun w => St w s (pt b141 (.cells (PlanRule.cells x121).toArray 37 (0, 0)) :: pt b66 (.cells #[.slice (some ⟨b62, 0, none⟩) x60.length x60.length] 29 (0, 0)) :: vecC 3 1 (some ⟨b62, 0, none⟩) x60.length x60.length cs181 :: pt b59 (.cells #[.slice (some ⟨b55, 0, none⟩) x53.length x53.length] 29 (0, 0)) :: vecC 3 1 (some ⟨b55, 0, none⟩) x53.length x53.length cs84 :: pt b52 (.cells #[.pointer a1] 76 (0, 0)) :: pt b51 (.cells #[.int .i64 x0.Period, .int .i64 x0.Events, .slice a0_0 x0.Rules.length c0_0] 24 (0, 0)) :: R)) (w := _) (x := true) (y := true) (fun _ => hS) (fun _ => (hS.dropAt 1))
        have hF := hS; replace hS := hS
        refine Rg.take (i := 17) true rfl hE rfl (by kernel_rfl) (runs_plain rfl) (Gives.load1 hE rfl (fun w h => hat213 w _ h) ty3) rfl hT ?_; clear hE a; intro a hE
        replace hS := hF; clear hF hT
        refine Rg.takeP (i := 18) hE rfl (by kernel_rfl) (runs_plain rfl) (Gives.fld hE rfl fl24_0) rfl (tw_sel (fun _ => hS) (fun _ => (hS.dropAt 1))) ?_; clear hE a; intro a hE
        have hT := tw_sel (A := fun w => St w s (pt b141 (.cells (PlanRule.cells x121).toArray 37 (0, 0)) :: pt b67 (.cells #[.int .i64 q135] 3 (0, 0)) :: pt b66 (.cells #[.slice (some ⟨b62, 0, none⟩) x60.length x60.length] 29 (0, 0)) :: vecC 3 1 (some ⟨b62, 0, none⟩) x60.length x60.length cs181 :: pt b59 (.cells #[.slice (some ⟨b55, 0, none⟩) x53.length x53.length] 29 (0, 0)) :: vecC 3 1 (some ⟨b55, 0, none⟩) x53.length x53.length cs84 :: pt b52 (.cells #[.pointer a1] 76 (0, 0)) :: pt b51 (.cells #[.int .i64 x0.Period, .int .i64 x0.Events, .slice a0_0 x0.Rules.length c0_0] 24 (0, 0)) :: R)) (B := fun w => St w s (pt b141 (.cells (PlanRule.cells x121).toArray 37 (0, 0)) :: pt b66 (.cells #[.slice (some ⟨b62, 0, none⟩) x60.length x60.length] 29 (0, 0)) :: vecC 3 1 (some ⟨b62, 0, none⟩) x60.length x60.length cs181 :: pt b59 (.cells #[.slice (some ⟨b55, 0, none⟩) x53.length x53.length] 29 (0, 0)) :: vecC 3 1 (some ⟨b55, 0, none⟩) x53.length x53.length cs84 :: pt b52 (.cells #[.pointer a1] 76 (0, 0)) :: pt b51 (.cells #[.int .i64 x0.Period, .int .i64 x0.Events, .slice a0_0 x0.Rules.length c0_0] 24 (0, 0)) :: R)) (w := _) (x := true) (y := true) (fun _ => hS) (fun _ => (hS.dropAt 1))
        have hF := hS; replace hS := hS
        refine Rg.take (i := 19) true rfl hE rfl (by kernel_rfl) (runs_plain rfl) (Gives.loadB hE 7 rfl rfl rfl ty3) rfl hT ?_; clear hE a; intro a hE
        replace hS := hF; clear hF hT
        refine Rg.takeP (i := 20) hE rfl (by kernel_rfl) (runs_plain rfl) (Gives.p hE rfl) rfl (tw_sel (fun _ => hS) (fun _ => (hS.dropAt 1))) ?_; clear hE a; intro a hE
        refine Rg.takeP (i := 21) hE rfl (by kernel_rfl) (runs_plain rfl) (Gives.p hE rfl) rfl (tw_sel (fun _ => hS) (fun _ => (hS.dropAt 1))) ?_; clear hE a; intro a hE
        refine Rg.takeP (i := 22) hE rfl (by kernel_rfl) (runs_plain rfl) (Gives.fld hE rfl fl37_2) rfl (tw_sel (fun _ => hS) (fun _ => (hS.dropAt 1))) ?_; clear hE a; intro a hE
        have hT := tw_sel (A := fun w => St w s (pt b141 (.cells (PlanRule.cells x121).toArray 37 (0, 0)) :: pt b67 (.cells #[.int .i64 q135] 3 (0, 0)) :: pt b66 (.cells #[.slice (some ⟨b62, 0, none⟩) x60.length x60.length] 29 (0, 0)) :: vecC 3 1 (some ⟨b62, 0, none⟩) x60.length x60.length cs181 :: pt b59 (.cells #[.slice (some ⟨b55, 0, none⟩) x53.length x53.length] 29 (0, 0)) :: vecC 3 1 (some ⟨b55, 0, none⟩) x53.length x53.length cs84 :: pt b52 (.cells #[.pointer a1] 76 (0, 0)) :: pt b51 (.cells #[.int .i64 x0.Period, .int .i64 x0.Events, .slice a0_0 x0.Rules.length c0_0] 24 (0, 0)) :: R)) (B := fun w => St w s (pt b141 (.cells (PlanRule.cells x121).toArray 37 (0, 0)) :: pt b66 (.cells #[.slice (some ⟨b62, 0, none⟩) x60.length x60.length] 29 (0, 0)) :: vecC 3 1 (some ⟨b62, 0, none⟩) x60.length x60.length cs181 :: pt b59 (.cells #[.slice (some ⟨b55, 0, none⟩) x53.length x53.length] 29 (0, 0)) :: vecC 3 1 (some ⟨b55, 0, none⟩) x53.length x53.length cs84 :: pt b52 (.cells #[.pointer a1] 76 (0, 0)) :: pt b51 (.cells #[.int .i64 x0.Period, .int .i64 x0.Events, .slice a0_0 x0.Rules.length c0_0] 24 (0, 0)) :: R)) (w := _) (x := true) (y := true) (fun _ => hS) (fun _ => (hS.dropAt 1))
        have hF := hS; replace hS := hS
        refine Rg.take (i := 23) true rfl hE rfl (by kernel_rfl) (runs_plain rfl) (Gives.loadB hE 0 rfl rfl rfl ty3) rfl hT ?_; clear hE a; intro a hE
        replace hS := hF; clear hF hT
        refine Rg.takeP (i := 24) hE rfl (by kernel_rfl) (runs_plain rfl) (Gives.p hE rfl) rfl (tw_sel (fun _ => hS) (fun _ => (hS.dropAt 1))) ?_; clear hE a; intro a hE
        refine Rg.takeP (i := 25) hE rfl (by kernel_rfl) (runs_plain rfl) (Gives.p hE rfl) rfl (tw_sel (fun _ => hS) (fun _ => (hS.dropAt 1))) ?_; clear hE a; intro a hE
        refine Rg.takeP (i := 26) hE rfl (by kernel_rfl) (runs_plain rfl) (Gives.p hE rfl) rfl (tw_sel (fun _ => hS) (fun _ => (hS.dropAt 1))) ?_; clear hE a; intro a hE
        refine Rg.one (i := 27) false true rfl (by kernel_rfl) (by kernel_rfl) (by kernel_rfl) ?_
        refine WL.storeI hE hS 1 rfl [.int .i64 (w64 (q135 + (w64 (x121.Weight * (w64 ((w64 ((w64 (x185 - x195)) + (w64 (x205 * x0.Period)))) - x121.Min))))))] (runs_plain rfl) rfl rfl rfl ty3 rfl rfl rfl rfl ?_; clear hE hS a w; intro a w hE hS
        refine WL.nil ?_
        refine ⟨⟨fun h => absurd h (by decide), fun _ => (hS.dropAt 1)⟩, ?_⟩
        refine Rg.done (by kernel_rfl) ?_
        subst hK184
        refine W.region ?_
        refine WL.vS hS hE (runs_plain rfl) (Gives.inc hE rfl (by have := h0_0.small; omega)) rfl ?_; clear hE a; intro a hE
        refine WL.vS hS hE (runs_plain rfl) (Gives.p hE rfl) rfl ?_; clear hE a; intro a hE
        refine WL.nil ?_
        replace hS := hS.tail
        subst hK136
        exact ⟨rest122.length, Nat.lt_succ_self _, rest122, k120 + 1, x179, (w64 (q135 + (w64 (x121.Weight * (w64 ((w64 ((w64 (x185 - x195)) + (w64 (x205 * x0.Period)))) - x121.Min)))))), cs181, rfl, hd123, hq118, h182, hn183, hE.pick _ ⟨rfl, rfl, rfl, rfl, rfl, rfl, rfl, rfl, rfl, trivial⟩, hS⟩
    · clear hE hS a w; rintro a w ⟨q129, q135, cs133, rfl, h132, hn134, hE, hS⟩
      dsimp only at hr
      refine W.seq ?_
      refine W.region ?_
      refine WL.vS hS hE (runs_plain rfl) (Gives.mkfn hE (vs := [.pointer (some ⟨b51, 0, none⟩), .pointer (some ⟨b59, 0, none⟩), .pointer (some ⟨b52, 0, none⟩)]) rfl) rfl ?_; clear hE a; intro a hE
      refine WL.vS hS hE (runs_plain rfl) (Gives.p hE rfl) rfl ?_; clear hE a; intro a hE
      refine WL.nil ?_
      refine W.seq ?_
      refine W.region ?_
      refine WL.vS hS hE (runs_plain rfl) (Gives.mkfn hE (vs := [.pointer (some ⟨b59, 0, none⟩), .pointer (some ⟨b67, 0, none⟩), .pointer (some ⟨b66, 0, none⟩)]) rfl) rfl ?_; clear hE a; intro a hE
      refine WL.vS hS hE (runs_plain rfl) (Gives.p hE rfl) rfl ?_; clear hE a; intro a hE
      refine WL.nil ?_
      refine W.seq ?_
      refine W.seq ?_
      refine W.region ?_
      refine WL.vS hS hE (runs_plain rfl) (Gives.p hE rfl) rfl ?_; clear hE a; intro a hE
      refine WL.nil ?_
      obtain ⟨q215, hq214, hr⟩ := bindS hr
      refine W.cut (fun a w => ∃ (q220 : Bool), ∃ (q221 : List Int), ∃ (q227 : Int), ∃ (cs225 : List Value), (q220, q221, q227) = q215 ∧ Ev 1 (RI .i64) s cs225 q221 ∧ q221.length = x53.length ∧ Rep a 141 [(8, .pointer (some ⟨b59, 0, none⟩)), (10, .pointer (some ⟨b67, 0, none⟩))] ∧ St w s (pt b67 (.cells #[.int .i64 q227] 3 (0, 0)) :: pt b66 (.cells #[.slice (some ⟨b62, 0, none⟩) x60.length x60.length] 29 (0, 0)) :: vecC 3 1 (some ⟨b62, 0, none⟩) x60.length x60.length cs133 :: pt b59 (.cells #[.slice (some ⟨b55, 0, none⟩) x53.length x53.length] 29 (0, 0)) :: vecC 3 1 (some ⟨b55, 0, none⟩) x53.length x53.length cs225 :: pt b52 (.cells #[.pointer a1] 76 (0, 0)) :: pt b51 (.cells #[.int .i64 x0.Period, .int .i64 x0.Events, .slice a0_0 x0.Rules.length c0_0] 24 (0, 0)) :: R)) ?_ ?_
      · refine W.block ?_
        refine W.loop (fun m a w => ∃ (n216 : Nat), ∃ (q220 : Bool), ∃ (q221 : List Int), ∃ (q227 : Int), ∃ (cs225 : List Value), n216 = m ∧ Plancheapest.loop3 x0 x1 fu x53 q129 n216 q220 q221 q227 = some q215 ∧ Ev 1 (RI .i64) s cs225 q221 ∧ q221.length = x53.length ∧ Rep a 141 [(3, .pointer (some ⟨b51, 0, none⟩)), (8, .pointer (some ⟨b59, 0, none⟩)), (9, .pointer (some ⟨b66, 0, none⟩)), (10, .pointer (some ⟨b67, 0, none⟩)), (14, .func (.func 79) #[] #[.pointer (some ⟨b51, 0, none⟩), .pointer (some ⟨b59, 0, none⟩), .pointer (some ⟨b52, 0, none⟩)]), (15, .func (.func 80) #[] #[.pointer (some ⟨b59, 0, none⟩), .pointer (some ⟨b67, 0, none⟩), .pointer (some ⟨b66, 0, none⟩)]), (16, .bool q220)] ∧ St w s (pt b67 (.cells #[.int .i64 q227] 3 (0, 0)) :: pt b66 (.cells #[.slice (some ⟨b62, 0, none⟩) x60.length x60.length] 29 (0, 0)) :: vecC 3 1 (some ⟨b62, 0, none⟩) x60.length x60.length cs133 :: pt b59 (.cells #[.slice (some ⟨b55, 0, none⟩) x53.length x53.length] 29 (0, 0)) :: vecC 3 1 (some ⟨b55, 0, none⟩) x53.length x53.length cs225 :: pt b52 (.cells #[.pointer a1] 76 (0, 0)) :: pt b51 (.cells #[.int .i64 x0.Period, .int .i64 x0.Events, .slice a0_0 x0.Rules.length c0_0] 24 (0, 0)) :: R)) (m := fu) ⟨fu, true, q80, q135, cs84, rfl, hq214, h83, hn85, hE.pick _ ⟨rfl, rfl, rfl, rfl, rfl, rfl, rfl, trivial⟩, hS⟩ ?_
        clear hE hS a w hq214; rintro m217 a w ⟨n216, q220, q221, q227, cs225, rfl, hq214, h224, hn226, hE, hS⟩
        refine W.gen fun K228 hK228 => ?_
        rcases n216 with _ | n216
        · rw [Plancheapest.loop3] at hq214; exact absurd hq214 (by simp)
        rw [Plancheapest.loop3] at hq214
        refine W.seq ?_
        refine W.seq ?_
        refine W.region ?_
        refine WL.vS hS hE (runs_plain rfl) (Gives.p hE rfl) rfl ?_; clear hE a; intro a hE
        refine WL.nil ?_
        refine W.cond hE rfl (fun hc229 => ?_) (fun hc229 => ?_)
        · replace hq214 := iteT hc229 hq214
          refine W.skip ?_
          refine W.block ?_
          refine W.seq ?_
          refine W.region ?_
          refine WL.vS hS hE (runs_plain rfl) (Gives.p hE rfl) rfl ?_; clear hE a; intro a hE
          refine WL.nil ?_
          refine W.seq ?_
          refine W.region ?_
          refine WL.vS hS hE (runs_plain rfl) (Gives.p hE rfl) rfl ?_; clear hE a; intro a hE
          refine WL.nil ?_
          obtain ⟨q231, hq230, hq214⟩ := bindS hq214
          refine W.cut (fun a w => ∃ (q236 : Bool), ∃ (q237 : Int), ∃ (q238 : List Int), ∃ (q244 : Int), ∃ (cs242 : List Value), (q236, q237, q238, q244) = q231 ∧ Ev 1 (RI .i64) s cs242 q238 ∧ q238.length = x53.length ∧ Rep a 141 [(3, .pointer (some ⟨b51, 0, none⟩)), (8, .pointer (some ⟨b59, 0, none⟩)), (9, .pointer (some ⟨b66, 0, none⟩)), (10, .pointer (some ⟨b67, 0, none⟩)), (14, .func (.func 79) #[] #[.pointer (some ⟨b51, 0, none⟩), .pointer (some ⟨b59, 0, none⟩), .pointer (some ⟨b52, 0, none⟩)]), (15, .func (.func 80) #[] #[.pointer (some ⟨b59, 0, none⟩), .pointer (some ⟨b67, 0, none⟩), .pointer (some ⟨b66, 0, none⟩)]), (16, .bool q236)] ∧ St w s (pt b67 (.cells #[.int .i64 q244] 3 (0, 0)) :: pt b66 (.cells #[.slice (some ⟨b62, 0, none⟩) x60.length x60.length] 29 (0, 0)) :: vecC 3 1 (some ⟨b62, 0, none⟩) x60.length x60.length cs133 :: pt b59 (.cells #[.slice (some ⟨b55, 0, none⟩) x53.length x53.length] 29 (0, 0)) :: vecC 3 1 (some ⟨b55, 0, none⟩) x53.length x53.length cs242 :: pt b52 (.cells #[.pointer a1] 76 (0, 0)) :: pt b51 (.cells #[.int .i64 x0.Period, .int .i64 x0.Events, .slice a0_0 x0.Rules.length c0_0] 24 (0, 0)) :: R)) ?_ ?_
          · refine W.block ?_
            refine W.loop (fun m a w => ∃ (n232 : Nat), ∃ (q236 : Bool), ∃ (q237 : Int), ∃ (q238 : List Int), ∃ (q244 : Int), ∃ (cs242 : List Value), n232 = m ∧ Plancheapest.loop4 x0 x1 x53 q129 n232 q236 q237 q238 q244 = some q231 ∧ Ev 1 (RI .i64) s cs242 q238 ∧ q238.length = x53.length ∧ Rep a 141 [(3, .pointer (some ⟨b51, 0, none⟩)), (8, .pointer (some ⟨b59, 0, none⟩)), (9, .pointer (some ⟨b66, 0, none⟩)), (10, .pointer (some ⟨b67, 0, none⟩)), (14, .func (.func 79) #[] #[.pointer (some ⟨b51, 0, none⟩), .pointer (some ⟨b59, 0, none⟩), .pointer (some ⟨b52, 0, none⟩)]), (15, .func (.func 80) #[] #[.pointer (some ⟨b59, 0, none⟩), .pointer (some ⟨b67, 0, none⟩), .pointer (some ⟨b66, 0, none⟩)]), (16, .bool q236), (17, .int .i64 q237)] ∧ St w s (pt b67 (.cells #[.int .i64 q244] 3 (0, 0)) :: pt b66 (.cells #[.slice (some ⟨b62, 0, none⟩) x60.length x60.length] 29 (0, 0)) :: vecC 3 1 (some ⟨b62, 0, none⟩) x60.length x60.length cs133 :: pt b59 (.cells #[.slice (some ⟨b55, 0, none⟩) x53.length x53.length] 29 (0, 0)) :: vecC 3 1 (some ⟨b55, 0, none⟩) x53.length x53.length cs242 :: pt b52 (.cells #[.pointer a1] 76 (0, 0)) :: pt b51 (.cells #[.int .i64 x0.Period, .int .i64 x0.Events, .slice a0_0 x0.Rules.length c0_0] 24 (0, 0)) :: R)) (m := fu) ⟨fu, false, 2, q221, q227, cs225, rfl, hq230, h224, hn226, hE.pick _ ⟨rfl, rfl, rfl, rfl, rfl, rfl, rfl, rfl, trivial⟩, hS⟩ ?_
            clear hE hS a w hq230; rintro m233 a w ⟨n232, q236, q237, q238, q244, cs242, rfl, hq230, h241, hn243, hE, hS⟩
            refine W.gen fun K245 hK245 => ?_
            rcases n232 with _ | n232
            · rw [Plancheapest.loop4] at hq230; exact absurd hq230 (by simp)
            rw [Plancheapest.loop4] at hq230
            refine W.seq ?_
            refine W.seq ?_
            refine W.region ?_
            refine WL.vS hS hE (runs_plain rfl) (Gives.p hE rfl) rfl ?_; clear hE a; intro a hE
            refine WL.vS hS hE (runs_plain rfl) (Gives.fld hE rfl fl24_1) rfl ?_; clear hE a; intro a hE
            refine WL.vS hS hE (runs_plain rfl) (Gives.loadB hE 6 rfl rfl rfl ty3) rfl ?_; clear hE a; intro a hE
            obtain ⟨_, hx246, hq230⟩ := bindS hq230
            refine WL.vS hS hE (runs_plain rfl) (Gives.shl hE rfl rfl (nn_some hx246)) rfl ?_; clear hE a; intro a hE
            refine WL.vS hS hE (runs_plain rfl) (Gives.p hE rfl) rfl ?_; clear hE a; intro a hE
            refine WL.nil ?_
            refine W.cond hE rfl (fun hc247 => ?_) (fun hc247 => ?_)
            · replace hq230 := iteT hc247 hq230
              refine W.skip ?_
              refine W.seq ?_
              refine W.block ?_
              refine W.seq ?_
              refine W.region ?_
              refine WL.vS hS hE (runs_plain rfl) (Gives.p hE rfl) rfl ?_; clear hE a; intro a hE
              refine WL.nil ?_
              refine W.seq ?_
              refine W.seq ?_
              refine W.region ?_
              refine WL.vS hS hE (runs_plain rfl) (Gives.loadB hE 3 rfl rfl rfl ty29) rfl ?_; clear hE a; intro a hE
              refine WL.vS hS hE (runs_plain rfl) (Gives.len hE rfl sl29) rfl ?_; clear hE a; intro a hE
              refine WL.vS hS hE (runs_plain rfl) (Gives.p hE rfl) rfl ?_; clear hE a; intro a hE
              refine WL.nil ?_
              have hb259 : x53.length ≤ 9223372036854775807 := by have := hS.vecCap 4 rfl; unfold maxLen at this; omega
              obtain ⟨q249, hq248, hq230⟩ := bindS hq230
              refine W.cut (fun a w => ∃ (q260 : Int), q260 = q249 ∧ Rep a 141 [(3, .pointer (some ⟨b51, 0, none⟩)), (8, .pointer (some ⟨b59, 0, none⟩)), (9, .pointer (some ⟨b66, 0, none⟩)), (10, .pointer (some ⟨b67, 0, none⟩)), (14, .func (.func 79) #[] #[.pointer (some ⟨b51, 0, none⟩), .pointer (some ⟨b59, 0, none⟩), .pointer (some ⟨b52, 0, none⟩)]), (15, .func (.func 80) #[] #[.pointer (some ⟨b59, 0, none⟩), .pointer (some ⟨b67, 0, none⟩), .pointer (some ⟨b66, 0, none⟩)]), (16, .bool q236), (17, .int .i64 q237), (18, .int .i64 q260)] ∧ St w s (pt b67 (.cells #[.int .i64 q244] 3 (0, 0)) :: pt b66 (.cells #[.slice (some ⟨b62, 0, none⟩) x60.length x60.length] 29 (0, 0)) :: vecC 3 1 (some ⟨b62, 0, none⟩) x60.length x60.length cs133 :: pt b59 (.cells #[.slice (some ⟨b55, 0, none⟩) x53.length x53.length] 29 (0, 0)) :: vecC 3 1 (some ⟨b55, 0, none⟩) x53.length x53.length cs242 :: pt b52 (.cells #[.pointer a1] 76 (0, 0)) :: pt b51 (.cells #[.int .i64 x0.Period, .int .i64 x0.Events, .slice a0_0 x0.Rules.length c0_0] 24 (0, 0)) :: R)) ?_ ?_
              · refine W.block ?_
                refine W.loop (fun m a w => ∃ (rest252 : Nat) (k250 : Nat), ∃ (q260 : Int), rest252 = m ∧ k250 + rest252 = x53.length ∧ Plancheapest.loop5 q129 q237 rest252 k250 q260 = some q249 ∧ Rep a 141 [(3, .pointer (some ⟨b51, 0, none⟩)), (8, .pointer (some ⟨b59, 0, none⟩)), (9, .pointer (some ⟨b66, 0, none⟩)), (10, .pointer (some ⟨b67, 0, none⟩)), (14, .func (.func 79) #[] #[.pointer (some ⟨b51, 0, none⟩), .pointer (some ⟨b59, 0, none⟩), .pointer (some ⟨b52, 0, none⟩)]), (15, .func (.func 80) #[] #[.pointer (some ⟨b59, 0, none⟩), .pointer (some ⟨b67, 0, none⟩), .pointer (some ⟨b66, 0, none⟩)]), (16, .bool q236), (17, .int .i64 q237), (18, .int .i64 q260), (109, .int .i64 ((x53.length : Nat) : Int)), (110, .int .i64 ((k250 : Nat) : Int))] ∧ St w s (pt b67 (.cells #[.int .i64 q244] 3 (0, 0)) :: pt b66 (.cells #[.slice (some ⟨b62, 0, none⟩) x60.length x60.length] 29 (0, 0)) :: vecC 3 1 (some ⟨b62, 0, none⟩) x60.length x60.length cs133 :: pt b59 (.cells #[.slice (some ⟨b55, 0, none⟩) x53.length x53.length] 29 (0, 0)) :: vecC 3 1 (some ⟨b55, 0, none⟩) x53.length x53.length cs242 :: pt b52 (.cells #[.pointer a1] 76 (0, 0)) :: pt b51 (.cells #[.int .i64 x0.Period, .int .i64 x0.Events, .slice a0_0 x0.Rules.length c0_0] 24 (0, 0)) :: R)) (m := x53.length) ⟨x53.length, 0, 0, rfl, by omega, hq248, hE.pick _ ⟨rfl, rfl, rfl, rfl, rfl, rfl, rfl, rfl, rfl, rfl, rfl, trivial⟩, hS⟩ ?_
                clear hE hS a w hq248; rintro m256 a w ⟨rest252, k250, q260, rfl, hd253, hq248, hE, hS⟩
                refine W.gen fun K261 hK261 => ?_
                rcases rest252 with _ | rest252
                · skip
                  refine W.seq ?_
                  refine W.region ?_
                  refine WL.vS hS hE (runs_plain rfl) (Gives.p hE rfl) rfl ?_; clear hE a; intro a hE
                  refine WL.nil ?_
                  refine W.seq ?_
                  refine W.condF hE rfl (decide_eq_false (by omega)) ?_
                  subst hK261
                  refine W.exit rfl ?_
                  exact ⟨q260, Option.some.inj hq248, hE.pick _ ⟨rfl, rfl, rfl, rfl, rfl, rfl, rfl, rfl, rfl, trivial⟩, hS⟩
                · have hlt254 : k250 < x53.length := by omega
                  rw [Plancheapest.loop5] at hq248
                  refine W.seq ?_
                  refine W.region ?_
                  refine WL.vS hS hE (runs_plain rfl) (Gives.p hE rfl) rfl ?_; clear hE a; intro a hE
                  refine WL.nil ?_
                  refine W.seq ?_
                  refine W.condT hE rfl (decide_eq_true (by omega)) ?_
                  refine W.skip ?_
                  refine W.seq ?_
                  refine W.block ?_
                  refine W.seq ?_
                  refine W.region ?_
                  refine WL.vS hS hE (runs_plain rfl) (Gives.p hE rfl) rfl ?_; clear hE a; intro a hE
                  refine WL.vS hS hE (runs_plain rfl) (Gives.p hE rfl) rfl ?_; clear hE a; intro a hE
                  refine WL.nil ?_
                  refine W.seq ?_
                  refine W.region ?_
                  refine WL.vS hS hE (runs_plain rfl) (Gives.p hE rfl) rfl ?_; clear hE a; intro a hE
                  refine WL.vS hS hE (runs_plain rfl) (Gives.p hE rfl) rfl ?_; clear hE a; intro a hE
                  refine WL.vS hS hE (runs_plain rfl) (Gives.shr hE rfl rfl (by omega)) rfl ?_; clear hE a; intro a hE
                  refine WL.vS hS hE (runs_plain rfl) (Gives.p hE rfl) rfl ?_; clear hE a; intro a hE
                  refine WL.vS hS hE (runs_plain rfl) (Gives.p hE rfl) rfl ?_; clear hE a; intro a hE
                  refine WL.nil ?_
                  obtain ⟨q263, hq262, hq248⟩ := bindS hq248
                  refine W.cut (fun a w => ∃ (q266 : Int), q266 = q263 ∧ Rep a 141 [(3, .pointer (some ⟨b51, 0, none⟩)), (8, .pointer (some ⟨b59, 0, none⟩)), (9, .pointer (some ⟨b66, 0, none⟩)), (10, .pointer (some ⟨b67, 0, none⟩)), (14, .func (.func 79) #[] #[.pointer (some ⟨b51, 0, none⟩), .pointer (some ⟨b59, 0, none⟩), .pointer (some ⟨b52, 0, none⟩)]), (15, .func (.func 80) #[] #[.pointer (some ⟨b59, 0, none⟩), .pointer (some ⟨b67, 0, none⟩), .pointer (some ⟨b66, 0, none⟩)]), (16, .bool q236), (17, .int .i64 q237), (18, .int .i64 q266), (109, .int .i64 ((x53.length : Nat) : Int)), (110, .int .i64 ((k250 : Nat) : Int))] ∧ St w s (pt b67 (.cells #[.int .i64 q244] 3 (0, 0)) :: pt b66 (.cells #[.slice (some ⟨b62, 0, none⟩) x60.length x60.length] 29 (0, 0)) :: vecC 3 1 (some ⟨b62, 0, none⟩) x60.length x60.length cs133 :: pt b59 (.cells #[.slice (some ⟨b55, 0, none⟩) x53.length x53.length] 29 (0, 0)) :: vecC 3 1 (some ⟨b55, 0, none⟩) x53.length x53.length cs242 :: pt b52 (.cells #[.pointer a1] 76 (0, 0)) :: pt b51 (.cells #[.int .i64 x0.Period, .int .i64 x0.Events, .slice a0_0 x0.Rules.length c0_0] 24 (0, 0)) :: R)) ?_ ?_
                  · refine W.gen fun K267 hK267 => ?_
                    refine W.cond hE rfl (fun hc268 => ?_) (fun hc268 => ?_)
                    · replace hq262 := iteT hc268 hq262
                      refine W.region ?_
                      refine WL.vS hS hE (runs_plain rfl) (Gives.p hE rfl) rfl ?_; clear hE a; intro a hE
                      refine WL.vS hS hE (runs_plain rfl) (Gives.loadB hE 1 rfl rfl rfl ty29) rfl ?_; clear hE a; intro a hE
                      refine WL.vS hS hE (runs_plain rfl) (Gives.p hE rfl) rfl ?_; clear hE a; intro a hE
                      obtain ⟨x269, hx270, hq262⟩ := bindS hq262
                      obtain ⟨hi271, hlt272, hy273⟩ := gx_some hx270
                      obtain ⟨vs274, hl275, hR276, hd277, hget278⟩ := h132.at hy273
                      subst hR276
                      refine WL.vS hS hE (runs_plain rfl) (Gives.idx hE ((((k250 : Nat) : Int)).toNat) rfl rfl sl29 hi271 (by have := hn134; omega) (hS.vecAok 2 rfl (by have := hn134; omega : (((k250 : Nat) : Int)).toNat < x60.length))) rfl ?_; clear hE a; intro a hE
                      refine WL.vS hS hE (runs_plain rfl) (Gives.load1 hE rfl (fun w h => St.vecSees h 2 rfl ((((k250 : Nat) : Int)).toNat * 1) _ hget278) ty3) rfl ?_; clear hE a; intro a hE
                      refine WL.vS hS hE (runs_plain rfl) (Gives.p hE rfl) rfl ?_; clear hE a; intro a hE
                      refine WL.vS hS hE (runs_plain rfl) (Gives.p hE rfl) rfl ?_; clear hE a; intro a hE
                      refine WL.nil ?_
                      subst hK267
                      exact ⟨w64 (q260 + x269), Option.some.inj hq262, hE.pick _ ⟨rfl, rfl, rfl, rfl, rfl, rfl, rfl, rfl, rfl, rfl, rfl, trivial⟩, hS⟩
                    · replace hq262 := iteF hc268 hq262
                      refine W.skip ?_
                      subst hK267
                      exact ⟨q260, Option.some.inj hq262, hE.pick _ ⟨rfl, rfl, rfl, rfl, rfl, rfl, rfl, rfl, rfl, rfl, rfl, trivial⟩, hS⟩
                  · clear hE hS a w; rintro a w ⟨q266, rfl, hE, hS⟩
                    refine W.region ?_
                    refine WL.vS hS hE (runs_plain rfl) (Gives.inc hE rfl (by omega)) rfl ?_; clear hE a; intro a hE
                    refine WL.vS hS hE (runs_plain rfl) (Gives.p hE rfl) rfl ?_; clear hE a; intro a hE
                    refine WL.nil ?_
                    subst hK261
                    exact ⟨rest252, Nat.lt_succ_self _, rest252, k250 + 1, q266, rfl, (by omega), hq248, hE.pick _ ⟨rfl, rfl, rfl, rfl, rfl, rfl, rfl, rfl, rfl, rfl, rfl, trivial⟩, hS⟩
              · clear hE hS a w; rintro a w ⟨q260, rfl, hE, hS⟩
                refine W.seq ?_
                refine W.region ?_
                refine WL.vS hS hE (runs_plain rfl) (Gives.p hE rfl) rfl ?_; clear hE a; intro a hE
                refine WL.nil ?_
                refine W.seq ?_
                refine W.seq ?_
                refine W.region ?_
                refine WL.vS hS hE (runs_plain rfl) (Gives.p hE rfl) rfl ?_; clear hE a; intro a hE
                refine WL.vS hS hE (runs_plain rfl) (Gives.p hE rfl) rfl ?_; clear hE a; intro a hE
                refine WL.nil ?_
                obtain ⟨q280, hq279, hq230⟩ := bndS hq230
                refine W.cut (fun a w => ∃ (q283 : Int), q283 = q280 ∧ Rep a 141 [(3, .pointer (some ⟨b51, 0, none⟩)), (8, .pointer (some ⟨b59, 0, none⟩)), (9, .pointer (some ⟨b66, 0, none⟩)), (10, .pointer (some ⟨b67, 0, none⟩)), (14, .func (.func 79) #[] #[.pointer (some ⟨b51, 0, none⟩), .pointer (some ⟨b59, 0, none⟩), .pointer (some ⟨b52, 0, none⟩)]), (15, .func (.func 80) #[] #[.pointer (some ⟨b59, 0, none⟩), .pointer (some ⟨b67, 0, none⟩), .pointer (some ⟨b66, 0, none⟩)]), (16, .bool q236), (17, .int .i64 q237), (20, .int .i64 q283)] ∧ St w s (pt b67 (.cells #[.int .i64 q244] 3 (0, 0)) :: pt b66 (.cells #[.slice (some ⟨b62, 0, none⟩) x60.length x60.length] 29 (0, 0)) :: vecC 3 1 (some ⟨b62, 0, none⟩) x60.length x60.length cs133 :: pt b59 (.cells #[.slice (some ⟨b55, 0, none⟩) x53.length x53.length] 29 (0, 0)) :: vecC 3 1 (some ⟨b55, 0, none⟩) x53.length x53.length cs242 :: pt b52 (.cells #[.pointer a1] 76 (0, 0)) :: pt b51 (.cells #[.int .i64 x0.Period, .int .i64 x0.Events, .slice a0_0 x0.Rules.length c0_0] 24 (0, 0)) :: R)) ?_ ?_
                · refine W.gen fun K284 hK284 => ?_
                  refine W.cond hE rfl (fun hc285 => ?_) (fun hc285 => ?_)
                  · replace hq279 := iteT hc285 hq279
                    refine W.region ?_
                    refine WL.vS hS hE (runs_plain rfl) (Gives.p hE rfl) rfl ?_; clear hE a; intro a hE
                    refine WL.nil ?_
                    subst hK284
                    exact ⟨1, hq279, hE.pick _ ⟨rfl, rfl, rfl, rfl, rfl, rfl, rfl, rfl, rfl, trivial⟩, hS⟩
                  · replace hq279 := iteF hc285 hq279
                    refine W.skip ?_
                    subst hK284
                    exact ⟨(-1), hq279, hE.pick _ ⟨rfl, rfl, rfl, rfl, rfl, rfl, rfl, rfl, rfl, trivial⟩, hS⟩
                · clear hE hS a w; rintro a w ⟨q283, rfl, hE, hS⟩
                  refine W.seq ?_
                  refine W.region ?_
                  refine WL.vS hS hE (runs_plain rfl) (Gives.p hE rfl) rfl ?_; clear hE a; intro a hE
                  refine WL.vS hS hE (runs_plain rfl) (Gives.p hE rfl) rfl ?_; clear hE a; intro a hE
                  refine WL.vS hS hE (runs_plain rfl) (Gives.p hE rfl) rfl ?_; clear hE a; intro a hE
                  obtain ⟨q286, hq287, hq230⟩ := bindS hq230
                  replace hS := hS.front 4 rfl
                  replace hS := hS.front 5 rfl
                  replace hS := hS.front 5 rfl
                  replace hS := hS.front 6 rfl
                  have hc_ := Plancheapest_1_v1_ok (y0 := x0) hS h0_0 h241 hn243 h1 hq287
                  refine WL.fnw hE (hc_) rfl (runs_plain rfl) bd79 rfl rfl rfl ?_
                  clear hE hS hc_; rintro e w ⟨rfl, hS⟩; refine ⟨_, rfl, ?_⟩; clear a; intro a hE
                  refine WL.vS hS hE (runs_plain rfl) (Gives.p hE rfl) rfl ?_; clear hE a; intro a hE
                  refine WL.nil ?_
                  refine W.seq ?_
                  refine W.region ?_
                  refine WL.vS hS hE (runs_plain rfl) (Gives.p hE rfl) rfl ?_; clear hE a; intro a hE
                  refine WL.vS hS hE (runs_plain rfl) (Gives.p hE rfl) rfl ?_; clear hE a; intro a hE
                  refine WL.nil ?_
                  obtain ⟨q289, hq288, hq230⟩ := bindS hq230
                  refine W.cut (fun a w => ∃ (q292 : Bool), ∃ (q293 : List Int), ∃ (q299 : Int), ∃ (cs297 : List Value), (q292, q293, q299) = q289 ∧ Ev 1 (RI .i64) s cs297 q293 ∧ q293.length = x53.length ∧ Rep a 141 [(3, .pointer (some ⟨b51, 0, none⟩)), (8, .pointer (some ⟨b59, 0, none⟩)), (9, .pointer (some ⟨b66, 0, none⟩)), (10, .pointer (some ⟨b67, 0, none⟩)), (14, .func (.func 79) #[] #[.pointer (some ⟨b51, 0, none⟩), .pointer (some ⟨b59, 0, none⟩), .pointer (some ⟨b52, 0, none⟩)]), (15, .func (.func 80) #[] #[.pointer (some ⟨b59, 0, none⟩), .pointer (some ⟨b67, 0, none⟩), .pointer (some ⟨b66, 0, none⟩)]), (16, .bool q292), (17, .int .i64 q237)] ∧ St w s (pt b51 (.cells #[.int .i64 x0.Period, .int .i64 x0.Events, .slice a0_0 x0.Rules.length c0_0] 24 (0, 0)) :: pt b59 (.cells #[.slice (some ⟨b55, 0, none⟩) x53.length x53.length] 29 (0, 0)) :: pt b52 (.cells #[.pointer a1] 76 (0, 0)) :: vecC 3 1 (some ⟨b55, 0, none⟩) x53.length x53.length cs297 :: pt b67 (.cells #[.int .i64 q299] 3 (0, 0)) :: pt b66 (.cells #[.slice (some ⟨b62, 0, none⟩) x60.length x60.length] 29 (0, 0)) :: vecC 3 1 (some ⟨b62, 0, none⟩) x60.length x60.length cs133 :: R)) ?_ ?_
                  · refine W.gen fun K300 hK300 => ?_
                    refine W.cond hE rfl (fun hc301 => ?_) (fun hc301 => ?_)
                    · replace hq288 := iteT hc301 hq288
                      refine W.seq ?_
                      refine W.region ?_
                      refine WL.vS hS hE (runs_plain rfl) (Gives.p hE rfl) rfl ?_; clear hE a; intro a hE
                      refine WL.vS hS hE (runs_plain rfl) (Gives.p hE rfl) rfl ?_; clear hE a; intro a hE
                      refine WL.vS hS hE (runs_plain rfl) (Gives.p hE rfl) rfl ?_; clear hE a; intro a hE
                      refine WL.vS hS hE (runs_plain rfl) (Gives.p hE rfl) rfl ?_; clear hE a; intro a hE
                      refine WL.vS hS hE (runs_plain rfl) (Gives.p hE rfl) rfl ?_; clear hE a; intro a hE
                      obtain ⟨q302, hq303, hq288⟩ := bindS hq288
                      replace hS := hS.front 6 rfl
                      replace hS := hS.front 4 rfl
                      replace hS := hS.front 6 rfl
                      replace hS := hS.front 6 rfl
                      replace hS := hS.front 5 rfl
                      have hc_ := Plancheapest_2_v1_ok hS h241 hn243 h132 hn134 hq303
                      refine WL.fnw hE (hc_) rfl (runs_plain rfl) bd80 rfl rfl rfl ?_
                      clear hE hS hc_; rintro e w ⟨cs304, rfl, h305, hn306, hS⟩; refine ⟨_, rfl, ?_⟩; clear a; intro a hE
                      refine WL.nil ?_
                      refine W.region ?_
                      refine WL.vS hS hE (runs_plain rfl) (Gives.p hE rfl) rfl ?_; clear hE a; intro a hE
                      refine WL.nil ?_
                      replace hS := hS.front 4 rfl
                      replace hS := hS.front 3 rfl
                      replace hS := hS.front 3 rfl
                      replace hS := hS.front 4 rfl
                      replace hS := hS.front 6 rfl
                      replace hS := hS.front 5 rfl
                      replace hS := hS.front 6 rfl
                      subst hK300
                      exact ⟨true, q302.1, q302.2, cs304, Option.some.inj hq288, h305, hn306, hE.pick _ ⟨rfl, rfl, rfl, rfl, rfl, rfl, rfl, rfl, trivial⟩, hS⟩
                    · replace hq288 := iteF hc301 hq288
                      refine W.skip ?_
                      subst hK300
                      exact ⟨q236, q238, q244, cs242, Option.some.inj hq288, h241, hn243, hE.pick _ ⟨rfl, rfl, rfl, rfl, rfl, rfl, rfl, rfl, trivial⟩, hS⟩
                  · clear hE hS a w; rintro a w ⟨q292, q293, q299, cs297, rfl, h296, hn298, hE, hS⟩
                    dsimp only at hq230
                    refine W.region ?_
                    refine WL.vS hS hE (runs_plain rfl) (Gives.p hE rfl) rfl ?_; clear hE a; intro a hE
                    refine WL.vS hS hE (runs_plain rfl) (Gives.p hE rfl) rfl ?_; clear hE a; intro a hE
                    refine WL.vS hS hE (runs_plain rfl) (Gives.p hE rfl) rfl ?_; clear hE a; intro a hE
                    refine WL.nil ?_
                    replace hS := hS.front 2 rfl
                    replace hS := hS.front 3 rfl
                    replace hS := hS.front 3 rfl
                    replace hS := hS.front 6 rfl
                    replace hS := hS.front 6 rfl
                    replace hS := hS.front 6 rfl
                    subst hK245
                    exact ⟨n232, Nat.lt_succ_self _, n232, q292, (w64 (q237 + 2)), q293, q299, cs297, rfl, hq230, h296, hn298, hE.pick _ ⟨rfl, rfl, rfl, rfl, rfl, rfl, rfl, rfl, trivial⟩, hS⟩
            · replace hq230 := iteF hc247 hq230
              subst hK245
              refine W.exit rfl ?_
              exact ⟨q236, q237, q238, q244, cs242, Option.some.inj hq230, h241, hn243, hE.pick _ ⟨rfl, rfl, rfl, rfl, rfl, rfl, rfl, trivial⟩, hS⟩
          · clear hE hS a w; rintro a w ⟨q236, q237, q238, q244, cs242, rfl, h241, hn243, hE, hS⟩
            dsimp only at hq214
            subst hK228
            exact ⟨n216, Nat.lt_succ_self _, n216, q236, q238, q244, cs242, rfl, hq214, h241, hn243, hE.pick _ ⟨rfl, rfl, rfl, rfl, rfl, rfl, rfl, trivial⟩, hS⟩
        · replace hq214 := iteF hc229 hq214
          subst hK228
          refine W.exit rfl ?_
          exact ⟨q220, q221, q227, cs225, Option.some.inj hq214, h224, hn226, hE.pick _ ⟨rfl, rfl, trivial⟩, hS⟩
      · clear hE hS a w; rintro a w ⟨q220, q221, q227, cs225, rfl, h224, hn226, hE, hS⟩
        dsimp only at hr
        refine W.seq ?_
        refine W.regionQ (C := fun w => St w s (pt b67 (.cells #[.int .i64 q227] 3 (0, 0)) :: pt b66 (.cells #[.slice (some ⟨b62, 0, none⟩) x60.length x60.length] 29 (0, 0)) :: vecC 3 1 (some ⟨b62, 0, none⟩) x60.length x60.length cs133 :: pt b59 (.cells #[.slice (some ⟨b55, 0, none⟩) x53.length x53.length] 29 (0, 0)) :: vecC 3 1 (some ⟨b55, 0, none⟩) x53.length x53.length cs225 :: pt b52 (.cells #[.pointer a1] 76 (0, 0)) :: pt b51 (.cells #[.int .i64 x0.Period, .int .i64 x0.Events, .slice a0_0 x0.Rules.length c0_0] 24 (0, 0)) :: R)) mixed (by kernel_rfl) hS.drew ?_
        refine QL.v hE (runs_plain rfl) (Gives.loadB hE 3 rfl rfl rfl ty29) rfl ?_; clear hE a; intro a hE
        refine QL.v hE (runs_plain rfl) (Gives.loadB hE 0 rfl rfl rfl ty3) rfl ?_; clear hE a; intro a hE
        refine QL.v hE (runs_plain rfl) (Gives.p hE rfl) rfl ?_; clear hE a; intro a hE
        refine QL.v hE (runs_plain rfl) (Gives.p hE rfl) rfl ?_; clear hE a; intro a hE
        refine QL.nil ?_; clear hS w; intro w hS
        refine W.ret ?_
        refine finG (fn := Try.f51) (rs := [.tmp 6, .tmp 7]) (vs := [_, _]) hE rfl ⟨rfl, rfl, trivial⟩ ?_
        obtain rfl := Option.some.inj hr
        replace hS := hS.tail
        replace hS := hS.tail
        replace hS := hS.tail
        replace hS := hS.tail
        replace hS := hS.dropAt 1
        replace hS := hS.dropAt 1
        exact ⟨(some ⟨b55, 0, none⟩), x53.length, x53.length, cs225, rfl, h224, hn226, hS⟩
set_option maxHeartbeats 8000000 in
theorem CmpisNaNint_ok  {w : World} {s : Sg} {R : List HP} {x0 : Int} (hS : St w s (R))  {r : Bool} (hr : CmpisNaNint x0 = r) :
    Calls Try.prog 90 [.int .i64 x0].toArray w (fun e w => e = .returned (.bool r) ∧ St w s (R)) := by
  refine enter Try.func90 rfl rfl rfl fun a hE => ?_
  rw [CmpisNaNint] at hr
  refine W.seq ?_
  refine W.region ?_
  refine WL.vS hS hE (runs_plain rfl) (Gives.p hE rfl) rfl ?_; clear hE a; intro a hE
  refine WL.nil ?_
  refine W.seq ?_
  refine W.region ?_
  refine WL.vS hS hE (runs_plain rfl) (Gives.p hE rfl) rfl ?_; clear hE a; intro a hE
  refine WL.vS hS hE (runs_plain rfl) (Gives.p hE rfl) rfl ?_; clear hE a; intro a hE
  refine WL.vS hS hE (runs_plain rfl) (Gives.p hE rfl) rfl ?_; clear hE a; intro a hE
  refine WL.vS hS hE (runs_plain rfl) (Gives.p hE rfl) rfl ?_; clear hE a; intro a hE
  refine WL.nil ?_
  refine W.ret ?_
  refine finG (fn := Try.f90) (rs := [.tmp 2]) (vs := [_]) hE rfl ⟨rfl, trivial⟩ ?_
  subst hr
  exact ⟨rfl, hS⟩
end Go.Proofs.Ytffleanbfkjfiaa
