/- The walks of the functions that FarePicks reaches: each call comes to what its mirror says. The conditions are those of each contract. -/
import Derived.Test.YtmgdigencbganaaProg
import Derived.Test.YtmgdigencbganaaFarePicksM
import Derived.Test.YtmgdigencbganaaFpMore
namespace Go.Proofs.Ytmgdigencbganaa
open Go Go.Fp
theorem ap26 : apOk Try.prog 26 3 1 = true := by kernel_rfl
theorem ar98 : arOk Try.prog 98 12 = true := by kernel_rfl
theorem bd11 : bodied Try.prog 11 = true := by kernel_rfl
theorem bd12 : bodied Try.prog 12 = true := by kernel_rfl
theorem bd14 : bodied Try.prog 14 = true := by kernel_rfl
theorem bd16 : bodied Try.prog 16 = true := by kernel_rfl
theorem bd18 : bodied Try.prog 18 = true := by kernel_rfl
theorem bd36 : bodied Try.prog 36 = true := by kernel_rfl
theorem bd37 : bodied Try.prog 37 = true := by kernel_rfl
theorem bd38 : bodied Try.prog 38 = true := by kernel_rfl
theorem bd39 : bodied Try.prog 39 = true := by kernel_rfl
theorem bd40 : bodied Try.prog 40 = true := by kernel_rfl
theorem bd41 : bodied Try.prog 41 = true := by kernel_rfl
theorem bd42 : bodied Try.prog 42 = true := by kernel_rfl
theorem bd43 : bodied Try.prog 43 = true := by kernel_rfl
theorem bd44 : bodied Try.prog 44 = true := by kernel_rfl
theorem bd47 : bodied Try.prog 47 = true := by kernel_rfl
theorem bd60 : bodied Try.prog 60 = true := by kernel_rfl
theorem bd61 : bodied Try.prog 61 = true := by kernel_rfl
theorem bd62 : bodied Try.prog 62 = true := by kernel_rfl
theorem bd63 : bodied Try.prog 63 = true := by kernel_rfl
theorem bd64 : bodied Try.prog 64 = true := by kernel_rfl
theorem bd65 : bodied Try.prog 65 = true := by kernel_rfl
theorem bd66 : bodied Try.prog 66 = true := by kernel_rfl
theorem bd67 : bodied Try.prog 67 = true := by kernel_rfl
theorem bd68 : bodied Try.prog 68 = true := by kernel_rfl
theorem bd69 : bodied Try.prog 69 = true := by kernel_rfl
theorem bd70 : bodied Try.prog 70 = true := by kernel_rfl
theorem bd71 : bodied Try.prog 71 = true := by kernel_rfl
theorem bd73 : bodied Try.prog 73 = true := by kernel_rfl
theorem bd76 : bodied Try.prog 76 = true := by kernel_rfl
theorem bd77 : bodied Try.prog 77 = true := by kernel_rfl
theorem bd78 : bodied Try.prog 78 = true := by kernel_rfl
theorem bd79 : bodied Try.prog 79 = true := by kernel_rfl
theorem bd80 : bodied Try.prog 80 = true := by kernel_rfl
theorem fl100_0 : fldOk Try.prog 100 0 0 = true := by kernel_rfl
theorem fl100_1 : fldOk Try.prog 100 1 1 = true := by kernel_rfl
theorem fl100_2 : fldOk Try.prog 100 2 2 = true := by kernel_rfl
theorem fl25_0 : fldOk Try.prog 25 0 0 = true := by kernel_rfl
theorem fl25_1 : fldOk Try.prog 25 1 1 = true := by kernel_rfl
theorem fl25_2 : fldOk Try.prog 25 2 2 = true := by kernel_rfl
theorem fl25_3 : fldOk Try.prog 25 3 3 = true := by kernel_rfl
theorem fl28_0 : fldOk Try.prog 28 0 0 = true := by kernel_rfl
theorem fl28_1 : fldOk Try.prog 28 1 1 = true := by kernel_rfl
theorem fl28_2 : fldOk Try.prog 28 2 2 = true := by kernel_rfl
theorem fl28_3 : fldOk Try.prog 28 3 3 = true := by kernel_rfl
theorem fl28_4 : fldOk Try.prog 28 4 4 = true := by kernel_rfl
theorem fl28_5 : fldOk Try.prog 28 5 5 = true := by kernel_rfl
theorem fl41_0 : fldOk Try.prog 41 0 0 = true := by kernel_rfl
theorem fl41_1 : fldOk Try.prog 41 1 1 = true := by kernel_rfl
theorem fl41_2 : fldOk Try.prog 41 2 2 = true := by kernel_rfl
theorem fl41_3 : fldOk Try.prog 41 3 3 = true := by kernel_rfl
theorem fl75_0 : fldOk Try.prog 75 0 0 = true := by kernel_rfl
theorem fl75_1 : fldOk Try.prog 75 1 1 = true := by kernel_rfl
theorem fl77_0 : fldOk Try.prog 77 0 0 = true := by kernel_rfl
theorem fl77_1 : fldOk Try.prog 77 1 4 = true := by kernel_rfl
theorem fl77_2 : fldOk Try.prog 77 2 5 = true := by kernel_rfl
theorem fl77_3 : fldOk Try.prog 77 3 6 = true := by kernel_rfl
theorem mixed : Try.prog.follows .mixedOrders = true := by kernel_rfl
theorem sl22 : slOk Try.prog 22 75 2 = true := by kernel_rfl
theorem sl23 : slOk Try.prog 23 77 7 = true := by kernel_rfl
theorem sl26 : slOk Try.prog 26 3 1 = true := by kernel_rfl
theorem sl39 : slOk Try.prog 39 41 4 = true := by kernel_rfl
theorem sl69 : slOk Try.prog 69 100 3 = true := by kernel_rfl
theorem ty100 : tyOk Try.prog 100 true 3 = true := by kernel_rfl
theorem ty22 : tyOk Try.prog 22 false 1 = true := by kernel_rfl
theorem ty23 : tyOk Try.prog 23 false 1 = true := by kernel_rfl
theorem ty25 : tyOk Try.prog 25 true 4 = true := by kernel_rfl
theorem ty26 : tyOk Try.prog 26 false 1 = true := by kernel_rfl
theorem ty28 : tyOk Try.prog 28 true 6 = true := by kernel_rfl
theorem ty3 : tyOk Try.prog 3 false 1 = true := by kernel_rfl
theorem ty39 : tyOk Try.prog 39 false 1 = true := by kernel_rfl
theorem ty4 : tyOk Try.prog 4 false 1 = true := by kernel_rfl
theorem ty41 : tyOk Try.prog 41 true 4 = true := by kernel_rfl
theorem ty75 : tyOk Try.prog 75 true 2 = true := by kernel_rfl
theorem ty77 : tyOk Try.prog 77 true 7 = true := by kernel_rfl
theorem zr100 : (Try.prog.info? 100).bind (fun i => i.zero.map fun z => z.cells.toList) = some [.int .i64 0, .int .i64 0, .int .i64 0] := by kernel_rfl
theorem zr25 : (Try.prog.info? 25).bind (fun i => i.zero.map fun z => z.cells.toList) = some [.bool false, .slice none 0 0, .int .i64 0, .slice none 0 0] := by kernel_rfl
theorem zr3 : (Try.prog.info? 3).bind (fun i => i.zero.map fun z => z.cells.toList) = some [.int .i64 0] := by kernel_rfl
theorem zr41 : (Try.prog.info? 41).bind (fun i => i.zero.map fun z => z.cells.toList) = some [.int .i64 0, .int .i64 0, .int .i64 0, .slice none 0 0] := by kernel_rfl
theorem zr75 : (Try.prog.info? 75).bind (fun i => i.zero.map fun z => z.cells.toList) = some [.int .i64 0, .int .i64 0] := by kernel_rfl
theorem zr77 : (Try.prog.info? 77).bind (fun i => i.zero.map fun z => z.cells.toList) = some [.int .i64 0, .int .i64 0, .int .i64 0, .slice none 0 0, .int .i64 0, .int .i64 0, .bool false] := by kernel_rfl
theorem zr98 : (Try.prog.info? 98).bind (fun i => i.zero.map fun z => z.cells.toList) = some [.int .i64 0, .int .i64 0, .int .i64 0, .int .i64 0, .int .i64 0, .int .i64 0, .int .i64 0, .int .i64 0, .int .i64 0, .int .i64 0, .int .i64 0, .int .i64 0] := by kernel_rfl
set_option maxHeartbeats 8000000 in
theorem Farewithin_ok  {w : World} {s : Sg} {R : List HP} {x0 : Int} {x1 : Int} {x2 : Int} (hS : St w s (R))  {r : Bool} (hr : Farewithin x0 x1 x2 = r) :
    Calls Try.prog 39 [.int .i64 x0, .int .i64 x1, .int .i64 x2].toArray w (fun e w => e = .returned (.bool r) ∧ St w s (R)) := by
  refine enter Try.func39 rfl rfl rfl fun a hE => ?_
  rw [Farewithin] at hr
  refine W.seq ?_
  refine W.region ?_
  refine WL.vS hS hE (runs_plain rfl) (Gives.p hE rfl) rfl ?_; clear hE a; intro a hE
  refine WL.nil ?_
  refine W.seq ?_
  obtain ⟨q52, hq51, hr⟩ := bndS hr
  refine W.cut (fun a w => ∃ (q55 : Bool), q55 = q52 ∧ Rep a 15 [(6, .bool q55)] ∧ St w s (R)) ?_ ?_
  · refine W.gen fun K56 hK56 => ?_
    refine W.region ?_
    refine WL.vS hS hE (runs_plain rfl) (Gives.p hE rfl) rfl ?_; clear hE a; intro a hE
    refine WL.vS hS hE (runs_plain rfl) (Gives.p hE rfl) rfl ?_; clear hE a; intro a hE
    refine WL.vS hS hE (runs_plain rfl) (Gives.p hE rfl) rfl ?_; clear hE a; intro a hE
    refine WL.vS hS hE (runs_plain rfl) (Gives.p hE rfl) rfl ?_; clear hE a; intro a hE
    rcases Bool.eq_false_or_eq_true (decide (x0 ≥ x1)) with hg57 | hg57
    · replace hq51 := iteT hg57 hq51
      refine WL.vS hS hE (runs_if hE rfl rfl rfl hg57) (Gives.p hE rfl) rfl ?_; clear hE a; intro a hE
      refine WL.vS hS hE (runs_if hE rfl rfl rfl hg57) (Gives.p hE rfl) rfl ?_; clear hE a; intro a hE
      refine WL.vS hS hE (runs_if hE rfl rfl rfl hg57) (Gives.p hE rfl) rfl ?_; clear hE a; intro a hE
      refine WL.vS hS hE (runs_plain rfl) (Gives.pickT hE rfl hg57 rfl) rfl ?_; clear hE a; intro a hE
      refine WL.vS hS hE (runs_plain rfl) (Gives.p hE rfl) rfl ?_; clear hE a; intro a hE
      refine WL.nil ?_
      subst hK56
      exact ⟨decide (x0 ≤ x2), hq51, hE.pick _ ⟨rfl, trivial⟩, hS⟩
    · replace hq51 := iteF hg57 hq51
      refine WL.no hE (runs_not hE rfl rfl rfl (by rw [hg57]; decide)) rfl ?_; clear hE a; intro a hE
      refine WL.no hE (runs_not hE rfl rfl rfl (by rw [hg57]; decide)) rfl ?_; clear hE a; intro a hE
      refine WL.no hE (runs_not hE rfl rfl rfl (by rw [hg57]; decide)) rfl ?_; clear hE a; intro a hE
      refine WL.vS hS hE (runs_plain rfl) (Gives.pickF hE rfl hg57 rfl) rfl ?_; clear hE a; intro a hE
      refine WL.vS hS hE (runs_plain rfl) (Gives.p hE rfl) rfl ?_; clear hE a; intro a hE
      refine WL.nil ?_
      subst hK56
      exact ⟨false, hq51, hE.pick _ ⟨rfl, trivial⟩, hS⟩
  · clear hE hS a w; rintro a w ⟨q55, rfl, hE, hS⟩
    refine W.ret ?_
    refine finG (fn := Try.f39) (rs := [.tmp 6]) (vs := [_]) hE rfl ⟨rfl, trivial⟩ ?_
    subst hr
    exact ⟨rfl, hS⟩
set_option maxHeartbeats 8000000 in
theorem Farespan_ok  {w : World} {s : Sg} {R : List HP} {x0 : Int} {x1 : Int} {x2 : Int} (hS : St w s (R))  {r : Bool} (hr : Farespan x0 x1 x2 = r) :
    Calls Try.prog 76 [.int .i64 x0, .int .i64 x1, .int .i64 x2].toArray w (fun e w => e = .returned (.bool r) ∧ St w s (R)) := by
  refine enter Try.func76 rfl rfl rfl fun a hE => ?_
  rw [Farespan] at hr
  refine W.seq ?_
  refine W.region ?_
  refine WL.vS hS hE (runs_plain rfl) (Gives.p hE rfl) rfl ?_; clear hE a; intro a hE
  refine WL.nil ?_
  refine W.seq ?_
  obtain ⟨q52, hq51, hr⟩ := bndS hr
  refine W.cut (fun a w => ∃ (q55 : Bool), q55 = q52 ∧ Rep a 19 [(6, .bool q55)] ∧ St w s (R)) ?_ ?_
  · refine W.gen fun K56 hK56 => ?_
    refine W.region ?_
    refine WL.vS hS hE (runs_plain rfl) (Gives.p hE rfl) rfl ?_; clear hE a; intro a hE
    refine WL.vS hS hE (runs_plain rfl) (Gives.p hE rfl) rfl ?_; clear hE a; intro a hE
    refine WL.vS hS hE (runs_plain rfl) (Gives.p hE rfl) rfl ?_; clear hE a; intro a hE
    rcases Bool.eq_false_or_eq_true (decide (x0 ≥ 0)) with hg57 | hg57
    · replace hq51 := iteT hg57 hq51
      refine WL.vS hS hE (runs_if hE rfl rfl rfl hg57) (Gives.p hE rfl) rfl ?_; clear hE a; intro a hE
      refine WL.vS hS hE (runs_if hE rfl rfl rfl hg57) (Gives.p hE rfl) rfl ?_; clear hE a; intro a hE
      refine WL.vS hS hE (runs_if hE rfl rfl rfl hg57) (Gives.p hE rfl) rfl ?_; clear hE a; intro a hE
      refine WL.vS hS hE (runs_plain rfl) (Gives.pickT hE rfl hg57 rfl) rfl ?_; clear hE a; intro a hE
      refine WL.vS hS hE (runs_plain rfl) (Gives.p hE rfl) rfl ?_; clear hE a; intro a hE
      rcases Bool.eq_false_or_eq_true (decide (x0 < x1)) with hg58 | hg58
      · replace hq51 := iteT hg58 hq51
        refine WL.vS hS hE (runs_if hE rfl rfl rfl hg58) (Gives.p hE rfl) rfl ?_; clear hE a; intro a hE
        refine WL.vS hS hE (runs_if hE rfl rfl rfl hg58) (Gives.p hE rfl) rfl ?_; clear hE a; intro a hE
        refine WL.vS hS hE (runs_if hE rfl rfl rfl hg58) (Gives.p hE rfl) rfl ?_; clear hE a; intro a hE
        refine WL.vS hS hE (runs_plain rfl) (Gives.pickT hE rfl hg58 rfl) rfl ?_; clear hE a; intro a hE
        refine WL.vS hS hE (runs_plain rfl) (Gives.p hE rfl) rfl ?_; clear hE a; intro a hE
        refine WL.nil ?_
        subst hK56
        exact ⟨decide (x1 < x2), hq51, hE.pick _ ⟨rfl, trivial⟩, hS⟩
      · replace hq51 := iteF hg58 hq51
        refine WL.no hE (runs_not hE rfl rfl rfl (by rw [hg58]; decide)) rfl ?_; clear hE a; intro a hE
        refine WL.no hE (runs_not hE rfl rfl rfl (by rw [hg58]; decide)) rfl ?_; clear hE a; intro a hE
        refine WL.no hE (runs_not hE rfl rfl rfl (by rw [hg58]; decide)) rfl ?_; clear hE a; intro a hE
        refine WL.vS hS hE (runs_plain rfl) (Gives.pickF hE rfl hg58 rfl) rfl ?_; clear hE a; intro a hE
        refine WL.vS hS hE (runs_plain rfl) (Gives.p hE rfl) rfl ?_; clear hE a; intro a hE
        refine WL.nil ?_
        subst hK56
        exact ⟨false, hq51, hE.pick _ ⟨rfl, trivial⟩, hS⟩
    · replace hq51 := iteF hg57 hq51
      refine WL.no hE (runs_not hE rfl rfl rfl (by rw [hg57]; decide)) rfl ?_; clear hE a; intro a hE
      refine WL.no hE (runs_not hE rfl rfl rfl (by rw [hg57]; decide)) rfl ?_; clear hE a; intro a hE
      refine WL.no hE (runs_not hE rfl rfl rfl (by rw [hg57]; decide)) rfl ?_; clear hE a; intro a hE
      refine WL.vS hS hE (runs_plain rfl) (Gives.pickF hE rfl hg57 rfl) rfl ?_; clear hE a; intro a hE
      refine WL.vS hS hE (runs_plain rfl) (Gives.p hE rfl) rfl ?_; clear hE a; intro a hE
      refine WL.no hE (runs_not hE rfl rfl rfl (by decide)) rfl ?_; clear hE a; intro a hE
      refine WL.no hE (runs_not hE rfl rfl rfl (by decide)) rfl ?_; clear hE a; intro a hE
      refine WL.no hE (runs_not hE rfl rfl rfl (by decide)) rfl ?_; clear hE a; intro a hE
      refine WL.vS hS hE (runs_plain rfl) (Gives.pickF hE rfl rfl rfl) rfl ?_; clear hE a; intro a hE
      refine WL.vS hS hE (runs_plain rfl) (Gives.p hE rfl) rfl ?_; clear hE a; intro a hE
      refine WL.nil ?_
      subst hK56
      exact ⟨false, hq51, hE.pick _ ⟨rfl, trivial⟩, hS⟩
  · clear hE hS a w; rintro a w ⟨q55, rfl, hE, hS⟩
    refine W.ret ?_
    refine finG (fn := Try.f76) (rs := [.tmp 6]) (vs := [_]) hE rfl ⟨rfl, trivial⟩ ?_
    subst hr
    exact ⟨rfl, hS⟩
set_option maxHeartbeats 8000000 in
theorem FarecheckOffers_ok  {w : World} {s : Sg} {R : List HP} {x0 : List FareOffer} {a0 : Option Addr} {c0 : Nat} {x1 : Int} {x2 : Int} (hS : St w s (R)) (h0 : Sl 3 RFareOffer s a0 c0 x0) {r : Int} (hr : FarecheckOffers x0 x1 x2 = r) :
    Calls Try.prog 60 [.slice a0 x0.length c0, .int .i64 x1, .int .i64 x2].toArray w (fun e w => e = .returned (.int .i64 r) ∧ St w s (R)) := by
  refine enter Try.func60 rfl rfl rfl fun a hE => ?_
  rw [FarecheckOffers] at hr
  refine W.seq ?_
  refine W.region ?_
  refine WL.vS hS hE (runs_plain rfl) (Gives.p hE rfl) rfl ?_; clear hE a; intro a hE
  refine WL.nil ?_
  refine W.seq ?_
  refine W.seq ?_
  refine W.region ?_
  refine WL.vS hS hE (runs_plain rfl) (Gives.p hE rfl) rfl ?_; clear hE a; intro a hE
  refine WL.vS hS hE (runs_plain rfl) (Gives.len hE rfl sl69) rfl ?_; clear hE a; intro a hE
  refine WL.vS hS hE (runs_plain rfl) (Gives.p hE rfl) rfl ?_; clear hE a; intro a hE
  refine WL.nil ?_
  refine W.cond hE rfl (fun hc51 => ?_) (fun hc51 => ?_)
  · replace hr := iteT hc51 hr
    refine W.seq ?_
    refine W.region ?_
    refine WL.vS hS hE (runs_plain rfl) (Gives.p hE rfl) rfl ?_; clear hE a; intro a hE
    refine WL.nil ?_
    refine W.ret ?_
    refine finG (fn := Try.f60) (rs := [.tmp 6]) (vs := [_]) hE rfl ⟨rfl, trivial⟩ ?_
    subst hr
    exact ⟨rfl, hS⟩
  · replace hr := iteF hc51 hr
    refine W.skip ?_
    refine W.seq ?_
    refine W.seq ?_
    obtain ⟨q53, hq52, hr⟩ := bndS hr
    refine W.cut (fun a w => ∃ (q56 : Bool), q56 = q53 ∧ Rep a 40 [(0, .slice a0 x0.length c0), (2, .int .i64 x2), (19, .bool q56)] ∧ St w s (R)) ?_ ?_
    · refine W.gen fun K57 hK57 => ?_
      refine W.region ?_
      refine WL.vS hS hE (runs_plain rfl) (Gives.p hE rfl) rfl ?_; clear hE a; intro a hE
      refine WL.fnq hE (Farewithin_ok hS  rfl) (runs_plain rfl) bd39 rfl rfl rfl ?_
      clear hE hS; rintro e w ⟨rfl, hS⟩; refine ⟨_, rfl, ?_⟩; clear a; intro a hE
      refine WL.vS hS hE (runs_plain rfl) (Gives.p hE rfl) rfl ?_; clear hE a; intro a hE
      refine WL.vS hS hE (runs_plain rfl) (Gives.p hE rfl) rfl ?_; clear hE a; intro a hE
      rcases Bool.eq_false_or_eq_true (!(Farewithin x1 1 12)) with hg58 | hg58
      · replace hq52 := iteT hg58 hq52
        refine WL.no hE (runs_not hE rfl rfl rfl (by rw [hg58]; decide)) rfl ?_; clear hE a; intro a hE
        refine WL.no hE (runs_not hE rfl rfl rfl (by rw [hg58]; decide)) rfl ?_; clear hE a; intro a hE
        refine WL.no hE (runs_not hE rfl rfl rfl (by rw [hg58]; decide)) rfl ?_; clear hE a; intro a hE
        refine WL.vS hS hE (runs_plain rfl) (Gives.pickT hE rfl hg58 rfl) rfl ?_; clear hE a; intro a hE
        refine WL.nil ?_
        subst hK57
        exact ⟨true, hq52, hE.pick _ ⟨rfl, rfl, rfl, trivial⟩, hS⟩
      · replace hq52 := iteF hg58 hq52
        refine WL.vS hS hE (runs_if hE rfl rfl rfl hg58) (Gives.p hE rfl) rfl ?_; clear hE a; intro a hE
        refine WL.fnq hE (Farewithin_ok hS  rfl) (runs_if hE rfl rfl rfl hg58) bd39 rfl rfl rfl ?_
        clear hE hS; rintro e w ⟨rfl, hS⟩; refine ⟨_, rfl, ?_⟩; clear a; intro a hE
        refine WL.vS hS hE (runs_if hE rfl rfl rfl hg58) (Gives.p hE rfl) rfl ?_; clear hE a; intro a hE
        refine WL.vS hS hE (runs_plain rfl) (Gives.pickF hE rfl hg58 rfl) rfl ?_; clear hE a; intro a hE
        refine WL.nil ?_
        subst hK57
        exact ⟨!(Farewithin x2 2 12), hq52, hE.pick _ ⟨rfl, rfl, rfl, trivial⟩, hS⟩
    · clear hE hS a w; rintro a w ⟨q56, rfl, hE, hS⟩
      refine W.cond hE rfl (fun hc59 => ?_) (fun hc59 => ?_)
      · replace hr := iteT hc59 hr
        refine W.seq ?_
        refine W.region ?_
        refine WL.vS hS hE (runs_plain rfl) (Gives.p hE rfl) rfl ?_; clear hE a; intro a hE
        refine WL.nil ?_
        refine W.ret ?_
        refine finG (fn := Try.f60) (rs := [.tmp 6]) (vs := [_]) hE rfl ⟨rfl, trivial⟩ ?_
        subst hr
        exact ⟨rfl, hS⟩
      · replace hr := iteF hc59 hr
        refine W.skip ?_
        refine W.seq ?_
        refine W.seq ?_
        refine W.region ?_
        refine WL.vS hS hE (runs_plain rfl) (Gives.p hE rfl) rfl ?_; clear hE a; intro a hE
        refine WL.vS hS hE (runs_plain rfl) (Gives.len hE rfl sl69) rfl ?_; clear hE a; intro a hE
        refine WL.vS hS hE (runs_plain rfl) (Gives.p hE rfl) rfl ?_; clear hE a; intro a hE
        refine WL.nil ?_
        obtain ⟨q61, hq60, hr⟩ := bndS hr
        refine W.cut (fun a w => (.next ()) = q61 ∧ Rep a 40 [] ∧ St w s (R)) ?_ ?_
        · refine W.block ?_
          refine W.loop (fun m a w => ∃ (rest64 : List FareOffer) (k62 : Nat), rest64.length = m ∧ x0.drop k62 = rest64 ∧ FarecheckOffers.loop1 x2 rest64 = q61 ∧ Rep a 40 [(2, .int .i64 x2), (20, .slice a0 x0.length c0), (21, .int .i64 ((x0).length : Int)), (22, .int .i64 ((k62 : Nat) : Int))] ∧ St w s (R)) (m := x0.length) ⟨x0, 0, rfl, rfl, hq60, hE.pick _ ⟨rfl, rfl, rfl, rfl, trivial⟩, hS⟩ ?_
          clear hE hS a w hq60; rintro m68 a w ⟨rest64, k62, rfl, hd65, hq60, hE, hS⟩
          refine W.gen fun K71 hK71 => ?_
          rcases rest64 with _ | ⟨x63, rest64⟩
          · have hlt66 := drop_nil hd65
            refine W.seq ?_
            refine W.region ?_
            refine WL.vS hS hE (runs_plain rfl) (Gives.p hE rfl) rfl ?_; clear hE a; intro a hE
            refine WL.nil ?_
            refine W.seq ?_
            refine W.condF hE rfl (decide_eq_false (by omega)) ?_
            subst hK71
            refine W.exit rfl ?_
            exact ⟨hq60, hE.pick _ trivial, hS⟩
          · obtain ⟨hlt66, hx67, hd65⟩ := drop_cons hd65
            rw [FarecheckOffers.loop1] at hq60
            refine W.seq ?_
            refine W.region ?_
            refine WL.vS hS hE (runs_plain rfl) (Gives.p hE rfl) rfl ?_; clear hE a; intro a hE
            refine WL.nil ?_
            refine W.seq ?_
            refine W.condT hE rfl (decide_eq_true (by omega)) ?_
            refine W.skip ?_
            refine W.seq ?_
            refine W.block ?_
            refine W.seq ?_
            refine W.region ?_
            obtain ⟨cs72, hl73, hR74, hat75⟩ := h0.at hx67
            subst hR74
            refine WL.vS hS hE (runs_plain rfl) (Gives.idx hE k62 rfl rfl sl69 rfl hlt66 (h0.aok hlt66)) rfl ?_; clear hE a; intro a hE
            refine WL.vS hS hE (runs_plain rfl) (Gives.loadA hE rfl (fun w h => hat75 w _ h) ty100) rfl ?_; clear hE a; intro a hE
            refine WL.alloc hE hS (runs_plain rfl) zr100 rfl ?_; clear hE hS a w; intro b76 a w hE hS
            refine WL.storeI hE hS 0 rfl (FareOffer.cells x63) (runs_plain rfl) rfl rfl rfl ty100 rfl rfl rfl rfl ?_; clear hE hS a w; intro a w hE hS
            refine WL.nil ?_
            refine W.seq ?_
            obtain ⟨q78, hq77, hq60⟩ := bndS hq60
            refine W.cut (fun a w => ∃ (q81 : Bool), q81 = q78 ∧ Rep a 40 [(2, .int .i64 x2), (20, .slice a0 x0.length c0), (21, .int .i64 ((x0).length : Int)), (22, .int .i64 ((k62 : Nat) : Int)), (38, .bool q81)] ∧ St w s (pt b76 (.cells (FareOffer.cells x63).toArray 100 (0, 0)) :: R)) ?_ ?_
            · refine W.gen fun K82 hK82 => ?_
              refine W.region ?_
              refine WL.vS hS hE (runs_plain rfl) (Gives.fld hE rfl fl100_0) rfl ?_; clear hE a; intro a hE
              refine WL.vS hS hE (runs_plain rfl) (Gives.loadB hE 0 rfl rfl rfl ty3) rfl ?_; clear hE a; intro a hE
              refine WL.vS hS hE (runs_plain rfl) (Gives.fld hE rfl fl100_1) rfl ?_; clear hE a; intro a hE
              refine WL.vS hS hE (runs_plain rfl) (Gives.loadB hE 0 rfl rfl rfl ty3) rfl ?_; clear hE a; intro a hE
              refine WL.vS hS hE (runs_plain rfl) (Gives.p hE rfl) rfl ?_; clear hE a; intro a hE
              refine WL.fnq hE (Farespan_ok hS  rfl) (runs_plain rfl) bd76 rfl rfl rfl ?_
              clear hE hS; rintro e w ⟨rfl, hS⟩; refine ⟨_, rfl, ?_⟩; clear a; intro a hE
              refine WL.vS hS hE (runs_plain rfl) (Gives.p hE rfl) rfl ?_; clear hE a; intro a hE
              refine WL.vS hS hE (runs_plain rfl) (Gives.p hE rfl) rfl ?_; clear hE a; intro a hE
              rcases Bool.eq_false_or_eq_true (!(Farespan x63.From x63.To x2)) with hg83 | hg83
              · replace hq77 := iteT hg83 hq77
                refine WL.no hE (runs_not hE rfl rfl rfl (by rw [hg83]; decide)) rfl ?_; clear hE a; intro a hE
                refine WL.no hE (runs_not hE rfl rfl rfl (by rw [hg83]; decide)) rfl ?_; clear hE a; intro a hE
                refine WL.no hE (runs_not hE rfl rfl rfl (by rw [hg83]; decide)) rfl ?_; clear hE a; intro a hE
                refine WL.no hE (runs_not hE rfl rfl rfl (by rw [hg83]; decide)) rfl ?_; clear hE a; intro a hE
                refine WL.vS hS hE (runs_plain rfl) (Gives.pickT hE rfl hg83 rfl) rfl ?_; clear hE a; intro a hE
                refine WL.nil ?_
                subst hK82
                exact ⟨true, hq77, hE.pick _ ⟨rfl, rfl, rfl, rfl, rfl, trivial⟩, hS⟩
              · replace hq77 := iteF hg83 hq77
                refine WL.vS hS hE (runs_if hE rfl rfl rfl hg83) (Gives.fld hE rfl fl100_2) rfl ?_; clear hE a; intro a hE
                refine WL.vS hS hE (runs_if hE rfl rfl rfl hg83) (Gives.loadB hE 0 rfl rfl rfl ty3) rfl ?_; clear hE a; intro a hE
                refine WL.fnq hE (Farewithin_ok hS  rfl) (runs_if hE rfl rfl rfl hg83) bd39 rfl rfl rfl ?_
                clear hE hS; rintro e w ⟨rfl, hS⟩; refine ⟨_, rfl, ?_⟩; clear a; intro a hE
                refine WL.vS hS hE (runs_if hE rfl rfl rfl hg83) (Gives.p hE rfl) rfl ?_; clear hE a; intro a hE
                refine WL.vS hS hE (runs_plain rfl) (Gives.pickF hE rfl hg83 rfl) rfl ?_; clear hE a; intro a hE
                refine WL.nil ?_
                subst hK82
                exact ⟨!(Farewithin x63.Value 1 200), hq77, hE.pick _ ⟨rfl, rfl, rfl, rfl, rfl, trivial⟩, hS⟩
            · clear hE hS a w; rintro a w ⟨q81, rfl, hE, hS⟩
              refine W.cond hE rfl (fun hc84 => ?_) (fun hc84 => ?_)
              · replace hq60 := iteT hc84 hq60
                refine W.seq ?_
                refine W.region ?_
                refine WL.vS hS hE (runs_plain rfl) (Gives.p hE rfl) rfl ?_; clear hE a; intro a hE
                refine WL.nil ?_
                refine W.ret ?_
                subst hK71
                rw [← hq60] at hr
                dsimp only at hr
                refine finG (fn := Try.f60) (rs := [.tmp 6]) (vs := [_]) hE rfl ⟨rfl, trivial⟩ ?_
                subst hr
                replace hS := hS.tail
                exact ⟨rfl, hS⟩
              · replace hq60 := iteF hc84 hq60
                refine W.skip ?_
                refine W.region ?_
                refine WL.vS hS hE (runs_plain rfl) (Gives.inc hE rfl (by have := h0.small; omega)) rfl ?_; clear hE a; intro a hE
                refine WL.vS hS hE (runs_plain rfl) (Gives.p hE rfl) rfl ?_; clear hE a; intro a hE
                refine WL.nil ?_
                replace hS := hS.tail
                subst hK71
                exact ⟨rest64.length, Nat.lt_succ_self _, rest64, k62 + 1, rfl, hd65, hq60, hE.pick _ ⟨rfl, rfl, rfl, rfl, trivial⟩, hS⟩
        · clear hE hS a w; rintro a w ⟨rfl, hE, hS⟩
          dsimp only at hr
          refine W.seq ?_
          refine W.region ?_
          refine WL.vS hS hE (runs_plain rfl) (Gives.p hE rfl) rfl ?_; clear hE a; intro a hE
          refine WL.nil ?_
          refine W.ret ?_
          refine finG (fn := Try.f60) (rs := [.tmp 6]) (vs := [_]) hE rfl ⟨rfl, trivial⟩ ?_
          subst hr
          exact ⟨rfl, hS⟩
set_option maxHeartbeats 8000000 in
theorem CmpisNaNint_ok  {w : World} {s : Sg} {R : List HP} {x0 : Int} (hS : St w s (R))  {r : Bool} (hr : CmpisNaNint x0 = r) :
    Calls Try.prog 80 [.int .i64 x0].toArray w (fun e w => e = .returned (.bool r) ∧ St w s (R)) := by
  refine enter Try.func80 rfl rfl rfl fun a hE => ?_
  rw [CmpisNaNint] at hr
  refine W.seq ?_
  refine W.region ?_
  refine WL.vS hS hE (runs_plain rfl) (Gives.p hE rfl) rfl ?_; clear hE a; intro a hE
  refine WL.nil ?_
  refine W.seq ?_
  refine W.region ?_
  refine WL.vS hS hE (runs_plain rfl) (Gives.p hE rfl) rfl ?_; clear hE a; intro a hE
  refine WL.vS hS hE (runs_plain rfl) (Gives.p hE rfl) rfl ?_; clear hE a; intro a hE
  refine WL.vS hS hE (runs_plain rfl) (Gives.p hE rfl) rfl ?_; clear hE a; intro a hE
  refine WL.vS hS hE (runs_plain rfl) (Gives.p hE rfl) rfl ?_; clear hE a; intro a hE
  refine WL.nil ?_
  refine W.ret ?_
  refine finG (fn := Try.f80) (rs := [.tmp 2]) (vs := [_]) hE rfl ⟨rfl, trivial⟩ ?_
  subst hr
  exact ⟨rfl, hS⟩
set_option maxHeartbeats 8000000 in
theorem CmpCompareint_ok  {w : World} {s : Sg} {R : List HP} {x0 : Int} {x1 : Int} (hS : St w s (R))  {r : Int} (hr : CmpCompareint x0 x1 = r) :
    Calls Try.prog 77 [.int .i64 x0, .int .i64 x1].toArray w (fun e w => e = .returned (.int .i64 r) ∧ St w s (R)) := by
  refine enter Try.func77 rfl rfl rfl fun a hE => ?_
  rw [CmpCompareint] at hr
  refine W.seq ?_
  refine W.region ?_
  refine WL.vS hS hE (runs_plain rfl) (Gives.p hE rfl) rfl ?_; clear hE a; intro a hE
  refine WL.nil ?_
  refine W.seq ?_
  refine W.region ?_
  refine WL.vS hS hE (runs_plain rfl) (Gives.p hE rfl) rfl ?_; clear hE a; intro a hE
  refine WL.fnq hE (CmpisNaNint_ok hS  rfl) (runs_plain rfl) bd80 rfl rfl rfl ?_
  clear hE hS; rintro e w ⟨rfl, hS⟩; refine ⟨_, rfl, ?_⟩; clear a; intro a hE
  refine WL.vS hS hE (runs_plain rfl) (Gives.p hE rfl) rfl ?_; clear hE a; intro a hE
  refine WL.nil ?_
  refine W.seq ?_
  refine W.region ?_
  refine WL.vS hS hE (runs_plain rfl) (Gives.p hE rfl) rfl ?_; clear hE a; intro a hE
  refine WL.fnq hE (CmpisNaNint_ok hS  rfl) (runs_plain rfl) bd80 rfl rfl rfl ?_
  clear hE hS; rintro e w ⟨rfl, hS⟩; refine ⟨_, rfl, ?_⟩; clear a; intro a hE
  refine WL.vS hS hE (runs_plain rfl) (Gives.p hE rfl) rfl ?_; clear hE a; intro a hE
  refine WL.nil ?_
  refine W.seq ?_
  refine W.seq ?_
  refine W.region ?_
  refine WL.vS hS hE (runs_plain rfl) (Gives.p hE rfl) rfl ?_; clear hE a; intro a hE
  refine WL.nil ?_
  refine W.cond hE rfl (fun hc51 => ?_) (fun hc51 => ?_)
  · replace hr := iteT hc51 hr
    refine W.seq ?_
    refine W.seq ?_
    refine W.region ?_
    refine WL.vS hS hE (runs_plain rfl) (Gives.p hE rfl) rfl ?_; clear hE a; intro a hE
    refine WL.nil ?_
    refine W.cond hE rfl (fun hc52 => ?_) (fun hc52 => ?_)
    · replace hr := iteT hc52 hr
      refine W.seq ?_
      refine W.region ?_
      refine WL.vS hS hE (runs_plain rfl) (Gives.p hE rfl) rfl ?_; clear hE a; intro a hE
      refine WL.nil ?_
      refine W.ret ?_
      refine finG (fn := Try.f77) (rs := [.tmp 4]) (vs := [_]) hE rfl ⟨rfl, trivial⟩ ?_
      subst hr
      exact ⟨rfl, hS⟩
    · replace hr := iteF hc52 hr
      refine W.skip ?_
      refine W.seq ?_
      refine W.region ?_
      refine WL.vS hS hE (runs_plain rfl) (Gives.p hE rfl) rfl ?_; clear hE a; intro a hE
      refine WL.nil ?_
      refine W.ret ?_
      refine finG (fn := Try.f77) (rs := [.tmp 4]) (vs := [_]) hE rfl ⟨rfl, trivial⟩ ?_
      subst hr
      exact ⟨rfl, hS⟩
  · replace hr := iteF hc51 hr
    refine W.skip ?_
    refine W.seq ?_
    refine W.seq ?_
    refine W.region ?_
    refine WL.vS hS hE (runs_plain rfl) (Gives.p hE rfl) rfl ?_; clear hE a; intro a hE
    refine WL.nil ?_
    refine W.cond hE rfl (fun hc53 => ?_) (fun hc53 => ?_)
    · replace hr := iteT hc53 hr
      refine W.seq ?_
      refine W.region ?_
      refine WL.vS hS hE (runs_plain rfl) (Gives.p hE rfl) rfl ?_; clear hE a; intro a hE
      refine WL.nil ?_
      refine W.ret ?_
      refine finG (fn := Try.f77) (rs := [.tmp 4]) (vs := [_]) hE rfl ⟨rfl, trivial⟩ ?_
      subst hr
      exact ⟨rfl, hS⟩
    · replace hr := iteF hc53 hr
      refine W.skip ?_
      refine W.seq ?_
      refine W.seq ?_
      refine W.region ?_
      refine WL.vS hS hE (runs_plain rfl) (Gives.p hE rfl) rfl ?_; clear hE a; intro a hE
      refine WL.vS hS hE (runs_plain rfl) (Gives.p hE rfl) rfl ?_; clear hE a; intro a hE
      refine WL.vS hS hE (runs_plain rfl) (Gives.p hE rfl) rfl ?_; clear hE a; intro a hE
      refine WL.nil ?_
      refine W.cond hE rfl (fun hc54 => ?_) (fun hc54 => ?_)
      · replace hr := iteT hc54 hr
        refine W.seq ?_
        refine W.region ?_
        refine WL.vS hS hE (runs_plain rfl) (Gives.p hE rfl) rfl ?_; clear hE a; intro a hE
        refine WL.nil ?_
        refine W.ret ?_
        refine finG (fn := Try.f77) (rs := [.tmp 4]) (vs := [_]) hE rfl ⟨rfl, trivial⟩ ?_
        subst hr
        exact ⟨rfl, hS⟩
      · replace hr := iteF hc54 hr
        refine W.skip ?_
        refine W.seq ?_
        refine W.seq ?_
        refine W.region ?_
        refine WL.vS hS hE (runs_plain rfl) (Gives.p hE rfl) rfl ?_; clear hE a; intro a hE
        refine WL.vS hS hE (runs_plain rfl) (Gives.p hE rfl) rfl ?_; clear hE a; intro a hE
        refine WL.vS hS hE (runs_plain rfl) (Gives.p hE rfl) rfl ?_; clear hE a; intro a hE
        refine WL.nil ?_
        refine W.cond hE rfl (fun hc55 => ?_) (fun hc55 => ?_)
        · replace hr := iteT hc55 hr
          refine W.seq ?_
          refine W.region ?_
          refine WL.vS hS hE (runs_plain rfl) (Gives.p hE rfl) rfl ?_; clear hE a; intro a hE
          refine WL.nil ?_
          refine W.ret ?_
          refine finG (fn := Try.f77) (rs := [.tmp 4]) (vs := [_]) hE rfl ⟨rfl, trivial⟩ ?_
          subst hr
          exact ⟨rfl, hS⟩
        · replace hr := iteF hc55 hr
          refine W.skip ?_
          refine W.seq ?_
          refine W.region ?_
          refine WL.vS hS hE (runs_plain rfl) (Gives.p hE rfl) rfl ?_; clear hE a; intro a hE
          refine WL.nil ?_
          refine W.ret ?_
          refine finG (fn := Try.f77) (rs := [.tmp 4]) (vs := [_]) hE rfl ⟨rfl, trivial⟩ ?_
          subst hr
          exact ⟨rfl, hS⟩
set_option maxHeartbeats 8000000 in
theorem SlicesCompareLint_ok  {w : World} {s : Sg} {R : List HP} {x0 : List Int} {a0 : Option Addr} {c0 : Nat} {x1 : List Int} {a1 : Option Addr} {c1 : Nat} (hS : St w s (R)) (h0 : Sl 1 (RI .i64) s a0 c0 x0) (h1 : Sl 1 (RI .i64) s a1 c1 x1) {r : Int} (hr : SlicesCompareLint x0 x1 = some r) :
    Calls Try.prog 61 [.slice a0 x0.length c0, .slice a1 x1.length c1].toArray w (fun e w => e = .returned (.int .i64 r) ∧ St w s (R)) := by
  refine enter Try.func61 rfl rfl rfl fun a hE => ?_
  rw [SlicesCompareLint] at hr
  refine W.seq ?_
  refine W.region ?_
  refine WL.vS hS hE (runs_plain rfl) (Gives.p hE rfl) rfl ?_; clear hE a; intro a hE
  refine WL.nil ?_
  refine W.seq ?_
  refine W.seq ?_
  refine W.region ?_
  refine WL.vS hS hE (runs_plain rfl) (Gives.p hE rfl) rfl ?_; clear hE a; intro a hE
  refine WL.vS hS hE (runs_plain rfl) (Gives.len hE rfl sl26) rfl ?_; clear hE a; intro a hE
  refine WL.vS hS hE (runs_plain rfl) (Gives.p hE rfl) rfl ?_; clear hE a; intro a hE
  refine WL.nil ?_
  obtain ⟨q52, hq51, hr⟩ := bindS hr
  refine W.cut (fun a w => (.next ()) = q52 ∧ Rep a 36 [(0, .slice a0 x0.length c0), (1, .slice a1 x1.length c1)] ∧ St w s (R)) ?_ ?_
  · refine W.block ?_
    refine W.loop (fun m a w => ∃ (rest55 : List Int) (k53 : Nat), rest55.length = m ∧ x0.drop k53 = rest55 ∧ SlicesCompareLint.loop1 x1 rest55 k53 = some q52 ∧ Rep a 36 [(0, .slice a0 x0.length c0), (1, .slice a1 x1.length c1), (9, .slice a0 x0.length c0), (10, .int .i64 ((x0).length : Int)), (11, .int .i64 ((k53 : Nat) : Int))] ∧ St w s (R)) (m := x0.length) ⟨x0, 0, rfl, rfl, hq51, hE.pick _ ⟨rfl, rfl, rfl, rfl, rfl, trivial⟩, hS⟩ ?_
    clear hE hS a w hq51; rintro m59 a w ⟨rest55, k53, rfl, hd56, hq51, hE, hS⟩
    refine W.gen fun K62 hK62 => ?_
    rcases rest55 with _ | ⟨x54, rest55⟩
    · have hlt57 := drop_nil hd56
      refine W.seq ?_
      refine W.region ?_
      refine WL.vS hS hE (runs_plain rfl) (Gives.p hE rfl) rfl ?_; clear hE a; intro a hE
      refine WL.nil ?_
      refine W.seq ?_
      refine W.condF hE rfl (decide_eq_false (by omega)) ?_
      subst hK62
      refine W.exit rfl ?_
      exact ⟨Option.some.inj hq51, hE.pick _ ⟨rfl, rfl, trivial⟩, hS⟩
    · obtain ⟨hlt57, hx58, hd56⟩ := drop_cons hd56
      rw [SlicesCompareLint.loop1] at hq51
      refine W.seq ?_
      refine W.region ?_
      refine WL.vS hS hE (runs_plain rfl) (Gives.p hE rfl) rfl ?_; clear hE a; intro a hE
      refine WL.nil ?_
      refine W.seq ?_
      refine W.condT hE rfl (decide_eq_true (by omega)) ?_
      refine W.skip ?_
      refine W.seq ?_
      refine W.block ?_
      refine W.seq ?_
      refine W.region ?_
      refine WL.vS hS hE (runs_plain rfl) (Gives.p hE rfl) rfl ?_; clear hE a; intro a hE
      obtain ⟨cs63, hl64, hR65, hat66⟩ := h0.at hx58
      subst hR65
      refine WL.vS hS hE (runs_plain rfl) (Gives.idx hE k53 rfl rfl sl26 rfl hlt57 (h0.aok hlt57)) rfl ?_; clear hE a; intro a hE
      refine WL.vS hS hE (runs_plain rfl) (Gives.load1 hE rfl (fun w h => hat66 w _ h) ty3) rfl ?_; clear hE a; intro a hE
      refine WL.vS hS hE (runs_plain rfl) (Gives.p hE rfl) rfl ?_; clear hE a; intro a hE
      refine WL.vS hS hE (runs_plain rfl) (Gives.p hE rfl) rfl ?_; clear hE a; intro a hE
      refine WL.nil ?_
      refine W.seq ?_
      refine W.seq ?_
      refine W.region ?_
      refine WL.vS hS hE (runs_plain rfl) (Gives.p hE rfl) rfl ?_; clear hE a; intro a hE
      refine WL.vS hS hE (runs_plain rfl) (Gives.p hE rfl) rfl ?_; clear hE a; intro a hE
      refine WL.vS hS hE (runs_plain rfl) (Gives.len hE rfl sl26) rfl ?_; clear hE a; intro a hE
      refine WL.vS hS hE (runs_plain rfl) (Gives.p hE rfl) rfl ?_; clear hE a; intro a hE
      refine WL.nil ?_
      refine W.cond hE rfl (fun hc67 => ?_) (fun hc67 => ?_)
      · replace hq51 := iteT hc67 hq51
        refine W.seq ?_
        refine W.region ?_
        refine WL.vS hS hE (runs_plain rfl) (Gives.p hE rfl) rfl ?_; clear hE a; intro a hE
        refine WL.nil ?_
        refine W.ret ?_
        subst hK62
        rw [← Option.some.inj hq51] at hr
        dsimp only at hr
        refine finG (fn := Try.f61) (rs := [.tmp 4]) (vs := [_]) hE rfl ⟨rfl, trivial⟩ ?_
        obtain rfl := Option.some.inj hr
        exact ⟨rfl, hS⟩
      · replace hq51 := iteF hc67 hq51
        refine W.skip ?_
        refine W.seq ?_
        refine W.region ?_
        refine WL.vS hS hE (runs_plain rfl) (Gives.p hE rfl) rfl ?_; clear hE a; intro a hE
        refine WL.vS hS hE (runs_plain rfl) (Gives.p hE rfl) rfl ?_; clear hE a; intro a hE
        obtain ⟨x68, hx69, hq51⟩ := bindS hq51
        obtain ⟨hi70, hlt71, hy72⟩ := gx_some hx69
        obtain ⟨cs73, hl74, hR75, hat76⟩ := h1.at hy72
        subst hR75
        refine WL.vS hS hE (runs_plain rfl) (Gives.idx hE (((k53 : Nat) : Int)).toNat rfl rfl sl26 hi70 hlt71 (h1.aok hlt71)) rfl ?_; clear hE a; intro a hE
        refine WL.vS hS hE (runs_plain rfl) (Gives.load1 hE rfl (fun w h => hat76 w _ h) ty3) rfl ?_; clear hE a; intro a hE
        refine WL.vS hS hE (runs_plain rfl) (Gives.p hE rfl) rfl ?_; clear hE a; intro a hE
        refine WL.nil ?_
        refine W.seq ?_
        refine W.region ?_
        refine WL.vS hS hE (runs_plain rfl) (Gives.p hE rfl) rfl ?_; clear hE a; intro a hE
        refine WL.vS hS hE (runs_plain rfl) (Gives.p hE rfl) rfl ?_; clear hE a; intro a hE
        refine WL.fnq hE (CmpCompareint_ok hS  rfl) (runs_plain rfl) bd77 rfl rfl rfl ?_
        clear hE hS; rintro e w ⟨rfl, hS⟩; refine ⟨_, rfl, ?_⟩; clear a; intro a hE
        refine WL.vS hS hE (runs_plain rfl) (Gives.p hE rfl) rfl ?_; clear hE a; intro a hE
        refine WL.nil ?_
        refine W.seq ?_
        refine W.region ?_
        refine WL.vS hS hE (runs_plain rfl) (Gives.p hE rfl) rfl ?_; clear hE a; intro a hE
        refine WL.vS hS hE (runs_plain rfl) (Gives.p hE rfl) rfl ?_; clear hE a; intro a hE
        refine WL.nil ?_
        refine W.cond hE rfl (fun hc77 => ?_) (fun hc77 => ?_)
        · replace hq51 := iteT hc77 hq51
          refine W.seq ?_
          refine W.region ?_
          refine WL.vS hS hE (runs_plain rfl) (Gives.p hE rfl) rfl ?_; clear hE a; intro a hE
          refine WL.vS hS hE (runs_plain rfl) (Gives.p hE rfl) rfl ?_; clear hE a; intro a hE
          refine WL.nil ?_
          refine W.ret ?_
          subst hK62
          rw [← Option.some.inj hq51] at hr
          dsimp only at hr
          refine finG (fn := Try.f61) (rs := [.tmp 4]) (vs := [_]) hE rfl ⟨rfl, trivial⟩ ?_
          obtain rfl := Option.some.inj hr
          exact ⟨rfl, hS⟩
        · replace hq51 := iteF hc77 hq51
          refine W.skip ?_
          refine W.region ?_
          refine WL.vS hS hE (runs_plain rfl) (Gives.inc hE rfl (by have := h0.small; omega)) rfl ?_; clear hE a; intro a hE
          refine WL.vS hS hE (runs_plain rfl) (Gives.p hE rfl) rfl ?_; clear hE a; intro a hE
          refine WL.nil ?_
          subst hK62
          exact ⟨rest55.length, Nat.lt_succ_self _, rest55, k53 + 1, rfl, hd56, hq51, hE.pick _ ⟨rfl, rfl, rfl, rfl, rfl, trivial⟩, hS⟩
  · clear hE hS a w; rintro a w ⟨rfl, hE, hS⟩
    dsimp only at hr
    refine W.seq ?_
    refine W.seq ?_
    refine W.region ?_
    refine WL.vS hS hE (runs_plain rfl) (Gives.p hE rfl) rfl ?_; clear hE a; intro a hE
    refine WL.vS hS hE (runs_plain rfl) (Gives.len hE rfl sl26) rfl ?_; clear hE a; intro a hE
    refine WL.vS hS hE (runs_plain rfl) (Gives.p hE rfl) rfl ?_; clear hE a; intro a hE
    refine WL.vS hS hE (runs_plain rfl) (Gives.len hE rfl sl26) rfl ?_; clear hE a; intro a hE
    refine WL.vS hS hE (runs_plain rfl) (Gives.p hE rfl) rfl ?_; clear hE a; intro a hE
    refine WL.nil ?_
    refine W.cond hE rfl (fun hc78 => ?_) (fun hc78 => ?_)
    · replace hr := iteT hc78 hr
      refine W.seq ?_
      refine W.region ?_
      refine WL.vS hS hE (runs_plain rfl) (Gives.p hE rfl) rfl ?_; clear hE a; intro a hE
      refine WL.nil ?_
      refine W.ret ?_
      refine finG (fn := Try.f61) (rs := [.tmp 4]) (vs := [_]) hE rfl ⟨rfl, trivial⟩ ?_
      obtain rfl := Option.some.inj hr
      exact ⟨rfl, hS⟩
    · replace hr := iteF hc78 hr
      refine W.skip ?_
      refine W.seq ?_
      refine W.region ?_
      refine WL.vS hS hE (runs_plain rfl) (Gives.p hE rfl) rfl ?_; clear hE a; intro a hE
      refine WL.nil ?_
      refine W.ret ?_
      refine finG (fn := Try.f61) (rs := [.tmp 4]) (vs := [_]) hE rfl ⟨rfl, trivial⟩ ?_
      obtain rfl := Option.some.inj hr
      exact ⟨rfl, hS⟩
set_option maxHeartbeats 8000000 in
theorem FarePick_ok {fu : Nat}  {w : World} {s : Sg} {R : List HP} {x0 : List FareOffer} {a0 : Option Addr} {c0 : Nat} {x1 : Int} {x2 : Int} (hS : St w s (R)) (h0 : Sl 3 RFareOffer s a0 c0 x0) {r : Int × (List Int) × Int} (hr : FarePick fu x0 x1 x2 = some r) :
    Calls Try.prog 36 [.slice a0 x0.length c0, .int .i64 x1, .int .i64 x2].toArray w (fun e w => ∃ (a1 : Option Addr) (c1 : Nat) (t : Sg), e = .returned (.tuple #[.int .i64 r.1, .slice a1 r.2.1.length c1, .int .i64 r.2.2]) ∧ s.Le t ∧ Sl 1 (RI .i64) t a1 c1 r.2.1 ∧ St w t (R)) := by
  refine enter Try.func36 rfl rfl rfl fun a hE => ?_
  rw [FarePick] at hr
  refine W.seq ?_
  refine W.region ?_
  refine WL.vS hS hE (runs_plain rfl) (Gives.p hE rfl) rfl ?_; clear hE a; intro a hE
  refine WL.vS hS hE (runs_plain rfl) (Gives.p hE rfl) rfl ?_; clear hE a; intro a hE
  refine WL.vS hS hE (runs_plain rfl) (Gives.p hE rfl) rfl ?_; clear hE a; intro a hE
  refine WL.nil ?_
  refine W.seq ?_
  refine W.seq ?_
  refine W.region ?_
  refine WL.vS hS hE (runs_plain rfl) (Gives.p hE rfl) rfl ?_; clear hE a; intro a hE
  refine WL.vS hS hE (runs_plain rfl) (Gives.p hE rfl) rfl ?_; clear hE a; intro a hE
  refine WL.vS hS hE (runs_plain rfl) (Gives.p hE rfl) rfl ?_; clear hE a; intro a hE
  refine WL.fnq hE (FarecheckOffers_ok hS h0 rfl) (runs_plain rfl) bd60 rfl rfl rfl ?_
  clear hE hS; rintro e w ⟨rfl, hS⟩; refine ⟨_, rfl, ?_⟩; clear a; intro a hE
  refine WL.vS hS hE (runs_plain rfl) (Gives.p hE rfl) rfl ?_; clear hE a; intro a hE
  refine WL.nil ?_
  refine W.seq ?_
  refine W.region ?_
  refine WL.vS hS hE (runs_plain rfl) (Gives.p hE rfl) rfl ?_; clear hE a; intro a hE
  refine WL.vS hS hE (runs_plain rfl) (Gives.p hE rfl) rfl ?_; clear hE a; intro a hE
  refine WL.nil ?_
  refine W.cond hE rfl (fun hc51 => ?_) (fun hc51 => ?_)
  · replace hr := iteT hc51 hr
    refine W.seq ?_
    refine W.region ?_
    refine WL.vS hS hE (runs_plain rfl) (Gives.p hE rfl) rfl ?_; clear hE a; intro a hE
    refine WL.vS hS hE (runs_plain rfl) (Gives.p hE rfl) rfl ?_; clear hE a; intro a hE
    refine WL.vS hS hE (runs_plain rfl) (Gives.p hE rfl) rfl ?_; clear hE a; intro a hE
    refine WL.vS hS hE (runs_plain rfl) (Gives.p hE rfl) rfl ?_; clear hE a; intro a hE
    refine WL.nil ?_
    refine W.ret ?_
    refine finG (fn := Try.f36) (rs := [.tmp 6, .tmp 7, .tmp 8]) (vs := [_, _, _]) hE rfl ⟨rfl, rfl, rfl, trivial⟩ ?_
    obtain rfl := Option.some.inj hr
    exact ⟨none, 0, s, rfl, (Sg.Le.refl _), Sl.nil, hS⟩
  · replace hr := iteF hc51 hr
    refine W.skip ?_
    refine W.seq ?_
    refine W.region ?_
    refine WL.vS hS hE (runs_plain rfl) (Gives.p hE rfl) rfl ?_; clear hE a; intro a hE
    refine WL.nil ?_
    refine W.seq ?_
    refine W.region ?_
    refine WL.vS hS hE (runs_plain rfl) (Gives.p hE rfl) rfl ?_; clear hE a; intro a hE
    refine WL.nil ?_
    refine W.seq ?_
    refine W.seq ?_
    refine W.region ?_
    refine WL.vS hS hE (runs_plain rfl) (Gives.p hE rfl) rfl ?_; clear hE a; intro a hE
    refine WL.vS hS hE (runs_plain rfl) (Gives.len hE rfl sl69) rfl ?_; clear hE a; intro a hE
    refine WL.vS hS hE (runs_plain rfl) (Gives.shl hE rfl rfl (by omega)) rfl ?_; clear hE a; intro a hE
    refine WL.vS hS hE (runs_plain rfl) (Gives.p hE rfl) rfl ?_; clear hE a; intro a hE
    refine WL.nil ?_
    obtain ⟨q64, hq63, hr⟩ := bindS hr
    refine W.cut (fun a w => ∃ (q69 : Int), ∃ (q70 : List Int), ∃ (q74 : Int), ∃ (a71 : Option Addr), ∃ (c72 : Nat), ∃ (s67 : Sg), s.Le s67 ∧ (q69, q70, q74) = q64 ∧ Sl 1 (RI .i64) s67 a71 c72 q70 ∧ Rep a 97 [(10, .int .i64 q69), (11, .slice a71 q70.length c72)] ∧ St w s67 (R)) ?_ ?_
    · refine W.block ?_
      refine W.loop (fun m a w => ∃ (n65 : Nat), ∃ (q69 : Int), ∃ (q70 : List Int), ∃ (q74 : Int), ∃ (a71 : Option Addr), ∃ (c72 : Nat), ∃ (s67 : Sg), n65 = m ∧ s.Le s67 ∧ FarePick.loop2 x0 x1 fu n65 q69 q70 q74 = some q64 ∧ Sl 1 (RI .i64) s67 a71 c72 q70 ∧ Rep a 97 [(0, .slice a0 x0.length c0), (1, .int .i64 x1), (10, .int .i64 q69), (11, .slice a71 q70.length c72), (29, .int .i64 (IntKind.wrap .i64 (1 * (2 ^ (min (Int.toNat ((x0).length : Int)) (IntKind.bits .i64)))))), (30, .int .i64 q74)] ∧ St w s67 (R)) (m := fu) ⟨fu, (-1), [], 0, none, 0, s, rfl, (Sg.Le.refl _), hq63, Sl.nil, hE.pick _ ⟨rfl, rfl, rfl, rfl, rfl, rfl, trivial⟩, hS⟩ ?_
      clear hE hS a w hq63; rintro m66 a w ⟨n65, q69, q70, q74, a71, c72, s67, rfl, hle68, hq63, h73, hE, hS⟩
      refine W.gen fun K75 hK75 => ?_
      replace h0 := Sl.mono RFareOffer.mono hle68 h0
      rcases n65 with _ | n65
      · rw [FarePick.loop2] at hq63; exact absurd hq63 (by simp)
      rw [FarePick.loop2] at hq63
      refine W.seq ?_
      refine W.region ?_
      refine WL.vS hS hE (runs_plain rfl) (Gives.p hE rfl) rfl ?_; clear hE a; intro a hE
      refine WL.nil ?_
      refine W.seq ?_
      refine W.cond hE rfl (fun hc76 => ?_) (fun hc76 => ?_)
      · replace hq63 := iteT hc76 hq63
        refine W.skip ?_
        refine W.seq ?_
        refine W.block ?_
        refine W.seq ?_
        refine W.region ?_
        refine WL.vS hS hE (runs_plain rfl) (Gives.p hE rfl) rfl ?_; clear hE a; intro a hE
        refine WL.vS hS hE (runs_plain rfl) (Gives.p hE rfl) rfl ?_; clear hE a; intro a hE
        refine WL.nil ?_
        refine W.seq ?_
        refine W.region ?_
        replace hS := hS.vecNil 3 1
        refine WL.vS hS hE (runs_plain rfl) (Gives.p hE rfl) rfl ?_; clear hE a; intro a hE
        refine WL.nil ?_
        refine W.seq ?_
        refine W.region ?_
        refine WL.alloc hE hS (runs_plain rfl) zr98 rfl ?_; clear hE hS a w; intro b78 a w hE hS
        replace hS := hS.ptVec (es := 1) (m := 12) rfl (by decide)
        have h79 : Ev 1 (RI .i64) s67 [.int .i64 0, .int .i64 0, .int .i64 0, .int .i64 0, .int .i64 0, .int .i64 0, .int .i64 0, .int .i64 0, .int .i64 0, .int .i64 0, .int .i64 0, .int .i64 0] [0, 0, 0, 0, 0, 0, 0, 0, 0, 0, 0, 0] := (Ev.cons (c1 := [.int .i64 0]) rfl rfl (Ev.cons (c1 := [.int .i64 0]) rfl rfl (Ev.cons (c1 := [.int .i64 0]) rfl rfl (Ev.cons (c1 := [.int .i64 0]) rfl rfl (Ev.cons (c1 := [.int .i64 0]) rfl rfl (Ev.cons (c1 := [.int .i64 0]) rfl rfl (Ev.cons (c1 := [.int .i64 0]) rfl rfl (Ev.cons (c1 := [.int .i64 0]) rfl rfl (Ev.cons (c1 := [.int .i64 0]) rfl rfl (Ev.cons (c1 := [.int .i64 0]) rfl rfl (Ev.cons (c1 := [.int .i64 0]) rfl rfl (Ev.cons (c1 := [.int .i64 0]) rfl rfl (Ev.nil)))))))))))))
        refine WL.nil ?_
        refine W.seq ?_
        refine W.region ?_
        refine WL.vS hS hE (runs_plain rfl) (Gives.p hE rfl) rfl ?_; clear hE a; intro a hE
        refine WL.vS hS hE (runs_plain rfl) (Gives.p hE rfl) rfl ?_; clear hE a; intro a hE
        refine WL.nil ?_
        refine W.seq ?_
        refine W.seq ?_
        refine W.region ?_
        refine WL.vS hS hE (runs_plain rfl) (Gives.p hE rfl) rfl ?_; clear hE a; intro a hE
        refine WL.vS hS hE (runs_plain rfl) (Gives.len hE rfl sl69) rfl ?_; clear hE a; intro a hE
        refine WL.vS hS hE (runs_plain rfl) (Gives.p hE rfl) rfl ?_; clear hE a; intro a hE
        refine WL.nil ?_
        obtain ⟨q82, hq81, hq63⟩ := bindS hq63
        refine W.cut (fun a w => ∃ (q92 : List Int), ∃ (q99 : Int), ∃ (q100 : Bool), ∃ (q101 : List Int), ∃ (a93 : Option Addr), ∃ (c94 : Nat), ∃ (n96 : Nat), ∃ (cs97 : List Value), ∃ (cs105 : List Value), (q92, q99, q100, q101) = q82 ∧ Ev 1 (RI .i64) s67 cs97 q92 ∧ q92.length = n96 ∧ Ev 1 (RI .i64) s67 cs105 q101 ∧ q101.length = 12 ∧ Rep a 97 [(0, .slice a0 x0.length c0), (1, .int .i64 x1), (10, .int .i64 q69), (11, .slice a71 q70.length c72), (13, .slice a93 n96 c94), (15, .int .i64 q99), (16, .bool q100), (29, .int .i64 (IntKind.wrap .i64 (1 * (2 ^ (min (Int.toNat ((x0).length : Int)) (IntKind.bits .i64)))))), (30, .int .i64 q74)] ∧ St w s67 (vecC 98 1 (some ⟨b78, 0, none⟩) 12 12 cs105 :: vecC 3 1 a93 c94 n96 cs97 :: R)) ?_ ?_
        · refine W.block ?_
          refine W.loop (fun m a w => ∃ (rest85 : List FareOffer) (k83 : Nat), ∃ (q92 : List Int), ∃ (q99 : Int), ∃ (q100 : Bool), ∃ (q101 : List Int), ∃ (a93 : Option Addr), ∃ (c94 : Nat), ∃ (n96 : Nat), ∃ (cs97 : List Value), ∃ (cs105 : List Value), rest85.length = m ∧ x0.drop k83 = rest85 ∧ FarePick.loop3 x1 fu q74 rest85 k83 q92 q99 q100 q101 = some q82 ∧ Ev 1 (RI .i64) s67 cs97 q92 ∧ q92.length = n96 ∧ Ev 1 (RI .i64) s67 cs105 q101 ∧ q101.length = 12 ∧ Rep a 97 [(0, .slice a0 x0.length c0), (1, .int .i64 x1), (10, .int .i64 q69), (11, .slice a71 q70.length c72), (12, .int .i64 q74), (13, .slice a93 n96 c94), (14, .pointer (some ⟨b78, 0, none⟩)), (15, .int .i64 q99), (16, .bool q100), (29, .int .i64 (IntKind.wrap .i64 (1 * (2 ^ (min (Int.toNat ((x0).length : Int)) (IntKind.bits .i64)))))), (30, .int .i64 q74), (33, .slice a0 x0.length c0), (34, .int .i64 ((x0).length : Int)), (35, .int .i64 ((k83 : Nat) : Int))] ∧ St w s67 (vecC 98 1 (some ⟨b78, 0, none⟩) 12 12 cs105 :: vecC 3 1 a93 c94 n96 cs97 :: R)) (m := x0.length) ⟨x0, 0, [], 0, true, [0, 0, 0, 0, 0, 0, 0, 0, 0, 0, 0, 0], none, 0, 0, [], [.int .i64 0, .int .i64 0, .int .i64 0, .int .i64 0, .int .i64 0, .int .i64 0, .int .i64 0, .int .i64 0, .int .i64 0, .int .i64 0, .int .i64 0, .int .i64 0], rfl, rfl, hq81, (Ev.nil), (rfl), h79, (rfl), hE.pick _ ⟨rfl, rfl, rfl, rfl, rfl, rfl, rfl, rfl, rfl, rfl, rfl, rfl, rfl, rfl, trivial⟩, hS⟩ ?_
          clear hE hS a w hq81; rintro m89 a w ⟨rest85, k83, q92, q99, q100, q101, a93, c94, n96, cs97, cs105, rfl, hd86, hq81, h95, rfl, h104, hn106, hE, hS⟩
          refine W.gen fun K107 hK107 => ?_
          rcases rest85 with _ | ⟨x84, rest85⟩
          · have hlt87 := drop_nil hd86
            refine W.seq ?_
            refine W.region ?_
            refine WL.vS hS hE (runs_plain rfl) (Gives.p hE rfl) rfl ?_; clear hE a; intro a hE
            refine WL.nil ?_
            refine W.seq ?_
            refine W.condF hE rfl (decide_eq_false (by omega)) ?_
            subst hK107
            refine W.exit rfl ?_
            exact ⟨q92, q99, q100, q101, a93, c94, q92.length, cs97, cs105, Option.some.inj hq81, h95, rfl, h104, hn106, hE.pick _ ⟨rfl, rfl, rfl, rfl, rfl, rfl, rfl, rfl, rfl, trivial⟩, hS⟩
          · obtain ⟨hlt87, hx88, hd86⟩ := drop_cons hd86
            rw [FarePick.loop3] at hq81
            refine W.seq ?_
            refine W.region ?_
            refine WL.vS hS hE (runs_plain rfl) (Gives.p hE rfl) rfl ?_; clear hE a; intro a hE
            refine WL.nil ?_
            refine W.seq ?_
            refine W.condT hE rfl (decide_eq_true (by omega)) ?_
            refine W.skip ?_
            refine W.seq ?_
            refine W.block ?_
            refine W.seq ?_
            refine W.region ?_
            refine WL.vS hS hE (runs_plain rfl) (Gives.p hE rfl) rfl ?_; clear hE a; intro a hE
            obtain ⟨cs108, hl109, hR110, hat111⟩ := h0.at hx88
            subst hR110
            refine WL.vS hS hE (runs_plain rfl) (Gives.idx hE k83 rfl rfl sl69 rfl hlt87 (h0.aok hlt87)) rfl ?_; clear hE a; intro a hE
            refine WL.vS hS hE (runs_plain rfl) (Gives.loadA hE rfl (fun w h => hat111 w _ h) ty100) rfl ?_; clear hE a; intro a hE
            refine WL.alloc hE hS (runs_plain rfl) zr100 rfl ?_; clear hE hS a w; intro b112 a w hE hS
            refine WL.vS hS hE (runs_plain rfl) (Gives.p hE rfl) rfl ?_; clear hE a; intro a hE
            refine WL.storeI hE hS 0 rfl (FareOffer.cells x84) (runs_plain rfl) rfl rfl rfl ty100 rfl rfl rfl rfl ?_; clear hE hS a w; intro a w hE hS
            refine WL.nil ?_
            refine W.seq ?_
            refine W.seq ?_
            refine W.region ?_
            refine WL.vS hS hE (runs_plain rfl) (Gives.p hE rfl) rfl ?_; clear hE a; intro a hE
            refine WL.vS hS hE (runs_plain rfl) (Gives.p hE rfl) rfl ?_; clear hE a; intro a hE
            refine WL.vS hS hE (runs_plain rfl) (Gives.shr hE rfl rfl (by omega)) rfl ?_; clear hE a; intro a hE
            refine WL.vS hS hE (runs_plain rfl) (Gives.p hE rfl) rfl ?_; clear hE a; intro a hE
            refine WL.vS hS hE (runs_plain rfl) (Gives.p hE rfl) rfl ?_; clear hE a; intro a hE
            refine WL.nil ?_
            refine W.cond hE rfl (fun hc113 => ?_) (fun hc113 => ?_)
            · replace hq81 := iteT hc113 hq81
              refine W.exit rfl ?_
              refine W.region ?_
              refine WL.vS hS hE (runs_plain rfl) (Gives.inc hE rfl (by have := h0.small; omega)) rfl ?_; clear hE a; intro a hE
              refine WL.vS hS hE (runs_plain rfl) (Gives.p hE rfl) rfl ?_; clear hE a; intro a hE
              refine WL.nil ?_
              replace hS := hS.tail
              subst hK107
              exact ⟨rest85.length, Nat.lt_succ_self _, rest85, k83 + 1, q92, q99, q100, q101, a93, c94, q92.length, cs97, cs105, rfl, hd86, hq81, h95, rfl, h104, hn106, hE.pick _ ⟨rfl, rfl, rfl, rfl, rfl, rfl, rfl, rfl, rfl, rfl, rfl, rfl, rfl, rfl, trivial⟩, hS⟩
            · replace hq81 := iteF hc113 hq81
              refine W.skip ?_
              refine W.seq ?_
              refine W.region ?_
              refine WL.vS hS hE (runs_plain rfl) (Gives.p hE rfl) rfl ?_; clear hE a; intro a hE
              refine WL.vS hS hE (runs_plain rfl) (Gives.p hE rfl) rfl ?_; clear hE a; intro a hE
              refine WL.lit hE hS (e := 3) (es := 1) (vs := [(0, .int .i64 ((k83 : Nat) : Int))]) (cs := [.int .i64 ((k83 : Nat) : Int)]) (runs_plain rfl) rfl (by kernel_rfl) rfl ?_; clear hE hS a w; intro b114 a w hE hS
              obtain ⟨x115, hx116, hq81⟩ := bindS hq81
              refine WL.appD hE hS 2 (m := 1) (runs_plain rfl) rfl rfl rfl ap26 rfl h95 rfl (xs := [((k83 : Nat) : Int)]) (Ev.cons (c1 := [.int .i64 ((k83 : Nat) : Int)]) rfl rfl (Ev.nil)) rfl rfl hx116 rfl ?_; clear hE hS a w; intro a117 c118 cs119 a w h120 hE hS
              refine WL.vS hS hE (runs_plain rfl) (Gives.p hE rfl) rfl ?_; clear hE a; intro a hE
              refine WL.nil ?_
              refine W.seq ?_
              refine W.region ?_
              refine WL.vS hS hE (runs_plain rfl) (Gives.p hE rfl) rfl ?_; clear hE a; intro a hE
              refine WL.vS hS hE (runs_plain rfl) (Gives.fld hE rfl fl100_2) rfl ?_; clear hE a; intro a hE
              refine WL.vS hS hE (runs_plain rfl) (Gives.loadB hE 0 rfl rfl rfl ty3) rfl ?_; clear hE a; intro a hE
              refine WL.vS hS hE (runs_plain rfl) (Gives.p hE rfl) rfl ?_; clear hE a; intro a hE
              refine WL.vS hS hE (runs_plain rfl) (Gives.p hE rfl) rfl ?_; clear hE a; intro a hE
              refine WL.nil ?_
              refine W.seq ?_
              refine W.region ?_
              refine WL.vS hS hE (runs_plain rfl) (Gives.fld hE rfl fl100_0) rfl ?_; clear hE a; intro a hE
              refine WL.vS hS hE (runs_plain rfl) (Gives.loadB hE 0 rfl rfl rfl ty3) rfl ?_; clear hE a; intro a hE
              refine WL.vS hS hE (runs_plain rfl) (Gives.p hE rfl) rfl ?_; clear hE a; intro a hE
              refine WL.nil ?_
              obtain ⟨q122, hq121, hq81⟩ := bindS hq81
              refine W.cut (fun a w => ∃ (q127 : Bool), ∃ (q128 : Int), ∃ (q129 : List Int), ∃ (cs133 : List Value), (q127, q128, q129) = q122 ∧ Ev 1 (RI .i64) s67 cs133 q129 ∧ q129.length = 12 ∧ Rep a 97 [(0, .slice a0 x0.length c0), (1, .int .i64 x1), (10, .int .i64 q69), (11, .slice a71 q70.length c72), (12, .int .i64 q74), (13, .slice a117 x115.length c118), (14, .pointer (some ⟨b78, 0, none⟩)), (15, .int .i64 (w64 (q99 + x84.Value))), (16, .bool q127), (29, .int .i64 (IntKind.wrap .i64 (1 * (2 ^ (min (Int.toNat ((x0).length : Int)) (IntKind.bits .i64)))))), (30, .int .i64 q74), (33, .slice a0 x0.length c0), (34, .int .i64 ((x0).length : Int)), (35, .int .i64 ((k83 : Nat) : Int))] ∧ St w s67 (pt b112 (.cells (FareOffer.cells x84).toArray 100 (0, 0)) :: vecC 98 1 (some ⟨b78, 0, none⟩) 12 12 cs133 :: vecC 3 1 a117 c118 x115.length cs119 :: R)) ?_ ?_
              · refine W.block ?_
                refine W.loop (fun m a w => ∃ (n123 : Nat), ∃ (q127 : Bool), ∃ (q128 : Int), ∃ (q129 : List Int), ∃ (cs133 : List Value), n123 = m ∧ FarePick.loop4 x1 x84 n123 q127 q128 q129 = some q122 ∧ Ev 1 (RI .i64) s67 cs133 q129 ∧ q129.length = 12 ∧ Rep a 97 [(0, .slice a0 x0.length c0), (1, .int .i64 x1), (10, .int .i64 q69), (11, .slice a71 q70.length c72), (12, .int .i64 q74), (13, .slice a117 x115.length c118), (14, .pointer (some ⟨b78, 0, none⟩)), (15, .int .i64 (w64 (q99 + x84.Value))), (16, .bool q127), (18, .pointer (some ⟨b112, 0, none⟩)), (19, .int .i64 q128), (29, .int .i64 (IntKind.wrap .i64 (1 * (2 ^ (min (Int.toNat ((x0).length : Int)) (IntKind.bits .i64)))))), (30, .int .i64 q74), (33, .slice a0 x0.length c0), (34, .int .i64 ((x0).length : Int)), (35, .int .i64 ((k83 : Nat) : Int))] ∧ St w s67 (pt b112 (.cells (FareOffer.cells x84).toArray 100 (0, 0)) :: vecC 98 1 (some ⟨b78, 0, none⟩) 12 12 cs133 :: vecC 3 1 a117 c118 x115.length cs119 :: R)) (m := fu) ⟨fu, q100, x84.From, q101, cs105, rfl, hq121, h104, hn106, hE.pick _ ⟨rfl, rfl, rfl, rfl, rfl, rfl, rfl, rfl, rfl, rfl, rfl, rfl, rfl, rfl, rfl, rfl, trivial⟩, hS⟩ ?_
                clear hE hS a w hq121; rintro m124 a w ⟨n123, q127, q128, q129, cs133, rfl, hq121, h132, hn134, hE, hS⟩
                refine W.gen fun K135 hK135 => ?_
                rcases n123 with _ | n123
                · rw [FarePick.loop4] at hq121; exact absurd hq121 (by simp)
                rw [FarePick.loop4] at hq121
                refine W.seq ?_
                refine W.seq ?_
                refine W.region ?_
                refine WL.vS hS hE (runs_plain rfl) (Gives.p hE rfl) rfl ?_; clear hE a; intro a hE
                refine WL.vS hS hE (runs_plain rfl) (Gives.fld hE rfl fl100_1) rfl ?_; clear hE a; intro a hE
                refine WL.vS hS hE (runs_plain rfl) (Gives.loadB hE 0 rfl rfl rfl ty3) rfl ?_; clear hE a; intro a hE
                refine WL.vS hS hE (runs_plain rfl) (Gives.p hE rfl) rfl ?_; clear hE a; intro a hE
                refine WL.nil ?_
                refine W.cond hE rfl (fun hc136 => ?_) (fun hc136 => ?_)
                · replace hq121 := iteT hc136 hq121
                  refine W.skip ?_
                  refine W.seq ?_
                  refine W.block ?_
                  refine W.seq ?_
                  refine W.region ?_
                  refine WL.vS hS hE (runs_plain rfl) (Gives.p hE rfl) rfl ?_; clear hE a; intro a hE
                  obtain ⟨x137, hx138, hq121⟩ := bindS hq121
                  obtain ⟨hi139, hlt140, hy141⟩ := gx_some hx138
                  obtain ⟨vs142, hl143, hR144, hd145, hget146⟩ := h132.at hy141
                  subst hR144
                  refine WL.vS hS hE (runs_plain rfl) (Gives.idxA hE ((q128).toNat) rfl rfl ar98 hi139 (by have := hn134; omega) (hS.vecAok 1 rfl (by have := hn134; omega : (q128).toNat < 12))) rfl ?_; clear hE a; intro a hE
                  refine WL.vS hS hE (runs_plain rfl) (Gives.load1 hE rfl (fun w h => St.vecSees h 1 rfl ((q128).toNat * 1) _ hget146) ty3) rfl ?_; clear hE a; intro a hE
                  refine WL.vS hS hE (runs_plain rfl) (Gives.p hE rfl) rfl ?_; clear hE a; intro a hE
                  obtain ⟨_, hx148, hq121⟩ := bindS hq121
                  obtain ⟨h149, h150⟩ := ix_some hx148
                  refine WL.vS hS hE (runs_plain rfl) (Gives.idxA hE ((q128).toNat) rfl rfl ar98 h149 (by have := hn134; omega) (hS.vecAok 1 rfl (by have := hn134; omega : (q128).toNat < 12))) rfl ?_; clear hE a; intro a hE
                  obtain ⟨x152, hx153, hq121⟩ := bindS hq121
                  refine WL.setD hE hS 1 rfl (runs_plain rfl) rfl rfl (vs := [.int .i64 (w64 (x137 + 1))]) rfl ty3 rfl rfl rfl h132 hn134 (sx_some hx153).1 hx153 rfl rfl ?_; clear hE hS a w; intro cs154 a w h155 hn156 hE hS
                  refine WL.nil ?_
                  obtain ⟨q158, hq157, hq121⟩ := bindS hq121
                  refine W.cut (fun a w => ∃ (q161 : Bool), q161 = q158 ∧ Rep a 97 [(0, .slice a0 x0.length c0), (1, .int .i64 x1), (10, .int .i64 q69), (11, .slice a71 q70.length c72), (12, .int .i64 q74), (13, .slice a117 x115.length c118), (14, .pointer (some ⟨b78, 0, none⟩)), (15, .int .i64 (w64 (q99 + x84.Value))), (16, .bool q161), (18, .pointer (some ⟨b112, 0, none⟩)), (19, .int .i64 q128), (29, .int .i64 (IntKind.wrap .i64 (1 * (2 ^ (min (Int.toNat ((x0).length : Int)) (IntKind.bits .i64)))))), (30, .int .i64 q74), (33, .slice a0 x0.length c0), (34, .int .i64 ((x0).length : Int)), (35, .int .i64 ((k83 : Nat) : Int))] ∧ St w s67 (pt b112 (.cells (FareOffer.cells x84).toArray 100 (0, 0)) :: vecC 98 1 (some ⟨b78, 0, none⟩) 12 12 cs154 :: vecC 3 1 a117 c118 x115.length cs119 :: R)) ?_ ?_
                  · refine W.gen fun K162 hK162 => ?_
                    refine W.region ?_
                    refine WL.vS hS hE (runs_plain rfl) (Gives.p hE rfl) rfl ?_; clear hE a; intro a hE
                    refine WL.vS hS hE (runs_plain rfl) (Gives.p hE rfl) rfl ?_; clear hE a; intro a hE
                    rcases Bool.eq_false_or_eq_true q127 with hg163 | hg163
                    · replace hq157 := iteT hg163 hq157
                      refine WL.vS hS hE (runs_if hE rfl rfl rfl hg163) (Gives.p hE rfl) rfl ?_; clear hE a; intro a hE
                      obtain ⟨x164, hx165, hq157⟩ := bindS hq157
                      obtain ⟨hi166, hlt167, hy168⟩ := gx_some hx165
                      obtain ⟨vs169, hl170, hR171, hd172, hget173⟩ := h155.at hy168
                      subst hR171
                      refine WL.vS hS hE (runs_if hE rfl rfl rfl hg163) (Gives.idxA hE ((q128).toNat) rfl rfl ar98 hi166 (by have := hn156; omega) (hS.vecAok 1 rfl (by have := hn156; omega : (q128).toNat < 12))) rfl ?_; clear hE a; intro a hE
                      refine WL.vS hS hE (runs_if hE rfl rfl rfl hg163) (Gives.load1 hE rfl (fun w h => St.vecSees h 1 rfl ((q128).toNat * 1) _ hget173) ty3) rfl ?_; clear hE a; intro a hE
                      refine WL.vS hS hE (runs_if hE rfl rfl rfl hg163) (Gives.p hE rfl) rfl ?_; clear hE a; intro a hE
                      refine WL.vS hS hE (runs_if hE rfl rfl rfl hg163) (Gives.p hE rfl) rfl ?_; clear hE a; intro a hE
                      refine WL.vS hS hE (runs_plain rfl) (Gives.pickT hE rfl hg163 rfl) rfl ?_; clear hE a; intro a hE
                      refine WL.vS hS hE (runs_plain rfl) (Gives.p hE rfl) rfl ?_; clear hE a; intro a hE
                      refine WL.nil ?_
                      subst hK162
                      exact ⟨decide (x164 ≤ x1), Option.some.inj hq157, hE.pick _ ⟨rfl, rfl, rfl, rfl, rfl, rfl, rfl, rfl, rfl, rfl, rfl, rfl, rfl, rfl, rfl, rfl, trivial⟩, hS⟩
                    · replace hq157 := iteF hg163 hq157
                      refine WL.no hE (runs_not hE rfl rfl rfl (by rw [hg163]; decide)) rfl ?_; clear hE a; intro a hE
                      refine WL.no hE (runs_not hE rfl rfl rfl (by rw [hg163]; decide)) rfl ?_; clear hE a; intro a hE
                      refine WL.no hE (runs_not hE rfl rfl rfl (by rw [hg163]; decide)) rfl ?_; clear hE a; intro a hE
                      refine WL.no hE (runs_not hE rfl rfl rfl (by rw [hg163]; decide)) rfl ?_; clear hE a; intro a hE
                      refine WL.no hE (runs_not hE rfl rfl rfl (by rw [hg163]; decide)) rfl ?_; clear hE a; intro a hE
                      refine WL.vS hS hE (runs_plain rfl) (Gives.pickF hE rfl hg163 rfl) rfl ?_; clear hE a; intro a hE
                      refine WL.vS hS hE (runs_plain rfl) (Gives.p hE rfl) rfl ?_; clear hE a; intro a hE
                      refine WL.nil ?_
                      subst hK162
                      exact ⟨false, Option.some.inj hq157, hE.pick _ ⟨rfl, rfl, rfl, rfl, rfl, rfl, rfl, rfl, rfl, rfl, rfl, rfl, rfl, rfl, rfl, rfl, trivial⟩, hS⟩
                  · clear hE hS a w; rintro a w ⟨q161, rfl, hE, hS⟩
                    refine W.region ?_
                    refine WL.vS hS hE (runs_plain rfl) (Gives.p hE rfl) rfl ?_; clear hE a; intro a hE
                    refine WL.vS hS hE (runs_plain rfl) (Gives.p hE rfl) rfl ?_; clear hE a; intro a hE
                    refine WL.vS hS hE (runs_plain rfl) (Gives.p hE rfl) rfl ?_; clear hE a; intro a hE
                    refine WL.nil ?_
                    subst hK135
                    exact ⟨n123, Nat.lt_succ_self _, n123, q161, (w64 (q128 + 1)), x152, cs154, rfl, hq121, h155, hn156, hE.pick _ ⟨rfl, rfl, rfl, rfl, rfl, rfl, rfl, rfl, rfl, rfl, rfl, rfl, rfl, rfl, rfl, rfl, trivial⟩, hS⟩
                · replace hq121 := iteF hc136 hq121
                  subst hK135
                  refine W.exit rfl ?_
                  exact ⟨q127, q128, q129, cs133, Option.some.inj hq121, h132, hn134, hE.pick _ ⟨rfl, rfl, rfl, rfl, rfl, rfl, rfl, rfl, rfl, rfl, rfl, rfl, rfl, rfl, trivial⟩, hS⟩
              · clear hE hS a w; rintro a w ⟨q127, q128, q129, cs133, rfl, h132, hn134, hE, hS⟩
                dsimp only at hq81
                refine W.region ?_
                refine WL.vS hS hE (runs_plain rfl) (Gives.inc hE rfl (by have := h0.small; omega)) rfl ?_; clear hE a; intro a hE
                refine WL.vS hS hE (runs_plain rfl) (Gives.p hE rfl) rfl ?_; clear hE a; intro a hE
                refine WL.nil ?_
                replace hS := hS.tail
                subst hK107
                exact ⟨rest85.length, Nat.lt_succ_self _, rest85, k83 + 1, x115, (w64 (q99 + x84.Value)), q127, q129, a117, c118, x115.length, cs119, cs133, rfl, hd86, hq81, h120, (rfl), h132, hn134, hE.pick _ ⟨rfl, rfl, rfl, rfl, rfl, rfl, rfl, rfl, rfl, rfl, rfl, rfl, rfl, rfl, trivial⟩, hS⟩
        · clear hE hS a w; rintro a w ⟨q92, q99, q100, q101, a93, c94, n96, cs97, cs105, rfl, h95, rfl, h104, hn106, hE, hS⟩
          dsimp only at hq63
          refine W.seq ?_
          obtain ⟨q175, hq174, hq63⟩ := bindS hq63
          refine W.cut (fun a w => ∃ (q178 : Bool), q178 = q175 ∧ Rep a 97 [(0, .slice a0 x0.length c0), (1, .int .i64 x1), (10, .int .i64 q69), (11, .slice a71 q70.length c72), (13, .slice a93 q92.length c94), (15, .int .i64 q99), (29, .int .i64 (IntKind.wrap .i64 (1 * (2 ^ (min (Int.toNat ((x0).length : Int)) (IntKind.bits .i64)))))), (30, .int .i64 q74), (91, .bool q178)] ∧ St w s67 (vecC 3 1 a93 c94 q92.length cs97 :: R)) ?_ ?_
          · refine W.gen fun K179 hK179 => ?_
            refine W.region ?_
            refine WL.vS hS hE (runs_plain rfl) (Gives.p hE rfl) rfl ?_; clear hE a; intro a hE
            refine WL.vS hS hE (runs_plain rfl) (Gives.p hE rfl) rfl ?_; clear hE a; intro a hE
            rcases Bool.eq_false_or_eq_true q100 with hg180 | hg180
            · replace hq174 := iteT hg180 hq174
              refine WL.vS hS hE (runs_if hE rfl rfl rfl hg180) (Gives.p hE rfl) rfl ?_; clear hE a; intro a hE
              refine WL.vS hS hE (runs_if hE rfl rfl rfl hg180) (Gives.p hE rfl) rfl ?_; clear hE a; intro a hE
              refine WL.vS hS hE (runs_if hE rfl rfl rfl hg180) (Gives.p hE rfl) rfl ?_; clear hE a; intro a hE
              refine WL.vS hS hE (runs_if hE rfl rfl rfl hg180) (Gives.p hE rfl) rfl ?_; clear hE a; intro a hE
              rcases Bool.eq_false_or_eq_true (decide (q99 > q69)) with hg181 | hg181
              · replace hq174 := iteT hg181 hq174
                refine WL.no hE (runs_not hE rfl rfl rfl (by rw [hg181]; decide)) rfl ?_; clear hE a; intro a hE
                refine WL.no hE (runs_not hE rfl rfl rfl (by rw [hg181]; decide)) rfl ?_; clear hE a; intro a hE
                refine WL.no hE (runs_not hE rfl rfl rfl (by rw [hg181]; decide)) rfl ?_; clear hE a; intro a hE
                refine WL.no hE (runs_not hE rfl rfl rfl (by rw [hg181]; decide)) rfl ?_; clear hE a; intro a hE
                refine WL.no hE (runs_undef hE rfl rfl rfl) rfl ?_; clear hE a; intro a hE
                refine WL.no hE (runs_undef hE rfl rfl rfl) rfl ?_; clear hE a; intro a hE
                refine WL.no hE (runs_undef hE rfl rfl rfl) rfl ?_; clear hE a; intro a hE
                refine WL.no hE (runs_undef hE rfl rfl rfl) rfl ?_; clear hE a; intro a hE
                refine WL.no hE (runs_not hE rfl rfl rfl (by rw [hg181]; decide)) rfl ?_; clear hE a; intro a hE
                refine WL.vS hS hE (runs_if hE rfl rfl rfl hg180) (Gives.pickT hE rfl hg181 rfl) rfl ?_; clear hE a; intro a hE
                refine WL.vS hS hE (runs_plain rfl) (Gives.pickT hE rfl hg180 rfl) rfl ?_; clear hE a; intro a hE
                refine WL.nil ?_
                replace hS := hS.tail
                subst hK179
                exact ⟨true, Option.some.inj hq174, hE.pick _ ⟨rfl, rfl, rfl, rfl, rfl, rfl, rfl, rfl, rfl, trivial⟩, hS⟩
              · replace hq174 := iteF hg181 hq174
                refine WL.vS hS hE (runs_if hE rfl rfl rfl hg181) (Gives.p hE rfl) rfl ?_; clear hE a; intro a hE
                refine WL.vS hS hE (runs_if hE rfl rfl rfl hg181) (Gives.p hE rfl) rfl ?_; clear hE a; intro a hE
                refine WL.vS hS hE (runs_if hE rfl rfl rfl hg181) (Gives.p hE rfl) rfl ?_; clear hE a; intro a hE
                refine WL.vS hS hE (runs_if hE rfl rfl rfl hg181) (Gives.p hE rfl) rfl ?_; clear hE a; intro a hE
                rcases Bool.eq_false_or_eq_true (q99 == q69) with hg182 | hg182
                · replace hq174 := iteT hg182 hq174
                  refine WL.vS hS hE (runs_if hE rfl rfl rfl hg182) (Gives.p hE rfl) rfl ?_; clear hE a; intro a hE
                  refine WL.vS hS hE (runs_if hE rfl rfl rfl hg182) (Gives.p hE rfl) rfl ?_; clear hE a; intro a hE
                  obtain ⟨q183, hq184, hq174⟩ := bindS hq174
                  have hF := hS.lendV RI.mono 1 rfl h95 rfl; clear hS; obtain ⟨t185, hle186, hS, hs187, bk188⟩ := hF
                  have hc_ := SlicesCompareLint_ok hS hs187 (Sl.mono RI.mono hle186 h73) hq184
                  refine WL.fnq hE (hc_) (runs_if hE rfl rfl rfl hg182) bd61 rfl rfl rfl ?_
                  clear hE hS hc_; rintro e w ⟨rfl, hS⟩; refine ⟨_, rfl, ?_⟩; clear a; intro a hE
                  replace hS := bk188 _ _ hS
                  refine WL.vS hS hE (runs_if hE rfl rfl rfl hg182) (Gives.p hE rfl) rfl ?_; clear hE a; intro a hE
                  refine WL.vS hS hE (runs_if hE rfl rfl rfl hg181) (Gives.pickT hE rfl hg182 rfl) rfl ?_; clear hE a; intro a hE
                  refine WL.vS hS hE (runs_if hE rfl rfl rfl hg180) (Gives.pickF hE rfl hg181 rfl) rfl ?_; clear hE a; intro a hE
                  refine WL.vS hS hE (runs_plain rfl) (Gives.pickT hE rfl hg180 rfl) rfl ?_; clear hE a; intro a hE
                  refine WL.nil ?_
                  replace hS := hS.dropAt 1
                  subst hK179
                  exact ⟨decide (q183 < 0), Option.some.inj hq174, hE.pick _ ⟨rfl, rfl, rfl, rfl, rfl, rfl, rfl, rfl, rfl, trivial⟩, hS⟩
                · replace hq174 := iteF hg182 hq174
                  refine WL.no hE (runs_not hE rfl rfl rfl (by rw [hg182]; decide)) rfl ?_; clear hE a; intro a hE
                  refine WL.no hE (runs_not hE rfl rfl rfl (by rw [hg182]; decide)) rfl ?_; clear hE a; intro a hE
                  refine WL.no hE (runs_not hE rfl rfl rfl (by rw [hg182]; decide)) rfl ?_; clear hE a; intro a hE
                  refine WL.no hE (runs_not hE rfl rfl rfl (by rw [hg182]; decide)) rfl ?_; clear hE a; intro a hE
                  refine WL.vS hS hE (runs_if hE rfl rfl rfl hg181) (Gives.pickF hE rfl hg182 rfl) rfl ?_; clear hE a; intro a hE
                  refine WL.vS hS hE (runs_if hE rfl rfl rfl hg180) (Gives.pickF hE rfl hg181 rfl) rfl ?_; clear hE a; intro a hE
                  refine WL.vS hS hE (runs_plain rfl) (Gives.pickT hE rfl hg180 rfl) rfl ?_; clear hE a; intro a hE
                  refine WL.nil ?_
                  replace hS := hS.tail
                  subst hK179
                  exact ⟨false, Option.some.inj hq174, hE.pick _ ⟨rfl, rfl, rfl, rfl, rfl, rfl, rfl, rfl, rfl, trivial⟩, hS⟩
            · replace hq174 := iteF hg180 hq174
              refine WL.no hE (runs_not hE rfl rfl rfl (by rw [hg180]; decide)) rfl ?_; clear hE a; intro a hE
              refine WL.no hE (runs_not hE rfl rfl rfl (by rw [hg180]; decide)) rfl ?_; clear hE a; intro a hE
              refine WL.no hE (runs_not hE rfl rfl rfl (by rw [hg180]; decide)) rfl ?_; clear hE a; intro a hE
              refine WL.no hE (runs_not hE rfl rfl rfl (by rw [hg180]; decide)) rfl ?_; clear hE a; intro a hE
              refine WL.no hE (runs_undef hE rfl rfl rfl) rfl ?_; clear hE a; intro a hE
              refine WL.no hE (runs_undef hE rfl rfl rfl) rfl ?_; clear hE a; intro a hE
              refine WL.no hE (runs_undef hE rfl rfl rfl) rfl ?_; clear hE a; intro a hE
              refine WL.no hE (runs_undef hE rfl rfl rfl) rfl ?_; clear hE a; intro a hE
              refine WL.no hE (runs_undef hE rfl rfl rfl) rfl ?_; clear hE a; intro a hE
              refine WL.no hE (runs_undef hE rfl rfl rfl) rfl ?_; clear hE a; intro a hE
              refine WL.no hE (runs_undef hE rfl rfl rfl) rfl ?_; clear hE a; intro a hE
              refine WL.no hE (runs_undef hE rfl rfl rfl) rfl ?_; clear hE a; intro a hE
              refine WL.no hE (runs_undef hE rfl rfl rfl) rfl ?_; clear hE a; intro a hE
              refine WL.no hE (runs_not hE rfl rfl rfl (by rw [hg180]; decide)) rfl ?_; clear hE a; intro a hE
              refine WL.vS hS hE (runs_plain rfl) (Gives.pickF hE rfl hg180 rfl) rfl ?_; clear hE a; intro a hE
              refine WL.nil ?_
              replace hS := hS.tail
              subst hK179
              exact ⟨false, Option.some.inj hq174, hE.pick _ ⟨rfl, rfl, rfl, rfl, rfl, rfl, rfl, rfl, rfl, trivial⟩, hS⟩
          · clear hE hS a w; rintro a w ⟨q178, rfl, hE, hS⟩
            obtain ⟨q190, hq189, hq63⟩ := bndS hq63
            refine W.cut (fun a w => ∃ (q193 : Int), ∃ (q194 : List Int), ∃ (a195 : Option Addr), ∃ (c196 : Nat), ∃ (s191 : Sg), s67.Le s191 ∧ (q193, q194) = q190 ∧ Sl 1 (RI .i64) s191 a195 c196 q194 ∧ Rep a 97 [(0, .slice a0 x0.length c0), (1, .int .i64 x1), (10, .int .i64 q193), (11, .slice a195 q194.length c196), (29, .int .i64 (IntKind.wrap .i64 (1 * (2 ^ (min (Int.toNat ((x0).length : Int)) (IntKind.bits .i64)))))), (30, .int .i64 q74)] ∧ St w s191 (R)) ?_ ?_
            · refine W.gen fun K198 hK198 => ?_
              refine W.cond hE rfl (fun hc199 => ?_) (fun hc199 => ?_)
              · replace hq189 := iteT hc199 hq189
                refine W.region ?_
                refine WL.vS hS hE (runs_plain rfl) (Gives.p hE rfl) rfl ?_; clear hE a; intro a hE
                refine WL.vS hS hE (runs_plain rfl) (Gives.p hE rfl) rfl ?_; clear hE a; intro a hE
                refine WL.vS hS hE (runs_plain rfl) (Gives.p hE rfl) rfl ?_; clear hE a; intro a hE
                refine WL.vS hS hE (runs_plain rfl) (Gives.p hE rfl) rfl ?_; clear hE a; intro a hE
                refine WL.nil ?_
                have hF := hS.fixD RI.mono 0 rfl h95 rfl; clear hS; obtain ⟨s200, hle201, hS, h202⟩ := hF
                replace h0 := Sl.mono RFareOffer.mono hle201 h0
                subst hK198
                exact ⟨q99, q92, a93, c94, s200, hle201, hq189, h202, hE.pick _ ⟨rfl, rfl, rfl, rfl, rfl, rfl, trivial⟩, hS⟩
              · replace hq189 := iteF hc199 hq189
                refine W.skip ?_
                replace hS := hS.tail
                subst hK198
                exact ⟨q69, q70, a71, c72, s67, (Sg.Le.refl _), hq189, h73, hE.pick _ ⟨rfl, rfl, rfl, rfl, rfl, rfl, trivial⟩, hS⟩
            · clear hE hS a w; rintro a w ⟨q193, q194, a195, c196, s191, hle192, rfl, h197, hE, hS⟩
              dsimp only at hq63
              replace h0 := Sl.mono RFareOffer.mono hle192 h0
              replace h73 := Sl.mono RI.mono hle192 h73
              refine W.region ?_
              refine WL.vS hS hE (runs_plain rfl) (Gives.p hE rfl) rfl ?_; clear hE a; intro a hE
              refine WL.vS hS hE (runs_plain rfl) (Gives.p hE rfl) rfl ?_; clear hE a; intro a hE
              refine WL.nil ?_
              subst hK75
              exact ⟨n65, Nat.lt_succ_self _, n65, q193, q194, (w64 (q74 + 1)), a195, c196, s191, rfl, (Sg.Le.trans hle68 hle192), hq63, h197, hE.pick _ ⟨rfl, rfl, rfl, rfl, rfl, rfl, trivial⟩, hS⟩
      · replace hq63 := iteF hc76 hq63
        subst hK75
        refine W.exit rfl ?_
        exact ⟨q69, q70, q74, a71, c72, s67, hle68, Option.some.inj hq63, h73, hE.pick _ ⟨rfl, rfl, trivial⟩, hS⟩
    · clear hE hS a w; rintro a w ⟨q69, q70, q74, a71, c72, s67, hle68, rfl, h73, hE, hS⟩
      dsimp only at hr
      replace h0 := Sl.mono RFareOffer.mono hle68 h0
      refine W.seq ?_
      refine W.region ?_
      refine WL.vS hS hE (runs_plain rfl) (Gives.p hE rfl) rfl ?_; clear hE a; intro a hE
      refine WL.vS hS hE (runs_plain rfl) (Gives.p hE rfl) rfl ?_; clear hE a; intro a hE
      refine WL.vS hS hE (runs_plain rfl) (Gives.p hE rfl) rfl ?_; clear hE a; intro a hE
      refine WL.vS hS hE (runs_plain rfl) (Gives.p hE rfl) rfl ?_; clear hE a; intro a hE
      refine WL.vS hS hE (runs_plain rfl) (Gives.p hE rfl) rfl ?_; clear hE a; intro a hE
      refine WL.nil ?_
      refine W.ret ?_
      refine finG (fn := Try.f36) (rs := [.tmp 6, .tmp 7, .tmp 8]) (vs := [_, _, _]) hE rfl ⟨rfl, rfl, rfl, trivial⟩ ?_
      obtain rfl := Option.some.inj hr
      exact ⟨a71, c72, s67, rfl, hle68, h73, hS⟩
set_option maxHeartbeats 8000000 in
theorem Fishref2within_ok  {w : World} {s : Sg} {R : List HP} {x0 : Int} {x1 : Int} {x2 : Int} (hS : St w s (R))  {r : Bool} (hr : Fishref2within x0 x1 x2 = r) :
    Calls Try.prog 41 [.int .i64 x0, .int .i64 x1, .int .i64 x2].toArray w (fun e w => e = .returned (.bool r) ∧ St w s (R)) := by
  refine enter Try.func41 rfl rfl rfl fun a hE => ?_
  rw [Fishref2within] at hr
  refine W.seq ?_
  refine W.region ?_
  refine WL.vS hS hE (runs_plain rfl) (Gives.p hE rfl) rfl ?_; clear hE a; intro a hE
  refine WL.nil ?_
  refine W.seq ?_
  obtain ⟨q52, hq51, hr⟩ := bndS hr
  refine W.cut (fun a w => ∃ (q55 : Bool), q55 = q52 ∧ Rep a 15 [(6, .bool q55)] ∧ St w s (R)) ?_ ?_
  · refine W.gen fun K56 hK56 => ?_
    refine W.region ?_
    refine WL.vS hS hE (runs_plain rfl) (Gives.p hE rfl) rfl ?_; clear hE a; intro a hE
    refine WL.vS hS hE (runs_plain rfl) (Gives.p hE rfl) rfl ?_; clear hE a; intro a hE
    refine WL.vS hS hE (runs_plain rfl) (Gives.p hE rfl) rfl ?_; clear hE a; intro a hE
    refine WL.vS hS hE (runs_plain rfl) (Gives.p hE rfl) rfl ?_; clear hE a; intro a hE
    rcases Bool.eq_false_or_eq_true (decide (x0 ≥ x1)) with hg57 | hg57
    · replace hq51 := iteT hg57 hq51
      refine WL.vS hS hE (runs_if hE rfl rfl rfl hg57) (Gives.p hE rfl) rfl ?_; clear hE a; intro a hE
      refine WL.vS hS hE (runs_if hE rfl rfl rfl hg57) (Gives.p hE rfl) rfl ?_; clear hE a; intro a hE
      refine WL.vS hS hE (runs_if hE rfl rfl rfl hg57) (Gives.p hE rfl) rfl ?_; clear hE a; intro a hE
      refine WL.vS hS hE (runs_plain rfl) (Gives.pickT hE rfl hg57 rfl) rfl ?_; clear hE a; intro a hE
      refine WL.vS hS hE (runs_plain rfl) (Gives.p hE rfl) rfl ?_; clear hE a; intro a hE
      refine WL.nil ?_
      subst hK56
      exact ⟨decide (x0 ≤ x2), hq51, hE.pick _ ⟨rfl, trivial⟩, hS⟩
    · replace hq51 := iteF hg57 hq51
      refine WL.no hE (runs_not hE rfl rfl rfl (by rw [hg57]; decide)) rfl ?_; clear hE a; intro a hE
      refine WL.no hE (runs_not hE rfl rfl rfl (by rw [hg57]; decide)) rfl ?_; clear hE a; intro a hE
      refine WL.no hE (runs_not hE rfl rfl rfl (by rw [hg57]; decide)) rfl ?_; clear hE a; intro a hE
      refine WL.vS hS hE (runs_plain rfl) (Gives.pickF hE rfl hg57 rfl) rfl ?_; clear hE a; intro a hE
      refine WL.vS hS hE (runs_plain rfl) (Gives.p hE rfl) rfl ?_; clear hE a; intro a hE
      refine WL.nil ?_
      subst hK56
      exact ⟨false, hq51, hE.pick _ ⟨rfl, trivial⟩, hS⟩
  · clear hE hS a w; rintro a w ⟨q55, rfl, hE, hS⟩
    refine W.ret ?_
    refine finG (fn := Try.f41) (rs := [.tmp 6]) (vs := [_]) hE rfl ⟨rfl, trivial⟩ ?_
    subst hr
    exact ⟨rfl, hS⟩
set_option maxHeartbeats 8000000 in
theorem Fishref2OffersFault_ok  {w : World} {s : Sg} {R : List HP} {x0 : List FareOffer} {a0 : Option Addr} {c0 : Nat} {x1 : Int} {x2 : Int} (hS : St w s (R)) (h0 : Sl 3 RFareOffer s a0 c0 x0) {r : Int} (hr : Fishref2OffersFault x0 x1 x2 = r) :
    Calls Try.prog 37 [.slice a0 x0.length c0, .int .i64 x1, .int .i64 x2].toArray w (fun e w => e = .returned (.int .i64 r) ∧ St w s (R)) := by
  refine enter Try.func37 rfl rfl rfl fun a hE => ?_
  rw [Fishref2OffersFault] at hr
  refine W.seq ?_
  refine W.region ?_
  refine WL.vS hS hE (runs_plain rfl) (Gives.p hE rfl) rfl ?_; clear hE a; intro a hE
  refine WL.nil ?_
  refine W.seq ?_
  refine W.seq ?_
  refine W.region ?_
  refine WL.vS hS hE (runs_plain rfl) (Gives.p hE rfl) rfl ?_; clear hE a; intro a hE
  refine WL.vS hS hE (runs_plain rfl) (Gives.len hE rfl sl69) rfl ?_; clear hE a; intro a hE
  refine WL.vS hS hE (runs_plain rfl) (Gives.p hE rfl) rfl ?_; clear hE a; intro a hE
  refine WL.nil ?_
  refine W.cond hE rfl (fun hc51 => ?_) (fun hc51 => ?_)
  · replace hr := iteT hc51 hr
    refine W.seq ?_
    refine W.region ?_
    refine WL.vS hS hE (runs_plain rfl) (Gives.p hE rfl) rfl ?_; clear hE a; intro a hE
    refine WL.nil ?_
    refine W.ret ?_
    refine finG (fn := Try.f37) (rs := [.tmp 6]) (vs := [_]) hE rfl ⟨rfl, trivial⟩ ?_
    subst hr
    exact ⟨rfl, hS⟩
  · replace hr := iteF hc51 hr
    refine W.skip ?_
    refine W.seq ?_
    refine W.seq ?_
    obtain ⟨q53, hq52, hr⟩ := bndS hr
    refine W.cut (fun a w => ∃ (q56 : Bool), q56 = q53 ∧ Rep a 49 [(0, .slice a0 x0.length c0), (2, .int .i64 x2), (19, .bool q56)] ∧ St w s (R)) ?_ ?_
    · refine W.gen fun K57 hK57 => ?_
      refine W.region ?_
      refine WL.vS hS hE (runs_plain rfl) (Gives.p hE rfl) rfl ?_; clear hE a; intro a hE
      refine WL.fnq hE (Fishref2within_ok hS  rfl) (runs_plain rfl) bd41 rfl rfl rfl ?_
      clear hE hS; rintro e w ⟨rfl, hS⟩; refine ⟨_, rfl, ?_⟩; clear a; intro a hE
      refine WL.vS hS hE (runs_plain rfl) (Gives.p hE rfl) rfl ?_; clear hE a; intro a hE
      refine WL.vS hS hE (runs_plain rfl) (Gives.p hE rfl) rfl ?_; clear hE a; intro a hE
      rcases Bool.eq_false_or_eq_true (!(Fishref2within x1 1 12)) with hg58 | hg58
      · replace hq52 := iteT hg58 hq52
        refine WL.no hE (runs_not hE rfl rfl rfl (by rw [hg58]; decide)) rfl ?_; clear hE a; intro a hE
        refine WL.no hE (runs_not hE rfl rfl rfl (by rw [hg58]; decide)) rfl ?_; clear hE a; intro a hE
        refine WL.no hE (runs_not hE rfl rfl rfl (by rw [hg58]; decide)) rfl ?_; clear hE a; intro a hE
        refine WL.vS hS hE (runs_plain rfl) (Gives.pickT hE rfl hg58 rfl) rfl ?_; clear hE a; intro a hE
        refine WL.nil ?_
        subst hK57
        exact ⟨true, hq52, hE.pick _ ⟨rfl, rfl, rfl, trivial⟩, hS⟩
      · replace hq52 := iteF hg58 hq52
        refine WL.vS hS hE (runs_if hE rfl rfl rfl hg58) (Gives.p hE rfl) rfl ?_; clear hE a; intro a hE
        refine WL.fnq hE (Fishref2within_ok hS  rfl) (runs_if hE rfl rfl rfl hg58) bd41 rfl rfl rfl ?_
        clear hE hS; rintro e w ⟨rfl, hS⟩; refine ⟨_, rfl, ?_⟩; clear a; intro a hE
        refine WL.vS hS hE (runs_if hE rfl rfl rfl hg58) (Gives.p hE rfl) rfl ?_; clear hE a; intro a hE
        refine WL.vS hS hE (runs_plain rfl) (Gives.pickF hE rfl hg58 rfl) rfl ?_; clear hE a; intro a hE
        refine WL.nil ?_
        subst hK57
        exact ⟨!(Fishref2within x2 2 12), hq52, hE.pick _ ⟨rfl, rfl, rfl, trivial⟩, hS⟩
    · clear hE hS a w; rintro a w ⟨q56, rfl, hE, hS⟩
      refine W.cond hE rfl (fun hc59 => ?_) (fun hc59 => ?_)
      · replace hr := iteT hc59 hr
        refine W.seq ?_
        refine W.region ?_
        refine WL.vS hS hE (runs_plain rfl) (Gives.p hE rfl) rfl ?_; clear hE a; intro a hE
        refine WL.nil ?_
        refine W.ret ?_
        refine finG (fn := Try.f37) (rs := [.tmp 6]) (vs := [_]) hE rfl ⟨rfl, trivial⟩ ?_
        subst hr
        exact ⟨rfl, hS⟩
      · replace hr := iteF hc59 hr
        refine W.skip ?_
        refine W.seq ?_
        refine W.seq ?_
        refine W.region ?_
        refine WL.vS hS hE (runs_plain rfl) (Gives.p hE rfl) rfl ?_; clear hE a; intro a hE
        refine WL.vS hS hE (runs_plain rfl) (Gives.len hE rfl sl69) rfl ?_; clear hE a; intro a hE
        refine WL.vS hS hE (runs_plain rfl) (Gives.p hE rfl) rfl ?_; clear hE a; intro a hE
        refine WL.nil ?_
        obtain ⟨q61, hq60, hr⟩ := bndS hr
        refine W.cut (fun a w => (.next ()) = q61 ∧ Rep a 49 [] ∧ St w s (R)) ?_ ?_
        · refine W.block ?_
          refine W.loop (fun m a w => ∃ (rest64 : List FareOffer) (k62 : Nat), rest64.length = m ∧ x0.drop k62 = rest64 ∧ Fishref2OffersFault.loop1 x2 rest64 = q61 ∧ Rep a 49 [(2, .int .i64 x2), (20, .slice a0 x0.length c0), (21, .int .i64 ((x0).length : Int)), (22, .int .i64 ((k62 : Nat) : Int))] ∧ St w s (R)) (m := x0.length) ⟨x0, 0, rfl, rfl, hq60, hE.pick _ ⟨rfl, rfl, rfl, rfl, trivial⟩, hS⟩ ?_
          clear hE hS a w hq60; rintro m68 a w ⟨rest64, k62, rfl, hd65, hq60, hE, hS⟩
          refine W.gen fun K71 hK71 => ?_
          rcases rest64 with _ | ⟨x63, rest64⟩
          · have hlt66 := drop_nil hd65
            refine W.seq ?_
            refine W.region ?_
            refine WL.vS hS hE (runs_plain rfl) (Gives.p hE rfl) rfl ?_; clear hE a; intro a hE
            refine WL.nil ?_
            refine W.seq ?_
            refine W.condF hE rfl (decide_eq_false (by omega)) ?_
            subst hK71
            refine W.exit rfl ?_
            exact ⟨hq60, hE.pick _ trivial, hS⟩
          · obtain ⟨hlt66, hx67, hd65⟩ := drop_cons hd65
            rw [Fishref2OffersFault.loop1] at hq60
            refine W.seq ?_
            refine W.region ?_
            refine WL.vS hS hE (runs_plain rfl) (Gives.p hE rfl) rfl ?_; clear hE a; intro a hE
            refine WL.nil ?_
            refine W.seq ?_
            refine W.condT hE rfl (decide_eq_true (by omega)) ?_
            refine W.skip ?_
            refine W.seq ?_
            refine W.block ?_
            refine W.seq ?_
            refine W.region ?_
            obtain ⟨cs72, hl73, hR74, hat75⟩ := h0.at hx67
            subst hR74
            refine WL.vS hS hE (runs_plain rfl) (Gives.idx hE k62 rfl rfl sl69 rfl hlt66 (h0.aok hlt66)) rfl ?_; clear hE a; intro a hE
            refine WL.vS hS hE (runs_plain rfl) (Gives.loadA hE rfl (fun w h => hat75 w _ h) ty100) rfl ?_; clear hE a; intro a hE
            refine WL.alloc hE hS (runs_plain rfl) zr100 rfl ?_; clear hE hS a w; intro b76 a w hE hS
            refine WL.storeI hE hS 0 rfl (FareOffer.cells x63) (runs_plain rfl) rfl rfl rfl ty100 rfl rfl rfl rfl ?_; clear hE hS a w; intro a w hE hS
            refine WL.nil ?_
            refine W.seq ?_
            obtain ⟨q78, hq77, hq60⟩ := bndS hq60
            refine W.cut (fun a w => ∃ (q81 : Bool), q81 = q78 ∧ Rep a 49 [(2, .int .i64 x2), (20, .slice a0 x0.length c0), (21, .int .i64 ((x0).length : Int)), (22, .int .i64 ((k62 : Nat) : Int)), (47, .bool q81)] ∧ St w s (pt b76 (.cells (FareOffer.cells x63).toArray 100 (0, 0)) :: R)) ?_ ?_
            · refine W.gen fun K82 hK82 => ?_
              refine W.region ?_
              refine WL.vS hS hE (runs_plain rfl) (Gives.fld hE rfl fl100_0) rfl ?_; clear hE a; intro a hE
              refine WL.vS hS hE (runs_plain rfl) (Gives.loadB hE 0 rfl rfl rfl ty3) rfl ?_; clear hE a; intro a hE
              refine WL.vS hS hE (runs_plain rfl) (Gives.p hE rfl) rfl ?_; clear hE a; intro a hE
              refine WL.vS hS hE (runs_plain rfl) (Gives.p hE rfl) rfl ?_; clear hE a; intro a hE
              rcases Bool.eq_false_or_eq_true (decide (x63.From < 0)) with hg83 | hg83
              · replace hq77 := iteT hg83 hq77
                refine WL.no hE (runs_not hE rfl rfl rfl (by rw [hg83]; decide)) rfl ?_; clear hE a; intro a hE
                refine WL.no hE (runs_not hE rfl rfl rfl (by rw [hg83]; decide)) rfl ?_; clear hE a; intro a hE
                refine WL.no hE (runs_not hE rfl rfl rfl (by rw [hg83]; decide)) rfl ?_; clear hE a; intro a hE
                refine WL.no hE (runs_not hE rfl rfl rfl (by rw [hg83]; decide)) rfl ?_; clear hE a; intro a hE
                refine WL.no hE (runs_not hE rfl rfl rfl (by rw [hg83]; decide)) rfl ?_; clear hE a; intro a hE
                refine WL.vS hS hE (runs_plain rfl) (Gives.pickT hE rfl hg83 rfl) rfl ?_; clear hE a; intro a hE
                refine WL.vS hS hE (runs_plain rfl) (Gives.p hE rfl) rfl ?_; clear hE a; intro a hE
                refine WL.no hE (runs_not hE rfl rfl rfl (by decide)) rfl ?_; clear hE a; intro a hE
                refine WL.no hE (runs_not hE rfl rfl rfl (by decide)) rfl ?_; clear hE a; intro a hE
                refine WL.no hE (runs_not hE rfl rfl rfl (by decide)) rfl ?_; clear hE a; intro a hE
                refine WL.no hE (runs_not hE rfl rfl rfl (by decide)) rfl ?_; clear hE a; intro a hE
                refine WL.vS hS hE (runs_plain rfl) (Gives.pickT hE rfl rfl rfl) rfl ?_; clear hE a; intro a hE
                refine WL.vS hS hE (runs_plain rfl) (Gives.p hE rfl) rfl ?_; clear hE a; intro a hE
                refine WL.no hE (runs_not hE rfl rfl rfl (by decide)) rfl ?_; clear hE a; intro a hE
                refine WL.no hE (runs_not hE rfl rfl rfl (by decide)) rfl ?_; clear hE a; intro a hE
                refine WL.no hE (runs_not hE rfl rfl rfl (by decide)) rfl ?_; clear hE a; intro a hE
                refine WL.no hE (runs_not hE rfl rfl rfl (by decide)) rfl ?_; clear hE a; intro a hE
                refine WL.vS hS hE (runs_plain rfl) (Gives.pickT hE rfl rfl rfl) rfl ?_; clear hE a; intro a hE
                refine WL.nil ?_
                subst hK82
                exact ⟨true, hq77, hE.pick _ ⟨rfl, rfl, rfl, rfl, rfl, trivial⟩, hS⟩
              · replace hq77 := iteF hg83 hq77
                refine WL.vS hS hE (runs_if hE rfl rfl rfl hg83) (Gives.fld hE rfl fl100_0) rfl ?_; clear hE a; intro a hE
                refine WL.vS hS hE (runs_if hE rfl rfl rfl hg83) (Gives.loadB hE 0 rfl rfl rfl ty3) rfl ?_; clear hE a; intro a hE
                refine WL.vS hS hE (runs_if hE rfl rfl rfl hg83) (Gives.fld hE rfl fl100_1) rfl ?_; clear hE a; intro a hE
                refine WL.vS hS hE (runs_if hE rfl rfl rfl hg83) (Gives.loadB hE 0 rfl rfl rfl ty3) rfl ?_; clear hE a; intro a hE
                refine WL.vS hS hE (runs_if hE rfl rfl rfl hg83) (Gives.p hE rfl) rfl ?_; clear hE a; intro a hE
                refine WL.vS hS hE (runs_plain rfl) (Gives.pickF hE rfl hg83 rfl) rfl ?_; clear hE a; intro a hE
                refine WL.vS hS hE (runs_plain rfl) (Gives.p hE rfl) rfl ?_; clear hE a; intro a hE
                rcases Bool.eq_false_or_eq_true (decide (x63.From ≥ x63.To)) with hg84 | hg84
                · replace hq77 := iteT hg84 hq77
                  refine WL.no hE (runs_not hE rfl rfl rfl (by rw [hg84]; decide)) rfl ?_; clear hE a; intro a hE
                  refine WL.no hE (runs_not hE rfl rfl rfl (by rw [hg84]; decide)) rfl ?_; clear hE a; intro a hE
                  refine WL.no hE (runs_not hE rfl rfl rfl (by rw [hg84]; decide)) rfl ?_; clear hE a; intro a hE
                  refine WL.no hE (runs_not hE rfl rfl rfl (by rw [hg84]; decide)) rfl ?_; clear hE a; intro a hE
                  refine WL.vS hS hE (runs_plain rfl) (Gives.pickT hE rfl hg84 rfl) rfl ?_; clear hE a; intro a hE
                  refine WL.vS hS hE (runs_plain rfl) (Gives.p hE rfl) rfl ?_; clear hE a; intro a hE
                  refine WL.no hE (runs_not hE rfl rfl rfl (by decide)) rfl ?_; clear hE a; intro a hE
                  refine WL.no hE (runs_not hE rfl rfl rfl (by decide)) rfl ?_; clear hE a; intro a hE
                  refine WL.no hE (runs_not hE rfl rfl rfl (by decide)) rfl ?_; clear hE a; intro a hE
                  refine WL.no hE (runs_not hE rfl rfl rfl (by decide)) rfl ?_; clear hE a; intro a hE
                  refine WL.vS hS hE (runs_plain rfl) (Gives.pickT hE rfl rfl rfl) rfl ?_; clear hE a; intro a hE
                  refine WL.nil ?_
                  subst hK82
                  exact ⟨true, hq77, hE.pick _ ⟨rfl, rfl, rfl, rfl, rfl, trivial⟩, hS⟩
                · replace hq77 := iteF hg84 hq77
                  refine WL.vS hS hE (runs_if hE rfl rfl rfl hg84) (Gives.fld hE rfl fl100_1) rfl ?_; clear hE a; intro a hE
                  refine WL.vS hS hE (runs_if hE rfl rfl rfl hg84) (Gives.loadB hE 0 rfl rfl rfl ty3) rfl ?_; clear hE a; intro a hE
                  refine WL.vS hS hE (runs_if hE rfl rfl rfl hg84) (Gives.p hE rfl) rfl ?_; clear hE a; intro a hE
                  refine WL.vS hS hE (runs_if hE rfl rfl rfl hg84) (Gives.p hE rfl) rfl ?_; clear hE a; intro a hE
                  refine WL.vS hS hE (runs_plain rfl) (Gives.pickF hE rfl hg84 rfl) rfl ?_; clear hE a; intro a hE
                  refine WL.vS hS hE (runs_plain rfl) (Gives.p hE rfl) rfl ?_; clear hE a; intro a hE
                  rcases Bool.eq_false_or_eq_true (decide (x63.To ≥ x2)) with hg85 | hg85
                  · replace hq77 := iteT hg85 hq77
                    refine WL.no hE (runs_not hE rfl rfl rfl (by rw [hg85]; decide)) rfl ?_; clear hE a; intro a hE
                    refine WL.no hE (runs_not hE rfl rfl rfl (by rw [hg85]; decide)) rfl ?_; clear hE a; intro a hE
                    refine WL.no hE (runs_not hE rfl rfl rfl (by rw [hg85]; decide)) rfl ?_; clear hE a; intro a hE
                    refine WL.no hE (runs_not hE rfl rfl rfl (by rw [hg85]; decide)) rfl ?_; clear hE a; intro a hE
                    refine WL.vS hS hE (runs_plain rfl) (Gives.pickT hE rfl hg85 rfl) rfl ?_; clear hE a; intro a hE
                    refine WL.nil ?_
                    subst hK82
                    exact ⟨true, hq77, hE.pick _ ⟨rfl, rfl, rfl, rfl, rfl, trivial⟩, hS⟩
                  · replace hq77 := iteF hg85 hq77
                    refine WL.vS hS hE (runs_if hE rfl rfl rfl hg85) (Gives.fld hE rfl fl100_2) rfl ?_; clear hE a; intro a hE
                    refine WL.vS hS hE (runs_if hE rfl rfl rfl hg85) (Gives.loadB hE 0 rfl rfl rfl ty3) rfl ?_; clear hE a; intro a hE
                    refine WL.fnq hE (Fishref2within_ok hS  rfl) (runs_if hE rfl rfl rfl hg85) bd41 rfl rfl rfl ?_
                    clear hE hS; rintro e w ⟨rfl, hS⟩; refine ⟨_, rfl, ?_⟩; clear a; intro a hE
                    refine WL.vS hS hE (runs_if hE rfl rfl rfl hg85) (Gives.p hE rfl) rfl ?_; clear hE a; intro a hE
                    refine WL.vS hS hE (runs_plain rfl) (Gives.pickF hE rfl hg85 rfl) rfl ?_; clear hE a; intro a hE
                    refine WL.nil ?_
                    subst hK82
                    exact ⟨!(Fishref2within x63.Value 1 200), hq77, hE.pick _ ⟨rfl, rfl, rfl, rfl, rfl, trivial⟩, hS⟩
            · clear hE hS a w; rintro a w ⟨q81, rfl, hE, hS⟩
              refine W.cond hE rfl (fun hc86 => ?_) (fun hc86 => ?_)
              · replace hq60 := iteT hc86 hq60
                refine W.seq ?_
                refine W.region ?_
                refine WL.vS hS hE (runs_plain rfl) (Gives.p hE rfl) rfl ?_; clear hE a; intro a hE
                refine WL.nil ?_
                refine W.ret ?_
                subst hK71
                rw [← hq60] at hr
                dsimp only at hr
                refine finG (fn := Try.f37) (rs := [.tmp 6]) (vs := [_]) hE rfl ⟨rfl, trivial⟩ ?_
                subst hr
                replace hS := hS.tail
                exact ⟨rfl, hS⟩
              · replace hq60 := iteF hc86 hq60
                refine W.skip ?_
                refine W.region ?_
                refine WL.vS hS hE (runs_plain rfl) (Gives.inc hE rfl (by have := h0.small; omega)) rfl ?_; clear hE a; intro a hE
                refine WL.vS hS hE (runs_plain rfl) (Gives.p hE rfl) rfl ?_; clear hE a; intro a hE
                refine WL.nil ?_
                replace hS := hS.tail
                subst hK71
                exact ⟨rest64.length, Nat.lt_succ_self _, rest64, k62 + 1, rfl, hd65, hq60, hE.pick _ ⟨rfl, rfl, rfl, rfl, trivial⟩, hS⟩
        · clear hE hS a w; rintro a w ⟨rfl, hE, hS⟩
          dsimp only at hr
          refine W.seq ?_
          refine W.region ?_
          refine WL.vS hS hE (runs_plain rfl) (Gives.p hE rfl) rfl ?_; clear hE a; intro a hE
          refine WL.nil ?_
          refine W.ret ?_
          refine finG (fn := Try.f37) (rs := [.tmp 6]) (vs := [_]) hE rfl ⟨rfl, trivial⟩ ?_
          subst hr
          exact ⟨rfl, hS⟩
set_option maxHeartbeats 8000000 in
theorem FareCondsize_ok : ∀ {fu : Nat} {w : World} {s : Sg} {R : List HP} {x0 : FareCond} {a0_0 : Option Addr} {c0_0 : Nat} (_hS : St w s (R)) (_h0_0 : Sl 4 RFareCond s a0_0 c0_0 x0.Kids) {r : Int × Int} (_hr : FareCondsize fu x0 = some r),
    Calls Try.prog 63 [.agg [.int .i64 x0.Kind, .int .i64 x0.A, .int .i64 x0.B, .slice a0_0 x0.Kids.length c0_0].toArray].toArray w (fun e w => e = .returned (.tuple #[.int .i64 r.1, .int .i64 r.2]) ∧ St w s (R)) := by
  intro fu
  induction fu with
  | zero => intro w s R x0 a0_0 c0_0 hS h0_0 r hr; rw [FareCondsize] at hr; exact absurd hr (by simp)
  | succ fu ih_FareCondsize =>
    intro w s R x0 a0_0 c0_0 hS h0_0 r hr
    rw [FareCondsize] at hr
    generalize FareCondsize fu = self_FareCondsize at hr ih_FareCondsize
    refine enter Try.func63 rfl rfl rfl fun a hE => ?_
    refine W.seq ?_
    refine W.region ?_
    refine WL.box hE hS (runs_plain rfl) rfl rfl rfl ?_; clear hE hS a w; intro b51 a w hE hS
    refine WL.vS hS hE (runs_plain rfl) (Gives.p hE rfl) rfl ?_; clear hE a; intro a hE
    refine WL.vS hS hE (runs_plain rfl) (Gives.p hE rfl) rfl ?_; clear hE a; intro a hE
    refine WL.nil ?_
    refine W.seq ?_
    refine W.region ?_
    refine WL.vS hS hE (runs_plain rfl) (Gives.p hE rfl) rfl ?_; clear hE a; intro a hE
    refine WL.nil ?_
    refine W.seq ?_
    refine W.seq ?_
    refine W.region ?_
    refine WL.vS hS hE (runs_plain rfl) (Gives.fld hE rfl fl41_3) rfl ?_; clear hE a; intro a hE
    refine WL.vS hS hE (runs_plain rfl) (Gives.loadB hE 0 rfl rfl rfl ty39) rfl ?_; clear hE a; intro a hE
    refine WL.vS hS hE (runs_plain rfl) (Gives.len hE rfl sl39) rfl ?_; clear hE a; intro a hE
    refine WL.vS hS hE (runs_plain rfl) (Gives.p hE rfl) rfl ?_; clear hE a; intro a hE
    refine WL.nil ?_
    obtain ⟨q53, hq52, hr⟩ := bindS hr
    refine W.cut (fun a w => ∃ (q63 : Int), ∃ (q64 : Int), (q63, q64) = q53 ∧ Rep a 30 [(2, .int .i64 q63), (3, .int .i64 q64)] ∧ St w s (pt b51 (.cells #[.int .i64 x0.Kind, .int .i64 x0.A, .int .i64 x0.B, .slice a0_0 x0.Kids.length c0_0] 41 (0, 0)) :: R)) ?_ ?_
    · refine W.block ?_
      refine W.loop (fun m a w => ∃ (rest56 : List FareCond) (k54 : Nat), ∃ (q63 : Int), ∃ (q64 : Int), rest56.length = m ∧ x0.Kids.drop k54 = rest56 ∧ FareCondsize.loop1 self_FareCondsize rest56 q63 q64 = some q53 ∧ Rep a 30 [(2, .int .i64 q63), (3, .int .i64 q64), (9, .slice a0_0 x0.Kids.length c0_0), (10, .int .i64 ((x0.Kids).length : Int)), (11, .int .i64 ((k54 : Nat) : Int))] ∧ St w s (pt b51 (.cells #[.int .i64 x0.Kind, .int .i64 x0.A, .int .i64 x0.B, .slice a0_0 x0.Kids.length c0_0] 41 (0, 0)) :: R)) (m := x0.Kids.length) ⟨x0.Kids, 0, 1, 0, rfl, rfl, hq52, hE.pick _ ⟨rfl, rfl, rfl, rfl, rfl, trivial⟩, hS⟩ ?_
      clear hE hS a w hq52; rintro m60 a w ⟨rest56, k54, q63, q64, rfl, hd57, hq52, hE, hS⟩
      refine W.gen fun K65 hK65 => ?_
      rcases rest56 with _ | ⟨x55, rest56⟩
      · have hlt58 := drop_nil hd57
        refine W.seq ?_
        refine W.region ?_
        refine WL.vS hS hE (runs_plain rfl) (Gives.p hE rfl) rfl ?_; clear hE a; intro a hE
        refine WL.nil ?_
        refine W.seq ?_
        refine W.condF hE rfl (decide_eq_false (by omega)) ?_
        subst hK65
        refine W.exit rfl ?_
        exact ⟨q63, q64, Option.some.inj hq52, hE.pick _ ⟨rfl, rfl, trivial⟩, hS⟩
      · obtain ⟨hlt58, hx59, hd57⟩ := drop_cons hd57
        rw [FareCondsize.loop1] at hq52
        refine W.seq ?_
        refine W.region ?_
        refine WL.vS hS hE (runs_plain rfl) (Gives.p hE rfl) rfl ?_; clear hE a; intro a hE
        refine WL.nil ?_
        refine W.seq ?_
        refine W.condT hE rfl (decide_eq_true (by omega)) ?_
        refine W.skip ?_
        refine W.seq ?_
        refine W.block ?_
        refine W.seq ?_
        refine W.region ?_
        obtain ⟨cs66, hl67, hR68, hat69⟩ := h0_0.at hx59
        obtain ⟨a70, c71, rfl, h72⟩ := hR68.unf
        refine WL.vS hS hE (runs_plain rfl) (Gives.idx hE k54 rfl rfl sl39 rfl hlt58 (h0_0.aok hlt58)) rfl ?_; clear hE a; intro a hE
        refine WL.vS hS hE (runs_plain rfl) (Gives.loadA hE rfl (fun w h => hat69 w _ h) ty41) rfl ?_; clear hE a; intro a hE
        refine WL.alloc hE hS (runs_plain rfl) zr41 rfl ?_; clear hE hS a w; intro b73 a w hE hS
        refine WL.storeI hE hS 0 rfl [.int .i64 x55.Kind, .int .i64 x55.A, .int .i64 x55.B, .slice a70 x55.Kids.length c71] (runs_plain rfl) rfl rfl rfl ty41 rfl rfl rfl rfl ?_; clear hE hS a w; intro a w hE hS
        refine WL.nil ?_
        refine W.seq ?_
        refine W.region ?_
        refine WL.vS hS hE (runs_plain rfl) (Gives.loadBA hE 0 rfl rfl ty41) rfl ?_; clear hE a; intro a hE
        obtain ⟨q74, hq75, hq52⟩ := bindS hq52
        have hc_ := ih_FareCondsize hS h72 hq75
        refine WL.fnq hE (hc_) (runs_plain rfl) bd63 rfl rfl rfl ?_
        clear hE hS hc_; rintro e w ⟨rfl, hS⟩; refine ⟨_, rfl, ?_⟩; clear a; intro a hE
        refine WL.vS hS hE (runs_plain rfl) (Gives.p hE rfl) rfl ?_; clear hE a; intro a hE
        refine WL.vS hS hE (runs_plain rfl) (Gives.p hE rfl) rfl ?_; clear hE a; intro a hE
        refine WL.vS hS hE (runs_plain rfl) (Gives.p hE rfl) rfl ?_; clear hE a; intro a hE
        refine WL.vS hS hE (runs_plain rfl) (Gives.p hE rfl) rfl ?_; clear hE a; intro a hE
        refine WL.vS hS hE (runs_plain rfl) (Gives.p hE rfl) rfl ?_; clear hE a; intro a hE
        refine WL.nil ?_
        refine W.seq ?_
        refine W.region ?_
        refine WL.vS hS hE (runs_plain rfl) (Gives.p hE rfl) rfl ?_; clear hE a; intro a hE
        refine WL.vS hS hE (runs_plain rfl) (Gives.p hE rfl) rfl ?_; clear hE a; intro a hE
        refine WL.vS hS hE (runs_plain rfl) (Gives.p hE rfl) rfl ?_; clear hE a; intro a hE
        refine WL.vS hS hE (runs_plain rfl) (Gives.p hE rfl) rfl ?_; clear hE a; intro a hE
        refine WL.nil ?_
        refine W.region ?_
        refine WL.vS hS hE (runs_plain rfl) (Gives.p hE rfl) rfl ?_; clear hE a; intro a hE
        refine WL.vS hS hE (runs_plain rfl) (Gives.p hE rfl) rfl ?_; clear hE a; intro a hE
        refine WL.vS hS hE (runs_plain rfl) (Gives.max2 hE rfl rfl) rfl ?_; clear hE a; intro a hE
        refine WL.vS hS hE (runs_plain rfl) (Gives.p hE rfl) rfl ?_; clear hE a; intro a hE
        refine WL.nil ?_
        refine W.region ?_
        refine WL.vS hS hE (runs_plain rfl) (Gives.inc hE rfl (by have := h0_0.small; omega)) rfl ?_; clear hE a; intro a hE
        refine WL.vS hS hE (runs_plain rfl) (Gives.p hE rfl) rfl ?_; clear hE a; intro a hE
        refine WL.nil ?_
        replace hS := hS.tail
        subst hK65
        exact ⟨rest56.length, Nat.lt_succ_self _, rest56, k54 + 1, (w64 (q63 + q74.1)), (mx q64 q74.2), rfl, hd57, hq52, hE.pick _ ⟨rfl, rfl, rfl, rfl, rfl, trivial⟩, hS⟩
    · clear hE hS a w; rintro a w ⟨q63, q64, rfl, hE, hS⟩
      dsimp only at hr
      refine W.seq ?_
      refine W.region ?_
      refine WL.vS hS hE (runs_plain rfl) (Gives.p hE rfl) rfl ?_; clear hE a; intro a hE
      refine WL.vS hS hE (runs_plain rfl) (Gives.p hE rfl) rfl ?_; clear hE a; intro a hE
      refine WL.vS hS hE (runs_plain rfl) (Gives.p hE rfl) rfl ?_; clear hE a; intro a hE
      refine WL.vS hS hE (runs_plain rfl) (Gives.p hE rfl) rfl ?_; clear hE a; intro a hE
      refine WL.vS hS hE (runs_plain rfl) (Gives.p hE rfl) rfl ?_; clear hE a; intro a hE
      refine WL.nil ?_
      refine W.ret ?_
      refine finG (fn := Try.f63) (rs := [.tmp 2, .tmp 3]) (vs := [_, _]) hE rfl ⟨rfl, rfl, trivial⟩ ?_
      obtain rfl := Option.some.inj hr
      replace hS := hS.tail
      exact ⟨rfl, hS⟩
set_option maxHeartbeats 8000000 in
theorem Farenumbers_ok  {w : World} {s : Sg} {R : List HP} {x0 : Int} (hS : St w s (R))  {r : Int} (hr : Farenumbers x0 = r) :
    Calls Try.prog 78 [.int .i64 x0].toArray w (fun e w => e = .returned (.int .i64 r) ∧ St w s (R)) := by
  refine enter Try.func78 rfl rfl rfl fun a hE => ?_
  rw [Farenumbers] at hr
  refine W.seq ?_
  refine W.region ?_
  refine WL.vS hS hE (runs_plain rfl) (Gives.p hE rfl) rfl ?_; clear hE a; intro a hE
  refine WL.nil ?_
  refine W.seq ?_
  refine W.seq ?_
  refine W.region ?_
  refine WL.vS hS hE (runs_plain rfl) (Gives.p hE rfl) rfl ?_; clear hE a; intro a hE
  refine WL.nil ?_
  refine W.block ?_
  refine W.seq ?_
  refine W.seq ?_
  refine W.region ?_
  refine WL.vS hS hE (runs_plain rfl) (Gives.p hE rfl) rfl ?_; clear hE a; intro a hE
  refine WL.vS hS hE (runs_plain rfl) (Gives.p hE rfl) rfl ?_; clear hE a; intro a hE
  refine WL.nil ?_
  obtain ⟨q52, hq51, hr⟩ := bndS hr
  refine W.cut (fun a w => ∃ (q55 : Bool), q55 = q52 ∧ Rep a 13 [(3, .int .i64 x0), (4, .bool q55)] ∧ St w s (R)) ?_ ?_
  · refine W.gen fun K56 hK56 => ?_
    refine W.cond hE rfl (fun hc57 => ?_) (fun hc57 => ?_)
    · replace hq51 := iteT hc57 hq51
      refine W.skip ?_
      subst hK56
      exact ⟨(x0 == 2), hq51, hE.pick _ ⟨rfl, rfl, trivial⟩, hS⟩
    · replace hq51 := iteF hc57 hq51
      refine W.seq ?_
      refine W.region ?_
      refine WL.vS hS hE (runs_plain rfl) (Gives.p hE rfl) rfl ?_; clear hE a; intro a hE
      refine WL.vS hS hE (runs_plain rfl) (Gives.p hE rfl) rfl ?_; clear hE a; intro a hE
      refine WL.nil ?_
      obtain ⟨q59, hq58, hq51⟩ := bndS hq51
      refine W.cut (fun a w => ∃ (q62 : Bool), q62 = q59 ∧ Rep a 13 [(3, .int .i64 x0), (4, .bool q62)] ∧ St w s (R)) ?_ ?_
      · refine W.gen fun K63 hK63 => ?_
        refine W.cond hE rfl (fun hc64 => ?_) (fun hc64 => ?_)
        · replace hq58 := iteT hc64 hq58
          refine W.skip ?_
          subst hK63
          exact ⟨(x0 == 3), hq58, hE.pick _ ⟨rfl, rfl, trivial⟩, hS⟩
        · replace hq58 := iteF hc64 hq58
          refine W.seq ?_
          refine W.region ?_
          refine WL.vS hS hE (runs_plain rfl) (Gives.p hE rfl) rfl ?_; clear hE a; intro a hE
          refine WL.vS hS hE (runs_plain rfl) (Gives.p hE rfl) rfl ?_; clear hE a; intro a hE
          refine WL.nil ?_
          obtain ⟨q66, hq65, hq58⟩ := bndS hq58
          refine W.cut (fun a w => ∃ (q69 : Bool), q69 = q66 ∧ Rep a 13 [(3, .int .i64 x0), (4, .bool q69)] ∧ St w s (R)) ?_ ?_
          · refine W.gen fun K70 hK70 => ?_
            refine W.cond hE rfl (fun hc71 => ?_) (fun hc71 => ?_)
            · replace hq65 := iteT hc71 hq65
              refine W.skip ?_
              subst hK70
              exact ⟨(x0 == 4), hq65, hE.pick _ ⟨rfl, rfl, trivial⟩, hS⟩
            · replace hq65 := iteF hc71 hq65
              refine W.region ?_
              refine WL.vS hS hE (runs_plain rfl) (Gives.p hE rfl) rfl ?_; clear hE a; intro a hE
              refine WL.vS hS hE (runs_plain rfl) (Gives.p hE rfl) rfl ?_; clear hE a; intro a hE
              refine WL.nil ?_
              subst hK70
              exact ⟨(x0 == 5), hq65, hE.pick _ ⟨rfl, rfl, trivial⟩, hS⟩
          · clear hE hS a w; rintro a w ⟨q69, rfl, hE, hS⟩
            subst hK63
            exact ⟨q69, hq58, hE.pick _ ⟨rfl, rfl, trivial⟩, hS⟩
      · clear hE hS a w; rintro a w ⟨q62, rfl, hE, hS⟩
        subst hK56
        exact ⟨q62, hq51, hE.pick _ ⟨rfl, rfl, trivial⟩, hS⟩
  · clear hE hS a w; rintro a w ⟨q55, rfl, hE, hS⟩
    refine W.cond hE rfl (fun hc72 => ?_) (fun hc72 => ?_)
    · replace hr := iteT hc72 hr
      refine W.seq ?_
      refine W.region ?_
      refine WL.vS hS hE (runs_plain rfl) (Gives.p hE rfl) rfl ?_; clear hE a; intro a hE
      refine WL.nil ?_
      refine W.ret ?_
      refine finG (fn := Try.f78) (rs := [.tmp 2]) (vs := [_]) hE rfl ⟨rfl, trivial⟩ ?_
      subst hr
      exact ⟨rfl, hS⟩
    · replace hr := iteF hc72 hr
      refine W.seq ?_
      refine W.seq ?_
      refine W.region ?_
      refine WL.vS hS hE (runs_plain rfl) (Gives.p hE rfl) rfl ?_; clear hE a; intro a hE
      refine WL.vS hS hE (runs_plain rfl) (Gives.p hE rfl) rfl ?_; clear hE a; intro a hE
      refine WL.nil ?_
      obtain ⟨q74, hq73, hr⟩ := bndS hr
      refine W.cut (fun a w => ∃ (q77 : Bool), q77 = q74 ∧ Rep a 13 [(9, .bool q77)] ∧ St w s (R)) ?_ ?_
      · refine W.gen fun K78 hK78 => ?_
        refine W.cond hE rfl (fun hc79 => ?_) (fun hc79 => ?_)
        · replace hq73 := iteT hc79 hq73
          refine W.skip ?_
          subst hK78
          exact ⟨(x0 == 6), hq73, hE.pick _ ⟨rfl, trivial⟩, hS⟩
        · replace hq73 := iteF hc79 hq73
          refine W.seq ?_
          refine W.region ?_
          refine WL.vS hS hE (runs_plain rfl) (Gives.p hE rfl) rfl ?_; clear hE a; intro a hE
          refine WL.vS hS hE (runs_plain rfl) (Gives.p hE rfl) rfl ?_; clear hE a; intro a hE
          refine WL.nil ?_
          obtain ⟨q81, hq80, hq73⟩ := bndS hq73
          refine W.cut (fun a w => ∃ (q84 : Bool), q84 = q81 ∧ Rep a 13 [(9, .bool q84)] ∧ St w s (R)) ?_ ?_
          · refine W.gen fun K85 hK85 => ?_
            refine W.cond hE rfl (fun hc86 => ?_) (fun hc86 => ?_)
            · replace hq80 := iteT hc86 hq80
              refine W.skip ?_
              subst hK85
              exact ⟨(x0 == 7), hq80, hE.pick _ ⟨rfl, trivial⟩, hS⟩
            · replace hq80 := iteF hc86 hq80
              refine W.region ?_
              refine WL.vS hS hE (runs_plain rfl) (Gives.p hE rfl) rfl ?_; clear hE a; intro a hE
              refine WL.vS hS hE (runs_plain rfl) (Gives.p hE rfl) rfl ?_; clear hE a; intro a hE
              refine WL.nil ?_
              subst hK85
              exact ⟨(x0 == 8), hq80, hE.pick _ ⟨rfl, trivial⟩, hS⟩
          · clear hE hS a w; rintro a w ⟨q84, rfl, hE, hS⟩
            subst hK78
            exact ⟨q84, hq73, hE.pick _ ⟨rfl, trivial⟩, hS⟩
      · clear hE hS a w; rintro a w ⟨q77, rfl, hE, hS⟩
        refine W.cond hE rfl (fun hc87 => ?_) (fun hc87 => ?_)
        · replace hr := iteT hc87 hr
          refine W.seq ?_
          refine W.region ?_
          refine WL.vS hS hE (runs_plain rfl) (Gives.p hE rfl) rfl ?_; clear hE a; intro a hE
          refine WL.nil ?_
          refine W.ret ?_
          refine finG (fn := Try.f78) (rs := [.tmp 2]) (vs := [_]) hE rfl ⟨rfl, trivial⟩ ?_
          subst hr
          exact ⟨rfl, hS⟩
        · replace hr := iteF hc87 hr
          refine W.skip ?_
          refine W.seq ?_
          refine W.region ?_
          refine WL.vS hS hE (runs_plain rfl) (Gives.p hE rfl) rfl ?_; clear hE a; intro a hE
          refine WL.nil ?_
          refine W.ret ?_
          refine finG (fn := Try.f78) (rs := [.tmp 2]) (vs := [_]) hE rfl ⟨rfl, trivial⟩ ?_
          subst hr
          exact ⟨rfl, hS⟩
set_option maxHeartbeats 8000000 in
theorem FareCondnode_ok : ∀ {fu : Nat} {w : World} {s : Sg} {R : List HP} {x0 : FareCond} {a0_0 : Option Addr} {c0_0 : Nat} (_hS : St w s (R)) (_h0_0 : Sl 4 RFareCond s a0_0 c0_0 x0.Kids) {r : Int} (_hr : FareCondnode fu x0 = some r),
    Calls Try.prog 64 [.agg [.int .i64 x0.Kind, .int .i64 x0.A, .int .i64 x0.B, .slice a0_0 x0.Kids.length c0_0].toArray].toArray w (fun e w => e = .returned (.int .i64 r) ∧ St w s (R)) := by
  intro fu
  induction fu with
  | zero => intro w s R x0 a0_0 c0_0 hS h0_0 r hr; rw [FareCondnode] at hr; exact absurd hr (by simp)
  | succ fu ih_FareCondnode =>
    intro w s R x0 a0_0 c0_0 hS h0_0 r hr
    rw [FareCondnode] at hr
    generalize FareCondnode fu = self_FareCondnode at hr ih_FareCondnode
    refine enter Try.func64 rfl rfl rfl fun a hE => ?_
    refine W.seq ?_
    refine W.region ?_
    refine WL.box hE hS (runs_plain rfl) rfl rfl rfl ?_; clear hE hS a w; intro b51 a w hE hS
    refine WL.vS hS hE (runs_plain rfl) (Gives.p hE rfl) rfl ?_; clear hE a; intro a hE
    refine WL.nil ?_
    refine W.seq ?_
    refine W.region ?_
    refine WL.vS hS hE (runs_plain rfl) (Gives.fld hE rfl fl41_0) rfl ?_; clear hE a; intro a hE
    refine WL.vS hS hE (runs_plain rfl) (Gives.loadB hE 0 rfl rfl rfl ty3) rfl ?_; clear hE a; intro a hE
    refine WL.fnq hE (Farenumbers_ok hS  rfl) (runs_plain rfl) bd78 rfl rfl rfl ?_
    clear hE hS; rintro e w ⟨rfl, hS⟩; refine ⟨_, rfl, ?_⟩; clear a; intro a hE
    refine WL.vS hS hE (runs_plain rfl) (Gives.p hE rfl) rfl ?_; clear hE a; intro a hE
    refine WL.nil ?_
    refine W.seq ?_
    refine W.block ?_
    refine W.seq ?_
    refine W.region ?_
    refine WL.vS hS hE (runs_plain rfl) (Gives.fld hE rfl fl41_0) rfl ?_; clear hE a; intro a hE
    refine WL.vS hS hE (runs_plain rfl) (Gives.loadB hE 0 rfl rfl rfl ty3) rfl ?_; clear hE a; intro a hE
    refine WL.fnq hE (Farewithin_ok hS  rfl) (runs_plain rfl) bd39 rfl rfl rfl ?_
    clear hE hS; rintro e w ⟨rfl, hS⟩; refine ⟨_, rfl, ?_⟩; clear a; intro a hE
    refine WL.vS hS hE (runs_plain rfl) (Gives.p hE rfl) rfl ?_; clear hE a; intro a hE
    refine WL.vS hS hE (runs_plain rfl) (Gives.p hE rfl) rfl ?_; clear hE a; intro a hE
    refine WL.nil ?_
    refine W.cond hE rfl (fun hc52 => ?_) (fun hc52 => ?_)
    · replace hr := iteT hc52 hr
      refine W.seq ?_
      refine W.region ?_
      refine WL.vS hS hE (runs_plain rfl) (Gives.p hE rfl) rfl ?_; clear hE a; intro a hE
      refine WL.nil ?_
      refine W.ret ?_
      refine finG (fn := Try.f64) (rs := [.tmp 2]) (vs := [_]) hE rfl ⟨rfl, trivial⟩ ?_
      obtain rfl := Option.some.inj hr
      replace hS := hS.tail
      exact ⟨rfl, hS⟩
    · replace hr := iteF hc52 hr
      refine W.seq ?_
      obtain ⟨q54, hq53, hr⟩ := bndS hr
      refine W.cut (fun a w => ∃ (q57 : Bool), q57 = q54 ∧ Rep a 99 [(1, .pointer (some ⟨b51, 0, none⟩)), (3, .int .i64 (Farenumbers x0.Kind)), (15, .bool q57)] ∧ St w s (pt b51 (.cells #[.int .i64 x0.Kind, .int .i64 x0.A, .int .i64 x0.B, .slice a0_0 x0.Kids.length c0_0] 41 (0, 0)) :: R)) ?_ ?_
      · refine W.gen fun K58 hK58 => ?_
        refine W.region ?_
        refine WL.vS hS hE (runs_plain rfl) (Gives.fld hE rfl fl41_1) rfl ?_; clear hE a; intro a hE
        refine WL.vS hS hE (runs_plain rfl) (Gives.loadB hE 0 rfl rfl rfl ty3) rfl ?_; clear hE a; intro a hE
        refine WL.fnq hE (Farewithin_ok hS  rfl) (runs_plain rfl) bd39 rfl rfl rfl ?_
        clear hE hS; rintro e w ⟨rfl, hS⟩; refine ⟨_, rfl, ?_⟩; clear a; intro a hE
        refine WL.vS hS hE (runs_plain rfl) (Gives.p hE rfl) rfl ?_; clear hE a; intro a hE
        refine WL.vS hS hE (runs_plain rfl) (Gives.p hE rfl) rfl ?_; clear hE a; intro a hE
        rcases Bool.eq_false_or_eq_true (!(Farewithin x0.A 0 28800)) with hg59 | hg59
        · replace hq53 := iteT hg59 hq53
          refine WL.no hE (runs_not hE rfl rfl rfl (by rw [hg59]; decide)) rfl ?_; clear hE a; intro a hE
          refine WL.no hE (runs_not hE rfl rfl rfl (by rw [hg59]; decide)) rfl ?_; clear hE a; intro a hE
          refine WL.no hE (runs_not hE rfl rfl rfl (by rw [hg59]; decide)) rfl ?_; clear hE a; intro a hE
          refine WL.no hE (runs_not hE rfl rfl rfl (by rw [hg59]; decide)) rfl ?_; clear hE a; intro a hE
          refine WL.vS hS hE (runs_plain rfl) (Gives.pickT hE rfl hg59 rfl) rfl ?_; clear hE a; intro a hE
          refine WL.vS hS hE (runs_plain rfl) (Gives.p hE rfl) rfl ?_; clear hE a; intro a hE
          refine WL.nil ?_
          subst hK58
          exact ⟨true, hq53, hE.pick _ ⟨rfl, rfl, rfl, trivial⟩, hS⟩
        · replace hq53 := iteF hg59 hq53
          refine WL.vS hS hE (runs_if hE rfl rfl rfl hg59) (Gives.fld hE rfl fl41_2) rfl ?_; clear hE a; intro a hE
          refine WL.vS hS hE (runs_if hE rfl rfl rfl hg59) (Gives.loadB hE 0 rfl rfl rfl ty3) rfl ?_; clear hE a; intro a hE
          refine WL.fnq hE (Farewithin_ok hS  rfl) (runs_if hE rfl rfl rfl hg59) bd39 rfl rfl rfl ?_
          clear hE hS; rintro e w ⟨rfl, hS⟩; refine ⟨_, rfl, ?_⟩; clear a; intro a hE
          refine WL.vS hS hE (runs_if hE rfl rfl rfl hg59) (Gives.p hE rfl) rfl ?_; clear hE a; intro a hE
          refine WL.vS hS hE (runs_plain rfl) (Gives.pickF hE rfl hg59 rfl) rfl ?_; clear hE a; intro a hE
          refine WL.vS hS hE (runs_plain rfl) (Gives.p hE rfl) rfl ?_; clear hE a; intro a hE
          refine WL.nil ?_
          subst hK58
          exact ⟨!(Farewithin x0.B 0 28800), hq53, hE.pick _ ⟨rfl, rfl, rfl, trivial⟩, hS⟩
      · clear hE hS a w; rintro a w ⟨q57, rfl, hE, hS⟩
        refine W.cond hE rfl (fun hc60 => ?_) (fun hc60 => ?_)
        · replace hr := iteT hc60 hr
          refine W.seq ?_
          refine W.region ?_
          refine WL.vS hS hE (runs_plain rfl) (Gives.p hE rfl) rfl ?_; clear hE a; intro a hE
          refine WL.nil ?_
          refine W.ret ?_
          refine finG (fn := Try.f64) (rs := [.tmp 2]) (vs := [_]) hE rfl ⟨rfl, trivial⟩ ?_
          obtain rfl := Option.some.inj hr
          replace hS := hS.tail
          exact ⟨rfl, hS⟩
        · replace hr := iteF hc60 hr
          refine W.seq ?_
          obtain ⟨q62, hq61, hr⟩ := bndS hr
          refine W.cut (fun a w => ∃ (q65 : Bool), q65 = q62 ∧ Rep a 99 [(1, .pointer (some ⟨b51, 0, none⟩)), (26, .bool q65)] ∧ St w s (pt b51 (.cells #[.int .i64 x0.Kind, .int .i64 x0.A, .int .i64 x0.B, .slice a0_0 x0.Kids.length c0_0] 41 (0, 0)) :: R)) ?_ ?_
          · refine W.gen fun K66 hK66 => ?_
            refine W.region ?_
            refine WL.vS hS hE (runs_plain rfl) (Gives.p hE rfl) rfl ?_; clear hE a; intro a hE
            refine WL.vS hS hE (runs_plain rfl) (Gives.p hE rfl) rfl ?_; clear hE a; intro a hE
            refine WL.vS hS hE (runs_plain rfl) (Gives.p hE rfl) rfl ?_; clear hE a; intro a hE
            rcases Bool.eq_false_or_eq_true (decide ((Farenumbers x0.Kind) < 1)) with hg67 | hg67
            · replace hq61 := iteT hg67 hq61
              refine WL.vS hS hE (runs_if hE rfl rfl rfl hg67) (Gives.fld hE rfl fl41_1) rfl ?_; clear hE a; intro a hE
              refine WL.vS hS hE (runs_if hE rfl rfl rfl hg67) (Gives.loadB hE 0 rfl rfl rfl ty3) rfl ?_; clear hE a; intro a hE
              refine WL.vS hS hE (runs_if hE rfl rfl rfl hg67) (Gives.p hE rfl) rfl ?_; clear hE a; intro a hE
              refine WL.vS hS hE (runs_plain rfl) (Gives.pickT hE rfl hg67 rfl) rfl ?_; clear hE a; intro a hE
              refine WL.vS hS hE (runs_plain rfl) (Gives.p hE rfl) rfl ?_; clear hE a; intro a hE
              rcases Bool.eq_false_or_eq_true (x0.A != 0) with hg68 | hg68
              · replace hq61 := iteT hg68 hq61
                refine WL.no hE (runs_not hE rfl rfl rfl (by rw [hg68]; decide)) rfl ?_; clear hE a; intro a hE
                refine WL.no hE (runs_not hE rfl rfl rfl (by rw [hg68]; decide)) rfl ?_; clear hE a; intro a hE
                refine WL.no hE (runs_not hE rfl rfl rfl (by rw [hg68]; decide)) rfl ?_; clear hE a; intro a hE
                refine WL.no hE (runs_undef hE rfl rfl rfl) rfl ?_; clear hE a; intro a hE
                refine WL.no hE (runs_undef hE rfl rfl rfl) rfl ?_; clear hE a; intro a hE
                refine WL.no hE (runs_undef hE rfl rfl rfl) rfl ?_; clear hE a; intro a hE
                refine WL.no hE (runs_not hE rfl rfl rfl (by rw [hg68]; decide)) rfl ?_; clear hE a; intro a hE
                refine WL.vS hS hE (runs_plain rfl) (Gives.pickT hE rfl hg68 rfl) rfl ?_; clear hE a; intro a hE
                refine WL.vS hS hE (runs_plain rfl) (Gives.p hE rfl) rfl ?_; clear hE a; intro a hE
                refine WL.no hE (runs_not hE rfl rfl rfl (by decide)) rfl ?_; clear hE a; intro a hE
                refine WL.no hE (runs_not hE rfl rfl rfl (by decide)) rfl ?_; clear hE a; intro a hE
                refine WL.no hE (runs_not hE rfl rfl rfl (by decide)) rfl ?_; clear hE a; intro a hE
                refine WL.no hE (runs_undef hE rfl rfl rfl) rfl ?_; clear hE a; intro a hE
                refine WL.no hE (runs_undef hE rfl rfl rfl) rfl ?_; clear hE a; intro a hE
                refine WL.no hE (runs_undef hE rfl rfl rfl) rfl ?_; clear hE a; intro a hE
                refine WL.no hE (runs_undef hE rfl rfl rfl) rfl ?_; clear hE a; intro a hE
                refine WL.no hE (runs_undef hE rfl rfl rfl) rfl ?_; clear hE a; intro a hE
                refine WL.no hE (runs_not hE rfl rfl rfl (by decide)) rfl ?_; clear hE a; intro a hE
                refine WL.vS hS hE (runs_plain rfl) (Gives.pickT hE rfl rfl rfl) rfl ?_; clear hE a; intro a hE
                refine WL.vS hS hE (runs_plain rfl) (Gives.p hE rfl) rfl ?_; clear hE a; intro a hE
                refine WL.nil ?_
                subst hK66
                exact ⟨true, hq61, hE.pick _ ⟨rfl, rfl, trivial⟩, hS⟩
              · replace hq61 := iteF hg68 hq61
                refine WL.vS hS hE (runs_if hE rfl rfl rfl hg68) (Gives.p hE rfl) rfl ?_; clear hE a; intro a hE
                refine WL.vS hS hE (runs_if hE rfl rfl rfl hg68) (Gives.p hE rfl) rfl ?_; clear hE a; intro a hE
                refine WL.vS hS hE (runs_if hE rfl rfl rfl hg68) (Gives.p hE rfl) rfl ?_; clear hE a; intro a hE
                rcases Bool.eq_false_or_eq_true (decide ((Farenumbers x0.Kind) < 2)) with hg69 | hg69
                · replace hq61 := iteT hg69 hq61
                  refine WL.vS hS hE (runs_if hE rfl rfl rfl hg69) (Gives.fld hE rfl fl41_2) rfl ?_; clear hE a; intro a hE
                  refine WL.vS hS hE (runs_if hE rfl rfl rfl hg69) (Gives.loadB hE 0 rfl rfl rfl ty3) rfl ?_; clear hE a; intro a hE
                  refine WL.vS hS hE (runs_if hE rfl rfl rfl hg69) (Gives.p hE rfl) rfl ?_; clear hE a; intro a hE
                  refine WL.vS hS hE (runs_if hE rfl rfl rfl hg68) (Gives.pickT hE rfl hg69 rfl) rfl ?_; clear hE a; intro a hE
                  refine WL.vS hS hE (runs_plain rfl) (Gives.pickF hE rfl hg68 rfl) rfl ?_; clear hE a; intro a hE
                  refine WL.vS hS hE (runs_plain rfl) (Gives.p hE rfl) rfl ?_; clear hE a; intro a hE
                  rcases Bool.eq_false_or_eq_true (x0.B != 0) with hg70 | hg70
                  · replace hq61 := iteT hg70 hq61
                    refine WL.no hE (runs_not hE rfl rfl rfl (by rw [hg70]; decide)) rfl ?_; clear hE a; intro a hE
                    refine WL.no hE (runs_not hE rfl rfl rfl (by rw [hg70]; decide)) rfl ?_; clear hE a; intro a hE
                    refine WL.no hE (runs_not hE rfl rfl rfl (by rw [hg70]; decide)) rfl ?_; clear hE a; intro a hE
                    refine WL.no hE (runs_undef hE rfl rfl rfl) rfl ?_; clear hE a; intro a hE
                    refine WL.no hE (runs_undef hE rfl rfl rfl) rfl ?_; clear hE a; intro a hE
                    refine WL.no hE (runs_undef hE rfl rfl rfl) rfl ?_; clear hE a; intro a hE
                    refine WL.no hE (runs_undef hE rfl rfl rfl) rfl ?_; clear hE a; intro a hE
                    refine WL.no hE (runs_undef hE rfl rfl rfl) rfl ?_; clear hE a; intro a hE
                    refine WL.no hE (runs_not hE rfl rfl rfl (by rw [hg70]; decide)) rfl ?_; clear hE a; intro a hE
                    refine WL.vS hS hE (runs_plain rfl) (Gives.pickT hE rfl hg70 rfl) rfl ?_; clear hE a; intro a hE
                    refine WL.vS hS hE (runs_plain rfl) (Gives.p hE rfl) rfl ?_; clear hE a; intro a hE
                    refine WL.nil ?_
                    subst hK66
                    exact ⟨true, hq61, hE.pick _ ⟨rfl, rfl, trivial⟩, hS⟩
                  · replace hq61 := iteF hg70 hq61
                    refine WL.vS hS hE (runs_if hE rfl rfl rfl hg70) (Gives.p hE rfl) rfl ?_; clear hE a; intro a hE
                    refine WL.vS hS hE (runs_if hE rfl rfl rfl hg70) (Gives.p hE rfl) rfl ?_; clear hE a; intro a hE
                    refine WL.vS hS hE (runs_if hE rfl rfl rfl hg70) (Gives.p hE rfl) rfl ?_; clear hE a; intro a hE
                    rcases Bool.eq_false_or_eq_true ((Farenumbers x0.Kind) == 2) with hg71 | hg71
                    · replace hq61 := iteT hg71 hq61
                      refine WL.vS hS hE (runs_if hE rfl rfl rfl hg71) (Gives.fld hE rfl fl41_1) rfl ?_; clear hE a; intro a hE
                      refine WL.vS hS hE (runs_if hE rfl rfl rfl hg71) (Gives.loadB hE 0 rfl rfl rfl ty3) rfl ?_; clear hE a; intro a hE
                      refine WL.vS hS hE (runs_if hE rfl rfl rfl hg71) (Gives.fld hE rfl fl41_2) rfl ?_; clear hE a; intro a hE
                      refine WL.vS hS hE (runs_if hE rfl rfl rfl hg71) (Gives.loadB hE 0 rfl rfl rfl ty3) rfl ?_; clear hE a; intro a hE
                      refine WL.vS hS hE (runs_if hE rfl rfl rfl hg71) (Gives.p hE rfl) rfl ?_; clear hE a; intro a hE
                      refine WL.vS hS hE (runs_if hE rfl rfl rfl hg70) (Gives.pickT hE rfl hg71 rfl) rfl ?_; clear hE a; intro a hE
                      refine WL.vS hS hE (runs_plain rfl) (Gives.pickF hE rfl hg70 rfl) rfl ?_; clear hE a; intro a hE
                      refine WL.vS hS hE (runs_plain rfl) (Gives.p hE rfl) rfl ?_; clear hE a; intro a hE
                      refine WL.nil ?_
                      subst hK66
                      exact ⟨decide (x0.A > x0.B), hq61, hE.pick _ ⟨rfl, rfl, trivial⟩, hS⟩
                    · replace hq61 := iteF hg71 hq61
                      refine WL.no hE (runs_not hE rfl rfl rfl (by rw [hg71]; decide)) rfl ?_; clear hE a; intro a hE
                      refine WL.no hE (runs_not hE rfl rfl rfl (by rw [hg71]; decide)) rfl ?_; clear hE a; intro a hE
                      refine WL.no hE (runs_not hE rfl rfl rfl (by rw [hg71]; decide)) rfl ?_; clear hE a; intro a hE
                      refine WL.no hE (runs_not hE rfl rfl rfl (by rw [hg71]; decide)) rfl ?_; clear hE a; intro a hE
                      refine WL.no hE (runs_not hE rfl rfl rfl (by rw [hg71]; decide)) rfl ?_; clear hE a; intro a hE
                      refine WL.vS hS hE (runs_if hE rfl rfl rfl hg70) (Gives.pickF hE rfl hg71 rfl) rfl ?_; clear hE a; intro a hE
                      refine WL.vS hS hE (runs_plain rfl) (Gives.pickF hE rfl hg70 rfl) rfl ?_; clear hE a; intro a hE
                      refine WL.vS hS hE (runs_plain rfl) (Gives.p hE rfl) rfl ?_; clear hE a; intro a hE
                      refine WL.nil ?_
                      subst hK66
                      exact ⟨false, hq61, hE.pick _ ⟨rfl, rfl, trivial⟩, hS⟩
                · replace hq61 := iteF hg69 hq61
                  refine WL.no hE (runs_not hE rfl rfl rfl (by rw [hg69]; decide)) rfl ?_; clear hE a; intro a hE
                  refine WL.no hE (runs_not hE rfl rfl rfl (by rw [hg69]; decide)) rfl ?_; clear hE a; intro a hE
                  refine WL.no hE (runs_not hE rfl rfl rfl (by rw [hg69]; decide)) rfl ?_; clear hE a; intro a hE
                  refine WL.vS hS hE (runs_if hE rfl rfl rfl hg68) (Gives.pickF hE rfl hg69 rfl) rfl ?_; clear hE a; intro a hE
                  refine WL.vS hS hE (runs_plain rfl) (Gives.pickF hE rfl hg68 rfl) rfl ?_; clear hE a; intro a hE
                  refine WL.vS hS hE (runs_plain rfl) (Gives.p hE rfl) rfl ?_; clear hE a; intro a hE
                  refine WL.vS hS hE (runs_if hE rfl rfl rfl rfl) (Gives.p hE rfl) rfl ?_; clear hE a; intro a hE
                  refine WL.vS hS hE (runs_if hE rfl rfl rfl rfl) (Gives.p hE rfl) rfl ?_; clear hE a; intro a hE
                  refine WL.vS hS hE (runs_if hE rfl rfl rfl rfl) (Gives.p hE rfl) rfl ?_; clear hE a; intro a hE
                  rcases Bool.eq_false_or_eq_true ((Farenumbers x0.Kind) == 2) with hg72 | hg72
                  · replace hq61 := iteT hg72 hq61
                    refine WL.vS hS hE (runs_if hE rfl rfl rfl hg72) (Gives.fld hE rfl fl41_1) rfl ?_; clear hE a; intro a hE
                    refine WL.vS hS hE (runs_if hE rfl rfl rfl hg72) (Gives.loadB hE 0 rfl rfl rfl ty3) rfl ?_; clear hE a; intro a hE
                    refine WL.vS hS hE (runs_if hE rfl rfl rfl hg72) (Gives.fld hE rfl fl41_2) rfl ?_; clear hE a; intro a hE
                    refine WL.vS hS hE (runs_if hE rfl rfl rfl hg72) (Gives.loadB hE 0 rfl rfl rfl ty3) rfl ?_; clear hE a; intro a hE
                    refine WL.vS hS hE (runs_if hE rfl rfl rfl hg72) (Gives.p hE rfl) rfl ?_; clear hE a; intro a hE
                    refine WL.vS hS hE (runs_if hE rfl rfl rfl rfl) (Gives.pickT hE rfl hg72 rfl) rfl ?_; clear hE a; intro a hE
                    refine WL.vS hS hE (runs_plain rfl) (Gives.pickF hE rfl rfl rfl) rfl ?_; clear hE a; intro a hE
                    refine WL.vS hS hE (runs_plain rfl) (Gives.p hE rfl) rfl ?_; clear hE a; intro a hE
                    refine WL.nil ?_
                    subst hK66
                    exact ⟨decide (x0.A > x0.B), hq61, hE.pick _ ⟨rfl, rfl, trivial⟩, hS⟩
                  · replace hq61 := iteF hg72 hq61
                    refine WL.no hE (runs_not hE rfl rfl rfl (by rw [hg72]; decide)) rfl ?_; clear hE a; intro a hE
                    refine WL.no hE (runs_not hE rfl rfl rfl (by rw [hg72]; decide)) rfl ?_; clear hE a; intro a hE
                    refine WL.no hE (runs_not hE rfl rfl rfl (by rw [hg72]; decide)) rfl ?_; clear hE a; intro a hE
                    refine WL.no hE (runs_not hE rfl rfl rfl (by rw [hg72]; decide)) rfl ?_; clear hE a; intro a hE
                    refine WL.no hE (runs_not hE rfl rfl rfl (by rw [hg72]; decide)) rfl ?_; clear hE a; intro a hE
                    refine WL.vS hS hE (runs_if hE rfl rfl rfl rfl) (Gives.pickF hE rfl hg72 rfl) rfl ?_; clear hE a; intro a hE
                    refine WL.vS hS hE (runs_plain rfl) (Gives.pickF hE rfl rfl rfl) rfl ?_; clear hE a; intro a hE
                    refine WL.vS hS hE (runs_plain rfl) (Gives.p hE rfl) rfl ?_; clear hE a; intro a hE
                    refine WL.nil ?_
                    subst hK66
                    exact ⟨false, hq61, hE.pick _ ⟨rfl, rfl, trivial⟩, hS⟩
            · replace hq61 := iteF hg67 hq61
              refine WL.no hE (runs_not hE rfl rfl rfl (by rw [hg67]; decide)) rfl ?_; clear hE a; intro a hE
              refine WL.no hE (runs_not hE rfl rfl rfl (by rw [hg67]; decide)) rfl ?_; clear hE a; intro a hE
              refine WL.no hE (runs_not hE rfl rfl rfl (by rw [hg67]; decide)) rfl ?_; clear hE a; intro a hE
              refine WL.vS hS hE (runs_plain rfl) (Gives.pickF hE rfl hg67 rfl) rfl ?_; clear hE a; intro a hE
              refine WL.vS hS hE (runs_plain rfl) (Gives.p hE rfl) rfl ?_; clear hE a; intro a hE
              refine WL.vS hS hE (runs_if hE rfl rfl rfl rfl) (Gives.p hE rfl) rfl ?_; clear hE a; intro a hE
              refine WL.vS hS hE (runs_if hE rfl rfl rfl rfl) (Gives.p hE rfl) rfl ?_; clear hE a; intro a hE
              refine WL.vS hS hE (runs_if hE rfl rfl rfl rfl) (Gives.p hE rfl) rfl ?_; clear hE a; intro a hE
              rcases Bool.eq_false_or_eq_true (decide ((Farenumbers x0.Kind) < 2)) with hg73 | hg73
              · replace hq61 := iteT hg73 hq61
                refine WL.vS hS hE (runs_if hE rfl rfl rfl hg73) (Gives.fld hE rfl fl41_2) rfl ?_; clear hE a; intro a hE
                refine WL.vS hS hE (runs_if hE rfl rfl rfl hg73) (Gives.loadB hE 0 rfl rfl rfl ty3) rfl ?_; clear hE a; intro a hE
                refine WL.vS hS hE (runs_if hE rfl rfl rfl hg73) (Gives.p hE rfl) rfl ?_; clear hE a; intro a hE
                refine WL.vS hS hE (runs_if hE rfl rfl rfl rfl) (Gives.pickT hE rfl hg73 rfl) rfl ?_; clear hE a; intro a hE
                refine WL.vS hS hE (runs_plain rfl) (Gives.pickF hE rfl rfl rfl) rfl ?_; clear hE a; intro a hE
                refine WL.vS hS hE (runs_plain rfl) (Gives.p hE rfl) rfl ?_; clear hE a; intro a hE
                rcases Bool.eq_false_or_eq_true (x0.B != 0) with hg74 | hg74
                · replace hq61 := iteT hg74 hq61
                  refine WL.no hE (runs_not hE rfl rfl rfl (by rw [hg74]; decide)) rfl ?_; clear hE a; intro a hE
                  refine WL.no hE (runs_not hE rfl rfl rfl (by rw [hg74]; decide)) rfl ?_; clear hE a; intro a hE
                  refine WL.no hE (runs_not hE rfl rfl rfl (by rw [hg74]; decide)) rfl ?_; clear hE a; intro a hE
                  refine WL.no hE (runs_undef hE rfl rfl rfl) rfl ?_; clear hE a; intro a hE
                  refine WL.no hE (runs_undef hE rfl rfl rfl) rfl ?_; clear hE a; intro a hE
                  refine WL.no hE (runs_undef hE rfl rfl rfl) rfl ?_; clear hE a; intro a hE
                  refine WL.no hE (runs_undef hE rfl rfl rfl) rfl ?_; clear hE a; intro a hE
                  refine WL.no hE (runs_undef hE rfl rfl rfl) rfl ?_; clear hE a; intro a hE
                  refine WL.no hE (runs_not hE rfl rfl rfl (by rw [hg74]; decide)) rfl ?_; clear hE a; intro a hE
                  refine WL.vS hS hE (runs_plain rfl) (Gives.pickT hE rfl hg74 rfl) rfl ?_; clear hE a; intro a hE
                  refine WL.vS hS hE (runs_plain rfl) (Gives.p hE rfl) rfl ?_; clear hE a; intro a hE
                  refine WL.nil ?_
                  subst hK66
                  exact ⟨true, hq61, hE.pick _ ⟨rfl, rfl, trivial⟩, hS⟩
                · replace hq61 := iteF hg74 hq61
                  refine WL.vS hS hE (runs_if hE rfl rfl rfl hg74) (Gives.p hE rfl) rfl ?_; clear hE a; intro a hE
                  refine WL.vS hS hE (runs_if hE rfl rfl rfl hg74) (Gives.p hE rfl) rfl ?_; clear hE a; intro a hE
                  refine WL.vS hS hE (runs_if hE rfl rfl rfl hg74) (Gives.p hE rfl) rfl ?_; clear hE a; intro a hE
                  rcases Bool.eq_false_or_eq_true ((Farenumbers x0.Kind) == 2) with hg75 | hg75
                  · replace hq61 := iteT hg75 hq61
                    refine WL.vS hS hE (runs_if hE rfl rfl rfl hg75) (Gives.fld hE rfl fl41_1) rfl ?_; clear hE a; intro a hE
                    refine WL.vS hS hE (runs_if hE rfl rfl rfl hg75) (Gives.loadB hE 0 rfl rfl rfl ty3) rfl ?_; clear hE a; intro a hE
                    refine WL.vS hS hE (runs_if hE rfl rfl rfl hg75) (Gives.fld hE rfl fl41_2) rfl ?_; clear hE a; intro a hE
                    refine WL.vS hS hE (runs_if hE rfl rfl rfl hg75) (Gives.loadB hE 0 rfl rfl rfl ty3) rfl ?_; clear hE a; intro a hE
                    refine WL.vS hS hE (runs_if hE rfl rfl rfl hg75) (Gives.p hE rfl) rfl ?_; clear hE a; intro a hE
                    refine WL.vS hS hE (runs_if hE rfl rfl rfl hg74) (Gives.pickT hE rfl hg75 rfl) rfl ?_; clear hE a; intro a hE
                    refine WL.vS hS hE (runs_plain rfl) (Gives.pickF hE rfl hg74 rfl) rfl ?_; clear hE a; intro a hE
                    refine WL.vS hS hE (runs_plain rfl) (Gives.p hE rfl) rfl ?_; clear hE a; intro a hE
                    refine WL.nil ?_
                    subst hK66
                    exact ⟨decide (x0.A > x0.B), hq61, hE.pick _ ⟨rfl, rfl, trivial⟩, hS⟩
                  · replace hq61 := iteF hg75 hq61
                    refine WL.no hE (runs_not hE rfl rfl rfl (by rw [hg75]; decide)) rfl ?_; clear hE a; intro a hE
                    refine WL.no hE (runs_not hE rfl rfl rfl (by rw [hg75]; decide)) rfl ?_; clear hE a; intro a hE
                    refine WL.no hE (runs_not hE rfl rfl rfl (by rw [hg75]; decide)) rfl ?_; clear hE a; intro a hE
                    refine WL.no hE (runs_not hE rfl rfl rfl (by rw [hg75]; decide)) rfl ?_; clear hE a; intro a hE
                    refine WL.no hE (runs_not hE rfl rfl rfl (by rw [hg75]; decide)) rfl ?_; clear hE a; intro a hE
                    refine WL.vS hS hE (runs_if hE rfl rfl rfl hg74) (Gives.pickF hE rfl hg75 rfl) rfl ?_; clear hE a; intro a hE
                    refine WL.vS hS hE (runs_plain rfl) (Gives.pickF hE rfl hg74 rfl) rfl ?_; clear hE a; intro a hE
                    refine WL.vS hS hE (runs_plain rfl) (Gives.p hE rfl) rfl ?_; clear hE a; intro a hE
                    refine WL.nil ?_
                    subst hK66
                    exact ⟨false, hq61, hE.pick _ ⟨rfl, rfl, trivial⟩, hS⟩
              · replace hq61 := iteF hg73 hq61
                refine WL.no hE (runs_not hE rfl rfl rfl (by rw [hg73]; decide)) rfl ?_; clear hE a; intro a hE
                refine WL.no hE (runs_not hE rfl rfl rfl (by rw [hg73]; decide)) rfl ?_; clear hE a; intro a hE
                refine WL.no hE (runs_not hE rfl rfl rfl (by rw [hg73]; decide)) rfl ?_; clear hE a; intro a hE
                refine WL.vS hS hE (runs_if hE rfl rfl rfl rfl) (Gives.pickF hE rfl hg73 rfl) rfl ?_; clear hE a; intro a hE
                refine WL.vS hS hE (runs_plain rfl) (Gives.pickF hE rfl rfl rfl) rfl ?_; clear hE a; intro a hE
                refine WL.vS hS hE (runs_plain rfl) (Gives.p hE rfl) rfl ?_; clear hE a; intro a hE
                refine WL.vS hS hE (runs_if hE rfl rfl rfl rfl) (Gives.p hE rfl) rfl ?_; clear hE a; intro a hE
                refine WL.vS hS hE (runs_if hE rfl rfl rfl rfl) (Gives.p hE rfl) rfl ?_; clear hE a; intro a hE
                refine WL.vS hS hE (runs_if hE rfl rfl rfl rfl) (Gives.p hE rfl) rfl ?_; clear hE a; intro a hE
                rcases Bool.eq_false_or_eq_true ((Farenumbers x0.Kind) == 2) with hg76 | hg76
                · replace hq61 := iteT hg76 hq61
                  refine WL.vS hS hE (runs_if hE rfl rfl rfl hg76) (Gives.fld hE rfl fl41_1) rfl ?_; clear hE a; intro a hE
                  refine WL.vS hS hE (runs_if hE rfl rfl rfl hg76) (Gives.loadB hE 0 rfl rfl rfl ty3) rfl ?_; clear hE a; intro a hE
                  refine WL.vS hS hE (runs_if hE rfl rfl rfl hg76) (Gives.fld hE rfl fl41_2) rfl ?_; clear hE a; intro a hE
                  refine WL.vS hS hE (runs_if hE rfl rfl rfl hg76) (Gives.loadB hE 0 rfl rfl rfl ty3) rfl ?_; clear hE a; intro a hE
                  refine WL.vS hS hE (runs_if hE rfl rfl rfl hg76) (Gives.p hE rfl) rfl ?_; clear hE a; intro a hE
                  refine WL.vS hS hE (runs_if hE rfl rfl rfl rfl) (Gives.pickT hE rfl hg76 rfl) rfl ?_; clear hE a; intro a hE
                  refine WL.vS hS hE (runs_plain rfl) (Gives.pickF hE rfl rfl rfl) rfl ?_; clear hE a; intro a hE
                  refine WL.vS hS hE (runs_plain rfl) (Gives.p hE rfl) rfl ?_; clear hE a; intro a hE
                  refine WL.nil ?_
                  subst hK66
                  exact ⟨decide (x0.A > x0.B), hq61, hE.pick _ ⟨rfl, rfl, trivial⟩, hS⟩
                · replace hq61 := iteF hg76 hq61
                  refine WL.no hE (runs_not hE rfl rfl rfl (by rw [hg76]; decide)) rfl ?_; clear hE a; intro a hE
                  refine WL.no hE (runs_not hE rfl rfl rfl (by rw [hg76]; decide)) rfl ?_; clear hE a; intro a hE
                  refine WL.no hE (runs_not hE rfl rfl rfl (by rw [hg76]; decide)) rfl ?_; clear hE a; intro a hE
                  refine WL.no hE (runs_not hE rfl rfl rfl (by rw [hg76]; decide)) rfl ?_; clear hE a; intro a hE
                  refine WL.no hE (runs_not hE rfl rfl rfl (by rw [hg76]; decide)) rfl ?_; clear hE a; intro a hE
                  refine WL.vS hS hE (runs_if hE rfl rfl rfl rfl) (Gives.pickF hE rfl hg76 rfl) rfl ?_; clear hE a; intro a hE
                  refine WL.vS hS hE (runs_plain rfl) (Gives.pickF hE rfl rfl rfl) rfl ?_; clear hE a; intro a hE
                  refine WL.vS hS hE (runs_plain rfl) (Gives.p hE rfl) rfl ?_; clear hE a; intro a hE
                  refine WL.nil ?_
                  subst hK66
                  exact ⟨false, hq61, hE.pick _ ⟨rfl, rfl, trivial⟩, hS⟩
          · clear hE hS a w; rintro a w ⟨q65, rfl, hE, hS⟩
            refine W.cond hE rfl (fun hc77 => ?_) (fun hc77 => ?_)
            · replace hr := iteT hc77 hr
              refine W.seq ?_
              refine W.region ?_
              refine WL.vS hS hE (runs_plain rfl) (Gives.p hE rfl) rfl ?_; clear hE a; intro a hE
              refine WL.nil ?_
              refine W.ret ?_
              refine finG (fn := Try.f64) (rs := [.tmp 2]) (vs := [_]) hE rfl ⟨rfl, trivial⟩ ?_
              obtain rfl := Option.some.inj hr
              replace hS := hS.tail
              exact ⟨rfl, hS⟩
            · replace hr := iteF hc77 hr
              refine W.seq ?_
              obtain ⟨q79, hq78, hr⟩ := bndS hr
              refine W.cut (fun a w => ∃ (q82 : Bool), q82 = q79 ∧ Rep a 99 [(1, .pointer (some ⟨b51, 0, none⟩)), (54, .bool q82)] ∧ St w s (pt b51 (.cells #[.int .i64 x0.Kind, .int .i64 x0.A, .int .i64 x0.B, .slice a0_0 x0.Kids.length c0_0] 41 (0, 0)) :: R)) ?_ ?_
              · refine W.gen fun K83 hK83 => ?_
                refine W.region ?_
                refine WL.vS hS hE (runs_plain rfl) (Gives.fld hE rfl fl41_0) rfl ?_; clear hE a; intro a hE
                refine WL.vS hS hE (runs_plain rfl) (Gives.loadB hE 0 rfl rfl rfl ty3) rfl ?_; clear hE a; intro a hE
                refine WL.vS hS hE (runs_plain rfl) (Gives.p hE rfl) rfl ?_; clear hE a; intro a hE
                refine WL.vS hS hE (runs_plain rfl) (Gives.p hE rfl) rfl ?_; clear hE a; intro a hE
                rcases Bool.eq_false_or_eq_true (x0.Kind == 9) with hg84 | hg84
                · replace hq78 := iteT hg84 hq78
                  refine WL.vS hS hE (runs_if hE rfl rfl rfl hg84) (Gives.fld hE rfl fl41_3) rfl ?_; clear hE a; intro a hE
                  refine WL.vS hS hE (runs_if hE rfl rfl rfl hg84) (Gives.loadB hE 0 rfl rfl rfl ty39) rfl ?_; clear hE a; intro a hE
                  refine WL.vS hS hE (runs_if hE rfl rfl rfl hg84) (Gives.len hE rfl sl39) rfl ?_; clear hE a; intro a hE
                  refine WL.vS hS hE (runs_if hE rfl rfl rfl hg84) (Gives.p hE rfl) rfl ?_; clear hE a; intro a hE
                  refine WL.vS hS hE (runs_plain rfl) (Gives.pickT hE rfl hg84 rfl) rfl ?_; clear hE a; intro a hE
                  refine WL.vS hS hE (runs_plain rfl) (Gives.p hE rfl) rfl ?_; clear hE a; intro a hE
                  rcases Bool.eq_false_or_eq_true (((x0.Kids).length : Int) != 1) with hg85 | hg85
                  · replace hq78 := iteT hg85 hq78
                    refine WL.no hE (runs_not hE rfl rfl rfl (by rw [hg85]; decide)) rfl ?_; clear hE a; intro a hE
                    refine WL.no hE (runs_not hE rfl rfl rfl (by rw [hg85]; decide)) rfl ?_; clear hE a; intro a hE
                    refine WL.no hE (runs_not hE rfl rfl rfl (by rw [hg85]; decide)) rfl ?_; clear hE a; intro a hE
                    refine WL.no hE (runs_not hE rfl rfl rfl (by rw [hg85]; decide)) rfl ?_; clear hE a; intro a hE
                    refine WL.no hE (runs_undef hE rfl rfl rfl) rfl ?_; clear hE a; intro a hE
                    refine WL.no hE (runs_undef hE rfl rfl rfl) rfl ?_; clear hE a; intro a hE
                    refine WL.no hE (runs_undef hE rfl rfl rfl) rfl ?_; clear hE a; intro a hE
                    refine WL.no hE (runs_undef hE rfl rfl rfl) rfl ?_; clear hE a; intro a hE
                    refine WL.no hE (runs_not hE rfl rfl rfl (by rw [hg85]; decide)) rfl ?_; clear hE a; intro a hE
                    refine WL.vS hS hE (runs_plain rfl) (Gives.pickT hE rfl hg85 rfl) rfl ?_; clear hE a; intro a hE
                    refine WL.vS hS hE (runs_plain rfl) (Gives.p hE rfl) rfl ?_; clear hE a; intro a hE
                    refine WL.no hE (runs_not hE rfl rfl rfl (by decide)) rfl ?_; clear hE a; intro a hE
                    refine WL.no hE (runs_not hE rfl rfl rfl (by decide)) rfl ?_; clear hE a; intro a hE
                    refine WL.no hE (runs_not hE rfl rfl rfl (by decide)) rfl ?_; clear hE a; intro a hE
                    refine WL.no hE (runs_not hE rfl rfl rfl (by decide)) rfl ?_; clear hE a; intro a hE
                    refine WL.no hE (runs_undef hE rfl rfl rfl) rfl ?_; clear hE a; intro a hE
                    refine WL.no hE (runs_undef hE rfl rfl rfl) rfl ?_; clear hE a; intro a hE
                    refine WL.no hE (runs_undef hE rfl rfl rfl) rfl ?_; clear hE a; intro a hE
                    refine WL.no hE (runs_undef hE rfl rfl rfl) rfl ?_; clear hE a; intro a hE
                    refine WL.no hE (runs_not hE rfl rfl rfl (by decide)) rfl ?_; clear hE a; intro a hE
                    refine WL.vS hS hE (runs_plain rfl) (Gives.pickT hE rfl rfl rfl) rfl ?_; clear hE a; intro a hE
                    refine WL.vS hS hE (runs_plain rfl) (Gives.p hE rfl) rfl ?_; clear hE a; intro a hE
                    refine WL.nil ?_
                    subst hK83
                    exact ⟨true, hq78, hE.pick _ ⟨rfl, rfl, trivial⟩, hS⟩
                  · replace hq78 := iteF hg85 hq78
                    refine WL.vS hS hE (runs_if hE rfl rfl rfl hg85) (Gives.fld hE rfl fl41_0) rfl ?_; clear hE a; intro a hE
                    refine WL.vS hS hE (runs_if hE rfl rfl rfl hg85) (Gives.loadB hE 0 rfl rfl rfl ty3) rfl ?_; clear hE a; intro a hE
                    refine WL.vS hS hE (runs_if hE rfl rfl rfl hg85) (Gives.p hE rfl) rfl ?_; clear hE a; intro a hE
                    refine WL.vS hS hE (runs_if hE rfl rfl rfl hg85) (Gives.p hE rfl) rfl ?_; clear hE a; intro a hE
                    rcases Bool.eq_false_or_eq_true (decide (x0.Kind > 9)) with hg86 | hg86
                    · replace hq78 := iteT hg86 hq78
                      refine WL.vS hS hE (runs_if hE rfl rfl rfl hg86) (Gives.fld hE rfl fl41_3) rfl ?_; clear hE a; intro a hE
                      refine WL.vS hS hE (runs_if hE rfl rfl rfl hg86) (Gives.loadB hE 0 rfl rfl rfl ty39) rfl ?_; clear hE a; intro a hE
                      refine WL.vS hS hE (runs_if hE rfl rfl rfl hg86) (Gives.len hE rfl sl39) rfl ?_; clear hE a; intro a hE
                      refine WL.vS hS hE (runs_if hE rfl rfl rfl hg86) (Gives.p hE rfl) rfl ?_; clear hE a; intro a hE
                      refine WL.vS hS hE (runs_if hE rfl rfl rfl hg85) (Gives.pickT hE rfl hg86 rfl) rfl ?_; clear hE a; intro a hE
                      refine WL.vS hS hE (runs_plain rfl) (Gives.pickF hE rfl hg85 rfl) rfl ?_; clear hE a; intro a hE
                      refine WL.vS hS hE (runs_plain rfl) (Gives.p hE rfl) rfl ?_; clear hE a; intro a hE
                      rcases Bool.eq_false_or_eq_true (decide (((x0.Kids).length : Int) < 2)) with hg87 | hg87
                      · replace hq78 := iteT hg87 hq78
                        refine WL.no hE (runs_not hE rfl rfl rfl (by rw [hg87]; decide)) rfl ?_; clear hE a; intro a hE
                        refine WL.no hE (runs_not hE rfl rfl rfl (by rw [hg87]; decide)) rfl ?_; clear hE a; intro a hE
                        refine WL.no hE (runs_not hE rfl rfl rfl (by rw [hg87]; decide)) rfl ?_; clear hE a; intro a hE
                        refine WL.no hE (runs_not hE rfl rfl rfl (by rw [hg87]; decide)) rfl ?_; clear hE a; intro a hE
                        refine WL.no hE (runs_undef hE rfl rfl rfl) rfl ?_; clear hE a; intro a hE
                        refine WL.no hE (runs_undef hE rfl rfl rfl) rfl ?_; clear hE a; intro a hE
                        refine WL.no hE (runs_undef hE rfl rfl rfl) rfl ?_; clear hE a; intro a hE
                        refine WL.no hE (runs_undef hE rfl rfl rfl) rfl ?_; clear hE a; intro a hE
                        refine WL.no hE (runs_not hE rfl rfl rfl (by rw [hg87]; decide)) rfl ?_; clear hE a; intro a hE
                        refine WL.vS hS hE (runs_plain rfl) (Gives.pickT hE rfl hg87 rfl) rfl ?_; clear hE a; intro a hE
                        refine WL.vS hS hE (runs_plain rfl) (Gives.p hE rfl) rfl ?_; clear hE a; intro a hE
                        refine WL.nil ?_
                        subst hK83
                        exact ⟨true, hq78, hE.pick _ ⟨rfl, rfl, trivial⟩, hS⟩
                      · replace hq78 := iteF hg87 hq78
                        refine WL.vS hS hE (runs_if hE rfl rfl rfl hg87) (Gives.fld hE rfl fl41_0) rfl ?_; clear hE a; intro a hE
                        refine WL.vS hS hE (runs_if hE rfl rfl rfl hg87) (Gives.loadB hE 0 rfl rfl rfl ty3) rfl ?_; clear hE a; intro a hE
                        refine WL.vS hS hE (runs_if hE rfl rfl rfl hg87) (Gives.p hE rfl) rfl ?_; clear hE a; intro a hE
                        refine WL.vS hS hE (runs_if hE rfl rfl rfl hg87) (Gives.p hE rfl) rfl ?_; clear hE a; intro a hE
                        rcases Bool.eq_false_or_eq_true (decide (x0.Kind < 9)) with hg88 | hg88
                        · replace hq78 := iteT hg88 hq78
                          refine WL.vS hS hE (runs_if hE rfl rfl rfl hg88) (Gives.fld hE rfl fl41_3) rfl ?_; clear hE a; intro a hE
                          refine WL.vS hS hE (runs_if hE rfl rfl rfl hg88) (Gives.loadB hE 0 rfl rfl rfl ty39) rfl ?_; clear hE a; intro a hE
                          refine WL.vS hS hE (runs_if hE rfl rfl rfl hg88) (Gives.len hE rfl sl39) rfl ?_; clear hE a; intro a hE
                          refine WL.vS hS hE (runs_if hE rfl rfl rfl hg88) (Gives.p hE rfl) rfl ?_; clear hE a; intro a hE
                          refine WL.vS hS hE (runs_if hE rfl rfl rfl hg87) (Gives.pickT hE rfl hg88 rfl) rfl ?_; clear hE a; intro a hE
                          refine WL.vS hS hE (runs_plain rfl) (Gives.pickF hE rfl hg87 rfl) rfl ?_; clear hE a; intro a hE
                          refine WL.vS hS hE (runs_plain rfl) (Gives.p hE rfl) rfl ?_; clear hE a; intro a hE
                          refine WL.nil ?_
                          subst hK83
                          exact ⟨decide (((x0.Kids).length : Int) > 0), hq78, hE.pick _ ⟨rfl, rfl, trivial⟩, hS⟩
                        · replace hq78 := iteF hg88 hq78
                          refine WL.no hE (runs_not hE rfl rfl rfl (by rw [hg88]; decide)) rfl ?_; clear hE a; intro a hE
                          refine WL.no hE (runs_not hE rfl rfl rfl (by rw [hg88]; decide)) rfl ?_; clear hE a; intro a hE
                          refine WL.no hE (runs_not hE rfl rfl rfl (by rw [hg88]; decide)) rfl ?_; clear hE a; intro a hE
                          refine WL.no hE (runs_not hE rfl rfl rfl (by rw [hg88]; decide)) rfl ?_; clear hE a; intro a hE
                          refine WL.vS hS hE (runs_if hE rfl rfl rfl hg87) (Gives.pickF hE rfl hg88 rfl) rfl ?_; clear hE a; intro a hE
                          refine WL.vS hS hE (runs_plain rfl) (Gives.pickF hE rfl hg87 rfl) rfl ?_; clear hE a; intro a hE
                          refine WL.vS hS hE (runs_plain rfl) (Gives.p hE rfl) rfl ?_; clear hE a; intro a hE
                          refine WL.nil ?_
                          subst hK83
                          exact ⟨false, hq78, hE.pick _ ⟨rfl, rfl, trivial⟩, hS⟩
                    · replace hq78 := iteF hg86 hq78
                      refine WL.no hE (runs_not hE rfl rfl rfl (by rw [hg86]; decide)) rfl ?_; clear hE a; intro a hE
                      refine WL.no hE (runs_not hE rfl rfl rfl (by rw [hg86]; decide)) rfl ?_; clear hE a; intro a hE
                      refine WL.no hE (runs_not hE rfl rfl rfl (by rw [hg86]; decide)) rfl ?_; clear hE a; intro a hE
                      refine WL.no hE (runs_not hE rfl rfl rfl (by rw [hg86]; decide)) rfl ?_; clear hE a; intro a hE
                      refine WL.vS hS hE (runs_if hE rfl rfl rfl hg85) (Gives.pickF hE rfl hg86 rfl) rfl ?_; clear hE a; intro a hE
                      refine WL.vS hS hE (runs_plain rfl) (Gives.pickF hE rfl hg85 rfl) rfl ?_; clear hE a; intro a hE
                      refine WL.vS hS hE (runs_plain rfl) (Gives.p hE rfl) rfl ?_; clear hE a; intro a hE
                      refine WL.vS hS hE (runs_if hE rfl rfl rfl rfl) (Gives.fld hE rfl fl41_0) rfl ?_; clear hE a; intro a hE
                      refine WL.vS hS hE (runs_if hE rfl rfl rfl rfl) (Gives.loadB hE 0 rfl rfl rfl ty3) rfl ?_; clear hE a; intro a hE
                      refine WL.vS hS hE (runs_if hE rfl rfl rfl rfl) (Gives.p hE rfl) rfl ?_; clear hE a; intro a hE
                      refine WL.vS hS hE (runs_if hE rfl rfl rfl rfl) (Gives.p hE rfl) rfl ?_; clear hE a; intro a hE
                      rcases Bool.eq_false_or_eq_true (decide (x0.Kind < 9)) with hg89 | hg89
                      · replace hq78 := iteT hg89 hq78
                        refine WL.vS hS hE (runs_if hE rfl rfl rfl hg89) (Gives.fld hE rfl fl41_3) rfl ?_; clear hE a; intro a hE
                        refine WL.vS hS hE (runs_if hE rfl rfl rfl hg89) (Gives.loadB hE 0 rfl rfl rfl ty39) rfl ?_; clear hE a; intro a hE
                        refine WL.vS hS hE (runs_if hE rfl rfl rfl hg89) (Gives.len hE rfl sl39) rfl ?_; clear hE a; intro a hE
                        refine WL.vS hS hE (runs_if hE rfl rfl rfl hg89) (Gives.p hE rfl) rfl ?_; clear hE a; intro a hE
                        refine WL.vS hS hE (runs_if hE rfl rfl rfl rfl) (Gives.pickT hE rfl hg89 rfl) rfl ?_; clear hE a; intro a hE
                        refine WL.vS hS hE (runs_plain rfl) (Gives.pickF hE rfl rfl rfl) rfl ?_; clear hE a; intro a hE
                        refine WL.vS hS hE (runs_plain rfl) (Gives.p hE rfl) rfl ?_; clear hE a; intro a hE
                        refine WL.nil ?_
                        subst hK83
                        exact ⟨decide (((x0.Kids).length : Int) > 0), hq78, hE.pick _ ⟨rfl, rfl, trivial⟩, hS⟩
                      · replace hq78 := iteF hg89 hq78
                        refine WL.no hE (runs_not hE rfl rfl rfl (by rw [hg89]; decide)) rfl ?_; clear hE a; intro a hE
                        refine WL.no hE (runs_not hE rfl rfl rfl (by rw [hg89]; decide)) rfl ?_; clear hE a; intro a hE
                        refine WL.no hE (runs_not hE rfl rfl rfl (by rw [hg89]; decide)) rfl ?_; clear hE a; intro a hE
                        refine WL.no hE (runs_not hE rfl rfl rfl (by rw [hg89]; decide)) rfl ?_; clear hE a; intro a hE
                        refine WL.vS hS hE (runs_if hE rfl rfl rfl rfl) (Gives.pickF hE rfl hg89 rfl) rfl ?_; clear hE a; intro a hE
                        refine WL.vS hS hE (runs_plain rfl) (Gives.pickF hE rfl rfl rfl) rfl ?_; clear hE a; intro a hE
                        refine WL.vS hS hE (runs_plain rfl) (Gives.p hE rfl) rfl ?_; clear hE a; intro a hE
                        refine WL.nil ?_
                        subst hK83
                        exact ⟨false, hq78, hE.pick _ ⟨rfl, rfl, trivial⟩, hS⟩
                · replace hq78 := iteF hg84 hq78
                  refine WL.no hE (runs_not hE rfl rfl rfl (by rw [hg84]; decide)) rfl ?_; clear hE a; intro a hE
                  refine WL.no hE (runs_not hE rfl rfl rfl (by rw [hg84]; decide)) rfl ?_; clear hE a; intro a hE
                  refine WL.no hE (runs_not hE rfl rfl rfl (by rw [hg84]; decide)) rfl ?_; clear hE a; intro a hE
                  refine WL.no hE (runs_not hE rfl rfl rfl (by rw [hg84]; decide)) rfl ?_; clear hE a; intro a hE
                  refine WL.vS hS hE (runs_plain rfl) (Gives.pickF hE rfl hg84 rfl) rfl ?_; clear hE a; intro a hE
                  refine WL.vS hS hE (runs_plain rfl) (Gives.p hE rfl) rfl ?_; clear hE a; intro a hE
                  refine WL.vS hS hE (runs_if hE rfl rfl rfl rfl) (Gives.fld hE rfl fl41_0) rfl ?_; clear hE a; intro a hE
                  refine WL.vS hS hE (runs_if hE rfl rfl rfl rfl) (Gives.loadB hE 0 rfl rfl rfl ty3) rfl ?_; clear hE a; intro a hE
                  refine WL.vS hS hE (runs_if hE rfl rfl rfl rfl) (Gives.p hE rfl) rfl ?_; clear hE a; intro a hE
                  refine WL.vS hS hE (runs_if hE rfl rfl rfl rfl) (Gives.p hE rfl) rfl ?_; clear hE a; intro a hE
                  rcases Bool.eq_false_or_eq_true (decide (x0.Kind > 9)) with hg90 | hg90
                  · replace hq78 := iteT hg90 hq78
                    refine WL.vS hS hE (runs_if hE rfl rfl rfl hg90) (Gives.fld hE rfl fl41_3) rfl ?_; clear hE a; intro a hE
                    refine WL.vS hS hE (runs_if hE rfl rfl rfl hg90) (Gives.loadB hE 0 rfl rfl rfl ty39) rfl ?_; clear hE a; intro a hE
                    refine WL.vS hS hE (runs_if hE rfl rfl rfl hg90) (Gives.len hE rfl sl39) rfl ?_; clear hE a; intro a hE
                    refine WL.vS hS hE (runs_if hE rfl rfl rfl hg90) (Gives.p hE rfl) rfl ?_; clear hE a; intro a hE
                    refine WL.vS hS hE (runs_if hE rfl rfl rfl rfl) (Gives.pickT hE rfl hg90 rfl) rfl ?_; clear hE a; intro a hE
                    refine WL.vS hS hE (runs_plain rfl) (Gives.pickF hE rfl rfl rfl) rfl ?_; clear hE a; intro a hE
                    refine WL.vS hS hE (runs_plain rfl) (Gives.p hE rfl) rfl ?_; clear hE a; intro a hE
                    rcases Bool.eq_false_or_eq_true (decide (((x0.Kids).length : Int) < 2)) with hg91 | hg91
                    · replace hq78 := iteT hg91 hq78
                      refine WL.no hE (runs_not hE rfl rfl rfl (by rw [hg91]; decide)) rfl ?_; clear hE a; intro a hE
                      refine WL.no hE (runs_not hE rfl rfl rfl (by rw [hg91]; decide)) rfl ?_; clear hE a; intro a hE
                      refine WL.no hE (runs_not hE rfl rfl rfl (by rw [hg91]; decide)) rfl ?_; clear hE a; intro a hE
                      refine WL.no hE (runs_not hE rfl rfl rfl (by rw [hg91]; decide)) rfl ?_; clear hE a; intro a hE
                      refine WL.no hE (runs_undef hE rfl rfl rfl) rfl ?_; clear hE a; intro a hE
                      refine WL.no hE (runs_undef hE rfl rfl rfl) rfl ?_; clear hE a; intro a hE
                      refine WL.no hE (runs_undef hE rfl rfl rfl) rfl ?_; clear hE a; intro a hE
                      refine WL.no hE (runs_undef hE rfl rfl rfl) rfl ?_; clear hE a; intro a hE
                      refine WL.no hE (runs_not hE rfl rfl rfl (by rw [hg91]; decide)) rfl ?_; clear hE a; intro a hE
                      refine WL.vS hS hE (runs_plain rfl) (Gives.pickT hE rfl hg91 rfl) rfl ?_; clear hE a; intro a hE
                      refine WL.vS hS hE (runs_plain rfl) (Gives.p hE rfl) rfl ?_; clear hE a; intro a hE
                      refine WL.nil ?_
                      subst hK83
                      exact ⟨true, hq78, hE.pick _ ⟨rfl, rfl, trivial⟩, hS⟩
                    · replace hq78 := iteF hg91 hq78
                      refine WL.vS hS hE (runs_if hE rfl rfl rfl hg91) (Gives.fld hE rfl fl41_0) rfl ?_; clear hE a; intro a hE
                      refine WL.vS hS hE (runs_if hE rfl rfl rfl hg91) (Gives.loadB hE 0 rfl rfl rfl ty3) rfl ?_; clear hE a; intro a hE
                      refine WL.vS hS hE (runs_if hE rfl rfl rfl hg91) (Gives.p hE rfl) rfl ?_; clear hE a; intro a hE
                      refine WL.vS hS hE (runs_if hE rfl rfl rfl hg91) (Gives.p hE rfl) rfl ?_; clear hE a; intro a hE
                      rcases Bool.eq_false_or_eq_true (decide (x0.Kind < 9)) with hg92 | hg92
                      · replace hq78 := iteT hg92 hq78
                        refine WL.vS hS hE (runs_if hE rfl rfl rfl hg92) (Gives.fld hE rfl fl41_3) rfl ?_; clear hE a; intro a hE
                        refine WL.vS hS hE (runs_if hE rfl rfl rfl hg92) (Gives.loadB hE 0 rfl rfl rfl ty39) rfl ?_; clear hE a; intro a hE
                        refine WL.vS hS hE (runs_if hE rfl rfl rfl hg92) (Gives.len hE rfl sl39) rfl ?_; clear hE a; intro a hE
                        refine WL.vS hS hE (runs_if hE rfl rfl rfl hg92) (Gives.p hE rfl) rfl ?_; clear hE a; intro a hE
                        refine WL.vS hS hE (runs_if hE rfl rfl rfl hg91) (Gives.pickT hE rfl hg92 rfl) rfl ?_; clear hE a; intro a hE
                        refine WL.vS hS hE (runs_plain rfl) (Gives.pickF hE rfl hg91 rfl) rfl ?_; clear hE a; intro a hE
                        refine WL.vS hS hE (runs_plain rfl) (Gives.p hE rfl) rfl ?_; clear hE a; intro a hE
                        refine WL.nil ?_
                        subst hK83
                        exact ⟨decide (((x0.Kids).length : Int) > 0), hq78, hE.pick _ ⟨rfl, rfl, trivial⟩, hS⟩
                      · replace hq78 := iteF hg92 hq78
                        refine WL.no hE (runs_not hE rfl rfl rfl (by rw [hg92]; decide)) rfl ?_; clear hE a; intro a hE
                        refine WL.no hE (runs_not hE rfl rfl rfl (by rw [hg92]; decide)) rfl ?_; clear hE a; intro a hE
                        refine WL.no hE (runs_not hE rfl rfl rfl (by rw [hg92]; decide)) rfl ?_; clear hE a; intro a hE
                        refine WL.no hE (runs_not hE rfl rfl rfl (by rw [hg92]; decide)) rfl ?_; clear hE a; intro a hE
                        refine WL.vS hS hE (runs_if hE rfl rfl rfl hg91) (Gives.pickF hE rfl hg92 rfl) rfl ?_; clear hE a; intro a hE
                        refine WL.vS hS hE (runs_plain rfl) (Gives.pickF hE rfl hg91 rfl) rfl ?_; clear hE a; intro a hE
                        refine WL.vS hS hE (runs_plain rfl) (Gives.p hE rfl) rfl ?_; clear hE a; intro a hE
                        refine WL.nil ?_
                        subst hK83
                        exact ⟨false, hq78, hE.pick _ ⟨rfl, rfl, trivial⟩, hS⟩
                  · replace hq78 := iteF hg90 hq78
                    refine WL.no hE (runs_not hE rfl rfl rfl (by rw [hg90]; decide)) rfl ?_; clear hE a; intro a hE
                    refine WL.no hE (runs_not hE rfl rfl rfl (by rw [hg90]; decide)) rfl ?_; clear hE a; intro a hE
                    refine WL.no hE (runs_not hE rfl rfl rfl (by rw [hg90]; decide)) rfl ?_; clear hE a; intro a hE
                    refine WL.no hE (runs_not hE rfl rfl rfl (by rw [hg90]; decide)) rfl ?_; clear hE a; intro a hE
                    refine WL.vS hS hE (runs_if hE rfl rfl rfl rfl) (Gives.pickF hE rfl hg90 rfl) rfl ?_; clear hE a; intro a hE
                    refine WL.vS hS hE (runs_plain rfl) (Gives.pickF hE rfl rfl rfl) rfl ?_; clear hE a; intro a hE
                    refine WL.vS hS hE (runs_plain rfl) (Gives.p hE rfl) rfl ?_; clear hE a; intro a hE
                    refine WL.vS hS hE (runs_if hE rfl rfl rfl rfl) (Gives.fld hE rfl fl41_0) rfl ?_; clear hE a; intro a hE
                    refine WL.vS hS hE (runs_if hE rfl rfl rfl rfl) (Gives.loadB hE 0 rfl rfl rfl ty3) rfl ?_; clear hE a; intro a hE
                    refine WL.vS hS hE (runs_if hE rfl rfl rfl rfl) (Gives.p hE rfl) rfl ?_; clear hE a; intro a hE
                    refine WL.vS hS hE (runs_if hE rfl rfl rfl rfl) (Gives.p hE rfl) rfl ?_; clear hE a; intro a hE
                    rcases Bool.eq_false_or_eq_true (decide (x0.Kind < 9)) with hg93 | hg93
                    · replace hq78 := iteT hg93 hq78
                      refine WL.vS hS hE (runs_if hE rfl rfl rfl hg93) (Gives.fld hE rfl fl41_3) rfl ?_; clear hE a; intro a hE
                      refine WL.vS hS hE (runs_if hE rfl rfl rfl hg93) (Gives.loadB hE 0 rfl rfl rfl ty39) rfl ?_; clear hE a; intro a hE
                      refine WL.vS hS hE (runs_if hE rfl rfl rfl hg93) (Gives.len hE rfl sl39) rfl ?_; clear hE a; intro a hE
                      refine WL.vS hS hE (runs_if hE rfl rfl rfl hg93) (Gives.p hE rfl) rfl ?_; clear hE a; intro a hE
                      refine WL.vS hS hE (runs_if hE rfl rfl rfl rfl) (Gives.pickT hE rfl hg93 rfl) rfl ?_; clear hE a; intro a hE
                      refine WL.vS hS hE (runs_plain rfl) (Gives.pickF hE rfl rfl rfl) rfl ?_; clear hE a; intro a hE
                      refine WL.vS hS hE (runs_plain rfl) (Gives.p hE rfl) rfl ?_; clear hE a; intro a hE
                      refine WL.nil ?_
                      subst hK83
                      exact ⟨decide (((x0.Kids).length : Int) > 0), hq78, hE.pick _ ⟨rfl, rfl, trivial⟩, hS⟩
                    · replace hq78 := iteF hg93 hq78
                      refine WL.no hE (runs_not hE rfl rfl rfl (by rw [hg93]; decide)) rfl ?_; clear hE a; intro a hE
                      refine WL.no hE (runs_not hE rfl rfl rfl (by rw [hg93]; decide)) rfl ?_; clear hE a; intro a hE
                      refine WL.no hE (runs_not hE rfl rfl rfl (by rw [hg93]; decide)) rfl ?_; clear hE a; intro a hE
                      refine WL.no hE (runs_not hE rfl rfl rfl (by rw [hg93]; decide)) rfl ?_; clear hE a; intro a hE
                      refine WL.vS hS hE (runs_if hE rfl rfl rfl rfl) (Gives.pickF hE rfl hg93 rfl) rfl ?_; clear hE a; intro a hE
                      refine WL.vS hS hE (runs_plain rfl) (Gives.pickF hE rfl rfl rfl) rfl ?_; clear hE a; intro a hE
                      refine WL.vS hS hE (runs_plain rfl) (Gives.p hE rfl) rfl ?_; clear hE a; intro a hE
                      refine WL.nil ?_
                      subst hK83
                      exact ⟨false, hq78, hE.pick _ ⟨rfl, rfl, trivial⟩, hS⟩
              · clear hE hS a w; rintro a w ⟨q82, rfl, hE, hS⟩
                refine W.cond hE rfl (fun hc94 => ?_) (fun hc94 => ?_)
                · replace hr := iteT hc94 hr
                  refine W.seq ?_
                  refine W.region ?_
                  refine WL.vS hS hE (runs_plain rfl) (Gives.p hE rfl) rfl ?_; clear hE a; intro a hE
                  refine WL.nil ?_
                  refine W.ret ?_
                  refine finG (fn := Try.f64) (rs := [.tmp 2]) (vs := [_]) hE rfl ⟨rfl, trivial⟩ ?_
                  obtain rfl := Option.some.inj hr
                  replace hS := hS.tail
                  exact ⟨rfl, hS⟩
                · replace hr := iteF hc94 hr
                  refine W.skip ?_
                  refine W.seq ?_
                  refine W.seq ?_
                  refine W.region ?_
                  refine WL.vS hS hE (runs_plain rfl) (Gives.fld hE rfl fl41_3) rfl ?_; clear hE a; intro a hE
                  refine WL.vS hS hE (runs_plain rfl) (Gives.loadB hE 0 rfl rfl rfl ty39) rfl ?_; clear hE a; intro a hE
                  refine WL.vS hS hE (runs_plain rfl) (Gives.len hE rfl sl39) rfl ?_; clear hE a; intro a hE
                  refine WL.vS hS hE (runs_plain rfl) (Gives.p hE rfl) rfl ?_; clear hE a; intro a hE
                  refine WL.nil ?_
                  obtain ⟨q96, hq95, hr⟩ := bindS hr
                  refine W.cut (fun a w => (.next ()) = q96 ∧ Rep a 99 [] ∧ St w s (pt b51 (.cells #[.int .i64 x0.Kind, .int .i64 x0.A, .int .i64 x0.B, .slice a0_0 x0.Kids.length c0_0] 41 (0, 0)) :: R)) ?_ ?_
                  · refine W.block ?_
                    refine W.loop (fun m a w => ∃ (rest99 : List FareCond) (k97 : Nat), rest99.length = m ∧ x0.Kids.drop k97 = rest99 ∧ FareCondnode.loop1 self_FareCondnode rest99 = some q96 ∧ Rep a 99 [(87, .slice a0_0 x0.Kids.length c0_0), (88, .int .i64 ((x0.Kids).length : Int)), (89, .int .i64 ((k97 : Nat) : Int))] ∧ St w s (pt b51 (.cells #[.int .i64 x0.Kind, .int .i64 x0.A, .int .i64 x0.B, .slice a0_0 x0.Kids.length c0_0] 41 (0, 0)) :: R)) (m := x0.Kids.length) ⟨x0.Kids, 0, rfl, rfl, hq95, hE.pick _ ⟨rfl, rfl, rfl, trivial⟩, hS⟩ ?_
                    clear hE hS a w hq95; rintro m103 a w ⟨rest99, k97, rfl, hd100, hq95, hE, hS⟩
                    refine W.gen fun K106 hK106 => ?_
                    rcases rest99 with _ | ⟨x98, rest99⟩
                    · have hlt101 := drop_nil hd100
                      refine W.seq ?_
                      refine W.region ?_
                      refine WL.vS hS hE (runs_plain rfl) (Gives.p hE rfl) rfl ?_; clear hE a; intro a hE
                      refine WL.nil ?_
                      refine W.seq ?_
                      refine W.condF hE rfl (decide_eq_false (by omega)) ?_
                      subst hK106
                      refine W.exit rfl ?_
                      exact ⟨Option.some.inj hq95, hE.pick _ trivial, hS⟩
                    · obtain ⟨hlt101, hx102, hd100⟩ := drop_cons hd100
                      rw [FareCondnode.loop1] at hq95
                      refine W.seq ?_
                      refine W.region ?_
                      refine WL.vS hS hE (runs_plain rfl) (Gives.p hE rfl) rfl ?_; clear hE a; intro a hE
                      refine WL.nil ?_
                      refine W.seq ?_
                      refine W.condT hE rfl (decide_eq_true (by omega)) ?_
                      refine W.skip ?_
                      refine W.seq ?_
                      refine W.block ?_
                      refine W.seq ?_
                      refine W.region ?_
                      obtain ⟨cs107, hl108, hR109, hat110⟩ := h0_0.at hx102
                      obtain ⟨a111, c112, rfl, h113⟩ := hR109.unf
                      refine WL.vS hS hE (runs_plain rfl) (Gives.idx hE k97 rfl rfl sl39 rfl hlt101 (h0_0.aok hlt101)) rfl ?_; clear hE a; intro a hE
                      refine WL.vS hS hE (runs_plain rfl) (Gives.loadA hE rfl (fun w h => hat110 w _ h) ty41) rfl ?_; clear hE a; intro a hE
                      refine WL.alloc hE hS (runs_plain rfl) zr41 rfl ?_; clear hE hS a w; intro b114 a w hE hS
                      refine WL.storeI hE hS 0 rfl [.int .i64 x98.Kind, .int .i64 x98.A, .int .i64 x98.B, .slice a111 x98.Kids.length c112] (runs_plain rfl) rfl rfl rfl ty41 rfl rfl rfl rfl ?_; clear hE hS a w; intro a w hE hS
                      refine WL.nil ?_
                      refine W.seq ?_
                      refine W.region ?_
                      refine WL.vS hS hE (runs_plain rfl) (Gives.loadBA hE 0 rfl rfl ty41) rfl ?_; clear hE a; intro a hE
                      obtain ⟨q115, hq116, hq95⟩ := bindS hq95
                      have hc_ := ih_FareCondnode hS h113 hq116
                      refine WL.fnq hE (hc_) (runs_plain rfl) bd64 rfl rfl rfl ?_
                      clear hE hS hc_; rintro e w ⟨rfl, hS⟩; refine ⟨_, rfl, ?_⟩; clear a; intro a hE
                      refine WL.vS hS hE (runs_plain rfl) (Gives.p hE rfl) rfl ?_; clear hE a; intro a hE
                      refine WL.nil ?_
                      refine W.seq ?_
                      refine W.region ?_
                      refine WL.vS hS hE (runs_plain rfl) (Gives.p hE rfl) rfl ?_; clear hE a; intro a hE
                      refine WL.vS hS hE (runs_plain rfl) (Gives.p hE rfl) rfl ?_; clear hE a; intro a hE
                      refine WL.nil ?_
                      refine W.cond hE rfl (fun hc117 => ?_) (fun hc117 => ?_)
                      · replace hq95 := iteT hc117 hq95
                        refine W.seq ?_
                        refine W.region ?_
                        refine WL.vS hS hE (runs_plain rfl) (Gives.p hE rfl) rfl ?_; clear hE a; intro a hE
                        refine WL.vS hS hE (runs_plain rfl) (Gives.p hE rfl) rfl ?_; clear hE a; intro a hE
                        refine WL.nil ?_
                        refine W.ret ?_
                        subst hK106
                        rw [← Option.some.inj hq95] at hr
                        dsimp only at hr
                        refine finG (fn := Try.f64) (rs := [.tmp 2]) (vs := [_]) hE rfl ⟨rfl, trivial⟩ ?_
                        obtain rfl := Option.some.inj hr
                        replace hS := hS.tail
                        replace hS := hS.tail
                        exact ⟨rfl, hS⟩
                      · replace hq95 := iteF hc117 hq95
                        refine W.skip ?_
                        refine W.region ?_
                        refine WL.vS hS hE (runs_plain rfl) (Gives.inc hE rfl (by have := h0_0.small; omega)) rfl ?_; clear hE a; intro a hE
                        refine WL.vS hS hE (runs_plain rfl) (Gives.p hE rfl) rfl ?_; clear hE a; intro a hE
                        refine WL.nil ?_
                        replace hS := hS.tail
                        subst hK106
                        exact ⟨rest99.length, Nat.lt_succ_self _, rest99, k97 + 1, rfl, hd100, hq95, hE.pick _ ⟨rfl, rfl, rfl, trivial⟩, hS⟩
                  · clear hE hS a w; rintro a w ⟨rfl, hE, hS⟩
                    dsimp only at hr
                    refine W.seq ?_
                    refine W.region ?_
                    refine WL.vS hS hE (runs_plain rfl) (Gives.p hE rfl) rfl ?_; clear hE a; intro a hE
                    refine WL.nil ?_
                    refine W.ret ?_
                    refine finG (fn := Try.f64) (rs := [.tmp 2]) (vs := [_]) hE rfl ⟨rfl, trivial⟩ ?_
                    obtain rfl := Option.some.inj hr
                    replace hS := hS.tail
                    exact ⟨rfl, hS⟩
set_option maxHeartbeats 8000000 in
theorem FareCondcheck_ok {fu : Nat}  {w : World} {s : Sg} {R : List HP} {x0 : FareCond} {a0_0 : Option Addr} {c0_0 : Nat} (hS : St w s (R)) (h0_0 : Sl 4 RFareCond s a0_0 c0_0 x0.Kids) {r : Int} (hr : FareCondcheck fu x0 = some r) :
    Calls Try.prog 40 [.agg [.int .i64 x0.Kind, .int .i64 x0.A, .int .i64 x0.B, .slice a0_0 x0.Kids.length c0_0].toArray].toArray w (fun e w => e = .returned (.int .i64 r) ∧ St w s (R)) := by
  refine enter Try.func40 rfl rfl rfl fun a hE => ?_
  rw [FareCondcheck] at hr
  refine W.seq ?_
  refine W.region ?_
  refine WL.box hE hS (runs_plain rfl) rfl rfl rfl ?_; clear hE hS a w; intro b51 a w hE hS
  refine WL.vS hS hE (runs_plain rfl) (Gives.p hE rfl) rfl ?_; clear hE a; intro a hE
  refine WL.nil ?_
  refine W.seq ?_
  refine W.seq ?_
  refine W.region ?_
  refine WL.vS hS hE (runs_plain rfl) (Gives.loadBA hE 0 rfl rfl ty41) rfl ?_; clear hE a; intro a hE
  obtain ⟨q52, hq53, hr⟩ := bindS hr
  have hc_ := FareCondsize_ok hS h0_0 hq53
  refine WL.fnq hE (hc_) (runs_plain rfl) bd63 rfl rfl rfl ?_
  clear hE hS hc_; rintro e w ⟨rfl, hS⟩; refine ⟨_, rfl, ?_⟩; clear a; intro a hE
  refine WL.vS hS hE (runs_plain rfl) (Gives.p hE rfl) rfl ?_; clear hE a; intro a hE
  refine WL.vS hS hE (runs_plain rfl) (Gives.p hE rfl) rfl ?_; clear hE a; intro a hE
  refine WL.vS hS hE (runs_plain rfl) (Gives.p hE rfl) rfl ?_; clear hE a; intro a hE
  refine WL.vS hS hE (runs_plain rfl) (Gives.p hE rfl) rfl ?_; clear hE a; intro a hE
  refine WL.vS hS hE (runs_plain rfl) (Gives.p hE rfl) rfl ?_; clear hE a; intro a hE
  refine WL.nil ?_
  refine W.seq ?_
  obtain ⟨q55, hq54, hr⟩ := bndS hr
  refine W.cut (fun a w => ∃ (q58 : Bool), q58 = q55 ∧ Rep a 18 [(1, .pointer (some ⟨b51, 0, none⟩)), (15, .bool q58)] ∧ St w s (pt b51 (.cells #[.int .i64 x0.Kind, .int .i64 x0.A, .int .i64 x0.B, .slice a0_0 x0.Kids.length c0_0] 41 (0, 0)) :: R)) ?_ ?_
  · refine W.gen fun K59 hK59 => ?_
    refine W.region ?_
    refine WL.vS hS hE (runs_plain rfl) (Gives.p hE rfl) rfl ?_; clear hE a; intro a hE
    refine WL.vS hS hE (runs_plain rfl) (Gives.p hE rfl) rfl ?_; clear hE a; intro a hE
    refine WL.vS hS hE (runs_plain rfl) (Gives.p hE rfl) rfl ?_; clear hE a; intro a hE
    rcases Bool.eq_false_or_eq_true (decide (q52.1 > 40)) with hg60 | hg60
    · replace hq54 := iteT hg60 hq54
      refine WL.no hE (runs_not hE rfl rfl rfl (by rw [hg60]; decide)) rfl ?_; clear hE a; intro a hE
      refine WL.no hE (runs_not hE rfl rfl rfl (by rw [hg60]; decide)) rfl ?_; clear hE a; intro a hE
      refine WL.vS hS hE (runs_plain rfl) (Gives.pickT hE rfl hg60 rfl) rfl ?_; clear hE a; intro a hE
      refine WL.nil ?_
      subst hK59
      exact ⟨true, hq54, hE.pick _ ⟨rfl, rfl, trivial⟩, hS⟩
    · replace hq54 := iteF hg60 hq54
      refine WL.vS hS hE (runs_if hE rfl rfl rfl hg60) (Gives.p hE rfl) rfl ?_; clear hE a; intro a hE
      refine WL.vS hS hE (runs_if hE rfl rfl rfl hg60) (Gives.p hE rfl) rfl ?_; clear hE a; intro a hE
      refine WL.vS hS hE (runs_plain rfl) (Gives.pickF hE rfl hg60 rfl) rfl ?_; clear hE a; intro a hE
      refine WL.nil ?_
      subst hK59
      exact ⟨decide (q52.2 > 6), hq54, hE.pick _ ⟨rfl, rfl, trivial⟩, hS⟩
  · clear hE hS a w; rintro a w ⟨q58, rfl, hE, hS⟩
    refine W.cond hE rfl (fun hc61 => ?_) (fun hc61 => ?_)
    · replace hr := iteT hc61 hr
      refine W.seq ?_
      refine W.region ?_
      refine WL.vS hS hE (runs_plain rfl) (Gives.p hE rfl) rfl ?_; clear hE a; intro a hE
      refine WL.nil ?_
      refine W.ret ?_
      refine finG (fn := Try.f40) (rs := [.tmp 2]) (vs := [_]) hE rfl ⟨rfl, trivial⟩ ?_
      obtain rfl := Option.some.inj hr
      replace hS := hS.tail
      exact ⟨rfl, hS⟩
    · replace hr := iteF hc61 hr
      refine W.skip ?_
      refine W.seq ?_
      refine W.region ?_
      refine WL.vS hS hE (runs_plain rfl) (Gives.loadBA hE 0 rfl rfl ty41) rfl ?_; clear hE a; intro a hE
      obtain ⟨q62, hq63, hr⟩ := bindS hr
      have hc_ := FareCondnode_ok hS h0_0 hq63
      refine WL.fnq hE (hc_) (runs_plain rfl) bd64 rfl rfl rfl ?_
      clear hE hS hc_; rintro e w ⟨rfl, hS⟩; refine ⟨_, rfl, ?_⟩; clear a; intro a hE
      refine WL.vS hS hE (runs_plain rfl) (Gives.p hE rfl) rfl ?_; clear hE a; intro a hE
      refine WL.nil ?_
      refine W.ret ?_
      refine finG (fn := Try.f40) (rs := [.tmp 2]) (vs := [_]) hE rfl ⟨rfl, trivial⟩ ?_
      obtain rfl := Option.some.inj hr
      replace hS := hS.tail
      exact ⟨rfl, hS⟩
set_option maxHeartbeats 8000000 in
theorem FareCheckTariff_ok {fu : Nat}  {w : World} {s : Sg} {R : List HP} {x0 : FareTariff} {a0_0 : Option Addr} {c0_0 : Nat} {a0_1 : Option Addr} {c0_1 : Nat} (hS : St w s (R)) (h0_0 : Sl 2 RFareBand s a0_0 c0_0 x0.Bands) (h0_1 : Sl 7 RFareRule s a0_1 c0_1 x0.Rules) {r : Int} (hr : FareCheckTariff fu x0 = some r) :
    Calls Try.prog 12 [.agg [.bool x0.ByKm, .slice a0_0 x0.Bands.length c0_0, .int .i64 x0.Round, .slice a0_1 x0.Rules.length c0_1].toArray].toArray w (fun e w => e = .returned (.int .i64 r) ∧ St w s (R)) := by
  refine enter Try.func12 rfl rfl rfl fun a hE => ?_
  rw [FareCheckTariff] at hr
  refine W.seq ?_
  refine W.region ?_
  refine WL.box hE hS (runs_plain rfl) rfl rfl rfl ?_; clear hE hS a w; intro b51 a w hE hS
  refine WL.vS hS hE (runs_plain rfl) (Gives.p hE rfl) rfl ?_; clear hE a; intro a hE
  refine WL.nil ?_
  refine W.seq ?_
  refine W.seq ?_
  obtain ⟨q53, hq52, hr⟩ := bndS hr
  refine W.cut (fun a w => ∃ (q56 : Bool), q56 = q53 ∧ Rep a 97 [(1, .pointer (some ⟨b51, 0, none⟩)), (19, .bool q56)] ∧ St w s (pt b51 (.cells #[.bool x0.ByKm, .slice a0_0 x0.Bands.length c0_0, .int .i64 x0.Round, .slice a0_1 x0.Rules.length c0_1] 25 (0, 0)) :: R)) ?_ ?_
  · refine W.gen fun K57 hK57 => ?_
    refine W.region ?_
    refine WL.vS hS hE (runs_plain rfl) (Gives.fld hE rfl fl25_1) rfl ?_; clear hE a; intro a hE
    refine WL.vS hS hE (runs_plain rfl) (Gives.loadB hE 0 rfl rfl rfl ty22) rfl ?_; clear hE a; intro a hE
    refine WL.vS hS hE (runs_plain rfl) (Gives.len hE rfl sl22) rfl ?_; clear hE a; intro a hE
    refine WL.fnq hE (Farewithin_ok hS  rfl) (runs_plain rfl) bd39 rfl rfl rfl ?_
    clear hE hS; rintro e w ⟨rfl, hS⟩; refine ⟨_, rfl, ?_⟩; clear a; intro a hE
    refine WL.vS hS hE (runs_plain rfl) (Gives.p hE rfl) rfl ?_; clear hE a; intro a hE
    refine WL.vS hS hE (runs_plain rfl) (Gives.p hE rfl) rfl ?_; clear hE a; intro a hE
    rcases Bool.eq_false_or_eq_true (!(Farewithin ((x0.Bands).length : Int) 1 8)) with hg58 | hg58
    · replace hq52 := iteT hg58 hq52
      refine WL.no hE (runs_not hE rfl rfl rfl (by rw [hg58]; decide)) rfl ?_; clear hE a; intro a hE
      refine WL.no hE (runs_not hE rfl rfl rfl (by rw [hg58]; decide)) rfl ?_; clear hE a; intro a hE
      refine WL.no hE (runs_not hE rfl rfl rfl (by rw [hg58]; decide)) rfl ?_; clear hE a; intro a hE
      refine WL.no hE (runs_not hE rfl rfl rfl (by rw [hg58]; decide)) rfl ?_; clear hE a; intro a hE
      refine WL.vS hS hE (runs_plain rfl) (Gives.pickT hE rfl hg58 rfl) rfl ?_; clear hE a; intro a hE
      refine WL.nil ?_
      subst hK57
      exact ⟨true, hq52, hE.pick _ ⟨rfl, rfl, trivial⟩, hS⟩
    · replace hq52 := iteF hg58 hq52
      refine WL.vS hS hE (runs_if hE rfl rfl rfl hg58) (Gives.fld hE rfl fl25_3) rfl ?_; clear hE a; intro a hE
      refine WL.vS hS hE (runs_if hE rfl rfl rfl hg58) (Gives.loadB hE 0 rfl rfl rfl ty23) rfl ?_; clear hE a; intro a hE
      refine WL.vS hS hE (runs_if hE rfl rfl rfl hg58) (Gives.len hE rfl sl23) rfl ?_; clear hE a; intro a hE
      refine WL.vS hS hE (runs_if hE rfl rfl rfl hg58) (Gives.p hE rfl) rfl ?_; clear hE a; intro a hE
      refine WL.vS hS hE (runs_plain rfl) (Gives.pickF hE rfl hg58 rfl) rfl ?_; clear hE a; intro a hE
      refine WL.nil ?_
      subst hK57
      exact ⟨decide (((x0.Rules).length : Int) > 20), hq52, hE.pick _ ⟨rfl, rfl, trivial⟩, hS⟩
  · clear hE hS a w; rintro a w ⟨q56, rfl, hE, hS⟩
    refine W.cond hE rfl (fun hc59 => ?_) (fun hc59 => ?_)
    · replace hr := iteT hc59 hr
      refine W.seq ?_
      refine W.region ?_
      refine WL.vS hS hE (runs_plain rfl) (Gives.p hE rfl) rfl ?_; clear hE a; intro a hE
      refine WL.nil ?_
      refine W.ret ?_
      refine finG (fn := Try.f12) (rs := [.tmp 2]) (vs := [_]) hE rfl ⟨rfl, trivial⟩ ?_
      obtain rfl := Option.some.inj hr
      replace hS := hS.tail
      exact ⟨rfl, hS⟩
    · replace hr := iteF hc59 hr
      refine W.skip ?_
      refine W.seq ?_
      refine W.seq ?_
      refine W.region ?_
      refine WL.vS hS hE (runs_plain rfl) (Gives.fld hE rfl fl25_1) rfl ?_; clear hE a; intro a hE
      refine WL.vS hS hE (runs_plain rfl) (Gives.loadB hE 0 rfl rfl rfl ty22) rfl ?_; clear hE a; intro a hE
      refine WL.vS hS hE (runs_plain rfl) (Gives.len hE rfl sl22) rfl ?_; clear hE a; intro a hE
      refine WL.vS hS hE (runs_plain rfl) (Gives.p hE rfl) rfl ?_; clear hE a; intro a hE
      refine WL.nil ?_
      obtain ⟨q61, hq60, hr⟩ := bindS hr
      refine W.cut (fun a w => (.next ()) = q61 ∧ Rep a 97 [(1, .pointer (some ⟨b51, 0, none⟩))] ∧ St w s (pt b51 (.cells #[.bool x0.ByKm, .slice a0_0 x0.Bands.length c0_0, .int .i64 x0.Round, .slice a0_1 x0.Rules.length c0_1] 25 (0, 0)) :: R)) ?_ ?_
      · refine W.block ?_
        refine W.loop (fun m a w => ∃ (rest64 : List FareBand) (k62 : Nat), rest64.length = m ∧ x0.Bands.drop k62 = rest64 ∧ FareCheckTariff.loop1 x0 rest64 k62 = some q61 ∧ Rep a 97 [(1, .pointer (some ⟨b51, 0, none⟩)), (21, .slice a0_0 x0.Bands.length c0_0), (22, .int .i64 ((x0.Bands).length : Int)), (23, .int .i64 ((k62 : Nat) : Int))] ∧ St w s (pt b51 (.cells #[.bool x0.ByKm, .slice a0_0 x0.Bands.length c0_0, .int .i64 x0.Round, .slice a0_1 x0.Rules.length c0_1] 25 (0, 0)) :: R)) (m := x0.Bands.length) ⟨x0.Bands, 0, rfl, rfl, hq60, hE.pick _ ⟨rfl, rfl, rfl, rfl, trivial⟩, hS⟩ ?_
        clear hE hS a w hq60; rintro m68 a w ⟨rest64, k62, rfl, hd65, hq60, hE, hS⟩
        refine W.gen fun K71 hK71 => ?_
        rcases rest64 with _ | ⟨x63, rest64⟩
        · have hlt66 := drop_nil hd65
          refine W.seq ?_
          refine W.region ?_
          refine WL.vS hS hE (runs_plain rfl) (Gives.p hE rfl) rfl ?_; clear hE a; intro a hE
          refine WL.nil ?_
          refine W.seq ?_
          refine W.condF hE rfl (decide_eq_false (by omega)) ?_
          subst hK71
          refine W.exit rfl ?_
          exact ⟨Option.some.inj hq60, hE.pick _ ⟨rfl, trivial⟩, hS⟩
        · obtain ⟨hlt66, hx67, hd65⟩ := drop_cons hd65
          rw [FareCheckTariff.loop1] at hq60
          refine W.seq ?_
          refine W.region ?_
          refine WL.vS hS hE (runs_plain rfl) (Gives.p hE rfl) rfl ?_; clear hE a; intro a hE
          refine WL.nil ?_
          refine W.seq ?_
          refine W.condT hE rfl (decide_eq_true (by omega)) ?_
          refine W.skip ?_
          refine W.seq ?_
          refine W.block ?_
          refine W.seq ?_
          refine W.region ?_
          refine WL.vS hS hE (runs_plain rfl) (Gives.p hE rfl) rfl ?_; clear hE a; intro a hE
          obtain ⟨cs72, hl73, hR74, hat75⟩ := h0_0.at hx67
          subst hR74
          refine WL.vS hS hE (runs_plain rfl) (Gives.idx hE k62 rfl rfl sl22 rfl hlt66 (h0_0.aok hlt66)) rfl ?_; clear hE a; intro a hE
          refine WL.vS hS hE (runs_plain rfl) (Gives.loadA hE rfl (fun w h => hat75 w _ h) ty75) rfl ?_; clear hE a; intro a hE
          refine WL.alloc hE hS (runs_plain rfl) zr75 rfl ?_; clear hE hS a w; intro b76 a w hE hS
          refine WL.vS hS hE (runs_plain rfl) (Gives.p hE rfl) rfl ?_; clear hE a; intro a hE
          refine WL.storeI hE hS 0 rfl (FareBand.cells x63) (runs_plain rfl) rfl rfl rfl ty75 rfl rfl rfl rfl ?_; clear hE hS a w; intro a w hE hS
          refine WL.nil ?_
          refine W.seq ?_
          refine W.seq ?_
          obtain ⟨q78, hq77, hq60⟩ := bndS hq60
          refine W.cut (fun a w => ∃ (q81 : Bool), q81 = q78 ∧ Rep a 97 [(1, .pointer (some ⟨b51, 0, none⟩)), (3, .int .i64 ((k62 : Nat) : Int)), (4, .pointer (some ⟨b76, 0, none⟩)), (21, .slice a0_0 x0.Bands.length c0_0), (22, .int .i64 ((x0.Bands).length : Int)), (23, .int .i64 ((k62 : Nat) : Int)), (37, .bool q81)] ∧ St w s (pt b76 (.cells (FareBand.cells x63).toArray 75 (0, 0)) :: pt b51 (.cells #[.bool x0.ByKm, .slice a0_0 x0.Bands.length c0_0, .int .i64 x0.Round, .slice a0_1 x0.Rules.length c0_1] 25 (0, 0)) :: R)) ?_ ?_
          · refine W.gen fun K82 hK82 => ?_
            refine W.region ?_
            refine WL.vS hS hE (runs_plain rfl) (Gives.fld hE rfl fl75_0) rfl ?_; clear hE a; intro a hE
            refine WL.vS hS hE (runs_plain rfl) (Gives.loadB hE 0 rfl rfl rfl ty3) rfl ?_; clear hE a; intro a hE
            refine WL.fnq hE (Farewithin_ok hS  rfl) (runs_plain rfl) bd39 rfl rfl rfl ?_
            clear hE hS; rintro e w ⟨rfl, hS⟩; refine ⟨_, rfl, ?_⟩; clear a; intro a hE
            refine WL.vS hS hE (runs_plain rfl) (Gives.p hE rfl) rfl ?_; clear hE a; intro a hE
            refine WL.vS hS hE (runs_plain rfl) (Gives.p hE rfl) rfl ?_; clear hE a; intro a hE
            rcases Bool.eq_false_or_eq_true (!(Farewithin x63.Upto 1 1000)) with hg83 | hg83
            · replace hq77 := iteT hg83 hq77
              refine WL.no hE (runs_not hE rfl rfl rfl (by rw [hg83]; decide)) rfl ?_; clear hE a; intro a hE
              refine WL.no hE (runs_not hE rfl rfl rfl (by rw [hg83]; decide)) rfl ?_; clear hE a; intro a hE
              refine WL.no hE (runs_not hE rfl rfl rfl (by rw [hg83]; decide)) rfl ?_; clear hE a; intro a hE
              refine WL.no hE (runs_not hE rfl rfl rfl (by rw [hg83]; decide)) rfl ?_; clear hE a; intro a hE
              refine WL.vS hS hE (runs_plain rfl) (Gives.pickT hE rfl hg83 rfl) rfl ?_; clear hE a; intro a hE
              refine WL.nil ?_
              subst hK82
              exact ⟨true, hq77, hE.pick _ ⟨rfl, rfl, rfl, rfl, rfl, rfl, rfl, trivial⟩, hS⟩
            · replace hq77 := iteF hg83 hq77
              refine WL.vS hS hE (runs_if hE rfl rfl rfl hg83) (Gives.fld hE rfl fl75_1) rfl ?_; clear hE a; intro a hE
              refine WL.vS hS hE (runs_if hE rfl rfl rfl hg83) (Gives.loadB hE 0 rfl rfl rfl ty3) rfl ?_; clear hE a; intro a hE
              refine WL.fnq hE (Farewithin_ok hS  rfl) (runs_if hE rfl rfl rfl hg83) bd39 rfl rfl rfl ?_
              clear hE hS; rintro e w ⟨rfl, hS⟩; refine ⟨_, rfl, ?_⟩; clear a; intro a hE
              refine WL.vS hS hE (runs_if hE rfl rfl rfl hg83) (Gives.p hE rfl) rfl ?_; clear hE a; intro a hE
              refine WL.vS hS hE (runs_plain rfl) (Gives.pickF hE rfl hg83 rfl) rfl ?_; clear hE a; intro a hE
              refine WL.nil ?_
              subst hK82
              exact ⟨!(Farewithin x63.Price 0 100000), hq77, hE.pick _ ⟨rfl, rfl, rfl, rfl, rfl, rfl, rfl, trivial⟩, hS⟩
          · clear hE hS a w; rintro a w ⟨q81, rfl, hE, hS⟩
            refine W.cond hE rfl (fun hc84 => ?_) (fun hc84 => ?_)
            · replace hq60 := iteT hc84 hq60
              refine W.seq ?_
              refine W.region ?_
              refine WL.vS hS hE (runs_plain rfl) (Gives.p hE rfl) rfl ?_; clear hE a; intro a hE
              refine WL.nil ?_
              refine W.ret ?_
              subst hK71
              rw [← Option.some.inj hq60] at hr
              dsimp only at hr
              refine finG (fn := Try.f12) (rs := [.tmp 2]) (vs := [_]) hE rfl ⟨rfl, trivial⟩ ?_
              obtain rfl := Option.some.inj hr
              replace hS := hS.tail
              replace hS := hS.tail
              exact ⟨rfl, hS⟩
            · replace hq60 := iteF hc84 hq60
              refine W.skip ?_
              refine W.seq ?_
              obtain ⟨q86, hq85, hq60⟩ := bindS hq60
              refine W.cut (fun a w => ∃ (q89 : Bool), q89 = q86 ∧ Rep a 97 [(1, .pointer (some ⟨b51, 0, none⟩)), (21, .slice a0_0 x0.Bands.length c0_0), (22, .int .i64 ((x0.Bands).length : Int)), (23, .int .i64 ((k62 : Nat) : Int)), (63, .bool q89)] ∧ St w s (pt b76 (.cells (FareBand.cells x63).toArray 75 (0, 0)) :: pt b51 (.cells #[.bool x0.ByKm, .slice a0_0 x0.Bands.length c0_0, .int .i64 x0.Round, .slice a0_1 x0.Rules.length c0_1] 25 (0, 0)) :: R)) ?_ ?_
              · refine W.gen fun K90 hK90 => ?_
                refine W.regionQ (C := fun w => St w s (pt b76 (.cells (FareBand.cells x63).toArray 75 (0, 0)) :: pt b51 (.cells #[.bool x0.ByKm, .slice a0_0 x0.Bands.length c0_0, .int .i64 x0.Round, .slice a0_1 x0.Rules.length c0_1] 25 (0, 0)) :: R)) mixed (by kernel_rfl) hS.drew ?_
                refine QL.v hE (runs_plain rfl) (Gives.p hE rfl) rfl ?_; clear hE a; intro a hE
                refine QL.v hE (runs_plain rfl) (Gives.p hE rfl) rfl ?_; clear hE a; intro a hE
                refine QL.v hE (runs_plain rfl) (Gives.p hE rfl) rfl ?_; clear hE a; intro a hE
                rcases Bool.eq_false_or_eq_true (decide (((k62 : Nat) : Int) > 0)) with hg91 | hg91
                · replace hq85 := iteT hg91 hq85
                  refine QL.v hE (runs_if hE rfl rfl rfl hg91) (Gives.fld hE rfl fl75_0) rfl ?_; clear hE a; intro a hE
                  refine QL.v hE (runs_if hE rfl rfl rfl hg91) (Gives.loadB hE 0 rfl rfl rfl ty3) rfl ?_; clear hE a; intro a hE
                  refine QL.v hE (runs_if hE rfl rfl rfl hg91) (Gives.fld hE rfl fl25_1) rfl ?_; clear hE a; intro a hE
                  refine QL.v hE (runs_if hE rfl rfl rfl hg91) (Gives.loadB hE 1 rfl rfl rfl ty22) rfl ?_; clear hE a; intro a hE
                  refine QL.v hE (runs_if hE rfl rfl rfl hg91) (Gives.p hE rfl) rfl ?_; clear hE a; intro a hE
                  refine QL.v hE (runs_if hE rfl rfl rfl hg91) (Gives.p hE rfl) rfl ?_; clear hE a; intro a hE
                  obtain ⟨x92, hx93, hq85⟩ := bindS hq85
                  obtain ⟨hi94, hlt95, hy96⟩ := gx_some hx93
                  obtain ⟨cs97, hl98, hR99, hat100⟩ := h0_0.at hy96
                  subst hR99
                  refine QL.v hE (runs_if hE rfl rfl rfl hg91) (Gives.idx hE (w64 (((k62 : Nat) : Int) - 1)).toNat rfl rfl sl22 hi94 hlt95 (h0_0.aok hlt95)) rfl ?_; clear hE a; intro a hE
                  refine QL.v hE (runs_if hE rfl rfl rfl hg91) (Gives.fld hE rfl fl75_0) rfl ?_; clear hE a; intro a hE
                  refine QL.v hE (runs_if hE rfl rfl rfl hg91) (Gives.load1 hE rfl (fun w h => (hat100 w _ h).one rfl) ty3) rfl ?_; clear hE a; intro a hE
                  refine QL.v hE (runs_if hE rfl rfl rfl hg91) (Gives.p hE rfl) rfl ?_; clear hE a; intro a hE
                  refine QL.v hE (runs_if hE rfl rfl rfl hg91) (Gives.p hE rfl) rfl ?_; clear hE a; intro a hE
                  rcases Bool.eq_false_or_eq_true (decide (x63.Upto ≤ x92.Upto)) with hg101 | hg101
                  · replace hq85 := iteT hg101 hq85
                    refine QL.no hE (runs_not hE rfl rfl rfl (by rw [hg101]; decide)) rfl ?_; clear hE a; intro a hE
                    refine QL.no hE (runs_not hE rfl rfl rfl (by rw [hg101]; decide)) rfl ?_; clear hE a; intro a hE
                    refine QL.no hE (runs_not hE rfl rfl rfl (by rw [hg101]; decide)) rfl ?_; clear hE a; intro a hE
                    refine QL.no hE (runs_not hE rfl rfl rfl (by rw [hg101]; decide)) rfl ?_; clear hE a; intro a hE
                    refine QL.no hE (runs_not hE rfl rfl rfl (by rw [hg101]; decide)) rfl ?_; clear hE a; intro a hE
                    refine QL.no hE (runs_not hE rfl rfl rfl (by rw [hg101]; decide)) rfl ?_; clear hE a; intro a hE
                    refine QL.no hE (runs_not hE rfl rfl rfl (by rw [hg101]; decide)) rfl ?_; clear hE a; intro a hE
                    refine QL.no hE (runs_not hE rfl rfl rfl (by rw [hg101]; decide)) rfl ?_; clear hE a; intro a hE
                    refine QL.no hE (runs_not hE rfl rfl rfl (by rw [hg101]; decide)) rfl ?_; clear hE a; intro a hE
                    refine QL.no hE (runs_not hE rfl rfl rfl (by rw [hg101]; decide)) rfl ?_; clear hE a; intro a hE
                    refine QL.v hE (runs_if hE rfl rfl rfl hg91) (Gives.pickT hE rfl hg101 rfl) rfl ?_; clear hE a; intro a hE
                    refine QL.v hE (runs_plain rfl) (Gives.pickT hE rfl hg91 rfl) rfl ?_; clear hE a; intro a hE
                    refine QL.nil ?_; clear hS w; intro w hS
                    subst hK90
                    exact ⟨true, Option.some.inj hq85, hE.pick _ ⟨rfl, rfl, rfl, rfl, rfl, trivial⟩, hS⟩
                  · replace hq85 := iteF hg101 hq85
                    refine QL.v hE (runs_if hE rfl rfl rfl hg101) (Gives.fld hE rfl fl75_1) rfl ?_; clear hE a; intro a hE
                    refine QL.v hE (runs_if hE rfl rfl rfl hg101) (Gives.loadB hE 0 rfl rfl rfl ty3) rfl ?_; clear hE a; intro a hE
                    refine QL.v hE (runs_if hE rfl rfl rfl hg101) (Gives.fld hE rfl fl25_1) rfl ?_; clear hE a; intro a hE
                    refine QL.v hE (runs_if hE rfl rfl rfl hg101) (Gives.loadB hE 1 rfl rfl rfl ty22) rfl ?_; clear hE a; intro a hE
                    refine QL.v hE (runs_if hE rfl rfl rfl hg101) (Gives.p hE rfl) rfl ?_; clear hE a; intro a hE
                    refine QL.v hE (runs_if hE rfl rfl rfl hg101) (Gives.p hE rfl) rfl ?_; clear hE a; intro a hE
                    obtain ⟨x102, hx103, hq85⟩ := bindS hq85
                    obtain ⟨hi104, hlt105, hy106⟩ := gx_some hx103
                    obtain ⟨cs107, hl108, hR109, hat110⟩ := h0_0.at hy106
                    subst hR109
                    refine QL.v hE (runs_if hE rfl rfl rfl hg101) (Gives.idx hE (w64 (((k62 : Nat) : Int) - 1)).toNat rfl rfl sl22 hi104 hlt105 (h0_0.aok hlt105)) rfl ?_; clear hE a; intro a hE
                    refine QL.v hE (runs_if hE rfl rfl rfl hg101) (Gives.fld hE rfl fl75_1) rfl ?_; clear hE a; intro a hE
                    refine QL.v hE (runs_if hE rfl rfl rfl hg101) (Gives.load1 hE rfl (fun w h => (hat110 w _ h).one rfl) ty3) rfl ?_; clear hE a; intro a hE
                    refine QL.v hE (runs_if hE rfl rfl rfl hg101) (Gives.p hE rfl) rfl ?_; clear hE a; intro a hE
                    refine QL.v hE (runs_if hE rfl rfl rfl hg91) (Gives.pickF hE rfl hg101 rfl) rfl ?_; clear hE a; intro a hE
                    refine QL.v hE (runs_plain rfl) (Gives.pickT hE rfl hg91 rfl) rfl ?_; clear hE a; intro a hE
                    refine QL.nil ?_; clear hS w; intro w hS
                    subst hK90
                    exact ⟨decide (x63.Price < x102.Price), Option.some.inj hq85, hE.pick _ ⟨rfl, rfl, rfl, rfl, rfl, trivial⟩, hS⟩
                · replace hq85 := iteF hg91 hq85
                  refine QL.no hE (runs_not hE rfl rfl rfl (by rw [hg91]; decide)) rfl ?_; clear hE a; intro a hE
                  refine QL.no hE (runs_not hE rfl rfl rfl (by rw [hg91]; decide)) rfl ?_; clear hE a; intro a hE
                  refine QL.no hE (runs_not hE rfl rfl rfl (by rw [hg91]; decide)) rfl ?_; clear hE a; intro a hE
                  refine QL.no hE (runs_not hE rfl rfl rfl (by rw [hg91]; decide)) rfl ?_; clear hE a; intro a hE
                  refine QL.no hE (runs_not hE rfl rfl rfl (by rw [hg91]; decide)) rfl ?_; clear hE a; intro a hE
                  refine QL.no hE (runs_not hE rfl rfl rfl (by rw [hg91]; decide)) rfl ?_; clear hE a; intro a hE
                  refine QL.no hE (runs_not hE rfl rfl rfl (by rw [hg91]; decide)) rfl ?_; clear hE a; intro a hE
                  refine QL.no hE (runs_not hE rfl rfl rfl (by rw [hg91]; decide)) rfl ?_; clear hE a; intro a hE
                  refine QL.no hE (runs_not hE rfl rfl rfl (by rw [hg91]; decide)) rfl ?_; clear hE a; intro a hE
                  refine QL.no hE (runs_not hE rfl rfl rfl (by rw [hg91]; decide)) rfl ?_; clear hE a; intro a hE
                  refine QL.no hE (runs_not hE rfl rfl rfl (by rw [hg91]; decide)) rfl ?_; clear hE a; intro a hE
                  refine QL.no hE (runs_undef hE rfl rfl rfl) rfl ?_; clear hE a; intro a hE
                  refine QL.no hE (runs_undef hE rfl rfl rfl) rfl ?_; clear hE a; intro a hE
                  refine QL.no hE (runs_undef hE rfl rfl rfl) rfl ?_; clear hE a; intro a hE
                  refine QL.no hE (runs_undef hE rfl rfl rfl) rfl ?_; clear hE a; intro a hE
                  refine QL.no hE (runs_undef hE rfl rfl rfl) rfl ?_; clear hE a; intro a hE
                  refine QL.no hE (runs_undef hE rfl rfl rfl) rfl ?_; clear hE a; intro a hE
                  refine QL.no hE (runs_undef hE rfl rfl rfl) rfl ?_; clear hE a; intro a hE
                  refine QL.no hE (runs_undef hE rfl rfl rfl) rfl ?_; clear hE a; intro a hE
                  refine QL.no hE (runs_undef hE rfl rfl rfl) rfl ?_; clear hE a; intro a hE
                  refine QL.no hE (runs_undef hE rfl rfl rfl) rfl ?_; clear hE a; intro a hE
                  refine QL.no hE (runs_not hE rfl rfl rfl (by rw [hg91]; decide)) rfl ?_; clear hE a; intro a hE
                  refine QL.v hE (runs_plain rfl) (Gives.pickF hE rfl hg91 rfl) rfl ?_; clear hE a; intro a hE
                  refine QL.nil ?_; clear hS w; intro w hS
                  subst hK90
                  exact ⟨false, Option.some.inj hq85, hE.pick _ ⟨rfl, rfl, rfl, rfl, rfl, trivial⟩, hS⟩
              · clear hE hS a w; rintro a w ⟨q89, rfl, hE, hS⟩
                refine W.cond hE rfl (fun hc111 => ?_) (fun hc111 => ?_)
                · replace hq60 := iteT hc111 hq60
                  refine W.seq ?_
                  refine W.region ?_
                  refine WL.vS hS hE (runs_plain rfl) (Gives.p hE rfl) rfl ?_; clear hE a; intro a hE
                  refine WL.nil ?_
                  refine W.ret ?_
                  subst hK71
                  rw [← Option.some.inj hq60] at hr
                  dsimp only at hr
                  refine finG (fn := Try.f12) (rs := [.tmp 2]) (vs := [_]) hE rfl ⟨rfl, trivial⟩ ?_
                  obtain rfl := Option.some.inj hr
                  replace hS := hS.tail
                  replace hS := hS.tail
                  exact ⟨rfl, hS⟩
                · replace hq60 := iteF hc111 hq60
                  refine W.skip ?_
                  refine W.region ?_
                  refine WL.vS hS hE (runs_plain rfl) (Gives.inc hE rfl (by have := h0_0.small; omega)) rfl ?_; clear hE a; intro a hE
                  refine WL.vS hS hE (runs_plain rfl) (Gives.p hE rfl) rfl ?_; clear hE a; intro a hE
                  refine WL.nil ?_
                  replace hS := hS.tail
                  subst hK71
                  exact ⟨rest64.length, Nat.lt_succ_self _, rest64, k62 + 1, rfl, hd65, hq60, hE.pick _ ⟨rfl, rfl, rfl, rfl, trivial⟩, hS⟩
      · clear hE hS a w; rintro a w ⟨rfl, hE, hS⟩
        dsimp only at hr
        refine W.seq ?_
        refine W.seq ?_
        refine W.region ?_
        refine WL.vS hS hE (runs_plain rfl) (Gives.fld hE rfl fl25_2) rfl ?_; clear hE a; intro a hE
        refine WL.vS hS hE (runs_plain rfl) (Gives.loadB hE 0 rfl rfl rfl ty3) rfl ?_; clear hE a; intro a hE
        refine WL.fnq hE (Farewithin_ok hS  rfl) (runs_plain rfl) bd39 rfl rfl rfl ?_
        clear hE hS; rintro e w ⟨rfl, hS⟩; refine ⟨_, rfl, ?_⟩; clear a; intro a hE
        refine WL.vS hS hE (runs_plain rfl) (Gives.p hE rfl) rfl ?_; clear hE a; intro a hE
        refine WL.nil ?_
        refine W.cond hE rfl (fun hc112 => ?_) (fun hc112 => ?_)
        · replace hr := iteT hc112 hr
          refine W.seq ?_
          refine W.region ?_
          refine WL.vS hS hE (runs_plain rfl) (Gives.p hE rfl) rfl ?_; clear hE a; intro a hE
          refine WL.nil ?_
          refine W.ret ?_
          refine finG (fn := Try.f12) (rs := [.tmp 2]) (vs := [_]) hE rfl ⟨rfl, trivial⟩ ?_
          obtain rfl := Option.some.inj hr
          replace hS := hS.tail
          exact ⟨rfl, hS⟩
        · replace hr := iteF hc112 hr
          refine W.skip ?_
          refine W.seq ?_
          refine W.seq ?_
          refine W.region ?_
          refine WL.vS hS hE (runs_plain rfl) (Gives.fld hE rfl fl25_3) rfl ?_; clear hE a; intro a hE
          refine WL.vS hS hE (runs_plain rfl) (Gives.loadB hE 0 rfl rfl rfl ty23) rfl ?_; clear hE a; intro a hE
          refine WL.vS hS hE (runs_plain rfl) (Gives.len hE rfl sl23) rfl ?_; clear hE a; intro a hE
          refine WL.vS hS hE (runs_plain rfl) (Gives.p hE rfl) rfl ?_; clear hE a; intro a hE
          refine WL.nil ?_
          obtain ⟨q114, hq113, hr⟩ := bindS hr
          refine W.cut (fun a w => (.next ()) = q114 ∧ Rep a 97 [] ∧ St w s (pt b51 (.cells #[.bool x0.ByKm, .slice a0_0 x0.Bands.length c0_0, .int .i64 x0.Round, .slice a0_1 x0.Rules.length c0_1] 25 (0, 0)) :: R)) ?_ ?_
          · refine W.block ?_
            refine W.loop (fun m a w => ∃ (rest117 : List FareRule) (k115 : Nat), rest117.length = m ∧ x0.Rules.drop k115 = rest117 ∧ FareCheckTariff.loop2 fu rest117 = some q114 ∧ Rep a 97 [(70, .slice a0_1 x0.Rules.length c0_1), (71, .int .i64 ((x0.Rules).length : Int)), (72, .int .i64 ((k115 : Nat) : Int))] ∧ St w s (pt b51 (.cells #[.bool x0.ByKm, .slice a0_0 x0.Bands.length c0_0, .int .i64 x0.Round, .slice a0_1 x0.Rules.length c0_1] 25 (0, 0)) :: R)) (m := x0.Rules.length) ⟨x0.Rules, 0, rfl, rfl, hq113, hE.pick _ ⟨rfl, rfl, rfl, trivial⟩, hS⟩ ?_
            clear hE hS a w hq113; rintro m121 a w ⟨rest117, k115, rfl, hd118, hq113, hE, hS⟩
            refine W.gen fun K124 hK124 => ?_
            rcases rest117 with _ | ⟨x116, rest117⟩
            · have hlt119 := drop_nil hd118
              refine W.seq ?_
              refine W.region ?_
              refine WL.vS hS hE (runs_plain rfl) (Gives.p hE rfl) rfl ?_; clear hE a; intro a hE
              refine WL.nil ?_
              refine W.seq ?_
              refine W.condF hE rfl (decide_eq_false (by omega)) ?_
              subst hK124
              refine W.exit rfl ?_
              exact ⟨Option.some.inj hq113, hE.pick _ trivial, hS⟩
            · obtain ⟨hlt119, hx120, hd118⟩ := drop_cons hd118
              rw [FareCheckTariff.loop2] at hq113
              refine W.seq ?_
              refine W.region ?_
              refine WL.vS hS hE (runs_plain rfl) (Gives.p hE rfl) rfl ?_; clear hE a; intro a hE
              refine WL.nil ?_
              refine W.seq ?_
              refine W.condT hE rfl (decide_eq_true (by omega)) ?_
              refine W.skip ?_
              refine W.seq ?_
              refine W.block ?_
              refine W.seq ?_
              refine W.region ?_
              obtain ⟨cs125, hl126, hR127, hat128⟩ := h0_1.at hx120
              obtain ⟨a129, c130, rfl, h131⟩ := hR127
              refine WL.vS hS hE (runs_plain rfl) (Gives.idx hE k115 rfl rfl sl23 rfl hlt119 (h0_1.aok hlt119)) rfl ?_; clear hE a; intro a hE
              refine WL.vS hS hE (runs_plain rfl) (Gives.loadA hE rfl (fun w h => hat128 w _ h) ty77) rfl ?_; clear hE a; intro a hE
              refine WL.alloc hE hS (runs_plain rfl) zr77 rfl ?_; clear hE hS a w; intro b132 a w hE hS
              refine WL.storeI hE hS 0 rfl [.int .i64 x116.If.Kind, .int .i64 x116.If.A, .int .i64 x116.If.B, .slice a129 x116.If.Kids.length c130, .int .i64 x116.Do, .int .i64 x116.N, .bool x116.Stop] (runs_plain rfl) rfl rfl rfl ty77 rfl rfl rfl rfl ?_; clear hE hS a w; intro a w hE hS
              refine WL.nil ?_
              refine W.seq ?_
              refine W.seq ?_
              refine W.region ?_
              refine WL.vS hS hE (runs_plain rfl) (Gives.fld hE rfl fl77_0) rfl ?_; clear hE a; intro a hE
              refine WL.vS hS hE (runs_plain rfl) (Gives.loadA (cs := [.int .i64 x116.If.Kind, .int .i64 x116.If.A, .int .i64 x116.If.B, .slice a129 x116.If.Kids.length c130]) hE rfl (fun w h => (St.seesAt h 0 rfl).part 0 4) ty41) rfl ?_; clear hE a; intro a hE
              obtain ⟨q133, hq134, hq113⟩ := bindS hq113
              have hc_ := FareCondcheck_ok hS h131 hq134
              refine WL.fnq hE (hc_) (runs_plain rfl) bd40 rfl rfl rfl ?_
              clear hE hS hc_; rintro e w ⟨rfl, hS⟩; refine ⟨_, rfl, ?_⟩; clear a; intro a hE
              refine WL.vS hS hE (runs_plain rfl) (Gives.p hE rfl) rfl ?_; clear hE a; intro a hE
              refine WL.nil ?_
              refine W.seq ?_
              refine W.region ?_
              refine WL.vS hS hE (runs_plain rfl) (Gives.p hE rfl) rfl ?_; clear hE a; intro a hE
              refine WL.vS hS hE (runs_plain rfl) (Gives.p hE rfl) rfl ?_; clear hE a; intro a hE
              refine WL.nil ?_
              refine W.cond hE rfl (fun hc135 => ?_) (fun hc135 => ?_)
              · replace hq113 := iteT hc135 hq113
                refine W.seq ?_
                refine W.region ?_
                refine WL.vS hS hE (runs_plain rfl) (Gives.p hE rfl) rfl ?_; clear hE a; intro a hE
                refine WL.vS hS hE (runs_plain rfl) (Gives.p hE rfl) rfl ?_; clear hE a; intro a hE
                refine WL.nil ?_
                refine W.ret ?_
                subst hK124
                rw [← Option.some.inj hq113] at hr
                dsimp only at hr
                refine finG (fn := Try.f12) (rs := [.tmp 2]) (vs := [_]) hE rfl ⟨rfl, trivial⟩ ?_
                obtain rfl := Option.some.inj hr
                replace hS := hS.tail
                replace hS := hS.tail
                exact ⟨rfl, hS⟩
              · replace hq113 := iteF hc135 hq113
                refine W.skip ?_
                refine W.seq ?_
                refine W.region ?_
                refine WL.vS hS hE (runs_plain rfl) (Gives.p hE rfl) rfl ?_; clear hE a; intro a hE
                refine WL.nil ?_
                refine W.seq ?_
                refine W.seq ?_
                refine W.region ?_
                refine WL.vS hS hE (runs_plain rfl) (Gives.fld hE rfl fl77_1) rfl ?_; clear hE a; intro a hE
                refine WL.vS hS hE (runs_plain rfl) (Gives.loadB hE 0 rfl rfl rfl ty3) rfl ?_; clear hE a; intro a hE
                refine WL.vS hS hE (runs_plain rfl) (Gives.p hE rfl) rfl ?_; clear hE a; intro a hE
                refine WL.nil ?_
                obtain ⟨q137, hq136, hq113⟩ := bndS hq113
                refine W.cut (fun a w => ∃ (q140 : Int), q140 = q137 ∧ Rep a 97 [(6, .pointer (some ⟨b132, 0, none⟩)), (8, .int .i64 q140), (70, .slice a0_1 x0.Rules.length c0_1), (71, .int .i64 ((x0.Rules).length : Int)), (72, .int .i64 ((k115 : Nat) : Int))] ∧ St w s (pt b132 (.cells #[.int .i64 x116.If.Kind, .int .i64 x116.If.A, .int .i64 x116.If.B, .slice a129 x116.If.Kids.length c130, .int .i64 x116.Do, .int .i64 x116.N, .bool x116.Stop] 77 (0, 0)) :: pt b51 (.cells #[.bool x0.ByKm, .slice a0_0 x0.Bands.length c0_0, .int .i64 x0.Round, .slice a0_1 x0.Rules.length c0_1] 25 (0, 0)) :: R)) ?_ ?_
                · refine W.gen fun K141 hK141 => ?_
                  refine W.cond hE rfl (fun hc142 => ?_) (fun hc142 => ?_)
                  · replace hq136 := iteT hc142 hq136
                    refine W.region ?_
                    refine WL.vS hS hE (runs_plain rfl) (Gives.p hE rfl) rfl ?_; clear hE a; intro a hE
                    refine WL.nil ?_
                    subst hK141
                    exact ⟨200, hq136, hE.pick _ ⟨rfl, rfl, rfl, rfl, rfl, trivial⟩, hS⟩
                  · replace hq136 := iteF hc142 hq136
                    refine W.skip ?_
                    subst hK141
                    exact ⟨100000, hq136, hE.pick _ ⟨rfl, rfl, rfl, rfl, rfl, trivial⟩, hS⟩
                · clear hE hS a w; rintro a w ⟨q140, rfl, hE, hS⟩
                  refine W.block ?_
                  refine W.seq ?_
                  refine W.region ?_
                  refine WL.vS hS hE (runs_plain rfl) (Gives.fld hE rfl fl77_1) rfl ?_; clear hE a; intro a hE
                  refine WL.vS hS hE (runs_plain rfl) (Gives.loadB hE 0 rfl rfl rfl ty3) rfl ?_; clear hE a; intro a hE
                  refine WL.fnq hE (Farewithin_ok hS  rfl) (runs_plain rfl) bd39 rfl rfl rfl ?_
                  clear hE hS; rintro e w ⟨rfl, hS⟩; refine ⟨_, rfl, ?_⟩; clear a; intro a hE
                  refine WL.vS hS hE (runs_plain rfl) (Gives.p hE rfl) rfl ?_; clear hE a; intro a hE
                  refine WL.vS hS hE (runs_plain rfl) (Gives.p hE rfl) rfl ?_; clear hE a; intro a hE
                  refine WL.nil ?_
                  refine W.cond hE rfl (fun hc143 => ?_) (fun hc143 => ?_)
                  · replace hq113 := iteT hc143 hq113
                    refine W.seq ?_
                    refine W.region ?_
                    refine WL.vS hS hE (runs_plain rfl) (Gives.p hE rfl) rfl ?_; clear hE a; intro a hE
                    refine WL.nil ?_
                    refine W.ret ?_
                    subst hK124
                    rw [← Option.some.inj hq113] at hr
                    dsimp only at hr
                    refine finG (fn := Try.f12) (rs := [.tmp 2]) (vs := [_]) hE rfl ⟨rfl, trivial⟩ ?_
                    obtain rfl := Option.some.inj hr
                    replace hS := hS.tail
                    replace hS := hS.tail
                    exact ⟨rfl, hS⟩
                  · replace hq113 := iteF hc143 hq113
                    refine W.seq ?_
                    refine W.region ?_
                    refine WL.vS hS hE (runs_plain rfl) (Gives.fld hE rfl fl77_2) rfl ?_; clear hE a; intro a hE
                    refine WL.vS hS hE (runs_plain rfl) (Gives.loadB hE 0 rfl rfl rfl ty3) rfl ?_; clear hE a; intro a hE
                    refine WL.vS hS hE (runs_plain rfl) (Gives.p hE rfl) rfl ?_; clear hE a; intro a hE
                    refine WL.fnq hE (Farewithin_ok hS  rfl) (runs_plain rfl) bd39 rfl rfl rfl ?_
                    clear hE hS; rintro e w ⟨rfl, hS⟩; refine ⟨_, rfl, ?_⟩; clear a; intro a hE
                    refine WL.vS hS hE (runs_plain rfl) (Gives.p hE rfl) rfl ?_; clear hE a; intro a hE
                    refine WL.vS hS hE (runs_plain rfl) (Gives.p hE rfl) rfl ?_; clear hE a; intro a hE
                    refine WL.nil ?_
                    refine W.cond hE rfl (fun hc144 => ?_) (fun hc144 => ?_)
                    · replace hq113 := iteT hc144 hq113
                      refine W.seq ?_
                      refine W.region ?_
                      refine WL.vS hS hE (runs_plain rfl) (Gives.p hE rfl) rfl ?_; clear hE a; intro a hE
                      refine WL.nil ?_
                      refine W.ret ?_
                      subst hK124
                      rw [← Option.some.inj hq113] at hr
                      dsimp only at hr
                      refine finG (fn := Try.f12) (rs := [.tmp 2]) (vs := [_]) hE rfl ⟨rfl, trivial⟩ ?_
                      obtain rfl := Option.some.inj hr
                      replace hS := hS.tail
                      replace hS := hS.tail
                      exact ⟨rfl, hS⟩
                    · replace hq113 := iteF hc144 hq113
                      refine W.skip ?_
                      refine W.region ?_
                      refine WL.vS hS hE (runs_plain rfl) (Gives.inc hE rfl (by have := h0_1.small; omega)) rfl ?_; clear hE a; intro a hE
                      refine WL.vS hS hE (runs_plain rfl) (Gives.p hE rfl) rfl ?_; clear hE a; intro a hE
                      refine WL.nil ?_
                      replace hS := hS.tail
                      subst hK124
                      exact ⟨rest117.length, Nat.lt_succ_self _, rest117, k115 + 1, rfl, hd118, hq113, hE.pick _ ⟨rfl, rfl, rfl, trivial⟩, hS⟩
          · clear hE hS a w; rintro a w ⟨rfl, hE, hS⟩
            dsimp only at hr
            refine W.seq ?_
            refine W.region ?_
            refine WL.vS hS hE (runs_plain rfl) (Gives.p hE rfl) rfl ?_; clear hE a; intro a hE
            refine WL.nil ?_
            refine W.ret ?_
            refine finG (fn := Try.f12) (rs := [.tmp 2]) (vs := [_]) hE rfl ⟨rfl, trivial⟩ ?_
            obtain rfl := Option.some.inj hr
            replace hS := hS.tail
            exact ⟨rfl, hS⟩
set_option maxHeartbeats 8000000 in
theorem FarecheckZones_ok  {w : World} {s : Sg} {R : List HP} {x0 : List Int} {a0 : Option Addr} {c0 : Nat} {x1 : Bool} (hS : St w s (R)) (h0 : Sl 1 (RI .i64) s a0 c0 x0) {r : Int} (hr : FarecheckZones x0 x1 = some r) :
    Calls Try.prog 42 [.slice a0 x0.length c0, .bool x1].toArray w (fun e w => e = .returned (.int .i64 r) ∧ St w s (R)) := by
  refine enter Try.func42 rfl rfl rfl fun a hE => ?_
  rw [FarecheckZones] at hr
  refine W.seq ?_
  refine W.region ?_
  refine WL.vS hS hE (runs_plain rfl) (Gives.p hE rfl) rfl ?_; clear hE a; intro a hE
  refine WL.nil ?_
  refine W.seq ?_
  refine W.seq ?_
  refine W.region ?_
  refine WL.vS hS hE (runs_plain rfl) (Gives.p hE rfl) rfl ?_; clear hE a; intro a hE
  refine WL.vS hS hE (runs_plain rfl) (Gives.len hE rfl sl26) rfl ?_; clear hE a; intro a hE
  refine WL.vS hS hE (runs_plain rfl) (Gives.p hE rfl) rfl ?_; clear hE a; intro a hE
  refine WL.nil ?_
  obtain ⟨q52, hq51, hr⟩ := bindS hr
  refine W.cut (fun a w => (.next ()) = q52 ∧ Rep a 41 [] ∧ St w s (R)) ?_ ?_
  · refine W.block ?_
    refine W.loop (fun m a w => ∃ (rest55 : List Int) (k53 : Nat), rest55.length = m ∧ x0.drop k53 = rest55 ∧ FarecheckZones.loop1 x0 x1 rest55 k53 = some q52 ∧ Rep a 41 [(0, .slice a0 x0.length c0), (1, .bool x1), (7, .slice a0 x0.length c0), (8, .int .i64 ((x0).length : Int)), (9, .int .i64 ((k53 : Nat) : Int))] ∧ St w s (R)) (m := x0.length) ⟨x0, 0, rfl, rfl, hq51, hE.pick _ ⟨rfl, rfl, rfl, rfl, rfl, trivial⟩, hS⟩ ?_
    clear hE hS a w hq51; rintro m59 a w ⟨rest55, k53, rfl, hd56, hq51, hE, hS⟩
    refine W.gen fun K62 hK62 => ?_
    rcases rest55 with _ | ⟨x54, rest55⟩
    · have hlt57 := drop_nil hd56
      refine W.seq ?_
      refine W.region ?_
      refine WL.vS hS hE (runs_plain rfl) (Gives.p hE rfl) rfl ?_; clear hE a; intro a hE
      refine WL.nil ?_
      refine W.seq ?_
      refine W.condF hE rfl (decide_eq_false (by omega)) ?_
      subst hK62
      refine W.exit rfl ?_
      exact ⟨Option.some.inj hq51, hE.pick _ trivial, hS⟩
    · obtain ⟨hlt57, hx58, hd56⟩ := drop_cons hd56
      rw [FarecheckZones.loop1] at hq51
      refine W.seq ?_
      refine W.region ?_
      refine WL.vS hS hE (runs_plain rfl) (Gives.p hE rfl) rfl ?_; clear hE a; intro a hE
      refine WL.nil ?_
      refine W.seq ?_
      refine W.condT hE rfl (decide_eq_true (by omega)) ?_
      refine W.skip ?_
      refine W.seq ?_
      refine W.block ?_
      refine W.seq ?_
      refine W.region ?_
      refine WL.vS hS hE (runs_plain rfl) (Gives.p hE rfl) rfl ?_; clear hE a; intro a hE
      obtain ⟨cs63, hl64, hR65, hat66⟩ := h0.at hx58
      subst hR65
      refine WL.vS hS hE (runs_plain rfl) (Gives.idx hE k53 rfl rfl sl26 rfl hlt57 (h0.aok hlt57)) rfl ?_; clear hE a; intro a hE
      refine WL.vS hS hE (runs_plain rfl) (Gives.load1 hE rfl (fun w h => hat66 w _ h) ty3) rfl ?_; clear hE a; intro a hE
      refine WL.vS hS hE (runs_plain rfl) (Gives.p hE rfl) rfl ?_; clear hE a; intro a hE
      refine WL.vS hS hE (runs_plain rfl) (Gives.p hE rfl) rfl ?_; clear hE a; intro a hE
      refine WL.nil ?_
      refine W.seq ?_
      refine W.seq ?_
      refine W.region ?_
      refine WL.vS hS hE (runs_plain rfl) (Gives.p hE rfl) rfl ?_; clear hE a; intro a hE
      refine WL.fnq hE (Farewithin_ok hS  rfl) (runs_plain rfl) bd39 rfl rfl rfl ?_
      clear hE hS; rintro e w ⟨rfl, hS⟩; refine ⟨_, rfl, ?_⟩; clear a; intro a hE
      refine WL.vS hS hE (runs_plain rfl) (Gives.p hE rfl) rfl ?_; clear hE a; intro a hE
      refine WL.nil ?_
      refine W.cond hE rfl (fun hc67 => ?_) (fun hc67 => ?_)
      · replace hq51 := iteT hc67 hq51
        refine W.seq ?_
        refine W.region ?_
        refine WL.vS hS hE (runs_plain rfl) (Gives.p hE rfl) rfl ?_; clear hE a; intro a hE
        refine WL.nil ?_
        refine W.ret ?_
        subst hK62
        rw [← Option.some.inj hq51] at hr
        dsimp only at hr
        refine finG (fn := Try.f42) (rs := [.tmp 4]) (vs := [_]) hE rfl ⟨rfl, trivial⟩ ?_
        obtain rfl := Option.some.inj hr
        exact ⟨rfl, hS⟩
      · replace hq51 := iteF hc67 hq51
        refine W.skip ?_
        refine W.seq ?_
        obtain ⟨q69, hq68, hq51⟩ := bindS hq51
        refine W.cut (fun a w => ∃ (q72 : Bool), q72 = q69 ∧ Rep a 41 [(0, .slice a0 x0.length c0), (1, .bool x1), (7, .slice a0 x0.length c0), (8, .int .i64 ((x0).length : Int)), (9, .int .i64 ((k53 : Nat) : Int)), (39, .bool q72)] ∧ St w s (R)) ?_ ?_
        · refine W.gen fun K73 hK73 => ?_
          refine W.region ?_
          refine WL.vS hS hE (runs_plain rfl) (Gives.p hE rfl) rfl ?_; clear hE a; intro a hE
          refine WL.vS hS hE (runs_plain rfl) (Gives.p hE rfl) rfl ?_; clear hE a; intro a hE
          refine WL.vS hS hE (runs_plain rfl) (Gives.p hE rfl) rfl ?_; clear hE a; intro a hE
          rcases Bool.eq_false_or_eq_true (decide (((k53 : Nat) : Int) > 0)) with hg74 | hg74
          · replace hq68 := iteT hg74 hq68
            refine WL.vS hS hE (runs_if hE rfl rfl rfl hg74) (Gives.p hE rfl) rfl ?_; clear hE a; intro a hE
            refine WL.vS hS hE (runs_if hE rfl rfl rfl hg74) (Gives.p hE rfl) rfl ?_; clear hE a; intro a hE
            refine WL.vS hS hE (runs_if hE rfl rfl rfl hg74) (Gives.p hE rfl) rfl ?_; clear hE a; intro a hE
            refine WL.vS hS hE (runs_if hE rfl rfl rfl hg74) (Gives.p hE rfl) rfl ?_; clear hE a; intro a hE
            obtain ⟨x75, hx76, hq68⟩ := bindS hq68
            obtain ⟨hi77, hlt78, hy79⟩ := gx_some hx76
            obtain ⟨cs80, hl81, hR82, hat83⟩ := h0.at hy79
            subst hR82
            refine WL.vS hS hE (runs_if hE rfl rfl rfl hg74) (Gives.idx hE (w64 (((k53 : Nat) : Int) - 1)).toNat rfl rfl sl26 hi77 hlt78 (h0.aok hlt78)) rfl ?_; clear hE a; intro a hE
            refine WL.vS hS hE (runs_if hE rfl rfl rfl hg74) (Gives.load1 hE rfl (fun w h => hat83 w _ h) ty3) rfl ?_; clear hE a; intro a hE
            refine WL.vS hS hE (runs_if hE rfl rfl rfl hg74) (Gives.p hE rfl) rfl ?_; clear hE a; intro a hE
            refine WL.vS hS hE (runs_if hE rfl rfl rfl hg74) (Gives.p hE rfl) rfl ?_; clear hE a; intro a hE
            rcases Bool.eq_false_or_eq_true (x54 == x75) with hg84 | hg84
            · replace hq68 := iteT hg84 hq68
              refine WL.no hE (runs_not hE rfl rfl rfl (by rw [hg84]; decide)) rfl ?_; clear hE a; intro a hE
              refine WL.no hE (runs_not hE rfl rfl rfl (by rw [hg84]; decide)) rfl ?_; clear hE a; intro a hE
              refine WL.no hE (runs_undef hE rfl rfl rfl) rfl ?_; clear hE a; intro a hE
              refine WL.no hE (runs_undef hE rfl rfl rfl) rfl ?_; clear hE a; intro a hE
              refine WL.no hE (runs_undef hE rfl rfl rfl) rfl ?_; clear hE a; intro a hE
              refine WL.no hE (runs_undef hE rfl rfl rfl) rfl ?_; clear hE a; intro a hE
              refine WL.no hE (runs_undef hE rfl rfl rfl) rfl ?_; clear hE a; intro a hE
              refine WL.no hE (runs_undef hE rfl rfl rfl) rfl ?_; clear hE a; intro a hE
              refine WL.no hE (runs_undef hE rfl rfl rfl) rfl ?_; clear hE a; intro a hE
              refine WL.no hE (runs_not hE rfl rfl rfl (by rw [hg84]; decide)) rfl ?_; clear hE a; intro a hE
              refine WL.vS hS hE (runs_if hE rfl rfl rfl hg74) (Gives.pickT hE rfl hg84 rfl) rfl ?_; clear hE a; intro a hE
              refine WL.vS hS hE (runs_plain rfl) (Gives.pickT hE rfl hg74 rfl) rfl ?_; clear hE a; intro a hE
              refine WL.nil ?_
              subst hK73
              exact ⟨true, Option.some.inj hq68, hE.pick _ ⟨rfl, rfl, rfl, rfl, rfl, rfl, trivial⟩, hS⟩
            · replace hq68 := iteF hg84 hq68
              refine WL.vS hS hE (runs_if hE rfl rfl rfl hg84) (Gives.p hE rfl) rfl ?_; clear hE a; intro a hE
              refine WL.vS hS hE (runs_if hE rfl rfl rfl hg84) (Gives.p hE rfl) rfl ?_; clear hE a; intro a hE
              rcases Bool.eq_false_or_eq_true x1 with hg85 | hg85
              · replace hq68 := iteT hg85 hq68
                refine WL.vS hS hE (runs_if hE rfl rfl rfl hg85) (Gives.p hE rfl) rfl ?_; clear hE a; intro a hE
                refine WL.vS hS hE (runs_if hE rfl rfl rfl hg85) (Gives.p hE rfl) rfl ?_; clear hE a; intro a hE
                refine WL.vS hS hE (runs_if hE rfl rfl rfl hg85) (Gives.p hE rfl) rfl ?_; clear hE a; intro a hE
                refine WL.vS hS hE (runs_if hE rfl rfl rfl hg85) (Gives.p hE rfl) rfl ?_; clear hE a; intro a hE
                obtain ⟨x86, hx87, hq68⟩ := bindS hq68
                obtain ⟨hi88, hlt89, hy90⟩ := gx_some hx87
                obtain ⟨cs91, hl92, hR93, hat94⟩ := h0.at hy90
                subst hR93
                refine WL.vS hS hE (runs_if hE rfl rfl rfl hg85) (Gives.idx hE (w64 (((k53 : Nat) : Int) - 1)).toNat rfl rfl sl26 hi88 hlt89 (h0.aok hlt89)) rfl ?_; clear hE a; intro a hE
                refine WL.vS hS hE (runs_if hE rfl rfl rfl hg85) (Gives.load1 hE rfl (fun w h => hat94 w _ h) ty3) rfl ?_; clear hE a; intro a hE
                refine WL.vS hS hE (runs_if hE rfl rfl rfl hg85) (Gives.p hE rfl) rfl ?_; clear hE a; intro a hE
                refine WL.vS hS hE (runs_if hE rfl rfl rfl hg84) (Gives.pickT hE rfl hg85 rfl) rfl ?_; clear hE a; intro a hE
                refine WL.vS hS hE (runs_if hE rfl rfl rfl hg74) (Gives.pickF hE rfl hg84 rfl) rfl ?_; clear hE a; intro a hE
                refine WL.vS hS hE (runs_plain rfl) (Gives.pickT hE rfl hg74 rfl) rfl ?_; clear hE a; intro a hE
                refine WL.nil ?_
                subst hK73
                exact ⟨decide (x54 < x86), Option.some.inj hq68, hE.pick _ ⟨rfl, rfl, rfl, rfl, rfl, rfl, trivial⟩, hS⟩
              · replace hq68 := iteF hg85 hq68
                refine WL.no hE (runs_not hE rfl rfl rfl (by rw [hg85]; decide)) rfl ?_; clear hE a; intro a hE
                refine WL.no hE (runs_not hE rfl rfl rfl (by rw [hg85]; decide)) rfl ?_; clear hE a; intro a hE
                refine WL.no hE (runs_not hE rfl rfl rfl (by rw [hg85]; decide)) rfl ?_; clear hE a; intro a hE
                refine WL.no hE (runs_not hE rfl rfl rfl (by rw [hg85]; decide)) rfl ?_; clear hE a; intro a hE
                refine WL.no hE (runs_not hE rfl rfl rfl (by rw [hg85]; decide)) rfl ?_; clear hE a; intro a hE
                refine WL.no hE (runs_not hE rfl rfl rfl (by rw [hg85]; decide)) rfl ?_; clear hE a; intro a hE
                refine WL.no hE (runs_not hE rfl rfl rfl (by rw [hg85]; decide)) rfl ?_; clear hE a; intro a hE
                refine WL.vS hS hE (runs_if hE rfl rfl rfl hg84) (Gives.pickF hE rfl hg85 rfl) rfl ?_; clear hE a; intro a hE
                refine WL.vS hS hE (runs_if hE rfl rfl rfl hg74) (Gives.pickF hE rfl hg84 rfl) rfl ?_; clear hE a; intro a hE
                refine WL.vS hS hE (runs_plain rfl) (Gives.pickT hE rfl hg74 rfl) rfl ?_; clear hE a; intro a hE
                refine WL.nil ?_
                subst hK73
                exact ⟨false, Option.some.inj hq68, hE.pick _ ⟨rfl, rfl, rfl, rfl, rfl, rfl, trivial⟩, hS⟩
          · replace hq68 := iteF hg74 hq68
            refine WL.no hE (runs_not hE rfl rfl rfl (by rw [hg74]; decide)) rfl ?_; clear hE a; intro a hE
            refine WL.no hE (runs_not hE rfl rfl rfl (by rw [hg74]; decide)) rfl ?_; clear hE a; intro a hE
            refine WL.no hE (runs_not hE rfl rfl rfl (by rw [hg74]; decide)) rfl ?_; clear hE a; intro a hE
            refine WL.no hE (runs_not hE rfl rfl rfl (by rw [hg74]; decide)) rfl ?_; clear hE a; intro a hE
            refine WL.no hE (runs_not hE rfl rfl rfl (by rw [hg74]; decide)) rfl ?_; clear hE a; intro a hE
            refine WL.no hE (runs_not hE rfl rfl rfl (by rw [hg74]; decide)) rfl ?_; clear hE a; intro a hE
            refine WL.no hE (runs_not hE rfl rfl rfl (by rw [hg74]; decide)) rfl ?_; clear hE a; intro a hE
            refine WL.no hE (runs_not hE rfl rfl rfl (by rw [hg74]; decide)) rfl ?_; clear hE a; intro a hE
            refine WL.no hE (runs_undef hE rfl rfl rfl) rfl ?_; clear hE a; intro a hE
            refine WL.no hE (runs_undef hE rfl rfl rfl) rfl ?_; clear hE a; intro a hE
            refine WL.no hE (runs_undef hE rfl rfl rfl) rfl ?_; clear hE a; intro a hE
            refine WL.no hE (runs_undef hE rfl rfl rfl) rfl ?_; clear hE a; intro a hE
            refine WL.no hE (runs_undef hE rfl rfl rfl) rfl ?_; clear hE a; intro a hE
            refine WL.no hE (runs_undef hE rfl rfl rfl) rfl ?_; clear hE a; intro a hE
            refine WL.no hE (runs_undef hE rfl rfl rfl) rfl ?_; clear hE a; intro a hE
            refine WL.no hE (runs_undef hE rfl rfl rfl) rfl ?_; clear hE a; intro a hE
            refine WL.no hE (runs_undef hE rfl rfl rfl) rfl ?_; clear hE a; intro a hE
            refine WL.no hE (runs_undef hE rfl rfl rfl) rfl ?_; clear hE a; intro a hE
            refine WL.no hE (runs_not hE rfl rfl rfl (by rw [hg74]; decide)) rfl ?_; clear hE a; intro a hE
            refine WL.vS hS hE (runs_plain rfl) (Gives.pickF hE rfl hg74 rfl) rfl ?_; clear hE a; intro a hE
            refine WL.nil ?_
            subst hK73
            exact ⟨false, Option.some.inj hq68, hE.pick _ ⟨rfl, rfl, rfl, rfl, rfl, rfl, trivial⟩, hS⟩
        · clear hE hS a w; rintro a w ⟨q72, rfl, hE, hS⟩
          refine W.cond hE rfl (fun hc95 => ?_) (fun hc95 => ?_)
          · replace hq51 := iteT hc95 hq51
            refine W.seq ?_
            refine W.region ?_
            refine WL.vS hS hE (runs_plain rfl) (Gives.p hE rfl) rfl ?_; clear hE a; intro a hE
            refine WL.nil ?_
            refine W.ret ?_
            subst hK62
            rw [← Option.some.inj hq51] at hr
            dsimp only at hr
            refine finG (fn := Try.f42) (rs := [.tmp 4]) (vs := [_]) hE rfl ⟨rfl, trivial⟩ ?_
            obtain rfl := Option.some.inj hr
            exact ⟨rfl, hS⟩
          · replace hq51 := iteF hc95 hq51
            refine W.skip ?_
            refine W.region ?_
            refine WL.vS hS hE (runs_plain rfl) (Gives.inc hE rfl (by have := h0.small; omega)) rfl ?_; clear hE a; intro a hE
            refine WL.vS hS hE (runs_plain rfl) (Gives.p hE rfl) rfl ?_; clear hE a; intro a hE
            refine WL.nil ?_
            subst hK62
            exact ⟨rest55.length, Nat.lt_succ_self _, rest55, k53 + 1, rfl, hd56, hq51, hE.pick _ ⟨rfl, rfl, rfl, rfl, rfl, trivial⟩, hS⟩
  · clear hE hS a w; rintro a w ⟨rfl, hE, hS⟩
    dsimp only at hr
    refine W.seq ?_
    refine W.region ?_
    refine WL.vS hS hE (runs_plain rfl) (Gives.p hE rfl) rfl ?_; clear hE a; intro a hE
    refine WL.nil ?_
    refine W.ret ?_
    refine finG (fn := Try.f42) (rs := [.tmp 4]) (vs := [_]) hE rfl ⟨rfl, trivial⟩ ?_
    obtain rfl := Option.some.inj hr
    exact ⟨rfl, hS⟩
set_option maxHeartbeats 8000000 in
theorem FareCheckTrip_ok  {w : World} {s : Sg} {R : List HP} {x0 : FareTrip} {a0_0 : Option Addr} {c0_0 : Nat} (hS : St w s (R)) (h0_0 : Sl 1 (RI .i64) s a0_0 c0_0 x0.Zones) {r : Int} (hr : FareCheckTrip x0 = some r) :
    Calls Try.prog 14 [.agg [.int .i64 x0.Day, .int .i64 x0.At, .int .i64 x0.Km, .int .i64 x0.Age, .bool x0.Card, .slice a0_0 x0.Zones.length c0_0].toArray].toArray w (fun e w => e = .returned (.int .i64 r) ∧ St w s (R)) := by
  refine enter Try.func14 rfl rfl rfl fun a hE => ?_
  rw [FareCheckTrip] at hr
  refine W.seq ?_
  refine W.region ?_
  refine WL.box hE hS (runs_plain rfl) rfl rfl rfl ?_; clear hE hS a w; intro b51 a w hE hS
  refine WL.vS hS hE (runs_plain rfl) (Gives.p hE rfl) rfl ?_; clear hE a; intro a hE
  refine WL.nil ?_
  refine W.seq ?_
  refine W.block ?_
  refine W.seq ?_
  obtain ⟨q53, hq52, hr⟩ := bndS hr
  refine W.cut (fun a w => ∃ (q56 : Bool), q56 = q53 ∧ Rep a 35 [(1, .pointer (some ⟨b51, 0, none⟩)), (3, .bool q56)] ∧ St w s (pt b51 (.cells #[.int .i64 x0.Day, .int .i64 x0.At, .int .i64 x0.Km, .int .i64 x0.Age, .bool x0.Card, .slice a0_0 x0.Zones.length c0_0] 28 (0, 0)) :: R)) ?_ ?_
  · refine W.gen fun K57 hK57 => ?_
    refine W.region ?_
    refine WL.vS hS hE (runs_plain rfl) (Gives.fld hE rfl fl28_0) rfl ?_; clear hE a; intro a hE
    refine WL.vS hS hE (runs_plain rfl) (Gives.loadB hE 0 rfl rfl rfl ty3) rfl ?_; clear hE a; intro a hE
    refine WL.fnq hE (Farewithin_ok hS  rfl) (runs_plain rfl) bd39 rfl rfl rfl ?_
    clear hE hS; rintro e w ⟨rfl, hS⟩; refine ⟨_, rfl, ?_⟩; clear a; intro a hE
    refine WL.vS hS hE (runs_plain rfl) (Gives.p hE rfl) rfl ?_; clear hE a; intro a hE
    refine WL.vS hS hE (runs_plain rfl) (Gives.p hE rfl) rfl ?_; clear hE a; intro a hE
    rcases Bool.eq_false_or_eq_true (!(Farewithin x0.Day 0 6)) with hg58 | hg58
    · replace hq52 := iteT hg58 hq52
      refine WL.no hE (runs_not hE rfl rfl rfl (by rw [hg58]; decide)) rfl ?_; clear hE a; intro a hE
      refine WL.no hE (runs_not hE rfl rfl rfl (by rw [hg58]; decide)) rfl ?_; clear hE a; intro a hE
      refine WL.no hE (runs_not hE rfl rfl rfl (by rw [hg58]; decide)) rfl ?_; clear hE a; intro a hE
      refine WL.no hE (runs_not hE rfl rfl rfl (by rw [hg58]; decide)) rfl ?_; clear hE a; intro a hE
      refine WL.vS hS hE (runs_plain rfl) (Gives.pickT hE rfl hg58 rfl) rfl ?_; clear hE a; intro a hE
      refine WL.vS hS hE (runs_plain rfl) (Gives.p hE rfl) rfl ?_; clear hE a; intro a hE
      refine WL.no hE (runs_not hE rfl rfl rfl (by decide)) rfl ?_; clear hE a; intro a hE
      refine WL.no hE (runs_not hE rfl rfl rfl (by decide)) rfl ?_; clear hE a; intro a hE
      refine WL.no hE (runs_not hE rfl rfl rfl (by decide)) rfl ?_; clear hE a; intro a hE
      refine WL.no hE (runs_not hE rfl rfl rfl (by decide)) rfl ?_; clear hE a; intro a hE
      refine WL.vS hS hE (runs_plain rfl) (Gives.pickT hE rfl rfl rfl) rfl ?_; clear hE a; intro a hE
      refine WL.vS hS hE (runs_plain rfl) (Gives.p hE rfl) rfl ?_; clear hE a; intro a hE
      refine WL.no hE (runs_not hE rfl rfl rfl (by decide)) rfl ?_; clear hE a; intro a hE
      refine WL.no hE (runs_not hE rfl rfl rfl (by decide)) rfl ?_; clear hE a; intro a hE
      refine WL.no hE (runs_not hE rfl rfl rfl (by decide)) rfl ?_; clear hE a; intro a hE
      refine WL.no hE (runs_not hE rfl rfl rfl (by decide)) rfl ?_; clear hE a; intro a hE
      refine WL.vS hS hE (runs_plain rfl) (Gives.pickT hE rfl rfl rfl) rfl ?_; clear hE a; intro a hE
      refine WL.vS hS hE (runs_plain rfl) (Gives.p hE rfl) rfl ?_; clear hE a; intro a hE
      refine WL.nil ?_
      subst hK57
      exact ⟨true, hq52, hE.pick _ ⟨rfl, rfl, trivial⟩, hS⟩
    · replace hq52 := iteF hg58 hq52
      refine WL.vS hS hE (runs_if hE rfl rfl rfl hg58) (Gives.fld hE rfl fl28_1) rfl ?_; clear hE a; intro a hE
      refine WL.vS hS hE (runs_if hE rfl rfl rfl hg58) (Gives.loadB hE 0 rfl rfl rfl ty3) rfl ?_; clear hE a; intro a hE
      refine WL.fnq hE (Farewithin_ok hS  rfl) (runs_if hE rfl rfl rfl hg58) bd39 rfl rfl rfl ?_
      clear hE hS; rintro e w ⟨rfl, hS⟩; refine ⟨_, rfl, ?_⟩; clear a; intro a hE
      refine WL.vS hS hE (runs_if hE rfl rfl rfl hg58) (Gives.p hE rfl) rfl ?_; clear hE a; intro a hE
      refine WL.vS hS hE (runs_plain rfl) (Gives.pickF hE rfl hg58 rfl) rfl ?_; clear hE a; intro a hE
      refine WL.vS hS hE (runs_plain rfl) (Gives.p hE rfl) rfl ?_; clear hE a; intro a hE
      rcases Bool.eq_false_or_eq_true (!(Farewithin x0.At 0 28800)) with hg59 | hg59
      · replace hq52 := iteT hg59 hq52
        refine WL.no hE (runs_not hE rfl rfl rfl (by rw [hg59]; decide)) rfl ?_; clear hE a; intro a hE
        refine WL.no hE (runs_not hE rfl rfl rfl (by rw [hg59]; decide)) rfl ?_; clear hE a; intro a hE
        refine WL.no hE (runs_not hE rfl rfl rfl (by rw [hg59]; decide)) rfl ?_; clear hE a; intro a hE
        refine WL.no hE (runs_not hE rfl rfl rfl (by rw [hg59]; decide)) rfl ?_; clear hE a; intro a hE
        refine WL.vS hS hE (runs_plain rfl) (Gives.pickT hE rfl hg59 rfl) rfl ?_; clear hE a; intro a hE
        refine WL.vS hS hE (runs_plain rfl) (Gives.p hE rfl) rfl ?_; clear hE a; intro a hE
        refine WL.no hE (runs_not hE rfl rfl rfl (by decide)) rfl ?_; clear hE a; intro a hE
        refine WL.no hE (runs_not hE rfl rfl rfl (by decide)) rfl ?_; clear hE a; intro a hE
        refine WL.no hE (runs_not hE rfl rfl rfl (by decide)) rfl ?_; clear hE a; intro a hE
        refine WL.no hE (runs_not hE rfl rfl rfl (by decide)) rfl ?_; clear hE a; intro a hE
        refine WL.vS hS hE (runs_plain rfl) (Gives.pickT hE rfl rfl rfl) rfl ?_; clear hE a; intro a hE
        refine WL.vS hS hE (runs_plain rfl) (Gives.p hE rfl) rfl ?_; clear hE a; intro a hE
        refine WL.nil ?_
        subst hK57
        exact ⟨true, hq52, hE.pick _ ⟨rfl, rfl, trivial⟩, hS⟩
      · replace hq52 := iteF hg59 hq52
        refine WL.vS hS hE (runs_if hE rfl rfl rfl hg59) (Gives.fld hE rfl fl28_2) rfl ?_; clear hE a; intro a hE
        refine WL.vS hS hE (runs_if hE rfl rfl rfl hg59) (Gives.loadB hE 0 rfl rfl rfl ty3) rfl ?_; clear hE a; intro a hE
        refine WL.fnq hE (Farewithin_ok hS  rfl) (runs_if hE rfl rfl rfl hg59) bd39 rfl rfl rfl ?_
        clear hE hS; rintro e w ⟨rfl, hS⟩; refine ⟨_, rfl, ?_⟩; clear a; intro a hE
        refine WL.vS hS hE (runs_if hE rfl rfl rfl hg59) (Gives.p hE rfl) rfl ?_; clear hE a; intro a hE
        refine WL.vS hS hE (runs_plain rfl) (Gives.pickF hE rfl hg59 rfl) rfl ?_; clear hE a; intro a hE
        refine WL.vS hS hE (runs_plain rfl) (Gives.p hE rfl) rfl ?_; clear hE a; intro a hE
        rcases Bool.eq_false_or_eq_true (!(Farewithin x0.Km 0 1000)) with hg60 | hg60
        · replace hq52 := iteT hg60 hq52
          refine WL.no hE (runs_not hE rfl rfl rfl (by rw [hg60]; decide)) rfl ?_; clear hE a; intro a hE
          refine WL.no hE (runs_not hE rfl rfl rfl (by rw [hg60]; decide)) rfl ?_; clear hE a; intro a hE
          refine WL.no hE (runs_not hE rfl rfl rfl (by rw [hg60]; decide)) rfl ?_; clear hE a; intro a hE
          refine WL.no hE (runs_not hE rfl rfl rfl (by rw [hg60]; decide)) rfl ?_; clear hE a; intro a hE
          refine WL.vS hS hE (runs_plain rfl) (Gives.pickT hE rfl hg60 rfl) rfl ?_; clear hE a; intro a hE
          refine WL.vS hS hE (runs_plain rfl) (Gives.p hE rfl) rfl ?_; clear hE a; intro a hE
          refine WL.nil ?_
          subst hK57
          exact ⟨true, hq52, hE.pick _ ⟨rfl, rfl, trivial⟩, hS⟩
        · replace hq52 := iteF hg60 hq52
          refine WL.vS hS hE (runs_if hE rfl rfl rfl hg60) (Gives.fld hE rfl fl28_3) rfl ?_; clear hE a; intro a hE
          refine WL.vS hS hE (runs_if hE rfl rfl rfl hg60) (Gives.loadB hE 0 rfl rfl rfl ty3) rfl ?_; clear hE a; intro a hE
          refine WL.fnq hE (Farewithin_ok hS  rfl) (runs_if hE rfl rfl rfl hg60) bd39 rfl rfl rfl ?_
          clear hE hS; rintro e w ⟨rfl, hS⟩; refine ⟨_, rfl, ?_⟩; clear a; intro a hE
          refine WL.vS hS hE (runs_if hE rfl rfl rfl hg60) (Gives.p hE rfl) rfl ?_; clear hE a; intro a hE
          refine WL.vS hS hE (runs_plain rfl) (Gives.pickF hE rfl hg60 rfl) rfl ?_; clear hE a; intro a hE
          refine WL.vS hS hE (runs_plain rfl) (Gives.p hE rfl) rfl ?_; clear hE a; intro a hE
          refine WL.nil ?_
          subst hK57
          exact ⟨!(Farewithin x0.Age 0 120), hq52, hE.pick _ ⟨rfl, rfl, trivial⟩, hS⟩
  · clear hE hS a w; rintro a w ⟨q56, rfl, hE, hS⟩
    refine W.cond hE rfl (fun hc61 => ?_) (fun hc61 => ?_)
    · replace hr := iteT hc61 hr
      refine W.seq ?_
      refine W.region ?_
      refine WL.vS hS hE (runs_plain rfl) (Gives.p hE rfl) rfl ?_; clear hE a; intro a hE
      refine WL.nil ?_
      refine W.ret ?_
      refine finG (fn := Try.f14) (rs := [.tmp 2]) (vs := [_]) hE rfl ⟨rfl, trivial⟩ ?_
      obtain rfl := Option.some.inj hr
      replace hS := hS.tail
      exact ⟨rfl, hS⟩
    · replace hr := iteF hc61 hr
      refine W.seq ?_
      refine W.region ?_
      refine WL.vS hS hE (runs_plain rfl) (Gives.fld hE rfl fl28_5) rfl ?_; clear hE a; intro a hE
      refine WL.vS hS hE (runs_plain rfl) (Gives.loadB hE 0 rfl rfl rfl ty26) rfl ?_; clear hE a; intro a hE
      refine WL.vS hS hE (runs_plain rfl) (Gives.len hE rfl sl26) rfl ?_; clear hE a; intro a hE
      refine WL.fnq hE (Farewithin_ok hS  rfl) (runs_plain rfl) bd39 rfl rfl rfl ?_
      clear hE hS; rintro e w ⟨rfl, hS⟩; refine ⟨_, rfl, ?_⟩; clear a; intro a hE
      refine WL.vS hS hE (runs_plain rfl) (Gives.p hE rfl) rfl ?_; clear hE a; intro a hE
      refine WL.vS hS hE (runs_plain rfl) (Gives.p hE rfl) rfl ?_; clear hE a; intro a hE
      refine WL.nil ?_
      refine W.cond hE rfl (fun hc62 => ?_) (fun hc62 => ?_)
      · replace hr := iteT hc62 hr
        refine W.seq ?_
        refine W.region ?_
        refine WL.vS hS hE (runs_plain rfl) (Gives.p hE rfl) rfl ?_; clear hE a; intro a hE
        refine WL.nil ?_
        refine W.ret ?_
        refine finG (fn := Try.f14) (rs := [.tmp 2]) (vs := [_]) hE rfl ⟨rfl, trivial⟩ ?_
        obtain rfl := Option.some.inj hr
        replace hS := hS.tail
        exact ⟨rfl, hS⟩
      · replace hr := iteF hc62 hr
        refine W.skip ?_
        refine W.seq ?_
        refine W.region ?_
        refine WL.vS hS hE (runs_plain rfl) (Gives.fld hE rfl fl28_5) rfl ?_; clear hE a; intro a hE
        refine WL.vS hS hE (runs_plain rfl) (Gives.loadB hE 0 rfl rfl rfl ty26) rfl ?_; clear hE a; intro a hE
        obtain ⟨q63, hq64, hr⟩ := bindS hr
        have hc_ := FarecheckZones_ok hS h0_0 hq64
        refine WL.fnq hE (hc_) (runs_plain rfl) bd42 rfl rfl rfl ?_
        clear hE hS hc_; rintro e w ⟨rfl, hS⟩; refine ⟨_, rfl, ?_⟩; clear a; intro a hE
        refine WL.vS hS hE (runs_plain rfl) (Gives.p hE rfl) rfl ?_; clear hE a; intro a hE
        refine WL.nil ?_
        refine W.ret ?_
        refine finG (fn := Try.f14) (rs := [.tmp 2]) (vs := [_]) hE rfl ⟨rfl, trivial⟩ ?_
        obtain rfl := Option.some.inj hr
        replace hS := hS.tail
        exact ⟨rfl, hS⟩
set_option maxHeartbeats 8000000 in
theorem FareTariffprice_1_v1_ok  {w : World} {s : Sg} {R : List HP} {pb0 : Nat} {x0 : FareBand} {y0 : Int} (hS : St w s (pt pb0 (.cells #[.int .i64 y0] 3 (0, 0)) :: R))  {r : Bool} (hr : FareTariffprice_1_v1 x0 y0 = r) :
    Calls Try.prog 66 [.agg (FareBand.cells x0).toArray, .pointer (some ⟨pb0, 0, none⟩)].toArray w (fun e w => e = .returned (.bool r) ∧ St w s (pt pb0 (.cells #[.int .i64 y0] 3 (0, 0)) :: R)) := by
  refine enter Try.func66 rfl rfl rfl fun a hE => ?_
  rw [FareTariffprice_1_v1] at hr
  refine W.seq ?_
  refine W.region ?_
  refine WL.box hE hS (runs_plain rfl) rfl rfl rfl ?_; clear hE hS a w; intro b51 a w hE hS
  refine WL.vS hS hE (runs_plain rfl) (Gives.p hE rfl) rfl ?_; clear hE a; intro a hE
  refine WL.nil ?_
  refine W.seq ?_
  refine W.region ?_
  refine WL.vS hS hE (runs_plain rfl) (Gives.fld hE rfl fl75_0) rfl ?_; clear hE a; intro a hE
  refine WL.vS hS hE (runs_plain rfl) (Gives.loadB hE 0 rfl rfl rfl ty3) rfl ?_; clear hE a; intro a hE
  refine WL.vS hS hE (runs_plain rfl) (Gives.loadB hE 1 rfl rfl rfl ty3) rfl ?_; clear hE a; intro a hE
  refine WL.vS hS hE (runs_plain rfl) (Gives.p hE rfl) rfl ?_; clear hE a; intro a hE
  refine WL.vS hS hE (runs_plain rfl) (Gives.p hE rfl) rfl ?_; clear hE a; intro a hE
  refine WL.nil ?_
  refine W.ret ?_
  refine finG (fn := Try.f66) (rs := [.tmp 3]) (vs := [_]) hE rfl ⟨rfl, trivial⟩ ?_
  subst hr
  replace hS := hS.tail
  exact ⟨rfl, hS⟩
set_option maxHeartbeats 8000000 in
theorem SlicesIndexFuncLfareBand_v1_ok  {w : World} {s : Sg} {R : List HP} {pb0 : Nat} {x0 : List FareBand} {a0 : Option Addr} {c0 : Nat} {y0 : Int} (hS : St w s (pt pb0 (.cells #[.int .i64 y0] 3 (0, 0)) :: R)) (h0 : Sl 2 RFareBand s a0 c0 x0) {r : Int} (hr : SlicesIndexFuncLfareBand_v1 x0 y0 = r) :
    Calls Try.prog 65 [.slice a0 x0.length c0, .func (.func 66) #[] #[.pointer (some ⟨pb0, 0, none⟩)]].toArray w (fun e w => e = .returned (.int .i64 r) ∧ St w s (pt pb0 (.cells #[.int .i64 y0] 3 (0, 0)) :: R)) := by
  refine enter Try.func65 rfl rfl rfl fun a hE => ?_
  rw [SlicesIndexFuncLfareBand_v1] at hr
  refine W.seq ?_
  refine W.region ?_
  refine WL.vS hS hE (runs_plain rfl) (Gives.p hE rfl) rfl ?_; clear hE a; intro a hE
  refine WL.nil ?_
  refine W.seq ?_
  refine W.seq ?_
  refine W.region ?_
  refine WL.vS hS hE (runs_plain rfl) (Gives.p hE rfl) rfl ?_; clear hE a; intro a hE
  refine WL.vS hS hE (runs_plain rfl) (Gives.len hE rfl sl22) rfl ?_; clear hE a; intro a hE
  refine WL.vS hS hE (runs_plain rfl) (Gives.p hE rfl) rfl ?_; clear hE a; intro a hE
  refine WL.nil ?_
  obtain ⟨q52, hq51, hr⟩ := bndS hr
  refine W.cut (fun a w => (.next ()) = q52 ∧ Rep a 19 [] ∧ St w s (pt pb0 (.cells #[.int .i64 y0] 3 (0, 0)) :: R)) ?_ ?_
  · refine W.block ?_
    refine W.loop (fun m a w => ∃ (rest55 : List FareBand) (k53 : Nat), rest55.length = m ∧ x0.drop k53 = rest55 ∧ SlicesIndexFuncLfareBand_v1.loop1 y0 rest55 k53 = q52 ∧ Rep a 19 [(0, .slice a0 x0.length c0), (1, .func (.func 66) #[] #[.pointer (some ⟨pb0, 0, none⟩)]), (7, .int .i64 ((x0).length : Int)), (8, .int .i64 ((k53 : Nat) : Int))] ∧ St w s (pt pb0 (.cells #[.int .i64 y0] 3 (0, 0)) :: R)) (m := x0.length) ⟨x0, 0, rfl, rfl, hq51, hE.pick _ ⟨rfl, rfl, rfl, rfl, trivial⟩, hS⟩ ?_
    clear hE hS a w hq51; rintro m59 a w ⟨rest55, k53, rfl, hd56, hq51, hE, hS⟩
    refine W.gen fun K62 hK62 => ?_
    rcases rest55 with _ | ⟨x54, rest55⟩
    · have hlt57 := drop_nil hd56
      refine W.seq ?_
      refine W.region ?_
      refine WL.vS hS hE (runs_plain rfl) (Gives.p hE rfl) rfl ?_; clear hE a; intro a hE
      refine WL.nil ?_
      refine W.seq ?_
      refine W.condF hE rfl (decide_eq_false (by omega)) ?_
      subst hK62
      refine W.exit rfl ?_
      exact ⟨hq51, hE.pick _ trivial, hS⟩
    · obtain ⟨hlt57, hx58, hd56⟩ := drop_cons hd56
      rw [SlicesIndexFuncLfareBand_v1.loop1] at hq51
      refine W.seq ?_
      refine W.region ?_
      refine WL.vS hS hE (runs_plain rfl) (Gives.p hE rfl) rfl ?_; clear hE a; intro a hE
      refine WL.nil ?_
      refine W.seq ?_
      refine W.condT hE rfl (decide_eq_true (by omega)) ?_
      refine W.skip ?_
      refine W.seq ?_
      refine W.block ?_
      refine W.seq ?_
      refine W.region ?_
      refine WL.vS hS hE (runs_plain rfl) (Gives.p hE rfl) rfl ?_; clear hE a; intro a hE
      refine WL.vS hS hE (runs_plain rfl) (Gives.p hE rfl) rfl ?_; clear hE a; intro a hE
      refine WL.nil ?_
      refine W.seq ?_
      refine W.region ?_
      refine WL.vS hS hE (runs_plain rfl) (Gives.p hE rfl) rfl ?_; clear hE a; intro a hE
      refine WL.vS hS hE (runs_plain rfl) (Gives.p hE rfl) rfl ?_; clear hE a; intro a hE
      refine WL.vS hS hE (runs_plain rfl) (Gives.p hE rfl) rfl ?_; clear hE a; intro a hE
      obtain ⟨cs63, hl64, hR65, hat66⟩ := h0.at hx58
      subst hR65
      refine WL.vS hS hE (runs_plain rfl) (Gives.idx hE k53 rfl rfl sl22 rfl hlt57 (h0.aok hlt57)) rfl ?_; clear hE a; intro a hE
      refine WL.vS hS hE (runs_plain rfl) (Gives.loadA hE rfl (fun w h => hat66 w _ h) ty75) rfl ?_; clear hE a; intro a hE
      refine WL.fnw hE (FareTariffprice_1_v1_ok hS  rfl) rfl (runs_plain rfl) bd66 rfl rfl rfl ?_
      clear hE hS; rintro e w ⟨rfl, hS⟩; refine ⟨_, rfl, ?_⟩; clear a; intro a hE
      refine WL.nil ?_
      refine W.cond hE rfl (fun hc67 => ?_) (fun hc67 => ?_)
      · replace hq51 := iteT hc67 hq51
        refine W.seq ?_
        refine W.region ?_
        refine WL.vS hS hE (runs_plain rfl) (Gives.p hE rfl) rfl ?_; clear hE a; intro a hE
        refine WL.vS hS hE (runs_plain rfl) (Gives.p hE rfl) rfl ?_; clear hE a; intro a hE
        refine WL.nil ?_
        refine W.ret ?_
        subst hK62
        rw [← hq51] at hr
        dsimp only at hr
        refine finG (fn := Try.f65) (rs := [.tmp 4]) (vs := [_]) hE rfl ⟨rfl, trivial⟩ ?_
        subst hr
        exact ⟨rfl, hS⟩
      · replace hq51 := iteF hc67 hq51
        refine W.skip ?_
        refine W.region ?_
        refine WL.vS hS hE (runs_plain rfl) (Gives.inc hE rfl (by have := h0.small; omega)) rfl ?_; clear hE a; intro a hE
        refine WL.vS hS hE (runs_plain rfl) (Gives.p hE rfl) rfl ?_; clear hE a; intro a hE
        refine WL.nil ?_
        subst hK62
        exact ⟨rest55.length, Nat.lt_succ_self _, rest55, k53 + 1, rfl, hd56, hq51, hE.pick _ ⟨rfl, rfl, rfl, rfl, trivial⟩, hS⟩
  · clear hE hS a w; rintro a w ⟨rfl, hE, hS⟩
    dsimp only at hr
    refine W.seq ?_
    refine W.region ?_
    refine WL.vS hS hE (runs_plain rfl) (Gives.p hE rfl) rfl ?_; clear hE a; intro a hE
    refine WL.nil ?_
    refine W.ret ?_
    refine finG (fn := Try.f65) (rs := [.tmp 4]) (vs := [_]) hE rfl ⟨rfl, trivial⟩ ?_
    subst hr
    exact ⟨rfl, hS⟩
set_option maxHeartbeats 8000000 in
theorem FareCondholds_1_v1_ok  {w : World} {s : Sg} {R : List HP} {pb0 : Nat} {x0 : Int} {y0 : FareCond} {a_y0_3 : Option Addr} {c_y0_3 : Nat} (hS : St w s (pt pb0 (.cells #[.int .i64 y0.Kind, .int .i64 y0.A, .int .i64 y0.B, .slice a_y0_3 y0.Kids.length c_y0_3] 41 (0, 0)) :: R)) (_h_y0_3 : Sl 4 RFareCond s a_y0_3 c_y0_3 y0.Kids) {r : Bool} (hr : FareCondholds_1_v1 x0 y0 = r) :
    Calls Try.prog 68 [.int .i64 x0, .pointer (some ⟨pb0, 0, none⟩)].toArray w (fun e w => e = .returned (.bool r) ∧ St w s (pt pb0 (.cells #[.int .i64 y0.Kind, .int .i64 y0.A, .int .i64 y0.B, .slice a_y0_3 y0.Kids.length c_y0_3] 41 (0, 0)) :: R)) := by
  refine enter Try.func68 rfl rfl rfl fun a hE => ?_
  rw [FareCondholds_1_v1] at hr
  refine W.seq ?_
  refine W.region ?_
  refine WL.vS hS hE (runs_plain rfl) (Gives.p hE rfl) rfl ?_; clear hE a; intro a hE
  refine WL.nil ?_
  refine W.seq ?_
  refine W.region ?_
  refine WL.vS hS hE (runs_plain rfl) (Gives.p hE rfl) rfl ?_; clear hE a; intro a hE
  refine WL.vS hS hE (runs_plain rfl) (Gives.fld hE rfl fl41_1) rfl ?_; clear hE a; intro a hE
  refine WL.vS hS hE (runs_plain rfl) (Gives.loadB hE 0 rfl rfl rfl ty3) rfl ?_; clear hE a; intro a hE
  refine WL.vS hS hE (runs_plain rfl) (Gives.fld hE rfl fl41_2) rfl ?_; clear hE a; intro a hE
  refine WL.vS hS hE (runs_plain rfl) (Gives.loadB hE 0 rfl rfl rfl ty3) rfl ?_; clear hE a; intro a hE
  refine WL.fnq hE (Farewithin_ok hS  rfl) (runs_plain rfl) bd39 rfl rfl rfl ?_
  clear hE hS; rintro e w ⟨rfl, hS⟩; refine ⟨_, rfl, ?_⟩; clear a; intro a hE
  refine WL.vS hS hE (runs_plain rfl) (Gives.p hE rfl) rfl ?_; clear hE a; intro a hE
  refine WL.nil ?_
  refine W.ret ?_
  refine finG (fn := Try.f68) (rs := [.tmp 3]) (vs := [_]) hE rfl ⟨rfl, trivial⟩ ?_
  subst hr
  exact ⟨rfl, hS⟩
set_option maxHeartbeats 8000000 in
theorem SlicesIndexLint_ok  {w : World} {s : Sg} {R : List HP} {x0 : List Int} {a0 : Option Addr} {c0 : Nat} {x1 : Int} (hS : St w s (R)) (h0 : Sl 1 (RI .i64) s a0 c0 x0) {r : Int} (hr : SlicesIndexLint x0 x1 = r) :
    Calls Try.prog 73 [.slice a0 x0.length c0, .int .i64 x1].toArray w (fun e w => e = .returned (.int .i64 r) ∧ St w s (R)) := by
  refine enter Try.func73 rfl rfl rfl fun a hE => ?_
  rw [SlicesIndexLint] at hr
  refine W.seq ?_
  refine W.region ?_
  refine WL.vS hS hE (runs_plain rfl) (Gives.p hE rfl) rfl ?_; clear hE a; intro a hE
  refine WL.nil ?_
  refine W.seq ?_
  refine W.seq ?_
  refine W.region ?_
  refine WL.vS hS hE (runs_plain rfl) (Gives.p hE rfl) rfl ?_; clear hE a; intro a hE
  refine WL.vS hS hE (runs_plain rfl) (Gives.len hE rfl sl26) rfl ?_; clear hE a; intro a hE
  refine WL.vS hS hE (runs_plain rfl) (Gives.p hE rfl) rfl ?_; clear hE a; intro a hE
  refine WL.nil ?_
  obtain ⟨q52, hq51, hr⟩ := bndS hr
  refine W.cut (fun a w => (.next ()) = q52 ∧ Rep a 19 [] ∧ St w s (R)) ?_ ?_
  · refine W.block ?_
    refine W.loop (fun m a w => ∃ (rest55 : List Int) (k53 : Nat), rest55.length = m ∧ x0.drop k53 = rest55 ∧ SlicesIndexLint.loop1 x1 rest55 k53 = q52 ∧ Rep a 19 [(0, .slice a0 x0.length c0), (1, .int .i64 x1), (7, .int .i64 ((x0).length : Int)), (8, .int .i64 ((k53 : Nat) : Int))] ∧ St w s (R)) (m := x0.length) ⟨x0, 0, rfl, rfl, hq51, hE.pick _ ⟨rfl, rfl, rfl, rfl, trivial⟩, hS⟩ ?_
    clear hE hS a w hq51; rintro m59 a w ⟨rest55, k53, rfl, hd56, hq51, hE, hS⟩
    refine W.gen fun K62 hK62 => ?_
    rcases rest55 with _ | ⟨x54, rest55⟩
    · have hlt57 := drop_nil hd56
      refine W.seq ?_
      refine W.region ?_
      refine WL.vS hS hE (runs_plain rfl) (Gives.p hE rfl) rfl ?_; clear hE a; intro a hE
      refine WL.nil ?_
      refine W.seq ?_
      refine W.condF hE rfl (decide_eq_false (by omega)) ?_
      subst hK62
      refine W.exit rfl ?_
      exact ⟨hq51, hE.pick _ trivial, hS⟩
    · obtain ⟨hlt57, hx58, hd56⟩ := drop_cons hd56
      rw [SlicesIndexLint.loop1] at hq51
      refine W.seq ?_
      refine W.region ?_
      refine WL.vS hS hE (runs_plain rfl) (Gives.p hE rfl) rfl ?_; clear hE a; intro a hE
      refine WL.nil ?_
      refine W.seq ?_
      refine W.condT hE rfl (decide_eq_true (by omega)) ?_
      refine W.skip ?_
      refine W.seq ?_
      refine W.block ?_
      refine W.seq ?_
      refine W.region ?_
      refine WL.vS hS hE (runs_plain rfl) (Gives.p hE rfl) rfl ?_; clear hE a; intro a hE
      refine WL.vS hS hE (runs_plain rfl) (Gives.p hE rfl) rfl ?_; clear hE a; intro a hE
      refine WL.nil ?_
      refine W.seq ?_
      refine W.region ?_
      refine WL.vS hS hE (runs_plain rfl) (Gives.p hE rfl) rfl ?_; clear hE a; intro a hE
      refine WL.vS hS hE (runs_plain rfl) (Gives.p hE rfl) rfl ?_; clear hE a; intro a hE
      refine WL.vS hS hE (runs_plain rfl) (Gives.p hE rfl) rfl ?_; clear hE a; intro a hE
      obtain ⟨cs63, hl64, hR65, hat66⟩ := h0.at hx58
      subst hR65
      refine WL.vS hS hE (runs_plain rfl) (Gives.idx hE k53 rfl rfl sl26 rfl hlt57 (h0.aok hlt57)) rfl ?_; clear hE a; intro a hE
      refine WL.vS hS hE (runs_plain rfl) (Gives.load1 hE rfl (fun w h => hat66 w _ h) ty3) rfl ?_; clear hE a; intro a hE
      refine WL.vS hS hE (runs_plain rfl) (Gives.p hE rfl) rfl ?_; clear hE a; intro a hE
      refine WL.nil ?_
      refine W.cond hE rfl (fun hc67 => ?_) (fun hc67 => ?_)
      · replace hq51 := iteT hc67 hq51
        refine W.seq ?_
        refine W.region ?_
        refine WL.vS hS hE (runs_plain rfl) (Gives.p hE rfl) rfl ?_; clear hE a; intro a hE
        refine WL.vS hS hE (runs_plain rfl) (Gives.p hE rfl) rfl ?_; clear hE a; intro a hE
        refine WL.nil ?_
        refine W.ret ?_
        subst hK62
        rw [← hq51] at hr
        dsimp only at hr
        refine finG (fn := Try.f73) (rs := [.tmp 4]) (vs := [_]) hE rfl ⟨rfl, trivial⟩ ?_
        subst hr
        exact ⟨rfl, hS⟩
      · replace hq51 := iteF hc67 hq51
        refine W.skip ?_
        refine W.region ?_
        refine WL.vS hS hE (runs_plain rfl) (Gives.inc hE rfl (by have := h0.small; omega)) rfl ?_; clear hE a; intro a hE
        refine WL.vS hS hE (runs_plain rfl) (Gives.p hE rfl) rfl ?_; clear hE a; intro a hE
        refine WL.nil ?_
        subst hK62
        exact ⟨rest55.length, Nat.lt_succ_self _, rest55, k53 + 1, rfl, hd56, hq51, hE.pick _ ⟨rfl, rfl, rfl, rfl, trivial⟩, hS⟩
  · clear hE hS a w; rintro a w ⟨rfl, hE, hS⟩
    dsimp only at hr
    refine W.seq ?_
    refine W.region ?_
    refine WL.vS hS hE (runs_plain rfl) (Gives.p hE rfl) rfl ?_; clear hE a; intro a hE
    refine WL.nil ?_
    refine W.ret ?_
    refine finG (fn := Try.f73) (rs := [.tmp 4]) (vs := [_]) hE rfl ⟨rfl, trivial⟩ ?_
    subst hr
    exact ⟨rfl, hS⟩
set_option maxHeartbeats 8000000 in
theorem SlicesContainsLint_ok  {w : World} {s : Sg} {R : List HP} {x0 : List Int} {a0 : Option Addr} {c0 : Nat} {x1 : Int} (hS : St w s (R)) (h0 : Sl 1 (RI .i64) s a0 c0 x0) {r : Bool} (hr : SlicesContainsLint x0 x1 = r) :
    Calls Try.prog 47 [.slice a0 x0.length c0, .int .i64 x1].toArray w (fun e w => e = .returned (.bool r) ∧ St w s (R)) := by
  refine enter Try.func47 rfl rfl rfl fun a hE => ?_
  rw [SlicesContainsLint] at hr
  refine W.seq ?_
  refine W.region ?_
  refine WL.vS hS hE (runs_plain rfl) (Gives.p hE rfl) rfl ?_; clear hE a; intro a hE
  refine WL.nil ?_
  refine W.seq ?_
  refine W.region ?_
  refine WL.vS hS hE (runs_plain rfl) (Gives.p hE rfl) rfl ?_; clear hE a; intro a hE
  refine WL.vS hS hE (runs_plain rfl) (Gives.p hE rfl) rfl ?_; clear hE a; intro a hE
  refine WL.fnq hE (SlicesIndexLint_ok hS h0 rfl) (runs_plain rfl) bd73 rfl rfl rfl ?_
  clear hE hS; rintro e w ⟨rfl, hS⟩; refine ⟨_, rfl, ?_⟩; clear a; intro a hE
  refine WL.vS hS hE (runs_plain rfl) (Gives.p hE rfl) rfl ?_; clear hE a; intro a hE
  refine WL.vS hS hE (runs_plain rfl) (Gives.p hE rfl) rfl ?_; clear hE a; intro a hE
  refine WL.nil ?_
  refine W.ret ?_
  refine finG (fn := Try.f47) (rs := [.tmp 4]) (vs := [_]) hE rfl ⟨rfl, trivial⟩ ?_
  subst hr
  exact ⟨rfl, hS⟩
set_option maxHeartbeats 8000000 in
theorem FareCondholds_2_v1_ok  {self_FareCondholds : FareCond → FareTrip → Option Bool} (ih_FareCondholds : ∀ {w : World} {s : Sg} {R : List HP} {x0 : FareCond} {a0_0 : Option Addr} {c0_0 : Nat} {x1 : FareTrip} {a1_0 : Option Addr} {c1_0 : Nat} (_hS : St w s (R)) (_h0_0 : Sl 4 RFareCond s a0_0 c0_0 x0.Kids) (_h1_0 : Sl 1 (RI .i64) s a1_0 c1_0 x1.Zones) {r : Bool} (_hr : self_FareCondholds x0 x1 = some r), Calls Try.prog 44 [.agg [.int .i64 x0.Kind, .int .i64 x0.A, .int .i64 x0.B, .slice a0_0 x0.Kids.length c0_0].toArray, .agg [.int .i64 x1.Day, .int .i64 x1.At, .int .i64 x1.Km, .int .i64 x1.Age, .bool x1.Card, .slice a1_0 x1.Zones.length c1_0].toArray].toArray w (fun e w => e = .returned (.bool r) ∧ St w s (R))) {w : World} {s : Sg} {R : List HP} {pb0 : Nat} {x0 : FareCond} {a0_0 : Option Addr} {c0_0 : Nat} {y0 : FareTrip} {a_y0_5 : Option Addr} {c_y0_5 : Nat} (hS : St w s (pt pb0 (.cells #[.int .i64 y0.Day, .int .i64 y0.At, .int .i64 y0.Km, .int .i64 y0.Age, .bool y0.Card, .slice a_y0_5 y0.Zones.length c_y0_5] 28 (0, 0)) :: R)) (h0_0 : Sl 4 RFareCond s a0_0 c0_0 x0.Kids) (h_y0_5 : Sl 1 (RI .i64) s a_y0_5 c_y0_5 y0.Zones) {r : Bool} (hr : FareCondholds_2_v1 self_FareCondholds x0 y0 = some r) :
    Calls Try.prog 70 [.agg [.int .i64 x0.Kind, .int .i64 x0.A, .int .i64 x0.B, .slice a0_0 x0.Kids.length c0_0].toArray, .pointer (some ⟨pb0, 0, none⟩)].toArray w (fun e w => e = .returned (.bool r) ∧ St w s (pt pb0 (.cells #[.int .i64 y0.Day, .int .i64 y0.At, .int .i64 y0.Km, .int .i64 y0.Age, .bool y0.Card, .slice a_y0_5 y0.Zones.length c_y0_5] 28 (0, 0)) :: R)) := by
  refine enter Try.func70 rfl rfl rfl fun a hE => ?_
  rw [FareCondholds_2_v1] at hr
  refine W.seq ?_
  refine W.region ?_
  refine WL.box hE hS (runs_plain rfl) rfl rfl rfl ?_; clear hE hS a w; intro b51 a w hE hS
  refine WL.vS hS hE (runs_plain rfl) (Gives.p hE rfl) rfl ?_; clear hE a; intro a hE
  refine WL.nil ?_
  refine W.seq ?_
  refine W.region ?_
  refine WL.vS hS hE (runs_plain rfl) (Gives.loadBA hE 0 rfl rfl ty41) rfl ?_; clear hE a; intro a hE
  refine WL.vS hS hE (runs_plain rfl) (Gives.loadBA hE 1 rfl rfl ty28) rfl ?_; clear hE a; intro a hE
  obtain ⟨q52, hq53, hr⟩ := bindS hr
  have hc_ := ih_FareCondholds hS h0_0 h_y0_5 hq53
  refine WL.fnq hE (hc_) (runs_plain rfl) bd44 rfl rfl rfl ?_
  clear hE hS hc_; rintro e w ⟨rfl, hS⟩; refine ⟨_, rfl, ?_⟩; clear a; intro a hE
  refine WL.vS hS hE (runs_plain rfl) (Gives.p hE rfl) rfl ?_; clear hE a; intro a hE
  refine WL.vS hS hE (runs_plain rfl) (Gives.p hE rfl) rfl ?_; clear hE a; intro a hE
  refine WL.nil ?_
  refine W.ret ?_
  refine finG (fn := Try.f70) (rs := [.tmp 3]) (vs := [_]) hE rfl ⟨rfl, trivial⟩ ?_
  obtain rfl := Option.some.inj hr
  replace hS := hS.tail
  exact ⟨rfl, hS⟩
set_option maxHeartbeats 8000000 in
theorem SlicesIndexFuncLfareCond_v1_ok  {self_FareCondholds : FareCond → FareTrip → Option Bool} (ih_FareCondholds : ∀ {w : World} {s : Sg} {R : List HP} {x0 : FareCond} {a0_0 : Option Addr} {c0_0 : Nat} {x1 : FareTrip} {a1_0 : Option Addr} {c1_0 : Nat} (_hS : St w s (R)) (_h0_0 : Sl 4 RFareCond s a0_0 c0_0 x0.Kids) (_h1_0 : Sl 1 (RI .i64) s a1_0 c1_0 x1.Zones) {r : Bool} (_hr : self_FareCondholds x0 x1 = some r), Calls Try.prog 44 [.agg [.int .i64 x0.Kind, .int .i64 x0.A, .int .i64 x0.B, .slice a0_0 x0.Kids.length c0_0].toArray, .agg [.int .i64 x1.Day, .int .i64 x1.At, .int .i64 x1.Km, .int .i64 x1.Age, .bool x1.Card, .slice a1_0 x1.Zones.length c1_0].toArray].toArray w (fun e w => e = .returned (.bool r) ∧ St w s (R))) {w : World} {s : Sg} {R : List HP} {pb0 : Nat} {x0 : List FareCond} {a0 : Option Addr} {c0 : Nat} {y0 : FareTrip} {a_y0_5 : Option Addr} {c_y0_5 : Nat} (hS : St w s (pt pb0 (.cells #[.int .i64 y0.Day, .int .i64 y0.At, .int .i64 y0.Km, .int .i64 y0.Age, .bool y0.Card, .slice a_y0_5 y0.Zones.length c_y0_5] 28 (0, 0)) :: R)) (h0 : Sl 4 RFareCond s a0 c0 x0) (h_y0_5 : Sl 1 (RI .i64) s a_y0_5 c_y0_5 y0.Zones) {r : Int} (hr : SlicesIndexFuncLfareCond_v1 self_FareCondholds x0 y0 = some r) :
    Calls Try.prog 79 [.slice a0 x0.length c0, .func (.func 70) #[] #[.pointer (some ⟨pb0, 0, none⟩)]].toArray w (fun e w => e = .returned (.int .i64 r) ∧ St w s (pt pb0 (.cells #[.int .i64 y0.Day, .int .i64 y0.At, .int .i64 y0.Km, .int .i64 y0.Age, .bool y0.Card, .slice a_y0_5 y0.Zones.length c_y0_5] 28 (0, 0)) :: R)) := by
  refine enter Try.func79 rfl rfl rfl fun a hE => ?_
  rw [SlicesIndexFuncLfareCond_v1] at hr
  refine W.seq ?_
  refine W.region ?_
  refine WL.vS hS hE (runs_plain rfl) (Gives.p hE rfl) rfl ?_; clear hE a; intro a hE
  refine WL.nil ?_
  refine W.seq ?_
  refine W.seq ?_
  refine W.region ?_
  refine WL.vS hS hE (runs_plain rfl) (Gives.p hE rfl) rfl ?_; clear hE a; intro a hE
  refine WL.vS hS hE (runs_plain rfl) (Gives.len hE rfl sl39) rfl ?_; clear hE a; intro a hE
  refine WL.vS hS hE (runs_plain rfl) (Gives.p hE rfl) rfl ?_; clear hE a; intro a hE
  refine WL.nil ?_
  obtain ⟨q52, hq51, hr⟩ := bindS hr
  refine W.cut (fun a w => (.next ()) = q52 ∧ Rep a 19 [] ∧ St w s (pt pb0 (.cells #[.int .i64 y0.Day, .int .i64 y0.At, .int .i64 y0.Km, .int .i64 y0.Age, .bool y0.Card, .slice a_y0_5 y0.Zones.length c_y0_5] 28 (0, 0)) :: R)) ?_ ?_
  · refine W.block ?_
    refine W.loop (fun m a w => ∃ (rest55 : List FareCond) (k53 : Nat), rest55.length = m ∧ x0.drop k53 = rest55 ∧ SlicesIndexFuncLfareCond_v1.loop1 y0 self_FareCondholds rest55 k53 = some q52 ∧ Rep a 19 [(0, .slice a0 x0.length c0), (1, .func (.func 70) #[] #[.pointer (some ⟨pb0, 0, none⟩)]), (7, .int .i64 ((x0).length : Int)), (8, .int .i64 ((k53 : Nat) : Int))] ∧ St w s (pt pb0 (.cells #[.int .i64 y0.Day, .int .i64 y0.At, .int .i64 y0.Km, .int .i64 y0.Age, .bool y0.Card, .slice a_y0_5 y0.Zones.length c_y0_5] 28 (0, 0)) :: R)) (m := x0.length) ⟨x0, 0, rfl, rfl, hq51, hE.pick _ ⟨rfl, rfl, rfl, rfl, trivial⟩, hS⟩ ?_
    clear hE hS a w hq51; rintro m59 a w ⟨rest55, k53, rfl, hd56, hq51, hE, hS⟩
    refine W.gen fun K62 hK62 => ?_
    rcases rest55 with _ | ⟨x54, rest55⟩
    · have hlt57 := drop_nil hd56
      refine W.seq ?_
      refine W.region ?_
      refine WL.vS hS hE (runs_plain rfl) (Gives.p hE rfl) rfl ?_; clear hE a; intro a hE
      refine WL.nil ?_
      refine W.seq ?_
      refine W.condF hE rfl (decide_eq_false (by omega)) ?_
      subst hK62
      refine W.exit rfl ?_
      exact ⟨Option.some.inj hq51, hE.pick _ trivial, hS⟩
    · obtain ⟨hlt57, hx58, hd56⟩ := drop_cons hd56
      rw [SlicesIndexFuncLfareCond_v1.loop1] at hq51
      refine W.seq ?_
      refine W.region ?_
      refine WL.vS hS hE (runs_plain rfl) (Gives.p hE rfl) rfl ?_; clear hE a; intro a hE
      refine WL.nil ?_
      refine W.seq ?_
      refine W.condT hE rfl (decide_eq_true (by omega)) ?_
      refine W.skip ?_
      refine W.seq ?_
      refine W.block ?_
      refine W.seq ?_
      refine W.region ?_
      refine WL.vS hS hE (runs_plain rfl) (Gives.p hE rfl) rfl ?_; clear hE a; intro a hE
      refine WL.vS hS hE (runs_plain rfl) (Gives.p hE rfl) rfl ?_; clear hE a; intro a hE
      refine WL.nil ?_
      refine W.seq ?_
      refine W.region ?_
      refine WL.vS hS hE (runs_plain rfl) (Gives.p hE rfl) rfl ?_; clear hE a; intro a hE
      refine WL.vS hS hE (runs_plain rfl) (Gives.p hE rfl) rfl ?_; clear hE a; intro a hE
      refine WL.vS hS hE (runs_plain rfl) (Gives.p hE rfl) rfl ?_; clear hE a; intro a hE
      obtain ⟨cs63, hl64, hR65, hat66⟩ := h0.at hx58
      obtain ⟨a67, c68, rfl, h69⟩ := hR65.unf
      refine WL.vS hS hE (runs_plain rfl) (Gives.idx hE k53 rfl rfl sl39 rfl hlt57 (h0.aok hlt57)) rfl ?_; clear hE a; intro a hE
      refine WL.vS hS hE (runs_plain rfl) (Gives.loadA hE rfl (fun w h => hat66 w _ h) ty41) rfl ?_; clear hE a; intro a hE
      obtain ⟨q70, hq71, hq51⟩ := bindS hq51
      have hc_ := FareCondholds_2_v1_ok @ih_FareCondholds hS h69 h_y0_5 hq71
      refine WL.fnw hE (hc_) rfl (runs_plain rfl) bd70 rfl rfl rfl ?_
      clear hE hS hc_; rintro e w ⟨rfl, hS⟩; refine ⟨_, rfl, ?_⟩; clear a; intro a hE
      refine WL.nil ?_
      refine W.cond hE rfl (fun hc72 => ?_) (fun hc72 => ?_)
      · replace hq51 := iteT hc72 hq51
        refine W.seq ?_
        refine W.region ?_
        refine WL.vS hS hE (runs_plain rfl) (Gives.p hE rfl) rfl ?_; clear hE a; intro a hE
        refine WL.vS hS hE (runs_plain rfl) (Gives.p hE rfl) rfl ?_; clear hE a; intro a hE
        refine WL.nil ?_
        refine W.ret ?_
        subst hK62
        rw [← Option.some.inj hq51] at hr
        dsimp only at hr
        refine finG (fn := Try.f79) (rs := [.tmp 4]) (vs := [_]) hE rfl ⟨rfl, trivial⟩ ?_
        obtain rfl := Option.some.inj hr
        exact ⟨rfl, hS⟩
      · replace hq51 := iteF hc72 hq51
        refine W.skip ?_
        refine W.region ?_
        refine WL.vS hS hE (runs_plain rfl) (Gives.inc hE rfl (by have := h0.small; omega)) rfl ?_; clear hE a; intro a hE
        refine WL.vS hS hE (runs_plain rfl) (Gives.p hE rfl) rfl ?_; clear hE a; intro a hE
        refine WL.nil ?_
        subst hK62
        exact ⟨rest55.length, Nat.lt_succ_self _, rest55, k53 + 1, rfl, hd56, hq51, hE.pick _ ⟨rfl, rfl, rfl, rfl, trivial⟩, hS⟩
  · clear hE hS a w; rintro a w ⟨rfl, hE, hS⟩
    dsimp only at hr
    refine W.seq ?_
    refine W.region ?_
    refine WL.vS hS hE (runs_plain rfl) (Gives.p hE rfl) rfl ?_; clear hE a; intro a hE
    refine WL.nil ?_
    refine W.ret ?_
    refine finG (fn := Try.f79) (rs := [.tmp 4]) (vs := [_]) hE rfl ⟨rfl, trivial⟩ ?_
    obtain rfl := Option.some.inj hr
    exact ⟨rfl, hS⟩
set_option maxHeartbeats 8000000 in
theorem SlicesContainsFuncLfareCond_v1_ok  {self_FareCondholds : FareCond → FareTrip → Option Bool} (ih_FareCondholds : ∀ {w : World} {s : Sg} {R : List HP} {x0 : FareCond} {a0_0 : Option Addr} {c0_0 : Nat} {x1 : FareTrip} {a1_0 : Option Addr} {c1_0 : Nat} (_hS : St w s (R)) (_h0_0 : Sl 4 RFareCond s a0_0 c0_0 x0.Kids) (_h1_0 : Sl 1 (RI .i64) s a1_0 c1_0 x1.Zones) {r : Bool} (_hr : self_FareCondholds x0 x1 = some r), Calls Try.prog 44 [.agg [.int .i64 x0.Kind, .int .i64 x0.A, .int .i64 x0.B, .slice a0_0 x0.Kids.length c0_0].toArray, .agg [.int .i64 x1.Day, .int .i64 x1.At, .int .i64 x1.Km, .int .i64 x1.Age, .bool x1.Card, .slice a1_0 x1.Zones.length c1_0].toArray].toArray w (fun e w => e = .returned (.bool r) ∧ St w s (R))) {w : World} {s : Sg} {R : List HP} {pb0 : Nat} {x0 : List FareCond} {a0 : Option Addr} {c0 : Nat} {y0 : FareTrip} {a_y0_5 : Option Addr} {c_y0_5 : Nat} (hS : St w s (pt pb0 (.cells #[.int .i64 y0.Day, .int .i64 y0.At, .int .i64 y0.Km, .int .i64 y0.Age, .bool y0.Card, .slice a_y0_5 y0.Zones.length c_y0_5] 28 (0, 0)) :: R)) (h0 : Sl 4 RFareCond s a0 c0 x0) (h_y0_5 : Sl 1 (RI .i64) s a_y0_5 c_y0_5 y0.Zones) {r : Bool} (hr : SlicesContainsFuncLfareCond_v1 self_FareCondholds x0 y0 = some r) :
    Calls Try.prog 69 [.slice a0 x0.length c0, .func (.func 70) #[] #[.pointer (some ⟨pb0, 0, none⟩)]].toArray w (fun e w => e = .returned (.bool r) ∧ St w s (pt pb0 (.cells #[.int .i64 y0.Day, .int .i64 y0.At, .int .i64 y0.Km, .int .i64 y0.Age, .bool y0.Card, .slice a_y0_5 y0.Zones.length c_y0_5] 28 (0, 0)) :: R)) := by
  refine enter Try.func69 rfl rfl rfl fun a hE => ?_
  rw [SlicesContainsFuncLfareCond_v1] at hr
  refine W.seq ?_
  refine W.region ?_
  refine WL.vS hS hE (runs_plain rfl) (Gives.p hE rfl) rfl ?_; clear hE a; intro a hE
  refine WL.nil ?_
  refine W.seq ?_
  refine W.region ?_
  refine WL.vS hS hE (runs_plain rfl) (Gives.p hE rfl) rfl ?_; clear hE a; intro a hE
  refine WL.vS hS hE (runs_plain rfl) (Gives.p hE rfl) rfl ?_; clear hE a; intro a hE
  obtain ⟨q51, hq52, hr⟩ := bindS hr
  have hc_ := SlicesIndexFuncLfareCond_v1_ok @ih_FareCondholds hS h0 h_y0_5 hq52
  refine WL.fnq hE (hc_) (runs_plain rfl) bd79 rfl rfl rfl ?_
  clear hE hS hc_; rintro e w ⟨rfl, hS⟩; refine ⟨_, rfl, ?_⟩; clear a; intro a hE
  refine WL.vS hS hE (runs_plain rfl) (Gives.p hE rfl) rfl ?_; clear hE a; intro a hE
  refine WL.vS hS hE (runs_plain rfl) (Gives.p hE rfl) rfl ?_; clear hE a; intro a hE
  refine WL.nil ?_
  refine W.ret ?_
  refine finG (fn := Try.f69) (rs := [.tmp 4]) (vs := [_]) hE rfl ⟨rfl, trivial⟩ ?_
  obtain rfl := Option.some.inj hr
  exact ⟨rfl, hS⟩
set_option maxHeartbeats 8000000 in
theorem FareCondholds_3_v1_ok  {self_FareCondholds : FareCond → FareTrip → Option Bool} (ih_FareCondholds : ∀ {w : World} {s : Sg} {R : List HP} {x0 : FareCond} {a0_0 : Option Addr} {c0_0 : Nat} {x1 : FareTrip} {a1_0 : Option Addr} {c1_0 : Nat} (_hS : St w s (R)) (_h0_0 : Sl 4 RFareCond s a0_0 c0_0 x0.Kids) (_h1_0 : Sl 1 (RI .i64) s a1_0 c1_0 x1.Zones) {r : Bool} (_hr : self_FareCondholds x0 x1 = some r), Calls Try.prog 44 [.agg [.int .i64 x0.Kind, .int .i64 x0.A, .int .i64 x0.B, .slice a0_0 x0.Kids.length c0_0].toArray, .agg [.int .i64 x1.Day, .int .i64 x1.At, .int .i64 x1.Km, .int .i64 x1.Age, .bool x1.Card, .slice a1_0 x1.Zones.length c1_0].toArray].toArray w (fun e w => e = .returned (.bool r) ∧ St w s (R))) {w : World} {s : Sg} {R : List HP} {pb0 : Nat} {x0 : FareCond} {a0_0 : Option Addr} {c0_0 : Nat} {y0 : FareTrip} {a_y0_5 : Option Addr} {c_y0_5 : Nat} (hS : St w s (pt pb0 (.cells #[.int .i64 y0.Day, .int .i64 y0.At, .int .i64 y0.Km, .int .i64 y0.Age, .bool y0.Card, .slice a_y0_5 y0.Zones.length c_y0_5] 28 (0, 0)) :: R)) (h0_0 : Sl 4 RFareCond s a0_0 c0_0 x0.Kids) (h_y0_5 : Sl 1 (RI .i64) s a_y0_5 c_y0_5 y0.Zones) {r : Bool} (hr : FareCondholds_3_v1 self_FareCondholds x0 y0 = some r) :
    Calls Try.prog 71 [.agg [.int .i64 x0.Kind, .int .i64 x0.A, .int .i64 x0.B, .slice a0_0 x0.Kids.length c0_0].toArray, .pointer (some ⟨pb0, 0, none⟩)].toArray w (fun e w => e = .returned (.bool r) ∧ St w s (pt pb0 (.cells #[.int .i64 y0.Day, .int .i64 y0.At, .int .i64 y0.Km, .int .i64 y0.Age, .bool y0.Card, .slice a_y0_5 y0.Zones.length c_y0_5] 28 (0, 0)) :: R)) := by
  refine enter Try.func71 rfl rfl rfl fun a hE => ?_
  rw [FareCondholds_3_v1] at hr
  refine W.seq ?_
  refine W.region ?_
  refine WL.box hE hS (runs_plain rfl) rfl rfl rfl ?_; clear hE hS a w; intro b51 a w hE hS
  refine WL.vS hS hE (runs_plain rfl) (Gives.p hE rfl) rfl ?_; clear hE a; intro a hE
  refine WL.nil ?_
  refine W.seq ?_
  refine W.region ?_
  refine WL.vS hS hE (runs_plain rfl) (Gives.loadBA hE 0 rfl rfl ty41) rfl ?_; clear hE a; intro a hE
  refine WL.vS hS hE (runs_plain rfl) (Gives.loadBA hE 1 rfl rfl ty28) rfl ?_; clear hE a; intro a hE
  obtain ⟨q52, hq53, hr⟩ := bindS hr
  have hc_ := ih_FareCondholds hS h0_0 h_y0_5 hq53
  refine WL.fnq hE (hc_) (runs_plain rfl) bd44 rfl rfl rfl ?_
  clear hE hS hc_; rintro e w ⟨rfl, hS⟩; refine ⟨_, rfl, ?_⟩; clear a; intro a hE
  refine WL.vS hS hE (runs_plain rfl) (Gives.p hE rfl) rfl ?_; clear hE a; intro a hE
  refine WL.nil ?_
  refine W.ret ?_
  refine finG (fn := Try.f71) (rs := [.tmp 3]) (vs := [_]) hE rfl ⟨rfl, trivial⟩ ?_
  obtain rfl := Option.some.inj hr
  replace hS := hS.tail
  exact ⟨rfl, hS⟩
end Go.Proofs.Ytmgdigencbganaa
