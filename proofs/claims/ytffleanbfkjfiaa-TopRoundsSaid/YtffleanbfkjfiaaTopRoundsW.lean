/- The walks of the functions that TopRounds reaches: each call comes to what its mirror says. The conditions are those of each contract. -/
import Derived.Test.YtffleanbfkjfiaaProg
import Derived.Test.YtffleanbfkjfiaaTopRoundsM
import Derived.Test.YtffleanbfkjfiaaFpMore
import Derived.Test.YtffleanbfkjfiaaTopRoundsW4
namespace Go.Proofs.Ytffleanbfkjfiaa
open Go Go.Fp
set_option maxHeartbeats 8000000 in
theorem FishtopTopRounds_ok {fu : Nat}  {w : World} {s : Sg} {R : List HP} {x0 : PlanPeriodic} {a0_0 : Option Addr} {c0_0 : Nat} {x1 : Int} (hS : St w s (R)) (h0_0 : Sl 5 RPlanRule s a0_0 c0_0 x0.Rules) {r : Bool} (hr : FishtopTopRounds fu x0 x1 = some r) :
  Calls Try.prog 8 [.agg [.int .i64 x0.Period, .int .i64 x0.Events, .slice a0_0 x0.Rules.length c0_0].toArray, .int .i64 x1].toArray w (fun e w => e = .returned (.bool r) ∧ St w s (R)) := by
 refine enter Try.func8 rfl rfl rfl fun a hE => ?_
 rw [FishtopTopRounds] at hr
 refine W.seq (W.region ?_)
 refine WL.box hE hS (runs_plain rfl) rfl rfl rfl ?_; clear hE hS a w; intro b51 a w hE hS
 refine WL.vS hS hE (runs_plain rfl) (Gives.p hE rfl) rfl ?_; clear hE a; intro a hE
 refine WL.nil ?_
 refine W.seq ?_
 refine W.seq (W.region ?_)
 obtain ⟨q52, hq53, hr⟩ := bindS hr
 have hc_ := FishtopawakeMend_ok hS  hq53
 refine WL.fnq hE (hc_) (runs_plain rfl) bd27 rfl rfl rfl ?_
 clear hE hS hc_; rintro e w ⟨rfl, hS⟩; refine ⟨_, rfl, ?_⟩; clear a; intro a hE
 refine WL.vS hS hE (runs_plain rfl) (Gives.p hE rfl) rfl ?_; clear hE a; intro a hE
 refine WL.nil ?_
 refine W.cond hE rfl (fun hc54 => ?_) (fun hc54 => ?_)
 ·replace hr := iteT hc54 hr
  refine W.seq (W.region ?_)
  refine WL.vS hS hE (runs_plain rfl) (Gives.p hE rfl) rfl ?_; clear hE a; intro a hE
  refine WL.nil ?_
  refine W.ret ?_
  refine finG (fn := Try.f8) (rs := [.tmp 4]) (vs := [_]) hE rfl ⟨rfl, trivial⟩ ?_
  obtain rfl := Option.some.inj hr
  replace hS := hS.tail
  exact ⟨rfl, hS⟩
 ·replace hr := iteF hc54 hr
  refine W.skip ?_
  refine W.seq (W.region ?_)
  refine WL.vS hS hE (runs_plain rfl) (Gives.loadBA hE 0 rfl rfl ty24) rfl ?_; clear hE a; intro a hE
  obtain ⟨q55, hq56, hr⟩ := bindS hr
  have hc_ := PlanSolve_ok hS h0_0 hq56
  refine WL.fnq hE (hc_) (runs_plain rfl) bd19 rfl rfl rfl ?_
  clear hE hS hc_; rintro e w ⟨a57, c58, s60, rfl, hle61, h59, hS⟩; refine ⟨_, rfl, ?_⟩; clear a; intro a hE
  replace h0_0 := Sl.mono RPlanRule.mono hle61 h0_0
  refine WL.vS hS hE (runs_plain rfl) (Gives.p hE rfl) rfl ?_; clear hE a; intro a hE
  refine WL.vS hS hE (runs_plain rfl) (Gives.p hE rfl) rfl ?_; clear hE a; intro a hE
  refine WL.vS hS hE (runs_plain rfl) (Gives.p hE rfl) rfl ?_; clear hE a; intro a hE
  refine WL.alloc hE hS (runs_plain rfl) zr29 rfl ?_; clear hE hS a w; intro b62 a w hE hS
  refine WL.storeI hE hS 0 rfl [.slice a57 q55.1.length c58] (runs_plain rfl) rfl rfl rfl ty29 rfl rfl rfl rfl ?_; clear hE hS a w; intro a w hE hS
  refine WL.vS hS hE (runs_plain rfl) (Gives.p hE rfl) rfl ?_; clear hE a; intro a hE
  refine WL.nil ?_
  refine W.seq ?_
  refine W.seq (W.region ?_)
  refine WL.vS hS hE (runs_plain rfl) (Gives.p hE rfl) rfl ?_; clear hE a; intro a hE
  refine WL.vS hS hE (runs_plain rfl) (Gives.p hE rfl) rfl ?_; clear hE a; intro a hE
  refine WL.nil ?_
  refine W.cond hE rfl (fun hc63 => ?_) (fun hc63 => ?_)
  ·replace hr := iteT hc63 hr
   refine W.seq (W.region ?_)
   refine WL.vS hS hE (runs_plain rfl) (Gives.loadB hE 0 rfl rfl rfl ty29) rfl ?_; clear hE a; intro a hE
   refine WL.vS hS hE (runs_plain rfl) (Gives.len hE rfl sl29) rfl ?_; clear hE a; intro a hE
   refine WL.vS hS hE (runs_plain rfl) (Gives.p hE rfl) rfl ?_; clear hE a; intro a hE
   refine WL.vS hS hE (runs_plain rfl) (Gives.p hE rfl) rfl ?_; clear hE a; intro a hE
   refine WL.nil ?_
   refine W.ret ?_
   refine finG (fn := Try.f8) (rs := [.tmp 4]) (vs := [_]) hE rfl ⟨rfl, trivial⟩ ?_
   obtain rfl := Option.some.inj hr
   replace hS := hS.tail
   replace hS := hS.tail
   exact ⟨rfl, (hS.down hle61)⟩
  ·replace hr := iteF hc63 hr
   refine W.skip ?_
   refine W.seq ?_
   refine W.seq (W.region ?_)
   refine WL.vS hS hE (runs_plain rfl) (Gives.loadBA hE 1 rfl rfl ty24) rfl ?_; clear hE a; intro a hE
   refine WL.vS hS hE (runs_plain rfl) (Gives.loadB hE 0 rfl rfl rfl ty29) rfl ?_; clear hE a; intro a hE
   refine WL.fnq hE (Fishref2TimesFault_ok hS h0_0 h59 rfl (r := Fishref2TimesFault x0 q55.1)) (runs_plain rfl) bd15 rfl rfl rfl ?_
   clear hE hS; rintro e w ⟨rfl, hS⟩; refine ⟨_, rfl, ?_⟩; clear a; intro a hE
   refine WL.vS hS hE (runs_plain rfl) (Gives.p hE rfl) rfl ?_; clear hE a; intro a hE
   refine WL.nil ?_
   refine W.cond hE rfl (fun hc64 => ?_) (fun hc64 => ?_)
   ·replace hr := iteT hc64 hr
    refine W.seq (W.region ?_)
    refine WL.vS hS hE (runs_plain rfl) (Gives.p hE rfl) rfl ?_; clear hE a; intro a hE
    refine WL.nil ?_
    refine W.ret ?_
    refine finG (fn := Try.f8) (rs := [.tmp 4]) (vs := [_]) hE rfl ⟨rfl, trivial⟩ ?_
    obtain rfl := Option.some.inj hr
    replace hS := hS.tail
    replace hS := hS.tail
    exact ⟨rfl, (hS.down hle61)⟩
   ·replace hr := iteF hc64 hr
    refine W.skip ?_
    refine W.seq (W.region ?_)
    refine WL.vS hS hE (runs_plain rfl) (Gives.fld hE rfl fl24_0) rfl ?_; clear hE a; intro a hE
    refine WL.vS hS hE (runs_plain rfl) (Gives.loadB hE 1 rfl rfl rfl ty3) rfl ?_; clear hE a; intro a hE
    refine WL.vS hS hE (runs_plain rfl) (Gives.loadB hE 0 rfl rfl rfl ty29) rfl ?_; clear hE a; intro a hE
    refine WL.vS hS hE (runs_plain rfl) (Gives.build hE (vs := [(0, .int .i64 x0.Period), (1, .slice a57 q55.1.length c58)]) [.int .i64 x0.Period, .slice a57 q55.1.length c58, .slice none 0 0] rfl (by kernel_rfl)) rfl ?_; clear hE a; intro a hE
    refine WL.alloc hE hS (runs_plain rfl) zr51 rfl ?_; clear hE hS a w; intro b65 a w hE hS
    refine WL.storeI hE hS 0 rfl [.int .i64 x0.Period, .slice a57 q55.1.length c58, .slice none 0 0] (runs_plain rfl) rfl rfl rfl ty51 rfl rfl rfl rfl ?_; clear hE hS a w; intro a w hE hS
    refine WL.nil ?_
    refine W.seq (W.region ?_)
    refine WL.vS hS hE (runs_plain rfl) (Gives.p hE rfl) rfl ?_; clear hE a; intro a hE
    refine WL.nil ?_
    refine W.seq ?_
    refine W.seq (W.region ?_)
    refine WL.vS hS hE (runs_plain rfl) (Gives.fld hE rfl fl24_2) rfl ?_; clear hE a; intro a hE
    refine WL.vS hS hE (runs_plain rfl) (Gives.loadB hE 2 rfl rfl rfl ty22) rfl ?_; clear hE a; intro a hE
    refine WL.vS hS hE (runs_plain rfl) (Gives.len hE rfl sl22) rfl ?_; clear hE a; intro a hE
    refine WL.vS hS hE (runs_plain rfl) (Gives.p hE rfl) rfl ?_; clear hE a; intro a hE
    refine WL.nil ?_
    replace hS := hS.vecNil 53 4
    obtain ⟨q68, hq67, hr⟩ := bindS hr
    refine W.cut (fun a w => ∃ (q78 : Int), ∃ (q79 : List MendLink), ∃ (a80 : Option Addr), ∃ (c81 : Nat), ∃ (n83 : Nat), ∃ (cs84 : List Value), (.next (q78, q79)) = q68 ∧ Ev 4 RMendLink s60 cs84 q79 ∧ q79.length = n83 ∧ Rep a 251 [(1, .int .i64 x1), (2, .pointer (some ⟨b51, 0, none⟩)), (5, .pointer (some ⟨b62, 0, none⟩)), (7, .pointer (some ⟨b65, 0, none⟩)), (8, .int .i64 q78)] ∧ St w s60 (vecC 53 4 a80 c81 n83 cs84 :: pt b65 (.cells #[.int .i64 x0.Period, .slice a57 q55.1.length c58, .slice a80 n83 c81] 51 (0, 0)) :: pt b62 (.cells #[.slice a57 q55.1.length c58] 29 (0, 0)) :: pt b51 (.cells #[.int .i64 x0.Period, .int .i64 x0.Events, .slice a0_0 x0.Rules.length c0_0] 24 (0, 0)) :: R)) ?_ ?_
    ·refine W.block ?_
     refine W.loop (fun m a w => ∃ (rest71 : List PlanRule) (k69 : Nat), ∃ (q78 : Int), ∃ (q79 : List MendLink), ∃ (a80 : Option Addr), ∃ (c81 : Nat), ∃ (n83 : Nat), ∃ (cs84 : List Value), rest71.length = m ∧ x0.Rules.drop k69 = rest71 ∧ FishtopTopRounds.loop1 x0 q55 rest71 k69 q78 q79 = some q68 ∧ Ev 4 RMendLink s60 cs84 q79 ∧ q79.length = n83 ∧ Rep a 251 [(1, .int .i64 x1), (2, .pointer (some ⟨b51, 0, none⟩)), (5, .pointer (some ⟨b62, 0, none⟩)), (7, .pointer (some ⟨b65, 0, none⟩)), (8, .int .i64 q78), (46, .slice a0_0 x0.Rules.length c0_0), (47, .int .i64 ((x0.Rules).length : Int)), (48, .int .i64 ((k69 : Nat) : Int))] ∧ St w s60 (vecC 53 4 a80 c81 n83 cs84 :: pt b65 (.cells #[.int .i64 x0.Period, .slice a57 q55.1.length c58, .slice a80 n83 c81] 51 (0, 0)) :: pt b62 (.cells #[.slice a57 q55.1.length c58] 29 (0, 0)) :: pt b51 (.cells #[.int .i64 x0.Period, .int .i64 x0.Events, .slice a0_0 x0.Rules.length c0_0] 24 (0, 0)) :: R)) (m := x0.Rules.length) ⟨x0.Rules, 0, 0, [], none, 0, 0, [], rfl, rfl, hq67, (Ev.nil), (rfl), hE.pick _ ⟨rfl, rfl, rfl, rfl, rfl, rfl, rfl, rfl, trivial⟩, hS⟩ ?_
     clear hE hS a w hq67; rintro m75 a w ⟨rest71, k69, q78, q79, a80, c81, n83, cs84, rfl, hd72, hq67, h82, rfl, hE, hS⟩
     refine W.gen fun K86 hK86 => ?_
     rcases rest71 with _ | ⟨x70, rest71⟩
     ·have hlt73 := drop_nil hd72
      refine W.seq (W.region ?_)
      refine WL.vS hS hE (runs_plain rfl) (Gives.p hE rfl) rfl ?_; clear hE a; intro a hE
      refine WL.nil ?_
      refine W.seq ?_
      refine W.condF hE rfl (decide_eq_false (by omega)) ?_
      subst hK86
      refine W.exit rfl ?_
      exact ⟨q78, q79, a80, c81, q79.length, cs84, Option.some.inj hq67, h82, rfl, hE.pick _ ⟨rfl, rfl, rfl, rfl, rfl, trivial⟩, hS⟩
     ·obtain ⟨hlt73, hx74, hd72⟩ := drop_cons hd72
      rw [FishtopTopRounds.loop1] at hq67
      refine W.seq (W.region ?_)
      refine WL.vS hS hE (runs_plain rfl) (Gives.p hE rfl) rfl ?_; clear hE a; intro a hE
      refine WL.nil ?_
      refine W.seq ?_
      refine W.condT hE rfl (decide_eq_true (by omega)) ?_
      refine W.skip ?_
      refine W.seq ?_
      refine W.block ?_
      refine W.seq (W.region ?_)
      refine WL.vS hS hE (runs_plain rfl) (Gives.p hE rfl) rfl ?_; clear hE a; intro a hE
      obtain ⟨cs87, hl88, hR89, hat90⟩ := h0_0.at hx74
      subst hR89
      refine WL.vS hS hE (runs_plain rfl) (Gives.idx hE k69 rfl rfl sl22 rfl hlt73 (h0_0.aok hlt73)) rfl ?_; clear hE a; intro a hE
      refine WL.vS hS hE (runs_plain rfl) (Gives.loadA hE rfl (fun w h => hat90 w _ h) ty37) rfl ?_; clear hE a; intro a hE
      refine WL.alloc hE hS (runs_plain rfl) zr37 rfl ?_; clear hE hS a w; intro b91 a w hE hS
      refine WL.vS hS hE (runs_plain rfl) (Gives.p hE rfl) rfl ?_; clear hE a; intro a hE
      refine WL.storeI hE hS 0 rfl (PlanRule.cells x70) (runs_plain rfl) rfl rfl rfl ty37 rfl rfl rfl rfl ?_; clear hE hS a w; intro a w hE hS
      refine WL.nil ?_
      refine W.seq (W.region ?_)
      refine WL.vS hS hE (runs_plain rfl) (Gives.loadBA hE 4 rfl rfl ty24) rfl ?_; clear hE a; intro a hE
      refine WL.vS hS hE (runs_plain rfl) (Gives.p hE rfl) rfl ?_; clear hE a; intro a hE
      refine WL.vS hS hE (runs_plain rfl) (Gives.loadB hE 3 rfl rfl rfl ty29) rfl ?_; clear hE a; intro a hE
      obtain ⟨q92, hq93, hq67⟩ := bindS hq67
      have hc_ := PlanGap_ok hS h0_0 h59 hq93
      refine WL.fnq hE (hc_) (runs_plain rfl) bd12 rfl rfl rfl ?_
      clear hE hS hc_; rintro e w ⟨rfl, hS⟩; refine ⟨_, rfl, ?_⟩; clear a; intro a hE
      refine WL.vS hS hE (runs_plain rfl) (Gives.p hE rfl) rfl ?_; clear hE a; intro a hE
      refine WL.vS hS hE (runs_plain rfl) (Gives.p hE rfl) rfl ?_; clear hE a; intro a hE
      refine WL.vS hS hE (runs_plain rfl) (Gives.p hE rfl) rfl ?_; clear hE a; intro a hE
      refine WL.vS hS hE (runs_plain rfl) (Gives.p hE rfl) rfl ?_; clear hE a; intro a hE
      refine WL.vS hS hE (runs_plain rfl) (Gives.p hE rfl) rfl ?_; clear hE a; intro a hE
      refine WL.nil ?_
      refine W.seq ?_
      refine W.seq ?_
      obtain ⟨q95, hq94, hq67⟩ := bndS hq67
      refine W.cut (fun a w => ∃ (q98 : Bool), q98 = q95 ∧ Rep a 251 [(1, .int .i64 x1), (2, .pointer (some ⟨b51, 0, none⟩)), (5, .pointer (some ⟨b62, 0, none⟩)), (7, .pointer (some ⟨b65, 0, none⟩)), (8, .int .i64 q78), (9, .int .i64 ((k69 : Nat) : Int)), (10, .pointer (some ⟨b91, 0, none⟩)), (11, .int .i64 q92.1), (46, .slice a0_0 x0.Rules.length c0_0), (47, .int .i64 ((x0.Rules).length : Int)), (48, .int .i64 ((k69 : Nat) : Int)), (67, .bool q98)] ∧ St w s60 (pt b91 (.cells (PlanRule.cells x70).toArray 37 (0, 0)) :: vecC 53 4 a80 c81 q79.length cs84 :: pt b65 (.cells #[.int .i64 x0.Period, .slice a57 q55.1.length c58, .slice a80 q79.length c81] 51 (0, 0)) :: pt b62 (.cells #[.slice a57 q55.1.length c58] 29 (0, 0)) :: pt b51 (.cells #[.int .i64 x0.Period, .int .i64 x0.Events, .slice a0_0 x0.Rules.length c0_0] 24 (0, 0)) :: R)) ?_ ?_
      ·refine W.gen fun K99 hK99 => ?_
       refine W.region ?_
       refine WL.vS hS hE (runs_plain rfl) (Gives.p hE rfl) rfl ?_; clear hE a; intro a hE
       refine WL.vS hS hE (runs_plain rfl) (Gives.p hE rfl) rfl ?_; clear hE a; intro a hE
       refine WL.vS hS hE (runs_plain rfl) (Gives.p hE rfl) rfl ?_; clear hE a; intro a hE
       rcases Bool.eq_false_or_eq_true (q92.2 != 0) with hg100 | hg100
       ·replace hq94 := iteT hg100 hq94
        refine WL.no hE (runs_not hE rfl rfl rfl (by rw [hg100]; decide)) rfl ?_; clear hE a; intro a hE
        refine WL.no hE (runs_not hE rfl rfl rfl (by rw [hg100]; decide)) rfl ?_; clear hE a; intro a hE
        refine WL.no hE (runs_not hE rfl rfl rfl (by rw [hg100]; decide)) rfl ?_; clear hE a; intro a hE
        refine WL.no hE (runs_not hE rfl rfl rfl (by rw [hg100]; decide)) rfl ?_; clear hE a; intro a hE
        refine WL.vS hS hE (runs_plain rfl) (Gives.pickT hE rfl hg100 rfl) rfl ?_; clear hE a; intro a hE
        refine WL.nil ?_
        subst hK99
        exact ⟨true, hq94, hE.pick _ ⟨rfl, rfl, rfl, rfl, rfl, rfl, rfl, rfl, rfl, rfl, rfl, rfl, trivial⟩, hS⟩
       ·replace hq94 := iteF hg100 hq94
        refine WL.vS hS hE (runs_if hE rfl rfl rfl hg100) (Gives.p hE rfl) rfl ?_; clear hE a; intro a hE
        refine WL.vS hS hE (runs_if hE rfl rfl rfl hg100) (Gives.fld hE rfl fl37_3) rfl ?_; clear hE a; intro a hE
        refine WL.vS hS hE (runs_if hE rfl rfl rfl hg100) (Gives.loadB hE 0 rfl rfl rfl ty3) rfl ?_; clear hE a; intro a hE
        refine WL.vS hS hE (runs_if hE rfl rfl rfl hg100) (Gives.p hE rfl) rfl ?_; clear hE a; intro a hE
        refine WL.vS hS hE (runs_plain rfl) (Gives.pickF hE rfl hg100 rfl) rfl ?_; clear hE a; intro a hE
        refine WL.nil ?_
        subst hK99
        exact ⟨decide (q92.1 > x70.Max), hq94, hE.pick _ ⟨rfl, rfl, rfl, rfl, rfl, rfl, rfl, rfl, rfl, rfl, rfl, rfl, trivial⟩, hS⟩
      ·clear hE hS a w; rintro a w ⟨q98, rfl, hE, hS⟩
       refine W.cond hE rfl (fun hc101 => ?_) (fun hc101 => ?_)
       ·replace hq67 := iteT hc101 hq67
        refine W.seq (W.region ?_)
        refine WL.vS hS hE (runs_plain rfl) (Gives.p hE rfl) rfl ?_; clear hE a; intro a hE
        refine WL.nil ?_
        refine W.ret ?_
        subst hK86
        rw [← Option.some.inj hq67] at hr
        dsimp only at hr
        refine finG (fn := Try.f8) (rs := [.tmp 4]) (vs := [_]) hE rfl ⟨rfl, trivial⟩ ?_
        obtain rfl := Option.some.inj hr
        replace hS := hS.tail
        replace hS := hS.tail
        replace hS := hS.tail
        replace hS := hS.tail
        replace hS := hS.tail
        exact ⟨rfl, (hS.down hle61)⟩
       ·replace hq67 := iteF hc101 hq67
        refine W.skip ?_
        refine W.seq ?_
        refine W.regionQ (C := fun w => St w s60 (pt b91 (.cells (PlanRule.cells x70).toArray 37 (0, 0)) :: vecC 53 4 a80 c81 q79.length cs84 :: pt b65 (.cells #[.int .i64 x0.Period, .slice a57 q55.1.length c58, .slice a80 q79.length c81] 51 (0, 0)) :: pt b62 (.cells #[.slice a57 q55.1.length c58] 29 (0, 0)) :: pt b51 (.cells #[.int .i64 x0.Period, .int .i64 x0.Events, .slice a0_0 x0.Rules.length c0_0] 24 (0, 0)) :: R)) mixed (by kernel_rfl) hS.drew ?_
        refine QL.v hE (runs_plain rfl) (Gives.p hE rfl) rfl ?_; clear hE a; intro a hE
        refine QL.v hE (runs_plain rfl) (Gives.loadB hE 3 rfl rfl rfl ty29) rfl ?_; clear hE a; intro a hE
        refine QL.v hE (runs_plain rfl) (Gives.fld hE rfl fl37_1) rfl ?_; clear hE a; intro a hE
        refine QL.v hE (runs_plain rfl) (Gives.loadB hE 0 rfl rfl rfl ty3) rfl ?_; clear hE a; intro a hE
        obtain ⟨x102, hx103, hq67⟩ := bindS hq67
        obtain ⟨hi104, hlt105, hy106⟩ := gx_some hx103
        obtain ⟨cs107, hl108, hR109, hat110⟩ := h59.at hy106
        subst hR109
        refine QL.v hE (runs_plain rfl) (Gives.idx hE (x70.To).toNat rfl rfl sl29 hi104 hlt105 (h59.aok hlt105)) rfl ?_; clear hE a; intro a hE
        refine QL.v hE (runs_plain rfl) (Gives.load1 hE rfl (fun w h => hat110 w _ h) ty3) rfl ?_; clear hE a; intro a hE
        refine QL.v hE (runs_plain rfl) (Gives.p hE rfl) rfl ?_; clear hE a; intro a hE
        refine QL.v hE (runs_plain rfl) (Gives.loadB hE 3 rfl rfl rfl ty29) rfl ?_; clear hE a; intro a hE
        refine QL.v hE (runs_plain rfl) (Gives.fld hE rfl fl37_0) rfl ?_; clear hE a; intro a hE
        refine QL.v hE (runs_plain rfl) (Gives.loadB hE 0 rfl rfl rfl ty3) rfl ?_; clear hE a; intro a hE
        obtain ⟨x111, hx112, hq67⟩ := bindS hq67
        obtain ⟨hi113, hlt114, hy115⟩ := gx_some hx112
        obtain ⟨cs116, hl117, hR118, hat119⟩ := h59.at hy115
        subst hR118
        refine QL.v hE (runs_plain rfl) (Gives.idx hE (x70.From).toNat rfl rfl sl29 hi113 hlt114 (h59.aok hlt114)) rfl ?_; clear hE a; intro a hE
        refine QL.v hE (runs_plain rfl) (Gives.load1 hE rfl (fun w h => hat119 w _ h) ty3) rfl ?_; clear hE a; intro a hE
        refine QL.v hE (runs_plain rfl) (Gives.p hE rfl) rfl ?_; clear hE a; intro a hE
        refine QL.v hE (runs_plain rfl) (Gives.fld hE rfl fl24_0) rfl ?_; clear hE a; intro a hE
        refine QL.v hE (runs_plain rfl) (Gives.loadB hE 4 rfl rfl rfl ty3) rfl ?_; clear hE a; intro a hE
        obtain ⟨x120, hx121, hq67⟩ := bindS hq67
        refine QL.v hE (runs_plain rfl) (Gives.dv hE rfl rfl hx121) rfl ?_; clear hE a; intro a hE
        refine QL.v hE (runs_plain rfl) (Gives.p hE rfl) rfl ?_; clear hE a; intro a hE
        refine QL.nil ?_; clear hS w; intro w hS
        refine W.seq ?_
        refine W.seq ?_
        obtain ⟨q123, hq122, hq67⟩ := bndS hq67
        refine W.cut (fun a w => ∃ (q126 : Bool), q126 = q123 ∧ Rep a 251 [(1, .int .i64 x1), (2, .pointer (some ⟨b51, 0, none⟩)), (5, .pointer (some ⟨b62, 0, none⟩)), (7, .pointer (some ⟨b65, 0, none⟩)), (8, .int .i64 q78), (9, .int .i64 ((k69 : Nat) : Int)), (10, .pointer (some ⟨b91, 0, none⟩)), (13, .int .i64 x120), (46, .slice a0_0 x0.Rules.length c0_0), (47, .int .i64 ((x0.Rules).length : Int)), (48, .int .i64 ((k69 : Nat) : Int)), (95, .bool q126)] ∧ St w s60 (pt b91 (.cells (PlanRule.cells x70).toArray 37 (0, 0)) :: vecC 53 4 a80 c81 q79.length cs84 :: pt b65 (.cells #[.int .i64 x0.Period, .slice a57 q55.1.length c58, .slice a80 q79.length c81] 51 (0, 0)) :: pt b62 (.cells #[.slice a57 q55.1.length c58] 29 (0, 0)) :: pt b51 (.cells #[.int .i64 x0.Period, .int .i64 x0.Events, .slice a0_0 x0.Rules.length c0_0] 24 (0, 0)) :: R)) ?_ ?_
        ·refine W.gen fun K127 hK127 => ?_
         refine W.region ?_
         refine WL.vS hS hE (runs_plain rfl) (Gives.p hE rfl) rfl ?_; clear hE a; intro a hE
         refine WL.vS hS hE (runs_plain rfl) (Gives.p hE rfl) rfl ?_; clear hE a; intro a hE
         refine WL.vS hS hE (runs_plain rfl) (Gives.p hE rfl) rfl ?_; clear hE a; intro a hE
         rcases Bool.eq_false_or_eq_true (decide (x120 < 0)) with hg128 | hg128
         ·replace hq122 := iteT hg128 hq122
          refine WL.no hE (runs_not hE rfl rfl rfl (by rw [hg128]; decide)) rfl ?_; clear hE a; intro a hE
          refine WL.no hE (runs_not hE rfl rfl rfl (by rw [hg128]; decide)) rfl ?_; clear hE a; intro a hE
          refine WL.vS hS hE (runs_plain rfl) (Gives.pickT hE rfl hg128 rfl) rfl ?_; clear hE a; intro a hE
          refine WL.vS hS hE (runs_plain rfl) (Gives.p hE rfl) rfl ?_; clear hE a; intro a hE
          refine WL.no hE (runs_not hE rfl rfl rfl (by decide)) rfl ?_; clear hE a; intro a hE
          refine WL.no hE (runs_not hE rfl rfl rfl (by decide)) rfl ?_; clear hE a; intro a hE
          refine WL.no hE (runs_not hE rfl rfl rfl (by decide)) rfl ?_; clear hE a; intro a hE
          refine WL.no hE (runs_not hE rfl rfl rfl (by decide)) rfl ?_; clear hE a; intro a hE
          refine WL.vS hS hE (runs_plain rfl) (Gives.pickT hE rfl rfl rfl) rfl ?_; clear hE a; intro a hE
          refine WL.nil ?_
          subst hK127
          exact ⟨true, hq122, hE.pick _ ⟨rfl, rfl, rfl, rfl, rfl, rfl, rfl, rfl, rfl, rfl, rfl, rfl, trivial⟩, hS⟩
         ·replace hq122 := iteF hg128 hq122
          refine WL.vS hS hE (runs_if hE rfl rfl rfl hg128) (Gives.p hE rfl) rfl ?_; clear hE a; intro a hE
          refine WL.vS hS hE (runs_if hE rfl rfl rfl hg128) (Gives.p hE rfl) rfl ?_; clear hE a; intro a hE
          refine WL.vS hS hE (runs_plain rfl) (Gives.pickF hE rfl hg128 rfl) rfl ?_; clear hE a; intro a hE
          refine WL.vS hS hE (runs_plain rfl) (Gives.p hE rfl) rfl ?_; clear hE a; intro a hE
          rcases Bool.eq_false_or_eq_true (decide (x120 > 3)) with hg129 | hg129
          ·replace hq122 := iteT hg129 hq122
           refine WL.no hE (runs_not hE rfl rfl rfl (by rw [hg129]; decide)) rfl ?_; clear hE a; intro a hE
           refine WL.no hE (runs_not hE rfl rfl rfl (by rw [hg129]; decide)) rfl ?_; clear hE a; intro a hE
           refine WL.no hE (runs_not hE rfl rfl rfl (by rw [hg129]; decide)) rfl ?_; clear hE a; intro a hE
           refine WL.no hE (runs_not hE rfl rfl rfl (by rw [hg129]; decide)) rfl ?_; clear hE a; intro a hE
           refine WL.vS hS hE (runs_plain rfl) (Gives.pickT hE rfl hg129 rfl) rfl ?_; clear hE a; intro a hE
           refine WL.nil ?_
           subst hK127
           exact ⟨true, hq122, hE.pick _ ⟨rfl, rfl, rfl, rfl, rfl, rfl, rfl, rfl, rfl, rfl, rfl, rfl, trivial⟩, hS⟩
          ·replace hq122 := iteF hg129 hq122
           refine WL.vS hS hE (runs_if hE rfl rfl rfl hg129) (Gives.fld hE rfl fl51_2) rfl ?_; clear hE a; intro a hE
           refine WL.vS hS hE (runs_if hE rfl rfl rfl hg129) (Gives.loadB hE 2 rfl rfl rfl ty49) rfl ?_; clear hE a; intro a hE
           refine WL.vS hS hE (runs_if hE rfl rfl rfl hg129) (Gives.len hE rfl sl49) rfl ?_; clear hE a; intro a hE
           refine WL.vS hS hE (runs_if hE rfl rfl rfl hg129) (Gives.p hE rfl) rfl ?_; clear hE a; intro a hE
           refine WL.vS hS hE (runs_plain rfl) (Gives.pickF hE rfl hg129 rfl) rfl ?_; clear hE a; intro a hE
           refine WL.nil ?_
           subst hK127
           exact ⟨decide (((q79.length : Nat) : Int) ≥ 24), hq122, hE.pick _ ⟨rfl, rfl, rfl, rfl, rfl, rfl, rfl, rfl, rfl, rfl, rfl, rfl, trivial⟩, hS⟩
        ·clear hE hS a w; rintro a w ⟨q126, rfl, hE, hS⟩
         refine W.cond hE rfl (fun hc130 => ?_) (fun hc130 => ?_)
         ·replace hq67 := iteT hc130 hq67
          refine W.seq (W.region ?_)
          refine WL.vS hS hE (runs_plain rfl) (Gives.p hE rfl) rfl ?_; clear hE a; intro a hE
          refine WL.nil ?_
          refine W.ret ?_
          subst hK86
          rw [← Option.some.inj hq67] at hr
          dsimp only at hr
          refine finG (fn := Try.f8) (rs := [.tmp 4]) (vs := [_]) hE rfl ⟨rfl, trivial⟩ ?_
          obtain rfl := Option.some.inj hr
          replace hS := hS.tail
          replace hS := hS.tail
          replace hS := hS.tail
          replace hS := hS.tail
          replace hS := hS.tail
          exact ⟨rfl, (hS.down hle61)⟩
         ·replace hq67 := iteF hc130 hq67
          refine W.skip ?_
          refine W.seq (W.region ?_)
          refine WL.vS hS hE (runs_plain rfl) (Gives.fld hE rfl fl51_2) rfl ?_; clear hE a; intro a hE
          refine WL.vS hS hE (runs_plain rfl) (Gives.loadB hE 2 rfl rfl rfl ty49) rfl ?_; clear hE a; intro a hE
          refine WL.vS hS hE (runs_plain rfl) (Gives.fld hE rfl fl37_0) rfl ?_; clear hE a; intro a hE
          refine WL.vS hS hE (runs_plain rfl) (Gives.loadB hE 0 rfl rfl rfl ty3) rfl ?_; clear hE a; intro a hE
          refine WL.vS hS hE (runs_plain rfl) (Gives.fld hE rfl fl37_1) rfl ?_; clear hE a; intro a hE
          refine WL.vS hS hE (runs_plain rfl) (Gives.loadB hE 0 rfl rfl rfl ty3) rfl ?_; clear hE a; intro a hE
          refine WL.vS hS hE (runs_plain rfl) (Gives.fld hE rfl fl37_2) rfl ?_; clear hE a; intro a hE
          refine WL.vS hS hE (runs_plain rfl) (Gives.loadB hE 0 rfl rfl rfl ty3) rfl ?_; clear hE a; intro a hE
          refine WL.vS hS hE (runs_plain rfl) (Gives.p hE rfl) rfl ?_; clear hE a; intro a hE
          refine WL.vS hS hE (runs_plain rfl) (Gives.build hE (vs := [(0, .int .i64 x70.From), (1, .int .i64 x70.To), (2, .int .i64 x70.Min), (3, .int .i64 x120)]) [.int .i64 x70.From, .int .i64 x70.To, .int .i64 x70.Min, .int .i64 x120] rfl (by kernel_rfl)) rfl ?_; clear hE a; intro a hE
          refine WL.lit hE hS (e := 53) (es := 4) (vs := [(0, .agg [.int .i64 x70.From, .int .i64 x70.To, .int .i64 x70.Min, .int .i64 x120].toArray)]) (cs := [.int .i64 x70.From, .int .i64 x70.To, .int .i64 x70.Min, .int .i64 x120]) (runs_plain rfl) rfl (by kernel_rfl) rfl ?_; clear hE hS a w; intro b131 a w hE hS
          obtain ⟨x132, hx133, hq67⟩ := bindS hq67
          refine WL.appD hE hS 1 (m := 1) (runs_plain rfl) rfl rfl rfl ap49 rfl h82 rfl (xs := [(MendLink.mk x70.From x70.To x70.Min x120)]) (Ev.cons (c1 := [.int .i64 x70.From, .int .i64 x70.To, .int .i64 x70.Min, .int .i64 x120]) rfl rfl (Ev.nil)) rfl rfl hx133 rfl ?_; clear hE hS a w; intro a134 c135 cs136 a w h137 hE hS
          refine WL.vS hS hE (runs_plain rfl) (Gives.fld hE rfl fl51_2) rfl ?_; clear hE a; intro a hE
          refine WL.storeI hE hS 2 rfl [.int .i64 x0.Period, .slice a57 q55.1.length c58, .slice a134 x132.length c135] (runs_plain rfl) rfl rfl rfl ty49 rfl rfl rfl rfl ?_; clear hE hS a w; intro a w hE hS
          refine WL.nil ?_
          refine W.regionQ (C := fun w => St w s60 (pt b91 (.cells (PlanRule.cells x70).toArray 37 (0, 0)) :: vecC 53 4 a134 c135 x132.length cs136 :: pt b65 (.cells #[.int .i64 x0.Period, .slice a57 q55.1.length c58, .slice a134 x132.length c135] 51 (0, 0)) :: pt b62 (.cells #[.slice a57 q55.1.length c58] 29 (0, 0)) :: pt b51 (.cells #[.int .i64 x0.Period, .int .i64 x0.Events, .slice a0_0 x0.Rules.length c0_0] 24 (0, 0)) :: R)) mixed (by kernel_rfl) hS.drew ?_
          refine QL.v hE (runs_plain rfl) (Gives.p hE rfl) rfl ?_; clear hE a; intro a hE
          refine QL.v hE (runs_plain rfl) (Gives.fld hE rfl fl37_4) rfl ?_; clear hE a; intro a hE
          refine QL.v hE (runs_plain rfl) (Gives.loadB hE 0 rfl rfl rfl ty3) rfl ?_; clear hE a; intro a hE
          refine QL.v hE (runs_plain rfl) (Gives.loadBA hE 2 rfl rfl ty51) rfl ?_; clear hE a; intro a hE
          refine QL.v hE (runs_plain rfl) (Gives.fld hE rfl fl51_2) rfl ?_; clear hE a; intro a hE
          refine QL.v hE (runs_plain rfl) (Gives.loadB hE 2 rfl rfl rfl ty49) rfl ?_; clear hE a; intro a hE
          refine QL.v hE (runs_plain rfl) (Gives.p hE rfl) rfl ?_; clear hE a; intro a hE
          obtain ⟨x138, hx139, hq67⟩ := bindS hq67
          obtain ⟨hi140, hlt141, hy142⟩ := gx_some hx139
          obtain ⟨vs143, hl144, hR145, hd146, hget147⟩ := h137.at hy142
          subst hR145
          refine QL.v hE (runs_plain rfl) (Gives.idx hE ((((k69 : Nat) : Int)).toNat) rfl rfl sl49 hi140 (by omega) (hS.vecAok 1 rfl (by omega : (((k69 : Nat) : Int)).toNat < x132.length))) rfl ?_; clear hE a; intro a hE
          refine QL.v hE (runs_plain rfl) (Gives.loadA hE rfl (fun w h => St.vecSees h 1 rfl ((((k69 : Nat) : Int)).toNat * 4) _ hget147) ty53) rfl ?_; clear hE a; intro a hE
          obtain ⟨q148, hq149, hq67⟩ := bindS hq67
          refine QL.fnq hE (fun w hS => let ⟨t0_, hl0_, hS0_, hs0_, bk0_⟩ := hS.lendV RMendLink.mono 1 rfl h137 (rfl); (Fishref2SlackOf_ok hS0_ (Sl.mono RI.mono hl0_ h59) hs0_ hq149).mono fun _ _ ⟨he, hq⟩ => ⟨he, (St.unfront 1 rfl (bk0_ _ _ hq))⟩) (runs_plain rfl) bd28 rfl rfl rfl ?_; clear hE a; intro a hE
          refine QL.v hE (runs_plain rfl) (Gives.p hE rfl) rfl ?_; clear hE a; intro a hE
          refine QL.v hE (runs_plain rfl) (Gives.p hE rfl) rfl ?_; clear hE a; intro a hE
          refine QL.v hE (runs_plain rfl) (Gives.p hE rfl) rfl ?_; clear hE a; intro a hE
          refine QL.nil ?_; clear hS w; intro w hS
          refine W.region ?_
          refine WL.vS hS hE (runs_plain rfl) (Gives.inc hE rfl (by have := h0_0.small; omega)) rfl ?_; clear hE a; intro a hE
          refine WL.vS hS hE (runs_plain rfl) (Gives.p hE rfl) rfl ?_; clear hE a; intro a hE
          refine WL.nil ?_
          replace hS := hS.tail
          subst hK86
          exact ⟨rest71.length, Nat.lt_succ_self _, rest71, k69 + 1, (w64 (q78 + (w64 (x70.Weight * q148)))), x132, a134, c135, x132.length, cs136, rfl, hd72, hq67, h137, (rfl), hE.pick _ ⟨rfl, rfl, rfl, rfl, rfl, rfl, rfl, rfl, trivial⟩, hS⟩
    ·clear hE hS a w; rintro a w ⟨q78, q79, a80, c81, n83, cs84, rfl, h82, rfl, hE, hS⟩
     dsimp only at hr
     refine W.seq (W.region ?_)
     refine WL.vS hS hE (runs_plain rfl) (Gives.loadBA hE 3 rfl rfl ty24) rfl ?_; clear hE a; intro a hE
     refine WL.vS hS hE (runs_plain rfl) (Gives.loadB hE 2 rfl rfl rfl ty29) rfl ?_; clear hE a; intro a hE
     obtain ⟨q150, hq151, hr⟩ := bindS hr
     have hc_ := PlanCost_ok hS h0_0 h59 hq151
     refine WL.fnq hE (hc_) (runs_plain rfl) bd14 rfl rfl rfl ?_
     clear hE hS hc_; rintro e w ⟨rfl, hS⟩; refine ⟨_, rfl, ?_⟩; clear a; intro a hE
     refine WL.vS hS hE (runs_plain rfl) (Gives.p hE rfl) rfl ?_; clear hE a; intro a hE
     refine WL.vS hS hE (runs_plain rfl) (Gives.p hE rfl) rfl ?_; clear hE a; intro a hE
     refine WL.vS hS hE (runs_plain rfl) (Gives.p hE rfl) rfl ?_; clear hE a; intro a hE
     refine WL.vS hS hE (runs_plain rfl) (Gives.p hE rfl) rfl ?_; clear hE a; intro a hE
     refine WL.vS hS hE (runs_plain rfl) (Gives.p hE rfl) rfl ?_; clear hE a; intro a hE
     refine WL.nil ?_
     refine W.seq ?_
     refine W.seq ?_
     obtain ⟨q153, hq152, hr⟩ := bndS hr
     refine W.cut (fun a w => ∃ (q156 : Bool), q156 = q153 ∧ Rep a 251 [(1, .int .i64 x1), (5, .pointer (some ⟨b62, 0, none⟩)), (7, .pointer (some ⟨b65, 0, none⟩)), (134, .bool q156)] ∧ St w s60 (vecC 53 4 a80 c81 q79.length cs84 :: pt b65 (.cells #[.int .i64 x0.Period, .slice a57 q55.1.length c58, .slice a80 q79.length c81] 51 (0, 0)) :: pt b62 (.cells #[.slice a57 q55.1.length c58] 29 (0, 0)) :: pt b51 (.cells #[.int .i64 x0.Period, .int .i64 x0.Events, .slice a0_0 x0.Rules.length c0_0] 24 (0, 0)) :: R)) ?_ ?_
     ·refine W.gen fun K157 hK157 => ?_
      refine W.region ?_
      refine WL.vS hS hE (runs_plain rfl) (Gives.p hE rfl) rfl ?_; clear hE a; intro a hE
      refine WL.vS hS hE (runs_plain rfl) (Gives.p hE rfl) rfl ?_; clear hE a; intro a hE
      refine WL.vS hS hE (runs_plain rfl) (Gives.p hE rfl) rfl ?_; clear hE a; intro a hE
      rcases Bool.eq_false_or_eq_true (q150.2 != 0) with hg158 | hg158
      ·replace hq152 := iteT hg158 hq152
       refine WL.no hE (runs_not hE rfl rfl rfl (by rw [hg158]; decide)) rfl ?_; clear hE a; intro a hE
       refine WL.no hE (runs_not hE rfl rfl rfl (by rw [hg158]; decide)) rfl ?_; clear hE a; intro a hE
       refine WL.no hE (runs_not hE rfl rfl rfl (by rw [hg158]; decide)) rfl ?_; clear hE a; intro a hE
       refine WL.vS hS hE (runs_plain rfl) (Gives.pickT hE rfl hg158 rfl) rfl ?_; clear hE a; intro a hE
       refine WL.nil ?_
       subst hK157
       exact ⟨true, hq152, hE.pick _ ⟨rfl, rfl, rfl, rfl, trivial⟩, hS⟩
      ·replace hq152 := iteF hg158 hq152
       refine WL.vS hS hE (runs_if hE rfl rfl rfl hg158) (Gives.p hE rfl) rfl ?_; clear hE a; intro a hE
       refine WL.vS hS hE (runs_if hE rfl rfl rfl hg158) (Gives.p hE rfl) rfl ?_; clear hE a; intro a hE
       refine WL.vS hS hE (runs_if hE rfl rfl rfl hg158) (Gives.p hE rfl) rfl ?_; clear hE a; intro a hE
       refine WL.vS hS hE (runs_plain rfl) (Gives.pickF hE rfl hg158 rfl) rfl ?_; clear hE a; intro a hE
       refine WL.nil ?_
       subst hK157
       exact ⟨(q150.1 != q78), hq152, hE.pick _ ⟨rfl, rfl, rfl, rfl, trivial⟩, hS⟩
     ·clear hE hS a w; rintro a w ⟨q156, rfl, hE, hS⟩
      refine W.cond hE rfl (fun hc159 => ?_) (fun hc159 => ?_)
      ·replace hr := iteT hc159 hr
       refine W.seq (W.region ?_)
       refine WL.vS hS hE (runs_plain rfl) (Gives.p hE rfl) rfl ?_; clear hE a; intro a hE
       refine WL.nil ?_
       refine W.ret ?_
       refine finG (fn := Try.f8) (rs := [.tmp 4]) (vs := [_]) hE rfl ⟨rfl, trivial⟩ ?_
       obtain rfl := Option.some.inj hr
       replace hS := hS.tail
       replace hS := hS.tail
       replace hS := hS.tail
       replace hS := hS.tail
       exact ⟨rfl, (hS.down hle61)⟩
      ·replace hr := iteF hc159 hr
       refine W.skip ?_
       refine W.seq ?_
       refine W.seq (W.region ?_)
       refine WL.vS hS hE (runs_plain rfl) (Gives.loadBA hE 1 rfl rfl ty51) rfl ?_; clear hE a; intro a hE
       obtain ⟨q160, hq161, hr⟩ := bindS hr
       have hF := hS.lendV RMendLink.mono 0 rfl h82 rfl; clear hS; obtain ⟨t162, hle163, hS, hs164, bk165⟩ := hF
       have hc_ := MendCheckRound_ok hS (Sl.mono RI.mono hle163 h59) hs164 hq161
       refine WL.fnq hE (hc_) (runs_plain rfl) bd29 rfl rfl rfl ?_
       clear hE hS hc_; rintro e w ⟨rfl, hS⟩; refine ⟨_, rfl, ?_⟩; clear a; intro a hE
       replace hS := bk165 _ _ hS
       refine WL.vS hS hE (runs_plain rfl) (Gives.p hE rfl) rfl ?_; clear hE a; intro a hE
       refine WL.nil ?_
       refine W.seq (W.region ?_)
       refine WL.vS hS hE (runs_plain rfl) (Gives.p hE rfl) rfl ?_; clear hE a; intro a hE
       refine WL.vS hS hE (runs_plain rfl) (Gives.p hE rfl) rfl ?_; clear hE a; intro a hE
       refine WL.nil ?_
       refine W.cond hE rfl (fun hc166 => ?_) (fun hc166 => ?_)
       ·replace hr := iteT hc166 hr
        refine W.seq (W.region ?_)
        refine WL.vS hS hE (runs_plain rfl) (Gives.p hE rfl) rfl ?_; clear hE a; intro a hE
        refine WL.vS hS hE (runs_plain rfl) (Gives.p hE rfl) rfl ?_; clear hE a; intro a hE
        refine WL.vS hS hE (runs_plain rfl) (Gives.p hE rfl) rfl ?_; clear hE a; intro a hE
        refine WL.nil ?_
        refine W.ret ?_
        refine finG (fn := Try.f8) (rs := [.tmp 4]) (vs := [_]) hE rfl ⟨rfl, trivial⟩ ?_
        obtain rfl := Option.some.inj hr
        replace hS := hS.tail
        replace hS := hS.tail
        replace hS := hS.tail
        replace hS := hS.tail
        exact ⟨rfl, (hS.down hle61)⟩
       ·replace hr := iteF hc166 hr
        refine W.skip ?_
        refine W.seq (W.region ?_)
        refine WL.vS hS hE (runs_plain rfl) (Gives.loadBA hE 1 rfl rfl ty51) rfl ?_; clear hE a; intro a hE
        have hF := hS.fixD RMendLink.mono 0 rfl h82 rfl; clear hS; obtain ⟨s167, hle168, hS, h169⟩ := hF
        replace h59 := Sl.mono RI.mono hle168 h59
        replace h0_0 := Sl.mono RPlanRule.mono hle168 h0_0
        obtain ⟨q170, hq171, hr⟩ := bindS hr
        have hc_ := MendRoom_ok hS h59 h169 hq171
        refine WL.fnq hE (hc_) (runs_plain rfl) bd30 rfl rfl rfl ?_
        clear hE hS hc_; rintro e w ⟨a172, c173, s175, rfl, hle176, h174, hS⟩; refine ⟨_, rfl, ?_⟩; clear a; intro a hE
        replace h59 := Sl.mono RI.mono hle176 h59
        replace h169 := Sl.mono RMendLink.mono hle176 h169
        replace h0_0 := Sl.mono RPlanRule.mono hle176 h0_0
        refine WL.vS hS hE (runs_plain rfl) (Gives.p hE rfl) rfl ?_; clear hE a; intro a hE
        refine WL.vS hS hE (runs_plain rfl) (Gives.p hE rfl) rfl ?_; clear hE a; intro a hE
        refine WL.vS hS hE (runs_plain rfl) (Gives.p hE rfl) rfl ?_; clear hE a; intro a hE
        refine WL.vS hS hE (runs_plain rfl) (Gives.p hE rfl) rfl ?_; clear hE a; intro a hE
        refine WL.vS hS hE (runs_plain rfl) (Gives.p hE rfl) rfl ?_; clear hE a; intro a hE
        refine WL.nil ?_
        refine W.seq ?_
        refine W.seq ?_
        obtain ⟨q178, hq177, hr⟩ := bndS hr
        refine W.cut (fun a w => ∃ (q181 : Bool), q181 = q178 ∧ Rep a 251 [(1, .int .i64 x1), (5, .pointer (some ⟨b62, 0, none⟩)), (6, .int .i64 q170.2), (7, .pointer (some ⟨b65, 0, none⟩)), (16, .slice a172 q170.1.length c173), (155, .bool q181)] ∧ St w s175 (pt b65 (.cells #[.int .i64 x0.Period, .slice a57 q55.1.length c58, .slice a80 q79.length c81] 51 (0, 0)) :: pt b62 (.cells #[.slice a57 q55.1.length c58] 29 (0, 0)) :: pt b51 (.cells #[.int .i64 x0.Period, .int .i64 x0.Events, .slice a0_0 x0.Rules.length c0_0] 24 (0, 0)) :: R)) ?_ ?_
        ·refine W.gen fun K182 hK182 => ?_
         refine W.region ?_
         refine WL.vS hS hE (runs_plain rfl) (Gives.p hE rfl) rfl ?_; clear hE a; intro a hE
         refine WL.vS hS hE (runs_plain rfl) (Gives.p hE rfl) rfl ?_; clear hE a; intro a hE
         refine WL.vS hS hE (runs_plain rfl) (Gives.p hE rfl) rfl ?_; clear hE a; intro a hE
         rcases Bool.eq_false_or_eq_true (q170.2 != 0) with hg183 | hg183
         ·replace hq177 := iteT hg183 hq177
          refine WL.no hE (runs_not hE rfl rfl rfl (by rw [hg183]; decide)) rfl ?_; clear hE a; intro a hE
          refine WL.no hE (runs_not hE rfl rfl rfl (by rw [hg183]; decide)) rfl ?_; clear hE a; intro a hE
          refine WL.vS hS hE (runs_plain rfl) (Gives.pickT hE rfl hg183 rfl) rfl ?_; clear hE a; intro a hE
          refine WL.vS hS hE (runs_plain rfl) (Gives.p hE rfl) rfl ?_; clear hE a; intro a hE
          refine WL.no hE (runs_not hE rfl rfl rfl (by decide)) rfl ?_; clear hE a; intro a hE
          refine WL.no hE (runs_not hE rfl rfl rfl (by decide)) rfl ?_; clear hE a; intro a hE
          refine WL.vS hS hE (runs_plain rfl) (Gives.pickT hE rfl rfl rfl) rfl ?_; clear hE a; intro a hE
          refine WL.nil ?_
          subst hK182
          exact ⟨true, hq177, hE.pick _ ⟨rfl, rfl, rfl, rfl, rfl, rfl, trivial⟩, hS⟩
         ·replace hq177 := iteF hg183 hq177
          refine WL.vS hS hE (runs_if hE rfl rfl rfl hg183) (Gives.p hE rfl) rfl ?_; clear hE a; intro a hE
          refine WL.vS hS hE (runs_if hE rfl rfl rfl hg183) (Gives.p hE rfl) rfl ?_; clear hE a; intro a hE
          refine WL.vS hS hE (runs_plain rfl) (Gives.pickF hE rfl hg183 rfl) rfl ?_; clear hE a; intro a hE
          refine WL.vS hS hE (runs_plain rfl) (Gives.p hE rfl) rfl ?_; clear hE a; intro a hE
          rcases Bool.eq_false_or_eq_true (decide (x1 < 0)) with hg184 | hg184
          ·replace hq177 := iteT hg184 hq177
           refine WL.no hE (runs_not hE rfl rfl rfl (by rw [hg184]; decide)) rfl ?_; clear hE a; intro a hE
           refine WL.no hE (runs_not hE rfl rfl rfl (by rw [hg184]; decide)) rfl ?_; clear hE a; intro a hE
           refine WL.vS hS hE (runs_plain rfl) (Gives.pickT hE rfl hg184 rfl) rfl ?_; clear hE a; intro a hE
           refine WL.nil ?_
           subst hK182
           exact ⟨true, hq177, hE.pick _ ⟨rfl, rfl, rfl, rfl, rfl, rfl, trivial⟩, hS⟩
          ·replace hq177 := iteF hg184 hq177
           refine WL.vS hS hE (runs_if hE rfl rfl rfl hg184) (Gives.p hE rfl) rfl ?_; clear hE a; intro a hE
           refine WL.vS hS hE (runs_if hE rfl rfl rfl hg184) (Gives.p hE rfl) rfl ?_; clear hE a; intro a hE
           refine WL.vS hS hE (runs_plain rfl) (Gives.pickF hE rfl hg184 rfl) rfl ?_; clear hE a; intro a hE
           refine WL.nil ?_
           subst hK182
           exact ⟨decide (x1 > 28800), hq177, hE.pick _ ⟨rfl, rfl, rfl, rfl, rfl, rfl, trivial⟩, hS⟩
        ·clear hE hS a w; rintro a w ⟨q181, rfl, hE, hS⟩
         refine W.cond hE rfl (fun hc185 => ?_) (fun hc185 => ?_)
         ·replace hr := iteT hc185 hr
          refine W.seq (W.region ?_)
          refine WL.vS hS hE (runs_plain rfl) (Gives.p hE rfl) rfl ?_; clear hE a; intro a hE
          refine WL.vS hS hE (runs_plain rfl) (Gives.p hE rfl) rfl ?_; clear hE a; intro a hE
          refine WL.vS hS hE (runs_plain rfl) (Gives.p hE rfl) rfl ?_; clear hE a; intro a hE
          refine WL.nil ?_
          refine W.ret ?_
          refine finG (fn := Try.f8) (rs := [.tmp 4]) (vs := [_]) hE rfl ⟨rfl, trivial⟩ ?_
          obtain rfl := Option.some.inj hr
          replace hS := hS.tail
          replace hS := hS.tail
          replace hS := hS.tail
          exact ⟨rfl, (hS.down (Sg.Le.trans (Sg.Le.trans hle61 hle168) hle176))⟩
         ·replace hr := iteF hc185 hr
          refine W.skip ?_
          refine W.seq ?_
          refine W.seq ?_
          obtain ⟨q187, hq186, hr⟩ := bndS hr
          refine W.cut (fun a w => ∃ (q190 : Bool), q190 = q187 ∧ Rep a 251 [(1, .int .i64 x1), (5, .pointer (some ⟨b62, 0, none⟩)), (7, .pointer (some ⟨b65, 0, none⟩)), (16, .slice a172 q170.1.length c173), (167, .bool q190)] ∧ St w s175 (pt b65 (.cells #[.int .i64 x0.Period, .slice a57 q55.1.length c58, .slice a80 q79.length c81] 51 (0, 0)) :: pt b62 (.cells #[.slice a57 q55.1.length c58] 29 (0, 0)) :: pt b51 (.cells #[.int .i64 x0.Period, .int .i64 x0.Events, .slice a0_0 x0.Rules.length c0_0] 24 (0, 0)) :: R)) ?_ ?_
          ·refine W.gen fun K191 hK191 => ?_
           refine W.region ?_
           refine WL.vS hS hE (runs_plain rfl) (Gives.p hE rfl) rfl ?_; clear hE a; intro a hE
           refine WL.vS hS hE (runs_plain rfl) (Gives.len hE rfl sl56) rfl ?_; clear hE a; intro a hE
           refine WL.vS hS hE (runs_plain rfl) (Gives.loadB hE 1 rfl rfl rfl ty29) rfl ?_; clear hE a; intro a hE
           refine WL.vS hS hE (runs_plain rfl) (Gives.len hE rfl sl29) rfl ?_; clear hE a; intro a hE
           refine WL.vS hS hE (runs_plain rfl) (Gives.p hE rfl) rfl ?_; clear hE a; intro a hE
           refine WL.vS hS hE (runs_plain rfl) (Gives.p hE rfl) rfl ?_; clear hE a; intro a hE
           rcases Bool.eq_false_or_eq_true (((q170.1).length : Int) != ((q55.1).length : Int)) with hg192 | hg192
           ·replace hq186 := iteT hg192 hq186
            refine WL.no hE (runs_not hE rfl rfl rfl (by rw [hg192]; decide)) rfl ?_; clear hE a; intro a hE
            refine WL.no hE (runs_not hE rfl rfl rfl (by rw [hg192]; decide)) rfl ?_; clear hE a; intro a hE
            refine WL.no hE (runs_not hE rfl rfl rfl (by rw [hg192]; decide)) rfl ?_; clear hE a; intro a hE
            refine WL.vS hS hE (runs_plain rfl) (Gives.pickT hE rfl hg192 rfl) rfl ?_; clear hE a; intro a hE
            refine WL.nil ?_
            subst hK191
            exact ⟨true, hq186, hE.pick _ ⟨rfl, rfl, rfl, rfl, rfl, trivial⟩, hS⟩
           ·replace hq186 := iteF hg192 hq186
            refine WL.vS hS hE (runs_if hE rfl rfl rfl hg192) (Gives.p hE rfl) rfl ?_; clear hE a; intro a hE
            refine WL.vS hS hE (runs_if hE rfl rfl rfl hg192) (Gives.mkfn hE (vs := [.pointer (some ⟨b62, 0, none⟩)]) rfl) rfl ?_; clear hE a; intro a hE
            replace hS := hS.front 1 rfl
            refine WL.fnq hE (SlicesContainsFuncLLint_v1_ok hS h174 h59 rfl (r := SlicesContainsFuncLLint_v1 q170.1 q55.1)) (runs_if hE rfl rfl rfl hg192) bd31 rfl rfl rfl ?_
            clear hE hS; rintro e w ⟨rfl, hS⟩; refine ⟨_, rfl, ?_⟩; clear a; intro a hE
            refine WL.vS hS hE (runs_plain rfl) (Gives.pickF hE rfl hg192 rfl) rfl ?_; clear hE a; intro a hE
            refine WL.nil ?_
            replace hS := hS.front 2 rfl
            replace hS := hS.front 1 rfl
            replace hS := hS.front 2 rfl
            subst hK191
            exact ⟨(SlicesContainsFuncLLint_v1 q170.1 q55.1), hq186, hE.pick _ ⟨rfl, rfl, rfl, rfl, rfl, trivial⟩, hS⟩
          ·clear hE hS a w; rintro a w ⟨q190, rfl, hE, hS⟩
           refine W.cond hE rfl (fun hc193 => ?_) (fun hc193 => ?_)
           ·replace hr := iteT hc193 hr
            refine W.seq (W.region ?_)
            refine WL.vS hS hE (runs_plain rfl) (Gives.p hE rfl) rfl ?_; clear hE a; intro a hE
            refine WL.nil ?_
            refine W.ret ?_
            refine finG (fn := Try.f8) (rs := [.tmp 4]) (vs := [_]) hE rfl ⟨rfl, trivial⟩ ?_
            obtain rfl := Option.some.inj hr
            replace hS := hS.tail
            replace hS := hS.tail
            replace hS := hS.tail
            exact ⟨rfl, (hS.down (Sg.Le.trans (Sg.Le.trans hle61 hle168) hle176))⟩
           ·replace hr := iteF hc193 hr
            refine W.skip ?_
            refine W.seq ?_
            refine W.seq (W.region ?_)
            refine WL.vS hS hE (runs_plain rfl) (Gives.loadB hE 1 rfl rfl rfl ty29) rfl ?_; clear hE a; intro a hE
            refine WL.vS hS hE (runs_plain rfl) (Gives.len hE rfl sl29) rfl ?_; clear hE a; intro a hE
            refine WL.vS hS hE (runs_plain rfl) (Gives.p hE rfl) rfl ?_; clear hE a; intro a hE
            refine WL.nil ?_
            obtain ⟨q195, hq194, hr⟩ := bindS hr
            refine W.cut (fun a w => ∃ (s203 : Sg), s175.Le s203 ∧ (.next ()) = q195 ∧ Rep a 251 [] ∧ St w s203 (pt b65 (.cells #[.int .i64 x0.Period, .slice a57 q55.1.length c58, .slice a80 q79.length c81] 51 (0, 0)) :: pt b62 (.cells #[.slice a57 q55.1.length c58] 29 (0, 0)) :: pt b51 (.cells #[.int .i64 x0.Period, .int .i64 x0.Events, .slice a0_0 x0.Rules.length c0_0] 24 (0, 0)) :: R)) ?_ ?_
            ·refine W.block ?_
             refine W.loop (fun m a w => ∃ (rest198 : List Int) (k196 : Nat), ∃ (s203 : Sg), rest198.length = m ∧ q55.1.drop k196 = rest198 ∧ s175.Le s203 ∧ FishtopTopRounds.loop2 x0 x1 fu q55 q79 q170 rest198 k196 = some q195 ∧ Rep a 251 [(1, .int .i64 x1), (5, .pointer (some ⟨b62, 0, none⟩)), (7, .pointer (some ⟨b65, 0, none⟩)), (16, .slice a172 q170.1.length c173), (169, .int .i64 ((q55.1).length : Int)), (170, .int .i64 ((k196 : Nat) : Int))] ∧ St w s203 (pt b65 (.cells #[.int .i64 x0.Period, .slice a57 q55.1.length c58, .slice a80 q79.length c81] 51 (0, 0)) :: pt b62 (.cells #[.slice a57 q55.1.length c58] 29 (0, 0)) :: pt b51 (.cells #[.int .i64 x0.Period, .int .i64 x0.Events, .slice a0_0 x0.Rules.length c0_0] 24 (0, 0)) :: R)) (m := q55.1.length) ⟨q55.1, 0, s175, rfl, rfl, (Sg.Le.refl _), hq194, hE.pick _ ⟨rfl, rfl, rfl, rfl, rfl, rfl, trivial⟩, hS⟩ ?_
             clear hE hS a w hq194; rintro m202 a w ⟨rest198, k196, s203, rfl, hd199, hle204, hq194, hE, hS⟩
             refine W.gen fun K205 hK205 => ?_
             replace h174 := Sl.mono (RL.mono RI.mono) hle204 h174
             replace h59 := Sl.mono RI.mono hle204 h59
             replace h169 := Sl.mono RMendLink.mono hle204 h169
             replace h0_0 := Sl.mono RPlanRule.mono hle204 h0_0
             rcases rest198 with _ | ⟨x197, rest198⟩
             ·have hlt200 := drop_nil hd199
              refine W.seq (W.region ?_)
              refine WL.vS hS hE (runs_plain rfl) (Gives.p hE rfl) rfl ?_; clear hE a; intro a hE
              refine WL.nil ?_
              refine W.seq ?_
              refine W.condF hE rfl (decide_eq_false (by omega)) ?_
              subst hK205
              refine W.exit rfl ?_
              exact ⟨s203, hle204, Option.some.inj hq194, hE.pick _ trivial, hS⟩
             ·obtain ⟨hlt200, hx201, hd199⟩ := drop_cons hd199
              rw [FishtopTopRounds.loop2] at hq194
              refine W.seq (W.region ?_)
              refine WL.vS hS hE (runs_plain rfl) (Gives.p hE rfl) rfl ?_; clear hE a; intro a hE
              refine WL.nil ?_
              refine W.seq ?_
              refine W.condT hE rfl (decide_eq_true (by omega)) ?_
              refine W.skip ?_
              refine W.seq ?_
              refine W.block ?_
              refine W.seq (W.region ?_)
              refine WL.vS hS hE (runs_plain rfl) (Gives.p hE rfl) rfl ?_; clear hE a; intro a hE
              refine WL.vS hS hE (runs_plain rfl) (Gives.p hE rfl) rfl ?_; clear hE a; intro a hE
              refine WL.nil ?_
              refine W.seq (W.region ?_)
              refine WL.vS hS hE (runs_plain rfl) (Gives.loadBA hE 0 rfl rfl ty51) rfl ?_; clear hE a; intro a hE
              refine WL.vS hS hE (runs_plain rfl) (Gives.p hE rfl) rfl ?_; clear hE a; intro a hE
              refine WL.vS hS hE (runs_plain rfl) (Gives.p hE rfl) rfl ?_; clear hE a; intro a hE
              refine WL.vS hS hE (runs_plain rfl) (Gives.build hE (vs := [(0, .int .i64 ((k196 : Nat) : Int)), (2, .int .i64 x1)]) [.int .i64 ((k196 : Nat) : Int), .int .i64 0, .int .i64 x1] rfl (by kernel_rfl)) rfl ?_; clear hE a; intro a hE
              refine WL.lit hE hS (e := 63) (es := 3) (vs := [(0, .agg [.int .i64 ((k196 : Nat) : Int), .int .i64 0, .int .i64 x1].toArray)]) (cs := [.int .i64 ((k196 : Nat) : Int), .int .i64 0, .int .i64 x1]) (runs_plain rfl) rfl (by kernel_rfl) rfl ?_; clear hE hS a w; intro b206 a w hE hS
              replace hS := hS.ptVec (es := 3) (m := 1) rfl (by decide)
              have h208 : Ev 3 RMendFirst s203 [.int .i64 ((k196 : Nat) : Int), .int .i64 0, .int .i64 x1] [(MendFirst.mk ((k196 : Nat) : Int) 0 x1)] := (Ev.cons (c1 := [.int .i64 ((k196 : Nat) : Int), .int .i64 0, .int .i64 x1]) rfl rfl (Ev.nil))
              have hF := hS.fixD RMendFirst.mono 0 rfl h208 (rfl); clear hS; obtain ⟨s209, hle210, hS, h211⟩ := hF
              replace h174 := Sl.mono (RL.mono RI.mono) hle210 h174
              replace h59 := Sl.mono RI.mono hle210 h59
              replace h169 := Sl.mono RMendLink.mono hle210 h169
              replace h0_0 := Sl.mono RPlanRule.mono hle210 h0_0
              obtain ⟨q212, hq213, hq194⟩ := bindS hq194
              have hc_ := MendSpread_ok hS h59 h169 h211 hq213
              refine WL.fnq hE (hc_) (runs_plain rfl) bd33 rfl rfl rfl ?_
              clear hE hS hc_; rintro e w ⟨a214, c215, n216, cs217, s220, rfl, hle221, h218, rfl, hS⟩; refine ⟨_, rfl, ?_⟩; clear a; intro a hE
              replace h174 := Sl.mono (RL.mono RI.mono) hle221 h174
              replace h59 := Sl.mono RI.mono hle221 h59
              replace h169 := Sl.mono RMendLink.mono hle221 h169
              replace h211 := Sl.mono RMendFirst.mono hle221 h211
              replace h0_0 := Sl.mono RPlanRule.mono hle221 h0_0
              refine WL.vS hS hE (runs_plain rfl) (Gives.p hE rfl) rfl ?_; clear hE a; intro a hE
              refine WL.vS hS hE (runs_plain rfl) (Gives.p hE rfl) rfl ?_; clear hE a; intro a hE
              refine WL.vS hS hE (runs_plain rfl) (Gives.p hE rfl) rfl ?_; clear hE a; intro a hE
              refine WL.vS hS hE (runs_plain rfl) (Gives.p hE rfl) rfl ?_; clear hE a; intro a hE
              refine WL.vS hS hE (runs_plain rfl) (Gives.p hE rfl) rfl ?_; clear hE a; intro a hE
              refine WL.nil ?_
              refine W.seq ?_
              refine W.seq ?_
              obtain ⟨q223, hq222, hq194⟩ := bndS hq194
              refine W.cut (fun a w => ∃ (q226 : Bool), q226 = q223 ∧ Rep a 251 [(1, .int .i64 x1), (5, .pointer (some ⟨b62, 0, none⟩)), (7, .pointer (some ⟨b65, 0, none⟩)), (16, .slice a172 q170.1.length c173), (17, .int .i64 ((k196 : Nat) : Int)), (18, .slice a214 q212.1.length c215), (169, .int .i64 ((q55.1).length : Int)), (170, .int .i64 ((k196 : Nat) : Int)), (193, .bool q226)] ∧ St w s220 (vecC 29 1 a214 c215 q212.1.length cs217 :: pt b65 (.cells #[.int .i64 x0.Period, .slice a57 q55.1.length c58, .slice a80 q79.length c81] 51 (0, 0)) :: pt b62 (.cells #[.slice a57 q55.1.length c58] 29 (0, 0)) :: pt b51 (.cells #[.int .i64 x0.Period, .int .i64 x0.Events, .slice a0_0 x0.Rules.length c0_0] 24 (0, 0)) :: R)) ?_ ?_
              ·refine W.gen fun K227 hK227 => ?_
               refine W.region ?_
               refine WL.vS hS hE (runs_plain rfl) (Gives.p hE rfl) rfl ?_; clear hE a; intro a hE
               refine WL.vS hS hE (runs_plain rfl) (Gives.p hE rfl) rfl ?_; clear hE a; intro a hE
               refine WL.vS hS hE (runs_plain rfl) (Gives.p hE rfl) rfl ?_; clear hE a; intro a hE
               rcases Bool.eq_false_or_eq_true (q212.2 != 0) with hg228 | hg228
               ·replace hq222 := iteT hg228 hq222
                refine WL.no hE (runs_not hE rfl rfl rfl (by rw [hg228]; decide)) rfl ?_; clear hE a; intro a hE
                refine WL.no hE (runs_not hE rfl rfl rfl (by rw [hg228]; decide)) rfl ?_; clear hE a; intro a hE
                refine WL.no hE (runs_not hE rfl rfl rfl (by rw [hg228]; decide)) rfl ?_; clear hE a; intro a hE
                refine WL.vS hS hE (runs_plain rfl) (Gives.pickT hE rfl hg228 rfl) rfl ?_; clear hE a; intro a hE
                refine WL.vS hS hE (runs_plain rfl) (Gives.p hE rfl) rfl ?_; clear hE a; intro a hE
                refine WL.no hE (runs_not hE rfl rfl rfl (by decide)) rfl ?_; clear hE a; intro a hE
                refine WL.no hE (runs_not hE rfl rfl rfl (by decide)) rfl ?_; clear hE a; intro a hE
                refine WL.no hE (runs_not hE rfl rfl rfl (by decide)) rfl ?_; clear hE a; intro a hE
                refine WL.vS hS hE (runs_plain rfl) (Gives.pickT hE rfl rfl rfl) rfl ?_; clear hE a; intro a hE
                refine WL.nil ?_
                subst hK227
                exact ⟨true, hq222, hE.pick _ ⟨rfl, rfl, rfl, rfl, rfl, rfl, rfl, rfl, rfl, trivial⟩, hS⟩
               ·replace hq222 := iteF hg228 hq222
                refine WL.vS hS hE (runs_if hE rfl rfl rfl hg228) (Gives.p hE rfl) rfl ?_; clear hE a; intro a hE
                refine WL.vS hS hE (runs_if hE rfl rfl rfl hg228) (Gives.len hE rfl sl56) rfl ?_; clear hE a; intro a hE
                refine WL.vS hS hE (runs_if hE rfl rfl rfl hg228) (Gives.p hE rfl) rfl ?_; clear hE a; intro a hE
                refine WL.vS hS hE (runs_plain rfl) (Gives.pickF hE rfl hg228 rfl) rfl ?_; clear hE a; intro a hE
                refine WL.vS hS hE (runs_plain rfl) (Gives.p hE rfl) rfl ?_; clear hE a; intro a hE
                rcases Bool.eq_false_or_eq_true (((q212.1.length : Nat) : Int) != 40) with hg229 | hg229
                ·replace hq222 := iteT hg229 hq222
                 refine WL.no hE (runs_not hE rfl rfl rfl (by rw [hg229]; decide)) rfl ?_; clear hE a; intro a hE
                 refine WL.no hE (runs_not hE rfl rfl rfl (by rw [hg229]; decide)) rfl ?_; clear hE a; intro a hE
                 refine WL.no hE (runs_not hE rfl rfl rfl (by rw [hg229]; decide)) rfl ?_; clear hE a; intro a hE
                 refine WL.vS hS hE (runs_plain rfl) (Gives.pickT hE rfl hg229 rfl) rfl ?_; clear hE a; intro a hE
                 refine WL.nil ?_
                 subst hK227
                 exact ⟨true, hq222, hE.pick _ ⟨rfl, rfl, rfl, rfl, rfl, rfl, rfl, rfl, rfl, trivial⟩, hS⟩
                ·replace hq222 := iteF hg229 hq222
                 refine WL.vS hS hE (runs_if hE rfl rfl rfl hg229) (Gives.p hE rfl) rfl ?_; clear hE a; intro a hE
                 refine WL.vS hS hE (runs_if hE rfl rfl rfl hg229) (Gives.mkfn hE (vs := [.pointer (some ⟨b62, 0, none⟩)]) rfl) rfl ?_; clear hE a; intro a hE
                 have hF := hS.lendV (RL.mono RI.mono) 0 rfl h218 rfl; clear hS; obtain ⟨t230, hle231, hS, hs232, bk233⟩ := hF
                 replace hS := hS.front 1 rfl
                 refine WL.fnq hE (SlicesContainsFuncLLint_v2_ok hS hs232 (Sl.mono RI.mono hle231 h59) rfl (r := SlicesContainsFuncLLint_v2 q212.1 q55.1)) (runs_if hE rfl rfl rfl hg229) bd31 rfl rfl rfl ?_
                 clear hE hS; rintro e w ⟨rfl, hS⟩; refine ⟨_, rfl, ?_⟩; clear a; intro a hE
                 replace hS := bk233 _ _ hS
                 refine WL.vS hS hE (runs_plain rfl) (Gives.pickF hE rfl hg229 rfl) rfl ?_; clear hE a; intro a hE
                 refine WL.nil ?_
                 replace hS := hS.front 3 rfl
                 replace hS := hS.front 2 rfl
                 replace hS := hS.front 3 rfl
                 replace hS := hS.front 3 rfl
                 subst hK227
                 exact ⟨(SlicesContainsFuncLLint_v2 q212.1 q55.1), hq222, hE.pick _ ⟨rfl, rfl, rfl, rfl, rfl, rfl, rfl, rfl, rfl, trivial⟩, hS⟩
              ·clear hE hS a w; rintro a w ⟨q226, rfl, hE, hS⟩
               refine W.cond hE rfl (fun hc234 => ?_) (fun hc234 => ?_)
               ·replace hq194 := iteT hc234 hq194
                refine W.seq (W.region ?_)
                refine WL.vS hS hE (runs_plain rfl) (Gives.p hE rfl) rfl ?_; clear hE a; intro a hE
                refine WL.nil ?_
                refine W.ret ?_
                subst hK205
                rw [← Option.some.inj hq194] at hr
                dsimp only at hr
                refine finG (fn := Try.f8) (rs := [.tmp 4]) (vs := [_]) hE rfl ⟨rfl, trivial⟩ ?_
                obtain rfl := Option.some.inj hr
                replace hS := hS.tail
                replace hS := hS.tail
                replace hS := hS.tail
                replace hS := hS.tail
                exact ⟨rfl, (hS.down (Sg.Le.trans (Sg.Le.trans (Sg.Le.trans (Sg.Le.trans (Sg.Le.trans hle61 hle168) hle176) hle204) hle210) hle221))⟩
               ·replace hq194 := iteF hc234 hq194
                refine W.skip ?_
                refine W.seq (W.region ?_)
                refine WL.vS hS hE (runs_plain rfl) (Gives.loadB hE 2 rfl rfl rfl ty29) rfl ?_; clear hE a; intro a hE
                refine WL.vS hS hE (runs_plain rfl) (Gives.len hE rfl sl29) rfl ?_; clear hE a; intro a hE
                refine WL.vS hS hE (runs_plain rfl) (Gives.p hE rfl) rfl ?_; clear hE a; intro a hE
                refine WL.nil ?_
                obtain ⟨q236, hq235, hq194⟩ := bindS hq194
                refine W.cut (fun a w => (.next ()) = q236 ∧ Rep a 251 [(1, .int .i64 x1), (5, .pointer (some ⟨b62, 0, none⟩)), (7, .pointer (some ⟨b65, 0, none⟩)), (16, .slice a172 q170.1.length c173), (169, .int .i64 ((q55.1).length : Int)), (170, .int .i64 ((k196 : Nat) : Int))] ∧ St w s220 (vecC 29 1 a214 c215 q212.1.length cs217 :: pt b65 (.cells #[.int .i64 x0.Period, .slice a57 q55.1.length c58, .slice a80 q79.length c81] 51 (0, 0)) :: pt b62 (.cells #[.slice a57 q55.1.length c58] 29 (0, 0)) :: pt b51 (.cells #[.int .i64 x0.Period, .int .i64 x0.Events, .slice a0_0 x0.Rules.length c0_0] 24 (0, 0)) :: R)) ?_ ?_
                ·refine W.block ?_
                 refine W.loop (fun m a w => ∃ (rest239 : List Int) (k237 : Nat), rest239.length = m ∧ q55.1.drop k237 = rest239 ∧ FishtopTopRounds.loop3 x1 q170 k196 q212 rest239 k237 = some q236 ∧ Rep a 251 [(1, .int .i64 x1), (5, .pointer (some ⟨b62, 0, none⟩)), (7, .pointer (some ⟨b65, 0, none⟩)), (16, .slice a172 q170.1.length c173), (17, .int .i64 ((k196 : Nat) : Int)), (18, .slice a214 q212.1.length c215), (169, .int .i64 ((q55.1).length : Int)), (170, .int .i64 ((k196 : Nat) : Int)), (195, .int .i64 ((q55.1).length : Int)), (196, .int .i64 ((k237 : Nat) : Int))] ∧ St w s220 (vecC 29 1 a214 c215 q212.1.length cs217 :: pt b65 (.cells #[.int .i64 x0.Period, .slice a57 q55.1.length c58, .slice a80 q79.length c81] 51 (0, 0)) :: pt b62 (.cells #[.slice a57 q55.1.length c58] 29 (0, 0)) :: pt b51 (.cells #[.int .i64 x0.Period, .int .i64 x0.Events, .slice a0_0 x0.Rules.length c0_0] 24 (0, 0)) :: R)) (m := q55.1.length) ⟨q55.1, 0, rfl, rfl, hq235, hE.pick _ ⟨rfl, rfl, rfl, rfl, rfl, rfl, rfl, rfl, rfl, rfl, trivial⟩, hS⟩ ?_
                 clear hE hS a w hq235; rintro m243 a w ⟨rest239, k237, rfl, hd240, hq235, hE, hS⟩
                 refine W.gen fun K246 hK246 => ?_
                 rcases rest239 with _ | ⟨x238, rest239⟩
                 ·have hlt241 := drop_nil hd240
                  refine W.seq (W.region ?_)
                  refine WL.vS hS hE (runs_plain rfl) (Gives.p hE rfl) rfl ?_; clear hE a; intro a hE
                  refine WL.nil ?_
                  refine W.seq ?_
                  refine W.condF hE rfl (decide_eq_false (by omega)) ?_
                  subst hK246
                  refine W.exit rfl ?_
                  exact ⟨Option.some.inj hq235, hE.pick _ ⟨rfl, rfl, rfl, rfl, rfl, rfl, trivial⟩, hS⟩
                 ·obtain ⟨hlt241, hx242, hd240⟩ := drop_cons hd240
                  rw [FishtopTopRounds.loop3] at hq235
                  refine W.seq (W.region ?_)
                  refine WL.vS hS hE (runs_plain rfl) (Gives.p hE rfl) rfl ?_; clear hE a; intro a hE
                  refine WL.nil ?_
                  refine W.seq ?_
                  refine W.condT hE rfl (decide_eq_true (by omega)) ?_
                  refine W.skip ?_
                  refine W.seq ?_
                  refine W.block ?_
                  refine W.seq (W.region ?_)
                  refine WL.vS hS hE (runs_plain rfl) (Gives.p hE rfl) rfl ?_; clear hE a; intro a hE
                  refine WL.vS hS hE (runs_plain rfl) (Gives.p hE rfl) rfl ?_; clear hE a; intro a hE
                  refine WL.nil ?_
                  refine W.seq (W.region ?_)
                  refine WL.vS hS hE (runs_plain rfl) (Gives.p hE rfl) rfl ?_; clear hE a; intro a hE
                  refine WL.nil ?_
                  refine W.seq ?_
                  refine W.seq (W.region ?_)
                  refine WL.vS hS hE (runs_plain rfl) (Gives.p hE rfl) rfl ?_; clear hE a; intro a hE
                  refine WL.vS hS hE (runs_plain rfl) (Gives.len hE rfl sl56) rfl ?_; clear hE a; intro a hE
                  refine WL.vS hS hE (runs_plain rfl) (Gives.p hE rfl) rfl ?_; clear hE a; intro a hE
                  refine WL.nil ?_
                  have hb258 : q212.1.length ≤ 9223372036854775807 := by have := hS.vecCap 0 rfl; unfold maxLen at this; omega
                  obtain ⟨q248, hq247, hq235⟩ := bindS hq235
                  refine W.cut (fun a w => ∃ (q259 : Int), q259 = q248 ∧ Rep a 251 [(1, .int .i64 x1), (5, .pointer (some ⟨b62, 0, none⟩)), (7, .pointer (some ⟨b65, 0, none⟩)), (16, .slice a172 q170.1.length c173), (17, .int .i64 ((k196 : Nat) : Int)), (18, .slice a214 q212.1.length c215), (20, .int .i64 ((k237 : Nat) : Int)), (21, .int .i64 q259), (169, .int .i64 ((q55.1).length : Int)), (170, .int .i64 ((k196 : Nat) : Int)), (195, .int .i64 ((q55.1).length : Int)), (196, .int .i64 ((k237 : Nat) : Int))] ∧ St w s220 (vecC 29 1 a214 c215 q212.1.length cs217 :: pt b65 (.cells #[.int .i64 x0.Period, .slice a57 q55.1.length c58, .slice a80 q79.length c81] 51 (0, 0)) :: pt b62 (.cells #[.slice a57 q55.1.length c58] 29 (0, 0)) :: pt b51 (.cells #[.int .i64 x0.Period, .int .i64 x0.Events, .slice a0_0 x0.Rules.length c0_0] 24 (0, 0)) :: R)) ?_ ?_
                  ·refine W.block ?_
                   refine W.loop (fun m a w => ∃ (rest251 : Nat) (k249 : Nat), ∃ (q259 : Int), rest251 = m ∧ k249 + rest251 = q212.1.length ∧ FishtopTopRounds.loop4 q212 k237 rest251 k249 q259 = some q248 ∧ Rep a 251 [(1, .int .i64 x1), (5, .pointer (some ⟨b62, 0, none⟩)), (7, .pointer (some ⟨b65, 0, none⟩)), (16, .slice a172 q170.1.length c173), (17, .int .i64 ((k196 : Nat) : Int)), (18, .slice a214 q212.1.length c215), (20, .int .i64 ((k237 : Nat) : Int)), (21, .int .i64 q259), (169, .int .i64 ((q55.1).length : Int)), (170, .int .i64 ((k196 : Nat) : Int)), (195, .int .i64 ((q55.1).length : Int)), (196, .int .i64 ((k237 : Nat) : Int)), (199, .slice a214 q212.1.length c215), (200, .int .i64 ((q212.1.length : Nat) : Int)), (201, .int .i64 ((k249 : Nat) : Int))] ∧ St w s220 (vecC 29 1 a214 c215 q212.1.length cs217 :: pt b65 (.cells #[.int .i64 x0.Period, .slice a57 q55.1.length c58, .slice a80 q79.length c81] 51 (0, 0)) :: pt b62 (.cells #[.slice a57 q55.1.length c58] 29 (0, 0)) :: pt b51 (.cells #[.int .i64 x0.Period, .int .i64 x0.Events, .slice a0_0 x0.Rules.length c0_0] 24 (0, 0)) :: R)) (m := q212.1.length) ⟨q212.1.length, 0, 0, rfl, by omega, hq247, hE.pick _ ⟨rfl, rfl, rfl, rfl, rfl, rfl, rfl, rfl, rfl, rfl, rfl, rfl, rfl, rfl, rfl, trivial⟩, hS⟩ ?_
                   clear hE hS a w hq247; rintro m255 a w ⟨rest251, k249, q259, rfl, hd252, hq247, hE, hS⟩
                   refine W.gen fun K260 hK260 => ?_
                   rcases rest251 with _ | rest251
                   ·skip
                    refine W.seq (W.region ?_)
                    refine WL.vS hS hE (runs_plain rfl) (Gives.p hE rfl) rfl ?_; clear hE a; intro a hE
                    refine WL.nil ?_
                    refine W.seq ?_
                    refine W.condF hE rfl (decide_eq_false (by omega)) ?_
                    subst hK260
                    refine W.exit rfl ?_
                    exact ⟨q259, Option.some.inj hq247, hE.pick _ ⟨rfl, rfl, rfl, rfl, rfl, rfl, rfl, rfl, rfl, rfl, rfl, rfl, trivial⟩, hS⟩
                   ·have hlt253 : k249 < q212.1.length := by omega
                    rw [FishtopTopRounds.loop4] at hq247
                    refine W.seq (W.region ?_)
                    refine WL.vS hS hE (runs_plain rfl) (Gives.p hE rfl) rfl ?_; clear hE a; intro a hE
                    refine WL.nil ?_
                    refine W.seq ?_
                    refine W.condT hE rfl (decide_eq_true (by omega)) ?_
                    refine W.skip ?_
                    refine W.seq ?_
                    refine W.block ?_
                    refine W.seq (W.region ?_)
                    obtain ⟨x261, hx262, hq247⟩ := bindS hq247
                    obtain ⟨hi263, hlt264, hy265⟩ := gx_some hx262
                    obtain ⟨vs266, hl267, hR268, hd269, hget270⟩ := h218.at hy265
                    obtain ⟨a271, c272, rfl, h273⟩ := hR268
                    refine WL.vS hS hE (runs_plain rfl) (Gives.idx hE ((((k249 : Nat) : Int)).toNat) rfl rfl sl56 hi263 (by omega) (hS.vecAok 0 rfl (by omega : (((k249 : Nat) : Int)).toNat < q212.1.length))) rfl ?_; clear hE a; intro a hE
                    refine WL.vS hS hE (runs_plain rfl) (Gives.load1 hE rfl (fun w h => St.vecSees h 0 rfl ((((k249 : Nat) : Int)).toNat * 1) _ hget270) ty29) rfl ?_; clear hE a; intro a hE
                    refine WL.vS hS hE (runs_plain rfl) (Gives.p hE rfl) rfl ?_; clear hE a; intro a hE
                    refine WL.nil ?_
                    refine W.region ?_
                    refine WL.vS hS hE (runs_plain rfl) (Gives.p hE rfl) rfl ?_; clear hE a; intro a hE
                    refine WL.vS hS hE (runs_plain rfl) (Gives.p hE rfl) rfl ?_; clear hE a; intro a hE
                    refine WL.vS hS hE (runs_plain rfl) (Gives.p hE rfl) rfl ?_; clear hE a; intro a hE
                    obtain ⟨x274, hx275, hq247⟩ := bindS hq247
                    obtain ⟨hi276, hlt277, hy278⟩ := gx_some hx275
                    obtain ⟨cs279, hl280, hR281, hat282⟩ := h273.at hy278
                    subst hR281
                    refine WL.vS hS hE (runs_plain rfl) (Gives.idx hE (((k237 : Nat) : Int)).toNat rfl rfl sl29 hi276 hlt277 (h273.aok hlt277)) rfl ?_; clear hE a; intro a hE
                    refine WL.vS hS hE (runs_plain rfl) (Gives.load1 hE rfl (fun w h => hat282 w _ h) ty3) rfl ?_; clear hE a; intro a hE
                    refine WL.vS hS hE (runs_plain rfl) (Gives.max2 hE rfl rfl) rfl ?_; clear hE a; intro a hE
                    refine WL.vS hS hE (runs_plain rfl) (Gives.p hE rfl) rfl ?_; clear hE a; intro a hE
                    refine WL.nil ?_
                    refine W.region ?_
                    refine WL.vS hS hE (runs_plain rfl) (Gives.inc hE rfl (by omega)) rfl ?_; clear hE a; intro a hE
                    refine WL.vS hS hE (runs_plain rfl) (Gives.p hE rfl) rfl ?_; clear hE a; intro a hE
                    refine WL.nil ?_
                    subst hK260
                    exact ⟨rest251, Nat.lt_succ_self _, rest251, k249 + 1, (mx q259 x274), rfl, (by omega), hq247, hE.pick _ ⟨rfl, rfl, rfl, rfl, rfl, rfl, rfl, rfl, rfl, rfl, rfl, rfl, rfl, rfl, rfl, trivial⟩, hS⟩
                  ·clear hE hS a w; rintro a w ⟨q259, rfl, hE, hS⟩
                   refine W.seq (W.region ?_)
                   refine WL.vS hS hE (runs_plain rfl) (Gives.p hE rfl) rfl ?_; clear hE a; intro a hE
                   refine WL.vS hS hE (runs_plain rfl) (Gives.p hE rfl) rfl ?_; clear hE a; intro a hE
                   refine WL.vS hS hE (runs_plain rfl) (Gives.p hE rfl) rfl ?_; clear hE a; intro a hE
                   obtain ⟨x283, hx284, hq235⟩ := bindS hq235
                   obtain ⟨hi285, hlt286, hy287⟩ := gx_some hx284
                   obtain ⟨cs288, hl289, hR290, hat291⟩ := h174.at hy287
                   obtain ⟨a292, c293, rfl, h294⟩ := hR290
                   refine WL.vS hS hE (runs_plain rfl) (Gives.idx hE (((k196 : Nat) : Int)).toNat rfl rfl sl56 hi285 hlt286 (h174.aok hlt286)) rfl ?_; clear hE a; intro a hE
                   refine WL.vS hS hE (runs_plain rfl) (Gives.load1 hE rfl (fun w h => hat291 w _ h) ty29) rfl ?_; clear hE a; intro a hE
                   refine WL.vS hS hE (runs_plain rfl) (Gives.p hE rfl) rfl ?_; clear hE a; intro a hE
                   obtain ⟨x295, hx296, hq235⟩ := bindS hq235
                   obtain ⟨hi297, hlt298, hy299⟩ := gx_some hx296
                   obtain ⟨cs300, hl301, hR302, hat303⟩ := h294.at hy299
                   subst hR302
                   refine WL.vS hS hE (runs_plain rfl) (Gives.idx hE (((k237 : Nat) : Int)).toNat rfl rfl sl29 hi297 hlt298 (h294.aok hlt298)) rfl ?_; clear hE a; intro a hE
                   refine WL.vS hS hE (runs_plain rfl) (Gives.load1 hE rfl (fun w h => hat303 w _ h) ty3) rfl ?_; clear hE a; intro a hE
                   refine WL.vS hS hE (runs_plain rfl) (Gives.p hE rfl) rfl ?_; clear hE a; intro a hE
                   refine WL.vS hS hE (runs_plain rfl) (Gives.max2 hE rfl rfl) rfl ?_; clear hE a; intro a hE
                   refine WL.vS hS hE (runs_plain rfl) (Gives.p hE rfl) rfl ?_; clear hE a; intro a hE
                   refine WL.nil ?_
                   refine W.seq ?_
                   obtain ⟨q305, hq304, hq235⟩ := bindS hq235
                   refine W.cut (fun a w => ∃ (q308 : Bool), q308 = q305 ∧ Rep a 251 [(1, .int .i64 x1), (5, .pointer (some ⟨b62, 0, none⟩)), (7, .pointer (some ⟨b65, 0, none⟩)), (16, .slice a172 q170.1.length c173), (17, .int .i64 ((k196 : Nat) : Int)), (18, .slice a214 q212.1.length c215), (169, .int .i64 ((q55.1).length : Int)), (170, .int .i64 ((k196 : Nat) : Int)), (195, .int .i64 ((q55.1).length : Int)), (196, .int .i64 ((k237 : Nat) : Int)), (248, .bool q308)] ∧ St w s220 (vecC 29 1 a214 c215 q212.1.length cs217 :: pt b65 (.cells #[.int .i64 x0.Period, .slice a57 q55.1.length c58, .slice a80 q79.length c81] 51 (0, 0)) :: pt b62 (.cells #[.slice a57 q55.1.length c58] 29 (0, 0)) :: pt b51 (.cells #[.int .i64 x0.Period, .int .i64 x0.Events, .slice a0_0 x0.Rules.length c0_0] 24 (0, 0)) :: R)) ?_ ?_
                   ·refine W.gen fun K309 hK309 => ?_
                    refine W.region ?_
                    refine WL.vS hS hE (runs_plain rfl) (Gives.p hE rfl) rfl ?_; clear hE a; intro a hE
                    refine WL.vS hS hE (runs_plain rfl) (Gives.p hE rfl) rfl ?_; clear hE a; intro a hE
                    obtain ⟨x310, hx311, hq304⟩ := bindS hq304
                    obtain ⟨hi312, hlt313, hy314⟩ := gx_some hx311
                    obtain ⟨cs315, hl316, hR317, hat318⟩ := h174.at hy314
                    obtain ⟨a319, c320, rfl, h321⟩ := hR317
                    refine WL.vS hS hE (runs_plain rfl) (Gives.idx hE (((k196 : Nat) : Int)).toNat rfl rfl sl56 hi312 hlt313 (h174.aok hlt313)) rfl ?_; clear hE a; intro a hE
                    refine WL.vS hS hE (runs_plain rfl) (Gives.load1 hE rfl (fun w h => hat318 w _ h) ty29) rfl ?_; clear hE a; intro a hE
                    refine WL.vS hS hE (runs_plain rfl) (Gives.p hE rfl) rfl ?_; clear hE a; intro a hE
                    obtain ⟨x322, hx323, hq304⟩ := bindS hq304
                    obtain ⟨hi324, hlt325, hy326⟩ := gx_some hx323
                    obtain ⟨cs327, hl328, hR329, hat330⟩ := h321.at hy326
                    subst hR329
                    refine WL.vS hS hE (runs_plain rfl) (Gives.idx hE (((k237 : Nat) : Int)).toNat rfl rfl sl29 hi324 hlt325 (h321.aok hlt325)) rfl ?_; clear hE a; intro a hE
                    refine WL.vS hS hE (runs_plain rfl) (Gives.load1 hE rfl (fun w h => hat330 w _ h) ty3) rfl ?_; clear hE a; intro a hE
                    refine WL.vS hS hE (runs_plain rfl) (Gives.p hE rfl) rfl ?_; clear hE a; intro a hE
                    refine WL.vS hS hE (runs_plain rfl) (Gives.p hE rfl) rfl ?_; clear hE a; intro a hE
                    rcases Bool.eq_false_or_eq_true (decide (x322 < 0)) with hg331 | hg331
                    ·replace hq304 := iteT hg331 hq304
                     refine WL.vS hS hE (runs_if hE rfl rfl rfl hg331) (Gives.p hE rfl) rfl ?_; clear hE a; intro a hE
                     refine WL.vS hS hE (runs_if hE rfl rfl rfl hg331) (Gives.p hE rfl) rfl ?_; clear hE a; intro a hE
                     refine WL.vS hS hE (runs_plain rfl) (Gives.pickT hE rfl hg331 rfl) rfl ?_; clear hE a; intro a hE
                     refine WL.vS hS hE (runs_plain rfl) (Gives.p hE rfl) rfl ?_; clear hE a; intro a hE
                     rcases Bool.eq_false_or_eq_true (q259 != 0) with hg332 | hg332
                     ·replace hq304 := iteT hg332 hq304
                      refine WL.no hE (runs_not hE rfl rfl rfl (by rw [hg332]; decide)) rfl ?_; clear hE a; intro a hE
                      refine WL.no hE (runs_not hE rfl rfl rfl (by rw [hg332]; decide)) rfl ?_; clear hE a; intro a hE
                      refine WL.no hE (runs_not hE rfl rfl rfl (by rw [hg332]; decide)) rfl ?_; clear hE a; intro a hE
                      refine WL.no hE (runs_not hE rfl rfl rfl (by rw [hg332]; decide)) rfl ?_; clear hE a; intro a hE
                      refine WL.no hE (runs_not hE rfl rfl rfl (by rw [hg332]; decide)) rfl ?_; clear hE a; intro a hE
                      refine WL.no hE (runs_not hE rfl rfl rfl (by rw [hg332]; decide)) rfl ?_; clear hE a; intro a hE
                      refine WL.no hE (runs_not hE rfl rfl rfl (by rw [hg332]; decide)) rfl ?_; clear hE a; intro a hE
                      refine WL.no hE (runs_not hE rfl rfl rfl (by rw [hg332]; decide)) rfl ?_; clear hE a; intro a hE
                      refine WL.no hE (runs_not hE rfl rfl rfl (by rw [hg332]; decide)) rfl ?_; clear hE a; intro a hE
                      refine WL.no hE (runs_undef hE rfl rfl rfl) rfl ?_; clear hE a; intro a hE
                      refine WL.no hE (runs_undef hE rfl rfl rfl) rfl ?_; clear hE a; intro a hE
                      refine WL.no hE (runs_undef hE rfl rfl rfl) rfl ?_; clear hE a; intro a hE
                      refine WL.no hE (runs_not hE rfl rfl rfl (by rw [hg332]; decide)) rfl ?_; clear hE a; intro a hE
                      refine WL.vS hS hE (runs_plain rfl) (Gives.pickT hE rfl hg332 rfl) rfl ?_; clear hE a; intro a hE
                      refine WL.nil ?_
                      subst hK309
                      exact ⟨true, Option.some.inj hq304, hE.pick _ ⟨rfl, rfl, rfl, rfl, rfl, rfl, rfl, rfl, rfl, rfl, rfl, trivial⟩, hS⟩
                     ·replace hq304 := iteF hg332 hq304
                      refine WL.vS hS hE (runs_if hE rfl rfl rfl hg332) (Gives.p hE rfl) rfl ?_; clear hE a; intro a hE
                      refine WL.vS hS hE (runs_if hE rfl rfl rfl hg332) (Gives.p hE rfl) rfl ?_; clear hE a; intro a hE
                      obtain ⟨x333, hx334, hq304⟩ := bindS hq304
                      obtain ⟨hi335, hlt336, hy337⟩ := gx_some hx334
                      obtain ⟨cs338, hl339, hR340, hat341⟩ := h174.at hy337
                      obtain ⟨a342, c343, rfl, h344⟩ := hR340
                      refine WL.vS hS hE (runs_if hE rfl rfl rfl hg332) (Gives.idx hE (((k196 : Nat) : Int)).toNat rfl rfl sl56 hi335 hlt336 (h174.aok hlt336)) rfl ?_; clear hE a; intro a hE
                      refine WL.vS hS hE (runs_if hE rfl rfl rfl hg332) (Gives.load1 hE rfl (fun w h => hat341 w _ h) ty29) rfl ?_; clear hE a; intro a hE
                      refine WL.vS hS hE (runs_if hE rfl rfl rfl hg332) (Gives.p hE rfl) rfl ?_; clear hE a; intro a hE
                      obtain ⟨x345, hx346, hq304⟩ := bindS hq304
                      obtain ⟨hi347, hlt348, hy349⟩ := gx_some hx346
                      obtain ⟨cs350, hl351, hR352, hat353⟩ := h344.at hy349
                      subst hR352
                      refine WL.vS hS hE (runs_if hE rfl rfl rfl hg332) (Gives.idx hE (((k237 : Nat) : Int)).toNat rfl rfl sl29 hi347 hlt348 (h344.aok hlt348)) rfl ?_; clear hE a; intro a hE
                      refine WL.vS hS hE (runs_if hE rfl rfl rfl hg332) (Gives.load1 hE rfl (fun w h => hat353 w _ h) ty3) rfl ?_; clear hE a; intro a hE
                      refine WL.vS hS hE (runs_if hE rfl rfl rfl hg332) (Gives.p hE rfl) rfl ?_; clear hE a; intro a hE
                      refine WL.vS hS hE (runs_if hE rfl rfl rfl hg332) (Gives.p hE rfl) rfl ?_; clear hE a; intro a hE
                      rcases Bool.eq_false_or_eq_true (decide (x345 ≥ 0)) with hg354 | hg354
                      ·replace hq304 := iteT hg354 hq304
                       refine WL.vS hS hE (runs_if hE rfl rfl rfl hg354) (Gives.p hE rfl) rfl ?_; clear hE a; intro a hE
                       refine WL.vS hS hE (runs_if hE rfl rfl rfl hg354) (Gives.p hE rfl) rfl ?_; clear hE a; intro a hE
                       refine WL.vS hS hE (runs_if hE rfl rfl rfl hg354) (Gives.p hE rfl) rfl ?_; clear hE a; intro a hE
                       refine WL.vS hS hE (runs_if hE rfl rfl rfl hg332) (Gives.pickT hE rfl hg354 rfl) rfl ?_; clear hE a; intro a hE
                       refine WL.vS hS hE (runs_plain rfl) (Gives.pickF hE rfl hg332 rfl) rfl ?_; clear hE a; intro a hE
                       refine WL.nil ?_
                       subst hK309
                       exact ⟨(q259 != (mx 0 (w64 (x1 - x295)))), Option.some.inj hq304, hE.pick _ ⟨rfl, rfl, rfl, rfl, rfl, rfl, rfl, rfl, rfl, rfl, rfl, trivial⟩, hS⟩
                      ·replace hq304 := iteF hg354 hq304
                       refine WL.no hE (runs_not hE rfl rfl rfl (by rw [hg354]; decide)) rfl ?_; clear hE a; intro a hE
                       refine WL.no hE (runs_not hE rfl rfl rfl (by rw [hg354]; decide)) rfl ?_; clear hE a; intro a hE
                       refine WL.no hE (runs_not hE rfl rfl rfl (by rw [hg354]; decide)) rfl ?_; clear hE a; intro a hE
                       refine WL.vS hS hE (runs_if hE rfl rfl rfl hg332) (Gives.pickF hE rfl hg354 rfl) rfl ?_; clear hE a; intro a hE
                       refine WL.vS hS hE (runs_plain rfl) (Gives.pickF hE rfl hg332 rfl) rfl ?_; clear hE a; intro a hE
                       refine WL.nil ?_
                       subst hK309
                       exact ⟨false, Option.some.inj hq304, hE.pick _ ⟨rfl, rfl, rfl, rfl, rfl, rfl, rfl, rfl, rfl, rfl, rfl, trivial⟩, hS⟩
                    ·replace hq304 := iteF hg331 hq304
                     refine WL.no hE (runs_not hE rfl rfl rfl (by rw [hg331]; decide)) rfl ?_; clear hE a; intro a hE
                     refine WL.no hE (runs_not hE rfl rfl rfl (by rw [hg331]; decide)) rfl ?_; clear hE a; intro a hE
                     refine WL.vS hS hE (runs_plain rfl) (Gives.pickF hE rfl hg331 rfl) rfl ?_; clear hE a; intro a hE
                     refine WL.vS hS hE (runs_plain rfl) (Gives.p hE rfl) rfl ?_; clear hE a; intro a hE
                     refine WL.vS hS hE (runs_if hE rfl rfl rfl rfl) (Gives.p hE rfl) rfl ?_; clear hE a; intro a hE
                     refine WL.vS hS hE (runs_if hE rfl rfl rfl rfl) (Gives.p hE rfl) rfl ?_; clear hE a; intro a hE
                     obtain ⟨x355, hx356, hq304⟩ := bindS hq304
                     obtain ⟨hi357, hlt358, hy359⟩ := gx_some hx356
                     obtain ⟨cs360, hl361, hR362, hat363⟩ := h174.at hy359
                     obtain ⟨a364, c365, rfl, h366⟩ := hR362
                     refine WL.vS hS hE (runs_if hE rfl rfl rfl rfl) (Gives.idx hE (((k196 : Nat) : Int)).toNat rfl rfl sl56 hi357 hlt358 (h174.aok hlt358)) rfl ?_; clear hE a; intro a hE
                     refine WL.vS hS hE (runs_if hE rfl rfl rfl rfl) (Gives.load1 hE rfl (fun w h => hat363 w _ h) ty29) rfl ?_; clear hE a; intro a hE
                     refine WL.vS hS hE (runs_if hE rfl rfl rfl rfl) (Gives.p hE rfl) rfl ?_; clear hE a; intro a hE
                     obtain ⟨x367, hx368, hq304⟩ := bindS hq304
                     obtain ⟨hi369, hlt370, hy371⟩ := gx_some hx368
                     obtain ⟨cs372, hl373, hR374, hat375⟩ := h366.at hy371
                     subst hR374
                     refine WL.vS hS hE (runs_if hE rfl rfl rfl rfl) (Gives.idx hE (((k237 : Nat) : Int)).toNat rfl rfl sl29 hi369 hlt370 (h366.aok hlt370)) rfl ?_; clear hE a; intro a hE
                     refine WL.vS hS hE (runs_if hE rfl rfl rfl rfl) (Gives.load1 hE rfl (fun w h => hat375 w _ h) ty3) rfl ?_; clear hE a; intro a hE
                     refine WL.vS hS hE (runs_if hE rfl rfl rfl rfl) (Gives.p hE rfl) rfl ?_; clear hE a; intro a hE
                     refine WL.vS hS hE (runs_if hE rfl rfl rfl rfl) (Gives.p hE rfl) rfl ?_; clear hE a; intro a hE
                     rcases Bool.eq_false_or_eq_true (decide (x367 ≥ 0)) with hg376 | hg376
                     ·replace hq304 := iteT hg376 hq304
                      refine WL.vS hS hE (runs_if hE rfl rfl rfl hg376) (Gives.p hE rfl) rfl ?_; clear hE a; intro a hE
                      refine WL.vS hS hE (runs_if hE rfl rfl rfl hg376) (Gives.p hE rfl) rfl ?_; clear hE a; intro a hE
                      refine WL.vS hS hE (runs_if hE rfl rfl rfl hg376) (Gives.p hE rfl) rfl ?_; clear hE a; intro a hE
                      refine WL.vS hS hE (runs_if hE rfl rfl rfl rfl) (Gives.pickT hE rfl hg376 rfl) rfl ?_; clear hE a; intro a hE
                      refine WL.vS hS hE (runs_plain rfl) (Gives.pickF hE rfl rfl rfl) rfl ?_; clear hE a; intro a hE
                      refine WL.nil ?_
                      subst hK309
                      exact ⟨(q259 != (mx 0 (w64 (x1 - x295)))), Option.some.inj hq304, hE.pick _ ⟨rfl, rfl, rfl, rfl, rfl, rfl, rfl, rfl, rfl, rfl, rfl, trivial⟩, hS⟩
                     ·replace hq304 := iteF hg376 hq304
                      refine WL.no hE (runs_not hE rfl rfl rfl (by rw [hg376]; decide)) rfl ?_; clear hE a; intro a hE
                      refine WL.no hE (runs_not hE rfl rfl rfl (by rw [hg376]; decide)) rfl ?_; clear hE a; intro a hE
                      refine WL.no hE (runs_not hE rfl rfl rfl (by rw [hg376]; decide)) rfl ?_; clear hE a; intro a hE
                      refine WL.vS hS hE (runs_if hE rfl rfl rfl rfl) (Gives.pickF hE rfl hg376 rfl) rfl ?_; clear hE a; intro a hE
                      refine WL.vS hS hE (runs_plain rfl) (Gives.pickF hE rfl rfl rfl) rfl ?_; clear hE a; intro a hE
                      refine WL.nil ?_
                      subst hK309
                      exact ⟨false, Option.some.inj hq304, hE.pick _ ⟨rfl, rfl, rfl, rfl, rfl, rfl, rfl, rfl, rfl, rfl, rfl, trivial⟩, hS⟩
                   ·clear hE hS a w; rintro a w ⟨q308, rfl, hE, hS⟩
                    refine W.cond hE rfl (fun hc377 => ?_) (fun hc377 => ?_)
                    ·replace hq235 := iteT hc377 hq235
                     refine W.seq (W.region ?_)
                     refine WL.vS hS hE (runs_plain rfl) (Gives.p hE rfl) rfl ?_; clear hE a; intro a hE
                     refine WL.nil ?_
                     refine W.ret ?_
                     subst hK246
                     subst hK205
                     rw [← Option.some.inj hq235] at hq194
                     dsimp only at hq194
                     rw [← Option.some.inj hq194] at hr
                     dsimp only at hr
                     refine finG (fn := Try.f8) (rs := [.tmp 4]) (vs := [_]) hE rfl ⟨rfl, trivial⟩ ?_
                     obtain rfl := Option.some.inj hr
                     replace hS := hS.tail
                     replace hS := hS.tail
                     replace hS := hS.tail
                     replace hS := hS.tail
                     exact ⟨rfl, (hS.down (Sg.Le.trans (Sg.Le.trans (Sg.Le.trans (Sg.Le.trans (Sg.Le.trans hle61 hle168) hle176) hle204) hle210) hle221))⟩
                    ·replace hq235 := iteF hc377 hq235
                     refine W.skip ?_
                     refine W.region ?_
                     refine WL.vS hS hE (runs_plain rfl) (Gives.inc hE rfl (by have := h59.small; omega)) rfl ?_; clear hE a; intro a hE
                     refine WL.vS hS hE (runs_plain rfl) (Gives.p hE rfl) rfl ?_; clear hE a; intro a hE
                     refine WL.nil ?_
                     subst hK246
                     exact ⟨rest239.length, Nat.lt_succ_self _, rest239, k237 + 1, rfl, hd240, hq235, hE.pick _ ⟨rfl, rfl, rfl, rfl, rfl, rfl, rfl, rfl, rfl, rfl, trivial⟩, hS⟩
                ·clear hE hS a w; rintro a w ⟨rfl, hE, hS⟩
                 dsimp only at hq194
                 refine W.region ?_
                 refine WL.vS hS hE (runs_plain rfl) (Gives.inc hE rfl (by have := h59.small; omega)) rfl ?_; clear hE a; intro a hE
                 refine WL.vS hS hE (runs_plain rfl) (Gives.p hE rfl) rfl ?_; clear hE a; intro a hE
                 refine WL.nil ?_
                 replace hS := hS.tail
                 subst hK205
                 exact ⟨rest198.length, Nat.lt_succ_self _, rest198, k196 + 1, s220, rfl, hd199, (Sg.Le.trans (Sg.Le.trans hle204 hle210) hle221), hq194, hE.pick _ ⟨rfl, rfl, rfl, rfl, rfl, rfl, trivial⟩, hS⟩
            ·clear hE hS a w; rintro a w ⟨s203, hle204, rfl, hE, hS⟩
             dsimp only at hr
             replace h174 := Sl.mono (RL.mono RI.mono) hle204 h174
             replace h59 := Sl.mono RI.mono hle204 h59
             replace h169 := Sl.mono RMendLink.mono hle204 h169
             replace h0_0 := Sl.mono RPlanRule.mono hle204 h0_0
             refine W.seq (W.region ?_)
             refine WL.vS hS hE (runs_plain rfl) (Gives.p hE rfl) rfl ?_; clear hE a; intro a hE
             refine WL.nil ?_
             refine W.ret ?_
             refine finG (fn := Try.f8) (rs := [.tmp 4]) (vs := [_]) hE rfl ⟨rfl, trivial⟩ ?_
             obtain rfl := Option.some.inj hr
             replace hS := hS.tail
             replace hS := hS.tail
             replace hS := hS.tail
             exact ⟨rfl, (hS.down (Sg.Le.trans (Sg.Le.trans (Sg.Le.trans hle61 hle168) hle176) hle204))⟩
end Go.Proofs.Ytffleanbfkjfiaa
