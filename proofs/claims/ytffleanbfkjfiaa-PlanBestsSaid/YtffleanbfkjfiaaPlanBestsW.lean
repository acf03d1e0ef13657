/- The walks of the functions that PlanBests reaches: each call comes to what its mirror says. The conditions are those of each contract. -/
import Derived.Test.YtffleanbfkjfiaaProg
import Derived.Test.YtffleanbfkjfiaaPlanBestsM
import Derived.Test.YtffleanbfkjfiaaFpMore
import Derived.Test.YtffleanbfkjfiaaPlanBestsW3
namespace Go.Proofs.Ytffleanbfkjfiaa
open Go Go.Fp
set_option maxHeartbeats 8000000 in
theorem Fishref2fits_ok {fu : Nat}  {w : World} {s : Sg} {R : List HP} {x0 : PlanPeriodic} {a0_0 : Option Addr} {c0_0 : Nat} {x1 : List Int} {a1 : Option Addr} {c1 : Nat} (hS : St w s (R)) (h0_0 : Sl 5 RPlanRule s a0_0 c0_0 x0.Rules) (h1 : Sl 1 (RI .i64) s a1 c1 x1) {r : Bool} (hr : Fishref2fits fu x0 x1 = some r) :
    Calls Try.prog 61 [.agg [.int .i64 x0.Period, .int .i64 x0.Events, .slice a0_0 x0.Rules.length c0_0].toArray, .slice a1 x1.length c1].toArray w (fun e w => e = .returned (.bool r) ∧ St w s (R)) := by
  refine enter Try.func61 rfl rfl rfl fun a hE => ?_
  rw [Fishref2fits] at hr
  refine W.seq ?_
  refine W.region ?_
  refine WL.box hE hS (runs_plain rfl) rfl rfl rfl ?_; clear hE hS a w; intro b51 a w hE hS
  refine WL.vS hS hE (runs_plain rfl) (Gives.p hE rfl) rfl ?_; clear hE a; intro a hE
  refine WL.nil ?_
  refine W.seq ?_
  refine W.region ?_
  refine WL.vS hS hE (runs_plain rfl) (Gives.p hE rfl) rfl ?_; clear hE a; intro a hE
  refine WL.vS hS hE (runs_plain rfl) (Gives.len hE rfl sl29) rfl ?_; clear hE a; intro a hE
  refine WL.vS hS hE (runs_plain rfl) (Gives.p hE rfl) rfl ?_; clear hE a; intro a hE
  refine WL.nil ?_
  refine W.seq ?_
  refine W.seq ?_
  refine W.region ?_
  refine WL.vS hS hE (runs_plain rfl) (Gives.fld hE rfl fl24_2) rfl ?_; clear hE a; intro a hE
  refine WL.vS hS hE (runs_plain rfl) (Gives.loadB hE 0 rfl rfl rfl ty22) rfl ?_; clear hE a; intro a hE
  refine WL.vS hS hE (runs_plain rfl) (Gives.len hE rfl sl22) rfl ?_; clear hE a; intro a hE
  refine WL.vS hS hE (runs_plain rfl) (Gives.p hE rfl) rfl ?_; clear hE a; intro a hE
  refine WL.nil ?_
  obtain ⟨q53, hq52, hr⟩ := bindS hr
  refine W.cut (fun a w => (.next ()) = q53 ∧ Rep a 37 [] ∧ St w s (pt b51 (.cells #[.int .i64 x0.Period, .int .i64 x0.Events, .slice a0_0 x0.Rules.length c0_0] 24 (0, 0)) :: R)) ?_ ?_
  · refine W.block ?_
    refine W.loop (fun m a w => ∃ (rest56 : List PlanRule) (k54 : Nat), rest56.length = m ∧ x0.Rules.drop k54 = rest56 ∧ Fishref2fits.loop1 x0 x1 fu rest56 = some q53 ∧ Rep a 37 [(1, .slice a1 x1.length c1), (2, .pointer (some ⟨b51, 0, none⟩)), (5, .int .i64 ((x1).length : Int)), (11, .slice a0_0 x0.Rules.length c0_0), (12, .int .i64 ((x0.Rules).length : Int)), (13, .int .i64 ((k54 : Nat) : Int))] ∧ St w s (pt b51 (.cells #[.int .i64 x0.Period, .int .i64 x0.Events, .slice a0_0 x0.Rules.length c0_0] 24 (0, 0)) :: R)) (m := x0.Rules.length) ⟨x0.Rules, 0, rfl, rfl, hq52, hE.pick _ ⟨rfl, rfl, rfl, rfl, rfl, rfl, trivial⟩, hS⟩ ?_
    clear hE hS a w hq52; rintro m60 a w ⟨rest56, k54, rfl, hd57, hq52, hE, hS⟩
    refine W.gen fun K63 hK63 => ?_
    rcases rest56 with _ | ⟨x55, rest56⟩
    · have hlt58 := drop_nil hd57
      refine W.seq ?_
      refine W.region ?_
      refine WL.vS hS hE (runs_plain rfl) (Gives.p hE rfl) rfl ?_; clear hE a; intro a hE
      refine WL.nil ?_
      refine W.seq ?_
      refine W.condF hE rfl (decide_eq_false (by omega)) ?_
      subst hK63
      refine W.exit rfl ?_
      exact ⟨Option.some.inj hq52, hE.pick _ trivial, hS⟩
    · obtain ⟨hlt58, hx59, hd57⟩ := drop_cons hd57
      rw [Fishref2fits.loop1] at hq52
      refine W.seq ?_
      refine W.region ?_
      refine WL.vS hS hE (runs_plain rfl) (Gives.p hE rfl) rfl ?_; clear hE a; intro a hE
      refine WL.nil ?_
      refine W.seq ?_
      refine W.condT hE rfl (decide_eq_true (by omega)) ?_
      refine W.skip ?_
      refine W.seq ?_
      refine W.block ?_
      refine W.seq ?_
      refine W.region ?_
      obtain ⟨cs64, hl65, hR66, hat67⟩ := h0_0.at hx59
      subst hR66
      refine WL.vS hS hE (runs_plain rfl) (Gives.idx hE k54 rfl rfl sl22 rfl hlt58 (h0_0.aok hlt58)) rfl ?_; clear hE a; intro a hE
      refine WL.vS hS hE (runs_plain rfl) (Gives.loadA hE rfl (fun w h => hat67 w _ h) ty37) rfl ?_; clear hE a; intro a hE
      refine WL.alloc hE hS (runs_plain rfl) zr37 rfl ?_; clear hE hS a w; intro b68 a w hE hS
      refine WL.storeI hE hS 0 rfl (PlanRule.cells x55) (runs_plain rfl) rfl rfl rfl ty37 rfl rfl rfl rfl ?_; clear hE hS a w; intro a w hE hS
      refine WL.nil ?_
      refine W.seq ?_
      obtain ⟨q70, hq69, hq52⟩ := bindS hq52
      refine W.cut (fun a w => ∃ (q73 : Bool), q73 = q70 ∧ Rep a 37 [(1, .slice a1 x1.length c1), (2, .pointer (some ⟨b51, 0, none⟩)), (5, .int .i64 ((x1).length : Int)), (11, .slice a0_0 x0.Rules.length c0_0), (12, .int .i64 ((x0.Rules).length : Int)), (13, .int .i64 ((k54 : Nat) : Int)), (35, .bool q73)] ∧ St w s (pt b68 (.cells (PlanRule.cells x55).toArray 37 (0, 0)) :: pt b51 (.cells #[.int .i64 x0.Period, .int .i64 x0.Events, .slice a0_0 x0.Rules.length c0_0] 24 (0, 0)) :: R)) ?_ ?_
      · refine W.gen fun K74 hK74 => ?_
        refine W.regionQ (C := fun w => St w s (pt b68 (.cells (PlanRule.cells x55).toArray 37 (0, 0)) :: pt b51 (.cells #[.int .i64 x0.Period, .int .i64 x0.Events, .slice a0_0 x0.Rules.length c0_0] 24 (0, 0)) :: R)) mixed (by kernel_rfl) hS.drew ?_
        refine QL.v hE (runs_plain rfl) (Gives.fld hE rfl fl37_0) rfl ?_; clear hE a; intro a hE
        refine QL.v hE (runs_plain rfl) (Gives.loadB hE 0 rfl rfl rfl ty3) rfl ?_; clear hE a; intro a hE
        refine QL.v hE (runs_plain rfl) (Gives.p hE rfl) rfl ?_; clear hE a; intro a hE
        refine QL.v hE (runs_plain rfl) (Gives.p hE rfl) rfl ?_; clear hE a; intro a hE
        refine QL.v hE (runs_plain rfl) (Gives.p hE rfl) rfl ?_; clear hE a; intro a hE
        rcases Bool.eq_false_or_eq_true (decide (x55.From < ((x1).length : Int))) with hg75 | hg75
        · replace hq69 := iteT hg75 hq69
          refine QL.v hE (runs_if hE rfl rfl rfl hg75) (Gives.fld hE rfl fl37_1) rfl ?_; clear hE a; intro a hE
          refine QL.v hE (runs_if hE rfl rfl rfl hg75) (Gives.loadB hE 0 rfl rfl rfl ty3) rfl ?_; clear hE a; intro a hE
          refine QL.v hE (runs_if hE rfl rfl rfl hg75) (Gives.p hE rfl) rfl ?_; clear hE a; intro a hE
          refine QL.v hE (runs_if hE rfl rfl rfl hg75) (Gives.p hE rfl) rfl ?_; clear hE a; intro a hE
          refine QL.v hE (runs_plain rfl) (Gives.pickT hE rfl hg75 rfl) rfl ?_; clear hE a; intro a hE
          refine QL.v hE (runs_plain rfl) (Gives.p hE rfl) rfl ?_; clear hE a; intro a hE
          rcases Bool.eq_false_or_eq_true (decide (x55.To < ((x1).length : Int))) with hg76 | hg76
          · replace hq69 := iteT hg76 hq69
            refine QL.v hE (runs_if hE rfl rfl rfl hg76) (Gives.loadBA hE 1 rfl rfl ty24) rfl ?_; clear hE a; intro a hE
            refine QL.v hE (runs_if hE rfl rfl rfl hg76) (Gives.loadBA hE 0 rfl rfl ty37) rfl ?_; clear hE a; intro a hE
            refine QL.v hE (runs_if hE rfl rfl rfl hg76) (Gives.p hE rfl) rfl ?_; clear hE a; intro a hE
            obtain ⟨q77, hq78, hq69⟩ := bindS hq69
            refine QL.fnq hE (fun w hS => Fishref2GapOf_ok hS h0_0 h1 hq78) (runs_if hE rfl rfl rfl hg76) bd18 rfl rfl rfl ?_; clear hE a; intro a hE
            refine QL.v hE (runs_if hE rfl rfl rfl hg76) (Gives.fld hE rfl fl37_3) rfl ?_; clear hE a; intro a hE
            refine QL.v hE (runs_if hE rfl rfl rfl hg76) (Gives.loadB hE 0 rfl rfl rfl ty3) rfl ?_; clear hE a; intro a hE
            refine QL.v hE (runs_if hE rfl rfl rfl hg76) (Gives.p hE rfl) rfl ?_; clear hE a; intro a hE
            refine QL.v hE (runs_plain rfl) (Gives.pickT hE rfl hg76 rfl) rfl ?_; clear hE a; intro a hE
            refine QL.nil ?_; clear hS w; intro w hS
            subst hK74
            exact ⟨decide (q77 > x55.Max), Option.some.inj hq69, hE.pick _ ⟨rfl, rfl, rfl, rfl, rfl, rfl, rfl, trivial⟩, hS⟩
          · replace hq69 := iteF hg76 hq69
            refine QL.no hE (runs_not hE rfl rfl rfl (by rw [hg76]; decide)) rfl ?_; clear hE a; intro a hE
            refine QL.no hE (runs_not hE rfl rfl rfl (by rw [hg76]; decide)) rfl ?_; clear hE a; intro a hE
            refine QL.no hE (runs_not hE rfl rfl rfl (by rw [hg76]; decide)) rfl ?_; clear hE a; intro a hE
            refine QL.no hE (runs_not hE rfl rfl rfl (by rw [hg76]; decide)) rfl ?_; clear hE a; intro a hE
            refine QL.no hE (runs_not hE rfl rfl rfl (by rw [hg76]; decide)) rfl ?_; clear hE a; intro a hE
            refine QL.no hE (runs_not hE rfl rfl rfl (by rw [hg76]; decide)) rfl ?_; clear hE a; intro a hE
            refine QL.no hE (runs_not hE rfl rfl rfl (by rw [hg76]; decide)) rfl ?_; clear hE a; intro a hE
            refine QL.v hE (runs_plain rfl) (Gives.pickF hE rfl hg76 rfl) rfl ?_; clear hE a; intro a hE
            refine QL.nil ?_; clear hS w; intro w hS
            subst hK74
            exact ⟨false, Option.some.inj hq69, hE.pick _ ⟨rfl, rfl, rfl, rfl, rfl, rfl, rfl, trivial⟩, hS⟩
        · replace hq69 := iteF hg75 hq69
          refine QL.no hE (runs_not hE rfl rfl rfl (by rw [hg75]; decide)) rfl ?_; clear hE a; intro a hE
          refine QL.no hE (runs_not hE rfl rfl rfl (by rw [hg75]; decide)) rfl ?_; clear hE a; intro a hE
          refine QL.no hE (runs_not hE rfl rfl rfl (by rw [hg75]; decide)) rfl ?_; clear hE a; intro a hE
          refine QL.no hE (runs_not hE rfl rfl rfl (by rw [hg75]; decide)) rfl ?_; clear hE a; intro a hE
          refine QL.v hE (runs_plain rfl) (Gives.pickF hE rfl hg75 rfl) rfl ?_; clear hE a; intro a hE
          refine QL.v hE (runs_plain rfl) (Gives.p hE rfl) rfl ?_; clear hE a; intro a hE
          refine QL.no hE (runs_not hE rfl rfl rfl (by decide)) rfl ?_; clear hE a; intro a hE
          refine QL.no hE (runs_not hE rfl rfl rfl (by decide)) rfl ?_; clear hE a; intro a hE
          refine QL.no hE (runs_not hE rfl rfl rfl (by decide)) rfl ?_; clear hE a; intro a hE
          refine QL.no hE (runs_not hE rfl rfl rfl (by decide)) rfl ?_; clear hE a; intro a hE
          refine QL.no hE (runs_not hE rfl rfl rfl (by decide)) rfl ?_; clear hE a; intro a hE
          refine QL.no hE (runs_not hE rfl rfl rfl (by decide)) rfl ?_; clear hE a; intro a hE
          refine QL.no hE (runs_not hE rfl rfl rfl (by decide)) rfl ?_; clear hE a; intro a hE
          refine QL.v hE (runs_plain rfl) (Gives.pickF hE rfl rfl rfl) rfl ?_; clear hE a; intro a hE
          refine QL.nil ?_; clear hS w; intro w hS
          subst hK74
          exact ⟨false, Option.some.inj hq69, hE.pick _ ⟨rfl, rfl, rfl, rfl, rfl, rfl, rfl, trivial⟩, hS⟩
      · clear hE hS a w; rintro a w ⟨q73, rfl, hE, hS⟩
        refine W.cond hE rfl (fun hc79 => ?_) (fun hc79 => ?_)
        · replace hq52 := iteT hc79 hq52
          refine W.seq ?_
          refine W.region ?_
          refine WL.vS hS hE (runs_plain rfl) (Gives.p hE rfl) rfl ?_; clear hE a; intro a hE
          refine WL.nil ?_
          refine W.ret ?_
          subst hK63
          rw [← Option.some.inj hq52] at hr
          dsimp only at hr
          refine finG (fn := Try.f61) (rs := [.tmp 4]) (vs := [_]) hE rfl ⟨rfl, trivial⟩ ?_
          obtain rfl := Option.some.inj hr
          replace hS := hS.tail
          replace hS := hS.tail
          exact ⟨rfl, hS⟩
        · replace hq52 := iteF hc79 hq52
          refine W.skip ?_
          refine W.region ?_
          refine WL.vS hS hE (runs_plain rfl) (Gives.inc hE rfl (by have := h0_0.small; omega)) rfl ?_; clear hE a; intro a hE
          refine WL.vS hS hE (runs_plain rfl) (Gives.p hE rfl) rfl ?_; clear hE a; intro a hE
          refine WL.nil ?_
          replace hS := hS.tail
          subst hK63
          exact ⟨rest56.length, Nat.lt_succ_self _, rest56, k54 + 1, rfl, hd57, hq52, hE.pick _ ⟨rfl, rfl, rfl, rfl, rfl, rfl, trivial⟩, hS⟩
  · clear hE hS a w; rintro a w ⟨rfl, hE, hS⟩
    dsimp only at hr
    refine W.seq ?_
    refine W.region ?_
    refine WL.vS hS hE (runs_plain rfl) (Gives.p hE rfl) rfl ?_; clear hE a; intro a hE
    refine WL.nil ?_
    refine W.ret ?_
    refine finG (fn := Try.f61) (rs := [.tmp 4]) (vs := [_]) hE rfl ⟨rfl, trivial⟩ ?_
    obtain rfl := Option.some.inj hr
    replace hS := hS.tail
    exact ⟨rfl, hS⟩
set_option maxHeartbeats 8000000 in
theorem Fishref2partCost_ok {fu : Nat}  {w : World} {s : Sg} {R : List HP} {x0 : PlanPeriodic} {a0_0 : Option Addr} {c0_0 : Nat} {x1 : List Int} {a1 : Option Addr} {c1 : Nat} (hS : St w s (R)) (h0_0 : Sl 5 RPlanRule s a0_0 c0_0 x0.Rules) (h1 : Sl 1 (RI .i64) s a1 c1 x1) {r : Int} (hr : Fishref2partCost fu x0 x1 = some r) :
    Calls Try.prog 62 [.agg [.int .i64 x0.Period, .int .i64 x0.Events, .slice a0_0 x0.Rules.length c0_0].toArray, .slice a1 x1.length c1].toArray w (fun e w => e = .returned (.int .i64 r) ∧ St w s (R)) := by
  refine enter Try.func62 rfl rfl rfl fun a hE => ?_
  rw [Fishref2partCost] at hr
  refine W.seq ?_
  refine W.region ?_
  refine WL.box hE hS (runs_plain rfl) rfl rfl rfl ?_; clear hE hS a w; intro b51 a w hE hS
  refine WL.vS hS hE (runs_plain rfl) (Gives.p hE rfl) rfl ?_; clear hE a; intro a hE
  refine WL.nil ?_
  refine W.seq ?_
  refine W.region ?_
  refine WL.vS hS hE (runs_plain rfl) (Gives.p hE rfl) rfl ?_; clear hE a; intro a hE
  refine WL.vS hS hE (runs_plain rfl) (Gives.len hE rfl sl29) rfl ?_; clear hE a; intro a hE
  refine WL.vS hS hE (runs_plain rfl) (Gives.p hE rfl) rfl ?_; clear hE a; intro a hE
  refine WL.vS hS hE (runs_plain rfl) (Gives.p hE rfl) rfl ?_; clear hE a; intro a hE
  refine WL.nil ?_
  refine W.seq ?_
  refine W.seq ?_
  refine W.region ?_
  refine WL.vS hS hE (runs_plain rfl) (Gives.fld hE rfl fl24_2) rfl ?_; clear hE a; intro a hE
  refine WL.vS hS hE (runs_plain rfl) (Gives.loadB hE 0 rfl rfl rfl ty22) rfl ?_; clear hE a; intro a hE
  refine WL.vS hS hE (runs_plain rfl) (Gives.len hE rfl sl22) rfl ?_; clear hE a; intro a hE
  refine WL.vS hS hE (runs_plain rfl) (Gives.p hE rfl) rfl ?_; clear hE a; intro a hE
  refine WL.nil ?_
  obtain ⟨q53, hq52, hr⟩ := bindS hr
  refine W.cut (fun a w => ∃ (q63 : Int), q63 = q53 ∧ Rep a 42 [(6, .int .i64 q63)] ∧ St w s (pt b51 (.cells #[.int .i64 x0.Period, .int .i64 x0.Events, .slice a0_0 x0.Rules.length c0_0] 24 (0, 0)) :: R)) ?_ ?_
  · refine W.block ?_
    refine W.loop (fun m a w => ∃ (rest56 : List PlanRule) (k54 : Nat), ∃ (q63 : Int), rest56.length = m ∧ x0.Rules.drop k54 = rest56 ∧ Fishref2partCost.loop1 x0 x1 fu rest56 q63 = some q53 ∧ Rep a 42 [(1, .slice a1 x1.length c1), (2, .pointer (some ⟨b51, 0, none⟩)), (5, .int .i64 ((x1).length : Int)), (6, .int .i64 q63), (12, .slice a0_0 x0.Rules.length c0_0), (13, .int .i64 ((x0.Rules).length : Int)), (14, .int .i64 ((k54 : Nat) : Int))] ∧ St w s (pt b51 (.cells #[.int .i64 x0.Period, .int .i64 x0.Events, .slice a0_0 x0.Rules.length c0_0] 24 (0, 0)) :: R)) (m := x0.Rules.length) ⟨x0.Rules, 0, 0, rfl, rfl, hq52, hE.pick _ ⟨rfl, rfl, rfl, rfl, rfl, rfl, rfl, trivial⟩, hS⟩ ?_
    clear hE hS a w hq52; rintro m60 a w ⟨rest56, k54, q63, rfl, hd57, hq52, hE, hS⟩
    refine W.gen fun K64 hK64 => ?_
    rcases rest56 with _ | ⟨x55, rest56⟩
    · have hlt58 := drop_nil hd57
      refine W.seq ?_
      refine W.region ?_
      refine WL.vS hS hE (runs_plain rfl) (Gives.p hE rfl) rfl ?_; clear hE a; intro a hE
      refine WL.nil ?_
      refine W.seq ?_
      refine W.condF hE rfl (decide_eq_false (by omega)) ?_
      subst hK64
      refine W.exit rfl ?_
      exact ⟨q63, Option.some.inj hq52, hE.pick _ ⟨rfl, trivial⟩, hS⟩
    · obtain ⟨hlt58, hx59, hd57⟩ := drop_cons hd57
      rw [Fishref2partCost.loop1] at hq52
      refine W.seq ?_
      refine W.region ?_
      refine WL.vS hS hE (runs_plain rfl) (Gives.p hE rfl) rfl ?_; clear hE a; intro a hE
      refine WL.nil ?_
      refine W.seq ?_
      refine W.condT hE rfl (decide_eq_true (by omega)) ?_
      refine W.skip ?_
      refine W.seq ?_
      refine W.block ?_
      refine W.seq ?_
      refine W.region ?_
      obtain ⟨cs65, hl66, hR67, hat68⟩ := h0_0.at hx59
      subst hR67
      refine WL.vS hS hE (runs_plain rfl) (Gives.idx hE k54 rfl rfl sl22 rfl hlt58 (h0_0.aok hlt58)) rfl ?_; clear hE a; intro a hE
      refine WL.vS hS hE (runs_plain rfl) (Gives.loadA hE rfl (fun w h => hat68 w _ h) ty37) rfl ?_; clear hE a; intro a hE
      refine WL.alloc hE hS (runs_plain rfl) zr37 rfl ?_; clear hE hS a w; intro b69 a w hE hS
      refine WL.storeI hE hS 0 rfl (PlanRule.cells x55) (runs_plain rfl) rfl rfl rfl ty37 rfl rfl rfl rfl ?_; clear hE hS a w; intro a w hE hS
      refine WL.nil ?_
      refine W.seq ?_
      obtain ⟨q71, hq70, hq52⟩ := bndS hq52
      refine W.cut (fun a w => ∃ (q74 : Bool), q74 = q71 ∧ Rep a 42 [(1, .slice a1 x1.length c1), (2, .pointer (some ⟨b51, 0, none⟩)), (5, .int .i64 ((x1).length : Int)), (6, .int .i64 q63), (8, .pointer (some ⟨b69, 0, none⟩)), (12, .slice a0_0 x0.Rules.length c0_0), (13, .int .i64 ((x0.Rules).length : Int)), (14, .int .i64 ((k54 : Nat) : Int)), (27, .bool q74)] ∧ St w s (pt b69 (.cells (PlanRule.cells x55).toArray 37 (0, 0)) :: pt b51 (.cells #[.int .i64 x0.Period, .int .i64 x0.Events, .slice a0_0 x0.Rules.length c0_0] 24 (0, 0)) :: R)) ?_ ?_
      · refine W.gen fun K75 hK75 => ?_
        refine W.region ?_
        refine WL.vS hS hE (runs_plain rfl) (Gives.fld hE rfl fl37_0) rfl ?_; clear hE a; intro a hE
        refine WL.vS hS hE (runs_plain rfl) (Gives.loadB hE 0 rfl rfl rfl ty3) rfl ?_; clear hE a; intro a hE
        refine WL.vS hS hE (runs_plain rfl) (Gives.p hE rfl) rfl ?_; clear hE a; intro a hE
        refine WL.vS hS hE (runs_plain rfl) (Gives.p hE rfl) rfl ?_; clear hE a; intro a hE
        refine WL.vS hS hE (runs_plain rfl) (Gives.p hE rfl) rfl ?_; clear hE a; intro a hE
        rcases Bool.eq_false_or_eq_true (decide (x55.From < ((x1).length : Int))) with hg76 | hg76
        · replace hq70 := iteT hg76 hq70
          refine WL.vS hS hE (runs_if hE rfl rfl rfl hg76) (Gives.fld hE rfl fl37_1) rfl ?_; clear hE a; intro a hE
          refine WL.vS hS hE (runs_if hE rfl rfl rfl hg76) (Gives.loadB hE 0 rfl rfl rfl ty3) rfl ?_; clear hE a; intro a hE
          refine WL.vS hS hE (runs_if hE rfl rfl rfl hg76) (Gives.p hE rfl) rfl ?_; clear hE a; intro a hE
          refine WL.vS hS hE (runs_if hE rfl rfl rfl hg76) (Gives.p hE rfl) rfl ?_; clear hE a; intro a hE
          refine WL.vS hS hE (runs_plain rfl) (Gives.pickT hE rfl hg76 rfl) rfl ?_; clear hE a; intro a hE
          refine WL.nil ?_
          subst hK75
          exact ⟨decide (x55.To < ((x1).length : Int)), hq70, hE.pick _ ⟨rfl, rfl, rfl, rfl, rfl, rfl, rfl, rfl, rfl, trivial⟩, hS⟩
        · replace hq70 := iteF hg76 hq70
          refine WL.no hE (runs_not hE rfl rfl rfl (by rw [hg76]; decide)) rfl ?_; clear hE a; intro a hE
          refine WL.no hE (runs_not hE rfl rfl rfl (by rw [hg76]; decide)) rfl ?_; clear hE a; intro a hE
          refine WL.no hE (runs_not hE rfl rfl rfl (by rw [hg76]; decide)) rfl ?_; clear hE a; intro a hE
          refine WL.no hE (runs_not hE rfl rfl rfl (by rw [hg76]; decide)) rfl ?_; clear hE a; intro a hE
          refine WL.vS hS hE (runs_plain rfl) (Gives.pickF hE rfl hg76 rfl) rfl ?_; clear hE a; intro a hE
          refine WL.nil ?_
          subst hK75
          exact ⟨false, hq70, hE.pick _ ⟨rfl, rfl, rfl, rfl, rfl, rfl, rfl, rfl, rfl, trivial⟩, hS⟩
      · clear hE hS a w; rintro a w ⟨q74, rfl, hE, hS⟩
        obtain ⟨q78, hq77, hq52⟩ := bindS hq52
        refine W.cut (fun a w => ∃ (q81 : Int), q81 = q78 ∧ Rep a 42 [(1, .slice a1 x1.length c1), (2, .pointer (some ⟨b51, 0, none⟩)), (5, .int .i64 ((x1).length : Int)), (6, .int .i64 q81), (12, .slice a0_0 x0.Rules.length c0_0), (13, .int .i64 ((x0.Rules).length : Int)), (14, .int .i64 ((k54 : Nat) : Int))] ∧ St w s (pt b69 (.cells (PlanRule.cells x55).toArray 37 (0, 0)) :: pt b51 (.cells #[.int .i64 x0.Period, .int .i64 x0.Events, .slice a0_0 x0.Rules.length c0_0] 24 (0, 0)) :: R)) ?_ ?_
        · refine W.gen fun K82 hK82 => ?_
          refine W.cond hE rfl (fun hc83 => ?_) (fun hc83 => ?_)
          · replace hq77 := iteT hc83 hq77
            refine W.regionQ (C := fun w => St w s (pt b69 (.cells (PlanRule.cells x55).toArray 37 (0, 0)) :: pt b51 (.cells #[.int .i64 x0.Period, .int .i64 x0.Events, .slice a0_0 x0.Rules.length c0_0] 24 (0, 0)) :: R)) mixed (by kernel_rfl) hS.drew ?_
            refine QL.v hE (runs_plain rfl) (Gives.p hE rfl) rfl ?_; clear hE a; intro a hE
            refine QL.v hE (runs_plain rfl) (Gives.fld hE rfl fl37_4) rfl ?_; clear hE a; intro a hE
            refine QL.v hE (runs_plain rfl) (Gives.loadB hE 0 rfl rfl rfl ty3) rfl ?_; clear hE a; intro a hE
            refine QL.v hE (runs_plain rfl) (Gives.loadBA hE 1 rfl rfl ty24) rfl ?_; clear hE a; intro a hE
            refine QL.v hE (runs_plain rfl) (Gives.loadBA hE 0 rfl rfl ty37) rfl ?_; clear hE a; intro a hE
            refine QL.v hE (runs_plain rfl) (Gives.p hE rfl) rfl ?_; clear hE a; intro a hE
            obtain ⟨q84, hq85, hq77⟩ := bindS hq77
            refine QL.fnq hE (fun w hS => Fishref2GapOf_ok hS h0_0 h1 hq85) (runs_plain rfl) bd18 rfl rfl rfl ?_; clear hE a; intro a hE
            refine QL.v hE (runs_plain rfl) (Gives.fld hE rfl fl37_2) rfl ?_; clear hE a; intro a hE
            refine QL.v hE (runs_plain rfl) (Gives.loadB hE 0 rfl rfl rfl ty3) rfl ?_; clear hE a; intro a hE
            refine QL.v hE (runs_plain rfl) (Gives.p hE rfl) rfl ?_; clear hE a; intro a hE
            refine QL.v hE (runs_plain rfl) (Gives.p hE rfl) rfl ?_; clear hE a; intro a hE
            refine QL.v hE (runs_plain rfl) (Gives.p hE rfl) rfl ?_; clear hE a; intro a hE
            refine QL.v hE (runs_plain rfl) (Gives.p hE rfl) rfl ?_; clear hE a; intro a hE
            refine QL.nil ?_; clear hS w; intro w hS
            subst hK82
            exact ⟨w64 (q63 + (w64 (x55.Weight * (w64 (q84 - x55.Min))))), Option.some.inj hq77, hE.pick _ ⟨rfl, rfl, rfl, rfl, rfl, rfl, rfl, trivial⟩, hS⟩
          · replace hq77 := iteF hc83 hq77
            refine W.skip ?_
            subst hK82
            exact ⟨q63, Option.some.inj hq77, hE.pick _ ⟨rfl, rfl, rfl, rfl, rfl, rfl, rfl, trivial⟩, hS⟩
        · clear hE hS a w; rintro a w ⟨q81, rfl, hE, hS⟩
          refine W.region ?_
          refine WL.vS hS hE (runs_plain rfl) (Gives.inc hE rfl (by have := h0_0.small; omega)) rfl ?_; clear hE a; intro a hE
          refine WL.vS hS hE (runs_plain rfl) (Gives.p hE rfl) rfl ?_; clear hE a; intro a hE
          refine WL.nil ?_
          replace hS := hS.tail
          subst hK64
          exact ⟨rest56.length, Nat.lt_succ_self _, rest56, k54 + 1, q81, rfl, hd57, hq52, hE.pick _ ⟨rfl, rfl, rfl, rfl, rfl, rfl, rfl, trivial⟩, hS⟩
  · clear hE hS a w; rintro a w ⟨q63, rfl, hE, hS⟩
    refine W.seq ?_
    refine W.region ?_
    refine WL.vS hS hE (runs_plain rfl) (Gives.p hE rfl) rfl ?_; clear hE a; intro a hE
    refine WL.vS hS hE (runs_plain rfl) (Gives.p hE rfl) rfl ?_; clear hE a; intro a hE
    refine WL.nil ?_
    refine W.ret ?_
    refine finG (fn := Try.f62) (rs := [.tmp 4]) (vs := [_]) hE rfl ⟨rfl, trivial⟩ ?_
    obtain rfl := Option.some.inj hr
    replace hS := hS.tail
    exact ⟨rfl, hS⟩
set_option maxHeartbeats 8000000 in
theorem Fishref2BestOfRules_1_v1_ok : ∀ {fu : Nat} {w : World} {s : Sg} {R : List HP} {pb0 : Nat} {pb1 : Nat} {pb2 : Nat} {pb3 : Nat} {pb4 : Nat} {x0 : Int} {y0 : PlanPeriodic} {a_y0_2 : Option Addr} {c_y0_2 : Nat} {y1 : List Int} {a_v0 : Option Addr} {c_v0 n_v0 : Nat} {cs_v0 : List Value} {y2 : List Int} {a_y2_0 : Option Addr} {c_y2_0 : Nat} {y3 : Int} (_hS : St w s (pt pb0 (.cells #[.int .i64 y0.Period, .int .i64 y0.Events, .slice a_y0_2 y0.Rules.length c_y0_2] 24 (0, 0)) :: pt pb1 (.cells #[.slice a_v0 n_v0 c_v0] 29 (0, 0)) :: pt pb2 (.cells #[.slice a_y2_0 y2.length c_y2_0] 29 (0, 0)) :: pt pb3 (.cells #[.int .i64 y3] 3 (0, 0)) :: pt pb4 (.cells #[.func (.func 59) #[] #[.pointer (some ⟨pb0, 0, none⟩), .pointer (some ⟨pb1, 0, none⟩), .pointer (some ⟨pb2, 0, none⟩), .pointer (some ⟨pb3, 0, none⟩), .pointer (some ⟨pb4, 0, none⟩)]] 93 (0, 0)) :: vecC 3 1 a_v0 c_v0 n_v0 cs_v0 :: R)) (_h_y0_2 : Sl 5 RPlanRule s a_y0_2 c_y0_2 y0.Rules) (_h_v0 : Ev 1 (RI .i64) s cs_v0 y1) (_hn_v0 : y1.length = n_v0) (_h_y2_0 : Sl 1 (RI .i64) s a_y2_0 c_y2_0 y2) (_hz_y2_0 : y2 = [] → a_y2_0 = none) {r : (List Int) × (List Int) × Int} (_hr : Fishref2BestOfRules_1_v1 fu x0 y0 y1 y2 y3 = some r),
    Calls Try.prog 59 [.int .i64 x0, .pointer (some ⟨pb0, 0, none⟩), .pointer (some ⟨pb1, 0, none⟩), .pointer (some ⟨pb2, 0, none⟩), .pointer (some ⟨pb3, 0, none⟩), .pointer (some ⟨pb4, 0, none⟩)].toArray w (fun e w => ∃ (cs67 : List Value) (a70 : Option Addr) (c71 : Nat) (t : Sg), e = .returned (.tuple #[]) ∧ s.Le t ∧ Ev 1 (RI .i64) t cs67 r.1 ∧ r.1.length = n_v0 ∧ Sl 1 (RI .i64) t a70 c71 r.2.1 ∧ (r.2.1 = [] → a70 = none) ∧ St w t (pt pb0 (.cells #[.int .i64 y0.Period, .int .i64 y0.Events, .slice a_y0_2 y0.Rules.length c_y0_2] 24 (0, 0)) :: pt pb1 (.cells #[.slice a_v0 n_v0 c_v0] 29 (0, 0)) :: pt pb2 (.cells #[.slice a70 r.2.1.length c71] 29 (0, 0)) :: pt pb3 (.cells #[.int .i64 r.2.2] 3 (0, 0)) :: pt pb4 (.cells #[.func (.func 59) #[] #[.pointer (some ⟨pb0, 0, none⟩), .pointer (some ⟨pb1, 0, none⟩), .pointer (some ⟨pb2, 0, none⟩), .pointer (some ⟨pb3, 0, none⟩), .pointer (some ⟨pb4, 0, none⟩)]] 93 (0, 0)) :: vecC 3 1 a_v0 c_v0 n_v0 cs67 :: R)) := by
  intro fu
  induction fu with
  | zero => intro w s R pb0 pb1 pb2 pb3 pb4 x0 y0 a_y0_2 c_y0_2 y1 a_v0 c_v0 n_v0 cs_v0 y2 a_y2_0 c_y2_0 y3 hS h_y0_2 h_v0 hn_v0 h_y2_0 hz_y2_0 r hr; rw [Fishref2BestOfRules_1_v1] at hr; exact absurd hr (by simp)
  | succ fu ih_Fishref2BestOfRules_1_v1 =>
    intro w s R pb0 pb1 pb2 pb3 pb4 x0 y0 a_y0_2 c_y0_2 y1 a_v0 c_v0 n_v0 cs_v0 y2 a_y2_0 c_y2_0 y3 hS h_y0_2 h_v0 hn_v0 h_y2_0 hz_y2_0 r hr
    rw [Fishref2BestOfRules_1_v1] at hr
    generalize Fishref2BestOfRules_1_v1 fu = self_Fishref2BestOfRules_1_v1 at hr ih_Fishref2BestOfRules_1_v1
    refine enter Try.func59 rfl rfl rfl fun a hE => ?_
    subst hn_v0
    refine W.seq ?_
    refine W.seq ?_
    refine W.region ?_
    refine WL.vS hS hE (runs_plain rfl) (Gives.p hE rfl) rfl ?_; clear hE a; intro a hE
    refine WL.vS hS hE (runs_plain rfl) (Gives.fld hE rfl fl24_1) rfl ?_; clear hE a; intro a hE
    refine WL.vS hS hE (runs_plain rfl) (Gives.loadB hE 0 rfl rfl rfl ty3) rfl ?_; clear hE a; intro a hE
    refine WL.vS hS hE (runs_plain rfl) (Gives.p hE rfl) rfl ?_; clear hE a; intro a hE
    refine WL.nil ?_
    refine W.cond hE rfl (fun hc75 => ?_) (fun hc75 => ?_)
    · replace hr := iteT hc75 hr
      refine W.seq ?_
      refine W.seq ?_
      refine W.region ?_
      refine WL.vS hS hE (runs_plain rfl) (Gives.loadBA hE 0 rfl rfl ty24) rfl ?_; clear hE a; intro a hE
      refine WL.vS hS hE (runs_plain rfl) (Gives.loadB hE 1 rfl rfl rfl ty29) rfl ?_; clear hE a; intro a hE
      obtain ⟨q76, hq77, hr⟩ := bindS hr
      have hF := hS.lendV RI.mono 5 rfl h_v0 (rfl); clear hS; obtain ⟨t78, hle79, hS, hs80, bk81⟩ := hF
      have hc_ := Fishref2BrokenOf_ok hS (Sl.mono RPlanRule.mono hle79 h_y0_2) hs80 hq77
      refine WL.fnq hE (hc_) (runs_plain rfl) bd16 rfl rfl rfl ?_
      clear hE hS hc_; rintro e w ⟨rfl, hS⟩; refine ⟨_, rfl, ?_⟩; clear a; intro a hE
      replace hS := bk81 _ _ hS
      refine WL.vS hS hE (runs_plain rfl) (Gives.p hE rfl) rfl ?_; clear hE a; intro a hE
      refine WL.nil ?_
      obtain ⟨q83, hq82, hr⟩ := bindS hr
      refine W.cut (fun a w => ∃ (q86 : List Int), ∃ (q91 : Int), ∃ (a87 : Option Addr), ∃ (c88 : Nat), ∃ (s84 : Sg), s.Le s84 ∧ (q86, q91) = q83 ∧ Sl 1 (RI .i64) s84 a87 c88 q86 ∧ (q86 = [] → a87 = none) ∧ Rep a 64 [] ∧ St w s84 (vecC 3 1 a_v0 c_v0 y1.length cs_v0 :: pt pb0 (.cells #[.int .i64 y0.Period, .int .i64 y0.Events, .slice a_y0_2 y0.Rules.length c_y0_2] 24 (0, 0)) :: pt pb1 (.cells #[.slice a_v0 y1.length c_v0] 29 (0, 0)) :: pt pb2 (.cells #[.slice a87 q86.length c88] 29 (0, 0)) :: pt pb3 (.cells #[.int .i64 q91] 3 (0, 0)) :: pt pb4 (.cells #[.func (.func 59) #[] #[.pointer (some ⟨pb0, 0, none⟩), .pointer (some ⟨pb1, 0, none⟩), .pointer (some ⟨pb2, 0, none⟩), .pointer (some ⟨pb3, 0, none⟩), .pointer (some ⟨pb4, 0, none⟩)]] 93 (0, 0)) :: R)) ?_ ?_
      · refine W.gen fun K92 hK92 => ?_
        refine W.cond hE rfl (fun hc93 => ?_) (fun hc93 => ?_)
        · replace hq82 := iteT hc93 hq82
          refine W.seq ?_
          refine W.region ?_
          refine WL.vS hS hE (runs_plain rfl) (Gives.loadBA hE 1 rfl rfl ty24) rfl ?_; clear hE a; intro a hE
          refine WL.vS hS hE (runs_plain rfl) (Gives.loadB hE 2 rfl rfl rfl ty29) rfl ?_; clear hE a; intro a hE
          obtain ⟨q94, hq95, hq82⟩ := bindS hq82
          have hF := hS.lendV RI.mono 0 rfl h_v0 (rfl); clear hS; obtain ⟨t96, hle97, hS, hs98, bk99⟩ := hF
          have hc_ := Fishref2CostOf_ok hS (Sl.mono RPlanRule.mono hle97 h_y0_2) hs98 hq95
          refine WL.fnq hE (hc_) (runs_plain rfl) bd17 rfl rfl rfl ?_
          clear hE hS hc_; rintro e w ⟨rfl, hS⟩; refine ⟨_, rfl, ?_⟩; clear a; intro a hE
          replace hS := bk99 _ _ hS
          refine WL.vS hS hE (runs_plain rfl) (Gives.p hE rfl) rfl ?_; clear hE a; intro a hE
          refine WL.nil ?_
          refine W.seq ?_
          obtain ⟨q101, hq100, hq82⟩ := bndS hq82
          refine W.cut (fun a w => ∃ (q104 : Bool), q104 = q101 ∧ Rep a 64 [(2, .pointer (some ⟨pb1, 0, none⟩)), (3, .pointer (some ⟨pb2, 0, none⟩)), (4, .pointer (some ⟨pb3, 0, none⟩)), (7, .int .i64 q94), (26, .bool q104)] ∧ St w s (vecC 3 1 a_v0 c_v0 y1.length cs_v0 :: pt pb0 (.cells #[.int .i64 y0.Period, .int .i64 y0.Events, .slice a_y0_2 y0.Rules.length c_y0_2] 24 (0, 0)) :: pt pb1 (.cells #[.slice a_v0 y1.length c_v0] 29 (0, 0)) :: pt pb2 (.cells #[.slice a_y2_0 y2.length c_y2_0] 29 (0, 0)) :: pt pb3 (.cells #[.int .i64 y3] 3 (0, 0)) :: pt pb4 (.cells #[.func (.func 59) #[] #[.pointer (some ⟨pb0, 0, none⟩), .pointer (some ⟨pb1, 0, none⟩), .pointer (some ⟨pb2, 0, none⟩), .pointer (some ⟨pb3, 0, none⟩), .pointer (some ⟨pb4, 0, none⟩)]] 93 (0, 0)) :: R)) ?_ ?_
          · refine W.gen fun K105 hK105 => ?_
            refine W.region ?_
            refine WL.vS hS hE (runs_plain rfl) (Gives.loadB hE 3 rfl rfl rfl ty29) rfl ?_; clear hE a; intro a hE
            refine WL.vS hS hE (runs_plain rfl) (Gives.isNilZ hE (isNone_eq h_y2_0 hz_y2_0) rfl rfl isl29) rfl ?_; clear hE a; intro a hE
            refine WL.vS hS hE (runs_plain rfl) (Gives.p hE rfl) rfl ?_; clear hE a; intro a hE
            rcases Bool.eq_false_or_eq_true y2.isEmpty with hg106 | hg106
            · replace hq100 := iteT hg106 hq100
              refine WL.no hE (runs_not hE rfl rfl rfl (by rw [hg106]; decide)) rfl ?_; clear hE a; intro a hE
              refine WL.no hE (runs_not hE rfl rfl rfl (by rw [hg106]; decide)) rfl ?_; clear hE a; intro a hE
              refine WL.no hE (runs_not hE rfl rfl rfl (by rw [hg106]; decide)) rfl ?_; clear hE a; intro a hE
              refine WL.vS hS hE (runs_plain rfl) (Gives.pickT hE rfl hg106 rfl) rfl ?_; clear hE a; intro a hE
              refine WL.nil ?_
              subst hK105
              exact ⟨true, hq100, hE.pick _ ⟨rfl, rfl, rfl, rfl, rfl, trivial⟩, hS⟩
            · replace hq100 := iteF hg106 hq100
              refine WL.vS hS hE (runs_if hE rfl rfl rfl hg106) (Gives.p hE rfl) rfl ?_; clear hE a; intro a hE
              refine WL.vS hS hE (runs_if hE rfl rfl rfl hg106) (Gives.loadB hE 4 rfl rfl rfl ty3) rfl ?_; clear hE a; intro a hE
              refine WL.vS hS hE (runs_if hE rfl rfl rfl hg106) (Gives.p hE rfl) rfl ?_; clear hE a; intro a hE
              refine WL.vS hS hE (runs_plain rfl) (Gives.pickF hE rfl hg106 rfl) rfl ?_; clear hE a; intro a hE
              refine WL.nil ?_
              subst hK105
              exact ⟨decide (q94 < y3), hq100, hE.pick _ ⟨rfl, rfl, rfl, rfl, rfl, trivial⟩, hS⟩
          · clear hE hS a w; rintro a w ⟨q104, rfl, hE, hS⟩
            obtain ⟨q108, hq107, hq82⟩ := bindS hq82
            refine W.cut (fun a w => ∃ (q111 : List Int), ∃ (q116 : Int), ∃ (a112 : Option Addr), ∃ (c113 : Nat), ∃ (s109 : Sg), s.Le s109 ∧ (q111, q116) = q108 ∧ Sl 1 (RI .i64) s109 a112 c113 q111 ∧ (q111 = [] → a112 = none) ∧ Rep a 64 [] ∧ St w s109 (vecC 3 1 a_v0 c_v0 y1.length cs_v0 :: pt pb0 (.cells #[.int .i64 y0.Period, .int .i64 y0.Events, .slice a_y0_2 y0.Rules.length c_y0_2] 24 (0, 0)) :: pt pb1 (.cells #[.slice a_v0 y1.length c_v0] 29 (0, 0)) :: pt pb2 (.cells #[.slice a112 q111.length c113] 29 (0, 0)) :: pt pb3 (.cells #[.int .i64 q116] 3 (0, 0)) :: pt pb4 (.cells #[.func (.func 59) #[] #[.pointer (some ⟨pb0, 0, none⟩), .pointer (some ⟨pb1, 0, none⟩), .pointer (some ⟨pb2, 0, none⟩), .pointer (some ⟨pb3, 0, none⟩), .pointer (some ⟨pb4, 0, none⟩)]] 93 (0, 0)) :: R)) ?_ ?_
            · refine W.gen fun K117 hK117 => ?_
              refine W.cond hE rfl (fun hc118 => ?_) (fun hc118 => ?_)
              · replace hq107 := iteT hc118 hq107
                refine W.region ?_
                refine WL.vS hS hE (runs_plain rfl) (Gives.loadB hE 2 rfl rfl rfl ty29) rfl ?_; clear hE a; intro a hE
                obtain ⟨q119, hq120, hq107⟩ := bindS hq107
                have hF := hS.lendV RI.mono 0 rfl h_v0 (rfl); clear hS; obtain ⟨t127, hle128, hS, hs129, bk130⟩ := hF
                have hc_ := SlicesCloneLint_ok hS hs129 hq120
                refine WL.fnq hE (hc_) (runs_plain rfl) bd60 rfl rfl rfl ?_
                clear hE hS hc_; rintro e w ⟨a121, c122, n123, cs124, rfl, h125, rfl, hS⟩; refine ⟨_, rfl, ?_⟩; clear a; intro a hE
                replace hS := bk130 _ _ hS
                replace h125 := Ev.flat (s2 := s) (fun _ _ _ _ h => h) h125
                refine WL.vS hS hE (runs_plain rfl) (Gives.p hE rfl) rfl ?_; clear hE a; intro a hE
                have hF := hS.fixD RI.mono 1 rfl h125 rfl; clear hS; obtain ⟨s131, hle132, hS, h133⟩ := hF
                replace h_v0 := Ev.mono RI.mono hle132 h_v0
                replace h_y0_2 := Sl.mono RPlanRule.mono hle132 h_y0_2
                replace h_y2_0 := Sl.mono RI.mono hle132 h_y2_0
                obtain ⟨_, hx134, hq107⟩ := bindS hq107
                refine WL.storeI hE hS 3 rfl [.slice a121 q119.length c122] (runs_plain rfl) rfl rfl rfl ty29 rfl rfl rfl rfl ?_; clear hE hS a w; intro a w hE hS
                refine WL.storeI hE hS 4 rfl [.int .i64 q94] (runs_plain rfl) rfl rfl rfl ty3 rfl rfl rfl rfl ?_; clear hE hS a w; intro a w hE hS
                refine WL.nil ?_
                subst hK117
                exact ⟨q119, q94, a121, c122, s131, hle132, Option.some.inj hq107, h133, (nz_some hx134), hE.pick _ trivial, hS⟩
              · replace hq107 := iteF hc118 hq107
                refine W.skip ?_
                subst hK117
                exact ⟨y2, y3, a_y2_0, c_y2_0, s, (Sg.Le.refl _), Option.some.inj hq107, h_y2_0, hz_y2_0, hE.pick _ trivial, hS⟩
            · clear hE hS a w; rintro a w ⟨q111, q116, a112, c113, s109, hle110, rfl, h114, hz115, hE, hS⟩
              dsimp only at hq82
              replace h_v0 := Ev.mono RI.mono hle110 h_v0
              replace h_y0_2 := Sl.mono RPlanRule.mono hle110 h_y0_2
              replace h_y2_0 := Sl.mono RI.mono hle110 h_y2_0
              subst hK92
              exact ⟨q111, q116, a112, c113, s109, hle110, Option.some.inj hq82, h114, hz115, hE.pick _ trivial, hS⟩
        · replace hq82 := iteF hc93 hq82
          refine W.skip ?_
          subst hK92
          exact ⟨y2, y3, a_y2_0, c_y2_0, s, (Sg.Le.refl _), Option.some.inj hq82, h_y2_0, hz_y2_0, hE.pick _ trivial, hS⟩
      · clear hE hS a w; rintro a w ⟨q86, q91, a87, c88, s84, hle85, rfl, h89, hz90, hE, hS⟩
        dsimp only at hr
        replace h_v0 := Ev.mono RI.mono hle85 h_v0
        replace h_y0_2 := Sl.mono RPlanRule.mono hle85 h_y0_2
        replace h_y2_0 := Sl.mono RI.mono hle85 h_y2_0
        refine W.ret ?_
        refine finG (fn := Try.f59) (rs := []) (vs := []) hE rfl trivial ?_
        obtain rfl := Option.some.inj hr
        replace hS := hS.front 5 rfl
        replace hS := hS.front 5 rfl
        replace hS := hS.front 5 rfl
        replace hS := hS.front 5 rfl
        replace hS := hS.front 5 rfl
        exact ⟨cs_v0, a87, c88, s84, rfl, hle85, h_v0, (rfl), h89, hz90, hS⟩
    · replace hr := iteF hc75 hr
      refine W.skip ?_
      refine W.seq ?_
      refine W.region ?_
      refine WL.vS hS hE (runs_plain rfl) (Gives.fld hE rfl fl24_0) rfl ?_; clear hE a; intro a hE
      refine WL.vS hS hE (runs_plain rfl) (Gives.loadB hE 0 rfl rfl rfl ty3) rfl ?_; clear hE a; intro a hE
      refine WL.vS hS hE (runs_plain rfl) (Gives.p hE rfl) rfl ?_; clear hE a; intro a hE
      refine WL.nil ?_
      obtain ⟨q147, hq146, hr⟩ := bindS hr
      refine W.cut (fun a w => ∃ (q152 : Int), ∃ (q153 : List Int), ∃ (q159 : List Int), ∃ (q164 : Int), ∃ (cs157 : List Value), ∃ (a160 : Option Addr), ∃ (c161 : Nat), ∃ (s150 : Sg), s.Le s150 ∧ (q152, q153, q159, q164) = q147 ∧ Ev 1 (RI .i64) s150 cs157 q153 ∧ q153.length = y1.length ∧ Sl 1 (RI .i64) s150 a160 c161 q159 ∧ (q159 = [] → a160 = none) ∧ Rep a 64 [] ∧ St w s150 (pt pb0 (.cells #[.int .i64 y0.Period, .int .i64 y0.Events, .slice a_y0_2 y0.Rules.length c_y0_2] 24 (0, 0)) :: pt pb1 (.cells #[.slice a_v0 y1.length c_v0] 29 (0, 0)) :: pt pb2 (.cells #[.slice a160 q159.length c161] 29 (0, 0)) :: pt pb3 (.cells #[.int .i64 q164] 3 (0, 0)) :: pt pb4 (.cells #[.func (.func 59) #[] #[.pointer (some ⟨pb0, 0, none⟩), .pointer (some ⟨pb1, 0, none⟩), .pointer (some ⟨pb2, 0, none⟩), .pointer (some ⟨pb3, 0, none⟩), .pointer (some ⟨pb4, 0, none⟩)]] 93 (0, 0)) :: vecC 3 1 a_v0 c_v0 y1.length cs157 :: R)) ?_ ?_
      · refine W.block ?_
        refine W.loop (fun m a w => ∃ (n148 : Nat), ∃ (q152 : Int), ∃ (q153 : List Int), ∃ (q159 : List Int), ∃ (q164 : Int), ∃ (cs157 : List Value), ∃ (a160 : Option Addr), ∃ (c161 : Nat), ∃ (s150 : Sg), n148 = m ∧ s.Le s150 ∧ Fishref2BestOfRules_1_v1.loop2 x0 y0 fu self_Fishref2BestOfRules_1_v1 n148 q152 q153 q159 q164 = some q147 ∧ Ev 1 (RI .i64) s150 cs157 q153 ∧ q153.length = y1.length ∧ Sl 1 (RI .i64) s150 a160 c161 q159 ∧ (q159 = [] → a160 = none) ∧ Rep a 64 [(0, .int .i64 x0), (1, .pointer (some ⟨pb0, 0, none⟩)), (2, .pointer (some ⟨pb1, 0, none⟩)), (3, .pointer (some ⟨pb2, 0, none⟩)), (4, .pointer (some ⟨pb3, 0, none⟩)), (5, .pointer (some ⟨pb4, 0, none⟩)), (31, .int .i64 y0.Period), (32, .int .i64 q152)] ∧ St w s150 (pt pb0 (.cells #[.int .i64 y0.Period, .int .i64 y0.Events, .slice a_y0_2 y0.Rules.length c_y0_2] 24 (0, 0)) :: pt pb1 (.cells #[.slice a_v0 y1.length c_v0] 29 (0, 0)) :: pt pb2 (.cells #[.slice a160 q159.length c161] 29 (0, 0)) :: pt pb3 (.cells #[.int .i64 q164] 3 (0, 0)) :: pt pb4 (.cells #[.func (.func 59) #[] #[.pointer (some ⟨pb0, 0, none⟩), .pointer (some ⟨pb1, 0, none⟩), .pointer (some ⟨pb2, 0, none⟩), .pointer (some ⟨pb3, 0, none⟩), .pointer (some ⟨pb4, 0, none⟩)]] 93 (0, 0)) :: vecC 3 1 a_v0 c_v0 y1.length cs157 :: R)) (m := fu) ⟨fu, 0, y1, y2, y3, cs_v0, a_y2_0, c_y2_0, s, rfl, (Sg.Le.refl _), hq146, h_v0, (rfl), h_y2_0, hz_y2_0, hE.pick _ ⟨rfl, rfl, rfl, rfl, rfl, rfl, rfl, rfl, trivial⟩, hS⟩ ?_
        clear hE hS a w hq146; rintro m149 a w ⟨n148, q152, q153, q159, q164, cs157, a160, c161, s150, rfl, hle151, hq146, h156, hn158, h162, hz163, hE, hS⟩
        refine W.gen fun K165 hK165 => ?_
        replace h_y0_2 := Sl.mono RPlanRule.mono hle151 h_y0_2
        replace h_y2_0 := Sl.mono RI.mono hle151 h_y2_0
        replace h_v0 := Ev.mono RI.mono hle151 h_v0
        rcases n148 with _ | n148
        · rw [Fishref2BestOfRules_1_v1.loop2] at hq146; exact absurd hq146 (by simp)
        rw [Fishref2BestOfRules_1_v1.loop2] at hq146
        refine W.seq ?_
        refine W.region ?_
        refine WL.vS hS hE (runs_plain rfl) (Gives.p hE rfl) rfl ?_; clear hE a; intro a hE
        refine WL.nil ?_
        refine W.seq ?_
        refine W.cond hE rfl (fun hc166 => ?_) (fun hc166 => ?_)
        · replace hq146 := iteT hc166 hq146
          refine W.skip ?_
          refine W.seq ?_
          refine W.block ?_
          refine W.seq ?_
          refine W.region ?_
          refine WL.vS hS hE (runs_plain rfl) (Gives.p hE rfl) rfl ?_; clear hE a; intro a hE
          refine WL.vS hS hE (runs_plain rfl) (Gives.p hE rfl) rfl ?_; clear hE a; intro a hE
          refine WL.nil ?_
          refine W.seq ?_
          refine W.region ?_
          refine WL.vS hS hE (runs_plain rfl) (Gives.loadB hE 1 rfl rfl rfl ty29) rfl ?_; clear hE a; intro a hE
          refine WL.vS hS hE (runs_plain rfl) (Gives.p hE rfl) rfl ?_; clear hE a; intro a hE
          refine WL.vS hS hE (runs_plain rfl) (Gives.p hE rfl) rfl ?_; clear hE a; intro a hE
          obtain ⟨_, hx168, hq146⟩ := bindS hq146
          obtain ⟨h169, h170⟩ := ix_some hx168
          refine WL.vS hS hE (runs_plain rfl) (Gives.idx hE ((x0).toNat) rfl rfl sl29 h169 (by have := hn158; omega) (hS.vecAok 5 rfl (by have := hn158; omega : (x0).toNat < y1.length))) rfl ?_; clear hE a; intro a hE
          obtain ⟨x172, hx173, hq146⟩ := bindS hq146
          refine WL.setD hE hS 5 rfl (runs_plain rfl) rfl rfl (vs := [.int .i64 q152]) rfl ty3 rfl rfl rfl h156 hn158 (sx_some hx173).1 hx173 rfl rfl ?_; clear hE hS a w; intro cs174 a w h175 hn176 hE hS
          refine WL.nil ?_
          refine W.seq ?_
          obtain ⟨q178, hq177, hq146⟩ := bindS hq146
          refine W.cut (fun a w => ∃ (q181 : Bool), q181 = q178 ∧ Rep a 64 [(0, .int .i64 x0), (1, .pointer (some ⟨pb0, 0, none⟩)), (2, .pointer (some ⟨pb1, 0, none⟩)), (3, .pointer (some ⟨pb2, 0, none⟩)), (4, .pointer (some ⟨pb3, 0, none⟩)), (5, .pointer (some ⟨pb4, 0, none⟩)), (31, .int .i64 y0.Period), (32, .int .i64 q152), (58, .bool q181)] ∧ St w s150 (pt pb0 (.cells #[.int .i64 y0.Period, .int .i64 y0.Events, .slice a_y0_2 y0.Rules.length c_y0_2] 24 (0, 0)) :: pt pb1 (.cells #[.slice a_v0 y1.length c_v0] 29 (0, 0)) :: pt pb2 (.cells #[.slice a160 q159.length c161] 29 (0, 0)) :: pt pb3 (.cells #[.int .i64 q164] 3 (0, 0)) :: pt pb4 (.cells #[.func (.func 59) #[] #[.pointer (some ⟨pb0, 0, none⟩), .pointer (some ⟨pb1, 0, none⟩), .pointer (some ⟨pb2, 0, none⟩), .pointer (some ⟨pb3, 0, none⟩), .pointer (some ⟨pb4, 0, none⟩)]] 93 (0, 0)) :: vecC 3 1 a_v0 c_v0 y1.length cs174 :: R)) ?_ ?_
          · refine W.gen fun K182 hK182 => ?_
            refine W.regionQ (C := fun w => St w s150 (pt pb0 (.cells #[.int .i64 y0.Period, .int .i64 y0.Events, .slice a_y0_2 y0.Rules.length c_y0_2] 24 (0, 0)) :: pt pb1 (.cells #[.slice a_v0 y1.length c_v0] 29 (0, 0)) :: pt pb2 (.cells #[.slice a160 q159.length c161] 29 (0, 0)) :: pt pb3 (.cells #[.int .i64 q164] 3 (0, 0)) :: pt pb4 (.cells #[.func (.func 59) #[] #[.pointer (some ⟨pb0, 0, none⟩), .pointer (some ⟨pb1, 0, none⟩), .pointer (some ⟨pb2, 0, none⟩), .pointer (some ⟨pb3, 0, none⟩), .pointer (some ⟨pb4, 0, none⟩)]] 93 (0, 0)) :: vecC 3 1 a_v0 c_v0 y1.length cs174 :: R)) mixed (by kernel_rfl) hS.drew ?_
            refine QL.v hE (runs_plain rfl) (Gives.loadBA hE 0 rfl rfl ty24) rfl ?_; clear hE a; intro a hE
            refine QL.v hE (runs_plain rfl) (Gives.loadB hE 1 rfl rfl rfl ty29) rfl ?_; clear hE a; intro a hE
            refine QL.v hE (runs_plain rfl) (Gives.p hE rfl) rfl ?_; clear hE a; intro a hE
            refine QL.v hE (runs_plain rfl) (Gives.p hE rfl) rfl ?_; clear hE a; intro a hE
            obtain ⟨x183, hx184, hq177⟩ := bindS hq177
            obtain ⟨h185, h186, h187, h188, h189, h190⟩ := cutl_some hx184
            have h191 := (hS.vecCap 5 rfl).1
            refine QL.v hE (runs_plain rfl) (Gives.slH hE sl29 rfl rfl h186 (Int.le_trans h187 (by have := hn176; omega)) (cutA_val hx184 _ _ _)) rfl ?_; clear hE a; intro a hE
            obtain ⟨q192, hq193, hq177⟩ := bindS hq177
            refine QL.fnq hE (fun w hS => let ⟨t0_, hl0_, hS0_, hs0_, bk0_⟩ := hS.lendV RI.mono 5 rfl h175 hn176; (Fishref2fits_ok hS0_ (Sl.mono RPlanRule.mono hl0_ h_y0_2) (Sl.cutA hs0_ hx184) hq193).mono fun _ _ ⟨he, hq⟩ => ⟨he, (St.unfront 5 rfl (bk0_ _ _ hq))⟩) (runs_plain rfl) bd61 rfl rfl rfl ?_; clear hE a; intro a hE
            refine QL.v hE (runs_plain rfl) (Gives.p hE rfl) rfl ?_; clear hE a; intro a hE
            rcases Bool.eq_false_or_eq_true q192 with hg194 | hg194
            · replace hq177 := iteT hg194 hq177
              refine QL.v hE (runs_if hE rfl rfl rfl hg194) (Gives.loadB hE 2 rfl rfl rfl ty29) rfl ?_; clear hE a; intro a hE
              refine QL.v hE (runs_if hE rfl rfl rfl hg194) (Gives.isNilZ hE (isNone_eq h162 hz163) rfl rfl isl29) rfl ?_; clear hE a; intro a hE
              refine QL.v hE (runs_if hE rfl rfl rfl hg194) (Gives.p hE rfl) rfl ?_; clear hE a; intro a hE
              rcases Bool.eq_false_or_eq_true q159.isEmpty with hg195 | hg195
              · replace hq177 := iteT hg195 hq177
                refine QL.no hE (runs_not hE rfl rfl rfl (by rw [hg195]; decide)) rfl ?_; clear hE a; intro a hE
                refine QL.no hE (runs_not hE rfl rfl rfl (by rw [hg195]; decide)) rfl ?_; clear hE a; intro a hE
                refine QL.no hE (runs_not hE rfl rfl rfl (by rw [hg195]; decide)) rfl ?_; clear hE a; intro a hE
                refine QL.no hE (runs_not hE rfl rfl rfl (by rw [hg195]; decide)) rfl ?_; clear hE a; intro a hE
                refine QL.no hE (runs_not hE rfl rfl rfl (by rw [hg195]; decide)) rfl ?_; clear hE a; intro a hE
                refine QL.no hE (runs_not hE rfl rfl rfl (by rw [hg195]; decide)) rfl ?_; clear hE a; intro a hE
                refine QL.no hE (runs_not hE rfl rfl rfl (by rw [hg195]; decide)) rfl ?_; clear hE a; intro a hE
                refine QL.no hE (runs_not hE rfl rfl rfl (by rw [hg195]; decide)) rfl ?_; clear hE a; intro a hE
                refine QL.v hE (runs_if hE rfl rfl rfl hg194) (Gives.pickT hE rfl hg195 rfl) rfl ?_; clear hE a; intro a hE
                refine QL.v hE (runs_plain rfl) (Gives.pickT hE rfl hg194 rfl) rfl ?_; clear hE a; intro a hE
                refine QL.nil ?_; clear hS w; intro w hS
                subst hK182
                exact ⟨true, Option.some.inj hq177, hE.pick _ ⟨rfl, rfl, rfl, rfl, rfl, rfl, rfl, rfl, rfl, trivial⟩, hS⟩
              · replace hq177 := iteF hg195 hq177
                refine QL.v hE (runs_if hE rfl rfl rfl hg195) (Gives.loadBA hE 0 rfl rfl ty24) rfl ?_; clear hE a; intro a hE
                refine QL.v hE (runs_if hE rfl rfl rfl hg195) (Gives.loadB hE 1 rfl rfl rfl ty29) rfl ?_; clear hE a; intro a hE
                refine QL.v hE (runs_if hE rfl rfl rfl hg195) (Gives.p hE rfl) rfl ?_; clear hE a; intro a hE
                refine QL.v hE (runs_if hE rfl rfl rfl hg195) (Gives.p hE rfl) rfl ?_; clear hE a; intro a hE
                obtain ⟨x196, hx197, hq177⟩ := bindS hq177
                obtain ⟨h198, h199, h200, h201, h202, h203⟩ := cutl_some hx197
                have h204 := (hS.vecCap 5 rfl).1
                refine QL.v hE (runs_if hE rfl rfl rfl hg195) (Gives.slH hE sl29 rfl rfl h199 (Int.le_trans h200 (by have := hn176; omega)) (cutA_val hx197 _ _ _)) rfl ?_; clear hE a; intro a hE
                obtain ⟨q205, hq206, hq177⟩ := bindS hq177
                refine QL.fnq hE (fun w hS => let ⟨t0_, hl0_, hS0_, hs0_, bk0_⟩ := hS.lendV RI.mono 5 rfl h175 hn176; (Fishref2partCost_ok hS0_ (Sl.mono RPlanRule.mono hl0_ h_y0_2) (Sl.cutA hs0_ hx197) hq206).mono fun _ _ ⟨he, hq⟩ => ⟨he, (St.unfront 5 rfl (bk0_ _ _ hq))⟩) (runs_if hE rfl rfl rfl hg195) bd62 rfl rfl rfl ?_; clear hE a; intro a hE
                refine QL.v hE (runs_if hE rfl rfl rfl hg195) (Gives.loadB hE 3 rfl rfl rfl ty3) rfl ?_; clear hE a; intro a hE
                refine QL.v hE (runs_if hE rfl rfl rfl hg195) (Gives.p hE rfl) rfl ?_; clear hE a; intro a hE
                refine QL.v hE (runs_if hE rfl rfl rfl hg194) (Gives.pickF hE rfl hg195 rfl) rfl ?_; clear hE a; intro a hE
                refine QL.v hE (runs_plain rfl) (Gives.pickT hE rfl hg194 rfl) rfl ?_; clear hE a; intro a hE
                refine QL.nil ?_; clear hS w; intro w hS
                subst hK182
                exact ⟨decide (q205 < q164), Option.some.inj hq177, hE.pick _ ⟨rfl, rfl, rfl, rfl, rfl, rfl, rfl, rfl, rfl, trivial⟩, hS⟩
            · replace hq177 := iteF hg194 hq177
              refine QL.no hE (runs_not hE rfl rfl rfl (by rw [hg194]; decide)) rfl ?_; clear hE a; intro a hE
              refine QL.no hE (runs_not hE rfl rfl rfl (by rw [hg194]; decide)) rfl ?_; clear hE a; intro a hE
              refine QL.no hE (runs_not hE rfl rfl rfl (by rw [hg194]; decide)) rfl ?_; clear hE a; intro a hE
              refine QL.no hE (runs_undef hE rfl rfl rfl) rfl ?_; clear hE a; intro a hE
              refine QL.no hE (runs_undef hE rfl rfl rfl) rfl ?_; clear hE a; intro a hE
              refine QL.no hE (runs_undef hE rfl rfl rfl) rfl ?_; clear hE a; intro a hE
              refine QL.no hE (runs_undef hE rfl rfl rfl) rfl ?_; clear hE a; intro a hE
              refine QL.no hE (runs_undef hE rfl rfl rfl) rfl ?_; clear hE a; intro a hE
              refine QL.no hE (runs_undef hE rfl rfl rfl) rfl ?_; clear hE a; intro a hE
              refine QL.no hE (runs_undef hE rfl rfl rfl) rfl ?_; clear hE a; intro a hE
              refine QL.no hE (runs_undef hE rfl rfl rfl) rfl ?_; clear hE a; intro a hE
              refine QL.no hE (runs_not hE rfl rfl rfl (by rw [hg194]; decide)) rfl ?_; clear hE a; intro a hE
              refine QL.v hE (runs_plain rfl) (Gives.pickF hE rfl hg194 rfl) rfl ?_; clear hE a; intro a hE
              refine QL.nil ?_; clear hS w; intro w hS
              subst hK182
              exact ⟨false, Option.some.inj hq177, hE.pick _ ⟨rfl, rfl, rfl, rfl, rfl, rfl, rfl, rfl, rfl, trivial⟩, hS⟩
          · clear hE hS a w; rintro a w ⟨q181, rfl, hE, hS⟩
            refine W.cond hE rfl (fun hc207 => ?_) (fun hc207 => ?_)
            · replace hq146 := iteT hc207 hq146
              refine W.region ?_
              refine WL.vS hS hE (runs_plain rfl) (Gives.loadB hE 4 rfl rfl rfl ty93) rfl ?_; clear hE a; intro a hE
              refine WL.vS hS hE (runs_plain rfl) (Gives.p hE rfl) rfl ?_; clear hE a; intro a hE
              refine WL.vS hS hE (runs_plain rfl) (Gives.p hE rfl) rfl ?_; clear hE a; intro a hE
              obtain ⟨q208, hq209, hq146⟩ := bindS hq146
              have hc_ := ih_Fishref2BestOfRules_1_v1 (y0 := y0) hS h_y0_2 h175 hn176 h162 hz163 hq209
              refine WL.fnw hE (hc_) rfl (runs_plain rfl) bd59 rfl rfl rfl ?_
              clear hE hS hc_; rintro e w ⟨cs210, a213, c214, s217, rfl, hle218, h211, hn212, h215, hz216, hS⟩; refine ⟨_, rfl, ?_⟩; clear a; intro a hE
              replace h_y0_2 := Sl.mono RPlanRule.mono hle218 h_y0_2
              replace h162 := Sl.mono RI.mono hle218 h162
              replace h175 := Ev.mono RI.mono hle218 h175
              refine WL.nil ?_
              refine W.region ?_
              refine WL.vS hS hE (runs_plain rfl) (Gives.p hE rfl) rfl ?_; clear hE a; intro a hE
              refine WL.vS hS hE (runs_plain rfl) (Gives.p hE rfl) rfl ?_; clear hE a; intro a hE
              refine WL.nil ?_
              subst hK165
              exact ⟨n148, Nat.lt_succ_self _, n148, (w64 (q152 + 1)), q208.1, q208.2.1, q208.2.2, cs210, a213, c214, s217, rfl, (Sg.Le.trans hle151 hle218), hq146, h211, hn212, h215, hz216, hE.pick _ ⟨rfl, rfl, rfl, rfl, rfl, rfl, rfl, rfl, trivial⟩, hS⟩
            · replace hq146 := iteF hc207 hq146
              refine W.skip ?_
              refine W.region ?_
              refine WL.vS hS hE (runs_plain rfl) (Gives.p hE rfl) rfl ?_; clear hE a; intro a hE
              refine WL.vS hS hE (runs_plain rfl) (Gives.p hE rfl) rfl ?_; clear hE a; intro a hE
              refine WL.nil ?_
              subst hK165
              exact ⟨n148, Nat.lt_succ_self _, n148, (w64 (q152 + 1)), x172, q159, q164, cs174, a160, c161, s150, rfl, hle151, hq146, h175, hn176, h162, hz163, hE.pick _ ⟨rfl, rfl, rfl, rfl, rfl, rfl, rfl, rfl, trivial⟩, hS⟩
        · replace hq146 := iteF hc166 hq146
          subst hK165
          refine W.exit rfl ?_
          exact ⟨q152, q153, q159, q164, cs157, a160, c161, s150, hle151, Option.some.inj hq146, h156, hn158, h162, hz163, hE.pick _ trivial, hS⟩
      · clear hE hS a w; rintro a w ⟨q152, q153, q159, q164, cs157, a160, c161, s150, hle151, rfl, h156, hn158, h162, hz163, hE, hS⟩
        dsimp only at hr
        replace h_y0_2 := Sl.mono RPlanRule.mono hle151 h_y0_2
        replace h_y2_0 := Sl.mono RI.mono hle151 h_y2_0
        replace h_v0 := Ev.mono RI.mono hle151 h_v0
        refine finG (fn := Try.f59) (rs := []) (vs := []) hE rfl trivial ?_
        obtain rfl := Option.some.inj hr
        exact ⟨cs157, a160, c161, s150, rfl, hle151, h156, hn158, h162, hz163, hS⟩
set_option maxHeartbeats 8000000 in
theorem Fishref2BestOfRules_ok {fu : Nat}  {w : World} {s : Sg} {R : List HP} {x0 : PlanPeriodic} {a0_0 : Option Addr} {c0_0 : Nat} (hS : St w s (R)) (h0_0 : Sl 5 RPlanRule s a0_0 c0_0 x0.Rules) {r : (List Int) × Int × Bool} (hr : Fishref2BestOfRules fu x0 = some r) :
    Calls Try.prog 26 [.agg [.int .i64 x0.Period, .int .i64 x0.Events, .slice a0_0 x0.Rules.length c0_0].toArray].toArray w (fun e w => ∃ (a0 : Option Addr) (c0 : Nat) (t : Sg), e = .returned (.tuple #[.slice a0 r.1.length c0, .int .i64 r.2.1, .bool r.2.2]) ∧ s.Le t ∧ Sl 1 (RI .i64) t a0 c0 r.1 ∧ St w t (R)) := by
  refine enter Try.func26 rfl rfl rfl fun a hE => ?_
  rw [Fishref2BestOfRules] at hr
  refine W.seq ?_
  refine W.region ?_
  refine WL.box hE hS (runs_plain rfl) rfl rfl rfl ?_; clear hE hS a w; intro b51 a w hE hS
  refine WL.vS hS hE (runs_plain rfl) (Gives.p hE rfl) rfl ?_; clear hE a; intro a hE
  refine WL.vS hS hE (runs_plain rfl) (Gives.p hE rfl) rfl ?_; clear hE a; intro a hE
  refine WL.vS hS hE (runs_plain rfl) (Gives.p hE rfl) rfl ?_; clear hE a; intro a hE
  refine WL.nil ?_
  refine W.seq ?_
  refine W.region ?_
  refine WL.alloc hE hS (runs_plain rfl) zr29 rfl ?_; clear hE hS a w; intro b52 a w hE hS
  refine WL.nil ?_
  refine W.seq ?_
  refine W.region ?_
  refine WL.alloc hE hS (runs_plain rfl) zr3 rfl ?_; clear hE hS a w; intro b53 a w hE hS
  refine WL.storeI hE hS 0 rfl [.int .i64 0] (runs_plain rfl) rfl rfl rfl ty3 rfl rfl rfl rfl ?_; clear hE hS a w; intro a w hE hS
  refine WL.nil ?_
  refine W.seq ?_
  refine W.region ?_
  refine WL.vS hS hE (runs_plain rfl) (Gives.fld hE rfl fl24_1) rfl ?_; clear hE a; intro a hE
  refine WL.vS hS hE (runs_plain rfl) (Gives.loadB hE 2 rfl rfl rfl ty3) rfl ?_; clear hE a; intro a hE
  obtain ⟨x54, hx55, hr⟩ := bindS hr
  refine WL.mkD (Rr := RI .i64) hE hS (runs_plain rfl) rfl rfl ap29 zr3 rfl hx55 rfl ?_; clear hE hS a w; intro b56 cs57 a w h58 hE hS
  refine WL.alloc hE hS (runs_plain rfl) zr29 rfl ?_; clear hE hS a w; intro b60 a w hE hS
  refine WL.storeI hE hS 0 rfl [.slice (some ⟨b56, 0, none⟩) x54.length x54.length] (runs_plain rfl) rfl rfl rfl ty29 rfl rfl rfl rfl ?_; clear hE hS a w; intro a w hE hS
  refine WL.nil ?_
  refine W.seq ?_
  refine W.region ?_
  refine WL.alloc hE hS (runs_plain rfl) zr93 rfl ?_; clear hE hS a w; intro b61 a w hE hS
  refine WL.nil ?_
  refine W.seq ?_
  refine W.region ?_
  refine WL.vS hS hE (runs_plain rfl) (Gives.mkfn hE (vs := [.pointer (some ⟨b51, 0, none⟩), .pointer (some ⟨b60, 0, none⟩), .pointer (some ⟨b52, 0, none⟩), .pointer (some ⟨b53, 0, none⟩), .pointer (some ⟨b61, 0, none⟩)]) rfl) rfl ?_; clear hE a; intro a hE
  refine WL.storeI hE hS 0 rfl [.func (.func 59) #[] #[.pointer (some ⟨b51, 0, none⟩), .pointer (some ⟨b60, 0, none⟩), .pointer (some ⟨b52, 0, none⟩), .pointer (some ⟨b53, 0, none⟩), .pointer (some ⟨b61, 0, none⟩)]] (runs_plain rfl) rfl rfl rfl ty93 rfl rfl rfl rfl ?_; clear hE hS a w; intro a w hE hS
  refine WL.nil ?_
  refine W.seq ?_
  refine W.region ?_
  refine WL.vS hS hE (runs_plain rfl) (Gives.loadB hE 0 rfl rfl rfl ty93) rfl ?_; clear hE a; intro a hE
  obtain ⟨q62, hq63, hr⟩ := bindS hr
  replace hS := hS.front 2 rfl
  replace hS := hS.front 1 rfl
  replace hS := hS.front 3 rfl
  replace hS := hS.front 4 rfl
  replace hS := hS.front 4 rfl
  replace hS := hS.front 5 rfl
  have hc_ := Fishref2BestOfRules_1_v1_ok (y0 := x0) hS h0_0 h58 (rfl) Sl.nil (fun _ => rfl) hq63
  refine WL.fnw hE (hc_) rfl (runs_plain rfl) bd59 rfl rfl rfl ?_
  clear hE hS hc_; rintro e w ⟨cs64, a67, c68, s71, rfl, hle72, h65, hn66, h69, hz70, hS⟩; refine ⟨_, rfl, ?_⟩; clear a; intro a hE
  replace h0_0 := Sl.mono RPlanRule.mono hle72 h0_0
  replace h58 := Ev.mono RI.mono hle72 h58
  refine WL.nil ?_
  refine W.seq ?_
  refine W.regionQ (C := fun w => St w s71 (pt b51 (.cells #[.int .i64 x0.Period, .int .i64 x0.Events, .slice a0_0 x0.Rules.length c0_0] 24 (0, 0)) :: pt b60 (.cells #[.slice (some ⟨b56, 0, none⟩) x54.length x54.length] 29 (0, 0)) :: pt b52 (.cells #[.slice a67 q62.2.1.length c68] 29 (0, 0)) :: pt b53 (.cells #[.int .i64 q62.2.2] 3 (0, 0)) :: pt b61 (.cells #[.func (.func 59) #[] #[.pointer (some ⟨b51, 0, none⟩), .pointer (some ⟨b60, 0, none⟩), .pointer (some ⟨b52, 0, none⟩), .pointer (some ⟨b53, 0, none⟩), .pointer (some ⟨b61, 0, none⟩)]] 93 (0, 0)) :: vecC 3 1 (some ⟨b56, 0, none⟩) x54.length x54.length cs64 :: R)) mixed (by kernel_rfl) hS.drew ?_
  refine QL.v hE (runs_plain rfl) (Gives.loadB hE 2 rfl rfl rfl ty29) rfl ?_; clear hE a; intro a hE
  refine QL.v hE (runs_plain rfl) (Gives.loadB hE 3 rfl rfl rfl ty3) rfl ?_; clear hE a; intro a hE
  refine QL.v hE (runs_plain rfl) (Gives.loadB hE 2 rfl rfl rfl ty29) rfl ?_; clear hE a; intro a hE
  refine QL.v hE (runs_plain rfl) (Gives.notNilZ hE (isNone_eq h69 hz70) rfl rfl isl29) rfl ?_; clear hE a; intro a hE
  refine QL.v hE (runs_plain rfl) (Gives.p hE rfl) rfl ?_; clear hE a; intro a hE
  refine QL.v hE (runs_plain rfl) (Gives.p hE rfl) rfl ?_; clear hE a; intro a hE
  refine QL.v hE (runs_plain rfl) (Gives.p hE rfl) rfl ?_; clear hE a; intro a hE
  refine QL.nil ?_; clear hS w; intro w hS
  refine W.ret ?_
  refine finG (fn := Try.f26) (rs := [.tmp 2, .tmp 3, .tmp 4]) (vs := [_, _, _]) hE rfl ⟨rfl, rfl, rfl, trivial⟩ ?_
  obtain rfl := Option.some.inj hr
  replace hS := hS.tail
  replace hS := hS.tail
  replace hS := hS.tail
  replace hS := hS.tail
  replace hS := hS.tail
  replace hS := hS.tail
  exact ⟨a67, c68, s71, rfl, hle72, h69, hS⟩
set_option maxHeartbeats 8000000 in
theorem Fishlaw2PlanBests_ok {fu : Nat}  {w : World} {s : Sg} {R : List HP} {x0 : PlanPeriodic} {a0_0 : Option Addr} {c0_0 : Nat} (hS : St w s (R)) (h0_0 : Sl 5 RPlanRule s a0_0 c0_0 x0.Rules) {r : Bool} (hr : Fishlaw2PlanBests fu x0 = some r) :
    Calls Try.prog 7 [.agg [.int .i64 x0.Period, .int .i64 x0.Events, .slice a0_0 x0.Rules.length c0_0].toArray].toArray w (fun e w => e = .returned (.bool r) ∧ St w s (R)) := by
  refine enter Try.func7 rfl rfl rfl fun a hE => ?_
  rw [Fishlaw2PlanBests] at hr
  refine W.seq ?_
  refine W.region ?_
  refine WL.box hE hS (runs_plain rfl) rfl rfl rfl ?_; clear hE hS a w; intro b51 a w hE hS
  refine WL.vS hS hE (runs_plain rfl) (Gives.p hE rfl) rfl ?_; clear hE a; intro a hE
  refine WL.nil ?_
  refine W.seq ?_
  refine W.region ?_
  refine WL.vS hS hE (runs_plain rfl) (Gives.loadBA hE 0 rfl rfl ty24) rfl ?_; clear hE a; intro a hE
  obtain ⟨q52, hq53, hr⟩ := bindS hr
  have hc_ := PlanBest_ok hS h0_0 hq53
  refine WL.fnq hE (hc_) (runs_plain rfl) bd24 rfl rfl rfl ?_
  clear hE hS hc_; rintro e w ⟨a54, c55, s57, rfl, hle58, h56, hS⟩; refine ⟨_, rfl, ?_⟩; clear a; intro a hE
  replace h0_0 := Sl.mono RPlanRule.mono hle58 h0_0
  refine WL.vS hS hE (runs_plain rfl) (Gives.p hE rfl) rfl ?_; clear hE a; intro a hE
  refine WL.vS hS hE (runs_plain rfl) (Gives.p hE rfl) rfl ?_; clear hE a; intro a hE
  refine WL.vS hS hE (runs_plain rfl) (Gives.p hE rfl) rfl ?_; clear hE a; intro a hE
  refine WL.vS hS hE (runs_plain rfl) (Gives.p hE rfl) rfl ?_; clear hE a; intro a hE
  refine WL.vS hS hE (runs_plain rfl) (Gives.p hE rfl) rfl ?_; clear hE a; intro a hE
  refine WL.vS hS hE (runs_plain rfl) (Gives.p hE rfl) rfl ?_; clear hE a; intro a hE
  refine WL.vS hS hE (runs_plain rfl) (Gives.p hE rfl) rfl ?_; clear hE a; intro a hE
  refine WL.nil ?_
  refine W.seq ?_
  refine W.region ?_
  refine WL.vS hS hE (runs_plain rfl) (Gives.loadBA hE 0 rfl rfl ty24) rfl ?_; clear hE a; intro a hE
  refine WL.fnq hE (Fishref2PeriodicFault_ok hS h0_0 rfl (r := Fishref2PeriodicFault x0)) (runs_plain rfl) bd11 rfl rfl rfl ?_
  clear hE hS; rintro e w ⟨rfl, hS⟩; refine ⟨_, rfl, ?_⟩; clear a; intro a hE
  refine WL.vS hS hE (runs_plain rfl) (Gives.p hE rfl) rfl ?_; clear hE a; intro a hE
  refine WL.nil ?_
  refine W.seq ?_
  refine W.seq ?_
  obtain ⟨q60, hq59, hr⟩ := bndS hr
  refine W.cut (fun a w => ∃ (q63 : Bool), q63 = q60 ∧ Rep a 137 [(1, .pointer (some ⟨b51, 0, none⟩)), (3, .slice a54 q52.1.length c55), (4, .int .i64 q52.2.1), (5, .int .i64 q52.2.2), (6, .int .i64 (Fishref2PeriodicFault x0)), (24, .bool q63)] ∧ St w s57 (pt b51 (.cells #[.int .i64 x0.Period, .int .i64 x0.Events, .slice a0_0 x0.Rules.length c0_0] 24 (0, 0)) :: R)) ?_ ?_
  · refine W.gen fun K64 hK64 => ?_
    refine W.region ?_
    refine WL.vS hS hE (runs_plain rfl) (Gives.p hE rfl) rfl ?_; clear hE a; intro a hE
    refine WL.vS hS hE (runs_plain rfl) (Gives.p hE rfl) rfl ?_; clear hE a; intro a hE
    refine WL.vS hS hE (runs_plain rfl) (Gives.p hE rfl) rfl ?_; clear hE a; intro a hE
    rcases Bool.eq_false_or_eq_true ((Fishref2PeriodicFault x0) == 0) with hg65 | hg65
    · replace hq59 := iteT hg65 hq59
      refine WL.vS hS hE (runs_if hE rfl rfl rfl hg65) (Gives.fld hE rfl fl24_1) rfl ?_; clear hE a; intro a hE
      refine WL.vS hS hE (runs_if hE rfl rfl rfl hg65) (Gives.loadB hE 0 rfl rfl rfl ty3) rfl ?_; clear hE a; intro a hE
      refine WL.vS hS hE (runs_if hE rfl rfl rfl hg65) (Gives.p hE rfl) rfl ?_; clear hE a; intro a hE
      refine WL.vS hS hE (runs_plain rfl) (Gives.pickT hE rfl hg65 rfl) rfl ?_; clear hE a; intro a hE
      refine WL.nil ?_
      subst hK64
      exact ⟨decide (x0.Events > 6), hq59, hE.pick _ ⟨rfl, rfl, rfl, rfl, rfl, rfl, trivial⟩, hS⟩
    · replace hq59 := iteF hg65 hq59
      refine WL.no hE (runs_not hE rfl rfl rfl (by rw [hg65]; decide)) rfl ?_; clear hE a; intro a hE
      refine WL.no hE (runs_not hE rfl rfl rfl (by rw [hg65]; decide)) rfl ?_; clear hE a; intro a hE
      refine WL.no hE (runs_not hE rfl rfl rfl (by rw [hg65]; decide)) rfl ?_; clear hE a; intro a hE
      refine WL.vS hS hE (runs_plain rfl) (Gives.pickF hE rfl hg65 rfl) rfl ?_; clear hE a; intro a hE
      refine WL.nil ?_
      subst hK64
      exact ⟨false, hq59, hE.pick _ ⟨rfl, rfl, rfl, rfl, rfl, rfl, trivial⟩, hS⟩
  · clear hE hS a w; rintro a w ⟨q63, rfl, hE, hS⟩
    obtain ⟨q67, hq66, hr⟩ := bndS hr
    refine W.cut (fun a w => ∃ (q70 : Int), q70 = q67 ∧ Rep a 137 [(1, .pointer (some ⟨b51, 0, none⟩)), (3, .slice a54 q52.1.length c55), (4, .int .i64 q52.2.1), (5, .int .i64 q52.2.2), (6, .int .i64 q70)] ∧ St w s57 (pt b51 (.cells #[.int .i64 x0.Period, .int .i64 x0.Events, .slice a0_0 x0.Rules.length c0_0] 24 (0, 0)) :: R)) ?_ ?_
    · refine W.gen fun K71 hK71 => ?_
      refine W.cond hE rfl (fun hc72 => ?_) (fun hc72 => ?_)
      · replace hq66 := iteT hc72 hq66
        refine W.region ?_
        refine WL.vS hS hE (runs_plain rfl) (Gives.p hE rfl) rfl ?_; clear hE a; intro a hE
        refine WL.nil ?_
        subst hK71
        exact ⟨4, hq66, hE.pick _ ⟨rfl, rfl, rfl, rfl, rfl, trivial⟩, hS⟩
      · replace hq66 := iteF hc72 hq66
        refine W.skip ?_
        subst hK71
        exact ⟨(Fishref2PeriodicFault x0), hq66, hE.pick _ ⟨rfl, rfl, rfl, rfl, rfl, trivial⟩, hS⟩
    · clear hE hS a w; rintro a w ⟨q70, rfl, hE, hS⟩
      refine W.seq ?_
      refine W.seq ?_
      refine W.region ?_
      refine WL.vS hS hE (runs_plain rfl) (Gives.p hE rfl) rfl ?_; clear hE a; intro a hE
      refine WL.vS hS hE (runs_plain rfl) (Gives.p hE rfl) rfl ?_; clear hE a; intro a hE
      refine WL.nil ?_
      refine W.cond hE rfl (fun hc73 => ?_) (fun hc73 => ?_)
      · replace hr := iteT hc73 hr
        refine W.seq ?_
        obtain ⟨q75, hq74, hr⟩ := bindS hr
        refine W.cut (fun a w => ∃ (q78 : Bool), q78 = q75 ∧ Rep a 137 [(2, .bool q78)] ∧ St w s57 (pt b51 (.cells #[.int .i64 x0.Period, .int .i64 x0.Events, .slice a0_0 x0.Rules.length c0_0] 24 (0, 0)) :: R)) ?_ ?_
        · refine W.gen fun K79 hK79 => ?_
          refine W.region ?_
          obtain ⟨q80, hq81, hq74⟩ := bindS hq74
          have hc_ := Fishlaw2periods_ok hS  hq81
          refine WL.fnq hE (hc_) (runs_plain rfl) bd9 rfl rfl rfl ?_
          clear hE hS hc_; rintro e w ⟨rfl, hS⟩; refine ⟨_, rfl, ?_⟩; clear a; intro a hE
          refine WL.vS hS hE (runs_plain rfl) (Gives.p hE rfl) rfl ?_; clear hE a; intro a hE
          rcases Bool.eq_false_or_eq_true q80 with hg82 | hg82
          · replace hq74 := iteT hg82 hq74
            refine WL.vS hS hE (runs_if hE rfl rfl rfl hg82) (Gives.p hE rfl) rfl ?_; clear hE a; intro a hE
            refine WL.vS hS hE (runs_if hE rfl rfl rfl hg82) (Gives.p hE rfl) rfl ?_; clear hE a; intro a hE
            refine WL.vS hS hE (runs_if hE rfl rfl rfl hg82) (Gives.p hE rfl) rfl ?_; clear hE a; intro a hE
            refine WL.vS hS hE (runs_plain rfl) (Gives.pickT hE rfl hg82 rfl) rfl ?_; clear hE a; intro a hE
            refine WL.vS hS hE (runs_plain rfl) (Gives.p hE rfl) rfl ?_; clear hE a; intro a hE
            rcases Bool.eq_false_or_eq_true (q52.2.2 == q70) with hg83 | hg83
            · replace hq74 := iteT hg83 hq74
              refine WL.vS hS hE (runs_if hE rfl rfl rfl hg83) (Gives.p hE rfl) rfl ?_; clear hE a; intro a hE
              refine WL.vS hS hE (runs_if hE rfl rfl rfl hg83) (Gives.len hE rfl sl29) rfl ?_; clear hE a; intro a hE
              refine WL.vS hS hE (runs_if hE rfl rfl rfl hg83) (Gives.p hE rfl) rfl ?_; clear hE a; intro a hE
              refine WL.vS hS hE (runs_plain rfl) (Gives.pickT hE rfl hg83 rfl) rfl ?_; clear hE a; intro a hE
              refine WL.vS hS hE (runs_plain rfl) (Gives.p hE rfl) rfl ?_; clear hE a; intro a hE
              rcases Bool.eq_false_or_eq_true (((q52.1).length : Int) == 0) with hg84 | hg84
              · replace hq74 := iteT hg84 hq74
                refine WL.vS hS hE (runs_if hE rfl rfl rfl hg84) (Gives.p hE rfl) rfl ?_; clear hE a; intro a hE
                refine WL.vS hS hE (runs_if hE rfl rfl rfl hg84) (Gives.p hE rfl) rfl ?_; clear hE a; intro a hE
                refine WL.vS hS hE (runs_plain rfl) (Gives.pickT hE rfl hg84 rfl) rfl ?_; clear hE a; intro a hE
                refine WL.vS hS hE (runs_plain rfl) (Gives.p hE rfl) rfl ?_; clear hE a; intro a hE
                refine WL.nil ?_
                subst hK79
                exact ⟨(q52.2.1 == 0), Option.some.inj hq74, hE.pick _ ⟨rfl, trivial⟩, hS⟩
              · replace hq74 := iteF hg84 hq74
                refine WL.no hE (runs_not hE rfl rfl rfl (by rw [hg84]; decide)) rfl ?_; clear hE a; intro a hE
                refine WL.no hE (runs_not hE rfl rfl rfl (by rw [hg84]; decide)) rfl ?_; clear hE a; intro a hE
                refine WL.vS hS hE (runs_plain rfl) (Gives.pickF hE rfl hg84 rfl) rfl ?_; clear hE a; intro a hE
                refine WL.vS hS hE (runs_plain rfl) (Gives.p hE rfl) rfl ?_; clear hE a; intro a hE
                refine WL.nil ?_
                subst hK79
                exact ⟨false, Option.some.inj hq74, hE.pick _ ⟨rfl, trivial⟩, hS⟩
            · replace hq74 := iteF hg83 hq74
              refine WL.no hE (runs_not hE rfl rfl rfl (by rw [hg83]; decide)) rfl ?_; clear hE a; intro a hE
              refine WL.no hE (runs_not hE rfl rfl rfl (by rw [hg83]; decide)) rfl ?_; clear hE a; intro a hE
              refine WL.no hE (runs_not hE rfl rfl rfl (by rw [hg83]; decide)) rfl ?_; clear hE a; intro a hE
              refine WL.vS hS hE (runs_plain rfl) (Gives.pickF hE rfl hg83 rfl) rfl ?_; clear hE a; intro a hE
              refine WL.vS hS hE (runs_plain rfl) (Gives.p hE rfl) rfl ?_; clear hE a; intro a hE
              refine WL.no hE (runs_not hE rfl rfl rfl (by decide)) rfl ?_; clear hE a; intro a hE
              refine WL.no hE (runs_not hE rfl rfl rfl (by decide)) rfl ?_; clear hE a; intro a hE
              refine WL.vS hS hE (runs_plain rfl) (Gives.pickF hE rfl rfl rfl) rfl ?_; clear hE a; intro a hE
              refine WL.vS hS hE (runs_plain rfl) (Gives.p hE rfl) rfl ?_; clear hE a; intro a hE
              refine WL.nil ?_
              subst hK79
              exact ⟨false, Option.some.inj hq74, hE.pick _ ⟨rfl, trivial⟩, hS⟩
          · replace hq74 := iteF hg82 hq74
            refine WL.no hE (runs_not hE rfl rfl rfl (by rw [hg82]; decide)) rfl ?_; clear hE a; intro a hE
            refine WL.no hE (runs_not hE rfl rfl rfl (by rw [hg82]; decide)) rfl ?_; clear hE a; intro a hE
            refine WL.no hE (runs_not hE rfl rfl rfl (by rw [hg82]; decide)) rfl ?_; clear hE a; intro a hE
            refine WL.vS hS hE (runs_plain rfl) (Gives.pickF hE rfl hg82 rfl) rfl ?_; clear hE a; intro a hE
            refine WL.vS hS hE (runs_plain rfl) (Gives.p hE rfl) rfl ?_; clear hE a; intro a hE
            refine WL.no hE (runs_not hE rfl rfl rfl (by decide)) rfl ?_; clear hE a; intro a hE
            refine WL.no hE (runs_not hE rfl rfl rfl (by decide)) rfl ?_; clear hE a; intro a hE
            refine WL.no hE (runs_not hE rfl rfl rfl (by decide)) rfl ?_; clear hE a; intro a hE
            refine WL.vS hS hE (runs_plain rfl) (Gives.pickF hE rfl rfl rfl) rfl ?_; clear hE a; intro a hE
            refine WL.vS hS hE (runs_plain rfl) (Gives.p hE rfl) rfl ?_; clear hE a; intro a hE
            refine WL.no hE (runs_not hE rfl rfl rfl (by decide)) rfl ?_; clear hE a; intro a hE
            refine WL.no hE (runs_not hE rfl rfl rfl (by decide)) rfl ?_; clear hE a; intro a hE
            refine WL.vS hS hE (runs_plain rfl) (Gives.pickF hE rfl rfl rfl) rfl ?_; clear hE a; intro a hE
            refine WL.vS hS hE (runs_plain rfl) (Gives.p hE rfl) rfl ?_; clear hE a; intro a hE
            refine WL.nil ?_
            subst hK79
            exact ⟨false, Option.some.inj hq74, hE.pick _ ⟨rfl, trivial⟩, hS⟩
        · clear hE hS a w; rintro a w ⟨q78, rfl, hE, hS⟩
          refine W.ret ?_
          refine finG (fn := Try.f7) (rs := [.tmp 2]) (vs := [_]) hE rfl ⟨rfl, trivial⟩ ?_
          obtain rfl := Option.some.inj hr
          replace hS := hS.tail
          exact ⟨rfl, (hS.down hle58)⟩
      · replace hr := iteF hc73 hr
        refine W.skip ?_
        refine W.seq ?_
        refine W.seq ?_
        obtain ⟨q86, hq85, hr⟩ := bndS hr
        refine W.cut (fun a w => ∃ (q89 : Bool), q89 = q86 ∧ Rep a 137 [(1, .pointer (some ⟨b51, 0, none⟩)), (3, .slice a54 q52.1.length c55), (4, .int .i64 q52.2.1), (5, .int .i64 q52.2.2), (49, .bool q89)] ∧ St w s57 (pt b51 (.cells #[.int .i64 x0.Period, .int .i64 x0.Events, .slice a0_0 x0.Rules.length c0_0] 24 (0, 0)) :: R)) ?_ ?_
        · refine W.gen fun K90 hK90 => ?_
          refine W.region ?_
          refine WL.vS hS hE (runs_plain rfl) (Gives.fld hE rfl fl24_0) rfl ?_; clear hE a; intro a hE
          refine WL.vS hS hE (runs_plain rfl) (Gives.loadB hE 0 rfl rfl rfl ty3) rfl ?_; clear hE a; intro a hE
          refine WL.vS hS hE (runs_plain rfl) (Gives.p hE rfl) rfl ?_; clear hE a; intro a hE
          refine WL.vS hS hE (runs_plain rfl) (Gives.p hE rfl) rfl ?_; clear hE a; intro a hE
          rcases Bool.eq_false_or_eq_true (decide (x0.Period > 24)) with hg91 | hg91
          · replace hq85 := iteT hg91 hq85
            refine WL.no hE (runs_not hE rfl rfl rfl (by rw [hg91]; decide)) rfl ?_; clear hE a; intro a hE
            refine WL.no hE (runs_not hE rfl rfl rfl (by rw [hg91]; decide)) rfl ?_; clear hE a; intro a hE
            refine WL.no hE (runs_not hE rfl rfl rfl (by rw [hg91]; decide)) rfl ?_; clear hE a; intro a hE
            refine WL.vS hS hE (runs_plain rfl) (Gives.pickT hE rfl hg91 rfl) rfl ?_; clear hE a; intro a hE
            refine WL.nil ?_
            subst hK90
            exact ⟨true, hq85, hE.pick _ ⟨rfl, rfl, rfl, rfl, rfl, trivial⟩, hS⟩
          · replace hq85 := iteF hg91 hq85
            refine WL.vS hS hE (runs_if hE rfl rfl rfl hg91) (Gives.fld hE rfl fl24_1) rfl ?_; clear hE a; intro a hE
            refine WL.vS hS hE (runs_if hE rfl rfl rfl hg91) (Gives.loadB hE 0 rfl rfl rfl ty3) rfl ?_; clear hE a; intro a hE
            refine WL.vS hS hE (runs_if hE rfl rfl rfl hg91) (Gives.p hE rfl) rfl ?_; clear hE a; intro a hE
            refine WL.vS hS hE (runs_plain rfl) (Gives.pickF hE rfl hg91 rfl) rfl ?_; clear hE a; intro a hE
            refine WL.nil ?_
            subst hK90
            exact ⟨decide (x0.Events > 4), hq85, hE.pick _ ⟨rfl, rfl, rfl, rfl, rfl, trivial⟩, hS⟩
        · clear hE hS a w; rintro a w ⟨q89, rfl, hE, hS⟩
          refine W.cond hE rfl (fun hc92 => ?_) (fun hc92 => ?_)
          · replace hr := iteT hc92 hr
            refine W.seq ?_
            refine W.seq ?_
            refine W.region ?_
            refine WL.vS hS hE (runs_plain rfl) (Gives.loadBA hE 0 rfl rfl ty24) rfl ?_; clear hE a; intro a hE
            refine WL.vS hS hE (runs_plain rfl) (Gives.fld hE rfl fl24_2) rfl ?_; clear hE a; intro a hE
            refine WL.vS hS hE (runs_plain rfl) (Gives.loadB hE 0 rfl rfl rfl ty22) rfl ?_; clear hE a; intro a hE
            refine WL.lit hE hS (e := 3) (es := 1) (vs := [(0, .int .i64 0)]) (cs := [.int .i64 0]) (runs_plain rfl) rfl (by kernel_rfl) rfl ?_; clear hE hS a w; intro b93 a w hE hS
            replace hS := hS.ptVec (es := 1) (m := 1) rfl (by decide)
            have h95 : Ev 1 (RI .i64) s57 [.int .i64 0] [0] := (Ev.cons (c1 := [.int .i64 0]) rfl rfl (Ev.nil))
            have hF := hS.fixD RI.mono 0 rfl h95 (rfl); clear hS; obtain ⟨s96, hle97, hS, h98⟩ := hF
            replace h56 := Sl.mono RI.mono hle97 h56
            replace h0_0 := Sl.mono RPlanRule.mono hle97 h0_0
            obtain ⟨q99, hq100, hr⟩ := bindS hr
            have hc_ := Fishref2Solvable_ok hS h0_0 h0_0 h98 hq100
            refine WL.fnq hE (hc_) (runs_plain rfl) bd25 rfl rfl rfl ?_
            clear hE hS hc_; rintro e w ⟨rfl, hS⟩; refine ⟨_, rfl, ?_⟩; clear a; intro a hE
            refine WL.vS hS hE (runs_plain rfl) (Gives.p hE rfl) rfl ?_; clear hE a; intro a hE
            refine WL.nil ?_
            refine W.cond hE rfl (fun hc101 => ?_) (fun hc101 => ?_)
            · replace hr := iteT hc101 hr
              refine W.seq ?_
              obtain ⟨q103, hq102, hr⟩ := bindS hr
              refine W.cut (fun a w => ∃ (q106 : Bool), q106 = q103 ∧ Rep a 137 [(2, .bool q106)] ∧ St w s96 (pt b51 (.cells #[.int .i64 x0.Period, .int .i64 x0.Events, .slice a0_0 x0.Rules.length c0_0] 24 (0, 0)) :: R)) ?_ ?_
              · refine W.gen fun K107 hK107 => ?_
                refine W.region ?_
                obtain ⟨q108, hq109, hq102⟩ := bindS hq102
                have hc_ := Fishlaw2periods_ok hS  hq109
                refine WL.fnq hE (hc_) (runs_plain rfl) bd9 rfl rfl rfl ?_
                clear hE hS hc_; rintro e w ⟨rfl, hS⟩; refine ⟨_, rfl, ?_⟩; clear a; intro a hE
                refine WL.vS hS hE (runs_plain rfl) (Gives.p hE rfl) rfl ?_; clear hE a; intro a hE
                rcases Bool.eq_false_or_eq_true q108 with hg110 | hg110
                · replace hq102 := iteT hg110 hq102
                  refine WL.vS hS hE (runs_if hE rfl rfl rfl hg110) (Gives.p hE rfl) rfl ?_; clear hE a; intro a hE
                  refine WL.vS hS hE (runs_if hE rfl rfl rfl hg110) (Gives.p hE rfl) rfl ?_; clear hE a; intro a hE
                  refine WL.vS hS hE (runs_plain rfl) (Gives.pickT hE rfl hg110 rfl) rfl ?_; clear hE a; intro a hE
                  refine WL.vS hS hE (runs_plain rfl) (Gives.p hE rfl) rfl ?_; clear hE a; intro a hE
                  rcases Bool.eq_false_or_eq_true (q52.2.2 == 9) with hg111 | hg111
                  · replace hq102 := iteT hg111 hq102
                    refine WL.vS hS hE (runs_if hE rfl rfl rfl hg111) (Gives.p hE rfl) rfl ?_; clear hE a; intro a hE
                    refine WL.vS hS hE (runs_if hE rfl rfl rfl hg111) (Gives.len hE rfl sl29) rfl ?_; clear hE a; intro a hE
                    refine WL.vS hS hE (runs_if hE rfl rfl rfl hg111) (Gives.p hE rfl) rfl ?_; clear hE a; intro a hE
                    refine WL.vS hS hE (runs_plain rfl) (Gives.pickT hE rfl hg111 rfl) rfl ?_; clear hE a; intro a hE
                    refine WL.vS hS hE (runs_plain rfl) (Gives.p hE rfl) rfl ?_; clear hE a; intro a hE
                    rcases Bool.eq_false_or_eq_true (((q52.1).length : Int) == 0) with hg112 | hg112
                    · replace hq102 := iteT hg112 hq102
                      refine WL.vS hS hE (runs_if hE rfl rfl rfl hg112) (Gives.p hE rfl) rfl ?_; clear hE a; intro a hE
                      refine WL.vS hS hE (runs_if hE rfl rfl rfl hg112) (Gives.p hE rfl) rfl ?_; clear hE a; intro a hE
                      refine WL.vS hS hE (runs_plain rfl) (Gives.pickT hE rfl hg112 rfl) rfl ?_; clear hE a; intro a hE
                      refine WL.vS hS hE (runs_plain rfl) (Gives.p hE rfl) rfl ?_; clear hE a; intro a hE
                      refine WL.nil ?_
                      subst hK107
                      exact ⟨(q52.2.1 == 0), Option.some.inj hq102, hE.pick _ ⟨rfl, trivial⟩, hS⟩
                    · replace hq102 := iteF hg112 hq102
                      refine WL.no hE (runs_not hE rfl rfl rfl (by rw [hg112]; decide)) rfl ?_; clear hE a; intro a hE
                      refine WL.no hE (runs_not hE rfl rfl rfl (by rw [hg112]; decide)) rfl ?_; clear hE a; intro a hE
                      refine WL.vS hS hE (runs_plain rfl) (Gives.pickF hE rfl hg112 rfl) rfl ?_; clear hE a; intro a hE
                      refine WL.vS hS hE (runs_plain rfl) (Gives.p hE rfl) rfl ?_; clear hE a; intro a hE
                      refine WL.nil ?_
                      subst hK107
                      exact ⟨false, Option.some.inj hq102, hE.pick _ ⟨rfl, trivial⟩, hS⟩
                  · replace hq102 := iteF hg111 hq102
                    refine WL.no hE (runs_not hE rfl rfl rfl (by rw [hg111]; decide)) rfl ?_; clear hE a; intro a hE
                    refine WL.no hE (runs_not hE rfl rfl rfl (by rw [hg111]; decide)) rfl ?_; clear hE a; intro a hE
                    refine WL.no hE (runs_not hE rfl rfl rfl (by rw [hg111]; decide)) rfl ?_; clear hE a; intro a hE
                    refine WL.vS hS hE (runs_plain rfl) (Gives.pickF hE rfl hg111 rfl) rfl ?_; clear hE a; intro a hE
                    refine WL.vS hS hE (runs_plain rfl) (Gives.p hE rfl) rfl ?_; clear hE a; intro a hE
                    refine WL.no hE (runs_not hE rfl rfl rfl (by decide)) rfl ?_; clear hE a; intro a hE
                    refine WL.no hE (runs_not hE rfl rfl rfl (by decide)) rfl ?_; clear hE a; intro a hE
                    refine WL.vS hS hE (runs_plain rfl) (Gives.pickF hE rfl rfl rfl) rfl ?_; clear hE a; intro a hE
                    refine WL.vS hS hE (runs_plain rfl) (Gives.p hE rfl) rfl ?_; clear hE a; intro a hE
                    refine WL.nil ?_
                    subst hK107
                    exact ⟨false, Option.some.inj hq102, hE.pick _ ⟨rfl, trivial⟩, hS⟩
                · replace hq102 := iteF hg110 hq102
                  refine WL.no hE (runs_not hE rfl rfl rfl (by rw [hg110]; decide)) rfl ?_; clear hE a; intro a hE
                  refine WL.no hE (runs_not hE rfl rfl rfl (by rw [hg110]; decide)) rfl ?_; clear hE a; intro a hE
                  refine WL.vS hS hE (runs_plain rfl) (Gives.pickF hE rfl hg110 rfl) rfl ?_; clear hE a; intro a hE
                  refine WL.vS hS hE (runs_plain rfl) (Gives.p hE rfl) rfl ?_; clear hE a; intro a hE
                  refine WL.no hE (runs_not hE rfl rfl rfl (by decide)) rfl ?_; clear hE a; intro a hE
                  refine WL.no hE (runs_not hE rfl rfl rfl (by decide)) rfl ?_; clear hE a; intro a hE
                  refine WL.no hE (runs_not hE rfl rfl rfl (by decide)) rfl ?_; clear hE a; intro a hE
                  refine WL.vS hS hE (runs_plain rfl) (Gives.pickF hE rfl rfl rfl) rfl ?_; clear hE a; intro a hE
                  refine WL.vS hS hE (runs_plain rfl) (Gives.p hE rfl) rfl ?_; clear hE a; intro a hE
                  refine WL.no hE (runs_not hE rfl rfl rfl (by decide)) rfl ?_; clear hE a; intro a hE
                  refine WL.no hE (runs_not hE rfl rfl rfl (by decide)) rfl ?_; clear hE a; intro a hE
                  refine WL.vS hS hE (runs_plain rfl) (Gives.pickF hE rfl rfl rfl) rfl ?_; clear hE a; intro a hE
                  refine WL.vS hS hE (runs_plain rfl) (Gives.p hE rfl) rfl ?_; clear hE a; intro a hE
                  refine WL.nil ?_
                  subst hK107
                  exact ⟨false, Option.some.inj hq102, hE.pick _ ⟨rfl, trivial⟩, hS⟩
              · clear hE hS a w; rintro a w ⟨q106, rfl, hE, hS⟩
                refine W.ret ?_
                refine finG (fn := Try.f7) (rs := [.tmp 2]) (vs := [_]) hE rfl ⟨rfl, trivial⟩ ?_
                obtain rfl := Option.some.inj hr
                replace hS := hS.tail
                exact ⟨rfl, (hS.down (Sg.Le.trans hle58 hle97))⟩
            · replace hr := iteF hc101 hr
              refine W.skip ?_
              refine W.seq ?_
              obtain ⟨q114, hq113, hr⟩ := bindS hr
              refine W.cut (fun a w => ∃ (q117 : Bool), q117 = q114 ∧ Rep a 137 [(2, .bool q117)] ∧ St w s96 (pt b51 (.cells #[.int .i64 x0.Period, .int .i64 x0.Events, .slice a0_0 x0.Rules.length c0_0] 24 (0, 0)) :: R)) ?_ ?_
              · refine W.gen fun K118 hK118 => ?_
                refine W.region ?_
                obtain ⟨q119, hq120, hq113⟩ := bindS hq113
                have hc_ := Fishlaw2periods_ok hS  hq120
                refine WL.fnq hE (hc_) (runs_plain rfl) bd9 rfl rfl rfl ?_
                clear hE hS hc_; rintro e w ⟨rfl, hS⟩; refine ⟨_, rfl, ?_⟩; clear a; intro a hE
                refine WL.vS hS hE (runs_plain rfl) (Gives.p hE rfl) rfl ?_; clear hE a; intro a hE
                rcases Bool.eq_false_or_eq_true q119 with hg121 | hg121
                · replace hq113 := iteT hg121 hq113
                  refine WL.vS hS hE (runs_if hE rfl rfl rfl hg121) (Gives.p hE rfl) rfl ?_; clear hE a; intro a hE
                  refine WL.vS hS hE (runs_if hE rfl rfl rfl hg121) (Gives.p hE rfl) rfl ?_; clear hE a; intro a hE
                  refine WL.vS hS hE (runs_plain rfl) (Gives.pickT hE rfl hg121 rfl) rfl ?_; clear hE a; intro a hE
                  refine WL.vS hS hE (runs_plain rfl) (Gives.p hE rfl) rfl ?_; clear hE a; intro a hE
                  rcases Bool.eq_false_or_eq_true (q52.2.2 == 0) with hg122 | hg122
                  · replace hq113 := iteT hg122 hq113
                    refine WL.vS hS hE (runs_if hE rfl rfl rfl hg122) (Gives.loadBA hE 0 rfl rfl ty24) rfl ?_; clear hE a; intro a hE
                    refine WL.vS hS hE (runs_if hE rfl rfl rfl hg122) (Gives.p hE rfl) rfl ?_; clear hE a; intro a hE
                    refine WL.fnq hE (Fishref2TimesFault_ok hS h0_0 h56 rfl (r := Fishref2TimesFault x0 q52.1)) (runs_if hE rfl rfl rfl hg122) bd15 rfl rfl rfl ?_
                    clear hE hS; rintro e w ⟨rfl, hS⟩; refine ⟨_, rfl, ?_⟩; clear a; intro a hE
                    refine WL.vS hS hE (runs_if hE rfl rfl rfl hg122) (Gives.p hE rfl) rfl ?_; clear hE a; intro a hE
                    refine WL.vS hS hE (runs_plain rfl) (Gives.pickT hE rfl hg122 rfl) rfl ?_; clear hE a; intro a hE
                    refine WL.vS hS hE (runs_plain rfl) (Gives.p hE rfl) rfl ?_; clear hE a; intro a hE
                    rcases Bool.eq_false_or_eq_true ((Fishref2TimesFault x0 q52.1) == 0) with hg123 | hg123
                    · replace hq113 := iteT hg123 hq113
                      refine WL.vS hS hE (runs_if hE rfl rfl rfl hg123) (Gives.loadBA hE 0 rfl rfl ty24) rfl ?_; clear hE a; intro a hE
                      refine WL.vS hS hE (runs_if hE rfl rfl rfl hg123) (Gives.p hE rfl) rfl ?_; clear hE a; intro a hE
                      obtain ⟨q124, hq125, hq113⟩ := bindS hq113
                      have hc_ := Fishref2BrokenOf_ok hS h0_0 h56 hq125
                      refine WL.fnq hE (hc_) (runs_if hE rfl rfl rfl hg123) bd16 rfl rfl rfl ?_
                      clear hE hS hc_; rintro e w ⟨rfl, hS⟩; refine ⟨_, rfl, ?_⟩; clear a; intro a hE
                      refine WL.vS hS hE (runs_if hE rfl rfl rfl hg123) (Gives.p hE rfl) rfl ?_; clear hE a; intro a hE
                      refine WL.vS hS hE (runs_plain rfl) (Gives.pickT hE rfl hg123 rfl) rfl ?_; clear hE a; intro a hE
                      refine WL.vS hS hE (runs_plain rfl) (Gives.p hE rfl) rfl ?_; clear hE a; intro a hE
                      rcases Bool.eq_false_or_eq_true (decide (q124 < 0)) with hg126 | hg126
                      · replace hq113 := iteT hg126 hq113
                        refine WL.vS hS hE (runs_if hE rfl rfl rfl hg126) (Gives.p hE rfl) rfl ?_; clear hE a; intro a hE
                        refine WL.vS hS hE (runs_if hE rfl rfl rfl hg126) (Gives.loadBA hE 0 rfl rfl ty24) rfl ?_; clear hE a; intro a hE
                        refine WL.vS hS hE (runs_if hE rfl rfl rfl hg126) (Gives.p hE rfl) rfl ?_; clear hE a; intro a hE
                        obtain ⟨q127, hq128, hq113⟩ := bindS hq113
                        have hc_ := Fishref2CostOf_ok hS h0_0 h56 hq128
                        refine WL.fnq hE (hc_) (runs_if hE rfl rfl rfl hg126) bd17 rfl rfl rfl ?_
                        clear hE hS hc_; rintro e w ⟨rfl, hS⟩; refine ⟨_, rfl, ?_⟩; clear a; intro a hE
                        refine WL.vS hS hE (runs_if hE rfl rfl rfl hg126) (Gives.p hE rfl) rfl ?_; clear hE a; intro a hE
                        refine WL.vS hS hE (runs_plain rfl) (Gives.pickT hE rfl hg126 rfl) rfl ?_; clear hE a; intro a hE
                        refine WL.vS hS hE (runs_plain rfl) (Gives.p hE rfl) rfl ?_; clear hE a; intro a hE
                        rcases Bool.eq_false_or_eq_true (q52.2.1 == q127) with hg129 | hg129
                        · replace hq113 := iteT hg129 hq113
                          refine WL.vS hS hE (runs_if hE rfl rfl rfl hg129) (Gives.p hE rfl) rfl ?_; clear hE a; intro a hE
                          obtain ⟨x130, hx131, hq113⟩ := bindS hq113
                          obtain ⟨hi132, hlt133, hy134⟩ := gx_some hx131
                          obtain ⟨cs135, hl136, hR137, hat138⟩ := h56.at hy134
                          subst hR137
                          refine WL.vS hS hE (runs_if hE rfl rfl rfl hg129) (Gives.idx hE ((0 : Int)).toNat rfl rfl sl29 hi132 hlt133 (h56.aok hlt133)) rfl ?_; clear hE a; intro a hE
                          refine WL.vS hS hE (runs_if hE rfl rfl rfl hg129) (Gives.load1 hE rfl (fun w h => hat138 w _ h) ty3) rfl ?_; clear hE a; intro a hE
                          refine WL.vS hS hE (runs_if hE rfl rfl rfl hg129) (Gives.p hE rfl) rfl ?_; clear hE a; intro a hE
                          refine WL.vS hS hE (runs_plain rfl) (Gives.pickT hE rfl hg129 rfl) rfl ?_; clear hE a; intro a hE
                          refine WL.vS hS hE (runs_plain rfl) (Gives.p hE rfl) rfl ?_; clear hE a; intro a hE
                          refine WL.nil ?_
                          subst hK118
                          exact ⟨(x130 == 0), Option.some.inj hq113, hE.pick _ ⟨rfl, trivial⟩, hS⟩
                        · replace hq113 := iteF hg129 hq113
                          refine WL.no hE (runs_not hE rfl rfl rfl (by rw [hg129]; decide)) rfl ?_; clear hE a; intro a hE
                          refine WL.no hE (runs_not hE rfl rfl rfl (by rw [hg129]; decide)) rfl ?_; clear hE a; intro a hE
                          refine WL.no hE (runs_not hE rfl rfl rfl (by rw [hg129]; decide)) rfl ?_; clear hE a; intro a hE
                          refine WL.no hE (runs_not hE rfl rfl rfl (by rw [hg129]; decide)) rfl ?_; clear hE a; intro a hE
                          refine WL.vS hS hE (runs_plain rfl) (Gives.pickF hE rfl hg129 rfl) rfl ?_; clear hE a; intro a hE
                          refine WL.vS hS hE (runs_plain rfl) (Gives.p hE rfl) rfl ?_; clear hE a; intro a hE
                          refine WL.nil ?_
                          subst hK118
                          exact ⟨false, Option.some.inj hq113, hE.pick _ ⟨rfl, trivial⟩, hS⟩
                      · replace hq113 := iteF hg126 hq113
                        refine WL.no hE (runs_not hE rfl rfl rfl (by rw [hg126]; decide)) rfl ?_; clear hE a; intro a hE
                        refine WL.no hE (runs_not hE rfl rfl rfl (by rw [hg126]; decide)) rfl ?_; clear hE a; intro a hE
                        refine WL.no hE (runs_not hE rfl rfl rfl (by rw [hg126]; decide)) rfl ?_; clear hE a; intro a hE
                        refine WL.no hE (runs_not hE rfl rfl rfl (by rw [hg126]; decide)) rfl ?_; clear hE a; intro a hE
                        refine WL.no hE (runs_not hE rfl rfl rfl (by rw [hg126]; decide)) rfl ?_; clear hE a; intro a hE
                        refine WL.vS hS hE (runs_plain rfl) (Gives.pickF hE rfl hg126 rfl) rfl ?_; clear hE a; intro a hE
                        refine WL.vS hS hE (runs_plain rfl) (Gives.p hE rfl) rfl ?_; clear hE a; intro a hE
                        refine WL.no hE (runs_not hE rfl rfl rfl (by decide)) rfl ?_; clear hE a; intro a hE
                        refine WL.no hE (runs_not hE rfl rfl rfl (by decide)) rfl ?_; clear hE a; intro a hE
                        refine WL.no hE (runs_not hE rfl rfl rfl (by decide)) rfl ?_; clear hE a; intro a hE
                        refine WL.no hE (runs_not hE rfl rfl rfl (by decide)) rfl ?_; clear hE a; intro a hE
                        refine WL.vS hS hE (runs_plain rfl) (Gives.pickF hE rfl rfl rfl) rfl ?_; clear hE a; intro a hE
                        refine WL.vS hS hE (runs_plain rfl) (Gives.p hE rfl) rfl ?_; clear hE a; intro a hE
                        refine WL.nil ?_
                        subst hK118
                        exact ⟨false, Option.some.inj hq113, hE.pick _ ⟨rfl, trivial⟩, hS⟩
                    · replace hq113 := iteF hg123 hq113
                      refine WL.no hE (runs_not hE rfl rfl rfl (by rw [hg123]; decide)) rfl ?_; clear hE a; intro a hE
                      refine WL.no hE (runs_not hE rfl rfl rfl (by rw [hg123]; decide)) rfl ?_; clear hE a; intro a hE
                      refine WL.no hE (runs_not hE rfl rfl rfl (by rw [hg123]; decide)) rfl ?_; clear hE a; intro a hE
                      refine WL.no hE (runs_not hE rfl rfl rfl (by rw [hg123]; decide)) rfl ?_; clear hE a; intro a hE
                      refine WL.vS hS hE (runs_plain rfl) (Gives.pickF hE rfl hg123 rfl) rfl ?_; clear hE a; intro a hE
                      refine WL.vS hS hE (runs_plain rfl) (Gives.p hE rfl) rfl ?_; clear hE a; intro a hE
                      refine WL.no hE (runs_not hE rfl rfl rfl (by decide)) rfl ?_; clear hE a; intro a hE
                      refine WL.no hE (runs_not hE rfl rfl rfl (by decide)) rfl ?_; clear hE a; intro a hE
                      refine WL.no hE (runs_not hE rfl rfl rfl (by decide)) rfl ?_; clear hE a; intro a hE
                      refine WL.no hE (runs_not hE rfl rfl rfl (by decide)) rfl ?_; clear hE a; intro a hE
                      refine WL.no hE (runs_not hE rfl rfl rfl (by decide)) rfl ?_; clear hE a; intro a hE
                      refine WL.vS hS hE (runs_plain rfl) (Gives.pickF hE rfl rfl rfl) rfl ?_; clear hE a; intro a hE
                      refine WL.vS hS hE (runs_plain rfl) (Gives.p hE rfl) rfl ?_; clear hE a; intro a hE
                      refine WL.no hE (runs_not hE rfl rfl rfl (by decide)) rfl ?_; clear hE a; intro a hE
                      refine WL.no hE (runs_not hE rfl rfl rfl (by decide)) rfl ?_; clear hE a; intro a hE
                      refine WL.no hE (runs_not hE rfl rfl rfl (by decide)) rfl ?_; clear hE a; intro a hE
                      refine WL.no hE (runs_not hE rfl rfl rfl (by decide)) rfl ?_; clear hE a; intro a hE
                      refine WL.vS hS hE (runs_plain rfl) (Gives.pickF hE rfl rfl rfl) rfl ?_; clear hE a; intro a hE
                      refine WL.vS hS hE (runs_plain rfl) (Gives.p hE rfl) rfl ?_; clear hE a; intro a hE
                      refine WL.nil ?_
                      subst hK118
                      exact ⟨false, Option.some.inj hq113, hE.pick _ ⟨rfl, trivial⟩, hS⟩
                  · replace hq113 := iteF hg122 hq113
                    refine WL.no hE (runs_not hE rfl rfl rfl (by rw [hg122]; decide)) rfl ?_; clear hE a; intro a hE
                    refine WL.no hE (runs_not hE rfl rfl rfl (by rw [hg122]; decide)) rfl ?_; clear hE a; intro a hE
                    refine WL.no hE (runs_not hE rfl rfl rfl (by rw [hg122]; decide)) rfl ?_; clear hE a; intro a hE
                    refine WL.no hE (runs_not hE rfl rfl rfl (by rw [hg122]; decide)) rfl ?_; clear hE a; intro a hE
                    refine WL.vS hS hE (runs_plain rfl) (Gives.pickF hE rfl hg122 rfl) rfl ?_; clear hE a; intro a hE
                    refine WL.vS hS hE (runs_plain rfl) (Gives.p hE rfl) rfl ?_; clear hE a; intro a hE
                    refine WL.no hE (runs_not hE rfl rfl rfl (by decide)) rfl ?_; clear hE a; intro a hE
                    refine WL.no hE (runs_not hE rfl rfl rfl (by decide)) rfl ?_; clear hE a; intro a hE
                    refine WL.no hE (runs_not hE rfl rfl rfl (by decide)) rfl ?_; clear hE a; intro a hE
                    refine WL.no hE (runs_not hE rfl rfl rfl (by decide)) rfl ?_; clear hE a; intro a hE
                    refine WL.vS hS hE (runs_plain rfl) (Gives.pickF hE rfl rfl rfl) rfl ?_; clear hE a; intro a hE
                    refine WL.vS hS hE (runs_plain rfl) (Gives.p hE rfl) rfl ?_; clear hE a; intro a hE
                    refine WL.no hE (runs_not hE rfl rfl rfl (by decide)) rfl ?_; clear hE a; intro a hE
                    refine WL.no hE (runs_not hE rfl rfl rfl (by decide)) rfl ?_; clear hE a; intro a hE
                    refine WL.no hE (runs_not hE rfl rfl rfl (by decide)) rfl ?_; clear hE a; intro a hE
                    refine WL.no hE (runs_not hE rfl rfl rfl (by decide)) rfl ?_; clear hE a; intro a hE
                    refine WL.no hE (runs_not hE rfl rfl rfl (by decide)) rfl ?_; clear hE a; intro a hE
                    refine WL.vS hS hE (runs_plain rfl) (Gives.pickF hE rfl rfl rfl) rfl ?_; clear hE a; intro a hE
                    refine WL.vS hS hE (runs_plain rfl) (Gives.p hE rfl) rfl ?_; clear hE a; intro a hE
                    refine WL.no hE (runs_not hE rfl rfl rfl (by decide)) rfl ?_; clear hE a; intro a hE
                    refine WL.no hE (runs_not hE rfl rfl rfl (by decide)) rfl ?_; clear hE a; intro a hE
                    refine WL.no hE (runs_not hE rfl rfl rfl (by decide)) rfl ?_; clear hE a; intro a hE
                    refine WL.no hE (runs_not hE rfl rfl rfl (by decide)) rfl ?_; clear hE a; intro a hE
                    refine WL.vS hS hE (runs_plain rfl) (Gives.pickF hE rfl rfl rfl) rfl ?_; clear hE a; intro a hE
                    refine WL.vS hS hE (runs_plain rfl) (Gives.p hE rfl) rfl ?_; clear hE a; intro a hE
                    refine WL.nil ?_
                    subst hK118
                    exact ⟨false, Option.some.inj hq113, hE.pick _ ⟨rfl, trivial⟩, hS⟩
                · replace hq113 := iteF hg121 hq113
                  refine WL.no hE (runs_not hE rfl rfl rfl (by rw [hg121]; decide)) rfl ?_; clear hE a; intro a hE
                  refine WL.no hE (runs_not hE rfl rfl rfl (by rw [hg121]; decide)) rfl ?_; clear hE a; intro a hE
                  refine WL.vS hS hE (runs_plain rfl) (Gives.pickF hE rfl hg121 rfl) rfl ?_; clear hE a; intro a hE
                  refine WL.vS hS hE (runs_plain rfl) (Gives.p hE rfl) rfl ?_; clear hE a; intro a hE
                  refine WL.no hE (runs_not hE rfl rfl rfl (by decide)) rfl ?_; clear hE a; intro a hE
                  refine WL.no hE (runs_not hE rfl rfl rfl (by decide)) rfl ?_; clear hE a; intro a hE
                  refine WL.no hE (runs_not hE rfl rfl rfl (by decide)) rfl ?_; clear hE a; intro a hE
                  refine WL.no hE (runs_not hE rfl rfl rfl (by decide)) rfl ?_; clear hE a; intro a hE
                  refine WL.vS hS hE (runs_plain rfl) (Gives.pickF hE rfl rfl rfl) rfl ?_; clear hE a; intro a hE
                  refine WL.vS hS hE (runs_plain rfl) (Gives.p hE rfl) rfl ?_; clear hE a; intro a hE
                  refine WL.no hE (runs_not hE rfl rfl rfl (by decide)) rfl ?_; clear hE a; intro a hE
                  refine WL.no hE (runs_not hE rfl rfl rfl (by decide)) rfl ?_; clear hE a; intro a hE
                  refine WL.no hE (runs_not hE rfl rfl rfl (by decide)) rfl ?_; clear hE a; intro a hE
                  refine WL.no hE (runs_not hE rfl rfl rfl (by decide)) rfl ?_; clear hE a; intro a hE
                  refine WL.vS hS hE (runs_plain rfl) (Gives.pickF hE rfl rfl rfl) rfl ?_; clear hE a; intro a hE
                  refine WL.vS hS hE (runs_plain rfl) (Gives.p hE rfl) rfl ?_; clear hE a; intro a hE
                  refine WL.no hE (runs_not hE rfl rfl rfl (by decide)) rfl ?_; clear hE a; intro a hE
                  refine WL.no hE (runs_not hE rfl rfl rfl (by decide)) rfl ?_; clear hE a; intro a hE
                  refine WL.no hE (runs_not hE rfl rfl rfl (by decide)) rfl ?_; clear hE a; intro a hE
                  refine WL.no hE (runs_not hE rfl rfl rfl (by decide)) rfl ?_; clear hE a; intro a hE
                  refine WL.no hE (runs_not hE rfl rfl rfl (by decide)) rfl ?_; clear hE a; intro a hE
                  refine WL.vS hS hE (runs_plain rfl) (Gives.pickF hE rfl rfl rfl) rfl ?_; clear hE a; intro a hE
                  refine WL.vS hS hE (runs_plain rfl) (Gives.p hE rfl) rfl ?_; clear hE a; intro a hE
                  refine WL.no hE (runs_not hE rfl rfl rfl (by decide)) rfl ?_; clear hE a; intro a hE
                  refine WL.no hE (runs_not hE rfl rfl rfl (by decide)) rfl ?_; clear hE a; intro a hE
                  refine WL.no hE (runs_not hE rfl rfl rfl (by decide)) rfl ?_; clear hE a; intro a hE
                  refine WL.no hE (runs_not hE rfl rfl rfl (by decide)) rfl ?_; clear hE a; intro a hE
                  refine WL.vS hS hE (runs_plain rfl) (Gives.pickF hE rfl rfl rfl) rfl ?_; clear hE a; intro a hE
                  refine WL.vS hS hE (runs_plain rfl) (Gives.p hE rfl) rfl ?_; clear hE a; intro a hE
                  refine WL.nil ?_
                  subst hK118
                  exact ⟨false, Option.some.inj hq113, hE.pick _ ⟨rfl, trivial⟩, hS⟩
              · clear hE hS a w; rintro a w ⟨q117, rfl, hE, hS⟩
                refine W.ret ?_
                refine finG (fn := Try.f7) (rs := [.tmp 2]) (vs := [_]) hE rfl ⟨rfl, trivial⟩ ?_
                obtain rfl := Option.some.inj hr
                replace hS := hS.tail
                exact ⟨rfl, (hS.down (Sg.Le.trans hle58 hle97))⟩
          · replace hr := iteF hc92 hr
            refine W.skip ?_
            refine W.seq ?_
            refine W.region ?_
            refine WL.vS hS hE (runs_plain rfl) (Gives.loadBA hE 0 rfl rfl ty24) rfl ?_; clear hE a; intro a hE
            obtain ⟨q139, hq140, hr⟩ := bindS hr
            have hc_ := Fishref2BestOfRules_ok hS h0_0 hq140
            refine WL.fnq hE (hc_) (runs_plain rfl) bd26 rfl rfl rfl ?_
            clear hE hS hc_; rintro e w ⟨a141, c142, s144, rfl, hle145, h143, hS⟩; refine ⟨_, rfl, ?_⟩; clear a; intro a hE
            replace h56 := Sl.mono RI.mono hle145 h56
            replace h0_0 := Sl.mono RPlanRule.mono hle145 h0_0
            refine WL.vS hS hE (runs_plain rfl) (Gives.p hE rfl) rfl ?_; clear hE a; intro a hE
            refine WL.vS hS hE (runs_plain rfl) (Gives.p hE rfl) rfl ?_; clear hE a; intro a hE
            refine WL.vS hS hE (runs_plain rfl) (Gives.p hE rfl) rfl ?_; clear hE a; intro a hE
            refine WL.vS hS hE (runs_plain rfl) (Gives.p hE rfl) rfl ?_; clear hE a; intro a hE
            refine WL.vS hS hE (runs_plain rfl) (Gives.p hE rfl) rfl ?_; clear hE a; intro a hE
            refine WL.vS hS hE (runs_plain rfl) (Gives.p hE rfl) rfl ?_; clear hE a; intro a hE
            refine WL.vS hS hE (runs_plain rfl) (Gives.p hE rfl) rfl ?_; clear hE a; intro a hE
            refine WL.nil ?_
            refine W.seq ?_
            refine W.seq ?_
            refine W.region ?_
            refine WL.vS hS hE (runs_plain rfl) (Gives.p hE rfl) rfl ?_; clear hE a; intro a hE
            refine WL.vS hS hE (runs_plain rfl) (Gives.p hE rfl) rfl ?_; clear hE a; intro a hE
            refine WL.nil ?_
            refine W.cond hE rfl (fun hc146 => ?_) (fun hc146 => ?_)
            · replace hr := iteT hc146 hr
              refine W.seq ?_
              obtain ⟨q148, hq147, hr⟩ := bindS hr
              refine W.cut (fun a w => ∃ (q151 : Bool), q151 = q148 ∧ Rep a 137 [(2, .bool q151)] ∧ St w s144 (pt b51 (.cells #[.int .i64 x0.Period, .int .i64 x0.Events, .slice a0_0 x0.Rules.length c0_0] 24 (0, 0)) :: R)) ?_ ?_
              · refine W.gen fun K152 hK152 => ?_
                refine W.region ?_
                obtain ⟨q153, hq154, hq147⟩ := bindS hq147
                have hc_ := Fishlaw2periods_ok hS  hq154
                refine WL.fnq hE (hc_) (runs_plain rfl) bd9 rfl rfl rfl ?_
                clear hE hS hc_; rintro e w ⟨rfl, hS⟩; refine ⟨_, rfl, ?_⟩; clear a; intro a hE
                refine WL.vS hS hE (runs_plain rfl) (Gives.p hE rfl) rfl ?_; clear hE a; intro a hE
                rcases Bool.eq_false_or_eq_true q153 with hg155 | hg155
                · replace hq147 := iteT hg155 hq147
                  refine WL.vS hS hE (runs_if hE rfl rfl rfl hg155) (Gives.p hE rfl) rfl ?_; clear hE a; intro a hE
                  refine WL.vS hS hE (runs_if hE rfl rfl rfl hg155) (Gives.p hE rfl) rfl ?_; clear hE a; intro a hE
                  refine WL.vS hS hE (runs_plain rfl) (Gives.pickT hE rfl hg155 rfl) rfl ?_; clear hE a; intro a hE
                  refine WL.vS hS hE (runs_plain rfl) (Gives.p hE rfl) rfl ?_; clear hE a; intro a hE
                  rcases Bool.eq_false_or_eq_true (q52.2.2 == 9) with hg156 | hg156
                  · replace hq147 := iteT hg156 hq147
                    refine WL.vS hS hE (runs_if hE rfl rfl rfl hg156) (Gives.p hE rfl) rfl ?_; clear hE a; intro a hE
                    refine WL.vS hS hE (runs_if hE rfl rfl rfl hg156) (Gives.len hE rfl sl29) rfl ?_; clear hE a; intro a hE
                    refine WL.vS hS hE (runs_if hE rfl rfl rfl hg156) (Gives.p hE rfl) rfl ?_; clear hE a; intro a hE
                    refine WL.vS hS hE (runs_plain rfl) (Gives.pickT hE rfl hg156 rfl) rfl ?_; clear hE a; intro a hE
                    refine WL.vS hS hE (runs_plain rfl) (Gives.p hE rfl) rfl ?_; clear hE a; intro a hE
                    rcases Bool.eq_false_or_eq_true (((q52.1).length : Int) == 0) with hg157 | hg157
                    · replace hq147 := iteT hg157 hq147
                      refine WL.vS hS hE (runs_if hE rfl rfl rfl hg157) (Gives.p hE rfl) rfl ?_; clear hE a; intro a hE
                      refine WL.vS hS hE (runs_if hE rfl rfl rfl hg157) (Gives.p hE rfl) rfl ?_; clear hE a; intro a hE
                      refine WL.vS hS hE (runs_plain rfl) (Gives.pickT hE rfl hg157 rfl) rfl ?_; clear hE a; intro a hE
                      refine WL.vS hS hE (runs_plain rfl) (Gives.p hE rfl) rfl ?_; clear hE a; intro a hE
                      refine WL.nil ?_
                      subst hK152
                      exact ⟨(q52.2.1 == 0), Option.some.inj hq147, hE.pick _ ⟨rfl, trivial⟩, hS⟩
                    · replace hq147 := iteF hg157 hq147
                      refine WL.no hE (runs_not hE rfl rfl rfl (by rw [hg157]; decide)) rfl ?_; clear hE a; intro a hE
                      refine WL.no hE (runs_not hE rfl rfl rfl (by rw [hg157]; decide)) rfl ?_; clear hE a; intro a hE
                      refine WL.vS hS hE (runs_plain rfl) (Gives.pickF hE rfl hg157 rfl) rfl ?_; clear hE a; intro a hE
                      refine WL.vS hS hE (runs_plain rfl) (Gives.p hE rfl) rfl ?_; clear hE a; intro a hE
                      refine WL.nil ?_
                      subst hK152
                      exact ⟨false, Option.some.inj hq147, hE.pick _ ⟨rfl, trivial⟩, hS⟩
                  · replace hq147 := iteF hg156 hq147
                    refine WL.no hE (runs_not hE rfl rfl rfl (by rw [hg156]; decide)) rfl ?_; clear hE a; intro a hE
                    refine WL.no hE (runs_not hE rfl rfl rfl (by rw [hg156]; decide)) rfl ?_; clear hE a; intro a hE
                    refine WL.no hE (runs_not hE rfl rfl rfl (by rw [hg156]; decide)) rfl ?_; clear hE a; intro a hE
                    refine WL.vS hS hE (runs_plain rfl) (Gives.pickF hE rfl hg156 rfl) rfl ?_; clear hE a; intro a hE
                    refine WL.vS hS hE (runs_plain rfl) (Gives.p hE rfl) rfl ?_; clear hE a; intro a hE
                    refine WL.no hE (runs_not hE rfl rfl rfl (by decide)) rfl ?_; clear hE a; intro a hE
                    refine WL.no hE (runs_not hE rfl rfl rfl (by decide)) rfl ?_; clear hE a; intro a hE
                    refine WL.vS hS hE (runs_plain rfl) (Gives.pickF hE rfl rfl rfl) rfl ?_; clear hE a; intro a hE
                    refine WL.vS hS hE (runs_plain rfl) (Gives.p hE rfl) rfl ?_; clear hE a; intro a hE
                    refine WL.nil ?_
                    subst hK152
                    exact ⟨false, Option.some.inj hq147, hE.pick _ ⟨rfl, trivial⟩, hS⟩
                · replace hq147 := iteF hg155 hq147
                  refine WL.no hE (runs_not hE rfl rfl rfl (by rw [hg155]; decide)) rfl ?_; clear hE a; intro a hE
                  refine WL.no hE (runs_not hE rfl rfl rfl (by rw [hg155]; decide)) rfl ?_; clear hE a; intro a hE
                  refine WL.vS hS hE (runs_plain rfl) (Gives.pickF hE rfl hg155 rfl) rfl ?_; clear hE a; intro a hE
                  refine WL.vS hS hE (runs_plain rfl) (Gives.p hE rfl) rfl ?_; clear hE a; intro a hE
                  refine WL.no hE (runs_not hE rfl rfl rfl (by decide)) rfl ?_; clear hE a; intro a hE
                  refine WL.no hE (runs_not hE rfl rfl rfl (by decide)) rfl ?_; clear hE a; intro a hE
                  refine WL.no hE (runs_not hE rfl rfl rfl (by decide)) rfl ?_; clear hE a; intro a hE
                  refine WL.vS hS hE (runs_plain rfl) (Gives.pickF hE rfl rfl rfl) rfl ?_; clear hE a; intro a hE
                  refine WL.vS hS hE (runs_plain rfl) (Gives.p hE rfl) rfl ?_; clear hE a; intro a hE
                  refine WL.no hE (runs_not hE rfl rfl rfl (by decide)) rfl ?_; clear hE a; intro a hE
                  refine WL.no hE (runs_not hE rfl rfl rfl (by decide)) rfl ?_; clear hE a; intro a hE
                  refine WL.vS hS hE (runs_plain rfl) (Gives.pickF hE rfl rfl rfl) rfl ?_; clear hE a; intro a hE
                  refine WL.vS hS hE (runs_plain rfl) (Gives.p hE rfl) rfl ?_; clear hE a; intro a hE
                  refine WL.nil ?_
                  subst hK152
                  exact ⟨false, Option.some.inj hq147, hE.pick _ ⟨rfl, trivial⟩, hS⟩
              · clear hE hS a w; rintro a w ⟨q151, rfl, hE, hS⟩
                refine W.ret ?_
                refine finG (fn := Try.f7) (rs := [.tmp 2]) (vs := [_]) hE rfl ⟨rfl, trivial⟩ ?_
                obtain rfl := Option.some.inj hr
                replace hS := hS.tail
                exact ⟨rfl, (hS.down (Sg.Le.trans hle58 hle145))⟩
            · replace hr := iteF hc146 hr
              refine W.skip ?_
              refine W.seq ?_
              obtain ⟨q159, hq158, hr⟩ := bindS hr
              refine W.cut (fun a w => ∃ (q162 : Bool), q162 = q159 ∧ Rep a 137 [(2, .bool q162)] ∧ St w s144 (pt b51 (.cells #[.int .i64 x0.Period, .int .i64 x0.Events, .slice a0_0 x0.Rules.length c0_0] 24 (0, 0)) :: R)) ?_ ?_
              · refine W.gen fun K163 hK163 => ?_
                refine W.region ?_
                obtain ⟨q164, hq165, hq158⟩ := bindS hq158
                have hc_ := Fishlaw2periods_ok hS  hq165
                refine WL.fnq hE (hc_) (runs_plain rfl) bd9 rfl rfl rfl ?_
                clear hE hS hc_; rintro e w ⟨rfl, hS⟩; refine ⟨_, rfl, ?_⟩; clear a; intro a hE
                refine WL.vS hS hE (runs_plain rfl) (Gives.p hE rfl) rfl ?_; clear hE a; intro a hE
                rcases Bool.eq_false_or_eq_true q164 with hg166 | hg166
                · replace hq158 := iteT hg166 hq158
                  refine WL.vS hS hE (runs_if hE rfl rfl rfl hg166) (Gives.p hE rfl) rfl ?_; clear hE a; intro a hE
                  refine WL.vS hS hE (runs_if hE rfl rfl rfl hg166) (Gives.p hE rfl) rfl ?_; clear hE a; intro a hE
                  refine WL.vS hS hE (runs_plain rfl) (Gives.pickT hE rfl hg166 rfl) rfl ?_; clear hE a; intro a hE
                  refine WL.vS hS hE (runs_plain rfl) (Gives.p hE rfl) rfl ?_; clear hE a; intro a hE
                  rcases Bool.eq_false_or_eq_true (q52.2.2 == 0) with hg167 | hg167
                  · replace hq158 := iteT hg167 hq158
                    refine WL.vS hS hE (runs_if hE rfl rfl rfl hg167) (Gives.p hE rfl) rfl ?_; clear hE a; intro a hE
                    refine WL.vS hS hE (runs_if hE rfl rfl rfl hg167) (Gives.p hE rfl) rfl ?_; clear hE a; intro a hE
                    obtain ⟨q168, hq169, hq158⟩ := bindS hq158
                    have hc_ := SlicesEqualLint_ok hS h56 h143 hq169
                    refine WL.fnq hE (hc_) (runs_if hE rfl rfl rfl hg167) bd21 rfl rfl rfl ?_
                    clear hE hS hc_; rintro e w ⟨rfl, hS⟩; refine ⟨_, rfl, ?_⟩; clear a; intro a hE
                    refine WL.vS hS hE (runs_plain rfl) (Gives.pickT hE rfl hg167 rfl) rfl ?_; clear hE a; intro a hE
                    refine WL.vS hS hE (runs_plain rfl) (Gives.p hE rfl) rfl ?_; clear hE a; intro a hE
                    rcases Bool.eq_false_or_eq_true q168 with hg170 | hg170
                    · replace hq158 := iteT hg170 hq158
                      refine WL.vS hS hE (runs_if hE rfl rfl rfl hg170) (Gives.p hE rfl) rfl ?_; clear hE a; intro a hE
                      refine WL.vS hS hE (runs_if hE rfl rfl rfl hg170) (Gives.p hE rfl) rfl ?_; clear hE a; intro a hE
                      refine WL.vS hS hE (runs_if hE rfl rfl rfl hg170) (Gives.p hE rfl) rfl ?_; clear hE a; intro a hE
                      refine WL.vS hS hE (runs_plain rfl) (Gives.pickT hE rfl hg170 rfl) rfl ?_; clear hE a; intro a hE
                      refine WL.vS hS hE (runs_plain rfl) (Gives.p hE rfl) rfl ?_; clear hE a; intro a hE
                      refine WL.nil ?_
                      subst hK163
                      exact ⟨(q52.2.1 == q139.2.1), Option.some.inj hq158, hE.pick _ ⟨rfl, trivial⟩, hS⟩
                    · replace hq158 := iteF hg170 hq158
                      refine WL.no hE (runs_not hE rfl rfl rfl (by rw [hg170]; decide)) rfl ?_; clear hE a; intro a hE
                      refine WL.no hE (runs_not hE rfl rfl rfl (by rw [hg170]; decide)) rfl ?_; clear hE a; intro a hE
                      refine WL.no hE (runs_not hE rfl rfl rfl (by rw [hg170]; decide)) rfl ?_; clear hE a; intro a hE
                      refine WL.vS hS hE (runs_plain rfl) (Gives.pickF hE rfl hg170 rfl) rfl ?_; clear hE a; intro a hE
                      refine WL.vS hS hE (runs_plain rfl) (Gives.p hE rfl) rfl ?_; clear hE a; intro a hE
                      refine WL.nil ?_
                      subst hK163
                      exact ⟨false, Option.some.inj hq158, hE.pick _ ⟨rfl, trivial⟩, hS⟩
                  · replace hq158 := iteF hg167 hq158
                    refine WL.no hE (runs_not hE rfl rfl rfl (by rw [hg167]; decide)) rfl ?_; clear hE a; intro a hE
                    refine WL.no hE (runs_not hE rfl rfl rfl (by rw [hg167]; decide)) rfl ?_; clear hE a; intro a hE
                    refine WL.no hE (runs_not hE rfl rfl rfl (by rw [hg167]; decide)) rfl ?_; clear hE a; intro a hE
                    refine WL.vS hS hE (runs_plain rfl) (Gives.pickF hE rfl hg167 rfl) rfl ?_; clear hE a; intro a hE
                    refine WL.vS hS hE (runs_plain rfl) (Gives.p hE rfl) rfl ?_; clear hE a; intro a hE
                    refine WL.no hE (runs_not hE rfl rfl rfl (by decide)) rfl ?_; clear hE a; intro a hE
                    refine WL.no hE (runs_not hE rfl rfl rfl (by decide)) rfl ?_; clear hE a; intro a hE
                    refine WL.no hE (runs_not hE rfl rfl rfl (by decide)) rfl ?_; clear hE a; intro a hE
                    refine WL.vS hS hE (runs_plain rfl) (Gives.pickF hE rfl rfl rfl) rfl ?_; clear hE a; intro a hE
                    refine WL.vS hS hE (runs_plain rfl) (Gives.p hE rfl) rfl ?_; clear hE a; intro a hE
                    refine WL.nil ?_
                    subst hK163
                    exact ⟨false, Option.some.inj hq158, hE.pick _ ⟨rfl, trivial⟩, hS⟩
                · replace hq158 := iteF hg166 hq158
                  refine WL.no hE (runs_not hE rfl rfl rfl (by rw [hg166]; decide)) rfl ?_; clear hE a; intro a hE
                  refine WL.no hE (runs_not hE rfl rfl rfl (by rw [hg166]; decide)) rfl ?_; clear hE a; intro a hE
                  refine WL.vS hS hE (runs_plain rfl) (Gives.pickF hE rfl hg166 rfl) rfl ?_; clear hE a; intro a hE
                  refine WL.vS hS hE (runs_plain rfl) (Gives.p hE rfl) rfl ?_; clear hE a; intro a hE
                  refine WL.no hE (runs_not hE rfl rfl rfl (by decide)) rfl ?_; clear hE a; intro a hE
                  refine WL.no hE (runs_not hE rfl rfl rfl (by decide)) rfl ?_; clear hE a; intro a hE
                  refine WL.no hE (runs_not hE rfl rfl rfl (by decide)) rfl ?_; clear hE a; intro a hE
                  refine WL.vS hS hE (runs_plain rfl) (Gives.pickF hE rfl rfl rfl) rfl ?_; clear hE a; intro a hE
                  refine WL.vS hS hE (runs_plain rfl) (Gives.p hE rfl) rfl ?_; clear hE a; intro a hE
                  refine WL.no hE (runs_not hE rfl rfl rfl (by decide)) rfl ?_; clear hE a; intro a hE
                  refine WL.no hE (runs_not hE rfl rfl rfl (by decide)) rfl ?_; clear hE a; intro a hE
                  refine WL.no hE (runs_not hE rfl rfl rfl (by decide)) rfl ?_; clear hE a; intro a hE
                  refine WL.vS hS hE (runs_plain rfl) (Gives.pickF hE rfl rfl rfl) rfl ?_; clear hE a; intro a hE
                  refine WL.vS hS hE (runs_plain rfl) (Gives.p hE rfl) rfl ?_; clear hE a; intro a hE
                  refine WL.nil ?_
                  subst hK163
                  exact ⟨false, Option.some.inj hq158, hE.pick _ ⟨rfl, trivial⟩, hS⟩
              · clear hE hS a w; rintro a w ⟨q162, rfl, hE, hS⟩
                refine W.ret ?_
                refine finG (fn := Try.f7) (rs := [.tmp 2]) (vs := [_]) hE rfl ⟨rfl, trivial⟩ ?_
                obtain rfl := Option.some.inj hr
                replace hS := hS.tail
                exact ⟨rfl, (hS.down (Sg.Le.trans hle58 hle145))⟩
end Go.Proofs.Ytffleanbfkjfiaa
