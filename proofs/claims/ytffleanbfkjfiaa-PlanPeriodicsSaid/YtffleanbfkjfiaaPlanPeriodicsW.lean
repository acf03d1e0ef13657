/- The walks of the functions that PlanPeriodics reaches: each call comes to what its mirror says. The conditions are those of each contract. -/
import Derived.Test.YtffleanbfkjfiaaProg
import Derived.Test.YtffleanbfkjfiaaPlanPeriodicsM
import Derived.Test.YtffleanbfkjfiaaFpMore
import Derived.Test.YtffleanbfkjfiaaPlanPeriodicsW1
namespace Go.Proofs.Ytffleanbfkjfiaa
open Go Go.Fp
set_option maxHeartbeats 8000000 in
theorem Fishref2PeriodicFault_ok  {w : World} {s : Sg} {R : List HP} {x0 : PlanPeriodic} {a0_0 : Option Addr} {c0_0 : Nat} (hS : St w s (R)) (h0_0 : Sl 5 RPlanRule s a0_0 c0_0 x0.Rules) {r : Int} (hr : Fishref2PeriodicFault x0 = r) :
    Calls Try.prog 11 [.agg [.int .i64 x0.Period, .int .i64 x0.Events, .slice a0_0 x0.Rules.length c0_0].toArray].toArray w (fun e w => e = .returned (.int .i64 r) ∧ St w s (R)) := by
  refine enter Try.func11 rfl rfl rfl fun a hE => ?_
  rw [Fishref2PeriodicFault] at hr
  refine W.seq ?_
  refine W.region ?_
  refine WL.box hE hS (runs_plain rfl) rfl rfl rfl ?_; clear hE hS a w; intro b51 a w hE hS
  refine WL.vS hS hE (runs_plain rfl) (Gives.p hE rfl) rfl ?_; clear hE a; intro a hE
  refine WL.nil ?_
  refine W.seq ?_
  refine W.seq ?_
  obtain ⟨q53, hq52, hr⟩ := bndS hr
  refine W.cut (fun a w => ∃ (q56 : Bool), q56 = q53 ∧ Rep a 79 [(1, .pointer (some ⟨b51, 0, none⟩)), (14, .bool q56)] ∧ St w s (pt b51 (.cells #[.int .i64 x0.Period, .int .i64 x0.Events, .slice a0_0 x0.Rules.length c0_0] 24 (0, 0)) :: R)) ?_ ?_
  · refine W.gen fun K57 hK57 => ?_
    refine W.region ?_
    refine WL.vS hS hE (runs_plain rfl) (Gives.fld hE rfl fl24_0) rfl ?_; clear hE a; intro a hE
    refine WL.vS hS hE (runs_plain rfl) (Gives.loadB hE 0 rfl rfl rfl ty3) rfl ?_; clear hE a; intro a hE
    refine WL.fnq hE (Fishref2within_ok hS  rfl (r := Fishref2within x0.Period 2 3600)) (runs_plain rfl) bd36 rfl rfl rfl ?_
    clear hE hS; rintro e w ⟨rfl, hS⟩; refine ⟨_, rfl, ?_⟩; clear a; intro a hE
    refine WL.vS hS hE (runs_plain rfl) (Gives.p hE rfl) rfl ?_; clear hE a; intro a hE
    refine WL.vS hS hE (runs_plain rfl) (Gives.p hE rfl) rfl ?_; clear hE a; intro a hE
    rcases Bool.eq_false_or_eq_true (!(Fishref2within x0.Period 2 3600)) with hg58 | hg58
    · replace hq52 := iteT hg58 hq52
      refine WL.no hE (runs_not hE rfl rfl rfl (by rw [hg58]; decide)) rfl ?_; clear hE a; intro a hE
      refine WL.no hE (runs_not hE rfl rfl rfl (by rw [hg58]; decide)) rfl ?_; clear hE a; intro a hE
      refine WL.no hE (runs_not hE rfl rfl rfl (by rw [hg58]; decide)) rfl ?_; clear hE a; intro a hE
      refine WL.no hE (runs_not hE rfl rfl rfl (by rw [hg58]; decide)) rfl ?_; clear hE a; intro a hE
      refine WL.vS hS hE (runs_plain rfl) (Gives.pickT hE rfl hg58 rfl) rfl ?_; clear hE a; intro a hE
      refine WL.nil ?_
      subst hK57
      exact ⟨true, hq52, hE.pick _ ⟨rfl, rfl, trivial⟩, hS⟩
    · replace hq52 := iteF hg58 hq52
      refine WL.vS hS hE (runs_if hE rfl rfl rfl hg58) (Gives.fld hE rfl fl24_1) rfl ?_; clear hE a; intro a hE
      refine WL.vS hS hE (runs_if hE rfl rfl rfl hg58) (Gives.loadB hE 0 rfl rfl rfl ty3) rfl ?_; clear hE a; intro a hE
      refine WL.fnq hE (Fishref2within_ok hS  rfl (r := Fishref2within x0.Events 1 8)) (runs_if hE rfl rfl rfl hg58) bd36 rfl rfl rfl ?_
      clear hE hS; rintro e w ⟨rfl, hS⟩; refine ⟨_, rfl, ?_⟩; clear a; intro a hE
      refine WL.vS hS hE (runs_if hE rfl rfl rfl hg58) (Gives.p hE rfl) rfl ?_; clear hE a; intro a hE
      refine WL.vS hS hE (runs_plain rfl) (Gives.pickF hE rfl hg58 rfl) rfl ?_; clear hE a; intro a hE
      refine WL.nil ?_
      subst hK57
      exact ⟨!(Fishref2within x0.Events 1 8), hq52, hE.pick _ ⟨rfl, rfl, trivial⟩, hS⟩
  · clear hE hS a w; rintro a w ⟨q56, rfl, hE, hS⟩
    refine W.cond hE rfl (fun hc59 => ?_) (fun hc59 => ?_)
    · replace hr := iteT hc59 hr
      refine W.seq ?_
      refine W.region ?_
      refine WL.vS hS hE (runs_plain rfl) (Gives.p hE rfl) rfl ?_; clear hE a; intro a hE
      refine WL.nil ?_
      refine W.ret ?_
      refine finG (fn := Try.f11) (rs := [.tmp 2]) (vs := [_]) hE rfl ⟨rfl, trivial⟩ ?_
      subst hr
      replace hS := hS.tail
      exact ⟨rfl, hS⟩
    · replace hr := iteF hc59 hr
      refine W.skip ?_
      refine W.seq ?_
      refine W.seq ?_
      refine W.region ?_
      refine WL.vS hS hE (runs_plain rfl) (Gives.fld hE rfl fl24_2) rfl ?_; clear hE a; intro a hE
      refine WL.vS hS hE (runs_plain rfl) (Gives.loadB hE 0 rfl rfl rfl ty22) rfl ?_; clear hE a; intro a hE
      refine WL.vS hS hE (runs_plain rfl) (Gives.len hE rfl sl22) rfl ?_; clear hE a; intro a hE
      refine WL.vS hS hE (runs_plain rfl) (Gives.p hE rfl) rfl ?_; clear hE a; intro a hE
      refine WL.nil ?_
      refine W.cond hE rfl (fun hc60 => ?_) (fun hc60 => ?_)
      · replace hr := iteT hc60 hr
        refine W.seq ?_
        refine W.region ?_
        refine WL.vS hS hE (runs_plain rfl) (Gives.p hE rfl) rfl ?_; clear hE a; intro a hE
        refine WL.nil ?_
        refine W.ret ?_
        refine finG (fn := Try.f11) (rs := [.tmp 2]) (vs := [_]) hE rfl ⟨rfl, trivial⟩ ?_
        subst hr
        replace hS := hS.tail
        exact ⟨rfl, hS⟩
      · replace hr := iteF hc60 hr
        refine W.skip ?_
        refine W.seq ?_
        refine W.seq ?_
        refine W.region ?_
        refine WL.vS hS hE (runs_plain rfl) (Gives.fld hE rfl fl24_2) rfl ?_; clear hE a; intro a hE
        refine WL.vS hS hE (runs_plain rfl) (Gives.loadB hE 0 rfl rfl rfl ty22) rfl ?_; clear hE a; intro a hE
        refine WL.vS hS hE (runs_plain rfl) (Gives.len hE rfl sl22) rfl ?_; clear hE a; intro a hE
        refine WL.vS hS hE (runs_plain rfl) (Gives.p hE rfl) rfl ?_; clear hE a; intro a hE
        refine WL.nil ?_
        obtain ⟨q62, hq61, hr⟩ := bndS hr
        refine W.cut (fun a w => (.next ()) = q62 ∧ Rep a 79 [] ∧ St w s (pt b51 (.cells #[.int .i64 x0.Period, .int .i64 x0.Events, .slice a0_0 x0.Rules.length c0_0] 24 (0, 0)) :: R)) ?_ ?_
        · refine W.block ?_
          refine W.loop (fun m a w => ∃ (rest65 : List PlanRule) (k63 : Nat), rest65.length = m ∧ x0.Rules.drop k63 = rest65 ∧ Fishref2PeriodicFault.loop1 x0 rest65 = q62 ∧ Rep a 79 [(1, .pointer (some ⟨b51, 0, none⟩)), (20, .slice a0_0 x0.Rules.length c0_0), (21, .int .i64 ((x0.Rules).length : Int)), (22, .int .i64 ((k63 : Nat) : Int))] ∧ St w s (pt b51 (.cells #[.int .i64 x0.Period, .int .i64 x0.Events, .slice a0_0 x0.Rules.length c0_0] 24 (0, 0)) :: R)) (m := x0.Rules.length) ⟨x0.Rules, 0, rfl, rfl, hq61, hE.pick _ ⟨rfl, rfl, rfl, rfl, trivial⟩, hS⟩ ?_
          clear hE hS a w hq61; rintro m69 a w ⟨rest65, k63, rfl, hd66, hq61, hE, hS⟩
          refine W.gen fun K72 hK72 => ?_
          rcases rest65 with _ | ⟨x64, rest65⟩
          · have hlt67 := drop_nil hd66
            refine W.seq ?_
            refine W.region ?_
            refine WL.vS hS hE (runs_plain rfl) (Gives.p hE rfl) rfl ?_; clear hE a; intro a hE
            refine WL.nil ?_
            refine W.seq ?_
            refine W.condF hE rfl (decide_eq_false (by omega)) ?_
            subst hK72
            refine W.exit rfl ?_
            exact ⟨hq61, hE.pick _ trivial, hS⟩
          · obtain ⟨hlt67, hx68, hd66⟩ := drop_cons hd66
            rw [Fishref2PeriodicFault.loop1] at hq61
            refine W.seq ?_
            refine W.region ?_
            refine WL.vS hS hE (runs_plain rfl) (Gives.p hE rfl) rfl ?_; clear hE a; intro a hE
            refine WL.nil ?_
            refine W.seq ?_
            refine W.condT hE rfl (decide_eq_true (by omega)) ?_
            refine W.skip ?_
            refine W.seq ?_
            refine W.block ?_
            refine W.seq ?_
            refine W.region ?_
            obtain ⟨cs73, hl74, hR75, hat76⟩ := h0_0.at hx68
            subst hR75
            refine WL.vS hS hE (runs_plain rfl) (Gives.idx hE k63 rfl rfl sl22 rfl hlt67 (h0_0.aok hlt67)) rfl ?_; clear hE a; intro a hE
            refine WL.vS hS hE (runs_plain rfl) (Gives.loadA hE rfl (fun w h => hat76 w _ h) ty37) rfl ?_; clear hE a; intro a hE
            refine WL.alloc hE hS (runs_plain rfl) zr37 rfl ?_; clear hE hS a w; intro b77 a w hE hS
            refine WL.storeI hE hS 0 rfl (PlanRule.cells x64) (runs_plain rfl) rfl rfl rfl ty37 rfl rfl rfl rfl ?_; clear hE hS a w; intro a w hE hS
            refine WL.nil ?_
            refine W.block ?_
            refine W.seq ?_
            obtain ⟨q79, hq78, hq61⟩ := bndS hq61
            refine W.cut (fun a w => ∃ (q82 : Bool), q82 = q79 ∧ Rep a 79 [(1, .pointer (some ⟨b51, 0, none⟩)), (4, .pointer (some ⟨b77, 0, none⟩)), (20, .slice a0_0 x0.Rules.length c0_0), (21, .int .i64 ((x0.Rules).length : Int)), (22, .int .i64 ((k63 : Nat) : Int)), (26, .bool q82)] ∧ St w s (pt b77 (.cells (PlanRule.cells x64).toArray 37 (0, 0)) :: pt b51 (.cells #[.int .i64 x0.Period, .int .i64 x0.Events, .slice a0_0 x0.Rules.length c0_0] 24 (0, 0)) :: R)) ?_ ?_
            · refine W.gen fun K83 hK83 => ?_
              refine W.region ?_
              refine WL.vS hS hE (runs_plain rfl) (Gives.fld hE rfl fl37_0) rfl ?_; clear hE a; intro a hE
              refine WL.vS hS hE (runs_plain rfl) (Gives.loadB hE 0 rfl rfl rfl ty3) rfl ?_; clear hE a; intro a hE
              refine WL.vS hS hE (runs_plain rfl) (Gives.fld hE rfl fl24_1) rfl ?_; clear hE a; intro a hE
              refine WL.vS hS hE (runs_plain rfl) (Gives.loadB hE 1 rfl rfl rfl ty3) rfl ?_; clear hE a; intro a hE
              refine WL.vS hS hE (runs_plain rfl) (Gives.p hE rfl) rfl ?_; clear hE a; intro a hE
              refine WL.fnq hE (Fishref2within_ok hS  rfl (r := Fishref2within x64.From 0 (w64 (x0.Events - 1)))) (runs_plain rfl) bd36 rfl rfl rfl ?_
              clear hE hS; rintro e w ⟨rfl, hS⟩; refine ⟨_, rfl, ?_⟩; clear a; intro a hE
              refine WL.vS hS hE (runs_plain rfl) (Gives.p hE rfl) rfl ?_; clear hE a; intro a hE
              refine WL.vS hS hE (runs_plain rfl) (Gives.p hE rfl) rfl ?_; clear hE a; intro a hE
              rcases Bool.eq_false_or_eq_true (!(Fishref2within x64.From 0 (w64 (x0.Events - 1)))) with hg84 | hg84
              · replace hq78 := iteT hg84 hq78
                refine WL.no hE (runs_not hE rfl rfl rfl (by rw [hg84]; decide)) rfl ?_; clear hE a; intro a hE
                refine WL.no hE (runs_not hE rfl rfl rfl (by rw [hg84]; decide)) rfl ?_; clear hE a; intro a hE
                refine WL.no hE (runs_not hE rfl rfl rfl (by rw [hg84]; decide)) rfl ?_; clear hE a; intro a hE
                refine WL.no hE (runs_not hE rfl rfl rfl (by rw [hg84]; decide)) rfl ?_; clear hE a; intro a hE
                refine WL.no hE (runs_not hE rfl rfl rfl (by rw [hg84]; decide)) rfl ?_; clear hE a; intro a hE
                refine WL.no hE (runs_not hE rfl rfl rfl (by rw [hg84]; decide)) rfl ?_; clear hE a; intro a hE
                refine WL.no hE (runs_not hE rfl rfl rfl (by rw [hg84]; decide)) rfl ?_; clear hE a; intro a hE
                refine WL.vS hS hE (runs_plain rfl) (Gives.pickT hE rfl hg84 rfl) rfl ?_; clear hE a; intro a hE
                refine WL.vS hS hE (runs_plain rfl) (Gives.p hE rfl) rfl ?_; clear hE a; intro a hE
                refine WL.nil ?_
                subst hK83
                exact ⟨true, hq78, hE.pick _ ⟨rfl, rfl, rfl, rfl, rfl, rfl, trivial⟩, hS⟩
              · replace hq78 := iteF hg84 hq78
                refine WL.vS hS hE (runs_if hE rfl rfl rfl hg84) (Gives.fld hE rfl fl37_1) rfl ?_; clear hE a; intro a hE
                refine WL.vS hS hE (runs_if hE rfl rfl rfl hg84) (Gives.loadB hE 0 rfl rfl rfl ty3) rfl ?_; clear hE a; intro a hE
                refine WL.vS hS hE (runs_if hE rfl rfl rfl hg84) (Gives.fld hE rfl fl24_1) rfl ?_; clear hE a; intro a hE
                refine WL.vS hS hE (runs_if hE rfl rfl rfl hg84) (Gives.loadB hE 1 rfl rfl rfl ty3) rfl ?_; clear hE a; intro a hE
                refine WL.vS hS hE (runs_if hE rfl rfl rfl hg84) (Gives.p hE rfl) rfl ?_; clear hE a; intro a hE
                refine WL.fnq hE (Fishref2within_ok hS  rfl (r := Fishref2within x64.To 0 (w64 (x0.Events - 1)))) (runs_if hE rfl rfl rfl hg84) bd36 rfl rfl rfl ?_
                clear hE hS; rintro e w ⟨rfl, hS⟩; refine ⟨_, rfl, ?_⟩; clear a; intro a hE
                refine WL.vS hS hE (runs_if hE rfl rfl rfl hg84) (Gives.p hE rfl) rfl ?_; clear hE a; intro a hE
                refine WL.vS hS hE (runs_plain rfl) (Gives.pickF hE rfl hg84 rfl) rfl ?_; clear hE a; intro a hE
                refine WL.vS hS hE (runs_plain rfl) (Gives.p hE rfl) rfl ?_; clear hE a; intro a hE
                refine WL.nil ?_
                subst hK83
                exact ⟨!(Fishref2within x64.To 0 (w64 (x0.Events - 1))), hq78, hE.pick _ ⟨rfl, rfl, rfl, rfl, rfl, rfl, trivial⟩, hS⟩
            · clear hE hS a w; rintro a w ⟨q82, rfl, hE, hS⟩
              refine W.cond hE rfl (fun hc85 => ?_) (fun hc85 => ?_)
              · replace hq61 := iteT hc85 hq61
                refine W.seq ?_
                refine W.region ?_
                refine WL.vS hS hE (runs_plain rfl) (Gives.p hE rfl) rfl ?_; clear hE a; intro a hE
                refine WL.nil ?_
                refine W.ret ?_
                subst hK72
                rw [← hq61] at hr
                dsimp only at hr
                refine finG (fn := Try.f11) (rs := [.tmp 2]) (vs := [_]) hE rfl ⟨rfl, trivial⟩ ?_
                subst hr
                replace hS := hS.tail
                replace hS := hS.tail
                exact ⟨rfl, hS⟩
              · replace hq61 := iteF hc85 hq61
                refine W.seq ?_
                refine W.region ?_
                refine WL.vS hS hE (runs_plain rfl) (Gives.fld hE rfl fl37_0) rfl ?_; clear hE a; intro a hE
                refine WL.vS hS hE (runs_plain rfl) (Gives.loadB hE 0 rfl rfl rfl ty3) rfl ?_; clear hE a; intro a hE
                refine WL.vS hS hE (runs_plain rfl) (Gives.fld hE rfl fl37_1) rfl ?_; clear hE a; intro a hE
                refine WL.vS hS hE (runs_plain rfl) (Gives.loadB hE 0 rfl rfl rfl ty3) rfl ?_; clear hE a; intro a hE
                refine WL.vS hS hE (runs_plain rfl) (Gives.p hE rfl) rfl ?_; clear hE a; intro a hE
                refine WL.vS hS hE (runs_plain rfl) (Gives.p hE rfl) rfl ?_; clear hE a; intro a hE
                refine WL.nil ?_
                refine W.cond hE rfl (fun hc86 => ?_) (fun hc86 => ?_)
                · replace hq61 := iteT hc86 hq61
                  refine W.seq ?_
                  refine W.region ?_
                  refine WL.vS hS hE (runs_plain rfl) (Gives.p hE rfl) rfl ?_; clear hE a; intro a hE
                  refine WL.nil ?_
                  refine W.ret ?_
                  subst hK72
                  rw [← hq61] at hr
                  dsimp only at hr
                  refine finG (fn := Try.f11) (rs := [.tmp 2]) (vs := [_]) hE rfl ⟨rfl, trivial⟩ ?_
                  subst hr
                  replace hS := hS.tail
                  replace hS := hS.tail
                  exact ⟨rfl, hS⟩
                · replace hq61 := iteF hc86 hq61
                  refine W.seq ?_
                  obtain ⟨q88, hq87, hq61⟩ := bndS hq61
                  refine W.cut (fun a w => ∃ (q91 : Bool), q91 = q88 ∧ Rep a 79 [(1, .pointer (some ⟨b51, 0, none⟩)), (20, .slice a0_0 x0.Rules.length c0_0), (21, .int .i64 ((x0.Rules).length : Int)), (22, .int .i64 ((k63 : Nat) : Int)), (49, .bool q91)] ∧ St w s (pt b77 (.cells (PlanRule.cells x64).toArray 37 (0, 0)) :: pt b51 (.cells #[.int .i64 x0.Period, .int .i64 x0.Events, .slice a0_0 x0.Rules.length c0_0] 24 (0, 0)) :: R)) ?_ ?_
                  · refine W.gen fun K92 hK92 => ?_
                    refine W.region ?_
                    refine WL.vS hS hE (runs_plain rfl) (Gives.fld hE rfl fl37_2) rfl ?_; clear hE a; intro a hE
                    refine WL.vS hS hE (runs_plain rfl) (Gives.loadB hE 0 rfl rfl rfl ty3) rfl ?_; clear hE a; intro a hE
                    refine WL.fnq hE (Fishref2within_ok hS  rfl (r := Fishref2within x64.Min 0 3600)) (runs_plain rfl) bd36 rfl rfl rfl ?_
                    clear hE hS; rintro e w ⟨rfl, hS⟩; refine ⟨_, rfl, ?_⟩; clear a; intro a hE
                    refine WL.vS hS hE (runs_plain rfl) (Gives.p hE rfl) rfl ?_; clear hE a; intro a hE
                    refine WL.vS hS hE (runs_plain rfl) (Gives.p hE rfl) rfl ?_; clear hE a; intro a hE
                    rcases Bool.eq_false_or_eq_true (!(Fishref2within x64.Min 0 3600)) with hg93 | hg93
                    · replace hq87 := iteT hg93 hq87
                      refine WL.no hE (runs_not hE rfl rfl rfl (by rw [hg93]; decide)) rfl ?_; clear hE a; intro a hE
                      refine WL.no hE (runs_not hE rfl rfl rfl (by rw [hg93]; decide)) rfl ?_; clear hE a; intro a hE
                      refine WL.no hE (runs_not hE rfl rfl rfl (by rw [hg93]; decide)) rfl ?_; clear hE a; intro a hE
                      refine WL.no hE (runs_not hE rfl rfl rfl (by rw [hg93]; decide)) rfl ?_; clear hE a; intro a hE
                      refine WL.no hE (runs_not hE rfl rfl rfl (by rw [hg93]; decide)) rfl ?_; clear hE a; intro a hE
                      refine WL.vS hS hE (runs_plain rfl) (Gives.pickT hE rfl hg93 rfl) rfl ?_; clear hE a; intro a hE
                      refine WL.vS hS hE (runs_plain rfl) (Gives.p hE rfl) rfl ?_; clear hE a; intro a hE
                      refine WL.no hE (runs_not hE rfl rfl rfl (by decide)) rfl ?_; clear hE a; intro a hE
                      refine WL.no hE (runs_not hE rfl rfl rfl (by decide)) rfl ?_; clear hE a; intro a hE
                      refine WL.no hE (runs_not hE rfl rfl rfl (by decide)) rfl ?_; clear hE a; intro a hE
                      refine WL.no hE (runs_not hE rfl rfl rfl (by decide)) rfl ?_; clear hE a; intro a hE
                      refine WL.no hE (runs_not hE rfl rfl rfl (by decide)) rfl ?_; clear hE a; intro a hE
                      refine WL.no hE (runs_not hE rfl rfl rfl (by decide)) rfl ?_; clear hE a; intro a hE
                      refine WL.no hE (runs_not hE rfl rfl rfl (by decide)) rfl ?_; clear hE a; intro a hE
                      refine WL.no hE (runs_not hE rfl rfl rfl (by decide)) rfl ?_; clear hE a; intro a hE
                      refine WL.no hE (runs_not hE rfl rfl rfl (by decide)) rfl ?_; clear hE a; intro a hE
                      refine WL.vS hS hE (runs_plain rfl) (Gives.pickT hE rfl rfl rfl) rfl ?_; clear hE a; intro a hE
                      refine WL.vS hS hE (runs_plain rfl) (Gives.p hE rfl) rfl ?_; clear hE a; intro a hE
                      refine WL.no hE (runs_not hE rfl rfl rfl (by decide)) rfl ?_; clear hE a; intro a hE
                      refine WL.no hE (runs_not hE rfl rfl rfl (by decide)) rfl ?_; clear hE a; intro a hE
                      refine WL.no hE (runs_not hE rfl rfl rfl (by decide)) rfl ?_; clear hE a; intro a hE
                      refine WL.no hE (runs_not hE rfl rfl rfl (by decide)) rfl ?_; clear hE a; intro a hE
                      refine WL.vS hS hE (runs_plain rfl) (Gives.pickT hE rfl rfl rfl) rfl ?_; clear hE a; intro a hE
                      refine WL.vS hS hE (runs_plain rfl) (Gives.p hE rfl) rfl ?_; clear hE a; intro a hE
                      refine WL.nil ?_
                      subst hK92
                      exact ⟨true, hq87, hE.pick _ ⟨rfl, rfl, rfl, rfl, rfl, trivial⟩, hS⟩
                    · replace hq87 := iteF hg93 hq87
                      refine WL.vS hS hE (runs_if hE rfl rfl rfl hg93) (Gives.fld hE rfl fl37_3) rfl ?_; clear hE a; intro a hE
                      refine WL.vS hS hE (runs_if hE rfl rfl rfl hg93) (Gives.loadB hE 0 rfl rfl rfl ty3) rfl ?_; clear hE a; intro a hE
                      refine WL.vS hS hE (runs_if hE rfl rfl rfl hg93) (Gives.fld hE rfl fl37_2) rfl ?_; clear hE a; intro a hE
                      refine WL.vS hS hE (runs_if hE rfl rfl rfl hg93) (Gives.loadB hE 0 rfl rfl rfl ty3) rfl ?_; clear hE a; intro a hE
                      refine WL.vS hS hE (runs_if hE rfl rfl rfl hg93) (Gives.p hE rfl) rfl ?_; clear hE a; intro a hE
                      refine WL.vS hS hE (runs_plain rfl) (Gives.pickF hE rfl hg93 rfl) rfl ?_; clear hE a; intro a hE
                      refine WL.vS hS hE (runs_plain rfl) (Gives.p hE rfl) rfl ?_; clear hE a; intro a hE
                      rcases Bool.eq_false_or_eq_true (decide (x64.Max < x64.Min)) with hg94 | hg94
                      · replace hq87 := iteT hg94 hq87
                        refine WL.no hE (runs_not hE rfl rfl rfl (by rw [hg94]; decide)) rfl ?_; clear hE a; intro a hE
                        refine WL.no hE (runs_not hE rfl rfl rfl (by rw [hg94]; decide)) rfl ?_; clear hE a; intro a hE
                        refine WL.no hE (runs_not hE rfl rfl rfl (by rw [hg94]; decide)) rfl ?_; clear hE a; intro a hE
                        refine WL.no hE (runs_not hE rfl rfl rfl (by rw [hg94]; decide)) rfl ?_; clear hE a; intro a hE
                        refine WL.no hE (runs_not hE rfl rfl rfl (by rw [hg94]; decide)) rfl ?_; clear hE a; intro a hE
                        refine WL.no hE (runs_not hE rfl rfl rfl (by rw [hg94]; decide)) rfl ?_; clear hE a; intro a hE
                        refine WL.no hE (runs_not hE rfl rfl rfl (by rw [hg94]; decide)) rfl ?_; clear hE a; intro a hE
                        refine WL.no hE (runs_not hE rfl rfl rfl (by rw [hg94]; decide)) rfl ?_; clear hE a; intro a hE
                        refine WL.no hE (runs_not hE rfl rfl rfl (by rw [hg94]; decide)) rfl ?_; clear hE a; intro a hE
                        refine WL.vS hS hE (runs_plain rfl) (Gives.pickT hE rfl hg94 rfl) rfl ?_; clear hE a; intro a hE
                        refine WL.vS hS hE (runs_plain rfl) (Gives.p hE rfl) rfl ?_; clear hE a; intro a hE
                        refine WL.no hE (runs_not hE rfl rfl rfl (by decide)) rfl ?_; clear hE a; intro a hE
                        refine WL.no hE (runs_not hE rfl rfl rfl (by decide)) rfl ?_; clear hE a; intro a hE
                        refine WL.no hE (runs_not hE rfl rfl rfl (by decide)) rfl ?_; clear hE a; intro a hE
                        refine WL.no hE (runs_not hE rfl rfl rfl (by decide)) rfl ?_; clear hE a; intro a hE
                        refine WL.vS hS hE (runs_plain rfl) (Gives.pickT hE rfl rfl rfl) rfl ?_; clear hE a; intro a hE
                        refine WL.vS hS hE (runs_plain rfl) (Gives.p hE rfl) rfl ?_; clear hE a; intro a hE
                        refine WL.nil ?_
                        subst hK92
                        exact ⟨true, hq87, hE.pick _ ⟨rfl, rfl, rfl, rfl, rfl, trivial⟩, hS⟩
                      · replace hq87 := iteF hg94 hq87
                        refine WL.vS hS hE (runs_if hE rfl rfl rfl hg94) (Gives.fld hE rfl fl37_3) rfl ?_; clear hE a; intro a hE
                        refine WL.vS hS hE (runs_if hE rfl rfl rfl hg94) (Gives.loadB hE 0 rfl rfl rfl ty3) rfl ?_; clear hE a; intro a hE
                        refine WL.vS hS hE (runs_if hE rfl rfl rfl hg94) (Gives.fld hE rfl fl37_2) rfl ?_; clear hE a; intro a hE
                        refine WL.vS hS hE (runs_if hE rfl rfl rfl hg94) (Gives.loadB hE 0 rfl rfl rfl ty3) rfl ?_; clear hE a; intro a hE
                        refine WL.vS hS hE (runs_if hE rfl rfl rfl hg94) (Gives.fld hE rfl fl24_0) rfl ?_; clear hE a; intro a hE
                        refine WL.vS hS hE (runs_if hE rfl rfl rfl hg94) (Gives.loadB hE 1 rfl rfl rfl ty3) rfl ?_; clear hE a; intro a hE
                        refine WL.vS hS hE (runs_if hE rfl rfl rfl hg94) (Gives.p hE rfl) rfl ?_; clear hE a; intro a hE
                        refine WL.vS hS hE (runs_if hE rfl rfl rfl hg94) (Gives.p hE rfl) rfl ?_; clear hE a; intro a hE
                        refine WL.vS hS hE (runs_if hE rfl rfl rfl hg94) (Gives.p hE rfl) rfl ?_; clear hE a; intro a hE
                        refine WL.vS hS hE (runs_plain rfl) (Gives.pickF hE rfl hg94 rfl) rfl ?_; clear hE a; intro a hE
                        refine WL.vS hS hE (runs_plain rfl) (Gives.p hE rfl) rfl ?_; clear hE a; intro a hE
                        rcases Bool.eq_false_or_eq_true (decide (x64.Max > (w64 ((w64 (x64.Min + x0.Period)) - 1)))) with hg95 | hg95
                        · replace hq87 := iteT hg95 hq87
                          refine WL.no hE (runs_not hE rfl rfl rfl (by rw [hg95]; decide)) rfl ?_; clear hE a; intro a hE
                          refine WL.no hE (runs_not hE rfl rfl rfl (by rw [hg95]; decide)) rfl ?_; clear hE a; intro a hE
                          refine WL.no hE (runs_not hE rfl rfl rfl (by rw [hg95]; decide)) rfl ?_; clear hE a; intro a hE
                          refine WL.no hE (runs_not hE rfl rfl rfl (by rw [hg95]; decide)) rfl ?_; clear hE a; intro a hE
                          refine WL.vS hS hE (runs_plain rfl) (Gives.pickT hE rfl hg95 rfl) rfl ?_; clear hE a; intro a hE
                          refine WL.vS hS hE (runs_plain rfl) (Gives.p hE rfl) rfl ?_; clear hE a; intro a hE
                          refine WL.nil ?_
                          subst hK92
                          exact ⟨true, hq87, hE.pick _ ⟨rfl, rfl, rfl, rfl, rfl, trivial⟩, hS⟩
                        · replace hq87 := iteF hg95 hq87
                          refine WL.vS hS hE (runs_if hE rfl rfl rfl hg95) (Gives.fld hE rfl fl37_4) rfl ?_; clear hE a; intro a hE
                          refine WL.vS hS hE (runs_if hE rfl rfl rfl hg95) (Gives.loadB hE 0 rfl rfl rfl ty3) rfl ?_; clear hE a; intro a hE
                          refine WL.fnq hE (Fishref2within_ok hS  rfl (r := Fishref2within x64.Weight 0 1000)) (runs_if hE rfl rfl rfl hg95) bd36 rfl rfl rfl ?_
                          clear hE hS; rintro e w ⟨rfl, hS⟩; refine ⟨_, rfl, ?_⟩; clear a; intro a hE
                          refine WL.vS hS hE (runs_if hE rfl rfl rfl hg95) (Gives.p hE rfl) rfl ?_; clear hE a; intro a hE
                          refine WL.vS hS hE (runs_plain rfl) (Gives.pickF hE rfl hg95 rfl) rfl ?_; clear hE a; intro a hE
                          refine WL.vS hS hE (runs_plain rfl) (Gives.p hE rfl) rfl ?_; clear hE a; intro a hE
                          refine WL.nil ?_
                          subst hK92
                          exact ⟨!(Fishref2within x64.Weight 0 1000), hq87, hE.pick _ ⟨rfl, rfl, rfl, rfl, rfl, trivial⟩, hS⟩
                  · clear hE hS a w; rintro a w ⟨q91, rfl, hE, hS⟩
                    refine W.cond hE rfl (fun hc96 => ?_) (fun hc96 => ?_)
                    · replace hq61 := iteT hc96 hq61
                      refine W.seq ?_
                      refine W.region ?_
                      refine WL.vS hS hE (runs_plain rfl) (Gives.p hE rfl) rfl ?_; clear hE a; intro a hE
                      refine WL.nil ?_
                      refine W.ret ?_
                      subst hK72
                      rw [← hq61] at hr
                      dsimp only at hr
                      refine finG (fn := Try.f11) (rs := [.tmp 2]) (vs := [_]) hE rfl ⟨rfl, trivial⟩ ?_
                      subst hr
                      replace hS := hS.tail
                      replace hS := hS.tail
                      exact ⟨rfl, hS⟩
                    · replace hq61 := iteF hc96 hq61
                      refine W.skip ?_
                      refine W.region ?_
                      refine WL.vS hS hE (runs_plain rfl) (Gives.inc hE rfl (by have := h0_0.small; omega)) rfl ?_; clear hE a; intro a hE
                      refine WL.vS hS hE (runs_plain rfl) (Gives.p hE rfl) rfl ?_; clear hE a; intro a hE
                      refine WL.nil ?_
                      replace hS := hS.tail
                      subst hK72
                      exact ⟨rest65.length, Nat.lt_succ_self _, rest65, k63 + 1, rfl, hd66, hq61, hE.pick _ ⟨rfl, rfl, rfl, rfl, trivial⟩, hS⟩
        · clear hE hS a w; rintro a w ⟨rfl, hE, hS⟩
          dsimp only at hr
          refine W.seq ?_
          refine W.region ?_
          refine WL.vS hS hE (runs_plain rfl) (Gives.p hE rfl) rfl ?_; clear hE a; intro a hE
          refine WL.nil ?_
          refine W.ret ?_
          refine finG (fn := Try.f11) (rs := [.tmp 2]) (vs := [_]) hE rfl ⟨rfl, trivial⟩ ?_
          subst hr
          replace hS := hS.tail
          exact ⟨rfl, hS⟩
set_option maxHeartbeats 8000000 in
theorem Fishlaw2PlanPeriodics_ok {fu : Nat}  {w : World} {s : Sg} {R : List HP} {x0 : PlanPeriodic} {a0_0 : Option Addr} {c0_0 : Nat} (hS : St w s (R)) (h0_0 : Sl 5 RPlanRule s a0_0 c0_0 x0.Rules) {r : Bool} (hr : Fishlaw2PlanPeriodics fu x0 = some r) :
    Calls Try.prog 3 [.agg [.int .i64 x0.Period, .int .i64 x0.Events, .slice a0_0 x0.Rules.length c0_0].toArray].toArray w (fun e w => e = .returned (.bool r) ∧ St w s (R)) := by
  refine enter Try.func3 rfl rfl rfl fun a hE => ?_
  rw [Fishlaw2PlanPeriodics] at hr
  refine W.seq ?_
  refine W.region ?_
  refine WL.box hE hS (runs_plain rfl) rfl rfl rfl ?_; clear hE hS a w; intro b51 a w hE hS
  refine WL.vS hS hE (runs_plain rfl) (Gives.p hE rfl) rfl ?_; clear hE a; intro a hE
  refine WL.nil ?_
  refine W.seq ?_
  obtain ⟨q53, hq52, hr⟩ := bindS hr
  refine W.cut (fun a w => ∃ (q56 : Bool), q56 = q53 ∧ Rep a 11 [(2, .bool q56)] ∧ St w s (pt b51 (.cells #[.int .i64 x0.Period, .int .i64 x0.Events, .slice a0_0 x0.Rules.length c0_0] 24 (0, 0)) :: R)) ?_ ?_
  · refine W.gen fun K57 hK57 => ?_
    refine W.regionQ (C := fun w => St w s (pt b51 (.cells #[.int .i64 x0.Period, .int .i64 x0.Events, .slice a0_0 x0.Rules.length c0_0] 24 (0, 0)) :: R)) mixed (by kernel_rfl) hS.drew ?_
    obtain ⟨q58, hq59, hq52⟩ := bindS hq52
    refine QL.fnq hE (fun w hS => Fishlaw2periods_ok hS  hq59) (runs_plain rfl) bd9 rfl rfl rfl ?_; clear hE a; intro a hE
    refine QL.v hE (runs_plain rfl) (Gives.p hE rfl) rfl ?_; clear hE a; intro a hE
    rcases Bool.eq_false_or_eq_true q58 with hg60 | hg60
    · replace hq52 := iteT hg60 hq52
      refine QL.v hE (runs_if hE rfl rfl rfl hg60) (Gives.loadBA hE 0 rfl rfl ty24) rfl ?_; clear hE a; intro a hE
      refine QL.fnq hE (fun w hS => PlanCheckPeriodic_ok hS h0_0 rfl (r := PlanCheckPeriodic x0)) (runs_if hE rfl rfl rfl hg60) bd10 rfl rfl rfl ?_; clear hE a; intro a hE
      refine QL.v hE (runs_if hE rfl rfl rfl hg60) (Gives.loadBA hE 0 rfl rfl ty24) rfl ?_; clear hE a; intro a hE
      refine QL.fnq hE (fun w hS => Fishref2PeriodicFault_ok hS h0_0 rfl (r := Fishref2PeriodicFault x0)) (runs_if hE rfl rfl rfl hg60) bd11 rfl rfl rfl ?_; clear hE a; intro a hE
      refine QL.v hE (runs_if hE rfl rfl rfl hg60) (Gives.p hE rfl) rfl ?_; clear hE a; intro a hE
      refine QL.v hE (runs_plain rfl) (Gives.pickT hE rfl hg60 rfl) rfl ?_; clear hE a; intro a hE
      refine QL.v hE (runs_plain rfl) (Gives.p hE rfl) rfl ?_; clear hE a; intro a hE
      refine QL.nil ?_; clear hS w; intro w hS
      subst hK57
      exact ⟨((PlanCheckPeriodic x0) == (Fishref2PeriodicFault x0)), Option.some.inj hq52, hE.pick _ ⟨rfl, trivial⟩, hS⟩
    · replace hq52 := iteF hg60 hq52
      refine QL.no hE (runs_not hE rfl rfl rfl (by rw [hg60]; decide)) rfl ?_; clear hE a; intro a hE
      refine QL.no hE (runs_not hE rfl rfl rfl (by rw [hg60]; decide)) rfl ?_; clear hE a; intro a hE
      refine QL.no hE (runs_not hE rfl rfl rfl (by rw [hg60]; decide)) rfl ?_; clear hE a; intro a hE
      refine QL.no hE (runs_not hE rfl rfl rfl (by rw [hg60]; decide)) rfl ?_; clear hE a; intro a hE
      refine QL.no hE (runs_not hE rfl rfl rfl (by rw [hg60]; decide)) rfl ?_; clear hE a; intro a hE
      refine QL.v hE (runs_plain rfl) (Gives.pickF hE rfl hg60 rfl) rfl ?_; clear hE a; intro a hE
      refine QL.v hE (runs_plain rfl) (Gives.p hE rfl) rfl ?_; clear hE a; intro a hE
      refine QL.nil ?_; clear hS w; intro w hS
      subst hK57
      exact ⟨false, Option.some.inj hq52, hE.pick _ ⟨rfl, trivial⟩, hS⟩
  · clear hE hS a w; rintro a w ⟨q56, rfl, hE, hS⟩
    refine W.ret ?_
    refine finG (fn := Try.f3) (rs := [.tmp 2]) (vs := [_]) hE rfl ⟨rfl, trivial⟩ ?_
    obtain rfl := Option.some.inj hr
    replace hS := hS.tail
    exact ⟨rfl, hS⟩
end Go.Proofs.Ytffleanbfkjfiaa
