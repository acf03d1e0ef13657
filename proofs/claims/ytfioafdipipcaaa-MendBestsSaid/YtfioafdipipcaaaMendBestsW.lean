/- The walks of the functions that MendBests reaches: each call comes to what its mirror says. The conditions are those of each contract. -/
import Derived.Test.YtfioafdipipcaaaProg
import Derived.Test.YtfioafdipipcaaaMendBestsM
import Derived.Test.YtfioafdipipcaaaFpMore
import Derived.Test.YtfioafdipipcaaaMendBestsW2
namespace Go.Proofs.Ytfioafdipipcaaa
open Go Go.Fp
set_option maxHeartbeats 8000000 in
theorem Fishref2GraphFault_ok  {w : World} {s : Sg} {R : List HP} {x0 : MendGraph} {a0_0 : Option Addr} {c0_0 : Nat} {a0_1 : Option Addr} {c0_1 : Nat} {a0_2 : Option Addr} {c0_2 : Nat} {a0_3 : Option Addr} {c0_3 : Nat} {a0_4 : Option Addr} {c0_4 : Nat} (hS : St w s (R)) (h0_0 : Sl 1 (RI .i64) s a0_0 c0_0 x0.Ready) (h0_1 : Sl 1 (RI .i64) s a0_1 c0_1 x0.Last) (h0_2 : Sl 1 (RI .i64) s a0_2 c0_2 x0.Due) (h0_3 : Sl 3 RMendArc s a0_3 c0_3 x0.Arcs) (h0_4 : Sl 1 RMendChoice s a0_4 c0_4 x0.Choices) {r : Int} (hr : Fishref2GraphFault x0 = some r) :
    Calls Try.prog 25 [.agg [.slice a0_0 x0.Ready.length c0_0, .slice a0_1 x0.Last.length c0_1, .slice a0_2 x0.Due.length c0_2, .slice a0_3 x0.Arcs.length c0_3, .slice a0_4 x0.Choices.length c0_4].toArray].toArray w (fun e w => e = .returned (.int .i64 r) ∧ St w s (R)) := by
  refine enter Try.func25 rfl rfl rfl fun a hE => ?_
  rw [Fishref2GraphFault] at hr
  refine W.seq ?_
  refine W.region ?_
  refine WL.box hE hS (runs_plain rfl) rfl rfl rfl ?_; clear hE hS a w; intro b51 a w hE hS
  refine WL.vS hS hE (runs_plain rfl) (Gives.p hE rfl) rfl ?_; clear hE a; intro a hE
  refine WL.nil ?_
  refine W.seq ?_
  refine W.region ?_
  refine WL.vS hS hE (runs_plain rfl) (Gives.fld hE rfl fl50_0) rfl ?_; clear hE a; intro a hE
  refine WL.vS hS hE (runs_plain rfl) (Gives.loadB hE 0 rfl rfl rfl ty22) rfl ?_; clear hE a; intro a hE
  refine WL.vS hS hE (runs_plain rfl) (Gives.len hE rfl sl22) rfl ?_; clear hE a; intro a hE
  refine WL.vS hS hE (runs_plain rfl) (Gives.p hE rfl) rfl ?_; clear hE a; intro a hE
  refine WL.nil ?_
  refine W.seq ?_
  refine W.seq ?_
  obtain ⟨q53, hq52, hr⟩ := bndS hr
  refine W.cut (fun a w => ∃ (q56 : Bool), q56 = q53 ∧ Rep a 124 [(1, .pointer (some ⟨b51, 0, none⟩)), (3, .int .i64 ((x0.Ready).length : Int)), (31, .bool q56)] ∧ St w s (pt b51 (.cells #[.slice a0_0 x0.Ready.length c0_0, .slice a0_1 x0.Last.length c0_1, .slice a0_2 x0.Due.length c0_2, .slice a0_3 x0.Arcs.length c0_3, .slice a0_4 x0.Choices.length c0_4] 50 (0, 0)) :: R)) ?_ ?_
  · refine W.gen fun K57 hK57 => ?_
    refine W.region ?_
    refine WL.vS hS hE (runs_plain rfl) (Gives.p hE rfl) rfl ?_; clear hE a; intro a hE
    refine WL.vS hS hE (runs_plain rfl) (Gives.p hE rfl) rfl ?_; clear hE a; intro a hE
    refine WL.vS hS hE (runs_plain rfl) (Gives.p hE rfl) rfl ?_; clear hE a; intro a hE
    rcases Bool.eq_false_or_eq_true (decide (((x0.Ready).length : Int) > 24)) with hg58 | hg58
    · replace hq52 := iteT hg58 hq52
      refine WL.no hE (runs_not hE rfl rfl rfl (by rw [hg58]; decide)) rfl ?_; clear hE a; intro a hE
      refine WL.no hE (runs_not hE rfl rfl rfl (by rw [hg58]; decide)) rfl ?_; clear hE a; intro a hE
      refine WL.no hE (runs_not hE rfl rfl rfl (by rw [hg58]; decide)) rfl ?_; clear hE a; intro a hE
      refine WL.no hE (runs_not hE rfl rfl rfl (by rw [hg58]; decide)) rfl ?_; clear hE a; intro a hE
      refine WL.vS hS hE (runs_plain rfl) (Gives.pickT hE rfl hg58 rfl) rfl ?_; clear hE a; intro a hE
      refine WL.vS hS hE (runs_plain rfl) (Gives.p hE rfl) rfl ?_; clear hE a; intro a hE
      refine WL.no hE (runs_not hE rfl rfl rfl (by decide)) rfl ?_; clear hE a; intro a hE
      refine WL.no hE (runs_not hE rfl rfl rfl (by decide)) rfl ?_; clear hE a; intro a hE
      refine WL.no hE (runs_not hE rfl rfl rfl (by decide)) rfl ?_; clear hE a; intro a hE
      refine WL.no hE (runs_not hE rfl rfl rfl (by decide)) rfl ?_; clear hE a; intro a hE
      refine WL.vS hS hE (runs_plain rfl) (Gives.pickT hE rfl rfl rfl) rfl ?_; clear hE a; intro a hE
      refine WL.nil ?_
      subst hK57
      exact ⟨true, hq52, hE.pick _ ⟨rfl, rfl, rfl, trivial⟩, hS⟩
    · replace hq52 := iteF hg58 hq52
      refine WL.vS hS hE (runs_if hE rfl rfl rfl hg58) (Gives.fld hE rfl fl50_3) rfl ?_; clear hE a; intro a hE
      refine WL.vS hS hE (runs_if hE rfl rfl rfl hg58) (Gives.loadB hE 0 rfl rfl rfl ty47) rfl ?_; clear hE a; intro a hE
      refine WL.vS hS hE (runs_if hE rfl rfl rfl hg58) (Gives.len hE rfl sl47) rfl ?_; clear hE a; intro a hE
      refine WL.vS hS hE (runs_if hE rfl rfl rfl hg58) (Gives.p hE rfl) rfl ?_; clear hE a; intro a hE
      refine WL.vS hS hE (runs_plain rfl) (Gives.pickF hE rfl hg58 rfl) rfl ?_; clear hE a; intro a hE
      refine WL.vS hS hE (runs_plain rfl) (Gives.p hE rfl) rfl ?_; clear hE a; intro a hE
      rcases Bool.eq_false_or_eq_true (decide (((x0.Arcs).length : Int) > 250)) with hg59 | hg59
      · replace hq52 := iteT hg59 hq52
        refine WL.no hE (runs_not hE rfl rfl rfl (by rw [hg59]; decide)) rfl ?_; clear hE a; intro a hE
        refine WL.no hE (runs_not hE rfl rfl rfl (by rw [hg59]; decide)) rfl ?_; clear hE a; intro a hE
        refine WL.no hE (runs_not hE rfl rfl rfl (by rw [hg59]; decide)) rfl ?_; clear hE a; intro a hE
        refine WL.no hE (runs_not hE rfl rfl rfl (by rw [hg59]; decide)) rfl ?_; clear hE a; intro a hE
        refine WL.vS hS hE (runs_plain rfl) (Gives.pickT hE rfl hg59 rfl) rfl ?_; clear hE a; intro a hE
        refine WL.nil ?_
        subst hK57
        exact ⟨true, hq52, hE.pick _ ⟨rfl, rfl, rfl, trivial⟩, hS⟩
      · replace hq52 := iteF hg59 hq52
        refine WL.vS hS hE (runs_if hE rfl rfl rfl hg59) (Gives.fld hE rfl fl50_4) rfl ?_; clear hE a; intro a hE
        refine WL.vS hS hE (runs_if hE rfl rfl rfl hg59) (Gives.loadB hE 0 rfl rfl rfl ty48) rfl ?_; clear hE a; intro a hE
        refine WL.vS hS hE (runs_if hE rfl rfl rfl hg59) (Gives.len hE rfl sl48) rfl ?_; clear hE a; intro a hE
        refine WL.vS hS hE (runs_if hE rfl rfl rfl hg59) (Gives.p hE rfl) rfl ?_; clear hE a; intro a hE
        refine WL.vS hS hE (runs_plain rfl) (Gives.pickF hE rfl hg59 rfl) rfl ?_; clear hE a; intro a hE
        refine WL.nil ?_
        subst hK57
        exact ⟨decide (((x0.Choices).length : Int) > 300), hq52, hE.pick _ ⟨rfl, rfl, rfl, trivial⟩, hS⟩
  · clear hE hS a w; rintro a w ⟨q56, rfl, hE, hS⟩
    refine W.cond hE rfl (fun hc60 => ?_) (fun hc60 => ?_)
    · replace hr := iteT hc60 hr
      refine W.seq ?_
      refine W.region ?_
      refine WL.vS hS hE (runs_plain rfl) (Gives.p hE rfl) rfl ?_; clear hE a; intro a hE
      refine WL.nil ?_
      refine W.ret ?_
      refine finG (fn := Try.f25) (rs := [.tmp 2]) (vs := [_]) hE rfl ⟨rfl, trivial⟩ ?_
      obtain rfl := Option.some.inj hr
      replace hS := hS.tail
      exact ⟨rfl, hS⟩
    · replace hr := iteF hc60 hr
      refine W.skip ?_
      refine W.seq ?_
      refine W.seq ?_
      obtain ⟨q62, hq61, hr⟩ := bndS hr
      refine W.cut (fun a w => ∃ (q65 : Bool), q65 = q62 ∧ Rep a 124 [(1, .pointer (some ⟨b51, 0, none⟩)), (3, .int .i64 ((x0.Ready).length : Int)), (43, .bool q65)] ∧ St w s (pt b51 (.cells #[.slice a0_0 x0.Ready.length c0_0, .slice a0_1 x0.Last.length c0_1, .slice a0_2 x0.Due.length c0_2, .slice a0_3 x0.Arcs.length c0_3, .slice a0_4 x0.Choices.length c0_4] 50 (0, 0)) :: R)) ?_ ?_
      · refine W.gen fun K66 hK66 => ?_
        refine W.region ?_
        refine WL.vS hS hE (runs_plain rfl) (Gives.fld hE rfl fl50_1) rfl ?_; clear hE a; intro a hE
        refine WL.vS hS hE (runs_plain rfl) (Gives.loadB hE 0 rfl rfl rfl ty22) rfl ?_; clear hE a; intro a hE
        refine WL.vS hS hE (runs_plain rfl) (Gives.len hE rfl sl22) rfl ?_; clear hE a; intro a hE
        refine WL.vS hS hE (runs_plain rfl) (Gives.p hE rfl) rfl ?_; clear hE a; intro a hE
        refine WL.vS hS hE (runs_plain rfl) (Gives.p hE rfl) rfl ?_; clear hE a; intro a hE
        refine WL.vS hS hE (runs_plain rfl) (Gives.p hE rfl) rfl ?_; clear hE a; intro a hE
        rcases Bool.eq_false_or_eq_true (((x0.Last).length : Int) != ((x0.Ready).length : Int)) with hg67 | hg67
        · replace hq61 := iteT hg67 hq61
          refine WL.no hE (runs_not hE rfl rfl rfl (by rw [hg67]; decide)) rfl ?_; clear hE a; intro a hE
          refine WL.no hE (runs_not hE rfl rfl rfl (by rw [hg67]; decide)) rfl ?_; clear hE a; intro a hE
          refine WL.no hE (runs_not hE rfl rfl rfl (by rw [hg67]; decide)) rfl ?_; clear hE a; intro a hE
          refine WL.no hE (runs_not hE rfl rfl rfl (by rw [hg67]; decide)) rfl ?_; clear hE a; intro a hE
          refine WL.no hE (runs_not hE rfl rfl rfl (by rw [hg67]; decide)) rfl ?_; clear hE a; intro a hE
          refine WL.vS hS hE (runs_plain rfl) (Gives.pickT hE rfl hg67 rfl) rfl ?_; clear hE a; intro a hE
          refine WL.nil ?_
          subst hK66
          exact ⟨true, hq61, hE.pick _ ⟨rfl, rfl, rfl, trivial⟩, hS⟩
        · replace hq61 := iteF hg67 hq61
          refine WL.vS hS hE (runs_if hE rfl rfl rfl hg67) (Gives.fld hE rfl fl50_2) rfl ?_; clear hE a; intro a hE
          refine WL.vS hS hE (runs_if hE rfl rfl rfl hg67) (Gives.loadB hE 0 rfl rfl rfl ty22) rfl ?_; clear hE a; intro a hE
          refine WL.vS hS hE (runs_if hE rfl rfl rfl hg67) (Gives.len hE rfl sl22) rfl ?_; clear hE a; intro a hE
          refine WL.vS hS hE (runs_if hE rfl rfl rfl hg67) (Gives.p hE rfl) rfl ?_; clear hE a; intro a hE
          refine WL.vS hS hE (runs_if hE rfl rfl rfl hg67) (Gives.p hE rfl) rfl ?_; clear hE a; intro a hE
          refine WL.vS hS hE (runs_plain rfl) (Gives.pickF hE rfl hg67 rfl) rfl ?_; clear hE a; intro a hE
          refine WL.nil ?_
          subst hK66
          exact ⟨(((x0.Due).length : Int) != ((x0.Ready).length : Int)), hq61, hE.pick _ ⟨rfl, rfl, rfl, trivial⟩, hS⟩
      · clear hE hS a w; rintro a w ⟨q65, rfl, hE, hS⟩
        refine W.cond hE rfl (fun hc68 => ?_) (fun hc68 => ?_)
        · replace hr := iteT hc68 hr
          refine W.seq ?_
          refine W.region ?_
          refine WL.vS hS hE (runs_plain rfl) (Gives.p hE rfl) rfl ?_; clear hE a; intro a hE
          refine WL.nil ?_
          refine W.ret ?_
          refine finG (fn := Try.f25) (rs := [.tmp 2]) (vs := [_]) hE rfl ⟨rfl, trivial⟩ ?_
          obtain rfl := Option.some.inj hr
          replace hS := hS.tail
          exact ⟨rfl, hS⟩
        · replace hr := iteF hc68 hr
          refine W.skip ?_
          refine W.seq ?_
          refine W.seq ?_
          refine W.region ?_
          refine WL.vS hS hE (runs_plain rfl) (Gives.p hE rfl) rfl ?_; clear hE a; intro a hE
          refine WL.vS hS hE (runs_plain rfl) (Gives.p hE rfl) rfl ?_; clear hE a; intro a hE
          refine WL.nil ?_
          obtain ⟨q70, hq69, hr⟩ := bindS hr
          refine W.cut (fun a w => (.next ()) = q70 ∧ Rep a 124 [(1, .pointer (some ⟨b51, 0, none⟩)), (3, .int .i64 ((x0.Ready).length : Int))] ∧ St w s (pt b51 (.cells #[.slice a0_0 x0.Ready.length c0_0, .slice a0_1 x0.Last.length c0_1, .slice a0_2 x0.Due.length c0_2, .slice a0_3 x0.Arcs.length c0_3, .slice a0_4 x0.Choices.length c0_4] 50 (0, 0)) :: R)) ?_ ?_
          · refine W.block ?_
            refine W.loop (fun m a w => ∃ (rest73 : List Int) (k71 : Nat), rest73.length = m ∧ x0.Ready.drop k71 = rest73 ∧ Fishref2GraphFault.loop1 x0 rest73 k71 = some q70 ∧ Rep a 124 [(1, .pointer (some ⟨b51, 0, none⟩)), (3, .int .i64 ((x0.Ready).length : Int)), (44, .int .i64 ((x0.Ready).length : Int)), (45, .int .i64 ((k71 : Nat) : Int))] ∧ St w s (pt b51 (.cells #[.slice a0_0 x0.Ready.length c0_0, .slice a0_1 x0.Last.length c0_1, .slice a0_2 x0.Due.length c0_2, .slice a0_3 x0.Arcs.length c0_3, .slice a0_4 x0.Choices.length c0_4] 50 (0, 0)) :: R)) (m := x0.Ready.length) ⟨x0.Ready, 0, rfl, rfl, hq69, hE.pick _ ⟨rfl, rfl, rfl, rfl, trivial⟩, hS⟩ ?_
            clear hE hS a w hq69; rintro m77 a w ⟨rest73, k71, rfl, hd74, hq69, hE, hS⟩
            refine W.gen fun K80 hK80 => ?_
            rcases rest73 with _ | ⟨x72, rest73⟩
            · have hlt75 := drop_nil hd74
              refine W.seq ?_
              refine W.region ?_
              refine WL.vS hS hE (runs_plain rfl) (Gives.p hE rfl) rfl ?_; clear hE a; intro a hE
              refine WL.nil ?_
              refine W.seq ?_
              refine W.condF hE rfl (decide_eq_false (by omega)) ?_
              subst hK80
              refine W.exit rfl ?_
              exact ⟨Option.some.inj hq69, hE.pick _ ⟨rfl, rfl, trivial⟩, hS⟩
            · obtain ⟨hlt75, hx76, hd74⟩ := drop_cons hd74
              rw [Fishref2GraphFault.loop1] at hq69
              refine W.seq ?_
              refine W.region ?_
              refine WL.vS hS hE (runs_plain rfl) (Gives.p hE rfl) rfl ?_; clear hE a; intro a hE
              refine WL.nil ?_
              refine W.seq ?_
              refine W.condT hE rfl (decide_eq_true (by omega)) ?_
              refine W.skip ?_
              refine W.seq ?_
              refine W.block ?_
              refine W.seq ?_
              refine W.region ?_
              refine WL.vS hS hE (runs_plain rfl) (Gives.p hE rfl) rfl ?_; clear hE a; intro a hE
              refine WL.vS hS hE (runs_plain rfl) (Gives.p hE rfl) rfl ?_; clear hE a; intro a hE
              refine WL.nil ?_
              refine W.seq ?_
              obtain ⟨q82, hq81, hq69⟩ := bindS hq69
              refine W.cut (fun a w => ∃ (q85 : Bool), q85 = q82 ∧ Rep a 124 [(1, .pointer (some ⟨b51, 0, none⟩)), (3, .int .i64 ((x0.Ready).length : Int)), (44, .int .i64 ((x0.Ready).length : Int)), (45, .int .i64 ((k71 : Nat) : Int)), (72, .bool q85)] ∧ St w s (pt b51 (.cells #[.slice a0_0 x0.Ready.length c0_0, .slice a0_1 x0.Last.length c0_1, .slice a0_2 x0.Due.length c0_2, .slice a0_3 x0.Arcs.length c0_3, .slice a0_4 x0.Choices.length c0_4] 50 (0, 0)) :: R)) ?_ ?_
              · refine W.gen fun K86 hK86 => ?_
                refine W.region ?_
                refine WL.vS hS hE (runs_plain rfl) (Gives.fld hE rfl fl50_0) rfl ?_; clear hE a; intro a hE
                refine WL.vS hS hE (runs_plain rfl) (Gives.loadB hE 0 rfl rfl rfl ty22) rfl ?_; clear hE a; intro a hE
                refine WL.vS hS hE (runs_plain rfl) (Gives.p hE rfl) rfl ?_; clear hE a; intro a hE
                obtain ⟨cs87, hl88, hR89, hat90⟩ := h0_0.at hx76
                subst hR89
                refine WL.vS hS hE (runs_plain rfl) (Gives.idx hE k71 rfl rfl sl22 rfl hlt75 (h0_0.aok hlt75)) rfl ?_; clear hE a; intro a hE
                refine WL.vS hS hE (runs_plain rfl) (Gives.load1 hE rfl (fun w h => hat90 w _ h) ty3) rfl ?_; clear hE a; intro a hE
                refine WL.fnq hE (Fishref2within_ok hS  rfl (r := Fishref2within x72 0 28800)) (runs_plain rfl) bd51 rfl rfl rfl ?_
                clear hE hS; rintro e w ⟨rfl, hS⟩; refine ⟨_, rfl, ?_⟩; clear a; intro a hE
                refine WL.vS hS hE (runs_plain rfl) (Gives.p hE rfl) rfl ?_; clear hE a; intro a hE
                refine WL.vS hS hE (runs_plain rfl) (Gives.p hE rfl) rfl ?_; clear hE a; intro a hE
                rcases Bool.eq_false_or_eq_true (!(Fishref2within x72 0 28800)) with hg91 | hg91
                · replace hq81 := iteT hg91 hq81
                  refine WL.no hE (runs_not hE rfl rfl rfl (by rw [hg91]; decide)) rfl ?_; clear hE a; intro a hE
                  refine WL.no hE (runs_not hE rfl rfl rfl (by rw [hg91]; decide)) rfl ?_; clear hE a; intro a hE
                  refine WL.no hE (runs_not hE rfl rfl rfl (by rw [hg91]; decide)) rfl ?_; clear hE a; intro a hE
                  refine WL.no hE (runs_not hE rfl rfl rfl (by rw [hg91]; decide)) rfl ?_; clear hE a; intro a hE
                  refine WL.no hE (runs_not hE rfl rfl rfl (by rw [hg91]; decide)) rfl ?_; clear hE a; intro a hE
                  refine WL.no hE (runs_not hE rfl rfl rfl (by rw [hg91]; decide)) rfl ?_; clear hE a; intro a hE
                  refine WL.no hE (runs_not hE rfl rfl rfl (by rw [hg91]; decide)) rfl ?_; clear hE a; intro a hE
                  refine WL.vS hS hE (runs_plain rfl) (Gives.pickT hE rfl hg91 rfl) rfl ?_; clear hE a; intro a hE
                  refine WL.vS hS hE (runs_plain rfl) (Gives.p hE rfl) rfl ?_; clear hE a; intro a hE
                  refine WL.no hE (runs_not hE rfl rfl rfl (by decide)) rfl ?_; clear hE a; intro a hE
                  refine WL.no hE (runs_not hE rfl rfl rfl (by decide)) rfl ?_; clear hE a; intro a hE
                  refine WL.no hE (runs_not hE rfl rfl rfl (by decide)) rfl ?_; clear hE a; intro a hE
                  refine WL.no hE (runs_not hE rfl rfl rfl (by decide)) rfl ?_; clear hE a; intro a hE
                  refine WL.no hE (runs_not hE rfl rfl rfl (by decide)) rfl ?_; clear hE a; intro a hE
                  refine WL.no hE (runs_not hE rfl rfl rfl (by decide)) rfl ?_; clear hE a; intro a hE
                  refine WL.no hE (runs_not hE rfl rfl rfl (by decide)) rfl ?_; clear hE a; intro a hE
                  refine WL.vS hS hE (runs_plain rfl) (Gives.pickT hE rfl rfl rfl) rfl ?_; clear hE a; intro a hE
                  refine WL.nil ?_
                  subst hK86
                  exact ⟨true, Option.some.inj hq81, hE.pick _ ⟨rfl, rfl, rfl, rfl, rfl, trivial⟩, hS⟩
                · replace hq81 := iteF hg91 hq81
                  refine WL.vS hS hE (runs_if hE rfl rfl rfl hg91) (Gives.fld hE rfl fl50_1) rfl ?_; clear hE a; intro a hE
                  refine WL.vS hS hE (runs_if hE rfl rfl rfl hg91) (Gives.loadB hE 0 rfl rfl rfl ty22) rfl ?_; clear hE a; intro a hE
                  refine WL.vS hS hE (runs_if hE rfl rfl rfl hg91) (Gives.p hE rfl) rfl ?_; clear hE a; intro a hE
                  obtain ⟨x92, hx93, hq81⟩ := bindS hq81
                  obtain ⟨hi94, hlt95, hy96⟩ := gx_some hx93
                  obtain ⟨cs97, hl98, hR99, hat100⟩ := h0_1.at hy96
                  subst hR99
                  refine WL.vS hS hE (runs_if hE rfl rfl rfl hg91) (Gives.idx hE (((k71 : Nat) : Int)).toNat rfl rfl sl22 hi94 hlt95 (h0_1.aok hlt95)) rfl ?_; clear hE a; intro a hE
                  refine WL.vS hS hE (runs_if hE rfl rfl rfl hg91) (Gives.load1 hE rfl (fun w h => hat100 w _ h) ty3) rfl ?_; clear hE a; intro a hE
                  refine WL.fnq hE (Fishref2within_ok hS  rfl (r := Fishref2within x92 (-1) 28800)) (runs_if hE rfl rfl rfl hg91) bd51 rfl rfl rfl ?_
                  clear hE hS; rintro e w ⟨rfl, hS⟩; refine ⟨_, rfl, ?_⟩; clear a; intro a hE
                  refine WL.vS hS hE (runs_if hE rfl rfl rfl hg91) (Gives.p hE rfl) rfl ?_; clear hE a; intro a hE
                  refine WL.vS hS hE (runs_plain rfl) (Gives.pickF hE rfl hg91 rfl) rfl ?_; clear hE a; intro a hE
                  refine WL.vS hS hE (runs_plain rfl) (Gives.p hE rfl) rfl ?_; clear hE a; intro a hE
                  rcases Bool.eq_false_or_eq_true (!(Fishref2within x92 (-1) 28800)) with hg101 | hg101
                  · replace hq81 := iteT hg101 hq81
                    refine WL.no hE (runs_not hE rfl rfl rfl (by rw [hg101]; decide)) rfl ?_; clear hE a; intro a hE
                    refine WL.no hE (runs_not hE rfl rfl rfl (by rw [hg101]; decide)) rfl ?_; clear hE a; intro a hE
                    refine WL.no hE (runs_not hE rfl rfl rfl (by rw [hg101]; decide)) rfl ?_; clear hE a; intro a hE
                    refine WL.no hE (runs_not hE rfl rfl rfl (by rw [hg101]; decide)) rfl ?_; clear hE a; intro a hE
                    refine WL.no hE (runs_not hE rfl rfl rfl (by rw [hg101]; decide)) rfl ?_; clear hE a; intro a hE
                    refine WL.no hE (runs_not hE rfl rfl rfl (by rw [hg101]; decide)) rfl ?_; clear hE a; intro a hE
                    refine WL.no hE (runs_not hE rfl rfl rfl (by rw [hg101]; decide)) rfl ?_; clear hE a; intro a hE
                    refine WL.vS hS hE (runs_plain rfl) (Gives.pickT hE rfl hg101 rfl) rfl ?_; clear hE a; intro a hE
                    refine WL.nil ?_
                    subst hK86
                    exact ⟨true, Option.some.inj hq81, hE.pick _ ⟨rfl, rfl, rfl, rfl, rfl, trivial⟩, hS⟩
                  · replace hq81 := iteF hg101 hq81
                    refine WL.vS hS hE (runs_if hE rfl rfl rfl hg101) (Gives.fld hE rfl fl50_2) rfl ?_; clear hE a; intro a hE
                    refine WL.vS hS hE (runs_if hE rfl rfl rfl hg101) (Gives.loadB hE 0 rfl rfl rfl ty22) rfl ?_; clear hE a; intro a hE
                    refine WL.vS hS hE (runs_if hE rfl rfl rfl hg101) (Gives.p hE rfl) rfl ?_; clear hE a; intro a hE
                    obtain ⟨x102, hx103, hq81⟩ := bindS hq81
                    obtain ⟨hi104, hlt105, hy106⟩ := gx_some hx103
                    obtain ⟨cs107, hl108, hR109, hat110⟩ := h0_2.at hy106
                    subst hR109
                    refine WL.vS hS hE (runs_if hE rfl rfl rfl hg101) (Gives.idx hE (((k71 : Nat) : Int)).toNat rfl rfl sl22 hi104 hlt105 (h0_2.aok hlt105)) rfl ?_; clear hE a; intro a hE
                    refine WL.vS hS hE (runs_if hE rfl rfl rfl hg101) (Gives.load1 hE rfl (fun w h => hat110 w _ h) ty3) rfl ?_; clear hE a; intro a hE
                    refine WL.fnq hE (Fishref2within_ok hS  rfl (r := Fishref2within x102 (-1) 28800)) (runs_if hE rfl rfl rfl hg101) bd51 rfl rfl rfl ?_
                    clear hE hS; rintro e w ⟨rfl, hS⟩; refine ⟨_, rfl, ?_⟩; clear a; intro a hE
                    refine WL.vS hS hE (runs_if hE rfl rfl rfl hg101) (Gives.p hE rfl) rfl ?_; clear hE a; intro a hE
                    refine WL.vS hS hE (runs_plain rfl) (Gives.pickF hE rfl hg101 rfl) rfl ?_; clear hE a; intro a hE
                    refine WL.nil ?_
                    subst hK86
                    exact ⟨!(Fishref2within x102 (-1) 28800), Option.some.inj hq81, hE.pick _ ⟨rfl, rfl, rfl, rfl, rfl, trivial⟩, hS⟩
              · clear hE hS a w; rintro a w ⟨q85, rfl, hE, hS⟩
                refine W.cond hE rfl (fun hc111 => ?_) (fun hc111 => ?_)
                · replace hq69 := iteT hc111 hq69
                  refine W.seq ?_
                  refine W.region ?_
                  refine WL.vS hS hE (runs_plain rfl) (Gives.p hE rfl) rfl ?_; clear hE a; intro a hE
                  refine WL.nil ?_
                  refine W.ret ?_
                  subst hK80
                  rw [← Option.some.inj hq69] at hr
                  dsimp only at hr
                  refine finG (fn := Try.f25) (rs := [.tmp 2]) (vs := [_]) hE rfl ⟨rfl, trivial⟩ ?_
                  obtain rfl := Option.some.inj hr
                  replace hS := hS.tail
                  exact ⟨rfl, hS⟩
                · replace hq69 := iteF hc111 hq69
                  refine W.skip ?_
                  refine W.region ?_
                  refine WL.vS hS hE (runs_plain rfl) (Gives.inc hE rfl (by have := h0_0.small; omega)) rfl ?_; clear hE a; intro a hE
                  refine WL.vS hS hE (runs_plain rfl) (Gives.p hE rfl) rfl ?_; clear hE a; intro a hE
                  refine WL.nil ?_
                  subst hK80
                  exact ⟨rest73.length, Nat.lt_succ_self _, rest73, k71 + 1, rfl, hd74, hq69, hE.pick _ ⟨rfl, rfl, rfl, rfl, trivial⟩, hS⟩
          · clear hE hS a w; rintro a w ⟨rfl, hE, hS⟩
            dsimp only at hr
            refine W.seq ?_
            refine W.seq ?_
            refine W.region ?_
            refine WL.vS hS hE (runs_plain rfl) (Gives.fld hE rfl fl50_3) rfl ?_; clear hE a; intro a hE
            refine WL.vS hS hE (runs_plain rfl) (Gives.loadB hE 0 rfl rfl rfl ty47) rfl ?_; clear hE a; intro a hE
            refine WL.vS hS hE (runs_plain rfl) (Gives.len hE rfl sl47) rfl ?_; clear hE a; intro a hE
            refine WL.vS hS hE (runs_plain rfl) (Gives.p hE rfl) rfl ?_; clear hE a; intro a hE
            refine WL.nil ?_
            obtain ⟨q113, hq112, hr⟩ := bndS hr
            refine W.cut (fun a w => (.next ()) = q113 ∧ Rep a 124 [(1, .pointer (some ⟨b51, 0, none⟩)), (3, .int .i64 ((x0.Ready).length : Int))] ∧ St w s (pt b51 (.cells #[.slice a0_0 x0.Ready.length c0_0, .slice a0_1 x0.Last.length c0_1, .slice a0_2 x0.Due.length c0_2, .slice a0_3 x0.Arcs.length c0_3, .slice a0_4 x0.Choices.length c0_4] 50 (0, 0)) :: R)) ?_ ?_
            · refine W.block ?_
              refine W.loop (fun m a w => ∃ (rest116 : List MendArc) (k114 : Nat), rest116.length = m ∧ x0.Arcs.drop k114 = rest116 ∧ Fishref2GraphFault.loop2 x0 rest116 = q113 ∧ Rep a 124 [(1, .pointer (some ⟨b51, 0, none⟩)), (3, .int .i64 ((x0.Ready).length : Int)), (75, .slice a0_3 x0.Arcs.length c0_3), (76, .int .i64 ((x0.Arcs).length : Int)), (77, .int .i64 ((k114 : Nat) : Int))] ∧ St w s (pt b51 (.cells #[.slice a0_0 x0.Ready.length c0_0, .slice a0_1 x0.Last.length c0_1, .slice a0_2 x0.Due.length c0_2, .slice a0_3 x0.Arcs.length c0_3, .slice a0_4 x0.Choices.length c0_4] 50 (0, 0)) :: R)) (m := x0.Arcs.length) ⟨x0.Arcs, 0, rfl, rfl, hq112, hE.pick _ ⟨rfl, rfl, rfl, rfl, rfl, trivial⟩, hS⟩ ?_
              clear hE hS a w hq112; rintro m120 a w ⟨rest116, k114, rfl, hd117, hq112, hE, hS⟩
              refine W.gen fun K123 hK123 => ?_
              rcases rest116 with _ | ⟨x115, rest116⟩
              · have hlt118 := drop_nil hd117
                refine W.seq ?_
                refine W.region ?_
                refine WL.vS hS hE (runs_plain rfl) (Gives.p hE rfl) rfl ?_; clear hE a; intro a hE
                refine WL.nil ?_
                refine W.seq ?_
                refine W.condF hE rfl (decide_eq_false (by omega)) ?_
                subst hK123
                refine W.exit rfl ?_
                exact ⟨hq112, hE.pick _ ⟨rfl, rfl, trivial⟩, hS⟩
              · obtain ⟨hlt118, hx119, hd117⟩ := drop_cons hd117
                rw [Fishref2GraphFault.loop2] at hq112
                refine W.seq ?_
                refine W.region ?_
                refine WL.vS hS hE (runs_plain rfl) (Gives.p hE rfl) rfl ?_; clear hE a; intro a hE
                refine WL.nil ?_
                refine W.seq ?_
                refine W.condT hE rfl (decide_eq_true (by omega)) ?_
                refine W.skip ?_
                refine W.seq ?_
                refine W.block ?_
                refine W.seq ?_
                refine W.region ?_
                obtain ⟨cs124, hl125, hR126, hat127⟩ := h0_3.at hx119
                subst hR126
                refine WL.vS hS hE (runs_plain rfl) (Gives.idx hE k114 rfl rfl sl47 rfl hlt118 (h0_3.aok hlt118)) rfl ?_; clear hE a; intro a hE
                refine WL.vS hS hE (runs_plain rfl) (Gives.loadA hE rfl (fun w h => hat127 w _ h) ty94) rfl ?_; clear hE a; intro a hE
                refine WL.alloc hE hS (runs_plain rfl) zr94 rfl ?_; clear hE hS a w; intro b128 a w hE hS
                refine WL.storeI hE hS 0 rfl (MendArc.cells x115) (runs_plain rfl) rfl rfl rfl ty94 rfl rfl rfl rfl ?_; clear hE hS a w; intro a w hE hS
                refine WL.nil ?_
                refine W.seq ?_
                refine W.region ?_
                refine WL.vS hS hE (runs_plain rfl) (Gives.loadBA hE 0 rfl rfl ty94) rfl ?_; clear hE a; intro a hE
                refine WL.vS hS hE (runs_plain rfl) (Gives.p hE rfl) rfl ?_; clear hE a; intro a hE
                refine WL.fnq hE (Fishref2arcFault_ok hS  rfl (r := Fishref2arcFault x115 ((x0.Ready).length : Int))) (runs_plain rfl) bd63 rfl rfl rfl ?_
                clear hE hS; rintro e w ⟨rfl, hS⟩; refine ⟨_, rfl, ?_⟩; clear a; intro a hE
                refine WL.vS hS hE (runs_plain rfl) (Gives.p hE rfl) rfl ?_; clear hE a; intro a hE
                refine WL.nil ?_
                refine W.seq ?_
                refine W.region ?_
                refine WL.vS hS hE (runs_plain rfl) (Gives.p hE rfl) rfl ?_; clear hE a; intro a hE
                refine WL.vS hS hE (runs_plain rfl) (Gives.p hE rfl) rfl ?_; clear hE a; intro a hE
                refine WL.nil ?_
                refine W.cond hE rfl (fun hc129 => ?_) (fun hc129 => ?_)
                · replace hq112 := iteT hc129 hq112
                  refine W.seq ?_
                  refine W.region ?_
                  refine WL.vS hS hE (runs_plain rfl) (Gives.p hE rfl) rfl ?_; clear hE a; intro a hE
                  refine WL.vS hS hE (runs_plain rfl) (Gives.p hE rfl) rfl ?_; clear hE a; intro a hE
                  refine WL.nil ?_
                  refine W.ret ?_
                  subst hK123
                  rw [← hq112] at hr
                  dsimp only at hr
                  refine finG (fn := Try.f25) (rs := [.tmp 2]) (vs := [_]) hE rfl ⟨rfl, trivial⟩ ?_
                  obtain rfl := Option.some.inj hr
                  replace hS := hS.tail
                  replace hS := hS.tail
                  exact ⟨rfl, hS⟩
                · replace hq112 := iteF hc129 hq112
                  refine W.skip ?_
                  refine W.region ?_
                  refine WL.vS hS hE (runs_plain rfl) (Gives.inc hE rfl (by have := h0_3.small; omega)) rfl ?_; clear hE a; intro a hE
                  refine WL.vS hS hE (runs_plain rfl) (Gives.p hE rfl) rfl ?_; clear hE a; intro a hE
                  refine WL.nil ?_
                  replace hS := hS.tail
                  subst hK123
                  exact ⟨rest116.length, Nat.lt_succ_self _, rest116, k114 + 1, rfl, hd117, hq112, hE.pick _ ⟨rfl, rfl, rfl, rfl, rfl, trivial⟩, hS⟩
            · clear hE hS a w; rintro a w ⟨rfl, hE, hS⟩
              dsimp only at hr
              refine W.seq ?_
              refine W.seq ?_
              refine W.region ?_
              refine WL.vS hS hE (runs_plain rfl) (Gives.fld hE rfl fl50_4) rfl ?_; clear hE a; intro a hE
              refine WL.vS hS hE (runs_plain rfl) (Gives.loadB hE 0 rfl rfl rfl ty48) rfl ?_; clear hE a; intro a hE
              refine WL.vS hS hE (runs_plain rfl) (Gives.len hE rfl sl48) rfl ?_; clear hE a; intro a hE
              refine WL.vS hS hE (runs_plain rfl) (Gives.p hE rfl) rfl ?_; clear hE a; intro a hE
              refine WL.nil ?_
              obtain ⟨q131, hq130, hr⟩ := bndS hr
              refine W.cut (fun a w => (.next ()) = q131 ∧ Rep a 124 [] ∧ St w s (pt b51 (.cells #[.slice a0_0 x0.Ready.length c0_0, .slice a0_1 x0.Last.length c0_1, .slice a0_2 x0.Due.length c0_2, .slice a0_3 x0.Arcs.length c0_3, .slice a0_4 x0.Choices.length c0_4] 50 (0, 0)) :: R)) ?_ ?_
              · refine W.block ?_
                refine W.loop (fun m a w => ∃ (rest134 : List MendChoice) (k132 : Nat), rest134.length = m ∧ x0.Choices.drop k132 = rest134 ∧ Fishref2GraphFault.loop3 x0 rest134 = q131 ∧ Rep a 124 [(3, .int .i64 ((x0.Ready).length : Int)), (89, .slice a0_4 x0.Choices.length c0_4), (90, .int .i64 ((x0.Choices).length : Int)), (91, .int .i64 ((k132 : Nat) : Int))] ∧ St w s (pt b51 (.cells #[.slice a0_0 x0.Ready.length c0_0, .slice a0_1 x0.Last.length c0_1, .slice a0_2 x0.Due.length c0_2, .slice a0_3 x0.Arcs.length c0_3, .slice a0_4 x0.Choices.length c0_4] 50 (0, 0)) :: R)) (m := x0.Choices.length) ⟨x0.Choices, 0, rfl, rfl, hq130, hE.pick _ ⟨rfl, rfl, rfl, rfl, trivial⟩, hS⟩ ?_
                clear hE hS a w hq130; rintro m138 a w ⟨rest134, k132, rfl, hd135, hq130, hE, hS⟩
                refine W.gen fun K141 hK141 => ?_
                rcases rest134 with _ | ⟨x133, rest134⟩
                · have hlt136 := drop_nil hd135
                  refine W.seq ?_
                  refine W.region ?_
                  refine WL.vS hS hE (runs_plain rfl) (Gives.p hE rfl) rfl ?_; clear hE a; intro a hE
                  refine WL.nil ?_
                  refine W.seq ?_
                  refine W.condF hE rfl (decide_eq_false (by omega)) ?_
                  subst hK141
                  refine W.exit rfl ?_
                  exact ⟨hq130, hE.pick _ trivial, hS⟩
                · obtain ⟨hlt136, hx137, hd135⟩ := drop_cons hd135
                  rw [Fishref2GraphFault.loop3] at hq130
                  refine W.seq ?_
                  refine W.region ?_
                  refine WL.vS hS hE (runs_plain rfl) (Gives.p hE rfl) rfl ?_; clear hE a; intro a hE
                  refine WL.nil ?_
                  refine W.seq ?_
                  refine W.condT hE rfl (decide_eq_true (by omega)) ?_
                  refine W.skip ?_
                  refine W.seq ?_
                  refine W.block ?_
                  refine W.seq ?_
                  refine W.region ?_
                  obtain ⟨cs142, hl143, hR144, hat145⟩ := h0_4.at hx137
                  obtain ⟨a146, c147, rfl, h148⟩ := hR144
                  refine WL.vS hS hE (runs_plain rfl) (Gives.idx hE k132 rfl rfl sl48 rfl hlt136 (h0_4.aok hlt136)) rfl ?_; clear hE a; intro a hE
                  refine WL.vS hS hE (runs_plain rfl) (Gives.loadA hE rfl (fun w h => hat145 w _ h) ty97) rfl ?_; clear hE a; intro a hE
                  refine WL.alloc hE hS (runs_plain rfl) zr97 rfl ?_; clear hE hS a w; intro b149 a w hE hS
                  refine WL.storeI hE hS 0 rfl [.slice a146 x133.Ways.length c147] (runs_plain rfl) rfl rfl rfl ty97 rfl rfl rfl rfl ?_; clear hE hS a w; intro a w hE hS
                  refine WL.nil ?_
                  refine W.seq ?_
                  refine W.seq ?_
                  refine W.region ?_
                  refine WL.vS hS hE (runs_plain rfl) (Gives.fld hE rfl fl97_0) rfl ?_; clear hE a; intro a hE
                  refine WL.vS hS hE (runs_plain rfl) (Gives.loadB hE 0 rfl rfl rfl ty95) rfl ?_; clear hE a; intro a hE
                  refine WL.vS hS hE (runs_plain rfl) (Gives.len hE rfl sl95) rfl ?_; clear hE a; intro a hE
                  refine WL.vS hS hE (runs_plain rfl) (Gives.p hE rfl) rfl ?_; clear hE a; intro a hE
                  refine WL.nil ?_
                  refine W.cond hE rfl (fun hc150 => ?_) (fun hc150 => ?_)
                  · replace hq130 := iteT hc150 hq130
                    refine W.seq ?_
                    refine W.region ?_
                    refine WL.vS hS hE (runs_plain rfl) (Gives.p hE rfl) rfl ?_; clear hE a; intro a hE
                    refine WL.nil ?_
                    refine W.ret ?_
                    subst hK141
                    rw [← hq130] at hr
                    dsimp only at hr
                    refine finG (fn := Try.f25) (rs := [.tmp 2]) (vs := [_]) hE rfl ⟨rfl, trivial⟩ ?_
                    obtain rfl := Option.some.inj hr
                    replace hS := hS.tail
                    replace hS := hS.tail
                    exact ⟨rfl, hS⟩
                  · replace hq130 := iteF hc150 hq130
                    refine W.skip ?_
                    refine W.seq ?_
                    refine W.region ?_
                    refine WL.vS hS hE (runs_plain rfl) (Gives.fld hE rfl fl97_0) rfl ?_; clear hE a; intro a hE
                    refine WL.vS hS hE (runs_plain rfl) (Gives.loadB hE 0 rfl rfl rfl ty95) rfl ?_; clear hE a; intro a hE
                    refine WL.vS hS hE (runs_plain rfl) (Gives.len hE rfl sl95) rfl ?_; clear hE a; intro a hE
                    refine WL.vS hS hE (runs_plain rfl) (Gives.p hE rfl) rfl ?_; clear hE a; intro a hE
                    refine WL.nil ?_
                    obtain ⟨q152, hq151, hq130⟩ := bndS hq130
                    refine W.cut (fun a w => (.next ()) = q152 ∧ Rep a 124 [(3, .int .i64 ((x0.Ready).length : Int)), (89, .slice a0_4 x0.Choices.length c0_4), (90, .int .i64 ((x0.Choices).length : Int)), (91, .int .i64 ((k132 : Nat) : Int))] ∧ St w s (pt b149 (.cells #[.slice a146 x133.Ways.length c147] 97 (0, 0)) :: pt b51 (.cells #[.slice a0_0 x0.Ready.length c0_0, .slice a0_1 x0.Last.length c0_1, .slice a0_2 x0.Due.length c0_2, .slice a0_3 x0.Arcs.length c0_3, .slice a0_4 x0.Choices.length c0_4] 50 (0, 0)) :: R)) ?_ ?_
                    · refine W.block ?_
                      refine W.loop (fun m a w => ∃ (rest155 : List (List MendArc)) (k153 : Nat), rest155.length = m ∧ x133.Ways.drop k153 = rest155 ∧ Fishref2GraphFault.loop4 x0 rest155 = q152 ∧ Rep a 124 [(3, .int .i64 ((x0.Ready).length : Int)), (89, .slice a0_4 x0.Choices.length c0_4), (90, .int .i64 ((x0.Choices).length : Int)), (91, .int .i64 ((k132 : Nat) : Int)), (100, .slice a146 x133.Ways.length c147), (101, .int .i64 ((x133.Ways).length : Int)), (102, .int .i64 ((k153 : Nat) : Int))] ∧ St w s (pt b149 (.cells #[.slice a146 x133.Ways.length c147] 97 (0, 0)) :: pt b51 (.cells #[.slice a0_0 x0.Ready.length c0_0, .slice a0_1 x0.Last.length c0_1, .slice a0_2 x0.Due.length c0_2, .slice a0_3 x0.Arcs.length c0_3, .slice a0_4 x0.Choices.length c0_4] 50 (0, 0)) :: R)) (m := x133.Ways.length) ⟨x133.Ways, 0, rfl, rfl, hq151, hE.pick _ ⟨rfl, rfl, rfl, rfl, rfl, rfl, rfl, trivial⟩, hS⟩ ?_
                      clear hE hS a w hq151; rintro m159 a w ⟨rest155, k153, rfl, hd156, hq151, hE, hS⟩
                      refine W.gen fun K162 hK162 => ?_
                      rcases rest155 with _ | ⟨x154, rest155⟩
                      · have hlt157 := drop_nil hd156
                        refine W.seq ?_
                        refine W.region ?_
                        refine WL.vS hS hE (runs_plain rfl) (Gives.p hE rfl) rfl ?_; clear hE a; intro a hE
                        refine WL.nil ?_
                        refine W.seq ?_
                        refine W.condF hE rfl (decide_eq_false (by omega)) ?_
                        subst hK162
                        refine W.exit rfl ?_
                        exact ⟨hq151, hE.pick _ ⟨rfl, rfl, rfl, rfl, trivial⟩, hS⟩
                      · obtain ⟨hlt157, hx158, hd156⟩ := drop_cons hd156
                        rw [Fishref2GraphFault.loop4] at hq151
                        refine W.seq ?_
                        refine W.region ?_
                        refine WL.vS hS hE (runs_plain rfl) (Gives.p hE rfl) rfl ?_; clear hE a; intro a hE
                        refine WL.nil ?_
                        refine W.seq ?_
                        refine W.condT hE rfl (decide_eq_true (by omega)) ?_
                        refine W.skip ?_
                        refine W.seq ?_
                        refine W.block ?_
                        refine W.seq ?_
                        refine W.region ?_
                        obtain ⟨cs163, hl164, hR165, hat166⟩ := h148.at hx158
                        obtain ⟨a167, c168, rfl, h169⟩ := hR165
                        refine WL.vS hS hE (runs_plain rfl) (Gives.idx hE k153 rfl rfl sl95 rfl hlt157 (h148.aok hlt157)) rfl ?_; clear hE a; intro a hE
                        refine WL.vS hS hE (runs_plain rfl) (Gives.load1 hE rfl (fun w h => hat166 w _ h) ty47) rfl ?_; clear hE a; intro a hE
                        refine WL.vS hS hE (runs_plain rfl) (Gives.p hE rfl) rfl ?_; clear hE a; intro a hE
                        refine WL.nil ?_
                        refine W.seq ?_
                        refine W.seq ?_
                        refine W.region ?_
                        refine WL.vS hS hE (runs_plain rfl) (Gives.p hE rfl) rfl ?_; clear hE a; intro a hE
                        refine WL.vS hS hE (runs_plain rfl) (Gives.len hE rfl sl47) rfl ?_; clear hE a; intro a hE
                        refine WL.vS hS hE (runs_plain rfl) (Gives.p hE rfl) rfl ?_; clear hE a; intro a hE
                        refine WL.nil ?_
                        refine W.cond hE rfl (fun hc170 => ?_) (fun hc170 => ?_)
                        · replace hq151 := iteT hc170 hq151
                          refine W.seq ?_
                          refine W.region ?_
                          refine WL.vS hS hE (runs_plain rfl) (Gives.p hE rfl) rfl ?_; clear hE a; intro a hE
                          refine WL.nil ?_
                          refine W.ret ?_
                          subst hK162
                          subst hK141
                          rw [← hq151] at hq130
                          dsimp only at hq130
                          rw [← hq130] at hr
                          dsimp only at hr
                          refine finG (fn := Try.f25) (rs := [.tmp 2]) (vs := [_]) hE rfl ⟨rfl, trivial⟩ ?_
                          obtain rfl := Option.some.inj hr
                          replace hS := hS.tail
                          replace hS := hS.tail
                          exact ⟨rfl, hS⟩
                        · replace hq151 := iteF hc170 hq151
                          refine W.skip ?_
                          refine W.seq ?_
                          refine W.region ?_
                          refine WL.vS hS hE (runs_plain rfl) (Gives.p hE rfl) rfl ?_; clear hE a; intro a hE
                          refine WL.vS hS hE (runs_plain rfl) (Gives.len hE rfl sl47) rfl ?_; clear hE a; intro a hE
                          refine WL.vS hS hE (runs_plain rfl) (Gives.p hE rfl) rfl ?_; clear hE a; intro a hE
                          refine WL.nil ?_
                          obtain ⟨q172, hq171, hq151⟩ := bndS hq151
                          refine W.cut (fun a w => (.next ()) = q172 ∧ Rep a 124 [(3, .int .i64 ((x0.Ready).length : Int)), (89, .slice a0_4 x0.Choices.length c0_4), (90, .int .i64 ((x0.Choices).length : Int)), (91, .int .i64 ((k132 : Nat) : Int)), (100, .slice a146 x133.Ways.length c147), (101, .int .i64 ((x133.Ways).length : Int)), (102, .int .i64 ((k153 : Nat) : Int))] ∧ St w s (pt b149 (.cells #[.slice a146 x133.Ways.length c147] 97 (0, 0)) :: pt b51 (.cells #[.slice a0_0 x0.Ready.length c0_0, .slice a0_1 x0.Last.length c0_1, .slice a0_2 x0.Due.length c0_2, .slice a0_3 x0.Arcs.length c0_3, .slice a0_4 x0.Choices.length c0_4] 50 (0, 0)) :: R)) ?_ ?_
                          · refine W.block ?_
                            refine W.loop (fun m a w => ∃ (rest175 : List MendArc) (k173 : Nat), rest175.length = m ∧ x154.drop k173 = rest175 ∧ Fishref2GraphFault.loop5 x0 rest175 = q172 ∧ Rep a 124 [(3, .int .i64 ((x0.Ready).length : Int)), (89, .slice a0_4 x0.Choices.length c0_4), (90, .int .i64 ((x0.Choices).length : Int)), (91, .int .i64 ((k132 : Nat) : Int)), (100, .slice a146 x133.Ways.length c147), (101, .int .i64 ((x133.Ways).length : Int)), (102, .int .i64 ((k153 : Nat) : Int)), (109, .slice a167 x154.length c168), (110, .int .i64 ((x154).length : Int)), (111, .int .i64 ((k173 : Nat) : Int))] ∧ St w s (pt b149 (.cells #[.slice a146 x133.Ways.length c147] 97 (0, 0)) :: pt b51 (.cells #[.slice a0_0 x0.Ready.length c0_0, .slice a0_1 x0.Last.length c0_1, .slice a0_2 x0.Due.length c0_2, .slice a0_3 x0.Arcs.length c0_3, .slice a0_4 x0.Choices.length c0_4] 50 (0, 0)) :: R)) (m := x154.length) ⟨x154, 0, rfl, rfl, hq171, hE.pick _ ⟨rfl, rfl, rfl, rfl, rfl, rfl, rfl, rfl, rfl, rfl, trivial⟩, hS⟩ ?_
                            clear hE hS a w hq171; rintro m179 a w ⟨rest175, k173, rfl, hd176, hq171, hE, hS⟩
                            refine W.gen fun K182 hK182 => ?_
                            rcases rest175 with _ | ⟨x174, rest175⟩
                            · have hlt177 := drop_nil hd176
                              refine W.seq ?_
                              refine W.region ?_
                              refine WL.vS hS hE (runs_plain rfl) (Gives.p hE rfl) rfl ?_; clear hE a; intro a hE
                              refine WL.nil ?_
                              refine W.seq ?_
                              refine W.condF hE rfl (decide_eq_false (by omega)) ?_
                              subst hK182
                              refine W.exit rfl ?_
                              exact ⟨hq171, hE.pick _ ⟨rfl, rfl, rfl, rfl, rfl, rfl, rfl, trivial⟩, hS⟩
                            · obtain ⟨hlt177, hx178, hd176⟩ := drop_cons hd176
                              rw [Fishref2GraphFault.loop5] at hq171
                              refine W.seq ?_
                              refine W.region ?_
                              refine WL.vS hS hE (runs_plain rfl) (Gives.p hE rfl) rfl ?_; clear hE a; intro a hE
                              refine WL.nil ?_
                              refine W.seq ?_
                              refine W.condT hE rfl (decide_eq_true (by omega)) ?_
                              refine W.skip ?_
                              refine W.seq ?_
                              refine W.block ?_
                              refine W.seq ?_
                              refine W.region ?_
                              obtain ⟨cs183, hl184, hR185, hat186⟩ := h169.at hx178
                              subst hR185
                              refine WL.vS hS hE (runs_plain rfl) (Gives.idx hE k173 rfl rfl sl47 rfl hlt177 (h169.aok hlt177)) rfl ?_; clear hE a; intro a hE
                              refine WL.vS hS hE (runs_plain rfl) (Gives.loadA hE rfl (fun w h => hat186 w _ h) ty94) rfl ?_; clear hE a; intro a hE
                              refine WL.alloc hE hS (runs_plain rfl) zr94 rfl ?_; clear hE hS a w; intro b187 a w hE hS
                              refine WL.storeI hE hS 0 rfl (MendArc.cells x174) (runs_plain rfl) rfl rfl rfl ty94 rfl rfl rfl rfl ?_; clear hE hS a w; intro a w hE hS
                              refine WL.nil ?_
                              refine W.seq ?_
                              refine W.region ?_
                              refine WL.vS hS hE (runs_plain rfl) (Gives.loadBA hE 0 rfl rfl ty94) rfl ?_; clear hE a; intro a hE
                              refine WL.vS hS hE (runs_plain rfl) (Gives.p hE rfl) rfl ?_; clear hE a; intro a hE
                              refine WL.fnq hE (Fishref2arcFault_ok hS  rfl (r := Fishref2arcFault x174 ((x0.Ready).length : Int))) (runs_plain rfl) bd63 rfl rfl rfl ?_
                              clear hE hS; rintro e w ⟨rfl, hS⟩; refine ⟨_, rfl, ?_⟩; clear a; intro a hE
                              refine WL.vS hS hE (runs_plain rfl) (Gives.p hE rfl) rfl ?_; clear hE a; intro a hE
                              refine WL.nil ?_
                              refine W.seq ?_
                              refine W.region ?_
                              refine WL.vS hS hE (runs_plain rfl) (Gives.p hE rfl) rfl ?_; clear hE a; intro a hE
                              refine WL.vS hS hE (runs_plain rfl) (Gives.p hE rfl) rfl ?_; clear hE a; intro a hE
                              refine WL.nil ?_
                              refine W.cond hE rfl (fun hc188 => ?_) (fun hc188 => ?_)
                              · replace hq171 := iteT hc188 hq171
                                refine W.seq ?_
                                refine W.region ?_
                                refine WL.vS hS hE (runs_plain rfl) (Gives.p hE rfl) rfl ?_; clear hE a; intro a hE
                                refine WL.vS hS hE (runs_plain rfl) (Gives.p hE rfl) rfl ?_; clear hE a; intro a hE
                                refine WL.nil ?_
                                refine W.ret ?_
                                subst hK182
                                subst hK162
                                subst hK141
                                rw [← hq171] at hq151
                                dsimp only at hq151
                                rw [← hq151] at hq130
                                dsimp only at hq130
                                rw [← hq130] at hr
                                dsimp only at hr
                                refine finG (fn := Try.f25) (rs := [.tmp 2]) (vs := [_]) hE rfl ⟨rfl, trivial⟩ ?_
                                obtain rfl := Option.some.inj hr
                                replace hS := hS.tail
                                replace hS := hS.tail
                                replace hS := hS.tail
                                exact ⟨rfl, hS⟩
                              · replace hq171 := iteF hc188 hq171
                                refine W.skip ?_
                                refine W.region ?_
                                refine WL.vS hS hE (runs_plain rfl) (Gives.inc hE rfl (by have := h169.small; omega)) rfl ?_; clear hE a; intro a hE
                                refine WL.vS hS hE (runs_plain rfl) (Gives.p hE rfl) rfl ?_; clear hE a; intro a hE
                                refine WL.nil ?_
                                replace hS := hS.tail
                                subst hK182
                                exact ⟨rest175.length, Nat.lt_succ_self _, rest175, k173 + 1, rfl, hd176, hq171, hE.pick _ ⟨rfl, rfl, rfl, rfl, rfl, rfl, rfl, rfl, rfl, rfl, trivial⟩, hS⟩
                          · clear hE hS a w; rintro a w ⟨rfl, hE, hS⟩
                            dsimp only at hq151
                            refine W.region ?_
                            refine WL.vS hS hE (runs_plain rfl) (Gives.inc hE rfl (by have := h148.small; omega)) rfl ?_; clear hE a; intro a hE
                            refine WL.vS hS hE (runs_plain rfl) (Gives.p hE rfl) rfl ?_; clear hE a; intro a hE
                            refine WL.nil ?_
                            subst hK162
                            exact ⟨rest155.length, Nat.lt_succ_self _, rest155, k153 + 1, rfl, hd156, hq151, hE.pick _ ⟨rfl, rfl, rfl, rfl, rfl, rfl, rfl, trivial⟩, hS⟩
                    · clear hE hS a w; rintro a w ⟨rfl, hE, hS⟩
                      dsimp only at hq130
                      refine W.region ?_
                      refine WL.vS hS hE (runs_plain rfl) (Gives.inc hE rfl (by have := h0_4.small; omega)) rfl ?_; clear hE a; intro a hE
                      refine WL.vS hS hE (runs_plain rfl) (Gives.p hE rfl) rfl ?_; clear hE a; intro a hE
                      refine WL.nil ?_
                      replace hS := hS.tail
                      subst hK141
                      exact ⟨rest134.length, Nat.lt_succ_self _, rest134, k132 + 1, rfl, hd135, hq130, hE.pick _ ⟨rfl, rfl, rfl, rfl, trivial⟩, hS⟩
              · clear hE hS a w; rintro a w ⟨rfl, hE, hS⟩
                dsimp only at hr
                refine W.seq ?_
                refine W.region ?_
                refine WL.vS hS hE (runs_plain rfl) (Gives.p hE rfl) rfl ?_; clear hE a; intro a hE
                refine WL.nil ?_
                refine W.ret ?_
                refine finG (fn := Try.f25) (rs := [.tmp 2]) (vs := [_]) hE rfl ⟨rfl, trivial⟩ ?_
                obtain rfl := Option.some.inj hr
                replace hS := hS.tail
                exact ⟨rfl, hS⟩
set_option maxHeartbeats 8000000 in
theorem SlicesEqualLint_ok  {w : World} {s : Sg} {R : List HP} {x0 : List Int} {a0 : Option Addr} {c0 : Nat} {x1 : List Int} {a1 : Option Addr} {c1 : Nat} (hS : St w s (R)) (h0 : Sl 1 (RI .i64) s a0 c0 x0) (h1 : Sl 1 (RI .i64) s a1 c1 x1) {r : Bool} (hr : SlicesEqualLint x0 x1 = some r) :
    Calls Try.prog 28 [.slice a0 x0.length c0, .slice a1 x1.length c1].toArray w (fun e w => e = .returned (.bool r) ∧ St w s (R)) := by
  refine enter Try.func28 rfl rfl rfl fun a hE => ?_
  rw [SlicesEqualLint] at hr
  refine W.seq ?_
  refine W.region ?_
  refine WL.vS hS hE (runs_plain rfl) (Gives.p hE rfl) rfl ?_; clear hE a; intro a hE
  refine WL.nil ?_
  refine W.seq ?_
  refine W.seq ?_
  refine W.region ?_
  refine WL.vS hS hE (runs_plain rfl) (Gives.p hE rfl) rfl ?_; clear hE a; intro a hE
  refine WL.vS hS hE (runs_plain rfl) (Gives.len hE rfl sl22) rfl ?_; clear hE a; intro a hE
  refine WL.vS hS hE (runs_plain rfl) (Gives.p hE rfl) rfl ?_; clear hE a; intro a hE
  refine WL.vS hS hE (runs_plain rfl) (Gives.len hE rfl sl22) rfl ?_; clear hE a; intro a hE
  refine WL.vS hS hE (runs_plain rfl) (Gives.p hE rfl) rfl ?_; clear hE a; intro a hE
  refine WL.nil ?_
  refine W.cond hE rfl (fun hc51 => ?_) (fun hc51 => ?_)
  · replace hr := iteT hc51 hr
    refine W.seq ?_
    refine W.region ?_
    refine WL.vS hS hE (runs_plain rfl) (Gives.p hE rfl) rfl ?_; clear hE a; intro a hE
    refine WL.nil ?_
    refine W.ret ?_
    refine finG (fn := Try.f28) (rs := [.tmp 4]) (vs := [_]) hE rfl ⟨rfl, trivial⟩ ?_
    obtain rfl := Option.some.inj hr
    exact ⟨rfl, hS⟩
  · replace hr := iteF hc51 hr
    refine W.skip ?_
    refine W.seq ?_
    refine W.seq ?_
    refine W.region ?_
    refine WL.vS hS hE (runs_plain rfl) (Gives.p hE rfl) rfl ?_; clear hE a; intro a hE
    refine WL.vS hS hE (runs_plain rfl) (Gives.len hE rfl sl22) rfl ?_; clear hE a; intro a hE
    refine WL.vS hS hE (runs_plain rfl) (Gives.p hE rfl) rfl ?_; clear hE a; intro a hE
    refine WL.nil ?_
    obtain ⟨q53, hq52, hr⟩ := bindS hr
    refine W.cut (fun a w => (.next ()) = q53 ∧ Rep a 26 [] ∧ St w s (R)) ?_ ?_
    · refine W.block ?_
      refine W.loop (fun m a w => ∃ (rest56 : List Int) (k54 : Nat), rest56.length = m ∧ x0.drop k54 = rest56 ∧ SlicesEqualLint.loop1 x1 rest56 k54 = some q53 ∧ Rep a 26 [(0, .slice a0 x0.length c0), (1, .slice a1 x1.length c1), (12, .int .i64 ((x0).length : Int)), (13, .int .i64 ((k54 : Nat) : Int))] ∧ St w s (R)) (m := x0.length) ⟨x0, 0, rfl, rfl, hq52, hE.pick _ ⟨rfl, rfl, rfl, rfl, trivial⟩, hS⟩ ?_
      clear hE hS a w hq52; rintro m60 a w ⟨rest56, k54, rfl, hd57, hq52, hE, hS⟩
      refine W.gen fun K63 hK63 => ?_
      rcases rest56 with _ | ⟨x55, rest56⟩
      · have hlt58 := drop_nil hd57
        refine W.seq ?_
        refine W.region ?_
        refine WL.vS hS hE (runs_plain rfl) (Gives.p hE rfl) rfl ?_; clear hE a; intro a hE
        refine WL.nil ?_
        refine W.seq ?_
        refine W.condF hE rfl (decide_eq_false (by omega)) ?_
        subst hK63
        refine W.exit rfl ?_
        exact ⟨Option.some.inj hq52, hE.pick _ trivial, hS⟩
      · obtain ⟨hlt58, hx59, hd57⟩ := drop_cons hd57
        rw [SlicesEqualLint.loop1] at hq52
        refine W.seq ?_
        refine W.region ?_
        refine WL.vS hS hE (runs_plain rfl) (Gives.p hE rfl) rfl ?_; clear hE a; intro a hE
        refine WL.nil ?_
        refine W.seq ?_
        refine W.condT hE rfl (decide_eq_true (by omega)) ?_
        refine W.skip ?_
        refine W.seq ?_
        refine W.block ?_
        refine W.seq ?_
        refine W.region ?_
        refine WL.vS hS hE (runs_plain rfl) (Gives.p hE rfl) rfl ?_; clear hE a; intro a hE
        refine WL.vS hS hE (runs_plain rfl) (Gives.p hE rfl) rfl ?_; clear hE a; intro a hE
        refine WL.nil ?_
        refine W.seq ?_
        refine W.regionQ (C := fun w => St w s (R)) mixed (by kernel_rfl) hS.drew ?_
        refine QL.v hE (runs_plain rfl) (Gives.p hE rfl) rfl ?_; clear hE a; intro a hE
        refine QL.v hE (runs_plain rfl) (Gives.p hE rfl) rfl ?_; clear hE a; intro a hE
        obtain ⟨cs64, hl65, hR66, hat67⟩ := h0.at hx59
        subst hR66
        refine QL.v hE (runs_plain rfl) (Gives.idx hE k54 rfl rfl sl22 rfl hlt58 (h0.aok hlt58)) rfl ?_; clear hE a; intro a hE
        refine QL.v hE (runs_plain rfl) (Gives.load1 hE rfl (fun w h => hat67 w _ h) ty3) rfl ?_; clear hE a; intro a hE
        refine QL.v hE (runs_plain rfl) (Gives.p hE rfl) rfl ?_; clear hE a; intro a hE
        refine QL.v hE (runs_plain rfl) (Gives.p hE rfl) rfl ?_; clear hE a; intro a hE
        obtain ⟨x68, hx69, hq52⟩ := bindS hq52
        obtain ⟨hi70, hlt71, hy72⟩ := gx_some hx69
        obtain ⟨cs73, hl74, hR75, hat76⟩ := h1.at hy72
        subst hR75
        refine QL.v hE (runs_plain rfl) (Gives.idx hE (((k54 : Nat) : Int)).toNat rfl rfl sl22 hi70 hlt71 (h1.aok hlt71)) rfl ?_; clear hE a; intro a hE
        refine QL.v hE (runs_plain rfl) (Gives.load1 hE rfl (fun w h => hat76 w _ h) ty3) rfl ?_; clear hE a; intro a hE
        refine QL.v hE (runs_plain rfl) (Gives.p hE rfl) rfl ?_; clear hE a; intro a hE
        refine QL.nil ?_; clear hS w; intro w hS
        refine W.cond hE rfl (fun hc77 => ?_) (fun hc77 => ?_)
        · replace hq52 := iteT hc77 hq52
          refine W.seq ?_
          refine W.region ?_
          refine WL.vS hS hE (runs_plain rfl) (Gives.p hE rfl) rfl ?_; clear hE a; intro a hE
          refine WL.nil ?_
          refine W.ret ?_
          subst hK63
          rw [← Option.some.inj hq52] at hr
          dsimp only at hr
          refine finG (fn := Try.f28) (rs := [.tmp 4]) (vs := [_]) hE rfl ⟨rfl, trivial⟩ ?_
          obtain rfl := Option.some.inj hr
          exact ⟨rfl, hS⟩
        · replace hq52 := iteF hc77 hq52
          refine W.skip ?_
          refine W.region ?_
          refine WL.vS hS hE (runs_plain rfl) (Gives.inc hE rfl (by have := h0.small; omega)) rfl ?_; clear hE a; intro a hE
          refine WL.vS hS hE (runs_plain rfl) (Gives.p hE rfl) rfl ?_; clear hE a; intro a hE
          refine WL.nil ?_
          subst hK63
          exact ⟨rest56.length, Nat.lt_succ_self _, rest56, k54 + 1, rfl, hd57, hq52, hE.pick _ ⟨rfl, rfl, rfl, rfl, trivial⟩, hS⟩
    · clear hE hS a w; rintro a w ⟨rfl, hE, hS⟩
      dsimp only at hr
      refine W.seq ?_
      refine W.region ?_
      refine WL.vS hS hE (runs_plain rfl) (Gives.p hE rfl) rfl ?_; clear hE a; intro a hE
      refine WL.nil ?_
      refine W.ret ?_
      refine finG (fn := Try.f28) (rs := [.tmp 4]) (vs := [_]) hE rfl ⟨rfl, trivial⟩ ?_
      obtain rfl := Option.some.inj hr
      exact ⟨rfl, hS⟩
set_option maxHeartbeats 8000000 in
theorem Fishlaw2graphs_ok {fu : Nat}  {w : World} {s : Sg} {R : List HP}  (hS : St w s (R))  {r : Bool} (hr : Fishlaw2graphs fu = some r) :
    Calls Try.prog 23 [].toArray w (fun e w => e = .returned (.bool r) ∧ St w s (R)) := by
  refine enter Try.func23 rfl rfl rfl fun a hE => ?_
  rw [Fishlaw2graphs] at hr
  refine W.seq ?_
  refine W.region ?_
  refine WL.vS hS hE (runs_plain rfl) (Gives.p hE rfl) rfl ?_; clear hE a; intro a hE
  refine WL.nil ?_
  refine W.seq ?_
  refine W.region ?_
  refine WL.lit hE hS (e := 3) (es := 1) (vs := [(0, .int .i64 0), (1, .int .i64 10)]) (cs := [.int .i64 0, .int .i64 10]) (runs_plain rfl) rfl (by kernel_rfl) rfl ?_; clear hE hS a w; intro b51 a w hE hS
  replace hS := hS.ptVec (es := 1) (m := 2) rfl (by decide)
  have h53 : Ev 1 (RI .i64) s [.int .i64 0, .int .i64 10] [0, 10] := (Ev.cons (c1 := [.int .i64 0]) rfl rfl (Ev.cons (c1 := [.int .i64 10]) rfl rfl (Ev.nil)))
  have hF := hS.fixD RI.mono 0 rfl h53 (rfl); clear hS; obtain ⟨s54, hle55, hS, h56⟩ := hF
  refine WL.lit hE hS (e := 3) (es := 1) (vs := [(0, .int .i64 (-1)), (1, .int .i64 (-1))]) (cs := [.int .i64 (-1), .int .i64 (-1)]) (runs_plain rfl) rfl (by kernel_rfl) rfl ?_; clear hE hS a w; intro b57 a w hE hS
  replace hS := hS.ptVec (es := 1) (m := 2) rfl (by decide)
  have h59 : Ev 1 (RI .i64) s54 [.int .i64 (-1), .int .i64 (-1)] [(-1), (-1)] := (Ev.cons (c1 := [.int .i64 (-1)]) rfl rfl (Ev.cons (c1 := [.int .i64 (-1)]) rfl rfl (Ev.nil)))
  have hF := hS.fixD RI.mono 0 rfl h59 (rfl); clear hS; obtain ⟨s60, hle61, hS, h62⟩ := hF
  replace h56 := Sl.mono RI.mono hle61 h56
  refine WL.lit hE hS (e := 3) (es := 1) (vs := [(0, .int .i64 0), (1, .int .i64 10)]) (cs := [.int .i64 0, .int .i64 10]) (runs_plain rfl) rfl (by kernel_rfl) rfl ?_; clear hE hS a w; intro b63 a w hE hS
  replace hS := hS.ptVec (es := 1) (m := 2) rfl (by decide)
  have h65 : Ev 1 (RI .i64) s60 [.int .i64 0, .int .i64 10] [0, 10] := (Ev.cons (c1 := [.int .i64 0]) rfl rfl (Ev.cons (c1 := [.int .i64 10]) rfl rfl (Ev.nil)))
  have hF := hS.fixD RI.mono 0 rfl h65 (rfl); clear hS; obtain ⟨s66, hle67, hS, h68⟩ := hF
  replace h56 := Sl.mono RI.mono hle67 h56
  replace h62 := Sl.mono RI.mono hle67 h62
  refine WL.vS hS hE (runs_plain rfl) (Gives.build hE (vs := [(0, .int .i64 0), (1, .int .i64 1), (2, .int .i64 20)]) [.int .i64 0, .int .i64 1, .int .i64 20] rfl (by kernel_rfl)) rfl ?_; clear hE a; intro a hE
  refine WL.lit hE hS (e := 94) (es := 3) (vs := [(0, .agg [.int .i64 0, .int .i64 1, .int .i64 20].toArray)]) (cs := [.int .i64 0, .int .i64 1, .int .i64 20]) (runs_plain rfl) rfl (by kernel_rfl) rfl ?_; clear hE hS a w; intro b69 a w hE hS
  replace hS := hS.ptVec (es := 3) (m := 1) rfl (by decide)
  have h71 : Ev 3 RMendArc s66 [.int .i64 0, .int .i64 1, .int .i64 20] [(MendArc.mk 0 1 20)] := (Ev.cons (c1 := [.int .i64 0, .int .i64 1, .int .i64 20]) rfl rfl (Ev.nil))
  have hF := hS.fixD RMendArc.mono 0 rfl h71 (rfl); clear hS; obtain ⟨s72, hle73, hS, h74⟩ := hF
  replace h56 := Sl.mono RI.mono hle73 h56
  replace h62 := Sl.mono RI.mono hle73 h62
  replace h68 := Sl.mono RI.mono hle73 h68
  refine WL.vS hS hE (runs_plain rfl) (Gives.build hE (vs := [(0, .int .i64 1), (1, .int .i64 0), (2, .int .i64 5)]) [.int .i64 1, .int .i64 0, .int .i64 5] rfl (by kernel_rfl)) rfl ?_; clear hE a; intro a hE
  refine WL.lit hE hS (e := 94) (es := 3) (vs := [(0, .agg [.int .i64 1, .int .i64 0, .int .i64 5].toArray)]) (cs := [.int .i64 1, .int .i64 0, .int .i64 5]) (runs_plain rfl) rfl (by kernel_rfl) rfl ?_; clear hE hS a w; intro b75 a w hE hS
  replace hS := hS.ptVec (es := 3) (m := 1) rfl (by decide)
  have h77 : Ev 3 RMendArc s72 [.int .i64 1, .int .i64 0, .int .i64 5] [(MendArc.mk 1 0 5)] := (Ev.cons (c1 := [.int .i64 1, .int .i64 0, .int .i64 5]) rfl rfl (Ev.nil))
  have hF := hS.fixD RMendArc.mono 0 rfl h77 (rfl); clear hS; obtain ⟨s78, hle79, hS, h80⟩ := hF
  replace h56 := Sl.mono RI.mono hle79 h56
  replace h62 := Sl.mono RI.mono hle79 h62
  replace h68 := Sl.mono RI.mono hle79 h68
  replace h74 := Sl.mono RMendArc.mono hle79 h74
  refine WL.lit hE hS (e := 47) (es := 1) (vs := [(0, .slice (some ⟨b69, 0, none⟩) 1 1), (1, .slice (some ⟨b75, 0, none⟩) 1 1)]) (cs := [.slice (some ⟨b69, 0, none⟩) 1 1, .slice (some ⟨b75, 0, none⟩) 1 1]) (runs_plain rfl) rfl (by kernel_rfl) rfl ?_; clear hE hS a w; intro b81 a w hE hS
  replace hS := hS.ptVec (es := 1) (m := 2) rfl (by decide)
  have h83 : Ev 1 (RL 3 RMendArc) s78 [.slice (some ⟨b69, 0, none⟩) 1 1, .slice (some ⟨b75, 0, none⟩) 1 1] [[(MendArc.mk 0 1 20)], [(MendArc.mk 1 0 5)]] := (Ev.cons (c1 := [.slice (some ⟨b69, 0, none⟩) 1 1]) ⟨_, _, rfl, h74⟩ rfl (Ev.cons (c1 := [.slice (some ⟨b75, 0, none⟩) 1 1]) ⟨_, _, rfl, h80⟩ rfl (Ev.nil)))
  have hF := hS.fixD (RL.mono RMendArc.mono) 0 rfl h83 (rfl); clear hS; obtain ⟨s84, hle85, hS, h86⟩ := hF
  replace h56 := Sl.mono RI.mono hle85 h56
  replace h62 := Sl.mono RI.mono hle85 h62
  replace h68 := Sl.mono RI.mono hle85 h68
  replace h74 := Sl.mono RMendArc.mono hle85 h74
  replace h80 := Sl.mono RMendArc.mono hle85 h80
  refine WL.vS hS hE (runs_plain rfl) (Gives.build hE (vs := [(0, .slice (some ⟨b81, 0, none⟩) 2 2)]) [.slice (some ⟨b81, 0, none⟩) 2 2] rfl (by kernel_rfl)) rfl ?_; clear hE a; intro a hE
  refine WL.lit hE hS (e := 97) (es := 1) (vs := [(0, .agg [.slice (some ⟨b81, 0, none⟩) 2 2].toArray)]) (cs := [.slice (some ⟨b81, 0, none⟩) 2 2]) (runs_plain rfl) rfl (by kernel_rfl) rfl ?_; clear hE hS a w; intro b87 a w hE hS
  replace hS := hS.ptVec (es := 1) (m := 1) rfl (by decide)
  have h89 : Ev 1 RMendChoice s84 [.slice (some ⟨b81, 0, none⟩) 2 2] [(MendChoice.mk [[(MendArc.mk 0 1 20)], [(MendArc.mk 1 0 5)]])] := (Ev.cons (c1 := [.slice (some ⟨b81, 0, none⟩) 2 2]) ⟨_, _, rfl, h86⟩ rfl (Ev.nil))
  have hF := hS.fixD RMendChoice.mono 0 rfl h89 (rfl); clear hS; obtain ⟨s90, hle91, hS, h92⟩ := hF
  replace h56 := Sl.mono RI.mono hle91 h56
  replace h62 := Sl.mono RI.mono hle91 h62
  replace h68 := Sl.mono RI.mono hle91 h68
  replace h74 := Sl.mono RMendArc.mono hle91 h74
  replace h80 := Sl.mono RMendArc.mono hle91 h80
  replace h86 := Sl.mono (RL.mono RMendArc.mono) hle91 h86
  refine WL.vS hS hE (runs_plain rfl) (Gives.build hE (vs := [(0, .slice (some ⟨b51, 0, none⟩) 2 2), (1, .slice (some ⟨b57, 0, none⟩) 2 2), (2, .slice (some ⟨b63, 0, none⟩) 2 2), (4, .slice (some ⟨b87, 0, none⟩) 1 1)]) [.slice (some ⟨b51, 0, none⟩) 2 2, .slice (some ⟨b57, 0, none⟩) 2 2, .slice (some ⟨b63, 0, none⟩) 2 2, .slice none 0 0, .slice (some ⟨b87, 0, none⟩) 1 1] rfl (by kernel_rfl)) rfl ?_; clear hE a; intro a hE
  refine WL.alloc hE hS (runs_plain rfl) zr50 rfl ?_; clear hE hS a w; intro b93 a w hE hS
  refine WL.storeI hE hS 0 rfl [.slice (some ⟨b51, 0, none⟩) 2 2, .slice (some ⟨b57, 0, none⟩) 2 2, .slice (some ⟨b63, 0, none⟩) 2 2, .slice none 0 0, .slice (some ⟨b87, 0, none⟩) 1 1] (runs_plain rfl) rfl rfl rfl ty50 rfl rfl rfl rfl ?_; clear hE hS a w; intro a w hE hS
  refine WL.nil ?_
  refine W.seq ?_
  refine W.region ?_
  refine WL.vS hS hE (runs_plain rfl) (Gives.loadBA hE 0 rfl rfl ty50) rfl ?_; clear hE a; intro a hE
  obtain ⟨q94, hq95, hr⟩ := bindS hr
  have hc_ := MendBest_ok hS h56 h62 h68 Sl.nil h92 hq95
  refine WL.fnq hE (hc_) (runs_plain rfl) bd26 rfl rfl rfl ?_
  clear hE hS hc_; rintro e w ⟨a96, c97, a99, c100, s102, rfl, hle103, h98, h101, hS⟩; refine ⟨_, rfl, ?_⟩; clear a; intro a hE
  replace h56 := Sl.mono RI.mono hle103 h56
  replace h62 := Sl.mono RI.mono hle103 h62
  replace h68 := Sl.mono RI.mono hle103 h68
  replace h74 := Sl.mono RMendArc.mono hle103 h74
  replace h80 := Sl.mono RMendArc.mono hle103 h80
  replace h86 := Sl.mono (RL.mono RMendArc.mono) hle103 h86
  replace h92 := Sl.mono RMendChoice.mono hle103 h92
  refine WL.vS hS hE (runs_plain rfl) (Gives.p hE rfl) rfl ?_; clear hE a; intro a hE
  refine WL.vS hS hE (runs_plain rfl) (Gives.p hE rfl) rfl ?_; clear hE a; intro a hE
  refine WL.vS hS hE (runs_plain rfl) (Gives.p hE rfl) rfl ?_; clear hE a; intro a hE
  refine WL.vS hS hE (runs_plain rfl) (Gives.p hE rfl) rfl ?_; clear hE a; intro a hE
  refine WL.vS hS hE (runs_plain rfl) (Gives.p hE rfl) rfl ?_; clear hE a; intro a hE
  refine WL.vS hS hE (runs_plain rfl) (Gives.p hE rfl) rfl ?_; clear hE a; intro a hE
  refine WL.vS hS hE (runs_plain rfl) (Gives.p hE rfl) rfl ?_; clear hE a; intro a hE
  refine WL.nil ?_
  refine W.seq ?_
  obtain ⟨q105, hq104, hr⟩ := bindS hr
  refine W.cut (fun a w => ∃ (q108 : Bool), ∃ (s106 : Sg), s102.Le s106 ∧ q108 = q105 ∧ Rep a 34 [(0, .bool q108)] ∧ St w s106 (pt b93 (.cells #[.slice (some ⟨b51, 0, none⟩) 2 2, .slice (some ⟨b57, 0, none⟩) 2 2, .slice (some ⟨b63, 0, none⟩) 2 2, .slice none 0 0, .slice (some ⟨b87, 0, none⟩) 1 1] 50 (0, 0)) :: R)) ?_ ?_
  · refine W.gen fun K109 hK109 => ?_
    refine W.region ?_
    refine WL.vS hS hE (runs_plain rfl) (Gives.p hE rfl) rfl ?_; clear hE a; intro a hE
    refine WL.vS hS hE (runs_plain rfl) (Gives.p hE rfl) rfl ?_; clear hE a; intro a hE
    refine WL.vS hS hE (runs_plain rfl) (Gives.p hE rfl) rfl ?_; clear hE a; intro a hE
    rcases Bool.eq_false_or_eq_true (q94.2.2 == 0) with hg110 | hg110
    · replace hq104 := iteT hg110 hq104
      refine WL.vS hS hE (runs_if hE rfl rfl rfl hg110) (Gives.p hE rfl) rfl ?_; clear hE a; intro a hE
      refine WL.lit hE hS (e := 3) (es := 1) (vs := [(0, .int .i64 1)]) (cs := [.int .i64 1]) (runs_if hE rfl rfl rfl hg110) rfl (by kernel_rfl) rfl ?_; clear hE hS a w; intro b111 a w hE hS
      replace hS := hS.ptVec (es := 1) (m := 1) rfl (by decide)
      have h113 : Ev 1 (RI .i64) s102 [.int .i64 1] [1] := (Ev.cons (c1 := [.int .i64 1]) rfl rfl (Ev.nil))
      have hF := hS.fixD RI.mono 0 rfl h113 (rfl); clear hS; obtain ⟨s114, hle115, hS, h116⟩ := hF
      replace h56 := Sl.mono RI.mono hle115 h56
      replace h62 := Sl.mono RI.mono hle115 h62
      replace h68 := Sl.mono RI.mono hle115 h68
      replace h74 := Sl.mono RMendArc.mono hle115 h74
      replace h80 := Sl.mono RMendArc.mono hle115 h80
      replace h86 := Sl.mono (RL.mono RMendArc.mono) hle115 h86
      replace h92 := Sl.mono RMendChoice.mono hle115 h92
      replace h98 := Sl.mono RI.mono hle115 h98
      replace h101 := Sl.mono RI.mono hle115 h101
      obtain ⟨q117, hq118, hq104⟩ := bindS hq104
      have hc_ := SlicesEqualLint_ok hS h98 h116 hq118
      refine WL.fnq hE (hc_) (runs_if hE rfl rfl rfl hg110) bd28 rfl rfl rfl ?_
      clear hE hS hc_; rintro e w ⟨rfl, hS⟩; refine ⟨_, rfl, ?_⟩; clear a; intro a hE
      refine WL.vS hS hE (runs_plain rfl) (Gives.pickT hE rfl hg110 rfl) rfl ?_; clear hE a; intro a hE
      refine WL.vS hS hE (runs_plain rfl) (Gives.p hE rfl) rfl ?_; clear hE a; intro a hE
      rcases Bool.eq_false_or_eq_true q117 with hg119 | hg119
      · replace hq104 := iteT hg119 hq104
        refine WL.vS hS hE (runs_if hE rfl rfl rfl hg119) (Gives.p hE rfl) rfl ?_; clear hE a; intro a hE
        refine WL.lit hE hS (e := 3) (es := 1) (vs := [(0, .int .i64 0), (1, .int .i64 20)]) (cs := [.int .i64 0, .int .i64 20]) (runs_if hE rfl rfl rfl hg119) rfl (by kernel_rfl) rfl ?_; clear hE hS a w; intro b120 a w hE hS
        replace hS := hS.ptVec (es := 1) (m := 2) rfl (by decide)
        have h122 : Ev 1 (RI .i64) s114 [.int .i64 0, .int .i64 20] [0, 20] := (Ev.cons (c1 := [.int .i64 0]) rfl rfl (Ev.cons (c1 := [.int .i64 20]) rfl rfl (Ev.nil)))
        have hF := hS.fixD RI.mono 0 rfl h122 (rfl); clear hS; obtain ⟨s123, hle124, hS, h125⟩ := hF
        replace h56 := Sl.mono RI.mono hle124 h56
        replace h62 := Sl.mono RI.mono hle124 h62
        replace h68 := Sl.mono RI.mono hle124 h68
        replace h74 := Sl.mono RMendArc.mono hle124 h74
        replace h80 := Sl.mono RMendArc.mono hle124 h80
        replace h86 := Sl.mono (RL.mono RMendArc.mono) hle124 h86
        replace h92 := Sl.mono RMendChoice.mono hle124 h92
        replace h98 := Sl.mono RI.mono hle124 h98
        replace h101 := Sl.mono RI.mono hle124 h101
        replace h116 := Sl.mono RI.mono hle124 h116
        obtain ⟨q126, hq127, hq104⟩ := bindS hq104
        have hc_ := SlicesEqualLint_ok hS h101 h125 hq127
        refine WL.fnq hE (hc_) (runs_if hE rfl rfl rfl hg119) bd28 rfl rfl rfl ?_
        clear hE hS hc_; rintro e w ⟨rfl, hS⟩; refine ⟨_, rfl, ?_⟩; clear a; intro a hE
        refine WL.vS hS hE (runs_plain rfl) (Gives.pickT hE rfl hg119 rfl) rfl ?_; clear hE a; intro a hE
        refine WL.vS hS hE (runs_plain rfl) (Gives.p hE rfl) rfl ?_; clear hE a; intro a hE
        refine WL.nil ?_
        subst hK109
        exact ⟨q126, s123, (Sg.Le.trans hle115 hle124), Option.some.inj hq104, hE.pick _ ⟨rfl, trivial⟩, hS⟩
      · replace hq104 := iteF hg119 hq104
        refine WL.no hE (runs_not hE rfl rfl rfl (by rw [hg119]; decide)) rfl ?_; clear hE a; intro a hE
        refine WL.no hE (runs_not hE rfl rfl rfl (by rw [hg119]; decide)) rfl ?_; clear hE a; intro a hE
        refine WL.no hE (runs_not hE rfl rfl rfl (by rw [hg119]; decide)) rfl ?_; clear hE a; intro a hE
        refine WL.vS hS hE (runs_plain rfl) (Gives.pickF hE rfl hg119 rfl) rfl ?_; clear hE a; intro a hE
        refine WL.vS hS hE (runs_plain rfl) (Gives.p hE rfl) rfl ?_; clear hE a; intro a hE
        refine WL.nil ?_
        subst hK109
        exact ⟨false, s114, hle115, Option.some.inj hq104, hE.pick _ ⟨rfl, trivial⟩, hS⟩
    · replace hq104 := iteF hg110 hq104
      refine WL.no hE (runs_not hE rfl rfl rfl (by rw [hg110]; decide)) rfl ?_; clear hE a; intro a hE
      refine WL.no hE (runs_not hE rfl rfl rfl (by rw [hg110]; decide)) rfl ?_; clear hE a; intro a hE
      refine WL.no hE (runs_not hE rfl rfl rfl (by rw [hg110]; decide)) rfl ?_; clear hE a; intro a hE
      refine WL.vS hS hE (runs_plain rfl) (Gives.pickF hE rfl hg110 rfl) rfl ?_; clear hE a; intro a hE
      refine WL.vS hS hE (runs_plain rfl) (Gives.p hE rfl) rfl ?_; clear hE a; intro a hE
      refine WL.no hE (runs_not hE rfl rfl rfl (by decide)) rfl ?_; clear hE a; intro a hE
      refine WL.no hE (runs_not hE rfl rfl rfl (by decide)) rfl ?_; clear hE a; intro a hE
      refine WL.no hE (runs_not hE rfl rfl rfl (by decide)) rfl ?_; clear hE a; intro a hE
      refine WL.vS hS hE (runs_plain rfl) (Gives.pickF hE rfl rfl rfl) rfl ?_; clear hE a; intro a hE
      refine WL.vS hS hE (runs_plain rfl) (Gives.p hE rfl) rfl ?_; clear hE a; intro a hE
      refine WL.nil ?_
      subst hK109
      exact ⟨false, s102, (Sg.Le.refl _), Option.some.inj hq104, hE.pick _ ⟨rfl, trivial⟩, hS⟩
  · clear hE hS a w; rintro a w ⟨q108, s106, hle107, rfl, hE, hS⟩
    replace h56 := Sl.mono RI.mono hle107 h56
    replace h62 := Sl.mono RI.mono hle107 h62
    replace h68 := Sl.mono RI.mono hle107 h68
    replace h92 := Sl.mono RMendChoice.mono hle107 h92
    refine W.ret ?_
    refine finG (fn := Try.f23) (rs := [.tmp 0]) (vs := [_]) hE rfl ⟨rfl, trivial⟩ ?_
    obtain rfl := Option.some.inj hr
    replace hS := hS.tail
    exact ⟨rfl, (hS.down (Sg.Le.trans (Sg.Le.trans (Sg.Le.trans (Sg.Le.trans (Sg.Le.trans (Sg.Le.trans (Sg.Le.trans (Sg.Le.trans hle55 hle61) hle67) hle73) hle79) hle85) hle91) hle103) hle107))⟩
set_option maxHeartbeats 8000000 in
theorem Fishref2TimesOf_ok {fu : Nat}  {w : World} {s : Sg} {R : List HP} {x0 : MendGraph} {a0_0 : Option Addr} {c0_0 : Nat} {a0_1 : Option Addr} {c0_1 : Nat} {a0_2 : Option Addr} {c0_2 : Nat} {a0_3 : Option Addr} {c0_3 : Nat} {a0_4 : Option Addr} {c0_4 : Nat} {x1 : List Int} {a1 : Option Addr} {c1 : Nat} (hS : St w s (R)) (h0_0 : Sl 1 (RI .i64) s a0_0 c0_0 x0.Ready) (h0_1 : Sl 1 (RI .i64) s a0_1 c0_1 x0.Last) (_h0_2 : Sl 1 (RI .i64) s a0_2 c0_2 x0.Due) (h0_3 : Sl 3 RMendArc s a0_3 c0_3 x0.Arcs) (h0_4 : Sl 1 RMendChoice s a0_4 c0_4 x0.Choices) (h1 : Sl 1 (RI .i64) s a1 c1 x1) {r : (List Int) × Bool} (hr : Fishref2TimesOf fu x0 x1 = some r) :
    Calls Try.prog 43 [.agg [.slice a0_0 x0.Ready.length c0_0, .slice a0_1 x0.Last.length c0_1, .slice a0_2 x0.Due.length c0_2, .slice a0_3 x0.Arcs.length c0_3, .slice a0_4 x0.Choices.length c0_4].toArray, .slice a1 x1.length c1].toArray w (fun e w => ∃ (a0 : Option Addr) (c0 n0 : Nat) (cs0 : List Value), e = .returned (.tuple #[.slice a0 n0 c0, .bool r.2]) ∧ Ev 1 (RI .i64) s cs0 r.1 ∧ r.1.length = n0 ∧ St w s (vecC 3 1 a0 c0 n0 cs0 :: R)) := by
  refine enter Try.func43 rfl rfl rfl fun a hE => ?_
  rw [Fishref2TimesOf] at hr
  refine W.seq ?_
  refine W.region ?_
  refine WL.box hE hS (runs_plain rfl) rfl rfl rfl ?_; clear hE hS a w; intro b51 a w hE hS
  refine WL.vS hS hE (runs_plain rfl) (Gives.p hE rfl) rfl ?_; clear hE a; intro a hE
  refine WL.vS hS hE (runs_plain rfl) (Gives.p hE rfl) rfl ?_; clear hE a; intro a hE
  refine WL.nil ?_
  refine W.seq ?_
  refine W.region ?_
  refine WL.vS hS hE (runs_plain rfl) (Gives.fld hE rfl fl50_3) rfl ?_; clear hE a; intro a hE
  refine WL.vS hS hE (runs_plain rfl) (Gives.loadB hE 0 rfl rfl rfl ty47) rfl ?_; clear hE a; intro a hE
  obtain ⟨q52, hq53, hr⟩ := bindS hr
  have hc_ := SlicesCloneLmendArc_ok hS h0_3 hq53
  refine WL.fnq hE (hc_) (runs_plain rfl) bd80 rfl rfl rfl ?_
  clear hE hS hc_; rintro e w ⟨a54, c55, n56, cs57, rfl, h58, rfl, hS⟩; refine ⟨_, rfl, ?_⟩; clear a; intro a hE
  refine WL.vS hS hE (runs_plain rfl) (Gives.p hE rfl) rfl ?_; clear hE a; intro a hE
  refine WL.nil ?_
  refine W.seq ?_
  refine W.seq ?_
  refine W.region ?_
  refine WL.vS hS hE (runs_plain rfl) (Gives.p hE rfl) rfl ?_; clear hE a; intro a hE
  refine WL.vS hS hE (runs_plain rfl) (Gives.len hE rfl sl22) rfl ?_; clear hE a; intro a hE
  refine WL.vS hS hE (runs_plain rfl) (Gives.p hE rfl) rfl ?_; clear hE a; intro a hE
  refine WL.nil ?_
  obtain ⟨q61, hq60, hr⟩ := bindS hr
  refine W.cut (fun a w => ∃ (q71 : List MendArc), ∃ (a72 : Option Addr), ∃ (c73 : Nat), ∃ (n75 : Nat), ∃ (cs76 : List Value), q71 = q61 ∧ Ev 3 RMendArc s cs76 q71 ∧ q71.length = n75 ∧ Rep a 104 [(2, .pointer (some ⟨b51, 0, none⟩)), (6, .slice a72 n75 c73)] ∧ St w s (vecC 94 3 a72 c73 n75 cs76 :: pt b51 (.cells #[.slice a0_0 x0.Ready.length c0_0, .slice a0_1 x0.Last.length c0_1, .slice a0_2 x0.Due.length c0_2, .slice a0_3 x0.Arcs.length c0_3, .slice a0_4 x0.Choices.length c0_4] 50 (0, 0)) :: R)) ?_ ?_
  · refine W.block ?_
    refine W.loop (fun m a w => ∃ (rest64 : List Int) (k62 : Nat), ∃ (q71 : List MendArc), ∃ (a72 : Option Addr), ∃ (c73 : Nat), ∃ (n75 : Nat), ∃ (cs76 : List Value), rest64.length = m ∧ x1.drop k62 = rest64 ∧ Fishref2TimesOf.loop1 x0 rest64 k62 q71 = some q61 ∧ Ev 3 RMendArc s cs76 q71 ∧ q71.length = n75 ∧ Rep a 104 [(2, .pointer (some ⟨b51, 0, none⟩)), (6, .slice a72 n75 c73), (20, .slice a1 x1.length c1), (21, .int .i64 ((x1).length : Int)), (22, .int .i64 ((k62 : Nat) : Int))] ∧ St w s (vecC 94 3 a72 c73 n75 cs76 :: pt b51 (.cells #[.slice a0_0 x0.Ready.length c0_0, .slice a0_1 x0.Last.length c0_1, .slice a0_2 x0.Due.length c0_2, .slice a0_3 x0.Arcs.length c0_3, .slice a0_4 x0.Choices.length c0_4] 50 (0, 0)) :: R)) (m := x1.length) ⟨x1, 0, q52, a54, c55, q52.length, cs57, rfl, rfl, hq60, h58, rfl, hE.pick _ ⟨rfl, rfl, rfl, rfl, rfl, trivial⟩, hS⟩ ?_
    clear hE hS a w hq60; rintro m68 a w ⟨rest64, k62, q71, a72, c73, n75, cs76, rfl, hd65, hq60, h74, rfl, hE, hS⟩
    refine W.gen fun K78 hK78 => ?_
    rcases rest64 with _ | ⟨x63, rest64⟩
    · have hlt66 := drop_nil hd65
      refine W.seq ?_
      refine W.region ?_
      refine WL.vS hS hE (runs_plain rfl) (Gives.p hE rfl) rfl ?_; clear hE a; intro a hE
      refine WL.nil ?_
      refine W.seq ?_
      refine W.condF hE rfl (decide_eq_false (by omega)) ?_
      subst hK78
      refine W.exit rfl ?_
      exact ⟨q71, a72, c73, q71.length, cs76, Option.some.inj hq60, h74, rfl, hE.pick _ ⟨rfl, rfl, trivial⟩, hS⟩
    · obtain ⟨hlt66, hx67, hd65⟩ := drop_cons hd65
      rw [Fishref2TimesOf.loop1] at hq60
      refine W.seq ?_
      refine W.region ?_
      refine WL.vS hS hE (runs_plain rfl) (Gives.p hE rfl) rfl ?_; clear hE a; intro a hE
      refine WL.nil ?_
      refine W.seq ?_
      refine W.condT hE rfl (decide_eq_true (by omega)) ?_
      refine W.skip ?_
      refine W.seq ?_
      refine W.block ?_
      refine W.seq ?_
      refine W.region ?_
      refine WL.vS hS hE (runs_plain rfl) (Gives.p hE rfl) rfl ?_; clear hE a; intro a hE
      obtain ⟨cs79, hl80, hR81, hat82⟩ := h1.at hx67
      subst hR81
      refine WL.vS hS hE (runs_plain rfl) (Gives.idx hE k62 rfl rfl sl22 rfl hlt66 (h1.aok hlt66)) rfl ?_; clear hE a; intro a hE
      refine WL.vS hS hE (runs_plain rfl) (Gives.load1 hE rfl (fun w h => hat82 w _ h) ty3) rfl ?_; clear hE a; intro a hE
      refine WL.vS hS hE (runs_plain rfl) (Gives.p hE rfl) rfl ?_; clear hE a; intro a hE
      refine WL.vS hS hE (runs_plain rfl) (Gives.p hE rfl) rfl ?_; clear hE a; intro a hE
      refine WL.nil ?_
      refine W.seq ?_
      refine W.region ?_
      refine WL.vS hS hE (runs_plain rfl) (Gives.p hE rfl) rfl ?_; clear hE a; intro a hE
      refine WL.vS hS hE (runs_plain rfl) (Gives.p hE rfl) rfl ?_; clear hE a; intro a hE
      refine WL.nil ?_
      obtain ⟨q84, hq83, hq60⟩ := bindS hq60
      refine W.cut (fun a w => ∃ (q87 : List MendArc), ∃ (a88 : Option Addr), ∃ (c89 : Nat), ∃ (n91 : Nat), ∃ (cs92 : List Value), q87 = q84 ∧ Ev 3 RMendArc s cs92 q87 ∧ q87.length = n91 ∧ Rep a 104 [(2, .pointer (some ⟨b51, 0, none⟩)), (6, .slice a88 n91 c89), (20, .slice a1 x1.length c1), (21, .int .i64 ((x1).length : Int)), (22, .int .i64 ((k62 : Nat) : Int))] ∧ St w s (vecC 94 3 a88 c89 n91 cs92 :: pt b51 (.cells #[.slice a0_0 x0.Ready.length c0_0, .slice a0_1 x0.Last.length c0_1, .slice a0_2 x0.Due.length c0_2, .slice a0_3 x0.Arcs.length c0_3, .slice a0_4 x0.Choices.length c0_4] 50 (0, 0)) :: R)) ?_ ?_
      · refine W.gen fun K94 hK94 => ?_
        refine W.cond hE rfl (fun hc95 => ?_) (fun hc95 => ?_)
        · replace hq83 := iteT hc95 hq83
          refine W.region ?_
          refine WL.vS hS hE (runs_plain rfl) (Gives.p hE rfl) rfl ?_; clear hE a; intro a hE
          refine WL.vS hS hE (runs_plain rfl) (Gives.fld hE rfl fl50_4) rfl ?_; clear hE a; intro a hE
          refine WL.vS hS hE (runs_plain rfl) (Gives.loadB hE 1 rfl rfl rfl ty48) rfl ?_; clear hE a; intro a hE
          refine WL.vS hS hE (runs_plain rfl) (Gives.p hE rfl) rfl ?_; clear hE a; intro a hE
          obtain ⟨x96, hx97, hq83⟩ := bindS hq83
          obtain ⟨hi98, hlt99, hy100⟩ := gx_some hx97
          obtain ⟨cs101, hl102, hR103, hat104⟩ := h0_4.at hy100
          obtain ⟨a105, c106, rfl, h107⟩ := hR103
          refine WL.vS hS hE (runs_plain rfl) (Gives.idx hE (((k62 : Nat) : Int)).toNat rfl rfl sl48 hi98 hlt99 (h0_4.aok hlt99)) rfl ?_; clear hE a; intro a hE
          refine WL.vS hS hE (runs_plain rfl) (Gives.fld hE rfl fl97_0) rfl ?_; clear hE a; intro a hE
          refine WL.vS hS hE (runs_plain rfl) (Gives.load1 hE rfl (fun w h => hat104 w _ h) ty95) rfl ?_; clear hE a; intro a hE
          refine WL.vS hS hE (runs_plain rfl) (Gives.p hE rfl) rfl ?_; clear hE a; intro a hE
          refine WL.vS hS hE (runs_plain rfl) (Gives.p hE rfl) rfl ?_; clear hE a; intro a hE
          obtain ⟨x108, hx109, hq83⟩ := bindS hq83
          obtain ⟨hi110, hlt111, hy112⟩ := gx_some hx109
          obtain ⟨cs113, hl114, hR115, hat116⟩ := h107.at hy112
          obtain ⟨a117, c118, rfl, h119⟩ := hR115
          refine WL.vS hS hE (runs_plain rfl) (Gives.idx hE (w64 (x63 - 1)).toNat rfl rfl sl95 hi110 hlt111 (h107.aok hlt111)) rfl ?_; clear hE a; intro a hE
          refine WL.vS hS hE (runs_plain rfl) (Gives.load1 hE rfl (fun w h => hat116 w _ h) ty47) rfl ?_; clear hE a; intro a hE
          obtain ⟨x120, hx121, hq83⟩ := bindS hq83
          refine WL.appS hE hS 0 (runs_plain rfl) rfl rfl (xs := x108) rfl rfl ap47 RMendArc.one h74 rfl h119 hx121 rfl ?_; clear hE hS a w; intro a122 c123 cs124 a w h125 hE hS
          refine WL.vS hS hE (runs_plain rfl) (Gives.p hE rfl) rfl ?_; clear hE a; intro a hE
          refine WL.nil ?_
          subst hK94
          exact ⟨x120, a122, c123, x120.length, cs124, Option.some.inj hq83, h125, (rfl), hE.pick _ ⟨rfl, rfl, rfl, rfl, rfl, trivial⟩, hS⟩
        · replace hq83 := iteF hc95 hq83
          refine W.skip ?_
          subst hK94
          exact ⟨q71, a72, c73, q71.length, cs76, Option.some.inj hq83, h74, rfl, hE.pick _ ⟨rfl, rfl, rfl, rfl, rfl, trivial⟩, hS⟩
      · clear hE hS a w; rintro a w ⟨q87, a88, c89, n91, cs92, rfl, h90, rfl, hE, hS⟩
        refine W.region ?_
        refine WL.vS hS hE (runs_plain rfl) (Gives.inc hE rfl (by have := h1.small; omega)) rfl ?_; clear hE a; intro a hE
        refine WL.vS hS hE (runs_plain rfl) (Gives.p hE rfl) rfl ?_; clear hE a; intro a hE
        refine WL.nil ?_
        subst hK78
        exact ⟨rest64.length, Nat.lt_succ_self _, rest64, k62 + 1, q87, a88, c89, q87.length, cs92, rfl, hd65, hq60, h90, rfl, hE.pick _ ⟨rfl, rfl, rfl, rfl, rfl, trivial⟩, hS⟩
  · clear hE hS a w; rintro a w ⟨q71, a72, c73, n75, cs76, rfl, h74, rfl, hE, hS⟩
    refine W.seq ?_
    refine W.region ?_
    refine WL.vS hS hE (runs_plain rfl) (Gives.fld hE rfl fl50_0) rfl ?_; clear hE a; intro a hE
    refine WL.vS hS hE (runs_plain rfl) (Gives.loadB hE 1 rfl rfl rfl ty22) rfl ?_; clear hE a; intro a hE
    obtain ⟨q126, hq127, hr⟩ := bindS hr
    have hc_ := SlicesCloneLint_ok hS h0_0 hq127
    refine WL.fnq hE (hc_) (runs_plain rfl) bd67 rfl rfl rfl ?_
    clear hE hS hc_; rintro e w ⟨a128, c129, n130, cs131, rfl, h132, rfl, hS⟩; refine ⟨_, rfl, ?_⟩; clear a; intro a hE
    refine WL.vS hS hE (runs_plain rfl) (Gives.p hE rfl) rfl ?_; clear hE a; intro a hE
    refine WL.nil ?_
    refine W.seq ?_
    refine W.seq ?_
    refine W.region ?_
    refine WL.vS hS hE (runs_plain rfl) (Gives.p hE rfl) rfl ?_; clear hE a; intro a hE
    refine WL.nil ?_
    obtain ⟨q135, hq134, hr⟩ := bindS hr
    refine W.cut (fun a w => ∃ (q140 : Int), ∃ (q141 : List Int), ∃ (cs145 : List Value), (.next (q140, q141)) = q135 ∧ Ev 1 (RI .i64) s cs145 q141 ∧ q141.length = q126.length ∧ Rep a 104 [(2, .pointer (some ⟨b51, 0, none⟩)), (9, .slice a128 q126.length c129)] ∧ St w s (vecC 3 1 a128 c129 q126.length cs145 :: vecC 94 3 a72 c73 q71.length cs76 :: pt b51 (.cells #[.slice a0_0 x0.Ready.length c0_0, .slice a0_1 x0.Last.length c0_1, .slice a0_2 x0.Due.length c0_2, .slice a0_3 x0.Arcs.length c0_3, .slice a0_4 x0.Choices.length c0_4] 50 (0, 0)) :: R)) ?_ ?_
    · refine W.block ?_
      refine W.loop (fun m a w => ∃ (n136 : Nat), ∃ (q140 : Int), ∃ (q141 : List Int), ∃ (cs145 : List Value), n136 = m ∧ Fishref2TimesOf.loop2 q71 q126 n136 q140 q141 = some q135 ∧ Ev 1 (RI .i64) s cs145 q141 ∧ q141.length = q126.length ∧ Rep a 104 [(2, .pointer (some ⟨b51, 0, none⟩)), (6, .slice a72 q71.length c73), (9, .slice a128 q126.length c129), (10, .int .i64 q140)] ∧ St w s (vecC 3 1 a128 c129 q126.length cs145 :: vecC 94 3 a72 c73 q71.length cs76 :: pt b51 (.cells #[.slice a0_0 x0.Ready.length c0_0, .slice a0_1 x0.Last.length c0_1, .slice a0_2 x0.Due.length c0_2, .slice a0_3 x0.Arcs.length c0_3, .slice a0_4 x0.Choices.length c0_4] 50 (0, 0)) :: R)) (m := fu) ⟨fu, 0, q126, cs131, rfl, hq134, h132, rfl, hE.pick _ ⟨rfl, rfl, rfl, rfl, trivial⟩, hS⟩ ?_
      clear hE hS a w hq134; rintro m137 a w ⟨n136, q140, q141, cs145, rfl, hq134, h144, hn146, hE, hS⟩
      refine W.gen fun K147 hK147 => ?_
      rcases n136 with _ | n136
      · rw [Fishref2TimesOf.loop2] at hq134; exact absurd hq134 (by simp)
      rw [Fishref2TimesOf.loop2] at hq134
      refine W.seq ?_
      refine W.block ?_
      refine W.seq ?_
      refine W.region ?_
      refine WL.vS hS hE (runs_plain rfl) (Gives.p hE rfl) rfl ?_; clear hE a; intro a hE
      refine WL.nil ?_
      refine W.seq ?_
      refine W.seq ?_
      refine W.region ?_
      refine WL.vS hS hE (runs_plain rfl) (Gives.p hE rfl) rfl ?_; clear hE a; intro a hE
      refine WL.vS hS hE (runs_plain rfl) (Gives.len hE rfl sl47) rfl ?_; clear hE a; intro a hE
      refine WL.vS hS hE (runs_plain rfl) (Gives.p hE rfl) rfl ?_; clear hE a; intro a hE
      refine WL.nil ?_
      have hb159 : q71.length ≤ 9223372036854775807 := by have := hS.vecCap 1 rfl; unfold maxLen at this; omega
      obtain ⟨q149, hq148, hq134⟩ := bindS hq134
      refine W.cut (fun a w => ∃ (q160 : Bool), ∃ (q161 : List Int), ∃ (cs165 : List Value), (q160, q161) = q149 ∧ Ev 1 (RI .i64) s cs165 q161 ∧ q161.length = q126.length ∧ Rep a 104 [(2, .pointer (some ⟨b51, 0, none⟩)), (6, .slice a72 q71.length c73), (9, .slice a128 q126.length c129), (10, .int .i64 q140), (11, .bool q160)] ∧ St w s (vecC 3 1 a128 c129 q126.length cs165 :: vecC 94 3 a72 c73 q71.length cs76 :: pt b51 (.cells #[.slice a0_0 x0.Ready.length c0_0, .slice a0_1 x0.Last.length c0_1, .slice a0_2 x0.Due.length c0_2, .slice a0_3 x0.Arcs.length c0_3, .slice a0_4 x0.Choices.length c0_4] 50 (0, 0)) :: R)) ?_ ?_
      · refine W.block ?_
        refine W.loop (fun m a w => ∃ (rest152 : Nat) (k150 : Nat), ∃ (q160 : Bool), ∃ (q161 : List Int), ∃ (cs165 : List Value), rest152 = m ∧ k150 + rest152 = q71.length ∧ Fishref2TimesOf.loop3 q71 rest152 k150 q160 q161 = some q149 ∧ Ev 1 (RI .i64) s cs165 q161 ∧ q161.length = q126.length ∧ Rep a 104 [(2, .pointer (some ⟨b51, 0, none⟩)), (6, .slice a72 q71.length c73), (9, .slice a128 q126.length c129), (10, .int .i64 q140), (11, .bool q160), (47, .slice a72 q71.length c73), (48, .int .i64 ((q71.length : Nat) : Int)), (49, .int .i64 ((k150 : Nat) : Int))] ∧ St w s (vecC 3 1 a128 c129 q126.length cs165 :: vecC 94 3 a72 c73 q71.length cs76 :: pt b51 (.cells #[.slice a0_0 x0.Ready.length c0_0, .slice a0_1 x0.Last.length c0_1, .slice a0_2 x0.Due.length c0_2, .slice a0_3 x0.Arcs.length c0_3, .slice a0_4 x0.Choices.length c0_4] 50 (0, 0)) :: R)) (m := q71.length) ⟨q71.length, 0, false, q141, cs145, rfl, by omega, hq148, h144, hn146, hE.pick _ ⟨rfl, rfl, rfl, rfl, rfl, rfl, rfl, rfl, trivial⟩, hS⟩ ?_
        clear hE hS a w hq148; rintro m156 a w ⟨rest152, k150, q160, q161, cs165, rfl, hd153, hq148, h164, hn166, hE, hS⟩
        refine W.gen fun K167 hK167 => ?_
        rcases rest152 with _ | rest152
        · skip
          refine W.seq ?_
          refine W.region ?_
          refine WL.vS hS hE (runs_plain rfl) (Gives.p hE rfl) rfl ?_; clear hE a; intro a hE
          refine WL.nil ?_
          refine W.seq ?_
          refine W.condF hE rfl (decide_eq_false (by omega)) ?_
          subst hK167
          refine W.exit rfl ?_
          exact ⟨q160, q161, cs165, Option.some.inj hq148, h164, hn166, hE.pick _ ⟨rfl, rfl, rfl, rfl, rfl, trivial⟩, hS⟩
        · have hlt154 : k150 < q71.length := by omega
          rw [Fishref2TimesOf.loop3] at hq148
          refine W.seq ?_
          refine W.region ?_
          refine WL.vS hS hE (runs_plain rfl) (Gives.p hE rfl) rfl ?_; clear hE a; intro a hE
          refine WL.nil ?_
          refine W.seq ?_
          refine W.condT hE rfl (decide_eq_true (by omega)) ?_
          refine W.skip ?_
          refine W.seq ?_
          refine W.block ?_
          refine W.seq ?_
          refine W.region ?_
          obtain ⟨x168, hx169, hq148⟩ := bindS hq148
          obtain ⟨hi170, hlt171, hy172⟩ := gx_some hx169
          obtain ⟨vs173, hl174, hR175, hd176, hget177⟩ := h74.at hy172
          subst hR175
          refine WL.vS hS hE (runs_plain rfl) (Gives.idx hE ((((k150 : Nat) : Int)).toNat) rfl rfl sl47 hi170 (by omega) (hS.vecAok 1 rfl (by omega : (((k150 : Nat) : Int)).toNat < q71.length))) rfl ?_; clear hE a; intro a hE
          refine WL.vS hS hE (runs_plain rfl) (Gives.loadA hE rfl (fun w h => St.vecSees h 1 rfl ((((k150 : Nat) : Int)).toNat * 3) _ hget177) ty94) rfl ?_; clear hE a; intro a hE
          refine WL.alloc hE hS (runs_plain rfl) zr94 rfl ?_; clear hE hS a w; intro b178 a w hE hS
          refine WL.storeI hE hS 0 rfl (MendArc.cells x168) (runs_plain rfl) rfl rfl rfl ty94 rfl rfl rfl rfl ?_; clear hE hS a w; intro a w hE hS
          refine WL.nil ?_
          refine W.seq ?_
          refine W.regionQ (C := fun w => St w s (pt b178 (.cells (MendArc.cells x168).toArray 94 (0, 0)) :: vecC 3 1 a128 c129 q126.length cs165 :: vecC 94 3 a72 c73 q71.length cs76 :: pt b51 (.cells #[.slice a0_0 x0.Ready.length c0_0, .slice a0_1 x0.Last.length c0_1, .slice a0_2 x0.Due.length c0_2, .slice a0_3 x0.Arcs.length c0_3, .slice a0_4 x0.Choices.length c0_4] 50 (0, 0)) :: R)) mixed (by kernel_rfl) hS.drew ?_
          refine QL.v hE (runs_plain rfl) (Gives.p hE rfl) rfl ?_; clear hE a; intro a hE
          refine QL.v hE (runs_plain rfl) (Gives.fld hE rfl fl94_0) rfl ?_; clear hE a; intro a hE
          refine QL.v hE (runs_plain rfl) (Gives.loadB hE 0 rfl rfl rfl ty3) rfl ?_; clear hE a; intro a hE
          obtain ⟨x179, hx180, hq148⟩ := bindS hq148
          obtain ⟨hi181, hlt182, hy183⟩ := gx_some hx180
          obtain ⟨vs184, hl185, hR186, hd187, hget188⟩ := h164.at hy183
          subst hR186
          refine QL.v hE (runs_plain rfl) (Gives.idx hE ((x168.From).toNat) rfl rfl sl22 hi181 (by have := hn166; omega) (hS.vecAok 1 rfl (by have := hn166; omega : (x168.From).toNat < q126.length))) rfl ?_; clear hE a; intro a hE
          refine QL.v hE (runs_plain rfl) (Gives.load1 hE rfl (fun w h => St.vecSees h 1 rfl ((x168.From).toNat * 1) _ hget188) ty3) rfl ?_; clear hE a; intro a hE
          refine QL.v hE (runs_plain rfl) (Gives.fld hE rfl fl94_2) rfl ?_; clear hE a; intro a hE
          refine QL.v hE (runs_plain rfl) (Gives.loadB hE 0 rfl rfl rfl ty3) rfl ?_; clear hE a; intro a hE
          refine QL.v hE (runs_plain rfl) (Gives.p hE rfl) rfl ?_; clear hE a; intro a hE
          refine QL.v hE (runs_plain rfl) (Gives.p hE rfl) rfl ?_; clear hE a; intro a hE
          refine QL.nil ?_; clear hS w; intro w hS
          refine W.seq ?_
          refine W.region ?_
          refine WL.vS hS hE (runs_plain rfl) (Gives.p hE rfl) rfl ?_; clear hE a; intro a hE
          refine WL.vS hS hE (runs_plain rfl) (Gives.p hE rfl) rfl ?_; clear hE a; intro a hE
          refine WL.vS hS hE (runs_plain rfl) (Gives.fld hE rfl fl94_1) rfl ?_; clear hE a; intro a hE
          refine WL.vS hS hE (runs_plain rfl) (Gives.loadB hE 0 rfl rfl rfl ty3) rfl ?_; clear hE a; intro a hE
          obtain ⟨x189, hx190, hq148⟩ := bindS hq148
          obtain ⟨hi191, hlt192, hy193⟩ := gx_some hx190
          obtain ⟨vs194, hl195, hR196, hd197, hget198⟩ := h164.at hy193
          subst hR196
          refine WL.vS hS hE (runs_plain rfl) (Gives.idx hE ((x168.To).toNat) rfl rfl sl22 hi191 (by have := hn166; omega) (hS.vecAok 1 rfl (by have := hn166; omega : (x168.To).toNat < q126.length))) rfl ?_; clear hE a; intro a hE
          refine WL.vS hS hE (runs_plain rfl) (Gives.load1 hE rfl (fun w h => St.vecSees h 1 rfl ((x168.To).toNat * 1) _ hget198) ty3) rfl ?_; clear hE a; intro a hE
          refine WL.vS hS hE (runs_plain rfl) (Gives.p hE rfl) rfl ?_; clear hE a; intro a hE
          refine WL.nil ?_
          obtain ⟨q200, hq199, hq148⟩ := bindS hq148
          refine W.cut (fun a w => ∃ (q203 : Bool), ∃ (q204 : List Int), ∃ (cs208 : List Value), (q203, q204) = q200 ∧ Ev 1 (RI .i64) s cs208 q204 ∧ q204.length = q126.length ∧ Rep a 104 [(2, .pointer (some ⟨b51, 0, none⟩)), (6, .slice a72 q71.length c73), (9, .slice a128 q126.length c129), (10, .int .i64 q140), (11, .bool q203), (47, .slice a72 q71.length c73), (48, .int .i64 ((q71.length : Nat) : Int)), (49, .int .i64 ((k150 : Nat) : Int))] ∧ St w s (pt b178 (.cells (MendArc.cells x168).toArray 94 (0, 0)) :: vecC 3 1 a128 c129 q126.length cs208 :: vecC 94 3 a72 c73 q71.length cs76 :: pt b51 (.cells #[.slice a0_0 x0.Ready.length c0_0, .slice a0_1 x0.Last.length c0_1, .slice a0_2 x0.Due.length c0_2, .slice a0_3 x0.Arcs.length c0_3, .slice a0_4 x0.Choices.length c0_4] 50 (0, 0)) :: R)) ?_ ?_
          · refine W.gen fun K210 hK210 => ?_
            refine W.cond hE rfl (fun hc211 => ?_) (fun hc211 => ?_)
            · replace hq199 := iteT hc211 hq199
              refine W.region ?_
              refine WL.vS hS hE (runs_plain rfl) (Gives.p hE rfl) rfl ?_; clear hE a; intro a hE
              refine WL.vS hS hE (runs_plain rfl) (Gives.fld hE rfl fl94_1) rfl ?_; clear hE a; intro a hE
              refine WL.vS hS hE (runs_plain rfl) (Gives.loadB hE 0 rfl rfl rfl ty3) rfl ?_; clear hE a; intro a hE
              refine WL.vS hS hE (runs_plain rfl) (Gives.p hE rfl) rfl ?_; clear hE a; intro a hE
              obtain ⟨_, hx213, hq199⟩ := bindS hq199
              obtain ⟨h214, h215⟩ := ix_some hx213
              refine WL.vS hS hE (runs_plain rfl) (Gives.idx hE ((x168.To).toNat) rfl rfl sl22 h214 (by have := hn166; omega) (hS.vecAok 1 rfl (by have := hn166; omega : (x168.To).toNat < q126.length))) rfl ?_; clear hE a; intro a hE
              obtain ⟨x217, hx218, hq199⟩ := bindS hq199
              refine WL.setD hE hS 1 rfl (runs_plain rfl) rfl rfl (vs := [.int .i64 (w64 (x179 + x168.Len))]) rfl ty3 rfl rfl rfl h164 hn166 (sx_some hx218).1 hx218 rfl rfl ?_; clear hE hS a w; intro cs219 a w h220 hn221 hE hS
              refine WL.vS hS hE (runs_plain rfl) (Gives.p hE rfl) rfl ?_; clear hE a; intro a hE
              refine WL.nil ?_
              subst hK210
              exact ⟨true, x217, cs219, Option.some.inj hq199, h220, hn221, hE.pick _ ⟨rfl, rfl, rfl, rfl, rfl, rfl, rfl, rfl, trivial⟩, hS⟩
            · replace hq199 := iteF hc211 hq199
              refine W.skip ?_
              subst hK210
              exact ⟨q160, q161, cs165, Option.some.inj hq199, h164, hn166, hE.pick _ ⟨rfl, rfl, rfl, rfl, rfl, rfl, rfl, rfl, trivial⟩, hS⟩
          · clear hE hS a w; rintro a w ⟨q203, q204, cs208, rfl, h207, hn209, hE, hS⟩
            dsimp only at hq148
            refine W.region ?_
            refine WL.vS hS hE (runs_plain rfl) (Gives.inc hE rfl (by omega)) rfl ?_; clear hE a; intro a hE
            refine WL.vS hS hE (runs_plain rfl) (Gives.p hE rfl) rfl ?_; clear hE a; intro a hE
            refine WL.nil ?_
            replace hS := hS.tail
            subst hK167
            exact ⟨rest152, Nat.lt_succ_self _, rest152, k150 + 1, q203, q204, cs208, rfl, (by omega), hq148, h207, hn209, hE.pick _ ⟨rfl, rfl, rfl, rfl, rfl, rfl, rfl, rfl, trivial⟩, hS⟩
      · clear hE hS a w; rintro a w ⟨q160, q161, cs165, rfl, h164, hn166, hE, hS⟩
        dsimp only at hq134
        refine W.seq ?_
        refine W.seq ?_
        refine W.region ?_
        refine WL.vS hS hE (runs_plain rfl) (Gives.p hE rfl) rfl ?_; clear hE a; intro a hE
        refine WL.vS hS hE (runs_plain rfl) (Gives.p hE rfl) rfl ?_; clear hE a; intro a hE
        refine WL.nil ?_
        refine W.cond hE rfl (fun hc222 => ?_) (fun hc222 => ?_)
        · replace hq134 := iteT hc222 hq134
          subst hK147
          refine W.exit rfl ?_
          exact ⟨q140, q161, cs165, Option.some.inj hq134, h164, hn166, hE.pick _ ⟨rfl, rfl, trivial⟩, hS⟩
        · replace hq134 := iteF hc222 hq134
          refine W.skip ?_
          refine W.seq ?_
          refine W.region ?_
          refine WL.vS hS hE (runs_plain rfl) (Gives.p hE rfl) rfl ?_; clear hE a; intro a hE
          refine WL.vS hS hE (runs_plain rfl) (Gives.p hE rfl) rfl ?_; clear hE a; intro a hE
          refine WL.vS hS hE (runs_plain rfl) (Gives.len hE rfl sl22) rfl ?_; clear hE a; intro a hE
          refine WL.vS hS hE (runs_plain rfl) (Gives.p hE rfl) rfl ?_; clear hE a; intro a hE
          refine WL.nil ?_
          refine W.cond hE rfl (fun hc223 => ?_) (fun hc223 => ?_)
          · replace hq134 := iteT hc223 hq134
            refine W.seq ?_
            refine W.region ?_
            refine WL.vS hS hE (runs_plain rfl) (Gives.p hE rfl) rfl ?_; clear hE a; intro a hE
            refine WL.vS hS hE (runs_plain rfl) (Gives.p hE rfl) rfl ?_; clear hE a; intro a hE
            refine WL.nil ?_
            refine W.ret ?_
            subst hK147
            rw [← Option.some.inj hq134] at hr
            dsimp only at hr
            replace hS := hS.vecNil 3 1
            refine finG (fn := Try.f43) (rs := [.tmp 4, .tmp 5]) (vs := [_, _]) hE rfl ⟨rfl, rfl, trivial⟩ ?_
            obtain rfl := Option.some.inj hr
            replace hS := hS.dropAt 1
            replace hS := hS.dropAt 1
            replace hS := hS.dropAt 1
            exact ⟨none, 0, 0, [], rfl, (Ev.nil), (rfl), hS⟩
          · replace hq134 := iteF hc223 hq134
            refine W.skip ?_
            refine W.region ?_
            refine WL.vS hS hE (runs_plain rfl) (Gives.p hE rfl) rfl ?_; clear hE a; intro a hE
            refine WL.vS hS hE (runs_plain rfl) (Gives.p hE rfl) rfl ?_; clear hE a; intro a hE
            refine WL.vS hS hE (runs_plain rfl) (Gives.p hE rfl) rfl ?_; clear hE a; intro a hE
            refine WL.nil ?_
            subst hK147
            exact ⟨n136, Nat.lt_succ_self _, n136, (w64 (q140 + 1)), q161, cs165, rfl, hq134, h164, hn166, hE.pick _ ⟨rfl, rfl, rfl, rfl, trivial⟩, hS⟩
    · clear hE hS a w; rintro a w ⟨q140, q141, cs145, rfl, h144, hn146, hE, hS⟩
      dsimp only at hr
      refine W.seq ?_
      refine W.seq ?_
      refine W.region ?_
      refine WL.vS hS hE (runs_plain rfl) (Gives.p hE rfl) rfl ?_; clear hE a; intro a hE
      refine WL.vS hS hE (runs_plain rfl) (Gives.len hE rfl sl22) rfl ?_; clear hE a; intro a hE
      refine WL.vS hS hE (runs_plain rfl) (Gives.p hE rfl) rfl ?_; clear hE a; intro a hE
      refine WL.nil ?_
      replace hS := hS.dropAt 1
      have hb236 : q126.length ≤ 9223372036854775807 := by have := hS.vecCap 0 rfl; unfold maxLen at this; omega
      obtain ⟨q226, hq225, hr⟩ := bindS hr
      refine W.cut (fun a w => (.next ()) = q226 ∧ Rep a 104 [(9, .slice a128 q126.length c129)] ∧ St w s (vecC 3 1 a128 c129 q126.length cs145 :: pt b51 (.cells #[.slice a0_0 x0.Ready.length c0_0, .slice a0_1 x0.Last.length c0_1, .slice a0_2 x0.Due.length c0_2, .slice a0_3 x0.Arcs.length c0_3, .slice a0_4 x0.Choices.length c0_4] 50 (0, 0)) :: R)) ?_ ?_
      · refine W.block ?_
        refine W.loop (fun m a w => ∃ (rest229 : Nat) (k227 : Nat), rest229 = m ∧ k227 + rest229 = q126.length ∧ Fishref2TimesOf.loop4 x0 q141 rest229 k227 = some q226 ∧ Rep a 104 [(2, .pointer (some ⟨b51, 0, none⟩)), (9, .slice a128 q126.length c129), (80, .slice a128 q126.length c129), (81, .int .i64 ((q126.length : Nat) : Int)), (82, .int .i64 ((k227 : Nat) : Int))] ∧ St w s (vecC 3 1 a128 c129 q126.length cs145 :: pt b51 (.cells #[.slice a0_0 x0.Ready.length c0_0, .slice a0_1 x0.Last.length c0_1, .slice a0_2 x0.Due.length c0_2, .slice a0_3 x0.Arcs.length c0_3, .slice a0_4 x0.Choices.length c0_4] 50 (0, 0)) :: R)) (m := q126.length) ⟨q126.length, 0, rfl, by omega, hq225, hE.pick _ ⟨rfl, rfl, rfl, rfl, rfl, trivial⟩, hS⟩ ?_
        clear hE hS a w hq225; rintro m233 a w ⟨rest229, k227, rfl, hd230, hq225, hE, hS⟩
        refine W.gen fun K237 hK237 => ?_
        rcases rest229 with _ | rest229
        · skip
          refine W.seq ?_
          refine W.region ?_
          refine WL.vS hS hE (runs_plain rfl) (Gives.p hE rfl) rfl ?_; clear hE a; intro a hE
          refine WL.nil ?_
          refine W.seq ?_
          refine W.condF hE rfl (decide_eq_false (by omega)) ?_
          subst hK237
          refine W.exit rfl ?_
          exact ⟨Option.some.inj hq225, hE.pick _ ⟨rfl, trivial⟩, hS⟩
        · have hlt231 : k227 < q126.length := by omega
          rw [Fishref2TimesOf.loop4] at hq225
          refine W.seq ?_
          refine W.region ?_
          refine WL.vS hS hE (runs_plain rfl) (Gives.p hE rfl) rfl ?_; clear hE a; intro a hE
          refine WL.nil ?_
          refine W.seq ?_
          refine W.condT hE rfl (decide_eq_true (by omega)) ?_
          refine W.skip ?_
          refine W.seq ?_
          refine W.block ?_
          refine W.seq ?_
          refine W.region ?_
          refine WL.vS hS hE (runs_plain rfl) (Gives.p hE rfl) rfl ?_; clear hE a; intro a hE
          obtain ⟨x238, hx239, hq225⟩ := bindS hq225
          obtain ⟨hi240, hlt241, hy242⟩ := gx_some hx239
          obtain ⟨vs243, hl244, hR245, hd246, hget247⟩ := h144.at hy242
          subst hR245
          refine WL.vS hS hE (runs_plain rfl) (Gives.idx hE ((((k227 : Nat) : Int)).toNat) rfl rfl sl22 hi240 (by have := hn146; omega) (hS.vecAok 0 rfl (by have := hn146; omega : (((k227 : Nat) : Int)).toNat < q126.length))) rfl ?_; clear hE a; intro a hE
          refine WL.vS hS hE (runs_plain rfl) (Gives.load1 hE rfl (fun w h => St.vecSees h 0 rfl ((((k227 : Nat) : Int)).toNat * 1) _ hget247) ty3) rfl ?_; clear hE a; intro a hE
          refine WL.vS hS hE (runs_plain rfl) (Gives.p hE rfl) rfl ?_; clear hE a; intro a hE
          refine WL.vS hS hE (runs_plain rfl) (Gives.p hE rfl) rfl ?_; clear hE a; intro a hE
          refine WL.nil ?_
          refine W.seq ?_
          obtain ⟨q249, hq248, hq225⟩ := bindS hq225
          refine W.cut (fun a w => ∃ (q252 : Bool), q252 = q249 ∧ Rep a 104 [(2, .pointer (some ⟨b51, 0, none⟩)), (9, .slice a128 q126.length c129), (80, .slice a128 q126.length c129), (81, .int .i64 ((q126.length : Nat) : Int)), (82, .int .i64 ((k227 : Nat) : Int)), (101, .bool q252)] ∧ St w s (vecC 3 1 a128 c129 q126.length cs145 :: pt b51 (.cells #[.slice a0_0 x0.Ready.length c0_0, .slice a0_1 x0.Last.length c0_1, .slice a0_2 x0.Due.length c0_2, .slice a0_3 x0.Arcs.length c0_3, .slice a0_4 x0.Choices.length c0_4] 50 (0, 0)) :: R)) ?_ ?_
          · refine W.gen fun K253 hK253 => ?_
            refine W.region ?_
            refine WL.vS hS hE (runs_plain rfl) (Gives.fld hE rfl fl50_1) rfl ?_; clear hE a; intro a hE
            refine WL.vS hS hE (runs_plain rfl) (Gives.loadB hE 1 rfl rfl rfl ty22) rfl ?_; clear hE a; intro a hE
            refine WL.vS hS hE (runs_plain rfl) (Gives.p hE rfl) rfl ?_; clear hE a; intro a hE
            obtain ⟨x254, hx255, hq248⟩ := bindS hq248
            obtain ⟨hi256, hlt257, hy258⟩ := gx_some hx255
            obtain ⟨cs259, hl260, hR261, hat262⟩ := h0_1.at hy258
            subst hR261
            refine WL.vS hS hE (runs_plain rfl) (Gives.idx hE (((k227 : Nat) : Int)).toNat rfl rfl sl22 hi256 hlt257 (h0_1.aok hlt257)) rfl ?_; clear hE a; intro a hE
            refine WL.vS hS hE (runs_plain rfl) (Gives.load1 hE rfl (fun w h => hat262 w _ h) ty3) rfl ?_; clear hE a; intro a hE
            refine WL.vS hS hE (runs_plain rfl) (Gives.p hE rfl) rfl ?_; clear hE a; intro a hE
            refine WL.vS hS hE (runs_plain rfl) (Gives.p hE rfl) rfl ?_; clear hE a; intro a hE
            rcases Bool.eq_false_or_eq_true (decide (x254 ≥ 0)) with hg263 | hg263
            · replace hq248 := iteT hg263 hq248
              refine WL.vS hS hE (runs_if hE rfl rfl rfl hg263) (Gives.p hE rfl) rfl ?_; clear hE a; intro a hE
              refine WL.vS hS hE (runs_if hE rfl rfl rfl hg263) (Gives.fld hE rfl fl50_1) rfl ?_; clear hE a; intro a hE
              refine WL.vS hS hE (runs_if hE rfl rfl rfl hg263) (Gives.loadB hE 1 rfl rfl rfl ty22) rfl ?_; clear hE a; intro a hE
              refine WL.vS hS hE (runs_if hE rfl rfl rfl hg263) (Gives.p hE rfl) rfl ?_; clear hE a; intro a hE
              obtain ⟨x264, hx265, hq248⟩ := bindS hq248
              obtain ⟨hi266, hlt267, hy268⟩ := gx_some hx265
              obtain ⟨cs269, hl270, hR271, hat272⟩ := h0_1.at hy268
              subst hR271
              refine WL.vS hS hE (runs_if hE rfl rfl rfl hg263) (Gives.idx hE (((k227 : Nat) : Int)).toNat rfl rfl sl22 hi266 hlt267 (h0_1.aok hlt267)) rfl ?_; clear hE a; intro a hE
              refine WL.vS hS hE (runs_if hE rfl rfl rfl hg263) (Gives.load1 hE rfl (fun w h => hat272 w _ h) ty3) rfl ?_; clear hE a; intro a hE
              refine WL.vS hS hE (runs_if hE rfl rfl rfl hg263) (Gives.p hE rfl) rfl ?_; clear hE a; intro a hE
              refine WL.vS hS hE (runs_plain rfl) (Gives.pickT hE rfl hg263 rfl) rfl ?_; clear hE a; intro a hE
              refine WL.nil ?_
              subst hK253
              exact ⟨decide (x238 > x264), Option.some.inj hq248, hE.pick _ ⟨rfl, rfl, rfl, rfl, rfl, rfl, trivial⟩, hS⟩
            · replace hq248 := iteF hg263 hq248
              refine WL.no hE (runs_not hE rfl rfl rfl (by rw [hg263]; decide)) rfl ?_; clear hE a; intro a hE
              refine WL.no hE (runs_not hE rfl rfl rfl (by rw [hg263]; decide)) rfl ?_; clear hE a; intro a hE
              refine WL.no hE (runs_not hE rfl rfl rfl (by rw [hg263]; decide)) rfl ?_; clear hE a; intro a hE
              refine WL.no hE (runs_not hE rfl rfl rfl (by rw [hg263]; decide)) rfl ?_; clear hE a; intro a hE
              refine WL.no hE (runs_not hE rfl rfl rfl (by rw [hg263]; decide)) rfl ?_; clear hE a; intro a hE
              refine WL.no hE (runs_not hE rfl rfl rfl (by rw [hg263]; decide)) rfl ?_; clear hE a; intro a hE
              refine WL.no hE (runs_not hE rfl rfl rfl (by rw [hg263]; decide)) rfl ?_; clear hE a; intro a hE
              refine WL.vS hS hE (runs_plain rfl) (Gives.pickF hE rfl hg263 rfl) rfl ?_; clear hE a; intro a hE
              refine WL.nil ?_
              subst hK253
              exact ⟨false, Option.some.inj hq248, hE.pick _ ⟨rfl, rfl, rfl, rfl, rfl, rfl, trivial⟩, hS⟩
          · clear hE hS a w; rintro a w ⟨q252, rfl, hE, hS⟩
            refine W.cond hE rfl (fun hc273 => ?_) (fun hc273 => ?_)
            · replace hq225 := iteT hc273 hq225
              refine W.seq ?_
              refine W.region ?_
              refine WL.vS hS hE (runs_plain rfl) (Gives.p hE rfl) rfl ?_; clear hE a; intro a hE
              refine WL.vS hS hE (runs_plain rfl) (Gives.p hE rfl) rfl ?_; clear hE a; intro a hE
              refine WL.nil ?_
              refine W.ret ?_
              subst hK237
              rw [← Option.some.inj hq225] at hr
              dsimp only at hr
              replace hS := hS.vecNil 3 1
              refine finG (fn := Try.f43) (rs := [.tmp 4, .tmp 5]) (vs := [_, _]) hE rfl ⟨rfl, rfl, trivial⟩ ?_
              obtain rfl := Option.some.inj hr
              replace hS := hS.dropAt 1
              replace hS := hS.dropAt 1
              exact ⟨none, 0, 0, [], rfl, (Ev.nil), (rfl), hS⟩
            · replace hq225 := iteF hc273 hq225
              refine W.skip ?_
              refine W.region ?_
              refine WL.vS hS hE (runs_plain rfl) (Gives.inc hE rfl (by omega)) rfl ?_; clear hE a; intro a hE
              refine WL.vS hS hE (runs_plain rfl) (Gives.p hE rfl) rfl ?_; clear hE a; intro a hE
              refine WL.nil ?_
              subst hK237
              exact ⟨rest229, Nat.lt_succ_self _, rest229, k227 + 1, rfl, (by omega), hq225, hE.pick _ ⟨rfl, rfl, rfl, rfl, rfl, trivial⟩, hS⟩
      · clear hE hS a w; rintro a w ⟨rfl, hE, hS⟩
        dsimp only at hr
        refine W.seq ?_
        refine W.region ?_
        refine WL.vS hS hE (runs_plain rfl) (Gives.p hE rfl) rfl ?_; clear hE a; intro a hE
        refine WL.vS hS hE (runs_plain rfl) (Gives.p hE rfl) rfl ?_; clear hE a; intro a hE
        refine WL.vS hS hE (runs_plain rfl) (Gives.p hE rfl) rfl ?_; clear hE a; intro a hE
        refine WL.nil ?_
        refine W.ret ?_
        refine finG (fn := Try.f43) (rs := [.tmp 4, .tmp 5]) (vs := [_, _]) hE rfl ⟨rfl, rfl, trivial⟩ ?_
        obtain rfl := Option.some.inj hr
        replace hS := hS.dropAt 1
        exact ⟨a128, c129, q126.length, cs145, rfl, h144, hn146, hS⟩
set_option maxHeartbeats 8000000 in
theorem Fishref2ForcedOf_ok {fu : Nat}  {w : World} {s : Sg} {R : List HP} {x0 : MendGraph} {a0_0 : Option Addr} {c0_0 : Nat} {a0_1 : Option Addr} {c0_1 : Nat} {a0_2 : Option Addr} {c0_2 : Nat} {a0_3 : Option Addr} {c0_3 : Nat} {a0_4 : Option Addr} {c0_4 : Nat} {x1 : List Int} {a1 : Option Addr} {c1 : Nat} (hS : St w s (R)) (h0_0 : Sl 1 (RI .i64) s a0_0 c0_0 x0.Ready) (h0_1 : Sl 1 (RI .i64) s a0_1 c0_1 x0.Last) (h0_2 : Sl 1 (RI .i64) s a0_2 c0_2 x0.Due) (h0_3 : Sl 3 RMendArc s a0_3 c0_3 x0.Arcs) (h0_4 : Sl 1 RMendChoice s a0_4 c0_4 x0.Choices) (h1 : Sl 1 (RI .i64) s a1 c1 x1) {r : (List Int) × Bool} (hr : Fishref2ForcedOf fu x0 x1 = some r) :
    Calls Try.prog 42 [.agg [.slice a0_0 x0.Ready.length c0_0, .slice a0_1 x0.Last.length c0_1, .slice a0_2 x0.Due.length c0_2, .slice a0_3 x0.Arcs.length c0_3, .slice a0_4 x0.Choices.length c0_4].toArray, .slice a1 x1.length c1].toArray w (fun e w => ∃ (a0 : Option Addr) (c0 n0 : Nat) (cs0 : List Value), e = .returned (.tuple #[.slice a0 n0 c0, .bool r.2]) ∧ Ev 1 (RI .i64) s cs0 r.1 ∧ r.1.length = n0 ∧ St w s (vecC 3 1 a0 c0 n0 cs0 :: R)) := by
  refine enter Try.func42 rfl rfl rfl fun a hE => ?_
  rw [Fishref2ForcedOf] at hr
  refine W.seq ?_
  refine W.region ?_
  refine WL.box hE hS (runs_plain rfl) rfl rfl rfl ?_; clear hE hS a w; intro b51 a w hE hS
  refine WL.vS hS hE (runs_plain rfl) (Gives.p hE rfl) rfl ?_; clear hE a; intro a hE
  refine WL.vS hS hE (runs_plain rfl) (Gives.p hE rfl) rfl ?_; clear hE a; intro a hE
  refine WL.nil ?_
  refine W.seq ?_
  refine W.region ?_
  refine WL.vS hS hE (runs_plain rfl) (Gives.p hE rfl) rfl ?_; clear hE a; intro a hE
  obtain ⟨q52, hq53, hr⟩ := bindS hr
  have hc_ := SlicesCloneLint_ok hS h1 hq53
  refine WL.fnq hE (hc_) (runs_plain rfl) bd67 rfl rfl rfl ?_
  clear hE hS hc_; rintro e w ⟨a54, c55, n56, cs57, rfl, h58, rfl, hS⟩; refine ⟨_, rfl, ?_⟩; clear a; intro a hE
  refine WL.vS hS hE (runs_plain rfl) (Gives.p hE rfl) rfl ?_; clear hE a; intro a hE
  refine WL.nil ?_
  refine W.seq ?_
  refine W.seq ?_
  refine W.region ?_
  refine WL.vS hS hE (runs_plain rfl) (Gives.loadBA hE 1 rfl rfl ty50) rfl ?_; clear hE a; intro a hE
  refine WL.vS hS hE (runs_plain rfl) (Gives.p hE rfl) rfl ?_; clear hE a; intro a hE
  obtain ⟨q60, hq61, hr⟩ := bindS hr
  have hF := hS.lendV RI.mono 0 rfl h58 rfl; clear hS; obtain ⟨t68, hle69, hS, hs70, bk71⟩ := hF
  have hc_ := Fishref2TimesOf_ok hS (Sl.mono RI.mono hle69 h0_0) (Sl.mono RI.mono hle69 h0_1) (Sl.mono RI.mono hle69 h0_2) (Sl.mono RMendArc.mono hle69 h0_3) (Sl.mono RMendChoice.mono hle69 h0_4) hs70 hq61
  refine WL.fnq hE (hc_) (runs_plain rfl) bd43 rfl rfl rfl ?_
  clear hE hS hc_; rintro e w ⟨a62, c63, n64, cs65, rfl, h66, rfl, hS⟩; refine ⟨_, rfl, ?_⟩; clear a; intro a hE
  replace hS := bk71 _ _ hS
  replace h66 := Ev.flat (s2 := s) (fun _ _ _ _ h => h) h66
  refine WL.vS hS hE (runs_plain rfl) (Gives.p hE rfl) rfl ?_; clear hE a; intro a hE
  refine WL.vS hS hE (runs_plain rfl) (Gives.p hE rfl) rfl ?_; clear hE a; intro a hE
  refine WL.vS hS hE (runs_plain rfl) (Gives.p hE rfl) rfl ?_; clear hE a; intro a hE
  refine WL.vS hS hE (runs_plain rfl) (Gives.p hE rfl) rfl ?_; clear hE a; intro a hE
  refine WL.vS hS hE (runs_plain rfl) (Gives.p hE rfl) rfl ?_; clear hE a; intro a hE
  refine WL.nil ?_
  refine W.seq ?_
  refine W.region ?_
  refine WL.vS hS hE (runs_plain rfl) (Gives.p hE rfl) rfl ?_; clear hE a; intro a hE
  refine WL.vS hS hE (runs_plain rfl) (Gives.p hE rfl) rfl ?_; clear hE a; intro a hE
  refine WL.nil ?_
  refine W.cond hE rfl (fun hc72 => ?_) (fun hc72 => ?_)
  · replace hr := iteT hc72 hr
    refine W.seq ?_
    refine W.region ?_
    refine WL.vS hS hE (runs_plain rfl) (Gives.p hE rfl) rfl ?_; clear hE a; intro a hE
    refine WL.vS hS hE (runs_plain rfl) (Gives.p hE rfl) rfl ?_; clear hE a; intro a hE
    refine WL.nil ?_
    refine W.ret ?_
    replace hS := hS.vecNil 3 1
    refine finG (fn := Try.f42) (rs := [.tmp 4, .tmp 5]) (vs := [_, _]) hE rfl ⟨rfl, rfl, trivial⟩ ?_
    obtain rfl := Option.some.inj hr
    replace hS := hS.dropAt 1
    replace hS := hS.dropAt 1
    replace hS := hS.dropAt 1
    exact ⟨none, 0, 0, [], rfl, (Ev.nil), (rfl), hS⟩
  · replace hr := iteF hc72 hr
    refine W.skip ?_
    refine W.seq ?_
    refine W.seq ?_
    refine W.region ?_
    refine WL.vS hS hE (runs_plain rfl) (Gives.p hE rfl) rfl ?_; clear hE a; intro a hE
    refine WL.nil ?_
    replace hS := hS.dropAt 1
    obtain ⟨q75, hq74, hr⟩ := bindS hr
    refine W.cut (fun a w => ∃ (q80 : Bool), ∃ (q81 : List Int), ∃ (cs85 : List Value), (.next (q80, q81)) = q75 ∧ Ev 1 (RI .i64) s cs85 q81 ∧ q81.length = q52.length ∧ Rep a 81 [(6, .slice a54 q52.length c55)] ∧ St w s (vecC 3 1 a54 c55 q52.length cs85 :: pt b51 (.cells #[.slice a0_0 x0.Ready.length c0_0, .slice a0_1 x0.Last.length c0_1, .slice a0_2 x0.Due.length c0_2, .slice a0_3 x0.Arcs.length c0_3, .slice a0_4 x0.Choices.length c0_4] 50 (0, 0)) :: R)) ?_ ?_
    · refine W.block ?_
      refine W.loop (fun m a w => ∃ (n76 : Nat), ∃ (q80 : Bool), ∃ (q81 : List Int), ∃ (cs85 : List Value), n76 = m ∧ Fishref2ForcedOf.loop1 x0 fu n76 q80 q81 = some q75 ∧ Ev 1 (RI .i64) s cs85 q81 ∧ q81.length = q52.length ∧ Rep a 81 [(2, .pointer (some ⟨b51, 0, none⟩)), (6, .slice a54 q52.length c55), (9, .bool q80)] ∧ St w s (vecC 3 1 a54 c55 q52.length cs85 :: pt b51 (.cells #[.slice a0_0 x0.Ready.length c0_0, .slice a0_1 x0.Last.length c0_1, .slice a0_2 x0.Due.length c0_2, .slice a0_3 x0.Arcs.length c0_3, .slice a0_4 x0.Choices.length c0_4] 50 (0, 0)) :: R)) (m := fu) ⟨fu, true, q52, cs57, rfl, hq74, h58, rfl, hE.pick _ ⟨rfl, rfl, rfl, trivial⟩, hS⟩ ?_
      clear hE hS a w hq74; rintro m77 a w ⟨n76, q80, q81, cs85, rfl, hq74, h84, hn86, hE, hS⟩
      refine W.gen fun K87 hK87 => ?_
      rcases n76 with _ | n76
      · rw [Fishref2ForcedOf.loop1] at hq74; exact absurd hq74 (by simp)
      rw [Fishref2ForcedOf.loop1] at hq74
      refine W.seq ?_
      refine W.seq ?_
      refine W.region ?_
      refine WL.vS hS hE (runs_plain rfl) (Gives.p hE rfl) rfl ?_; clear hE a; intro a hE
      refine WL.nil ?_
      refine W.cond hE rfl (fun hc88 => ?_) (fun hc88 => ?_)
      · replace hq74 := iteT hc88 hq74
        refine W.skip ?_
        refine W.block ?_
        refine W.seq ?_
        refine W.region ?_
        refine WL.vS hS hE (runs_plain rfl) (Gives.p hE rfl) rfl ?_; clear hE a; intro a hE
        refine WL.nil ?_
        refine W.seq ?_
        refine W.region ?_
        refine WL.vS hS hE (runs_plain rfl) (Gives.fld hE rfl fl50_4) rfl ?_; clear hE a; intro a hE
        refine WL.vS hS hE (runs_plain rfl) (Gives.loadB hE 1 rfl rfl rfl ty48) rfl ?_; clear hE a; intro a hE
        refine WL.vS hS hE (runs_plain rfl) (Gives.len hE rfl sl48) rfl ?_; clear hE a; intro a hE
        refine WL.vS hS hE (runs_plain rfl) (Gives.p hE rfl) rfl ?_; clear hE a; intro a hE
        refine WL.nil ?_
        obtain ⟨q90, hq89, hq74⟩ := bindS hq74
        refine W.cut (fun a w => ∃ (q100 : Bool), ∃ (q101 : List Int), ∃ (cs105 : List Value), (.next (q100, q101)) = q90 ∧ Ev 1 (RI .i64) s cs105 q101 ∧ q101.length = q52.length ∧ Rep a 81 [(2, .pointer (some ⟨b51, 0, none⟩)), (6, .slice a54 q52.length c55), (9, .bool q100)] ∧ St w s (vecC 3 1 a54 c55 q52.length cs105 :: pt b51 (.cells #[.slice a0_0 x0.Ready.length c0_0, .slice a0_1 x0.Last.length c0_1, .slice a0_2 x0.Due.length c0_2, .slice a0_3 x0.Arcs.length c0_3, .slice a0_4 x0.Choices.length c0_4] 50 (0, 0)) :: R)) ?_ ?_
        · refine W.block ?_
          refine W.loop (fun m a w => ∃ (rest93 : List MendChoice) (k91 : Nat), ∃ (q100 : Bool), ∃ (q101 : List Int), ∃ (cs105 : List Value), rest93.length = m ∧ x0.Choices.drop k91 = rest93 ∧ Fishref2ForcedOf.loop2 x0 fu rest93 k91 q100 q101 = some q90 ∧ Ev 1 (RI .i64) s cs105 q101 ∧ q101.length = q52.length ∧ Rep a 81 [(2, .pointer (some ⟨b51, 0, none⟩)), (6, .slice a54 q52.length c55), (9, .bool q100), (28, .slice a0_4 x0.Choices.length c0_4), (29, .int .i64 ((x0.Choices).length : Int)), (30, .int .i64 ((k91 : Nat) : Int))] ∧ St w s (vecC 3 1 a54 c55 q52.length cs105 :: pt b51 (.cells #[.slice a0_0 x0.Ready.length c0_0, .slice a0_1 x0.Last.length c0_1, .slice a0_2 x0.Due.length c0_2, .slice a0_3 x0.Arcs.length c0_3, .slice a0_4 x0.Choices.length c0_4] 50 (0, 0)) :: R)) (m := x0.Choices.length) ⟨x0.Choices, 0, false, q81, cs85, rfl, rfl, hq89, h84, hn86, hE.pick _ ⟨rfl, rfl, rfl, rfl, rfl, rfl, trivial⟩, hS⟩ ?_
          clear hE hS a w hq89; rintro m97 a w ⟨rest93, k91, q100, q101, cs105, rfl, hd94, hq89, h104, hn106, hE, hS⟩
          refine W.gen fun K107 hK107 => ?_
          rcases rest93 with _ | ⟨x92, rest93⟩
          · have hlt95 := drop_nil hd94
            refine W.seq ?_
            refine W.region ?_
            refine WL.vS hS hE (runs_plain rfl) (Gives.p hE rfl) rfl ?_; clear hE a; intro a hE
            refine WL.nil ?_
            refine W.seq ?_
            refine W.condF hE rfl (decide_eq_false (by omega)) ?_
            subst hK107
            refine W.exit rfl ?_
            exact ⟨q100, q101, cs105, Option.some.inj hq89, h104, hn106, hE.pick _ ⟨rfl, rfl, rfl, trivial⟩, hS⟩
          · obtain ⟨hlt95, hx96, hd94⟩ := drop_cons hd94
            rw [Fishref2ForcedOf.loop2] at hq89
            refine W.seq ?_
            refine W.region ?_
            refine WL.vS hS hE (runs_plain rfl) (Gives.p hE rfl) rfl ?_; clear hE a; intro a hE
            refine WL.nil ?_
            refine W.seq ?_
            refine W.condT hE rfl (decide_eq_true (by omega)) ?_
            refine W.skip ?_
            refine W.seq ?_
            refine W.block ?_
            refine W.seq ?_
            refine W.region ?_
            refine WL.vS hS hE (runs_plain rfl) (Gives.p hE rfl) rfl ?_; clear hE a; intro a hE
            obtain ⟨cs108, hl109, hR110, hat111⟩ := h0_4.at hx96
            obtain ⟨a112, c113, rfl, h114⟩ := hR110
            refine WL.vS hS hE (runs_plain rfl) (Gives.idx hE k91 rfl rfl sl48 rfl hlt95 (h0_4.aok hlt95)) rfl ?_; clear hE a; intro a hE
            refine WL.vS hS hE (runs_plain rfl) (Gives.loadA hE rfl (fun w h => hat111 w _ h) ty97) rfl ?_; clear hE a; intro a hE
            refine WL.alloc hE hS (runs_plain rfl) zr97 rfl ?_; clear hE hS a w; intro b115 a w hE hS
            refine WL.vS hS hE (runs_plain rfl) (Gives.p hE rfl) rfl ?_; clear hE a; intro a hE
            refine WL.storeI hE hS 0 rfl [.slice a112 x92.Ways.length c113] (runs_plain rfl) rfl rfl rfl ty97 rfl rfl rfl rfl ?_; clear hE hS a w; intro a w hE hS
            refine WL.nil ?_
            refine W.seq ?_
            refine W.seq ?_
            refine W.region ?_
            refine WL.vS hS hE (runs_plain rfl) (Gives.p hE rfl) rfl ?_; clear hE a; intro a hE
            refine WL.vS hS hE (runs_plain rfl) (Gives.p hE rfl) rfl ?_; clear hE a; intro a hE
            obtain ⟨x116, hx117, hq89⟩ := bindS hq89
            obtain ⟨hi118, hlt119, hy120⟩ := gx_some hx117
            obtain ⟨vs121, hl122, hR123, hd124, hget125⟩ := h104.at hy120
            subst hR123
            refine WL.vS hS hE (runs_plain rfl) (Gives.idx hE ((((k91 : Nat) : Int)).toNat) rfl rfl sl22 hi118 (by have := hn106; omega) (hS.vecAok 1 rfl (by have := hn106; omega : (((k91 : Nat) : Int)).toNat < q52.length))) rfl ?_; clear hE a; intro a hE
            refine WL.vS hS hE (runs_plain rfl) (Gives.load1 hE rfl (fun w h => St.vecSees h 1 rfl ((((k91 : Nat) : Int)).toNat * 1) _ hget125) ty3) rfl ?_; clear hE a; intro a hE
            refine WL.vS hS hE (runs_plain rfl) (Gives.p hE rfl) rfl ?_; clear hE a; intro a hE
            refine WL.nil ?_
            refine W.cond hE rfl (fun hc126 => ?_) (fun hc126 => ?_)
            · replace hq89 := iteT hc126 hq89
              refine W.exit rfl ?_
              refine W.region ?_
              refine WL.vS hS hE (runs_plain rfl) (Gives.inc hE rfl (by have := h0_4.small; omega)) rfl ?_; clear hE a; intro a hE
              refine WL.vS hS hE (runs_plain rfl) (Gives.p hE rfl) rfl ?_; clear hE a; intro a hE
              refine WL.nil ?_
              replace hS := hS.tail
              subst hK107
              exact ⟨rest93.length, Nat.lt_succ_self _, rest93, k91 + 1, q100, q101, cs105, rfl, hd94, hq89, h104, hn106, hE.pick _ ⟨rfl, rfl, rfl, rfl, rfl, rfl, trivial⟩, hS⟩
            · replace hq89 := iteF hc126 hq89
              refine W.skip ?_
              refine W.seq ?_
              refine W.region ?_
              replace hS := hS.vecNil 3 1
              refine WL.vS hS hE (runs_plain rfl) (Gives.p hE rfl) rfl ?_; clear hE a; intro a hE
              refine WL.nil ?_
              refine W.seq ?_
              refine W.seq ?_
              refine W.region ?_
              refine WL.vS hS hE (runs_plain rfl) (Gives.fld hE rfl fl97_0) rfl ?_; clear hE a; intro a hE
              refine WL.vS hS hE (runs_plain rfl) (Gives.loadB hE 1 rfl rfl rfl ty95) rfl ?_; clear hE a; intro a hE
              refine WL.vS hS hE (runs_plain rfl) (Gives.len hE rfl sl95) rfl ?_; clear hE a; intro a hE
              refine WL.vS hS hE (runs_plain rfl) (Gives.p hE rfl) rfl ?_; clear hE a; intro a hE
              refine WL.nil ?_
              obtain ⟨q129, hq128, hq89⟩ := bindS hq89
              refine W.cut (fun a w => ∃ (q139 : List Int), ∃ (q146 : List Int), ∃ (a140 : Option Addr), ∃ (c141 : Nat), ∃ (n143 : Nat), ∃ (cs144 : List Value), ∃ (cs150 : List Value), (q139, q146) = q129 ∧ Ev 1 (RI .i64) s cs144 q139 ∧ q139.length = n143 ∧ Ev 1 (RI .i64) s cs150 q146 ∧ q146.length = q52.length ∧ Rep a 81 [(2, .pointer (some ⟨b51, 0, none⟩)), (6, .slice a54 q52.length c55), (9, .bool q100), (10, .int .i64 ((k91 : Nat) : Int)), (12, .slice a140 n143 c141), (28, .slice a0_4 x0.Choices.length c0_4), (29, .int .i64 ((x0.Choices).length : Int)), (30, .int .i64 ((k91 : Nat) : Int))] ∧ St w s (vecC 3 1 a140 c141 n143 cs144 :: pt b115 (.cells #[.slice a112 x92.Ways.length c113] 97 (0, 0)) :: vecC 3 1 a54 c55 q52.length cs150 :: pt b51 (.cells #[.slice a0_0 x0.Ready.length c0_0, .slice a0_1 x0.Last.length c0_1, .slice a0_2 x0.Due.length c0_2, .slice a0_3 x0.Arcs.length c0_3, .slice a0_4 x0.Choices.length c0_4] 50 (0, 0)) :: R)) ?_ ?_
              · refine W.block ?_
                refine W.loop (fun m a w => ∃ (rest132 : List (List MendArc)) (k130 : Nat), ∃ (q139 : List Int), ∃ (q146 : List Int), ∃ (a140 : Option Addr), ∃ (c141 : Nat), ∃ (n143 : Nat), ∃ (cs144 : List Value), ∃ (cs150 : List Value), rest132.length = m ∧ x92.Ways.drop k130 = rest132 ∧ Fishref2ForcedOf.loop3 x0 fu k91 rest132 k130 q139 q146 = some q129 ∧ Ev 1 (RI .i64) s cs144 q139 ∧ q139.length = n143 ∧ Ev 1 (RI .i64) s cs150 q146 ∧ q146.length = q52.length ∧ Rep a 81 [(2, .pointer (some ⟨b51, 0, none⟩)), (6, .slice a54 q52.length c55), (9, .bool q100), (10, .int .i64 ((k91 : Nat) : Int)), (12, .slice a140 n143 c141), (28, .slice a0_4 x0.Choices.length c0_4), (29, .int .i64 ((x0.Choices).length : Int)), (30, .int .i64 ((k91 : Nat) : Int)), (42, .int .i64 ((x92.Ways).length : Int)), (43, .int .i64 ((k130 : Nat) : Int))] ∧ St w s (vecC 3 1 a140 c141 n143 cs144 :: pt b115 (.cells #[.slice a112 x92.Ways.length c113] 97 (0, 0)) :: vecC 3 1 a54 c55 q52.length cs150 :: pt b51 (.cells #[.slice a0_0 x0.Ready.length c0_0, .slice a0_1 x0.Last.length c0_1, .slice a0_2 x0.Due.length c0_2, .slice a0_3 x0.Arcs.length c0_3, .slice a0_4 x0.Choices.length c0_4] 50 (0, 0)) :: R)) (m := x92.Ways.length) ⟨x92.Ways, 0, [], q101, none, 0, 0, [], cs105, rfl, rfl, hq128, (Ev.nil), (rfl), h104, hn106, hE.pick _ ⟨rfl, rfl, rfl, rfl, rfl, rfl, rfl, rfl, rfl, rfl, trivial⟩, hS⟩ ?_
                clear hE hS a w hq128; rintro m136 a w ⟨rest132, k130, q139, q146, a140, c141, n143, cs144, cs150, rfl, hd133, hq128, h142, rfl, h149, hn151, hE, hS⟩
                refine W.gen fun K152 hK152 => ?_
                rcases rest132 with _ | ⟨x131, rest132⟩
                · have hlt134 := drop_nil hd133
                  refine W.seq ?_
                  refine W.region ?_
                  refine WL.vS hS hE (runs_plain rfl) (Gives.p hE rfl) rfl ?_; clear hE a; intro a hE
                  refine WL.nil ?_
                  refine W.seq ?_
                  refine W.condF hE rfl (decide_eq_false (by omega)) ?_
                  subst hK152
                  refine W.exit rfl ?_
                  exact ⟨q139, q146, a140, c141, q139.length, cs144, cs150, Option.some.inj hq128, h142, rfl, h149, hn151, hE.pick _ ⟨rfl, rfl, rfl, rfl, rfl, rfl, rfl, rfl, trivial⟩, hS⟩
                · obtain ⟨hlt134, hx135, hd133⟩ := drop_cons hd133
                  rw [Fishref2ForcedOf.loop3] at hq128
                  refine W.seq ?_
                  refine W.region ?_
                  refine WL.vS hS hE (runs_plain rfl) (Gives.p hE rfl) rfl ?_; clear hE a; intro a hE
                  refine WL.nil ?_
                  refine W.seq ?_
                  refine W.condT hE rfl (decide_eq_true (by omega)) ?_
                  refine W.skip ?_
                  refine W.seq ?_
                  refine W.block ?_
                  refine W.seq ?_
                  refine W.region ?_
                  refine WL.vS hS hE (runs_plain rfl) (Gives.p hE rfl) rfl ?_; clear hE a; intro a hE
                  refine WL.vS hS hE (runs_plain rfl) (Gives.p hE rfl) rfl ?_; clear hE a; intro a hE
                  refine WL.nil ?_
                  refine W.seq ?_
                  refine W.region ?_
                  refine WL.vS hS hE (runs_plain rfl) (Gives.p hE rfl) rfl ?_; clear hE a; intro a hE
                  refine WL.vS hS hE (runs_plain rfl) (Gives.p hE rfl) rfl ?_; clear hE a; intro a hE
                  refine WL.vS hS hE (runs_plain rfl) (Gives.p hE rfl) rfl ?_; clear hE a; intro a hE
                  refine WL.vS hS hE (runs_plain rfl) (Gives.inc hE rfl (by have := h114.small; omega)) rfl ?_; clear hE a; intro a hE
                  obtain ⟨_, hx154, hq128⟩ := bindS hq128
                  obtain ⟨h155, h156⟩ := ix_some hx154
                  refine WL.vS hS hE (runs_plain rfl) (Gives.idx hE ((((k91 : Nat) : Int)).toNat) rfl rfl sl22 h155 (by have := hn151; omega) (hS.vecAok 2 rfl (by have := hn151; omega : (((k91 : Nat) : Int)).toNat < q52.length))) rfl ?_; clear hE a; intro a hE
                  obtain ⟨x158, hx159, hq128⟩ := bindS hq128
                  refine WL.setD hE hS 2 rfl (runs_plain rfl) rfl rfl (vs := [.int .i64 ((k130 + 1 : Nat) : Int)]) rfl ty3 rfl rfl rfl h149 hn151 (sx_some hx159).1 hx159 rfl rfl ?_; clear hE hS a w; intro cs160 a w h161 hn162 hE hS
                  refine WL.nil ?_
                  refine W.seq ?_
                  refine W.region ?_
                  refine WL.vS hS hE (runs_plain rfl) (Gives.loadBA hE 3 rfl rfl ty50) rfl ?_; clear hE a; intro a hE
                  refine WL.vS hS hE (runs_plain rfl) (Gives.p hE rfl) rfl ?_; clear hE a; intro a hE
                  obtain ⟨q163, hq164, hq128⟩ := bindS hq128
                  have hF := hS.lendV RI.mono 2 rfl h161 hn162; clear hS; obtain ⟨t171, hle172, hS, hs173, bk174⟩ := hF
                  have hc_ := (by have hc_ := Fishref2TimesOf_ok hS (Sl.mono RI.mono hle172 h0_0) (Sl.mono RI.mono hle172 h0_1) (Sl.mono RI.mono hle172 h0_2) (Sl.mono RMendArc.mono hle172 h0_3) (Sl.mono RMendChoice.mono hle172 h0_4) hs173 hq164; rw [hn162] at hc_; exact hc_)
                  refine WL.fnq hE (hc_) (runs_plain rfl) bd43 rfl rfl rfl ?_
                  clear hE hS hc_; rintro e w ⟨a165, c166, n167, cs168, rfl, h169, rfl, hS⟩; refine ⟨_, rfl, ?_⟩; clear a; intro a hE
                  replace hS := bk174 _ _ hS
                  replace h169 := Ev.flat (s2 := s) (fun _ _ _ _ h => h) h169
                  refine WL.vS hS hE (runs_plain rfl) (Gives.p hE rfl) rfl ?_; clear hE a; intro a hE
                  refine WL.vS hS hE (runs_plain rfl) (Gives.p hE rfl) rfl ?_; clear hE a; intro a hE
                  refine WL.vS hS hE (runs_plain rfl) (Gives.p hE rfl) rfl ?_; clear hE a; intro a hE
                  refine WL.vS hS hE (runs_plain rfl) (Gives.p hE rfl) rfl ?_; clear hE a; intro a hE
                  refine WL.vS hS hE (runs_plain rfl) (Gives.p hE rfl) rfl ?_; clear hE a; intro a hE
                  refine WL.nil ?_
                  refine W.seq ?_
                  refine W.region ?_
                  refine WL.vS hS hE (runs_plain rfl) (Gives.p hE rfl) rfl ?_; clear hE a; intro a hE
                  refine WL.nil ?_
                  obtain ⟨q176, hq175, hq128⟩ := bindS hq128
                  refine W.cut (fun a w => ∃ (q179 : List Int), ∃ (a180 : Option Addr), ∃ (c181 : Nat), ∃ (n183 : Nat), ∃ (cs184 : List Value), q179 = q176 ∧ Ev 1 (RI .i64) s cs184 q179 ∧ q179.length = n183 ∧ Rep a 81 [(2, .pointer (some ⟨b51, 0, none⟩)), (6, .slice a54 q52.length c55), (9, .bool q100), (10, .int .i64 ((k91 : Nat) : Int)), (12, .slice a180 n183 c181), (28, .slice a0_4 x0.Choices.length c0_4), (29, .int .i64 ((x0.Choices).length : Int)), (30, .int .i64 ((k91 : Nat) : Int)), (42, .int .i64 ((x92.Ways).length : Int)), (43, .int .i64 ((k130 : Nat) : Int))] ∧ St w s (vecC 3 1 a54 c55 q52.length cs160 :: vecC 3 1 a180 c181 n183 cs184 :: pt b115 (.cells #[.slice a112 x92.Ways.length c113] 97 (0, 0)) :: pt b51 (.cells #[.slice a0_0 x0.Ready.length c0_0, .slice a0_1 x0.Last.length c0_1, .slice a0_2 x0.Due.length c0_2, .slice a0_3 x0.Arcs.length c0_3, .slice a0_4 x0.Choices.length c0_4] 50 (0, 0)) :: R)) ?_ ?_
                  · refine W.gen fun K186 hK186 => ?_
                    refine W.cond hE rfl (fun hc187 => ?_) (fun hc187 => ?_)
                    · replace hq175 := iteT hc187 hq175
                      refine W.region ?_
                      refine WL.vS hS hE (runs_plain rfl) (Gives.p hE rfl) rfl ?_; clear hE a; intro a hE
                      refine WL.vS hS hE (runs_plain rfl) (Gives.p hE rfl) rfl ?_; clear hE a; intro a hE
                      refine WL.vS hS hE (runs_plain rfl) (Gives.inc hE rfl (by have := h114.small; omega)) rfl ?_; clear hE a; intro a hE
                      refine WL.lit hE hS (e := 3) (es := 1) (vs := [(0, .int .i64 ((k130 + 1 : Nat) : Int))]) (cs := [.int .i64 ((k130 + 1 : Nat) : Int)]) (runs_plain rfl) rfl (by kernel_rfl) rfl ?_; clear hE hS a w; intro b188 a w hE hS
                      obtain ⟨x189, hx190, hq175⟩ := bindS hq175
                      refine WL.appD hE hS 2 (m := 1) (runs_plain rfl) rfl rfl rfl ap22 rfl h142 rfl (xs := [((k130 + 1 : Nat) : Int)]) (Ev.cons (c1 := [.int .i64 ((k130 + 1 : Nat) : Int)]) rfl rfl (Ev.nil)) rfl rfl hx190 rfl ?_; clear hE hS a w; intro a191 c192 cs193 a w h194 hE hS
                      refine WL.vS hS hE (runs_plain rfl) (Gives.p hE rfl) rfl ?_; clear hE a; intro a hE
                      refine WL.nil ?_
                      replace hS := hS.dropAt 1
                      subst hK186
                      exact ⟨x189, a191, c192, x189.length, cs193, Option.some.inj hq175, h194, (rfl), hE.pick _ ⟨rfl, rfl, rfl, rfl, rfl, rfl, rfl, rfl, rfl, rfl, trivial⟩, hS⟩
                    · replace hq175 := iteF hc187 hq175
                      refine W.skip ?_
                      replace hS := hS.dropAt 1
                      subst hK186
                      exact ⟨q139, a140, c141, q139.length, cs144, Option.some.inj hq175, h142, rfl, hE.pick _ ⟨rfl, rfl, rfl, rfl, rfl, rfl, rfl, rfl, rfl, rfl, trivial⟩, hS⟩
                  · clear hE hS a w; rintro a w ⟨q179, a180, c181, n183, cs184, rfl, h182, rfl, hE, hS⟩
                    refine W.region ?_
                    refine WL.vS hS hE (runs_plain rfl) (Gives.inc hE rfl (by have := h114.small; omega)) rfl ?_; clear hE a; intro a hE
                    refine WL.vS hS hE (runs_plain rfl) (Gives.p hE rfl) rfl ?_; clear hE a; intro a hE
                    refine WL.nil ?_
                    replace hS := hS.front 3 rfl
                    replace hS := hS.front 1 rfl
                    replace hS := hS.front 3 rfl
                    replace hS := hS.front 3 rfl
                    subst hK152
                    exact ⟨rest132.length, Nat.lt_succ_self _, rest132, k130 + 1, q179, x158, a180, c181, q179.length, cs184, cs160, rfl, hd133, hq128, h182, rfl, h161, hn162, hE.pick _ ⟨rfl, rfl, rfl, rfl, rfl, rfl, rfl, rfl, rfl, rfl, trivial⟩, hS⟩
              · clear hE hS a w; rintro a w ⟨q139, q146, a140, c141, n143, cs144, cs150, rfl, h142, rfl, h149, hn151, hE, hS⟩
                dsimp only at hq89
                refine W.seq ?_
                refine W.region ?_
                refine WL.vS hS hE (runs_plain rfl) (Gives.p hE rfl) rfl ?_; clear hE a; intro a hE
                refine WL.vS hS hE (runs_plain rfl) (Gives.p hE rfl) rfl ?_; clear hE a; intro a hE
                obtain ⟨_, hx196, hq89⟩ := bindS hq89
                obtain ⟨h197, h198⟩ := ix_some hx196
                refine WL.vS hS hE (runs_plain rfl) (Gives.idx hE ((((k91 : Nat) : Int)).toNat) rfl rfl sl22 h197 (by have := hn151; omega) (hS.vecAok 2 rfl (by have := hn151; omega : (((k91 : Nat) : Int)).toNat < q52.length))) rfl ?_; clear hE a; intro a hE
                obtain ⟨x200, hx201, hq89⟩ := bindS hq89
                refine WL.setD hE hS 2 rfl (runs_plain rfl) rfl rfl (vs := [.int .i64 0]) rfl ty3 rfl rfl rfl h149 hn151 (sx_some hx201).1 hx201 rfl rfl ?_; clear hE hS a w; intro cs202 a w h203 hn204 hE hS
                refine WL.nil ?_
                refine W.seq ?_
                refine W.seq ?_
                refine W.region ?_
                refine WL.vS hS hE (runs_plain rfl) (Gives.p hE rfl) rfl ?_; clear hE a; intro a hE
                refine WL.vS hS hE (runs_plain rfl) (Gives.len hE rfl sl22) rfl ?_; clear hE a; intro a hE
                refine WL.vS hS hE (runs_plain rfl) (Gives.p hE rfl) rfl ?_; clear hE a; intro a hE
                refine WL.nil ?_
                refine W.cond hE rfl (fun hc205 => ?_) (fun hc205 => ?_)
                · replace hq89 := iteT hc205 hq89
                  refine W.seq ?_
                  refine W.region ?_
                  refine WL.vS hS hE (runs_plain rfl) (Gives.p hE rfl) rfl ?_; clear hE a; intro a hE
                  refine WL.vS hS hE (runs_plain rfl) (Gives.p hE rfl) rfl ?_; clear hE a; intro a hE
                  refine WL.nil ?_
                  refine W.ret ?_
                  subst hK107
                  subst hK87
                  rw [← Option.some.inj hq89] at hq74
                  dsimp only at hq74
                  rw [← Option.some.inj hq74] at hr
                  dsimp only at hr
                  replace hS := hS.vecNil 3 1
                  refine finG (fn := Try.f42) (rs := [.tmp 4, .tmp 5]) (vs := [_, _]) hE rfl ⟨rfl, rfl, trivial⟩ ?_
                  obtain rfl := Option.some.inj hr
                  replace hS := hS.dropAt 1
                  replace hS := hS.dropAt 1
                  replace hS := hS.dropAt 1
                  replace hS := hS.dropAt 1
                  exact ⟨none, 0, 0, [], rfl, (Ev.nil), (rfl), hS⟩
                · replace hq89 := iteF hc205 hq89
                  refine W.skip ?_
                  refine W.seq ?_
                  refine W.region ?_
                  refine WL.vS hS hE (runs_plain rfl) (Gives.p hE rfl) rfl ?_; clear hE a; intro a hE
                  refine WL.vS hS hE (runs_plain rfl) (Gives.len hE rfl sl22) rfl ?_; clear hE a; intro a hE
                  refine WL.vS hS hE (runs_plain rfl) (Gives.p hE rfl) rfl ?_; clear hE a; intro a hE
                  refine WL.nil ?_
                  refine W.cond hE rfl (fun hc207 => ?_) (fun hc207 => ?_)
                  · replace hq89 := iteT hc207 hq89
                    refine W.seq ?_
                    refine W.region ?_
                    refine WL.vS hS hE (runs_plain rfl) (Gives.p hE rfl) rfl ?_; clear hE a; intro a hE
                    refine WL.vS hS hE (runs_plain rfl) (Gives.p hE rfl) rfl ?_; clear hE a; intro a hE
                    refine WL.vS hS hE (runs_plain rfl) (Gives.p hE rfl) rfl ?_; clear hE a; intro a hE
                    obtain ⟨x208, hx209, hq89⟩ := bindS hq89
                    obtain ⟨hi210, hlt211, hy212⟩ := gx_some hx209
                    obtain ⟨vs213, hl214, hR215, hd216, hget217⟩ := h142.at hy212
                    subst hR215
                    refine WL.vS hS hE (runs_plain rfl) (Gives.idx hE (((0 : Int)).toNat) rfl rfl sl22 hi210 (by omega) (hS.vecAok 0 rfl (by omega : ((0 : Int)).toNat < q139.length))) rfl ?_; clear hE a; intro a hE
                    refine WL.vS hS hE (runs_plain rfl) (Gives.load1 hE rfl (fun w h => St.vecSees h 0 rfl (((0 : Int)).toNat * 1) _ hget217) ty3) rfl ?_; clear hE a; intro a hE
                    obtain ⟨_, hx219, hq89⟩ := bindS hq89
                    obtain ⟨h220, h221⟩ := ix_some hx219
                    refine WL.vS hS hE (runs_plain rfl) (Gives.idx hE ((((k91 : Nat) : Int)).toNat) rfl rfl sl22 h220 (by have := hn204; omega) (hS.vecAok 2 rfl (by have := hn204; omega : (((k91 : Nat) : Int)).toNat < q52.length))) rfl ?_; clear hE a; intro a hE
                    obtain ⟨x223, hx224, hq89⟩ := bindS hq89
                    refine WL.setD hE hS 2 rfl (runs_plain rfl) rfl rfl (vs := [.int .i64 x208]) rfl ty3 rfl rfl rfl h203 hn204 (sx_some hx224).1 hx224 rfl rfl ?_; clear hE hS a w; intro cs225 a w h226 hn227 hE hS
                    refine WL.vS hS hE (runs_plain rfl) (Gives.p hE rfl) rfl ?_; clear hE a; intro a hE
                    refine WL.nil ?_
                    subst hK107
                    refine W.exit rfl ?_
                    replace hS := hS.tail
                    replace hS := hS.tail
                    exact ⟨true, x223, cs225, Option.some.inj hq89, h226, hn227, hE.pick _ ⟨rfl, rfl, rfl, trivial⟩, hS⟩
                  · replace hq89 := iteF hc207 hq89
                    refine W.skip ?_
                    refine W.region ?_
                    refine WL.vS hS hE (runs_plain rfl) (Gives.inc hE rfl (by have := h0_4.small; omega)) rfl ?_; clear hE a; intro a hE
                    refine WL.vS hS hE (runs_plain rfl) (Gives.p hE rfl) rfl ?_; clear hE a; intro a hE
                    refine WL.nil ?_
                    replace hS := hS.tail
                    replace hS := hS.tail
                    subst hK107
                    exact ⟨rest93.length, Nat.lt_succ_self _, rest93, k91 + 1, q100, x200, cs202, rfl, hd94, hq89, h203, hn204, hE.pick _ ⟨rfl, rfl, rfl, rfl, rfl, rfl, trivial⟩, hS⟩
        · clear hE hS a w; rintro a w ⟨q100, q101, cs105, rfl, h104, hn106, hE, hS⟩
          dsimp only at hq74
          subst hK87
          exact ⟨n76, Nat.lt_succ_self _, n76, q100, q101, cs105, rfl, hq74, h104, hn106, hE.pick _ ⟨rfl, rfl, rfl, trivial⟩, hS⟩
      · replace hq74 := iteF hc88 hq74
        subst hK87
        refine W.exit rfl ?_
        exact ⟨q80, q81, cs85, Option.some.inj hq74, h84, hn86, hE.pick _ ⟨rfl, trivial⟩, hS⟩
    · clear hE hS a w; rintro a w ⟨q80, q81, cs85, rfl, h84, hn86, hE, hS⟩
      dsimp only at hr
      refine W.seq ?_
      refine W.region ?_
      refine WL.vS hS hE (runs_plain rfl) (Gives.p hE rfl) rfl ?_; clear hE a; intro a hE
      refine WL.vS hS hE (runs_plain rfl) (Gives.p hE rfl) rfl ?_; clear hE a; intro a hE
      refine WL.vS hS hE (runs_plain rfl) (Gives.p hE rfl) rfl ?_; clear hE a; intro a hE
      refine WL.nil ?_
      refine W.ret ?_
      refine finG (fn := Try.f42) (rs := [.tmp 4, .tmp 5]) (vs := [_, _]) hE rfl ⟨rfl, rfl, trivial⟩ ?_
      obtain rfl := Option.some.inj hr
      replace hS := hS.dropAt 1
      exact ⟨a54, c55, q52.length, cs85, rfl, h84, hn86, hS⟩
set_option maxHeartbeats 8000000 in
theorem Fishref2DelayOf_ok  {w : World} {s : Sg} {R : List HP} {x0 : MendGraph} {a0_0 : Option Addr} {c0_0 : Nat} {a0_1 : Option Addr} {c0_1 : Nat} {a0_2 : Option Addr} {c0_2 : Nat} {a0_3 : Option Addr} {c0_3 : Nat} {a0_4 : Option Addr} {c0_4 : Nat} {x1 : List Int} {a1 : Option Addr} {c1 : Nat} (hS : St w s (R)) (_h0_0 : Sl 1 (RI .i64) s a0_0 c0_0 x0.Ready) (_h0_1 : Sl 1 (RI .i64) s a0_1 c0_1 x0.Last) (h0_2 : Sl 1 (RI .i64) s a0_2 c0_2 x0.Due) (_h0_3 : Sl 3 RMendArc s a0_3 c0_3 x0.Arcs) (_h0_4 : Sl 1 RMendChoice s a0_4 c0_4 x0.Choices) (h1 : Sl 1 (RI .i64) s a1 c1 x1) {r : Int} (hr : Fishref2DelayOf x0 x1 = some r) :
    Calls Try.prog 44 [.agg [.slice a0_0 x0.Ready.length c0_0, .slice a0_1 x0.Last.length c0_1, .slice a0_2 x0.Due.length c0_2, .slice a0_3 x0.Arcs.length c0_3, .slice a0_4 x0.Choices.length c0_4].toArray, .slice a1 x1.length c1].toArray w (fun e w => e = .returned (.int .i64 r) ∧ St w s (R)) := by
  refine enter Try.func44 rfl rfl rfl fun a hE => ?_
  rw [Fishref2DelayOf] at hr
  refine W.seq ?_
  refine W.region ?_
  refine WL.box hE hS (runs_plain rfl) rfl rfl rfl ?_; clear hE hS a w; intro b51 a w hE hS
  refine WL.vS hS hE (runs_plain rfl) (Gives.p hE rfl) rfl ?_; clear hE a; intro a hE
  refine WL.nil ?_
  refine W.seq ?_
  refine W.region ?_
  refine WL.vS hS hE (runs_plain rfl) (Gives.p hE rfl) rfl ?_; clear hE a; intro a hE
  refine WL.nil ?_
  refine W.seq ?_
  refine W.seq ?_
  refine W.region ?_
  refine WL.vS hS hE (runs_plain rfl) (Gives.p hE rfl) rfl ?_; clear hE a; intro a hE
  refine WL.vS hS hE (runs_plain rfl) (Gives.len hE rfl sl22) rfl ?_; clear hE a; intro a hE
  refine WL.vS hS hE (runs_plain rfl) (Gives.p hE rfl) rfl ?_; clear hE a; intro a hE
  refine WL.nil ?_
  obtain ⟨q53, hq52, hr⟩ := bindS hr
  refine W.cut (fun a w => ∃ (q63 : Int), q63 = q53 ∧ Rep a 33 [(5, .int .i64 q63)] ∧ St w s (pt b51 (.cells #[.slice a0_0 x0.Ready.length c0_0, .slice a0_1 x0.Last.length c0_1, .slice a0_2 x0.Due.length c0_2, .slice a0_3 x0.Arcs.length c0_3, .slice a0_4 x0.Choices.length c0_4] 50 (0, 0)) :: R)) ?_ ?_
  · refine W.block ?_
    refine W.loop (fun m a w => ∃ (rest56 : List Int) (k54 : Nat), ∃ (q63 : Int), rest56.length = m ∧ x1.drop k54 = rest56 ∧ Fishref2DelayOf.loop1 x0 rest56 k54 q63 = some q53 ∧ Rep a 33 [(2, .pointer (some ⟨b51, 0, none⟩)), (5, .int .i64 q63), (8, .slice a1 x1.length c1), (9, .int .i64 ((x1).length : Int)), (10, .int .i64 ((k54 : Nat) : Int))] ∧ St w s (pt b51 (.cells #[.slice a0_0 x0.Ready.length c0_0, .slice a0_1 x0.Last.length c0_1, .slice a0_2 x0.Due.length c0_2, .slice a0_3 x0.Arcs.length c0_3, .slice a0_4 x0.Choices.length c0_4] 50 (0, 0)) :: R)) (m := x1.length) ⟨x1, 0, 0, rfl, rfl, hq52, hE.pick _ ⟨rfl, rfl, rfl, rfl, rfl, trivial⟩, hS⟩ ?_
    clear hE hS a w hq52; rintro m60 a w ⟨rest56, k54, q63, rfl, hd57, hq52, hE, hS⟩
    refine W.gen fun K64 hK64 => ?_
    rcases rest56 with _ | ⟨x55, rest56⟩
    · have hlt58 := drop_nil hd57
      refine W.seq ?_
      refine W.region ?_
      refine WL.vS hS hE (runs_plain rfl) (Gives.p hE rfl) rfl ?_; clear hE a; intro a hE
      refine WL.nil ?_
      refine W.seq ?_
      refine W.condF hE rfl (decide_eq_false (by omega)) ?_
      subst hK64
      refine W.exit rfl ?_
      exact ⟨q63, Option.some.inj hq52, hE.pick _ ⟨rfl, trivial⟩, hS⟩
    · obtain ⟨hlt58, hx59, hd57⟩ := drop_cons hd57
      rw [Fishref2DelayOf.loop1] at hq52
      refine W.seq ?_
      refine W.region ?_
      refine WL.vS hS hE (runs_plain rfl) (Gives.p hE rfl) rfl ?_; clear hE a; intro a hE
      refine WL.nil ?_
      refine W.seq ?_
      refine W.condT hE rfl (decide_eq_true (by omega)) ?_
      refine W.skip ?_
      refine W.seq ?_
      refine W.block ?_
      refine W.seq ?_
      refine W.region ?_
      refine WL.vS hS hE (runs_plain rfl) (Gives.p hE rfl) rfl ?_; clear hE a; intro a hE
      obtain ⟨cs65, hl66, hR67, hat68⟩ := h1.at hx59
      subst hR67
      refine WL.vS hS hE (runs_plain rfl) (Gives.idx hE k54 rfl rfl sl22 rfl hlt58 (h1.aok hlt58)) rfl ?_; clear hE a; intro a hE
      refine WL.vS hS hE (runs_plain rfl) (Gives.load1 hE rfl (fun w h => hat68 w _ h) ty3) rfl ?_; clear hE a; intro a hE
      refine WL.vS hS hE (runs_plain rfl) (Gives.p hE rfl) rfl ?_; clear hE a; intro a hE
      refine WL.vS hS hE (runs_plain rfl) (Gives.p hE rfl) rfl ?_; clear hE a; intro a hE
      refine WL.nil ?_
      refine W.seq ?_
      refine W.region ?_
      refine WL.vS hS hE (runs_plain rfl) (Gives.fld hE rfl fl50_2) rfl ?_; clear hE a; intro a hE
      refine WL.vS hS hE (runs_plain rfl) (Gives.loadB hE 0 rfl rfl rfl ty22) rfl ?_; clear hE a; intro a hE
      refine WL.vS hS hE (runs_plain rfl) (Gives.p hE rfl) rfl ?_; clear hE a; intro a hE
      obtain ⟨x69, hx70, hq52⟩ := bindS hq52
      obtain ⟨hi71, hlt72, hy73⟩ := gx_some hx70
      obtain ⟨cs74, hl75, hR76, hat77⟩ := h0_2.at hy73
      subst hR76
      refine WL.vS hS hE (runs_plain rfl) (Gives.idx hE (((k54 : Nat) : Int)).toNat rfl rfl sl22 hi71 hlt72 (h0_2.aok hlt72)) rfl ?_; clear hE a; intro a hE
      refine WL.vS hS hE (runs_plain rfl) (Gives.load1 hE rfl (fun w h => hat77 w _ h) ty3) rfl ?_; clear hE a; intro a hE
      refine WL.vS hS hE (runs_plain rfl) (Gives.p hE rfl) rfl ?_; clear hE a; intro a hE
      refine WL.nil ?_
      obtain ⟨q79, hq78, hq52⟩ := bindS hq52
      refine W.cut (fun a w => ∃ (q82 : Int), q82 = q79 ∧ Rep a 33 [(2, .pointer (some ⟨b51, 0, none⟩)), (5, .int .i64 q82), (8, .slice a1 x1.length c1), (9, .int .i64 ((x1).length : Int)), (10, .int .i64 ((k54 : Nat) : Int))] ∧ St w s (pt b51 (.cells #[.slice a0_0 x0.Ready.length c0_0, .slice a0_1 x0.Last.length c0_1, .slice a0_2 x0.Due.length c0_2, .slice a0_3 x0.Arcs.length c0_3, .slice a0_4 x0.Choices.length c0_4] 50 (0, 0)) :: R)) ?_ ?_
      · refine W.gen fun K83 hK83 => ?_
        refine W.cond hE rfl (fun hc84 => ?_) (fun hc84 => ?_)
        · replace hq78 := iteT hc84 hq78
          refine W.region ?_
          refine WL.vS hS hE (runs_plain rfl) (Gives.p hE rfl) rfl ?_; clear hE a; intro a hE
          refine WL.vS hS hE (runs_plain rfl) (Gives.p hE rfl) rfl ?_; clear hE a; intro a hE
          refine WL.vS hS hE (runs_plain rfl) (Gives.fld hE rfl fl50_2) rfl ?_; clear hE a; intro a hE
          refine WL.vS hS hE (runs_plain rfl) (Gives.loadB hE 0 rfl rfl rfl ty22) rfl ?_; clear hE a; intro a hE
          refine WL.vS hS hE (runs_plain rfl) (Gives.p hE rfl) rfl ?_; clear hE a; intro a hE
          obtain ⟨x85, hx86, hq78⟩ := bindS hq78
          obtain ⟨hi87, hlt88, hy89⟩ := gx_some hx86
          obtain ⟨cs90, hl91, hR92, hat93⟩ := h0_2.at hy89
          subst hR92
          refine WL.vS hS hE (runs_plain rfl) (Gives.idx hE (((k54 : Nat) : Int)).toNat rfl rfl sl22 hi87 hlt88 (h0_2.aok hlt88)) rfl ?_; clear hE a; intro a hE
          refine WL.vS hS hE (runs_plain rfl) (Gives.load1 hE rfl (fun w h => hat93 w _ h) ty3) rfl ?_; clear hE a; intro a hE
          refine WL.vS hS hE (runs_plain rfl) (Gives.p hE rfl) rfl ?_; clear hE a; intro a hE
          refine WL.vS hS hE (runs_plain rfl) (Gives.max2 hE rfl rfl) rfl ?_; clear hE a; intro a hE
          refine WL.vS hS hE (runs_plain rfl) (Gives.p hE rfl) rfl ?_; clear hE a; intro a hE
          refine WL.vS hS hE (runs_plain rfl) (Gives.p hE rfl) rfl ?_; clear hE a; intro a hE
          refine WL.nil ?_
          subst hK83
          exact ⟨w64 (q63 + (mx 0 (w64 (x55 - x85)))), Option.some.inj hq78, hE.pick _ ⟨rfl, rfl, rfl, rfl, rfl, trivial⟩, hS⟩
        · replace hq78 := iteF hc84 hq78
          refine W.skip ?_
          subst hK83
          exact ⟨q63, Option.some.inj hq78, hE.pick _ ⟨rfl, rfl, rfl, rfl, rfl, trivial⟩, hS⟩
      · clear hE hS a w; rintro a w ⟨q82, rfl, hE, hS⟩
        refine W.region ?_
        refine WL.vS hS hE (runs_plain rfl) (Gives.inc hE rfl (by have := h1.small; omega)) rfl ?_; clear hE a; intro a hE
        refine WL.vS hS hE (runs_plain rfl) (Gives.p hE rfl) rfl ?_; clear hE a; intro a hE
        refine WL.nil ?_
        subst hK64
        exact ⟨rest56.length, Nat.lt_succ_self _, rest56, k54 + 1, q82, rfl, hd57, hq52, hE.pick _ ⟨rfl, rfl, rfl, rfl, rfl, trivial⟩, hS⟩
  · clear hE hS a w; rintro a w ⟨q63, rfl, hE, hS⟩
    refine W.seq ?_
    refine W.region ?_
    refine WL.vS hS hE (runs_plain rfl) (Gives.p hE rfl) rfl ?_; clear hE a; intro a hE
    refine WL.vS hS hE (runs_plain rfl) (Gives.p hE rfl) rfl ?_; clear hE a; intro a hE
    refine WL.nil ?_
    refine W.ret ?_
    refine finG (fn := Try.f44) (rs := [.tmp 4]) (vs := [_]) hE rfl ⟨rfl, trivial⟩ ?_
    obtain rfl := Option.some.inj hr
    replace hS := hS.tail
    exact ⟨rfl, hS⟩
set_option maxHeartbeats 8000000 in
theorem Fishref2BestOf_1_v1_ok : ∀ {fu : Nat} {w : World} {s : Sg} {R : List HP} {pb0 : Nat} {pb1 : Nat} {pb2 : Nat} {pb3 : Nat} {pb4 : Nat} {pb5 : Nat} {x0 : Int} {y0 : MendGraph} {a_y0_0 : Option Addr} {c_y0_0 : Nat} {a_y0_1 : Option Addr} {c_y0_1 : Nat} {a_y0_2 : Option Addr} {c_y0_2 : Nat} {a_y0_3 : Option Addr} {c_y0_3 : Nat} {a_y0_4 : Option Addr} {c_y0_4 : Nat} {y1 : List Int} {a_v0 : Option Addr} {c_v0 n_v0 : Nat} {cs_v0 : List Value} {y2 : List Int} {a_v1 : Option Addr} {c_v1 n_v1 : Nat} {cs_v1 : List Value} {y3 : List Int} {a_y3_0 : Option Addr} {c_y3_0 : Nat} {y4 : List Int} {a_y4_0 : Option Addr} {c_y4_0 : Nat} (_hS : St w s (pt pb0 (.cells #[.slice a_y0_0 y0.Ready.length c_y0_0, .slice a_y0_1 y0.Last.length c_y0_1, .slice a_y0_2 y0.Due.length c_y0_2, .slice a_y0_3 y0.Arcs.length c_y0_3, .slice a_y0_4 y0.Choices.length c_y0_4] 50 (0, 0)) :: pt pb1 (.cells #[.slice a_v0 n_v0 c_v0] 22 (0, 0)) :: pt pb2 (.cells #[.slice a_v1 n_v1 c_v1] 22 (0, 0)) :: pt pb3 (.cells #[.slice a_y3_0 y3.length c_y3_0] 22 (0, 0)) :: pt pb4 (.cells #[.slice a_y4_0 y4.length c_y4_0] 22 (0, 0)) :: pt pb5 (.cells #[.func (.func 69) #[] #[.pointer (some ⟨pb0, 0, none⟩), .pointer (some ⟨pb1, 0, none⟩), .pointer (some ⟨pb2, 0, none⟩), .pointer (some ⟨pb3, 0, none⟩), .pointer (some ⟨pb4, 0, none⟩), .pointer (some ⟨pb5, 0, none⟩)]] 109 (0, 0)) :: vecC 3 1 a_v0 c_v0 n_v0 cs_v0 :: vecC 3 1 a_v1 c_v1 n_v1 cs_v1 :: R)) (_h_y0_0 : Sl 1 (RI .i64) s a_y0_0 c_y0_0 y0.Ready) (_h_y0_1 : Sl 1 (RI .i64) s a_y0_1 c_y0_1 y0.Last) (_h_y0_2 : Sl 1 (RI .i64) s a_y0_2 c_y0_2 y0.Due) (_h_y0_3 : Sl 3 RMendArc s a_y0_3 c_y0_3 y0.Arcs) (_h_y0_4 : Sl 1 RMendChoice s a_y0_4 c_y0_4 y0.Choices) (_h_v0 : Ev 1 (RI .i64) s cs_v0 y1) (_hn_v0 : y1.length = n_v0) (_h_v1 : Ev 1 (RI .i64) s cs_v1 y2) (_hn_v1 : y2.length = n_v1) (_h_y3_0 : Sl 1 (RI .i64) s a_y3_0 c_y3_0 y3) (_hz_y3_0 : y3 = [] → a_y3_0 = none) (_h_y4_0 : Sl 1 (RI .i64) s a_y4_0 c_y4_0 y4) {r : (List Int) × (List Int) × (List Int)} (_hr : Fishref2BestOf_1_v1 fu x0 y0 y1 y2 y3 y4 = some r),
    Calls Try.prog 69 [.int .i64 x0, .pointer (some ⟨pb0, 0, none⟩), .pointer (some ⟨pb1, 0, none⟩), .pointer (some ⟨pb2, 0, none⟩), .pointer (some ⟨pb3, 0, none⟩), .pointer (some ⟨pb4, 0, none⟩), .pointer (some ⟨pb5, 0, none⟩)].toArray w (fun e w => ∃ (cs70 : List Value) (a73 : Option Addr) (c74 : Nat) (a78 : Option Addr) (c79 : Nat) (t : Sg), e = .returned (.tuple #[]) ∧ s.Le t ∧ Ev 1 (RI .i64) t cs70 r.1 ∧ r.1.length = n_v0 ∧ Sl 1 (RI .i64) t a73 c74 r.2.1 ∧ (r.2.1 = [] → a73 = none) ∧ Sl 1 (RI .i64) t a78 c79 r.2.2 ∧ St w t (pt pb0 (.cells #[.slice a_y0_0 y0.Ready.length c_y0_0, .slice a_y0_1 y0.Last.length c_y0_1, .slice a_y0_2 y0.Due.length c_y0_2, .slice a_y0_3 y0.Arcs.length c_y0_3, .slice a_y0_4 y0.Choices.length c_y0_4] 50 (0, 0)) :: pt pb1 (.cells #[.slice a_v0 n_v0 c_v0] 22 (0, 0)) :: pt pb2 (.cells #[.slice a_v1 n_v1 c_v1] 22 (0, 0)) :: pt pb3 (.cells #[.slice a73 r.2.1.length c74] 22 (0, 0)) :: pt pb4 (.cells #[.slice a78 r.2.2.length c79] 22 (0, 0)) :: pt pb5 (.cells #[.func (.func 69) #[] #[.pointer (some ⟨pb0, 0, none⟩), .pointer (some ⟨pb1, 0, none⟩), .pointer (some ⟨pb2, 0, none⟩), .pointer (some ⟨pb3, 0, none⟩), .pointer (some ⟨pb4, 0, none⟩), .pointer (some ⟨pb5, 0, none⟩)]] 109 (0, 0)) :: vecC 3 1 a_v0 c_v0 n_v0 cs70 :: vecC 3 1 a_v1 c_v1 n_v1 cs_v1 :: R)) := by
  intro fu
  induction fu with
  | zero => intro w s R pb0 pb1 pb2 pb3 pb4 pb5 x0 y0 a_y0_0 c_y0_0 a_y0_1 c_y0_1 a_y0_2 c_y0_2 a_y0_3 c_y0_3 a_y0_4 c_y0_4 y1 a_v0 c_v0 n_v0 cs_v0 y2 a_v1 c_v1 n_v1 cs_v1 y3 a_y3_0 c_y3_0 y4 a_y4_0 c_y4_0 hS h_y0_0 h_y0_1 h_y0_2 h_y0_3 h_y0_4 h_v0 hn_v0 h_v1 hn_v1 h_y3_0 hz_y3_0 h_y4_0 r hr; rw [Fishref2BestOf_1_v1] at hr; exact absurd hr (by simp)
  | succ fu ih_Fishref2BestOf_1_v1 =>
    intro w s R pb0 pb1 pb2 pb3 pb4 pb5 x0 y0 a_y0_0 c_y0_0 a_y0_1 c_y0_1 a_y0_2 c_y0_2 a_y0_3 c_y0_3 a_y0_4 c_y0_4 y1 a_v0 c_v0 n_v0 cs_v0 y2 a_v1 c_v1 n_v1 cs_v1 y3 a_y3_0 c_y3_0 y4 a_y4_0 c_y4_0 hS h_y0_0 h_y0_1 h_y0_2 h_y0_3 h_y0_4 h_v0 hn_v0 h_v1 hn_v1 h_y3_0 hz_y3_0 h_y4_0 r hr
    rw [Fishref2BestOf_1_v1] at hr
    generalize Fishref2BestOf_1_v1 fu = self_Fishref2BestOf_1_v1 at hr ih_Fishref2BestOf_1_v1
    refine enter Try.func69 rfl rfl rfl fun a hE => ?_
    subst hn_v0
    subst hn_v1
    refine W.seq ?_
    refine W.region ?_
    refine WL.vS hS hE (runs_plain rfl) (Gives.loadBA hE 0 rfl rfl ty50) rfl ?_; clear hE a; intro a hE
    refine WL.vS hS hE (runs_plain rfl) (Gives.loadB hE 1 rfl rfl rfl ty22) rfl ?_; clear hE a; intro a hE
    obtain ⟨q81, hq82, hr⟩ := bindS hr
    have hF := hS.lendV RI.mono 6 rfl h_v0 (rfl); clear hS; obtain ⟨t89, hle90, hS, hs91, bk92⟩ := hF
    have hc_ := Fishref2TimesOf_ok hS (Sl.mono RI.mono hle90 h_y0_0) (Sl.mono RI.mono hle90 h_y0_1) (Sl.mono RI.mono hle90 h_y0_2) (Sl.mono RMendArc.mono hle90 h_y0_3) (Sl.mono RMendChoice.mono hle90 h_y0_4) hs91 hq82
    refine WL.fnq hE (hc_) (runs_plain rfl) bd43 rfl rfl rfl ?_
    clear hE hS hc_; rintro e w ⟨a83, c84, n85, cs86, rfl, h87, rfl, hS⟩; refine ⟨_, rfl, ?_⟩; clear a; intro a hE
    replace hS := bk92 _ _ hS
    replace h87 := Ev.flat (s2 := s) (fun _ _ _ _ h => h) h87
    refine WL.vS hS hE (runs_plain rfl) (Gives.p hE rfl) rfl ?_; clear hE a; intro a hE
    refine WL.vS hS hE (runs_plain rfl) (Gives.p hE rfl) rfl ?_; clear hE a; intro a hE
    refine WL.vS hS hE (runs_plain rfl) (Gives.p hE rfl) rfl ?_; clear hE a; intro a hE
    refine WL.vS hS hE (runs_plain rfl) (Gives.p hE rfl) rfl ?_; clear hE a; intro a hE
    refine WL.vS hS hE (runs_plain rfl) (Gives.p hE rfl) rfl ?_; clear hE a; intro a hE
    refine WL.nil ?_
    refine W.seq ?_
    refine W.seq ?_
    refine W.region ?_
    refine WL.vS hS hE (runs_plain rfl) (Gives.p hE rfl) rfl ?_; clear hE a; intro a hE
    refine WL.vS hS hE (runs_plain rfl) (Gives.p hE rfl) rfl ?_; clear hE a; intro a hE
    refine WL.nil ?_
    refine W.cond hE rfl (fun hc93 => ?_) (fun hc93 => ?_)
    · replace hr := iteT hc93 hr
      refine W.ret ?_
      refine finG (fn := Try.f69) (rs := []) (vs := []) hE rfl trivial ?_
      obtain rfl := Option.some.inj hr
      replace hS := hS.front 8 rfl
      replace hS := hS.front 1 rfl
      replace hS := hS.front 8 rfl
      replace hS := hS.front 8 rfl
      replace hS := hS.front 8 rfl
      replace hS := hS.front 8 rfl
      replace hS := hS.front 8 rfl
      replace hS := hS.front 8 rfl
      replace hS := hS.dropAt 8
      exact ⟨cs_v0, a_y3_0, c_y3_0, a_y4_0, c_y4_0, s, rfl, (Sg.Le.refl _), h_v0, (rfl), h_y3_0, hz_y3_0, h_y4_0, hS⟩
    · replace hr := iteF hc93 hr
      refine W.skip ?_
      refine W.seq ?_
      refine W.seq ?_
      refine W.region ?_
      refine WL.vS hS hE (runs_plain rfl) (Gives.p hE rfl) rfl ?_; clear hE a; intro a hE
      refine WL.vS hS hE (runs_plain rfl) (Gives.loadB hE 4 rfl rfl rfl ty22) rfl ?_; clear hE a; intro a hE
      refine WL.vS hS hE (runs_plain rfl) (Gives.len hE rfl sl22) rfl ?_; clear hE a; intro a hE
      refine WL.vS hS hE (runs_plain rfl) (Gives.p hE rfl) rfl ?_; clear hE a; intro a hE
      refine WL.nil ?_
      refine W.cond hE rfl (fun hc94 => ?_) (fun hc94 => ?_)
      · replace hr := iteT hc94 hr
        refine W.seq ?_
        refine W.seq ?_
        obtain ⟨q96, hq95, hr⟩ := bindS hr
        refine W.cut (fun a w => ∃ (q99 : Bool), q99 = q96 ∧ Rep a 69 [(2, .pointer (some ⟨pb1, 0, none⟩)), (4, .pointer (some ⟨pb3, 0, none⟩)), (5, .pointer (some ⟨pb4, 0, none⟩)), (8, .slice a83 q81.1.length c84), (33, .bool q99)] ∧ St w s (vecC 3 1 a_v0 c_v0 y1.length cs_v0 :: vecC 3 1 a83 c84 q81.1.length cs86 :: pt pb0 (.cells #[.slice a_y0_0 y0.Ready.length c_y0_0, .slice a_y0_1 y0.Last.length c_y0_1, .slice a_y0_2 y0.Due.length c_y0_2, .slice a_y0_3 y0.Arcs.length c_y0_3, .slice a_y0_4 y0.Choices.length c_y0_4] 50 (0, 0)) :: pt pb1 (.cells #[.slice a_v0 y1.length c_v0] 22 (0, 0)) :: pt pb2 (.cells #[.slice a_v1 y2.length c_v1] 22 (0, 0)) :: pt pb3 (.cells #[.slice a_y3_0 y3.length c_y3_0] 22 (0, 0)) :: pt pb4 (.cells #[.slice a_y4_0 y4.length c_y4_0] 22 (0, 0)) :: pt pb5 (.cells #[.func (.func 69) #[] #[.pointer (some ⟨pb0, 0, none⟩), .pointer (some ⟨pb1, 0, none⟩), .pointer (some ⟨pb2, 0, none⟩), .pointer (some ⟨pb3, 0, none⟩), .pointer (some ⟨pb4, 0, none⟩), .pointer (some ⟨pb5, 0, none⟩)]] 109 (0, 0)) :: vecC 3 1 a_v1 c_v1 y2.length cs_v1 :: R)) ?_ ?_
        · refine W.gen fun K100 hK100 => ?_
          refine W.regionQ (C := fun w => St w s (vecC 3 1 a_v0 c_v0 y1.length cs_v0 :: vecC 3 1 a83 c84 q81.1.length cs86 :: pt pb0 (.cells #[.slice a_y0_0 y0.Ready.length c_y0_0, .slice a_y0_1 y0.Last.length c_y0_1, .slice a_y0_2 y0.Due.length c_y0_2, .slice a_y0_3 y0.Arcs.length c_y0_3, .slice a_y0_4 y0.Choices.length c_y0_4] 50 (0, 0)) :: pt pb1 (.cells #[.slice a_v0 y1.length c_v0] 22 (0, 0)) :: pt pb2 (.cells #[.slice a_v1 y2.length c_v1] 22 (0, 0)) :: pt pb3 (.cells #[.slice a_y3_0 y3.length c_y3_0] 22 (0, 0)) :: pt pb4 (.cells #[.slice a_y4_0 y4.length c_y4_0] 22 (0, 0)) :: pt pb5 (.cells #[.func (.func 69) #[] #[.pointer (some ⟨pb0, 0, none⟩), .pointer (some ⟨pb1, 0, none⟩), .pointer (some ⟨pb2, 0, none⟩), .pointer (some ⟨pb3, 0, none⟩), .pointer (some ⟨pb4, 0, none⟩), .pointer (some ⟨pb5, 0, none⟩)]] 109 (0, 0)) :: vecC 3 1 a_v1 c_v1 y2.length cs_v1 :: R)) mixed (by kernel_rfl) hS.drew ?_
          refine QL.v hE (runs_plain rfl) (Gives.loadB hE 5 rfl rfl rfl ty22) rfl ?_; clear hE a; intro a hE
          refine QL.v hE (runs_plain rfl) (Gives.isNilZ hE (isNone_eq h_y3_0 hz_y3_0) rfl rfl isl22) rfl ?_; clear hE a; intro a hE
          refine QL.v hE (runs_plain rfl) (Gives.p hE rfl) rfl ?_; clear hE a; intro a hE
          rcases Bool.eq_false_or_eq_true y3.isEmpty with hg101 | hg101
          · replace hq95 := iteT hg101 hq95
            refine QL.no hE (runs_not hE rfl rfl rfl (by rw [hg101]; decide)) rfl ?_; clear hE a; intro a hE
            refine QL.no hE (runs_not hE rfl rfl rfl (by rw [hg101]; decide)) rfl ?_; clear hE a; intro a hE
            refine QL.no hE (runs_not hE rfl rfl rfl (by rw [hg101]; decide)) rfl ?_; clear hE a; intro a hE
            refine QL.no hE (runs_not hE rfl rfl rfl (by rw [hg101]; decide)) rfl ?_; clear hE a; intro a hE
            refine QL.no hE (runs_not hE rfl rfl rfl (by rw [hg101]; decide)) rfl ?_; clear hE a; intro a hE
            refine QL.no hE (runs_not hE rfl rfl rfl (by rw [hg101]; decide)) rfl ?_; clear hE a; intro a hE
            refine QL.no hE (runs_not hE rfl rfl rfl (by rw [hg101]; decide)) rfl ?_; clear hE a; intro a hE
            refine QL.v hE (runs_plain rfl) (Gives.pickT hE rfl hg101 rfl) rfl ?_; clear hE a; intro a hE
            refine QL.nil ?_; clear hS w; intro w hS
            subst hK100
            exact ⟨true, Option.some.inj hq95, hE.pick _ ⟨rfl, rfl, rfl, rfl, rfl, trivial⟩, hS⟩
          · replace hq95 := iteF hg101 hq95
            refine QL.v hE (runs_if hE rfl rfl rfl hg101) (Gives.loadBA hE 2 rfl rfl ty50) rfl ?_; clear hE a; intro a hE
            refine QL.v hE (runs_if hE rfl rfl rfl hg101) (Gives.p hE rfl) rfl ?_; clear hE a; intro a hE
            obtain ⟨q102, hq103, hq95⟩ := bindS hq95
            refine QL.fnq hE (fun w hS => let ⟨t0_, hl0_, hS0_, hs0_, bk0_⟩ := hS.lendV RI.mono 1 rfl h87 rfl; (Fishref2DelayOf_ok hS0_ (Sl.mono RI.mono hl0_ h_y0_0) (Sl.mono RI.mono hl0_ h_y0_1) (Sl.mono RI.mono hl0_ h_y0_2) (Sl.mono RMendArc.mono hl0_ h_y0_3) (Sl.mono RMendChoice.mono hl0_ h_y0_4) hs0_ hq103).mono fun _ _ ⟨he, hq⟩ => ⟨he, (St.unfront 1 rfl (bk0_ _ _ hq))⟩) (runs_if hE rfl rfl rfl hg101) bd44 rfl rfl rfl ?_; clear hE a; intro a hE
            refine QL.v hE (runs_if hE rfl rfl rfl hg101) (Gives.loadBA hE 2 rfl rfl ty50) rfl ?_; clear hE a; intro a hE
            refine QL.v hE (runs_if hE rfl rfl rfl hg101) (Gives.loadB hE 6 rfl rfl rfl ty22) rfl ?_; clear hE a; intro a hE
            obtain ⟨q104, hq105, hq95⟩ := bindS hq95
            refine QL.fnq hE (fun w hS => Fishref2DelayOf_ok hS h_y0_0 h_y0_1 h_y0_2 h_y0_3 h_y0_4 h_y4_0 hq105) (runs_if hE rfl rfl rfl hg101) bd44 rfl rfl rfl ?_; clear hE a; intro a hE
            refine QL.v hE (runs_if hE rfl rfl rfl hg101) (Gives.p hE rfl) rfl ?_; clear hE a; intro a hE
            refine QL.v hE (runs_plain rfl) (Gives.pickF hE rfl hg101 rfl) rfl ?_; clear hE a; intro a hE
            refine QL.nil ?_; clear hS w; intro w hS
            subst hK100
            exact ⟨decide (q102 < q104), Option.some.inj hq95, hE.pick _ ⟨rfl, rfl, rfl, rfl, rfl, trivial⟩, hS⟩
        · clear hE hS a w; rintro a w ⟨q99, rfl, hE, hS⟩
          obtain ⟨q107, hq106, hr⟩ := bindS hr
          refine W.cut (fun a w => ∃ (q110 : List Int), ∃ (q115 : List Int), ∃ (a111 : Option Addr), ∃ (c112 : Nat), ∃ (a116 : Option Addr), ∃ (c117 : Nat), ∃ (s108 : Sg), s.Le s108 ∧ (q110, q115) = q107 ∧ Sl 1 (RI .i64) s108 a111 c112 q110 ∧ (q110 = [] → a111 = none) ∧ Sl 1 (RI .i64) s108 a116 c117 q115 ∧ Rep a 69 [] ∧ St w s108 (vecC 3 1 a_v0 c_v0 y1.length cs_v0 :: pt pb0 (.cells #[.slice a_y0_0 y0.Ready.length c_y0_0, .slice a_y0_1 y0.Last.length c_y0_1, .slice a_y0_2 y0.Due.length c_y0_2, .slice a_y0_3 y0.Arcs.length c_y0_3, .slice a_y0_4 y0.Choices.length c_y0_4] 50 (0, 0)) :: pt pb1 (.cells #[.slice a_v0 y1.length c_v0] 22 (0, 0)) :: pt pb2 (.cells #[.slice a_v1 y2.length c_v1] 22 (0, 0)) :: pt pb3 (.cells #[.slice a111 q110.length c112] 22 (0, 0)) :: pt pb4 (.cells #[.slice a116 q115.length c117] 22 (0, 0)) :: pt pb5 (.cells #[.func (.func 69) #[] #[.pointer (some ⟨pb0, 0, none⟩), .pointer (some ⟨pb1, 0, none⟩), .pointer (some ⟨pb2, 0, none⟩), .pointer (some ⟨pb3, 0, none⟩), .pointer (some ⟨pb4, 0, none⟩), .pointer (some ⟨pb5, 0, none⟩)]] 109 (0, 0)) :: vecC 3 1 a_v1 c_v1 y2.length cs_v1 :: R)) ?_ ?_
          · refine W.gen fun K119 hK119 => ?_
            refine W.cond hE rfl (fun hc120 => ?_) (fun hc120 => ?_)
            · replace hq106 := iteT hc120 hq106
              refine W.region ?_
              refine WL.vS hS hE (runs_plain rfl) (Gives.loadB hE 3 rfl rfl rfl ty22) rfl ?_; clear hE a; intro a hE
              obtain ⟨q121, hq122, hq106⟩ := bindS hq106
              have hF := hS.lendV RI.mono 0 rfl h_v0 (rfl); clear hS; obtain ⟨t129, hle130, hS, hs131, bk132⟩ := hF
              have hc_ := SlicesCloneLint_ok hS hs131 hq122
              refine WL.fnq hE (hc_) (runs_plain rfl) bd67 rfl rfl rfl ?_
              clear hE hS hc_; rintro e w ⟨a123, c124, n125, cs126, rfl, h127, rfl, hS⟩; refine ⟨_, rfl, ?_⟩; clear a; intro a hE
              replace hS := bk132 _ _ hS
              replace h127 := Ev.flat (s2 := s) (fun _ _ _ _ h => h) h127
              refine WL.vS hS hE (runs_plain rfl) (Gives.p hE rfl) rfl ?_; clear hE a; intro a hE
              have hF := hS.fixD RI.mono 1 rfl h127 rfl; clear hS; obtain ⟨s133, hle134, hS, h135⟩ := hF
              replace h_v0 := Ev.mono RI.mono hle134 h_v0
              replace h87 := Ev.mono RI.mono hle134 h87
              replace h_y0_0 := Sl.mono RI.mono hle134 h_y0_0
              replace h_y0_1 := Sl.mono RI.mono hle134 h_y0_1
              replace h_y0_2 := Sl.mono RI.mono hle134 h_y0_2
              replace h_y0_3 := Sl.mono RMendArc.mono hle134 h_y0_3
              replace h_y0_4 := Sl.mono RMendChoice.mono hle134 h_y0_4
              replace h_y3_0 := Sl.mono RI.mono hle134 h_y3_0
              replace h_y4_0 := Sl.mono RI.mono hle134 h_y4_0
              replace h_v1 := Ev.mono RI.mono hle134 h_v1
              obtain ⟨_, hx136, hq106⟩ := bindS hq106
              refine WL.storeI hE hS 5 rfl [.slice a123 q121.length c124] (runs_plain rfl) rfl rfl rfl ty22 rfl rfl rfl rfl ?_; clear hE hS a w; intro a w hE hS
              refine WL.storeI hE hS 6 rfl [.slice a83 q81.1.length c84] (runs_plain rfl) rfl rfl rfl ty22 rfl rfl rfl rfl ?_; clear hE hS a w; intro a w hE hS
              refine WL.nil ?_
              have hF := hS.fixD RI.mono 1 rfl h87 rfl; clear hS; obtain ⟨s137, hle138, hS, h139⟩ := hF
              replace h135 := Sl.mono RI.mono hle138 h135
              replace h_v0 := Ev.mono RI.mono hle138 h_v0
              replace h_y0_0 := Sl.mono RI.mono hle138 h_y0_0
              replace h_y0_1 := Sl.mono RI.mono hle138 h_y0_1
              replace h_y0_2 := Sl.mono RI.mono hle138 h_y0_2
              replace h_y0_3 := Sl.mono RMendArc.mono hle138 h_y0_3
              replace h_y0_4 := Sl.mono RMendChoice.mono hle138 h_y0_4
              replace h_v1 := Ev.mono RI.mono hle138 h_v1
              subst hK119
              exact ⟨q121, q81.1, a123, c124, a83, c84, s137, (Sg.Le.trans hle134 hle138), Option.some.inj hq106, h135, (nz_some hx136), h139, hE.pick _ trivial, hS⟩
            · replace hq106 := iteF hc120 hq106
              refine W.skip ?_
              replace hS := hS.dropAt 1
              subst hK119
              exact ⟨y3, y4, a_y3_0, c_y3_0, a_y4_0, c_y4_0, s, (Sg.Le.refl _), Option.some.inj hq106, h_y3_0, hz_y3_0, h_y4_0, hE.pick _ trivial, hS⟩
          · clear hE hS a w; rintro a w ⟨q110, q115, a111, c112, a116, c117, s108, hle109, rfl, h113, hz114, h118, hE, hS⟩
            dsimp only at hr
            replace h_v0 := Ev.mono RI.mono hle109 h_v0
            replace h_y0_0 := Sl.mono RI.mono hle109 h_y0_0
            replace h_y0_1 := Sl.mono RI.mono hle109 h_y0_1
            replace h_y0_2 := Sl.mono RI.mono hle109 h_y0_2
            replace h_y0_3 := Sl.mono RMendArc.mono hle109 h_y0_3
            replace h_y0_4 := Sl.mono RMendChoice.mono hle109 h_y0_4
            replace h_y3_0 := Sl.mono RI.mono hle109 h_y3_0
            replace h_y4_0 := Sl.mono RI.mono hle109 h_y4_0
            replace h_v1 := Ev.mono RI.mono hle109 h_v1
            refine W.ret ?_
            refine finG (fn := Try.f69) (rs := []) (vs := []) hE rfl trivial ?_
            obtain rfl := Option.some.inj hr
            replace hS := hS.front 7 rfl
            replace hS := hS.front 1 rfl
            replace hS := hS.front 7 rfl
            replace hS := hS.front 7 rfl
            replace hS := hS.front 7 rfl
            replace hS := hS.front 7 rfl
            replace hS := hS.front 7 rfl
            replace hS := hS.front 7 rfl
            exact ⟨cs_v0, a111, c112, a116, c117, s108, rfl, hle109, h_v0, (rfl), h113, hz114, h118, hS⟩
      · replace hr := iteF hc94 hr
        refine W.skip ?_
        refine W.seq ?_
        refine W.seq ?_
        refine W.regionQ (C := fun w => St w s (vecC 3 1 a_v0 c_v0 y1.length cs_v0 :: vecC 3 1 a83 c84 q81.1.length cs86 :: pt pb0 (.cells #[.slice a_y0_0 y0.Ready.length c_y0_0, .slice a_y0_1 y0.Last.length c_y0_1, .slice a_y0_2 y0.Due.length c_y0_2, .slice a_y0_3 y0.Arcs.length c_y0_3, .slice a_y0_4 y0.Choices.length c_y0_4] 50 (0, 0)) :: pt pb1 (.cells #[.slice a_v0 y1.length c_v0] 22 (0, 0)) :: pt pb2 (.cells #[.slice a_v1 y2.length c_v1] 22 (0, 0)) :: pt pb3 (.cells #[.slice a_y3_0 y3.length c_y3_0] 22 (0, 0)) :: pt pb4 (.cells #[.slice a_y4_0 y4.length c_y4_0] 22 (0, 0)) :: pt pb5 (.cells #[.func (.func 69) #[] #[.pointer (some ⟨pb0, 0, none⟩), .pointer (some ⟨pb1, 0, none⟩), .pointer (some ⟨pb2, 0, none⟩), .pointer (some ⟨pb3, 0, none⟩), .pointer (some ⟨pb4, 0, none⟩), .pointer (some ⟨pb5, 0, none⟩)]] 109 (0, 0)) :: vecC 3 1 a_v1 c_v1 y2.length cs_v1 :: R)) mixed (by kernel_rfl) hS.drew ?_
        refine QL.v hE (runs_plain rfl) (Gives.fld hE rfl fl50_4) rfl ?_; clear hE a; intro a hE
        refine QL.v hE (runs_plain rfl) (Gives.loadB hE 2 rfl rfl rfl ty48) rfl ?_; clear hE a; intro a hE
        refine QL.v hE (runs_plain rfl) (Gives.loadB hE 4 rfl rfl rfl ty22) rfl ?_; clear hE a; intro a hE
        refine QL.v hE (runs_plain rfl) (Gives.p hE rfl) rfl ?_; clear hE a; intro a hE
        obtain ⟨x140, hx141, hr⟩ := bindS hr
        obtain ⟨hi142, hlt143, hy144⟩ := gx_some hx141
        obtain ⟨vs145, hl146, hR147, hd148, hget149⟩ := h_v1.at hy144
        subst hR147
        refine QL.v hE (runs_plain rfl) (Gives.idx hE ((x0).toNat) rfl rfl sl22 hi142 (by omega) (hS.vecAok 8 rfl (by omega : (x0).toNat < y2.length))) rfl ?_; clear hE a; intro a hE
        refine QL.v hE (runs_plain rfl) (Gives.load1 hE rfl (fun w h => St.vecSees h 8 rfl ((x0).toNat * 1) _ hget149) ty3) rfl ?_; clear hE a; intro a hE
        obtain ⟨x150, hx151, hr⟩ := bindS hr
        obtain ⟨hi152, hlt153, hy154⟩ := gx_some hx151
        obtain ⟨cs155, hl156, hR157, hat158⟩ := h_y0_4.at hy154
        obtain ⟨a159, c160, rfl, h161⟩ := hR157
        refine QL.v hE (runs_plain rfl) (Gives.idx hE (x140).toNat rfl rfl sl48 hi152 hlt153 (h_y0_4.aok hlt153)) rfl ?_; clear hE a; intro a hE
        refine QL.v hE (runs_plain rfl) (Gives.fld hE rfl fl97_0) rfl ?_; clear hE a; intro a hE
        refine QL.v hE (runs_plain rfl) (Gives.load1 hE rfl (fun w h => hat158 w _ h) ty95) rfl ?_; clear hE a; intro a hE
        refine QL.v hE (runs_plain rfl) (Gives.len hE rfl sl95) rfl ?_; clear hE a; intro a hE
        refine QL.v hE (runs_plain rfl) (Gives.p hE rfl) rfl ?_; clear hE a; intro a hE
        refine QL.nil ?_; clear hS w; intro w hS
        replace hS := hS.dropAt 1
        obtain ⟨q163, hq162, hr⟩ := bindS hr
        refine W.cut (fun a w => ∃ (q173 : List Int), ∃ (q179 : List Int), ∃ (q184 : List Int), ∃ (cs177 : List Value), ∃ (a180 : Option Addr), ∃ (c181 : Nat), ∃ (a185 : Option Addr), ∃ (c186 : Nat), ∃ (s171 : Sg), s.Le s171 ∧ (q173, q179, q184) = q163 ∧ Ev 1 (RI .i64) s171 cs177 q173 ∧ q173.length = y1.length ∧ Sl 1 (RI .i64) s171 a180 c181 q179 ∧ (q179 = [] → a180 = none) ∧ Sl 1 (RI .i64) s171 a185 c186 q184 ∧ Rep a 69 [(0, .int .i64 x0), (2, .pointer (some ⟨pb1, 0, none⟩)), (3, .pointer (some ⟨pb2, 0, none⟩))] ∧ St w s171 (vecC 3 1 a_v0 c_v0 y1.length cs177 :: pt pb0 (.cells #[.slice a_y0_0 y0.Ready.length c_y0_0, .slice a_y0_1 y0.Last.length c_y0_1, .slice a_y0_2 y0.Due.length c_y0_2, .slice a_y0_3 y0.Arcs.length c_y0_3, .slice a_y0_4 y0.Choices.length c_y0_4] 50 (0, 0)) :: pt pb1 (.cells #[.slice a_v0 y1.length c_v0] 22 (0, 0)) :: pt pb2 (.cells #[.slice a_v1 y2.length c_v1] 22 (0, 0)) :: pt pb3 (.cells #[.slice a180 q179.length c181] 22 (0, 0)) :: pt pb4 (.cells #[.slice a185 q184.length c186] 22 (0, 0)) :: pt pb5 (.cells #[.func (.func 69) #[] #[.pointer (some ⟨pb0, 0, none⟩), .pointer (some ⟨pb1, 0, none⟩), .pointer (some ⟨pb2, 0, none⟩), .pointer (some ⟨pb3, 0, none⟩), .pointer (some ⟨pb4, 0, none⟩), .pointer (some ⟨pb5, 0, none⟩)]] 109 (0, 0)) :: vecC 3 1 a_v1 c_v1 y2.length cs_v1 :: R)) ?_ ?_
        · refine W.block ?_
          refine W.loop (fun m a w => ∃ (rest166 : List (List MendArc)) (k164 : Nat), ∃ (q173 : List Int), ∃ (q179 : List Int), ∃ (q184 : List Int), ∃ (cs177 : List Value), ∃ (a180 : Option Addr), ∃ (c181 : Nat), ∃ (a185 : Option Addr), ∃ (c186 : Nat), ∃ (s171 : Sg), rest166.length = m ∧ x150.Ways.drop k164 = rest166 ∧ s.Le s171 ∧ Fishref2BestOf_1_v1.loop1 x0 y0 y2 self_Fishref2BestOf_1_v1 rest166 k164 q173 q179 q184 = some q163 ∧ Ev 1 (RI .i64) s171 cs177 q173 ∧ q173.length = y1.length ∧ Sl 1 (RI .i64) s171 a180 c181 q179 ∧ (q179 = [] → a180 = none) ∧ Sl 1 (RI .i64) s171 a185 c186 q184 ∧ Rep a 69 [(0, .int .i64 x0), (2, .pointer (some ⟨pb1, 0, none⟩)), (3, .pointer (some ⟨pb2, 0, none⟩)), (6, .pointer (some ⟨pb5, 0, none⟩)), (46, .int .i64 ((x150.Ways).length : Int)), (47, .int .i64 ((k164 : Nat) : Int))] ∧ St w s171 (vecC 3 1 a_v0 c_v0 y1.length cs177 :: pt pb0 (.cells #[.slice a_y0_0 y0.Ready.length c_y0_0, .slice a_y0_1 y0.Last.length c_y0_1, .slice a_y0_2 y0.Due.length c_y0_2, .slice a_y0_3 y0.Arcs.length c_y0_3, .slice a_y0_4 y0.Choices.length c_y0_4] 50 (0, 0)) :: pt pb1 (.cells #[.slice a_v0 y1.length c_v0] 22 (0, 0)) :: pt pb2 (.cells #[.slice a_v1 y2.length c_v1] 22 (0, 0)) :: pt pb3 (.cells #[.slice a180 q179.length c181] 22 (0, 0)) :: pt pb4 (.cells #[.slice a185 q184.length c186] 22 (0, 0)) :: pt pb5 (.cells #[.func (.func 69) #[] #[.pointer (some ⟨pb0, 0, none⟩), .pointer (some ⟨pb1, 0, none⟩), .pointer (some ⟨pb2, 0, none⟩), .pointer (some ⟨pb3, 0, none⟩), .pointer (some ⟨pb4, 0, none⟩), .pointer (some ⟨pb5, 0, none⟩)]] 109 (0, 0)) :: vecC 3 1 a_v1 c_v1 y2.length cs_v1 :: R)) (m := x150.Ways.length) ⟨x150.Ways, 0, y1, y3, y4, cs_v0, a_y3_0, c_y3_0, a_y4_0, c_y4_0, s, rfl, rfl, (Sg.Le.refl _), hq162, h_v0, (rfl), h_y3_0, hz_y3_0, h_y4_0, hE.pick _ ⟨rfl, rfl, rfl, rfl, rfl, rfl, trivial⟩, hS⟩ ?_
          clear hE hS a w hq162; rintro m170 a w ⟨rest166, k164, q173, q179, q184, cs177, a180, c181, a185, c186, s171, rfl, hd167, hle172, hq162, h176, hn178, h182, hz183, h187, hE, hS⟩
          refine W.gen fun K188 hK188 => ?_
          replace h_y0_0 := Sl.mono RI.mono hle172 h_y0_0
          replace h_y0_1 := Sl.mono RI.mono hle172 h_y0_1
          replace h_y0_2 := Sl.mono RI.mono hle172 h_y0_2
          replace h_y0_3 := Sl.mono RMendArc.mono hle172 h_y0_3
          replace h_y0_4 := Sl.mono RMendChoice.mono hle172 h_y0_4
          replace h161 := Sl.mono (RL.mono RMendArc.mono) hle172 h161
          replace h_v0 := Ev.mono RI.mono hle172 h_v0
          replace h_y3_0 := Sl.mono RI.mono hle172 h_y3_0
          replace h_y4_0 := Sl.mono RI.mono hle172 h_y4_0
          replace h_v1 := Ev.mono RI.mono hle172 h_v1
          rcases rest166 with _ | ⟨x165, rest166⟩
          · have hlt168 := drop_nil hd167
            refine W.seq ?_
            refine W.region ?_
            refine WL.vS hS hE (runs_plain rfl) (Gives.p hE rfl) rfl ?_; clear hE a; intro a hE
            refine WL.nil ?_
            refine W.seq ?_
            refine W.condF hE rfl (decide_eq_false (by omega)) ?_
            subst hK188
            refine W.exit rfl ?_
            exact ⟨q173, q179, q184, cs177, a180, c181, a185, c186, s171, hle172, Option.some.inj hq162, h176, hn178, h182, hz183, h187, hE.pick _ ⟨rfl, rfl, rfl, trivial⟩, hS⟩
          · obtain ⟨hlt168, hx169, hd167⟩ := drop_cons hd167
            rw [Fishref2BestOf_1_v1.loop1] at hq162
            refine W.seq ?_
            refine W.region ?_
            refine WL.vS hS hE (runs_plain rfl) (Gives.p hE rfl) rfl ?_; clear hE a; intro a hE
            refine WL.nil ?_
            refine W.seq ?_
            refine W.condT hE rfl (decide_eq_true (by omega)) ?_
            refine W.skip ?_
            refine W.seq ?_
            refine W.block ?_
            refine W.seq ?_
            refine W.region ?_
            refine WL.vS hS hE (runs_plain rfl) (Gives.p hE rfl) rfl ?_; clear hE a; intro a hE
            refine WL.vS hS hE (runs_plain rfl) (Gives.p hE rfl) rfl ?_; clear hE a; intro a hE
            refine WL.nil ?_
            refine W.seq ?_
            refine W.gen fun K189 hK189 => ?_
            refine W.regionE (sel (fun w => St w s171 (vecC 3 1 a_v0 c_v0 y1.length cs177 :: pt pb0 (.cells #[.slice a_y0_0 y0.Ready.length c_y0_0, .slice a_y0_1 y0.Last.length c_y0_1, .slice a_y0_2 y0.Due.length c_y0_2, .slice a_y0_3 y0.Arcs.length c_y0_3, .slice a_y0_4 y0.Choices.length c_y0_4] 50 (0, 0)) :: pt pb1 (.cells #[.slice a_v0 y1.length c_v0] 22 (0, 0)) :: pt pb2 (.cells #[.slice a_v1 y2.length c_v1] 22 (0, 0)) :: pt pb3 (.cells #[.slice a180 q179.length c181] 22 (0, 0)) :: pt pb4 (.cells #[.slice a185 q184.length c186] 22 (0, 0)) :: pt pb5 (.cells #[.func (.func 69) #[] #[.pointer (some ⟨pb0, 0, none⟩), .pointer (some ⟨pb1, 0, none⟩), .pointer (some ⟨pb2, 0, none⟩), .pointer (some ⟨pb3, 0, none⟩), .pointer (some ⟨pb4, 0, none⟩), .pointer (some ⟨pb5, 0, none⟩)]] 109 (0, 0)) :: vecC 3 1 a_v1 c_v1 y2.length cs_v1 :: R)) (fun w => St w s171 (pt pb0 (.cells #[.slice a_y0_0 y0.Ready.length c_y0_0, .slice a_y0_1 y0.Last.length c_y0_1, .slice a_y0_2 y0.Due.length c_y0_2, .slice a_y0_3 y0.Arcs.length c_y0_3, .slice a_y0_4 y0.Choices.length c_y0_4] 50 (0, 0)) :: pt pb1 (.cells #[.slice a_v0 y1.length c_v0] 22 (0, 0)) :: pt pb2 (.cells #[.slice a_v1 y2.length c_v1] 22 (0, 0)) :: pt pb3 (.cells #[.slice a180 q179.length c181] 22 (0, 0)) :: pt pb4 (.cells #[.slice a185 q184.length c186] 22 (0, 0)) :: pt pb5 (.cells #[.func (.func 69) #[] #[.pointer (some ⟨pb0, 0, none⟩), .pointer (some ⟨pb1, 0, none⟩), .pointer (some ⟨pb2, 0, none⟩), .pointer (some ⟨pb3, 0, none⟩), .pointer (some ⟨pb4, 0, none⟩), .pointer (some ⟨pb5, 0, none⟩)]] 109 (0, 0)) :: vecC 3 1 a_v1 c_v1 y2.length cs_v1 :: R))) (fun b i => cond b ([0, 1, 2, 3, 4, 5, 6, 7].contains i) ([0, 1, 2, 3, 4, 5, 6, 7, 8].contains i)) mixed ?_
            replace hS := hS.drew
            have hT := tw_sel (A := fun w => St w s171 (vecC 3 1 a_v0 c_v0 y1.length cs177 :: pt pb0 (.cells #[.slice a_y0_0 y0.Ready.length c_y0_0, .slice a_y0_1 y0.Last.length c_y0_1, .slice a_y0_2 y0.Due.length c_y0_2, .slice a_y0_3 y0.Arcs.length c_y0_3, .slice a_y0_4 y0.Choices.length c_y0_4] 50 (0, 0)) :: pt pb1 (.cells #[.slice a_v0 y1.length c_v0] 22 (0, 0)) :: pt pb2 (.cells #[.slice a_v1 y2.length c_v1] 22 (0, 0)) :: pt pb3 (.cells #[.slice a180 q179.length c181] 22 (0, 0)) :: pt pb4 (.cells #[.slice a185 q184.length c186] 22 (0, 0)) :: pt pb5 (.cells #[.func (.func 69) #[] #[.pointer (some ⟨pb0, 0, none⟩), .pointer (some ⟨pb1, 0, none⟩), .pointer (some ⟨pb2, 0, none⟩), .pointer (some ⟨pb3, 0, none⟩), .pointer (some ⟨pb4, 0, none⟩), .pointer (some ⟨pb5, 0, none⟩)]] 109 (0, 0)) :: vecC 3 1 a_v1 c_v1 y2.length cs_v1 :: R)) (B := fun w => St w s171 (pt pb0 (.cells #[.slice a_y0_0 y0.Ready.length c_y0_0, .slice a_y0_1 y0.Last.length c_y0_1, .slice a_y0_2 y0.Due.length c_y0_2, .slice a_y0_3 y0.Arcs.length c_y0_3, .slice a_y0_4 y0.Choices.length c_y0_4] 50 (0, 0)) :: pt pb1 (.cells #[.slice a_v0 y1.length c_v0] 22 (0, 0)) :: pt pb2 (.cells #[.slice a_v1 y2.length c_v1] 22 (0, 0)) :: pt pb3 (.cells #[.slice a180 q179.length c181] 22 (0, 0)) :: pt pb4 (.cells #[.slice a185 q184.length c186] 22 (0, 0)) :: pt pb5 (.cells #[.func (.func 69) #[] #[.pointer (some ⟨pb0, 0, none⟩), .pointer (some ⟨pb1, 0, none⟩), .pointer (some ⟨pb2, 0, none⟩), .pointer (some ⟨pb3, 0, none⟩), .pointer (some ⟨pb4, 0, none⟩), .pointer (some ⟨pb5, 0, none⟩)]] 109 (0, 0)) :: vecC 3 1 a_v1 c_v1 y2.length cs_v1 :: R)) (w := _) (x := true) (y := true) (fun _ => hS) (fun _ => (hS.tail))
            have hF := hS; replace hS := hS
            refine Rg.take (i := 0) true rfl hE rfl (by kernel_rfl) (runs_plain rfl) (Gives.loadB hE 2 rfl rfl rfl ty22) rfl hT ?_; clear hE a; intro a hE
            replace hS := hF; clear hF hT
            have hT := tw_sel (A := fun w => St w s171 (vecC 3 1 a_v0 c_v0 y1.length cs177 :: pt pb0 (.cells #[.slice a_y0_0 y0.Ready.length c_y0_0, .slice a_y0_1 y0.Last.length c_y0_1, .slice a_y0_2 y0.Due.length c_y0_2, .slice a_y0_3 y0.Arcs.length c_y0_3, .slice a_y0_4 y0.Choices.length c_y0_4] 50 (0, 0)) :: pt pb1 (.cells #[.slice a_v0 y1.length c_v0] 22 (0, 0)) :: pt pb2 (.cells #[.slice a_v1 y2.length c_v1] 22 (0, 0)) :: pt pb3 (.cells #[.slice a180 q179.length c181] 22 (0, 0)) :: pt pb4 (.cells #[.slice a185 q184.length c186] 22 (0, 0)) :: pt pb5 (.cells #[.func (.func 69) #[] #[.pointer (some ⟨pb0, 0, none⟩), .pointer (some ⟨pb1, 0, none⟩), .pointer (some ⟨pb2, 0, none⟩), .pointer (some ⟨pb3, 0, none⟩), .pointer (some ⟨pb4, 0, none⟩), .pointer (some ⟨pb5, 0, none⟩)]] 109 (0, 0)) :: vecC 3 1 a_v1 c_v1 y2.length cs_v1 :: R)) (B := fun w => St w s171 (pt pb0 (.cells #[.slice a_y0_0 y0.Ready.length c_y0_0, .slice a_y0_1 y0.Last.length c_y0_1, .slice a_y0_2 y0.Due.length c_y0_2, .slice a_y0_3 y0.Arcs.length c_y0_3, .slice a_y0_4 y0.Choices.length c_y0_4] 50 (0, 0)) :: pt pb1 (.cells #[.slice a_v0 y1.length c_v0] 22 (0, 0)) :: pt pb2 (.cells #[.slice a_v1 y2.length c_v1] 22 (0, 0)) :: pt pb3 (.cells #[.slice a180 q179.length c181] 22 (0, 0)) :: pt pb4 (.cells #[.slice a185 q184.length c186] 22 (0, 0)) :: pt pb5 (.cells #[.func (.func 69) #[] #[.pointer (some ⟨pb0, 0, none⟩), .pointer (some ⟨pb1, 0, none⟩), .pointer (some ⟨pb2, 0, none⟩), .pointer (some ⟨pb3, 0, none⟩), .pointer (some ⟨pb4, 0, none⟩), .pointer (some ⟨pb5, 0, none⟩)]] 109 (0, 0)) :: vecC 3 1 a_v1 c_v1 y2.length cs_v1 :: R)) (w := _) (x := true) (y := true) (fun _ => hS) (fun _ => (hS.tail))
            have hF := hS; replace hS := hS
            refine Rg.take (i := 1) true rfl hE rfl (by kernel_rfl) (runs_plain rfl) (Gives.loadB hE 3 rfl rfl rfl ty22) rfl hT ?_; clear hE a; intro a hE
            replace hS := hF; clear hF hT
            refine Rg.takeP (i := 2) hE rfl (by kernel_rfl) (runs_plain rfl) (Gives.p hE rfl) rfl (tw_sel (fun _ => hS) (fun _ => (hS.tail))) ?_; clear hE a; intro a hE
            obtain ⟨x190, hx191, hq162⟩ := bindS hq162
            obtain ⟨hi192, hlt193, hy194⟩ := gx_some hx191
            obtain ⟨vs195, hl196, hR197, hd198, hget199⟩ := h_v1.at hy194
            subst hR197
            refine Rg.takeP (i := 3) hE rfl (by kernel_rfl) (runs_plain rfl) (Gives.idx hE ((x0).toNat) rfl rfl sl22 hi192 (by omega) (hS.vecAok 7 rfl (by omega : (x0).toNat < y2.length))) rfl (tw_sel (fun _ => hS) (fun _ => (hS.tail))) ?_; clear hE a; intro a hE
            have hT := tw_sel (A := fun w => St w s171 (vecC 3 1 a_v0 c_v0 y1.length cs177 :: pt pb0 (.cells #[.slice a_y0_0 y0.Ready.length c_y0_0, .slice a_y0_1 y0.Last.length c_y0_1, .slice a_y0_2 y0.Due.length c_y0_2, .slice a_y0_3 y0.Arcs.length c_y0_3, .slice a_y0_4 y0.Choices.length c_y0_4] 50 (0, 0)) :: pt pb1 (.cells #[.slice a_v0 y1.length c_v0] 22 (0, 0)) :: pt pb2 (.cells #[.slice a_v1 y2.length c_v1] 22 (0, 0)) :: pt pb3 (.cells #[.slice a180 q179.length c181] 22 (0, 0)) :: pt pb4 (.cells #[.slice a185 q184.length c186] 22 (0, 0)) :: pt pb5 (.cells #[.func (.func 69) #[] #[.pointer (some ⟨pb0, 0, none⟩), .pointer (some ⟨pb1, 0, none⟩), .pointer (some ⟨pb2, 0, none⟩), .pointer (some ⟨pb3, 0, none⟩), .pointer (some ⟨pb4, 0, none⟩), .pointer (some ⟨pb5, 0, none⟩)]] 109 (0, 0)) :: vecC 3 1 a_v1 c_v1 y2.length cs_v1 :: R)) (B := fun w => St w s171 (pt pb0 (.cells #[.slice a_y0_0 y0.Ready.length c_y0_0, .slice a_y0_1 y0.Last.length c_y0_1, .slice a_y0_2 y0.Due.length c_y0_2, .slice a_y0_3 y0.Arcs.length c_y0_3, .slice a_y0_4 y0.Choices.length c_y0_4] 50 (0, 0)) :: pt pb1 (.cells #[.slice a_v0 y1.length c_v0] 22 (0, 0)) :: pt pb2 (.cells #[.slice a_v1 y2.length c_v1] 22 (0, 0)) :: pt pb3 (.cells #[.slice a180 q179.length c181] 22 (0, 0)) :: pt pb4 (.cells #[.slice a185 q184.length c186] 22 (0, 0)) :: pt pb5 (.cells #[.func (.func 69) #[] #[.pointer (some ⟨pb0, 0, none⟩), .pointer (some ⟨pb1, 0, none⟩), .pointer (some ⟨pb2, 0, none⟩), .pointer (some ⟨pb3, 0, none⟩), .pointer (some ⟨pb4, 0, none⟩), .pointer (some ⟨pb5, 0, none⟩)]] 109 (0, 0)) :: vecC 3 1 a_v1 c_v1 y2.length cs_v1 :: R)) (w := _) (x := true) (y := true) (fun _ => hS) (fun _ => (hS.tail))
            have hF := hS; replace hS := hS
            refine Rg.take (i := 4) true rfl hE rfl (by kernel_rfl) (runs_plain rfl) (Gives.load1 hE rfl (fun w h => St.vecSees h 7 rfl ((x0).toNat * 1) _ hget199) ty3) rfl hT ?_; clear hE a; intro a hE
            replace hS := hF; clear hF hT
            refine Rg.takeP (i := 5) hE rfl (by kernel_rfl) (runs_plain rfl) (Gives.p hE rfl) rfl (tw_sel (fun _ => hS) (fun _ => (hS.tail))) ?_; clear hE a; intro a hE
            refine Rg.takeP (i := 6) hE rfl (by kernel_rfl) (runs_plain rfl) (Gives.inc hE rfl (by have := h161.small; omega)) rfl (tw_sel (fun _ => hS) (fun _ => (hS.tail))) ?_; clear hE a; intro a hE
            obtain ⟨_, hx201, hq162⟩ := bindS hq162
            obtain ⟨h202, h203⟩ := ix_some hx201
            refine Rg.takeP (i := 7) hE rfl (by kernel_rfl) (runs_plain rfl) (Gives.idx hE ((x190).toNat) rfl rfl sl22 h202 (by have := hn178; omega) (hS.vecAok 0 rfl (by have := hn178; omega : (x190).toNat < y1.length))) rfl (tw_sel (fun _ => hS) (fun _ => (hS.tail))) ?_; clear hE a; intro a hE
            refine Rg.one (i := 8) false true rfl (by kernel_rfl) (by kernel_rfl) (by kernel_rfl) ?_
            obtain ⟨x205, hx206, hq162⟩ := bindS hq162
            refine WL.setD hE hS 0 rfl (runs_plain rfl) rfl rfl (vs := [.int .i64 ((k164 + 1 : Nat) : Int)]) rfl ty3 rfl rfl rfl h176 hn178 (sx_some hx206).1 hx206 rfl rfl ?_; clear hE hS a w; intro cs207 a w h208 hn209 hE hS
            refine WL.nil ?_
            refine ⟨⟨fun h => absurd h (by decide), fun _ => (hS.tail)⟩, ?_⟩
            refine Rg.done (by kernel_rfl) ?_
            subst hK189
            refine W.region ?_
            refine WL.vS hS hE (runs_plain rfl) (Gives.loadB hE 6 rfl rfl rfl ty109) rfl ?_; clear hE a; intro a hE
            refine WL.vS hS hE (runs_plain rfl) (Gives.p hE rfl) rfl ?_; clear hE a; intro a hE
            refine WL.vS hS hE (runs_plain rfl) (Gives.p hE rfl) rfl ?_; clear hE a; intro a hE
            obtain ⟨q210, hq211, hq162⟩ := bindS hq162
            replace hS := hS.front 7 rfl
            replace hS := hS.front 1 rfl
            replace hS := hS.front 7 rfl
            replace hS := hS.front 7 rfl
            replace hS := hS.front 7 rfl
            replace hS := hS.front 7 rfl
            replace hS := hS.front 7 rfl
            replace hS := hS.front 7 rfl
            have hc_ := ih_Fishref2BestOf_1_v1 (y0 := y0) hS h_y0_0 h_y0_1 h_y0_2 h_y0_3 h_y0_4 h208 hn209 h_v1 (rfl) h182 hz183 h187 hq211
            refine WL.fnw hE (hc_) rfl (runs_plain rfl) bd69 rfl rfl rfl ?_
            clear hE hS hc_; rintro e w ⟨cs212, a215, c216, a219, c220, s222, rfl, hle223, h213, hn214, h217, hz218, h221, hS⟩; refine ⟨_, rfl, ?_⟩; clear a; intro a hE
            replace h_y0_0 := Sl.mono RI.mono hle223 h_y0_0
            replace h_y0_1 := Sl.mono RI.mono hle223 h_y0_1
            replace h_y0_2 := Sl.mono RI.mono hle223 h_y0_2
            replace h_y0_3 := Sl.mono RMendArc.mono hle223 h_y0_3
            replace h_y0_4 := Sl.mono RMendChoice.mono hle223 h_y0_4
            replace h182 := Sl.mono RI.mono hle223 h182
            replace h187 := Sl.mono RI.mono hle223 h187
            replace h208 := Ev.mono RI.mono hle223 h208
            replace h_v1 := Ev.mono RI.mono hle223 h_v1
            refine WL.nil ?_
            refine W.region ?_
            refine WL.vS hS hE (runs_plain rfl) (Gives.inc hE rfl (by have := h161.small; omega)) rfl ?_; clear hE a; intro a hE
            refine WL.vS hS hE (runs_plain rfl) (Gives.p hE rfl) rfl ?_; clear hE a; intro a hE
            refine WL.nil ?_
            replace hS := hS.front 7 rfl
            replace hS := hS.front 6 rfl
            replace hS := hS.front 6 rfl
            replace hS := hS.front 6 rfl
            replace hS := hS.front 6 rfl
            replace hS := hS.front 6 rfl
            replace hS := hS.front 6 rfl
            replace hS := hS.front 7 rfl
            subst hK188
            exact ⟨rest166.length, Nat.lt_succ_self _, rest166, k164 + 1, q210.1, q210.2.1, q210.2.2, cs212, a215, c216, a219, c220, s222, rfl, hd167, (Sg.Le.trans hle172 hle223), hq162, h213, hn214, h217, hz218, h221, hE.pick _ ⟨rfl, rfl, rfl, rfl, rfl, rfl, trivial⟩, hS⟩
        · clear hE hS a w; rintro a w ⟨q173, q179, q184, cs177, a180, c181, a185, c186, s171, hle172, rfl, h176, hn178, h182, hz183, h187, hE, hS⟩
          dsimp only at hr
          replace h_y0_0 := Sl.mono RI.mono hle172 h_y0_0
          replace h_y0_1 := Sl.mono RI.mono hle172 h_y0_1
          replace h_y0_2 := Sl.mono RI.mono hle172 h_y0_2
          replace h_y0_3 := Sl.mono RMendArc.mono hle172 h_y0_3
          replace h_y0_4 := Sl.mono RMendChoice.mono hle172 h_y0_4
          replace h161 := Sl.mono (RL.mono RMendArc.mono) hle172 h161
          replace h_v0 := Ev.mono RI.mono hle172 h_v0
          replace h_y3_0 := Sl.mono RI.mono hle172 h_y3_0
          replace h_y4_0 := Sl.mono RI.mono hle172 h_y4_0
          replace h_v1 := Ev.mono RI.mono hle172 h_v1
          refine W.gen fun K224 hK224 => ?_
          refine W.regionE (sel (fun w => St w s171 (vecC 3 1 a_v0 c_v0 y1.length cs177 :: pt pb0 (.cells #[.slice a_y0_0 y0.Ready.length c_y0_0, .slice a_y0_1 y0.Last.length c_y0_1, .slice a_y0_2 y0.Due.length c_y0_2, .slice a_y0_3 y0.Arcs.length c_y0_3, .slice a_y0_4 y0.Choices.length c_y0_4] 50 (0, 0)) :: pt pb1 (.cells #[.slice a_v0 y1.length c_v0] 22 (0, 0)) :: pt pb2 (.cells #[.slice a_v1 y2.length c_v1] 22 (0, 0)) :: pt pb3 (.cells #[.slice a180 q179.length c181] 22 (0, 0)) :: pt pb4 (.cells #[.slice a185 q184.length c186] 22 (0, 0)) :: pt pb5 (.cells #[.func (.func 69) #[] #[.pointer (some ⟨pb0, 0, none⟩), .pointer (some ⟨pb1, 0, none⟩), .pointer (some ⟨pb2, 0, none⟩), .pointer (some ⟨pb3, 0, none⟩), .pointer (some ⟨pb4, 0, none⟩), .pointer (some ⟨pb5, 0, none⟩)]] 109 (0, 0)) :: vecC 3 1 a_v1 c_v1 y2.length cs_v1 :: R)) (fun w => St w s171 (pt pb0 (.cells #[.slice a_y0_0 y0.Ready.length c_y0_0, .slice a_y0_1 y0.Last.length c_y0_1, .slice a_y0_2 y0.Due.length c_y0_2, .slice a_y0_3 y0.Arcs.length c_y0_3, .slice a_y0_4 y0.Choices.length c_y0_4] 50 (0, 0)) :: pt pb1 (.cells #[.slice a_v0 y1.length c_v0] 22 (0, 0)) :: pt pb2 (.cells #[.slice a_v1 y2.length c_v1] 22 (0, 0)) :: pt pb3 (.cells #[.slice a180 q179.length c181] 22 (0, 0)) :: pt pb4 (.cells #[.slice a185 q184.length c186] 22 (0, 0)) :: pt pb5 (.cells #[.func (.func 69) #[] #[.pointer (some ⟨pb0, 0, none⟩), .pointer (some ⟨pb1, 0, none⟩), .pointer (some ⟨pb2, 0, none⟩), .pointer (some ⟨pb3, 0, none⟩), .pointer (some ⟨pb4, 0, none⟩), .pointer (some ⟨pb5, 0, none⟩)]] 109 (0, 0)) :: vecC 3 1 a_v1 c_v1 y2.length cs_v1 :: R))) (fun b i => cond b ([0, 1, 2, 3, 4, 5].contains i) ([0, 1, 2, 3, 4, 5, 6].contains i)) mixed ?_
          replace hS := hS.drew
          have hT := tw_sel (A := fun w => St w s171 (vecC 3 1 a_v0 c_v0 y1.length cs177 :: pt pb0 (.cells #[.slice a_y0_0 y0.Ready.length c_y0_0, .slice a_y0_1 y0.Last.length c_y0_1, .slice a_y0_2 y0.Due.length c_y0_2, .slice a_y0_3 y0.Arcs.length c_y0_3, .slice a_y0_4 y0.Choices.length c_y0_4] 50 (0, 0)) :: pt pb1 (.cells #[.slice a_v0 y1.length c_v0] 22 (0, 0)) :: pt pb2 (.cells #[.slice a_v1 y2.length c_v1] 22 (0, 0)) :: pt pb3 (.cells #[.slice a180 q179.length c181] 22 (0, 0)) :: pt pb4 (.cells #[.slice a185 q184.length c186] 22 (0, 0)) :: pt pb5 (.cells #[.func (.func 69) #[] #[.pointer (some ⟨pb0, 0, none⟩), .pointer (some ⟨pb1, 0, none⟩), .pointer (some ⟨pb2, 0, none⟩), .pointer (some ⟨pb3, 0, none⟩), .pointer (some ⟨pb4, 0, none⟩), .pointer (some ⟨pb5, 0, none⟩)]] 109 (0, 0)) :: vecC 3 1 a_v1 c_v1 y2.length cs_v1 :: R)) (B := fun w => St w s171 (pt pb0 (.cells #[.slice a_y0_0 y0.Ready.length c_y0_0, .slice a_y0_1 y0.Last.length c_y0_1, .slice a_y0_2 y0.Due.length c_y0_2, .slice a_y0_3 y0.Arcs.length c_y0_3, .slice a_y0_4 y0.Choices.length c_y0_4] 50 (0, 0)) :: pt pb1 (.cells #[.slice a_v0 y1.length c_v0] 22 (0, 0)) :: pt pb2 (.cells #[.slice a_v1 y2.length c_v1] 22 (0, 0)) :: pt pb3 (.cells #[.slice a180 q179.length c181] 22 (0, 0)) :: pt pb4 (.cells #[.slice a185 q184.length c186] 22 (0, 0)) :: pt pb5 (.cells #[.func (.func 69) #[] #[.pointer (some ⟨pb0, 0, none⟩), .pointer (some ⟨pb1, 0, none⟩), .pointer (some ⟨pb2, 0, none⟩), .pointer (some ⟨pb3, 0, none⟩), .pointer (some ⟨pb4, 0, none⟩), .pointer (some ⟨pb5, 0, none⟩)]] 109 (0, 0)) :: vecC 3 1 a_v1 c_v1 y2.length cs_v1 :: R)) (w := _) (x := true) (y := true) (fun _ => hS) (fun _ => (hS.tail))
          have hF := hS; replace hS := hS
          refine Rg.take (i := 0) true rfl hE rfl (by kernel_rfl) (runs_plain rfl) (Gives.loadB hE 2 rfl rfl rfl ty22) rfl hT ?_; clear hE a; intro a hE
          replace hS := hF; clear hF hT
          have hT := tw_sel (A := fun w => St w s171 (vecC 3 1 a_v0 c_v0 y1.length cs177 :: pt pb0 (.cells #[.slice a_y0_0 y0.Ready.length c_y0_0, .slice a_y0_1 y0.Last.length c_y0_1, .slice a_y0_2 y0.Due.length c_y0_2, .slice a_y0_3 y0.Arcs.length c_y0_3, .slice a_y0_4 y0.Choices.length c_y0_4] 50 (0, 0)) :: pt pb1 (.cells #[.slice a_v0 y1.length c_v0] 22 (0, 0)) :: pt pb2 (.cells #[.slice a_v1 y2.length c_v1] 22 (0, 0)) :: pt pb3 (.cells #[.slice a180 q179.length c181] 22 (0, 0)) :: pt pb4 (.cells #[.slice a185 q184.length c186] 22 (0, 0)) :: pt pb5 (.cells #[.func (.func 69) #[] #[.pointer (some ⟨pb0, 0, none⟩), .pointer (some ⟨pb1, 0, none⟩), .pointer (some ⟨pb2, 0, none⟩), .pointer (some ⟨pb3, 0, none⟩), .pointer (some ⟨pb4, 0, none⟩), .pointer (some ⟨pb5, 0, none⟩)]] 109 (0, 0)) :: vecC 3 1 a_v1 c_v1 y2.length cs_v1 :: R)) (B := fun w => St w s171 (pt pb0 (.cells #[.slice a_y0_0 y0.Ready.length c_y0_0, .slice a_y0_1 y0.Last.length c_y0_1, .slice a_y0_2 y0.Due.length c_y0_2, .slice a_y0_3 y0.Arcs.length c_y0_3, .slice a_y0_4 y0.Choices.length c_y0_4] 50 (0, 0)) :: pt pb1 (.cells #[.slice a_v0 y1.length c_v0] 22 (0, 0)) :: pt pb2 (.cells #[.slice a_v1 y2.length c_v1] 22 (0, 0)) :: pt pb3 (.cells #[.slice a180 q179.length c181] 22 (0, 0)) :: pt pb4 (.cells #[.slice a185 q184.length c186] 22 (0, 0)) :: pt pb5 (.cells #[.func (.func 69) #[] #[.pointer (some ⟨pb0, 0, none⟩), .pointer (some ⟨pb1, 0, none⟩), .pointer (some ⟨pb2, 0, none⟩), .pointer (some ⟨pb3, 0, none⟩), .pointer (some ⟨pb4, 0, none⟩), .pointer (some ⟨pb5, 0, none⟩)]] 109 (0, 0)) :: vecC 3 1 a_v1 c_v1 y2.length cs_v1 :: R)) (w := _) (x := true) (y := true) (fun _ => hS) (fun _ => (hS.tail))
          have hF := hS; replace hS := hS
          refine Rg.take (i := 1) true rfl hE rfl (by kernel_rfl) (runs_plain rfl) (Gives.loadB hE 3 rfl rfl rfl ty22) rfl hT ?_; clear hE a; intro a hE
          replace hS := hF; clear hF hT
          refine Rg.takeP (i := 2) hE rfl (by kernel_rfl) (runs_plain rfl) (Gives.p hE rfl) rfl (tw_sel (fun _ => hS) (fun _ => (hS.tail))) ?_; clear hE a; intro a hE
          obtain ⟨x225, hx226, hr⟩ := bindS hr
          obtain ⟨hi227, hlt228, hy229⟩ := gx_some hx226
          obtain ⟨vs230, hl231, hR232, hd233, hget234⟩ := h_v1.at hy229
          subst hR232
          refine Rg.takeP (i := 3) hE rfl (by kernel_rfl) (runs_plain rfl) (Gives.idx hE ((x0).toNat) rfl rfl sl22 hi227 (by omega) (hS.vecAok 7 rfl (by omega : (x0).toNat < y2.length))) rfl (tw_sel (fun _ => hS) (fun _ => (hS.tail))) ?_; clear hE a; intro a hE
          have hT := tw_sel (A := fun w => St w s171 (vecC 3 1 a_v0 c_v0 y1.length cs177 :: pt pb0 (.cells #[.slice a_y0_0 y0.Ready.length c_y0_0, .slice a_y0_1 y0.Last.length c_y0_1, .slice a_y0_2 y0.Due.length c_y0_2, .slice a_y0_3 y0.Arcs.length c_y0_3, .slice a_y0_4 y0.Choices.length c_y0_4] 50 (0, 0)) :: pt pb1 (.cells #[.slice a_v0 y1.length c_v0] 22 (0, 0)) :: pt pb2 (.cells #[.slice a_v1 y2.length c_v1] 22 (0, 0)) :: pt pb3 (.cells #[.slice a180 q179.length c181] 22 (0, 0)) :: pt pb4 (.cells #[.slice a185 q184.length c186] 22 (0, 0)) :: pt pb5 (.cells #[.func (.func 69) #[] #[.pointer (some ⟨pb0, 0, none⟩), .pointer (some ⟨pb1, 0, none⟩), .pointer (some ⟨pb2, 0, none⟩), .pointer (some ⟨pb3, 0, none⟩), .pointer (some ⟨pb4, 0, none⟩), .pointer (some ⟨pb5, 0, none⟩)]] 109 (0, 0)) :: vecC 3 1 a_v1 c_v1 y2.length cs_v1 :: R)) (B := fun w => St w s171 (pt pb0 (.cells #[.slice a_y0_0 y0.Ready.length c_y0_0, .slice a_y0_1 y0.Last.length c_y0_1, .slice a_y0_2 y0.Due.length c_y0_2, .slice a_y0_3 y0.Arcs.length c_y0_3, .slice a_y0_4 y0.Choices.length c_y0_4] 50 (0, 0)) :: pt pb1 (.cells #[.slice a_v0 y1.length c_v0] 22 (0, 0)) :: pt pb2 (.cells #[.slice a_v1 y2.length c_v1] 22 (0, 0)) :: pt pb3 (.cells #[.slice a180 q179.length c181] 22 (0, 0)) :: pt pb4 (.cells #[.slice a185 q184.length c186] 22 (0, 0)) :: pt pb5 (.cells #[.func (.func 69) #[] #[.pointer (some ⟨pb0, 0, none⟩), .pointer (some ⟨pb1, 0, none⟩), .pointer (some ⟨pb2, 0, none⟩), .pointer (some ⟨pb3, 0, none⟩), .pointer (some ⟨pb4, 0, none⟩), .pointer (some ⟨pb5, 0, none⟩)]] 109 (0, 0)) :: vecC 3 1 a_v1 c_v1 y2.length cs_v1 :: R)) (w := _) (x := true) (y := true) (fun _ => hS) (fun _ => (hS.tail))
          have hF := hS; replace hS := hS
          refine Rg.take (i := 4) true rfl hE rfl (by kernel_rfl) (runs_plain rfl) (Gives.load1 hE rfl (fun w h => St.vecSees h 7 rfl ((x0).toNat * 1) _ hget234) ty3) rfl hT ?_; clear hE a; intro a hE
          replace hS := hF; clear hF hT
          obtain ⟨_, hx236, hr⟩ := bindS hr
          obtain ⟨h237, h238⟩ := ix_some hx236
          refine Rg.takeP (i := 5) hE rfl (by kernel_rfl) (runs_plain rfl) (Gives.idx hE ((x225).toNat) rfl rfl sl22 h237 (by have := hn178; omega) (hS.vecAok 0 rfl (by have := hn178; omega : (x225).toNat < y1.length))) rfl (tw_sel (fun _ => hS) (fun _ => (hS.tail))) ?_; clear hE a; intro a hE
          refine Rg.one (i := 6) false true rfl (by kernel_rfl) (by kernel_rfl) (by kernel_rfl) ?_
          obtain ⟨x240, hx241, hr⟩ := bindS hr
          refine WL.setD hE hS 0 rfl (runs_plain rfl) rfl rfl (vs := [.int .i64 0]) rfl ty3 rfl rfl rfl h176 hn178 (sx_some hx241).1 hx241 rfl rfl ?_; clear hE hS a w; intro cs242 a w h243 hn244 hE hS
          refine WL.nil ?_
          refine ⟨⟨fun h => absurd h (by decide), fun _ => (hS.tail)⟩, ?_⟩
          refine Rg.done (by kernel_rfl) ?_
          subst hK224
          refine finG (fn := Try.f69) (rs := []) (vs := []) hE rfl trivial ?_
          obtain rfl := Option.some.inj hr
          replace hS := hS.front 7 rfl
          replace hS := hS.front 1 rfl
          replace hS := hS.front 7 rfl
          replace hS := hS.front 7 rfl
          replace hS := hS.front 7 rfl
          replace hS := hS.front 7 rfl
          replace hS := hS.front 7 rfl
          replace hS := hS.front 7 rfl
          exact ⟨cs242, a180, c181, a185, c186, s171, rfl, hle172, h243, hn244, h182, hz183, h187, hS⟩
set_option maxHeartbeats 8000000 in
theorem Fishref2BestOf_ok {fu : Nat}  {w : World} {s : Sg} {R : List HP} {x0 : MendGraph} {a0_0 : Option Addr} {c0_0 : Nat} {a0_1 : Option Addr} {c0_1 : Nat} {a0_2 : Option Addr} {c0_2 : Nat} {a0_3 : Option Addr} {c0_3 : Nat} {a0_4 : Option Addr} {c0_4 : Nat} (hS : St w s (R)) (h0_0 : Sl 1 (RI .i64) s a0_0 c0_0 x0.Ready) (h0_1 : Sl 1 (RI .i64) s a0_1 c0_1 x0.Last) (h0_2 : Sl 1 (RI .i64) s a0_2 c0_2 x0.Due) (h0_3 : Sl 3 RMendArc s a0_3 c0_3 x0.Arcs) (h0_4 : Sl 1 RMendChoice s a0_4 c0_4 x0.Choices) {r : (List Int) × (List Int) × Int} (hr : Fishref2BestOf fu x0 = some r) :
    Calls Try.prog 27 [.agg [.slice a0_0 x0.Ready.length c0_0, .slice a0_1 x0.Last.length c0_1, .slice a0_2 x0.Due.length c0_2, .slice a0_3 x0.Arcs.length c0_3, .slice a0_4 x0.Choices.length c0_4].toArray].toArray w (fun e w => ∃ (a0 : Option Addr) (c0 : Nat) (a1 : Option Addr) (c1 : Nat) (t : Sg), e = .returned (.tuple #[.slice a0 r.1.length c0, .slice a1 r.2.1.length c1, .int .i64 r.2.2]) ∧ s.Le t ∧ Sl 1 (RI .i64) t a0 c0 r.1 ∧ Sl 1 (RI .i64) t a1 c1 r.2.1 ∧ St w t (R)) := by
  refine enter Try.func27 rfl rfl rfl fun a hE => ?_
  rw [Fishref2BestOf] at hr
  refine W.seq ?_
  refine W.region ?_
  refine WL.box hE hS (runs_plain rfl) rfl rfl rfl ?_; clear hE hS a w; intro b51 a w hE hS
  refine WL.vS hS hE (runs_plain rfl) (Gives.p hE rfl) rfl ?_; clear hE a; intro a hE
  refine WL.vS hS hE (runs_plain rfl) (Gives.p hE rfl) rfl ?_; clear hE a; intro a hE
  refine WL.vS hS hE (runs_plain rfl) (Gives.p hE rfl) rfl ?_; clear hE a; intro a hE
  refine WL.nil ?_
  refine W.seq ?_
  refine W.gen fun K52 hK52 => ?_
  refine W.regionE (sel (fun w => St w s (pt b51 (.cells #[.slice a0_0 x0.Ready.length c0_0, .slice a0_1 x0.Last.length c0_1, .slice a0_2 x0.Due.length c0_2, .slice a0_3 x0.Arcs.length c0_3, .slice a0_4 x0.Choices.length c0_4] 50 (0, 0)) :: R)) (fun w => St w s (pt b51 (.cells #[.slice a0_0 x0.Ready.length c0_0, .slice a0_1 x0.Last.length c0_1, .slice a0_2 x0.Due.length c0_2, .slice a0_3 x0.Arcs.length c0_3, .slice a0_4 x0.Choices.length c0_4] 50 (0, 0)) :: R))) (fun b i => cond b ([0, 1, 2, 3, 4, 5, 6, 7, 8, 9, 10].contains i) ([0, 1, 2, 3, 4, 5, 6, 7, 8, 9, 10].contains i)) mixed ?_
  replace hS := hS.drew
  have hT := tw_sel (A := fun w => St w s (pt b51 (.cells #[.slice a0_0 x0.Ready.length c0_0, .slice a0_1 x0.Last.length c0_1, .slice a0_2 x0.Due.length c0_2, .slice a0_3 x0.Arcs.length c0_3, .slice a0_4 x0.Choices.length c0_4] 50 (0, 0)) :: R)) (B := fun w => St w s (pt b51 (.cells #[.slice a0_0 x0.Ready.length c0_0, .slice a0_1 x0.Last.length c0_1, .slice a0_2 x0.Due.length c0_2, .slice a0_3 x0.Arcs.length c0_3, .slice a0_4 x0.Choices.length c0_4] 50 (0, 0)) :: R)) (w := _) (x := true) (y := true) (fun _ => hS) (fun _ => hS)
  have hF := hS; replace hS := hS
  refine Rg.take (i := 0) true rfl hE rfl (by kernel_rfl) (runs_plain rfl) (Gives.loadBA hE 0 rfl rfl ty50) rfl hT ?_; clear hE a; intro a hE
  replace hS := hF; clear hF hT
  refine Rg.takeP (i := 1) hE rfl (by kernel_rfl) (runs_plain rfl) (Gives.fld hE rfl fl50_4) rfl (tw_sel (fun _ => hS) (fun _ => hS)) ?_; clear hE a; intro a hE
  have hT := tw_sel (A := fun w => St w s (pt b51 (.cells #[.slice a0_0 x0.Ready.length c0_0, .slice a0_1 x0.Last.length c0_1, .slice a0_2 x0.Due.length c0_2, .slice a0_3 x0.Arcs.length c0_3, .slice a0_4 x0.Choices.length c0_4] 50 (0, 0)) :: R)) (B := fun w => St w s (pt b51 (.cells #[.slice a0_0 x0.Ready.length c0_0, .slice a0_1 x0.Last.length c0_1, .slice a0_2 x0.Due.length c0_2, .slice a0_3 x0.Arcs.length c0_3, .slice a0_4 x0.Choices.length c0_4] 50 (0, 0)) :: R)) (w := _) (x := true) (y := true) (fun _ => hS) (fun _ => hS)
  have hF := hS; replace hS := hS
  refine Rg.take (i := 2) true rfl hE rfl (by kernel_rfl) (runs_plain rfl) (Gives.loadB hE 0 rfl rfl rfl ty48) rfl hT ?_; clear hE a; intro a hE
  replace hS := hF; clear hF hT
  refine Rg.takeP (i := 3) hE rfl (by kernel_rfl) (runs_plain rfl) (Gives.len hE rfl sl48) rfl (tw_sel (fun _ => hS) (fun _ => hS)) ?_; clear hE a; intro a hE
  refine Rg.one (i := 4) true true rfl (by kernel_rfl) (by kernel_rfl) (by kernel_rfl) ?_
  obtain ⟨x53, hx54, hr⟩ := bindS hr
  refine WL.mkD (Rr := RI .i64) hE hS (runs_plain rfl) rfl rfl ap22 zr3 rfl hx54 rfl ?_; clear hE hS a w; intro b55 cs56 a w h57 hE hS
  refine WL.nil ?_
  refine ⟨⟨fun _ => (hS.tail), fun _ => (hS.tail)⟩, ?_⟩
  refine Rg.one (i := 5) true true rfl (by kernel_rfl) (by kernel_rfl) (by kernel_rfl) ?_
  obtain ⟨q59, hq60, hr⟩ := bindS hr
  have hF := hS.lendV RI.mono 0 rfl h57 (rfl); clear hS; obtain ⟨t67, hle68, hS, hs69, bk70⟩ := hF
  have hc_ := Fishref2ForcedOf_ok hS (Sl.mono RI.mono hle68 h0_0) (Sl.mono RI.mono hle68 h0_1) (Sl.mono RI.mono hle68 h0_2) (Sl.mono RMendArc.mono hle68 h0_3) (Sl.mono RMendChoice.mono hle68 h0_4) hs69 hq60
  refine WL.fnq hE (hc_) (runs_plain rfl) bd42 rfl rfl rfl ?_
  clear hE hS hc_; rintro e w ⟨a61, c62, n63, cs64, rfl, h65, rfl, hS⟩; refine ⟨_, rfl, ?_⟩; clear a; intro a hE
  replace hS := bk70 _ _ hS
  replace h65 := Ev.flat (s2 := s) (fun _ _ _ _ h => h) h65
  refine WL.nil ?_
  refine ⟨⟨fun _ => ((hS.tail).tail), fun _ => ((hS.tail).tail)⟩, ?_⟩
  refine Rg.takeP (i := 6) hE rfl (by kernel_rfl) (runs_plain rfl) (Gives.p hE rfl) rfl (tw_sel (fun _ => ((hS.tail).tail)) (fun _ => ((hS.tail).tail))) ?_; clear hE a; intro a hE
  refine Rg.takeP (i := 7) hE rfl (by kernel_rfl) (runs_plain rfl) (Gives.p hE rfl) rfl (tw_sel (fun _ => ((hS.tail).tail)) (fun _ => ((hS.tail).tail))) ?_; clear hE a; intro a hE
  refine Rg.takeP (i := 8) hE rfl (by kernel_rfl) (runs_plain rfl) (Gives.p hE rfl) rfl (tw_sel (fun _ => ((hS.tail).tail)) (fun _ => ((hS.tail).tail))) ?_; clear hE a; intro a hE
  refine Rg.takeP (i := 9) hE rfl (by kernel_rfl) (runs_plain rfl) (Gives.p hE rfl) rfl (tw_sel (fun _ => ((hS.tail).tail)) (fun _ => ((hS.tail).tail))) ?_; clear hE a; intro a hE
  refine Rg.takeP (i := 10) hE rfl (by kernel_rfl) (runs_plain rfl) (Gives.p hE rfl) rfl (tw_sel (fun _ => ((hS.tail).tail)) (fun _ => ((hS.tail).tail))) ?_; clear hE a; intro a hE
  refine Rg.done (by kernel_rfl) ?_
  subst hK52
  refine W.seq ?_
  refine W.seq ?_
  refine W.region ?_
  refine WL.vS hS hE (runs_plain rfl) (Gives.p hE rfl) rfl ?_; clear hE a; intro a hE
  refine WL.vS hS hE (runs_plain rfl) (Gives.p hE rfl) rfl ?_; clear hE a; intro a hE
  refine WL.nil ?_
  refine W.cond hE rfl (fun hc71 => ?_) (fun hc71 => ?_)
  · replace hr := iteT hc71 hr
    refine W.seq ?_
    refine W.region ?_
    refine WL.vS hS hE (runs_plain rfl) (Gives.p hE rfl) rfl ?_; clear hE a; intro a hE
    refine WL.vS hS hE (runs_plain rfl) (Gives.p hE rfl) rfl ?_; clear hE a; intro a hE
    refine WL.vS hS hE (runs_plain rfl) (Gives.p hE rfl) rfl ?_; clear hE a; intro a hE
    refine WL.nil ?_
    refine W.ret ?_
    refine finG (fn := Try.f27) (rs := [.tmp 2, .tmp 3, .tmp 4]) (vs := [_, _, _]) hE rfl ⟨rfl, rfl, rfl, trivial⟩ ?_
    obtain rfl := Option.some.inj hr
    replace hS := hS.tail
    replace hS := hS.tail
    replace hS := hS.tail
    exact ⟨none, 0, none, 0, s, rfl, (Sg.Le.refl _), Sl.nil, Sl.nil, hS⟩
  · replace hr := iteF hc71 hr
    refine W.skip ?_
    refine W.seq ?_
    refine W.region ?_
    refine WL.alloc hE hS (runs_plain rfl) zr22 rfl ?_; clear hE hS a w; intro b72 a w hE hS
    refine WL.nil ?_
    refine W.seq ?_
    refine W.seq ?_
    refine W.region ?_
    refine WL.vS hS hE (runs_plain rfl) (Gives.p hE rfl) rfl ?_; clear hE a; intro a hE
    refine WL.vS hS hE (runs_plain rfl) (Gives.len hE rfl sl22) rfl ?_; clear hE a; intro a hE
    refine WL.vS hS hE (runs_plain rfl) (Gives.p hE rfl) rfl ?_; clear hE a; intro a hE
    refine WL.nil ?_
    replace hS := hS.vecNil 3 1
    replace hS := hS.dropAt 2
    have hb85 : q59.1.length ≤ 9223372036854775807 := by have := hS.vecCap 2 rfl; unfold maxLen at this; omega
    obtain ⟨q75, hq74, hr⟩ := bindS hr
    refine W.cut (fun a w => ∃ (q86 : List Int), ∃ (a87 : Option Addr), ∃ (c88 : Nat), ∃ (n90 : Nat), ∃ (cs91 : List Value), q86 = q75 ∧ Ev 1 (RI .i64) s cs91 q86 ∧ q86.length = n90 ∧ Rep a 64 [(1, .pointer (some ⟨b51, 0, none⟩)), (5, .slice a61 q59.1.length c62), (7, .pointer (some ⟨b72, 0, none⟩))] ∧ St w s (vecC 3 1 a87 c88 n90 cs91 :: pt b72 (.cells #[.slice a87 n90 c88] 22 (0, 0)) :: vecC 3 1 a61 c62 q59.1.length cs64 :: pt b51 (.cells #[.slice a0_0 x0.Ready.length c0_0, .slice a0_1 x0.Last.length c0_1, .slice a0_2 x0.Due.length c0_2, .slice a0_3 x0.Arcs.length c0_3, .slice a0_4 x0.Choices.length c0_4] 50 (0, 0)) :: R)) ?_ ?_
    · refine W.block ?_
      refine W.loop (fun m a w => ∃ (rest78 : Nat) (k76 : Nat), ∃ (q86 : List Int), ∃ (a87 : Option Addr), ∃ (c88 : Nat), ∃ (n90 : Nat), ∃ (cs91 : List Value), rest78 = m ∧ k76 + rest78 = q59.1.length ∧ Fishref2BestOf.loop1 q59 rest78 k76 q86 = some q75 ∧ Ev 1 (RI .i64) s cs91 q86 ∧ q86.length = n90 ∧ Rep a 64 [(1, .pointer (some ⟨b51, 0, none⟩)), (5, .slice a61 q59.1.length c62), (7, .pointer (some ⟨b72, 0, none⟩)), (27, .slice a61 q59.1.length c62), (28, .int .i64 ((q59.1.length : Nat) : Int)), (29, .int .i64 ((k76 : Nat) : Int))] ∧ St w s (vecC 3 1 a87 c88 n90 cs91 :: pt b72 (.cells #[.slice a87 n90 c88] 22 (0, 0)) :: vecC 3 1 a61 c62 q59.1.length cs64 :: pt b51 (.cells #[.slice a0_0 x0.Ready.length c0_0, .slice a0_1 x0.Last.length c0_1, .slice a0_2 x0.Due.length c0_2, .slice a0_3 x0.Arcs.length c0_3, .slice a0_4 x0.Choices.length c0_4] 50 (0, 0)) :: R)) (m := q59.1.length) ⟨q59.1.length, 0, [], none, 0, 0, [], rfl, by omega, hq74, (Ev.nil), (rfl), hE.pick _ ⟨rfl, rfl, rfl, rfl, rfl, rfl, trivial⟩, hS⟩ ?_
      clear hE hS a w hq74; rintro m82 a w ⟨rest78, k76, q86, a87, c88, n90, cs91, rfl, hd79, hq74, h89, rfl, hE, hS⟩
      refine W.gen fun K93 hK93 => ?_
      rcases rest78 with _ | rest78
      · skip
        refine W.seq ?_
        refine W.region ?_
        refine WL.vS hS hE (runs_plain rfl) (Gives.p hE rfl) rfl ?_; clear hE a; intro a hE
        refine WL.nil ?_
        refine W.seq ?_
        refine W.condF hE rfl (decide_eq_false (by omega)) ?_
        subst hK93
        refine W.exit rfl ?_
        exact ⟨q86, a87, c88, q86.length, cs91, Option.some.inj hq74, h89, rfl, hE.pick _ ⟨rfl, rfl, rfl, trivial⟩, hS⟩
      · have hlt80 : k76 < q59.1.length := by omega
        rw [Fishref2BestOf.loop1] at hq74
        refine W.seq ?_
        refine W.region ?_
        refine WL.vS hS hE (runs_plain rfl) (Gives.p hE rfl) rfl ?_; clear hE a; intro a hE
        refine WL.nil ?_
        refine W.seq ?_
        refine W.condT hE rfl (decide_eq_true (by omega)) ?_
        refine W.skip ?_
        refine W.seq ?_
        refine W.block ?_
        refine W.seq ?_
        refine W.region ?_
        refine WL.vS hS hE (runs_plain rfl) (Gives.p hE rfl) rfl ?_; clear hE a; intro a hE
        obtain ⟨x94, hx95, hq74⟩ := bindS hq74
        obtain ⟨hi96, hlt97, hy98⟩ := gx_some hx95
        obtain ⟨vs99, hl100, hR101, hd102, hget103⟩ := h65.at hy98
        subst hR101
        refine WL.vS hS hE (runs_plain rfl) (Gives.idx hE ((((k76 : Nat) : Int)).toNat) rfl rfl sl22 hi96 (by omega) (hS.vecAok 2 rfl (by omega : (((k76 : Nat) : Int)).toNat < q59.1.length))) rfl ?_; clear hE a; intro a hE
        refine WL.vS hS hE (runs_plain rfl) (Gives.load1 hE rfl (fun w h => St.vecSees h 2 rfl ((((k76 : Nat) : Int)).toNat * 1) _ hget103) ty3) rfl ?_; clear hE a; intro a hE
        refine WL.vS hS hE (runs_plain rfl) (Gives.p hE rfl) rfl ?_; clear hE a; intro a hE
        refine WL.vS hS hE (runs_plain rfl) (Gives.p hE rfl) rfl ?_; clear hE a; intro a hE
        refine WL.nil ?_
        refine W.seq ?_
        refine W.region ?_
        refine WL.vS hS hE (runs_plain rfl) (Gives.p hE rfl) rfl ?_; clear hE a; intro a hE
        refine WL.vS hS hE (runs_plain rfl) (Gives.p hE rfl) rfl ?_; clear hE a; intro a hE
        refine WL.nil ?_
        obtain ⟨q105, hq104, hq74⟩ := bindS hq74
        refine W.cut (fun a w => ∃ (q108 : List Int), ∃ (a109 : Option Addr), ∃ (c110 : Nat), ∃ (n112 : Nat), ∃ (cs113 : List Value), q108 = q105 ∧ Ev 1 (RI .i64) s cs113 q108 ∧ q108.length = n112 ∧ Rep a 64 [(1, .pointer (some ⟨b51, 0, none⟩)), (5, .slice a61 q59.1.length c62), (7, .pointer (some ⟨b72, 0, none⟩)), (27, .slice a61 q59.1.length c62), (28, .int .i64 ((q59.1.length : Nat) : Int)), (29, .int .i64 ((k76 : Nat) : Int))] ∧ St w s (vecC 3 1 a109 c110 n112 cs113 :: pt b72 (.cells #[.slice a109 n112 c110] 22 (0, 0)) :: vecC 3 1 a61 c62 q59.1.length cs64 :: pt b51 (.cells #[.slice a0_0 x0.Ready.length c0_0, .slice a0_1 x0.Last.length c0_1, .slice a0_2 x0.Due.length c0_2, .slice a0_3 x0.Arcs.length c0_3, .slice a0_4 x0.Choices.length c0_4] 50 (0, 0)) :: R)) ?_ ?_
        · refine W.gen fun K115 hK115 => ?_
          refine W.cond hE rfl (fun hc116 => ?_) (fun hc116 => ?_)
          · replace hq104 := iteT hc116 hq104
            refine W.region ?_
            refine WL.vS hS hE (runs_plain rfl) (Gives.loadB hE 1 rfl rfl rfl ty22) rfl ?_; clear hE a; intro a hE
            refine WL.vS hS hE (runs_plain rfl) (Gives.p hE rfl) rfl ?_; clear hE a; intro a hE
            refine WL.lit hE hS (e := 3) (es := 1) (vs := [(0, .int .i64 ((k76 : Nat) : Int))]) (cs := [.int .i64 ((k76 : Nat) : Int)]) (runs_plain rfl) rfl (by kernel_rfl) rfl ?_; clear hE hS a w; intro b117 a w hE hS
            obtain ⟨x118, hx119, hq104⟩ := bindS hq104
            refine WL.appD hE hS 0 (m := 1) (runs_plain rfl) rfl rfl rfl ap22 rfl h89 rfl (xs := [((k76 : Nat) : Int)]) (Ev.cons (c1 := [.int .i64 ((k76 : Nat) : Int)]) rfl rfl (Ev.nil)) rfl rfl hx119 rfl ?_; clear hE hS a w; intro a120 c121 cs122 a w h123 hE hS
            refine WL.storeI hE hS 1 rfl [.slice a120 x118.length c121] (runs_plain rfl) rfl rfl rfl ty22 rfl rfl rfl rfl ?_; clear hE hS a w; intro a w hE hS
            refine WL.nil ?_
            subst hK115
            exact ⟨x118, a120, c121, x118.length, cs122, Option.some.inj hq104, h123, (rfl), hE.pick _ ⟨rfl, rfl, rfl, rfl, rfl, rfl, trivial⟩, hS⟩
          · replace hq104 := iteF hc116 hq104
            refine W.skip ?_
            subst hK115
            exact ⟨q86, a87, c88, q86.length, cs91, Option.some.inj hq104, h89, rfl, hE.pick _ ⟨rfl, rfl, rfl, rfl, rfl, rfl, trivial⟩, hS⟩
        · clear hE hS a w; rintro a w ⟨q108, a109, c110, n112, cs113, rfl, h111, rfl, hE, hS⟩
          refine W.region ?_
          refine WL.vS hS hE (runs_plain rfl) (Gives.inc hE rfl (by omega)) rfl ?_; clear hE a; intro a hE
          refine WL.vS hS hE (runs_plain rfl) (Gives.p hE rfl) rfl ?_; clear hE a; intro a hE
          refine WL.nil ?_
          subst hK93
          exact ⟨rest78, Nat.lt_succ_self _, rest78, k76 + 1, q108, a109, c110, q108.length, cs113, rfl, (by omega), hq74, h111, rfl, hE.pick _ ⟨rfl, rfl, rfl, rfl, rfl, rfl, trivial⟩, hS⟩
    · clear hE hS a w; rintro a w ⟨q86, a87, c88, n90, cs91, rfl, h89, rfl, hE, hS⟩
      refine W.seq ?_
      refine W.seq ?_
      refine W.region ?_
      refine WL.vS hS hE (runs_plain rfl) (Gives.loadB hE 1 rfl rfl rfl ty22) rfl ?_; clear hE a; intro a hE
      refine WL.vS hS hE (runs_plain rfl) (Gives.len hE rfl sl22) rfl ?_; clear hE a; intro a hE
      refine WL.vS hS hE (runs_plain rfl) (Gives.p hE rfl) rfl ?_; clear hE a; intro a hE
      refine WL.nil ?_
      refine W.cond hE rfl (fun hc124 => ?_) (fun hc124 => ?_)
      · replace hr := iteT hc124 hr
        refine W.seq ?_
        refine W.region ?_
        refine WL.vS hS hE (runs_plain rfl) (Gives.p hE rfl) rfl ?_; clear hE a; intro a hE
        refine WL.vS hS hE (runs_plain rfl) (Gives.p hE rfl) rfl ?_; clear hE a; intro a hE
        refine WL.vS hS hE (runs_plain rfl) (Gives.p hE rfl) rfl ?_; clear hE a; intro a hE
        refine WL.nil ?_
        refine W.ret ?_
        refine finG (fn := Try.f27) (rs := [.tmp 2, .tmp 3, .tmp 4]) (vs := [_, _, _]) hE rfl ⟨rfl, rfl, rfl, trivial⟩ ?_
        obtain rfl := Option.some.inj hr
        replace hS := hS.tail
        replace hS := hS.tail
        replace hS := hS.tail
        replace hS := hS.tail
        exact ⟨none, 0, none, 0, s, rfl, (Sg.Le.refl _), Sl.nil, Sl.nil, hS⟩
      · replace hr := iteF hc124 hr
        refine W.skip ?_
        refine W.seq ?_
        refine W.region ?_
        refine WL.alloc hE hS (runs_plain rfl) zr22 rfl ?_; clear hE hS a w; intro b125 a w hE hS
        refine WL.alloc hE hS (runs_plain rfl) zr22 rfl ?_; clear hE hS a w; intro b126 a w hE hS
        refine WL.nil ?_
        refine W.seq ?_
        refine W.region ?_
        refine WL.vS hS hE (runs_plain rfl) (Gives.p hE rfl) rfl ?_; clear hE a; intro a hE
        obtain ⟨q127, hq128, hr⟩ := bindS hr
        have hF := hS.lendV RI.mono 4 rfl h65 rfl; clear hS; obtain ⟨t135, hle136, hS, hs137, bk138⟩ := hF
        have hc_ := SlicesCloneLint_ok hS hs137 hq128
        refine WL.fnq hE (hc_) (runs_plain rfl) bd67 rfl rfl rfl ?_
        clear hE hS hc_; rintro e w ⟨a129, c130, n131, cs132, rfl, h133, rfl, hS⟩; refine ⟨_, rfl, ?_⟩; clear a; intro a hE
        replace hS := bk138 _ _ hS
        replace h133 := Ev.flat (s2 := s) (fun _ _ _ _ h => h) h133
        refine WL.alloc hE hS (runs_plain rfl) zr22 rfl ?_; clear hE hS a w; intro b139 a w hE hS
        refine WL.storeI hE hS 0 rfl [.slice a129 q127.length c130] (runs_plain rfl) rfl rfl rfl ty22 rfl rfl rfl rfl ?_; clear hE hS a w; intro a w hE hS
        refine WL.nil ?_
        refine W.seq ?_
        refine W.region ?_
        refine WL.alloc hE hS (runs_plain rfl) zr109 rfl ?_; clear hE hS a w; intro b140 a w hE hS
        refine WL.nil ?_
        refine W.seq ?_
        refine W.region ?_
        refine WL.vS hS hE (runs_plain rfl) (Gives.mkfn hE (vs := [.pointer (some ⟨b51, 0, none⟩), .pointer (some ⟨b139, 0, none⟩), .pointer (some ⟨b72, 0, none⟩), .pointer (some ⟨b125, 0, none⟩), .pointer (some ⟨b126, 0, none⟩), .pointer (some ⟨b140, 0, none⟩)]) rfl) rfl ?_; clear hE a; intro a hE
        refine WL.storeI hE hS 0 rfl [.func (.func 69) #[] #[.pointer (some ⟨b51, 0, none⟩), .pointer (some ⟨b139, 0, none⟩), .pointer (some ⟨b72, 0, none⟩), .pointer (some ⟨b125, 0, none⟩), .pointer (some ⟨b126, 0, none⟩), .pointer (some ⟨b140, 0, none⟩)]] (runs_plain rfl) rfl rfl rfl ty109 rfl rfl rfl rfl ?_; clear hE hS a w; intro a w hE hS
        refine WL.nil ?_
        refine W.seq ?_
        refine W.seq ?_
        refine W.region ?_
        refine WL.vS hS hE (runs_plain rfl) (Gives.fld hE rfl fl50_4) rfl ?_; clear hE a; intro a hE
        refine WL.vS hS hE (runs_plain rfl) (Gives.loadB hE 8 rfl rfl rfl ty48) rfl ?_; clear hE a; intro a hE
        refine WL.vS hS hE (runs_plain rfl) (Gives.len hE rfl sl48) rfl ?_; clear hE a; intro a hE
        refine WL.vS hS hE (runs_plain rfl) (Gives.p hE rfl) rfl ?_; clear hE a; intro a hE
        refine WL.nil ?_
        refine W.cond hE rfl (fun hc141 => ?_) (fun hc141 => ?_)
        · replace hr := iteT hc141 hr
          refine W.seq ?_
          refine W.region ?_
          refine WL.vS hS hE (runs_plain rfl) (Gives.loadBA hE 8 rfl rfl ty50) rfl ?_; clear hE a; intro a hE
          refine WL.vS hS hE (runs_plain rfl) (Gives.p hE rfl) rfl ?_; clear hE a; intro a hE
          obtain ⟨q142, hq143, hr⟩ := bindS hr
          have hF := hS.lendV RI.mono 2 rfl h65 rfl; clear hS; obtain ⟨t150, hle151, hS, hs152, bk153⟩ := hF
          have hc_ := Fishref2TimesOf_ok hS (Sl.mono RI.mono hle151 h0_0) (Sl.mono RI.mono hle151 h0_1) (Sl.mono RI.mono hle151 h0_2) (Sl.mono RMendArc.mono hle151 h0_3) (Sl.mono RMendChoice.mono hle151 h0_4) hs152 hq143
          refine WL.fnq hE (hc_) (runs_plain rfl) bd43 rfl rfl rfl ?_
          clear hE hS hc_; rintro e w ⟨a144, c145, n146, cs147, rfl, h148, rfl, hS⟩; refine ⟨_, rfl, ?_⟩; clear a; intro a hE
          replace hS := bk153 _ _ hS
          replace h148 := Ev.flat (s2 := s) (fun _ _ _ _ h => h) h148
          refine WL.vS hS hE (runs_plain rfl) (Gives.p hE rfl) rfl ?_; clear hE a; intro a hE
          refine WL.vS hS hE (runs_plain rfl) (Gives.p hE rfl) rfl ?_; clear hE a; intro a hE
          refine WL.vS hS hE (runs_plain rfl) (Gives.p hE rfl) rfl ?_; clear hE a; intro a hE
          refine WL.vS hS hE (runs_plain rfl) (Gives.p hE rfl) rfl ?_; clear hE a; intro a hE
          refine WL.vS hS hE (runs_plain rfl) (Gives.p hE rfl) rfl ?_; clear hE a; intro a hE
          refine WL.nil ?_
          refine W.seq ?_
          refine W.region ?_
          refine WL.vS hS hE (runs_plain rfl) (Gives.p hE rfl) rfl ?_; clear hE a; intro a hE
          refine WL.vS hS hE (runs_plain rfl) (Gives.p hE rfl) rfl ?_; clear hE a; intro a hE
          refine WL.vS hS hE (runs_plain rfl) (Gives.p hE rfl) rfl ?_; clear hE a; intro a hE
          refine WL.vS hS hE (runs_plain rfl) (Gives.p hE rfl) rfl ?_; clear hE a; intro a hE
          refine WL.nil ?_
          refine W.ret ?_
          have hF := hS.fixD RI.mono 1 rfl h148 rfl; clear hS; obtain ⟨s154, hle155, hS, h156⟩ := hF
          replace h0_4 := Sl.mono RMendChoice.mono hle155 h0_4
          replace h0_0 := Sl.mono RI.mono hle155 h0_0
          replace h0_1 := Sl.mono RI.mono hle155 h0_1
          replace h0_2 := Sl.mono RI.mono hle155 h0_2
          replace h0_3 := Sl.mono RMendArc.mono hle155 h0_3
          replace h65 := Ev.mono RI.mono hle155 h65
          replace h133 := Ev.mono RI.mono hle155 h133
          replace h89 := Ev.mono RI.mono hle155 h89
          refine finG (fn := Try.f27) (rs := [.tmp 2, .tmp 3, .tmp 4]) (vs := [_, _, _]) hE rfl ⟨rfl, rfl, rfl, trivial⟩ ?_
          obtain rfl := Option.some.inj hr
          replace hS := hS.tail
          replace hS := hS.tail
          replace hS := hS.tail
          replace hS := hS.tail
          replace hS := hS.tail
          replace hS := hS.tail
          replace hS := hS.tail
          replace hS := hS.tail
          replace hS := hS.tail
          exact ⟨none, 0, a144, c145, s154, rfl, hle155, Sl.nil, h156, hS⟩
        · replace hr := iteF hc141 hr
          refine W.skip ?_
          refine W.seq ?_
          refine W.region ?_
          refine WL.vS hS hE (runs_plain rfl) (Gives.loadB hE 0 rfl rfl rfl ty109) rfl ?_; clear hE a; intro a hE
          obtain ⟨q157, hq158, hr⟩ := bindS hr
          replace hS := hS.front 6 rfl
          replace hS := hS.front 4 rfl
          replace hS := hS.front 2 rfl
          replace hS := hS.front 5 rfl
          replace hS := hS.front 6 rfl
          replace hS := hS.front 7 rfl
          replace hS := hS.front 6 rfl
          replace hS := hS.front 8 rfl
          have hc_ := Fishref2BestOf_1_v1_ok (y0 := x0) hS h0_0 h0_1 h0_2 h0_3 h0_4 h133 rfl h89 rfl Sl.nil (fun _ => rfl) Sl.nil hq158
          refine WL.fnw hE (hc_) rfl (runs_plain rfl) bd69 rfl rfl rfl ?_
          clear hE hS hc_; rintro e w ⟨cs159, a162, c163, a166, c167, s169, rfl, hle170, h160, hn161, h164, hz165, h168, hS⟩; refine ⟨_, rfl, ?_⟩; clear a; intro a hE
          replace h0_4 := Sl.mono RMendChoice.mono hle170 h0_4
          replace h0_0 := Sl.mono RI.mono hle170 h0_0
          replace h0_1 := Sl.mono RI.mono hle170 h0_1
          replace h0_2 := Sl.mono RI.mono hle170 h0_2
          replace h0_3 := Sl.mono RMendArc.mono hle170 h0_3
          replace h133 := Ev.mono RI.mono hle170 h133
          replace h89 := Ev.mono RI.mono hle170 h89
          replace h65 := Ev.mono RI.mono hle170 h65
          refine WL.nil ?_
          refine W.seq ?_
          refine W.seq ?_
          refine W.region ?_
          refine WL.vS hS hE (runs_plain rfl) (Gives.loadB hE 3 rfl rfl rfl ty22) rfl ?_; clear hE a; intro a hE
          refine WL.vS hS hE (runs_plain rfl) (Gives.isNilZ hE (isNone_eq h164 hz165) rfl rfl isl22) rfl ?_; clear hE a; intro a hE
          refine WL.nil ?_
          refine W.cond hE rfl (fun hc171 => ?_) (fun hc171 => ?_)
          · replace hr := iteT hc171 hr
            refine W.seq ?_
            refine W.region ?_
            refine WL.vS hS hE (runs_plain rfl) (Gives.p hE rfl) rfl ?_; clear hE a; intro a hE
            refine WL.vS hS hE (runs_plain rfl) (Gives.p hE rfl) rfl ?_; clear hE a; intro a hE
            refine WL.vS hS hE (runs_plain rfl) (Gives.p hE rfl) rfl ?_; clear hE a; intro a hE
            refine WL.nil ?_
            refine W.ret ?_
            refine finG (fn := Try.f27) (rs := [.tmp 2, .tmp 3, .tmp 4]) (vs := [_, _, _]) hE rfl ⟨rfl, rfl, rfl, trivial⟩ ?_
            obtain rfl := Option.some.inj hr
            replace hS := hS.tail
            replace hS := hS.tail
            replace hS := hS.tail
            replace hS := hS.tail
            replace hS := hS.tail
            replace hS := hS.tail
            replace hS := hS.tail
            replace hS := hS.tail
            replace hS := hS.tail
            exact ⟨none, 0, none, 0, s169, rfl, hle170, Sl.nil, Sl.nil, hS⟩
          · replace hr := iteF hc171 hr
            refine W.skip ?_
            refine W.seq ?_
            refine W.regionQ (C := fun w => St w s169 (pt b51 (.cells #[.slice a0_0 x0.Ready.length c0_0, .slice a0_1 x0.Last.length c0_1, .slice a0_2 x0.Due.length c0_2, .slice a0_3 x0.Arcs.length c0_3, .slice a0_4 x0.Choices.length c0_4] 50 (0, 0)) :: pt b139 (.cells #[.slice a129 q127.length c130] 22 (0, 0)) :: pt b72 (.cells #[.slice a87 q86.length c88] 22 (0, 0)) :: pt b125 (.cells #[.slice a162 q157.2.1.length c163] 22 (0, 0)) :: pt b126 (.cells #[.slice a166 q157.2.2.length c167] 22 (0, 0)) :: pt b140 (.cells #[.func (.func 69) #[] #[.pointer (some ⟨b51, 0, none⟩), .pointer (some ⟨b139, 0, none⟩), .pointer (some ⟨b72, 0, none⟩), .pointer (some ⟨b125, 0, none⟩), .pointer (some ⟨b126, 0, none⟩), .pointer (some ⟨b140, 0, none⟩)]] 109 (0, 0)) :: vecC 3 1 a129 c130 q127.length cs159 :: vecC 3 1 a87 c88 q86.length cs91 :: vecC 3 1 a61 c62 q59.1.length cs64 :: R)) mixed (by kernel_rfl) hS.drew ?_
            refine QL.v hE (runs_plain rfl) (Gives.loadB hE 3 rfl rfl rfl ty22) rfl ?_; clear hE a; intro a hE
            refine QL.v hE (runs_plain rfl) (Gives.loadB hE 4 rfl rfl rfl ty22) rfl ?_; clear hE a; intro a hE
            refine QL.v hE (runs_plain rfl) (Gives.p hE rfl) rfl ?_; clear hE a; intro a hE
            refine QL.v hE (runs_plain rfl) (Gives.p hE rfl) rfl ?_; clear hE a; intro a hE
            refine QL.v hE (runs_plain rfl) (Gives.p hE rfl) rfl ?_; clear hE a; intro a hE
            refine QL.nil ?_; clear hS w; intro w hS
            refine W.ret ?_
            refine finG (fn := Try.f27) (rs := [.tmp 2, .tmp 3, .tmp 4]) (vs := [_, _, _]) hE rfl ⟨rfl, rfl, rfl, trivial⟩ ?_
            obtain rfl := Option.some.inj hr
            replace hS := hS.tail
            replace hS := hS.tail
            replace hS := hS.tail
            replace hS := hS.tail
            replace hS := hS.tail
            replace hS := hS.tail
            replace hS := hS.tail
            replace hS := hS.tail
            replace hS := hS.tail
            exact ⟨a162, c163, a166, c167, s169, rfl, hle170, h164, h168, hS⟩
set_option maxHeartbeats 8000000 in
theorem Fishlaw2MendBests_ok {fu : Nat}  {w : World} {s : Sg} {R : List HP} {x0 : MendGraph} {a0_0 : Option Addr} {c0_0 : Nat} {a0_1 : Option Addr} {c0_1 : Nat} {a0_2 : Option Addr} {c0_2 : Nat} {a0_3 : Option Addr} {c0_3 : Nat} {a0_4 : Option Addr} {c0_4 : Nat} (hS : St w s (R)) (h0_0 : Sl 1 (RI .i64) s a0_0 c0_0 x0.Ready) (h0_1 : Sl 1 (RI .i64) s a0_1 c0_1 x0.Last) (h0_2 : Sl 1 (RI .i64) s a0_2 c0_2 x0.Due) (h0_3 : Sl 3 RMendArc s a0_3 c0_3 x0.Arcs) (h0_4 : Sl 1 RMendChoice s a0_4 c0_4 x0.Choices) {r : Bool} (hr : Fishlaw2MendBests fu x0 = some r) :
    Calls Try.prog 6 [.agg [.slice a0_0 x0.Ready.length c0_0, .slice a0_1 x0.Last.length c0_1, .slice a0_2 x0.Due.length c0_2, .slice a0_3 x0.Arcs.length c0_3, .slice a0_4 x0.Choices.length c0_4].toArray].toArray w (fun e w => e = .returned (.bool r) ∧ St w s (R)) := by
  refine enter Try.func6 rfl rfl rfl fun a hE => ?_
  rw [Fishlaw2MendBests] at hr
  refine W.seq ?_
  refine W.region ?_
  refine WL.box hE hS (runs_plain rfl) rfl rfl rfl ?_; clear hE hS a w; intro b51 a w hE hS
  refine WL.vS hS hE (runs_plain rfl) (Gives.p hE rfl) rfl ?_; clear hE a; intro a hE
  refine WL.nil ?_
  refine W.seq ?_
  refine W.region ?_
  refine WL.vS hS hE (runs_plain rfl) (Gives.loadBA hE 0 rfl rfl ty50) rfl ?_; clear hE a; intro a hE
  obtain ⟨q52, hq53, hr⟩ := bindS hr
  have hc_ := MendBest_ok hS h0_0 h0_1 h0_2 h0_3 h0_4 hq53
  refine WL.fnq hE (hc_) (runs_plain rfl) bd26 rfl rfl rfl ?_
  clear hE hS hc_; rintro e w ⟨a54, c55, a57, c58, s60, rfl, hle61, h56, h59, hS⟩; refine ⟨_, rfl, ?_⟩; clear a; intro a hE
  replace h0_0 := Sl.mono RI.mono hle61 h0_0
  replace h0_1 := Sl.mono RI.mono hle61 h0_1
  replace h0_2 := Sl.mono RI.mono hle61 h0_2
  replace h0_3 := Sl.mono RMendArc.mono hle61 h0_3
  replace h0_4 := Sl.mono RMendChoice.mono hle61 h0_4
  refine WL.vS hS hE (runs_plain rfl) (Gives.p hE rfl) rfl ?_; clear hE a; intro a hE
  refine WL.vS hS hE (runs_plain rfl) (Gives.p hE rfl) rfl ?_; clear hE a; intro a hE
  refine WL.vS hS hE (runs_plain rfl) (Gives.p hE rfl) rfl ?_; clear hE a; intro a hE
  refine WL.vS hS hE (runs_plain rfl) (Gives.p hE rfl) rfl ?_; clear hE a; intro a hE
  refine WL.vS hS hE (runs_plain rfl) (Gives.p hE rfl) rfl ?_; clear hE a; intro a hE
  refine WL.vS hS hE (runs_plain rfl) (Gives.p hE rfl) rfl ?_; clear hE a; intro a hE
  refine WL.vS hS hE (runs_plain rfl) (Gives.p hE rfl) rfl ?_; clear hE a; intro a hE
  refine WL.nil ?_
  refine W.seq ?_
  refine W.seq ?_
  refine W.region ?_
  refine WL.vS hS hE (runs_plain rfl) (Gives.loadBA hE 0 rfl rfl ty50) rfl ?_; clear hE a; intro a hE
  obtain ⟨q62, hq63, hr⟩ := bindS hr
  have hc_ := Fishref2GraphFault_ok hS h0_0 h0_1 h0_2 h0_3 h0_4 hq63
  refine WL.fnq hE (hc_) (runs_plain rfl) bd25 rfl rfl rfl ?_
  clear hE hS hc_; rintro e w ⟨rfl, hS⟩; refine ⟨_, rfl, ?_⟩; clear a; intro a hE
  refine WL.vS hS hE (runs_plain rfl) (Gives.p hE rfl) rfl ?_; clear hE a; intro a hE
  refine WL.nil ?_
  refine W.seq ?_
  refine W.region ?_
  refine WL.vS hS hE (runs_plain rfl) (Gives.p hE rfl) rfl ?_; clear hE a; intro a hE
  refine WL.vS hS hE (runs_plain rfl) (Gives.p hE rfl) rfl ?_; clear hE a; intro a hE
  refine WL.nil ?_
  refine W.cond hE rfl (fun hc64 => ?_) (fun hc64 => ?_)
  · replace hr := iteT hc64 hr
    refine W.seq ?_
    obtain ⟨q66, hq65, hr⟩ := bindS hr
    refine W.cut (fun a w => ∃ (q69 : Bool), q69 = q66 ∧ Rep a 56 [(2, .bool q69)] ∧ St w s60 (pt b51 (.cells #[.slice a0_0 x0.Ready.length c0_0, .slice a0_1 x0.Last.length c0_1, .slice a0_2 x0.Due.length c0_2, .slice a0_3 x0.Arcs.length c0_3, .slice a0_4 x0.Choices.length c0_4] 50 (0, 0)) :: R)) ?_ ?_
    · refine W.gen fun K70 hK70 => ?_
      refine W.region ?_
      obtain ⟨q71, hq72, hq65⟩ := bindS hq65
      have hc_ := Fishlaw2graphs_ok hS  hq72
      refine WL.fnq hE (hc_) (runs_plain rfl) bd23 rfl rfl rfl ?_
      clear hE hS hc_; rintro e w ⟨rfl, hS⟩; refine ⟨_, rfl, ?_⟩; clear a; intro a hE
      refine WL.vS hS hE (runs_plain rfl) (Gives.p hE rfl) rfl ?_; clear hE a; intro a hE
      rcases Bool.eq_false_or_eq_true q71 with hg73 | hg73
      · replace hq65 := iteT hg73 hq65
        refine WL.vS hS hE (runs_if hE rfl rfl rfl hg73) (Gives.p hE rfl) rfl ?_; clear hE a; intro a hE
        refine WL.vS hS hE (runs_if hE rfl rfl rfl hg73) (Gives.p hE rfl) rfl ?_; clear hE a; intro a hE
        refine WL.vS hS hE (runs_if hE rfl rfl rfl hg73) (Gives.p hE rfl) rfl ?_; clear hE a; intro a hE
        refine WL.vS hS hE (runs_plain rfl) (Gives.pickT hE rfl hg73 rfl) rfl ?_; clear hE a; intro a hE
        refine WL.vS hS hE (runs_plain rfl) (Gives.p hE rfl) rfl ?_; clear hE a; intro a hE
        rcases Bool.eq_false_or_eq_true (q52.2.2 == q62) with hg74 | hg74
        · replace hq65 := iteT hg74 hq65
          refine WL.vS hS hE (runs_if hE rfl rfl rfl hg74) (Gives.p hE rfl) rfl ?_; clear hE a; intro a hE
          refine WL.vS hS hE (runs_if hE rfl rfl rfl hg74) (Gives.len hE rfl sl22) rfl ?_; clear hE a; intro a hE
          refine WL.vS hS hE (runs_if hE rfl rfl rfl hg74) (Gives.p hE rfl) rfl ?_; clear hE a; intro a hE
          refine WL.vS hS hE (runs_if hE rfl rfl rfl hg74) (Gives.len hE rfl sl22) rfl ?_; clear hE a; intro a hE
          refine WL.vS hS hE (runs_if hE rfl rfl rfl hg74) (Gives.p hE rfl) rfl ?_; clear hE a; intro a hE
          refine WL.vS hS hE (runs_if hE rfl rfl rfl hg74) (Gives.p hE rfl) rfl ?_; clear hE a; intro a hE
          refine WL.vS hS hE (runs_plain rfl) (Gives.pickT hE rfl hg74 rfl) rfl ?_; clear hE a; intro a hE
          refine WL.vS hS hE (runs_plain rfl) (Gives.p hE rfl) rfl ?_; clear hE a; intro a hE
          refine WL.nil ?_
          subst hK70
          exact ⟨((w64 (((q52.1).length : Int) + ((q52.2.1).length : Int))) == 0), Option.some.inj hq65, hE.pick _ ⟨rfl, trivial⟩, hS⟩
        · replace hq65 := iteF hg74 hq65
          refine WL.no hE (runs_not hE rfl rfl rfl (by rw [hg74]; decide)) rfl ?_; clear hE a; intro a hE
          refine WL.no hE (runs_not hE rfl rfl rfl (by rw [hg74]; decide)) rfl ?_; clear hE a; intro a hE
          refine WL.no hE (runs_not hE rfl rfl rfl (by rw [hg74]; decide)) rfl ?_; clear hE a; intro a hE
          refine WL.no hE (runs_not hE rfl rfl rfl (by rw [hg74]; decide)) rfl ?_; clear hE a; intro a hE
          refine WL.no hE (runs_not hE rfl rfl rfl (by rw [hg74]; decide)) rfl ?_; clear hE a; intro a hE
          refine WL.no hE (runs_not hE rfl rfl rfl (by rw [hg74]; decide)) rfl ?_; clear hE a; intro a hE
          refine WL.vS hS hE (runs_plain rfl) (Gives.pickF hE rfl hg74 rfl) rfl ?_; clear hE a; intro a hE
          refine WL.vS hS hE (runs_plain rfl) (Gives.p hE rfl) rfl ?_; clear hE a; intro a hE
          refine WL.nil ?_
          subst hK70
          exact ⟨false, Option.some.inj hq65, hE.pick _ ⟨rfl, trivial⟩, hS⟩
      · replace hq65 := iteF hg73 hq65
        refine WL.no hE (runs_not hE rfl rfl rfl (by rw [hg73]; decide)) rfl ?_; clear hE a; intro a hE
        refine WL.no hE (runs_not hE rfl rfl rfl (by rw [hg73]; decide)) rfl ?_; clear hE a; intro a hE
        refine WL.no hE (runs_not hE rfl rfl rfl (by rw [hg73]; decide)) rfl ?_; clear hE a; intro a hE
        refine WL.vS hS hE (runs_plain rfl) (Gives.pickF hE rfl hg73 rfl) rfl ?_; clear hE a; intro a hE
        refine WL.vS hS hE (runs_plain rfl) (Gives.p hE rfl) rfl ?_; clear hE a; intro a hE
        refine WL.no hE (runs_not hE rfl rfl rfl (by decide)) rfl ?_; clear hE a; intro a hE
        refine WL.no hE (runs_not hE rfl rfl rfl (by decide)) rfl ?_; clear hE a; intro a hE
        refine WL.no hE (runs_not hE rfl rfl rfl (by decide)) rfl ?_; clear hE a; intro a hE
        refine WL.no hE (runs_not hE rfl rfl rfl (by decide)) rfl ?_; clear hE a; intro a hE
        refine WL.no hE (runs_not hE rfl rfl rfl (by decide)) rfl ?_; clear hE a; intro a hE
        refine WL.no hE (runs_not hE rfl rfl rfl (by decide)) rfl ?_; clear hE a; intro a hE
        refine WL.vS hS hE (runs_plain rfl) (Gives.pickF hE rfl rfl rfl) rfl ?_; clear hE a; intro a hE
        refine WL.vS hS hE (runs_plain rfl) (Gives.p hE rfl) rfl ?_; clear hE a; intro a hE
        refine WL.nil ?_
        subst hK70
        exact ⟨false, Option.some.inj hq65, hE.pick _ ⟨rfl, trivial⟩, hS⟩
    · clear hE hS a w; rintro a w ⟨q69, rfl, hE, hS⟩
      refine W.ret ?_
      refine finG (fn := Try.f6) (rs := [.tmp 2]) (vs := [_]) hE rfl ⟨rfl, trivial⟩ ?_
      obtain rfl := Option.some.inj hr
      replace hS := hS.tail
      exact ⟨rfl, (hS.down hle61)⟩
  · replace hr := iteF hc64 hr
    refine W.skip ?_
    refine W.seq ?_
    refine W.region ?_
    refine WL.vS hS hE (runs_plain rfl) (Gives.loadBA hE 0 rfl rfl ty50) rfl ?_; clear hE a; intro a hE
    obtain ⟨q75, hq76, hr⟩ := bindS hr
    have hc_ := Fishref2BestOf_ok hS h0_0 h0_1 h0_2 h0_3 h0_4 hq76
    refine WL.fnq hE (hc_) (runs_plain rfl) bd27 rfl rfl rfl ?_
    clear hE hS hc_; rintro e w ⟨a77, c78, a80, c81, s83, rfl, hle84, h79, h82, hS⟩; refine ⟨_, rfl, ?_⟩; clear a; intro a hE
    replace h0_0 := Sl.mono RI.mono hle84 h0_0
    replace h0_1 := Sl.mono RI.mono hle84 h0_1
    replace h0_2 := Sl.mono RI.mono hle84 h0_2
    replace h0_3 := Sl.mono RMendArc.mono hle84 h0_3
    replace h0_4 := Sl.mono RMendChoice.mono hle84 h0_4
    replace h56 := Sl.mono RI.mono hle84 h56
    replace h59 := Sl.mono RI.mono hle84 h59
    refine WL.vS hS hE (runs_plain rfl) (Gives.p hE rfl) rfl ?_; clear hE a; intro a hE
    refine WL.vS hS hE (runs_plain rfl) (Gives.p hE rfl) rfl ?_; clear hE a; intro a hE
    refine WL.vS hS hE (runs_plain rfl) (Gives.p hE rfl) rfl ?_; clear hE a; intro a hE
    refine WL.vS hS hE (runs_plain rfl) (Gives.p hE rfl) rfl ?_; clear hE a; intro a hE
    refine WL.vS hS hE (runs_plain rfl) (Gives.p hE rfl) rfl ?_; clear hE a; intro a hE
    refine WL.vS hS hE (runs_plain rfl) (Gives.p hE rfl) rfl ?_; clear hE a; intro a hE
    refine WL.vS hS hE (runs_plain rfl) (Gives.p hE rfl) rfl ?_; clear hE a; intro a hE
    refine WL.nil ?_
    refine W.seq ?_
    obtain ⟨q86, hq85, hr⟩ := bindS hr
    refine W.cut (fun a w => ∃ (q89 : Bool), q89 = q86 ∧ Rep a 56 [(2, .bool q89)] ∧ St w s83 (pt b51 (.cells #[.slice a0_0 x0.Ready.length c0_0, .slice a0_1 x0.Last.length c0_1, .slice a0_2 x0.Due.length c0_2, .slice a0_3 x0.Arcs.length c0_3, .slice a0_4 x0.Choices.length c0_4] 50 (0, 0)) :: R)) ?_ ?_
    · refine W.gen fun K90 hK90 => ?_
      refine W.region ?_
      obtain ⟨q91, hq92, hq85⟩ := bindS hq85
      have hc_ := Fishlaw2graphs_ok hS  hq92
      refine WL.fnq hE (hc_) (runs_plain rfl) bd23 rfl rfl rfl ?_
      clear hE hS hc_; rintro e w ⟨rfl, hS⟩; refine ⟨_, rfl, ?_⟩; clear a; intro a hE
      refine WL.vS hS hE (runs_plain rfl) (Gives.p hE rfl) rfl ?_; clear hE a; intro a hE
      rcases Bool.eq_false_or_eq_true q91 with hg93 | hg93
      · replace hq85 := iteT hg93 hq85
        refine WL.vS hS hE (runs_if hE rfl rfl rfl hg93) (Gives.p hE rfl) rfl ?_; clear hE a; intro a hE
        refine WL.vS hS hE (runs_if hE rfl rfl rfl hg93) (Gives.p hE rfl) rfl ?_; clear hE a; intro a hE
        refine WL.vS hS hE (runs_if hE rfl rfl rfl hg93) (Gives.p hE rfl) rfl ?_; clear hE a; intro a hE
        refine WL.vS hS hE (runs_plain rfl) (Gives.pickT hE rfl hg93 rfl) rfl ?_; clear hE a; intro a hE
        refine WL.vS hS hE (runs_plain rfl) (Gives.p hE rfl) rfl ?_; clear hE a; intro a hE
        rcases Bool.eq_false_or_eq_true (q52.2.2 == q75.2.2) with hg94 | hg94
        · replace hq85 := iteT hg94 hq85
          refine WL.vS hS hE (runs_if hE rfl rfl rfl hg94) (Gives.p hE rfl) rfl ?_; clear hE a; intro a hE
          refine WL.vS hS hE (runs_if hE rfl rfl rfl hg94) (Gives.p hE rfl) rfl ?_; clear hE a; intro a hE
          obtain ⟨q95, hq96, hq85⟩ := bindS hq85
          have hc_ := SlicesEqualLint_ok hS h56 h79 hq96
          refine WL.fnq hE (hc_) (runs_if hE rfl rfl rfl hg94) bd28 rfl rfl rfl ?_
          clear hE hS hc_; rintro e w ⟨rfl, hS⟩; refine ⟨_, rfl, ?_⟩; clear a; intro a hE
          refine WL.vS hS hE (runs_plain rfl) (Gives.pickT hE rfl hg94 rfl) rfl ?_; clear hE a; intro a hE
          refine WL.vS hS hE (runs_plain rfl) (Gives.p hE rfl) rfl ?_; clear hE a; intro a hE
          rcases Bool.eq_false_or_eq_true q95 with hg97 | hg97
          · replace hq85 := iteT hg97 hq85
            refine WL.vS hS hE (runs_if hE rfl rfl rfl hg97) (Gives.p hE rfl) rfl ?_; clear hE a; intro a hE
            refine WL.vS hS hE (runs_if hE rfl rfl rfl hg97) (Gives.p hE rfl) rfl ?_; clear hE a; intro a hE
            obtain ⟨q98, hq99, hq85⟩ := bindS hq85
            have hc_ := SlicesEqualLint_ok hS h59 h82 hq99
            refine WL.fnq hE (hc_) (runs_if hE rfl rfl rfl hg97) bd28 rfl rfl rfl ?_
            clear hE hS hc_; rintro e w ⟨rfl, hS⟩; refine ⟨_, rfl, ?_⟩; clear a; intro a hE
            refine WL.vS hS hE (runs_plain rfl) (Gives.pickT hE rfl hg97 rfl) rfl ?_; clear hE a; intro a hE
            refine WL.vS hS hE (runs_plain rfl) (Gives.p hE rfl) rfl ?_; clear hE a; intro a hE
            refine WL.nil ?_
            subst hK90
            exact ⟨q98, Option.some.inj hq85, hE.pick _ ⟨rfl, trivial⟩, hS⟩
          · replace hq85 := iteF hg97 hq85
            refine WL.no hE (runs_not hE rfl rfl rfl (by rw [hg97]; decide)) rfl ?_; clear hE a; intro a hE
            refine WL.no hE (runs_not hE rfl rfl rfl (by rw [hg97]; decide)) rfl ?_; clear hE a; intro a hE
            refine WL.no hE (runs_not hE rfl rfl rfl (by rw [hg97]; decide)) rfl ?_; clear hE a; intro a hE
            refine WL.vS hS hE (runs_plain rfl) (Gives.pickF hE rfl hg97 rfl) rfl ?_; clear hE a; intro a hE
            refine WL.vS hS hE (runs_plain rfl) (Gives.p hE rfl) rfl ?_; clear hE a; intro a hE
            refine WL.nil ?_
            subst hK90
            exact ⟨false, Option.some.inj hq85, hE.pick _ ⟨rfl, trivial⟩, hS⟩
        · replace hq85 := iteF hg94 hq85
          refine WL.no hE (runs_not hE rfl rfl rfl (by rw [hg94]; decide)) rfl ?_; clear hE a; intro a hE
          refine WL.no hE (runs_not hE rfl rfl rfl (by rw [hg94]; decide)) rfl ?_; clear hE a; intro a hE
          refine WL.no hE (runs_not hE rfl rfl rfl (by rw [hg94]; decide)) rfl ?_; clear hE a; intro a hE
          refine WL.vS hS hE (runs_plain rfl) (Gives.pickF hE rfl hg94 rfl) rfl ?_; clear hE a; intro a hE
          refine WL.vS hS hE (runs_plain rfl) (Gives.p hE rfl) rfl ?_; clear hE a; intro a hE
          refine WL.no hE (runs_not hE rfl rfl rfl (by decide)) rfl ?_; clear hE a; intro a hE
          refine WL.no hE (runs_not hE rfl rfl rfl (by decide)) rfl ?_; clear hE a; intro a hE
          refine WL.no hE (runs_not hE rfl rfl rfl (by decide)) rfl ?_; clear hE a; intro a hE
          refine WL.vS hS hE (runs_plain rfl) (Gives.pickF hE rfl rfl rfl) rfl ?_; clear hE a; intro a hE
          refine WL.vS hS hE (runs_plain rfl) (Gives.p hE rfl) rfl ?_; clear hE a; intro a hE
          refine WL.nil ?_
          subst hK90
          exact ⟨false, Option.some.inj hq85, hE.pick _ ⟨rfl, trivial⟩, hS⟩
      · replace hq85 := iteF hg93 hq85
        refine WL.no hE (runs_not hE rfl rfl rfl (by rw [hg93]; decide)) rfl ?_; clear hE a; intro a hE
        refine WL.no hE (runs_not hE rfl rfl rfl (by rw [hg93]; decide)) rfl ?_; clear hE a; intro a hE
        refine WL.no hE (runs_not hE rfl rfl rfl (by rw [hg93]; decide)) rfl ?_; clear hE a; intro a hE
        refine WL.vS hS hE (runs_plain rfl) (Gives.pickF hE rfl hg93 rfl) rfl ?_; clear hE a; intro a hE
        refine WL.vS hS hE (runs_plain rfl) (Gives.p hE rfl) rfl ?_; clear hE a; intro a hE
        refine WL.no hE (runs_not hE rfl rfl rfl (by decide)) rfl ?_; clear hE a; intro a hE
        refine WL.no hE (runs_not hE rfl rfl rfl (by decide)) rfl ?_; clear hE a; intro a hE
        refine WL.no hE (runs_not hE rfl rfl rfl (by decide)) rfl ?_; clear hE a; intro a hE
        refine WL.vS hS hE (runs_plain rfl) (Gives.pickF hE rfl rfl rfl) rfl ?_; clear hE a; intro a hE
        refine WL.vS hS hE (runs_plain rfl) (Gives.p hE rfl) rfl ?_; clear hE a; intro a hE
        refine WL.no hE (runs_not hE rfl rfl rfl (by decide)) rfl ?_; clear hE a; intro a hE
        refine WL.no hE (runs_not hE rfl rfl rfl (by decide)) rfl ?_; clear hE a; intro a hE
        refine WL.no hE (runs_not hE rfl rfl rfl (by decide)) rfl ?_; clear hE a; intro a hE
        refine WL.vS hS hE (runs_plain rfl) (Gives.pickF hE rfl rfl rfl) rfl ?_; clear hE a; intro a hE
        refine WL.vS hS hE (runs_plain rfl) (Gives.p hE rfl) rfl ?_; clear hE a; intro a hE
        refine WL.nil ?_
        subst hK90
        exact ⟨false, Option.some.inj hq85, hE.pick _ ⟨rfl, trivial⟩, hS⟩
    · clear hE hS a w; rintro a w ⟨q89, rfl, hE, hS⟩
      refine W.ret ?_
      refine finG (fn := Try.f6) (rs := [.tmp 2]) (vs := [_]) hE rfl ⟨rfl, trivial⟩ ?_
      obtain rfl := Option.some.inj hr
      replace hS := hS.tail
      exact ⟨rfl, (hS.down (Sg.Le.trans hle61 hle84))⟩
end Go.Proofs.Ytfioafdipipcaaa
