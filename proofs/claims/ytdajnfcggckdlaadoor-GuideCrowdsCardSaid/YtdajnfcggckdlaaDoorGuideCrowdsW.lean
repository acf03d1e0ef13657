/- The walks of the functions that GuideCrowds reaches: each call comes to what its mirror says. The conditions are those of each contract. -/
import Derived.Test.YtdajnfcggckdlaaDoorProg
import Derived.Test.YtdajnfcggckdlaaDoorGuideCrowdsM
import Derived.Test.YtdajnfcggckdlaaDoorFpAllT
import Derived.Test.YtdajnfcggckdlaaDoorGuideCrowdsS
import Derived.Test.YtdajnfcggckdlaaDoorFpMapS
import Derived.Test.YtdajnfcggckdlaaDoorFpFld
import Derived.Test.YtdajnfcggckdlaaDoorFpMapG
import Derived.Test.YtdajnfcggckdlaaDoorFpMapV
import Derived.Test.YtdajnfcggckdlaaDoorFpMaps
import Derived.Test.YtdajnfcggckdlaaDoorFpOrd
import Derived.Test.YtdajnfcggckdlaaDoorFpRf
import Derived.Test.YtdajnfcggckdlaaDoorFpRng
import Derived.Test.YtdajnfcggckdlaaDoorGuideCrowdsW3
set_option maxRecDepth 10000
namespace Go.Proofs.YtdajnfcggckdlaaDoor
open Go Go.Fp
set_option maxHeartbeats 8000000 in
theorem Fishlaw2GuideCrowds_ok {fu : Nat}  {w : World} {s : Sg} {R : List HP} {x0 : ApiDay} {a0_0 : Option Addr} {c0_0 : Nat} {a0_1 : Option Addr} {c0_1 : Nat} {x1 : List GuideJourney} {a1 : Option Addr} {c1 : Nat} (hS : St w s (R)) (hTab : TabS Tryd.prog s) (h0_0 : Sl 4 RApiTrain s a0_0 c0_0 x0.Trains) (h0_1 : Sl 1 (RL 1 (RI .i64)) s a0_1 c0_1 x0.Turns) (h1 : Sl 1 RGuideJourney s a1 c1 x1) {r : Bool} (hr : Fishlaw2GuideCrowds fu x0 x1 = some r) :
    Calls Tryd.prog 4 [.agg [.slice a0_0 x0.Trains.length c0_0, .slice a0_1 x0.Turns.length c0_1].toArray, .slice a1 x1.length c1].toArray w (fun e w => e = .returned (.bool r) ∧ St w s (R)) := by
  refine enter Tryd.func4 rfl rfl rfl fun a hE => ?_
  rw [Fishlaw2GuideCrowds] at hr
  refine W.seq ?_
  refine W.region ?_
  refine WL.box hE hS (runs_plain rfl) rfl rfl rfl ?_; clear hE hS a w; intro b51 a w hE hS
  refine WL.vS hS hE (runs_plain rfl) (Gives.p hE rfl) rfl ?_; clear hE a; intro a hE
  refine WL.nil ?_
  refine W.seq ?_
  refine W.region ?_
  refine WL.vS hS hE (runs_plain rfl) (Gives.loadBA hE 0 rfl rfl ty25) rfl ?_; clear hE a; intro a hE
  refine WL.vS hS hE (runs_plain rfl) (Gives.p hE rfl) rfl ?_; clear hE a; intro a hE
  obtain ⟨q52, hq53, hr⟩ := bindS hr
  have hc_ := GuideCrowd_ok hS (TabS.mono (Sg.Le.refl _) hTab) h0_0 h0_1 h1 hq53
  refine WL.fnq hE (hc_) (runs_plain rfl) bd10 rfl rfl rfl ?_
  clear hE hS hc_; rintro e w ⟨a54, c55, s57, rfl, hle58, h56, hS⟩; refine ⟨_, rfl, ?_⟩; clear a; intro a hE
  replace h0_0 := Sl.mono RApiTrain.mono hle58 h0_0
  replace h0_1 := Sl.mono (RL.mono RI.mono) hle58 h0_1
  replace h1 := Sl.mono RGuideJourney.mono hle58 h1
  refine WL.vS hS hE (runs_plain rfl) (Gives.p hE rfl) rfl ?_; clear hE a; intro a hE
  refine WL.vS hS hE (runs_plain rfl) (Gives.p hE rfl) rfl ?_; clear hE a; intro a hE
  refine WL.vS hS hE (runs_plain rfl) (Gives.p hE rfl) rfl ?_; clear hE a; intro a hE
  refine WL.vS hS hE (runs_plain rfl) (Gives.p hE rfl) rfl ?_; clear hE a; intro a hE
  refine WL.vS hS hE (runs_plain rfl) (Gives.p hE rfl) rfl ?_; clear hE a; intro a hE
  refine WL.nil ?_
  refine W.seq ?_
  refine W.region ?_
  refine WL.vS hS hE (runs_plain rfl) (Gives.loadBA hE 0 rfl rfl ty25) rfl ?_; clear hE a; intro a hE
  obtain ⟨q59, hq60, hr⟩ := bindS hr
  have hc_ := Fishref2GuideFault_ok hS h0_0 h0_1 hq60
  refine WL.fnq hE (hc_) (runs_plain rfl) bd5 rfl rfl rfl ?_
  clear hE hS hc_; rintro e w ⟨rfl, hS⟩; refine ⟨_, rfl, ?_⟩; clear a; intro a hE
  refine WL.vS hS hE (runs_plain rfl) (Gives.p hE rfl) rfl ?_; clear hE a; intro a hE
  refine WL.nil ?_
  refine W.seq ?_
  refine W.seq ?_
  obtain ⟨q62, hq61, hr⟩ := bndS hr
  refine W.cut (fun a w => ∃ (q65 : Bool), q65 = q62 ∧ Rep a 136 [(1, .slice a1 x1.length c1), (2, .pointer (some ⟨b51, 0, none⟩)), (5, .slice a54 q52.1.length c55), (6, .int .i64 q52.2), (7, .int .i64 q59), (32, .bool q65)] ∧ St w s57 (pt b51 (.cells #[.slice a0_0 x0.Trains.length c0_0, .slice a0_1 x0.Turns.length c0_1] 25 (0, 0)) :: R)) ?_ ?_
  · refine W.gen fun K66 hK66 => ?_
    refine W.region ?_
    refine WL.vS hS hE (runs_plain rfl) (Gives.p hE rfl) rfl ?_; clear hE a; intro a hE
    refine WL.vS hS hE (runs_plain rfl) (Gives.p hE rfl) rfl ?_; clear hE a; intro a hE
    refine WL.vS hS hE (runs_plain rfl) (Gives.p hE rfl) rfl ?_; clear hE a; intro a hE
    rcases Bool.eq_false_or_eq_true (q59 == 0) with hg67 | hg67
    · replace hq61 := iteT hg67 hq61
      refine WL.vS hS hE (runs_if hE rfl rfl rfl hg67) (Gives.p hE rfl) rfl ?_; clear hE a; intro a hE
      refine WL.vS hS hE (runs_if hE rfl rfl rfl hg67) (Gives.len hE rfl sl35) rfl ?_; clear hE a; intro a hE
      refine WL.vS hS hE (runs_if hE rfl rfl rfl hg67) (Gives.p hE rfl) rfl ?_; clear hE a; intro a hE
      refine WL.vS hS hE (runs_plain rfl) (Gives.pickT hE rfl hg67 rfl) rfl ?_; clear hE a; intro a hE
      refine WL.nil ?_
      subst hK66
      exact ⟨decide (((x1).length : Int) > 100), hq61, hE.pick _ ⟨rfl, rfl, rfl, rfl, rfl, rfl, trivial⟩, hS⟩
    · replace hq61 := iteF hg67 hq61
      refine WL.no hE (runs_not hE rfl rfl rfl (by rw [hg67]; decide)) rfl ?_; clear hE a; intro a hE
      refine WL.no hE (runs_not hE rfl rfl rfl (by rw [hg67]; decide)) rfl ?_; clear hE a; intro a hE
      refine WL.no hE (runs_not hE rfl rfl rfl (by rw [hg67]; decide)) rfl ?_; clear hE a; intro a hE
      refine WL.vS hS hE (runs_plain rfl) (Gives.pickF hE rfl hg67 rfl) rfl ?_; clear hE a; intro a hE
      refine WL.nil ?_
      subst hK66
      exact ⟨false, hq61, hE.pick _ ⟨rfl, rfl, rfl, rfl, rfl, rfl, trivial⟩, hS⟩
  · clear hE hS a w; rintro a w ⟨q65, rfl, hE, hS⟩
    obtain ⟨q69, hq68, hr⟩ := bndS hr
    refine W.cut (fun a w => ∃ (q72 : Int), q72 = q69 ∧ Rep a 136 [(1, .slice a1 x1.length c1), (2, .pointer (some ⟨b51, 0, none⟩)), (5, .slice a54 q52.1.length c55), (6, .int .i64 q52.2), (7, .int .i64 q72)] ∧ St w s57 (pt b51 (.cells #[.slice a0_0 x0.Trains.length c0_0, .slice a0_1 x0.Turns.length c0_1] 25 (0, 0)) :: R)) ?_ ?_
    · refine W.gen fun K73 hK73 => ?_
      refine W.cond hE rfl (fun hc74 => ?_) (fun hc74 => ?_)
      · replace hq68 := iteT hc74 hq68
        refine W.region ?_
        refine WL.vS hS hE (runs_plain rfl) (Gives.p hE rfl) rfl ?_; clear hE a; intro a hE
        refine WL.nil ?_
        subst hK73
        exact ⟨4, hq68, hE.pick _ ⟨rfl, rfl, rfl, rfl, rfl, trivial⟩, hS⟩
      · replace hq68 := iteF hc74 hq68
        refine W.skip ?_
        subst hK73
        exact ⟨q59, hq68, hE.pick _ ⟨rfl, rfl, rfl, rfl, rfl, trivial⟩, hS⟩
    · clear hE hS a w; rintro a w ⟨q72, rfl, hE, hS⟩
      refine W.seq ?_
      refine W.seq ?_
      refine W.region ?_
      refine WL.vS hS hE (runs_plain rfl) (Gives.p hE rfl) rfl ?_; clear hE a; intro a hE
      refine WL.vS hS hE (runs_plain rfl) (Gives.len hE rfl sl35) rfl ?_; clear hE a; intro a hE
      refine WL.vS hS hE (runs_plain rfl) (Gives.p hE rfl) rfl ?_; clear hE a; intro a hE
      refine WL.nil ?_
      obtain ⟨q76, hq75, hr⟩ := bindS hr
      refine W.cut (fun a w => ∃ (q86 : Int), q86 = q76 ∧ Rep a 136 [(1, .slice a1 x1.length c1), (2, .pointer (some ⟨b51, 0, none⟩)), (5, .slice a54 q52.1.length c55), (6, .int .i64 q52.2), (7, .int .i64 q86)] ∧ St w s57 (pt b51 (.cells #[.slice a0_0 x0.Trains.length c0_0, .slice a0_1 x0.Turns.length c0_1] 25 (0, 0)) :: R)) ?_ ?_
      · refine W.block ?_
        refine W.loop (fun m a w => ∃ (rest79 : List GuideJourney) (k77 : Nat), ∃ (q86 : Int), rest79.length = m ∧ x1.drop k77 = rest79 ∧ Fishlaw2GuideCrowds.loop1 x0 rest79 q86 = some q76 ∧ Rep a 136 [(1, .slice a1 x1.length c1), (2, .pointer (some ⟨b51, 0, none⟩)), (5, .slice a54 q52.1.length c55), (6, .int .i64 q52.2), (7, .int .i64 q86), (33, .slice a1 x1.length c1), (34, .int .i64 ((x1).length : Int)), (35, .int .i64 ((k77 : Nat) : Int))] ∧ St w s57 (pt b51 (.cells #[.slice a0_0 x0.Trains.length c0_0, .slice a0_1 x0.Turns.length c0_1] 25 (0, 0)) :: R)) (m := x1.length) ⟨x1, 0, q72, rfl, rfl, hq75, hE.pick _ ⟨rfl, rfl, rfl, rfl, rfl, rfl, rfl, rfl, trivial⟩, hS⟩ ?_
        clear hE hS a w hq75; rintro m83 a w ⟨rest79, k77, q86, rfl, hd80, hq75, hE, hS⟩
        refine W.gen fun K87 hK87 => ?_
        rcases rest79 with _ | ⟨x78, rest79⟩
        · have hlt81 := drop_nil hd80
          refine W.seq ?_
          refine W.region ?_
          refine WL.vS hS hE (runs_plain rfl) (Gives.p hE rfl) rfl ?_; clear hE a; intro a hE
          refine WL.nil ?_
          refine W.seq ?_
          refine W.condF hE rfl (decide_eq_false (by omega)) ?_
          subst hK87
          refine W.exit rfl ?_
          exact ⟨q86, Option.some.inj hq75, hE.pick _ ⟨rfl, rfl, rfl, rfl, rfl, trivial⟩, hS⟩
        · obtain ⟨hlt81, hx82, hd80⟩ := drop_cons hd80
          rw [Fishlaw2GuideCrowds.loop1] at hq75
          refine W.seq ?_
          refine W.region ?_
          refine WL.vS hS hE (runs_plain rfl) (Gives.p hE rfl) rfl ?_; clear hE a; intro a hE
          refine WL.nil ?_
          refine W.seq ?_
          refine W.condT hE rfl (decide_eq_true (by omega)) ?_
          refine W.skip ?_
          refine W.seq ?_
          refine W.block ?_
          refine W.seq ?_
          refine W.region ?_
          obtain ⟨cs88, hl89, hR90, hat91⟩ := h1.at hx82
          obtain ⟨a92, c93, rfl, h94⟩ := hR90
          refine WL.vS hS hE (runs_plain rfl) (Gives.idx hE k77 rfl rfl sl35 rfl hlt81 (h1.aok hlt81)) rfl ?_; clear hE a; intro a hE
          refine WL.vS hS hE (runs_plain rfl) (Gives.loadA hE rfl (fun w h => hat91 w _ h) ty28) rfl ?_; clear hE a; intro a hE
          refine WL.alloc hE hS (runs_plain rfl) zr28 rfl ?_; clear hE hS a w; intro b95 a w hE hS
          refine WL.storeI hE hS 0 rfl [.slice a92 x78.Rides.length c93] (runs_plain rfl) rfl rfl rfl ty28 rfl rfl rfl rfl ?_; clear hE hS a w; intro a w hE hS
          refine WL.nil ?_
          refine W.seq ?_
          refine W.region ?_
          refine WL.vS hS hE (runs_plain rfl) (Gives.p hE rfl) rfl ?_; clear hE a; intro a hE
          refine WL.vS hS hE (runs_plain rfl) (Gives.p hE rfl) rfl ?_; clear hE a; intro a hE
          refine WL.nil ?_
          obtain ⟨q97, hq96, hq75⟩ := bindS hq75
          refine W.cut (fun a w => ∃ (q100 : Int), q100 = q97 ∧ Rep a 136 [(1, .slice a1 x1.length c1), (2, .pointer (some ⟨b51, 0, none⟩)), (5, .slice a54 q52.1.length c55), (6, .int .i64 q52.2), (7, .int .i64 q100), (33, .slice a1 x1.length c1), (34, .int .i64 ((x1).length : Int)), (35, .int .i64 ((k77 : Nat) : Int))] ∧ St w s57 (pt b95 (.cells #[.slice a92 x78.Rides.length c93] 28 (0, 0)) :: pt b51 (.cells #[.slice a0_0 x0.Trains.length c0_0, .slice a0_1 x0.Turns.length c0_1] 25 (0, 0)) :: R)) ?_ ?_
          · refine W.gen fun K101 hK101 => ?_
            refine W.cond hE rfl (fun hc102 => ?_) (fun hc102 => ?_)
            · replace hq96 := iteT hc102 hq96
              refine W.region ?_
              refine WL.vS hS hE (runs_plain rfl) (Gives.loadBA hE 1 rfl rfl ty25) rfl ?_; clear hE a; intro a hE
              refine WL.vS hS hE (runs_plain rfl) (Gives.loadBA hE 0 rfl rfl ty28) rfl ?_; clear hE a; intro a hE
              obtain ⟨q103, hq104, hq96⟩ := bindS hq96
              have hc_ := Fishref2JourneyFault_ok hS h0_0 h0_1 h94 hq104
              refine WL.fnq hE (hc_) (runs_plain rfl) bd8 rfl rfl rfl ?_
              clear hE hS hc_; rintro e w ⟨rfl, hS⟩; refine ⟨_, rfl, ?_⟩; clear a; intro a hE
              refine WL.vS hS hE (runs_plain rfl) (Gives.p hE rfl) rfl ?_; clear hE a; intro a hE
              refine WL.nil ?_
              subst hK101
              exact ⟨q103, Option.some.inj hq96, hE.pick _ ⟨rfl, rfl, rfl, rfl, rfl, rfl, rfl, rfl, trivial⟩, hS⟩
            · replace hq96 := iteF hc102 hq96
              refine W.skip ?_
              subst hK101
              exact ⟨q86, Option.some.inj hq96, hE.pick _ ⟨rfl, rfl, rfl, rfl, rfl, rfl, rfl, rfl, trivial⟩, hS⟩
          · clear hE hS a w; rintro a w ⟨q100, rfl, hE, hS⟩
            refine W.region ?_
            refine WL.vS hS hE (runs_plain rfl) (Gives.inc hE rfl (by have := h1.small; omega)) rfl ?_; clear hE a; intro a hE
            refine WL.vS hS hE (runs_plain rfl) (Gives.p hE rfl) rfl ?_; clear hE a; intro a hE
            refine WL.nil ?_
            replace hS := hS.tail
            subst hK87
            exact ⟨rest79.length, Nat.lt_succ_self _, rest79, k77 + 1, q100, rfl, hd80, hq75, hE.pick _ ⟨rfl, rfl, rfl, rfl, rfl, rfl, rfl, rfl, trivial⟩, hS⟩
      · clear hE hS a w; rintro a w ⟨q86, rfl, hE, hS⟩
        refine W.seq ?_
        refine W.seq ?_
        refine W.region ?_
        refine WL.vS hS hE (runs_plain rfl) (Gives.p hE rfl) rfl ?_; clear hE a; intro a hE
        refine WL.vS hS hE (runs_plain rfl) (Gives.p hE rfl) rfl ?_; clear hE a; intro a hE
        refine WL.nil ?_
        refine W.cond hE rfl (fun hc105 => ?_) (fun hc105 => ?_)
        · replace hr := iteT hc105 hr
          refine W.seq ?_
          obtain ⟨q107, hq106, hr⟩ := bindS hr
          refine W.cut (fun a w => ∃ (q110 : Bool), q110 = q107 ∧ Rep a 136 [(4, .bool q110)] ∧ St w s57 (pt b51 (.cells #[.slice a0_0 x0.Trains.length c0_0, .slice a0_1 x0.Turns.length c0_1] 25 (0, 0)) :: R)) ?_ ?_
          · refine W.gen fun K111 hK111 => ?_
            refine W.region ?_
            obtain ⟨q112, hq113, hq106⟩ := bindS hq106
            have hc_ := Fishlaw2guides_ok hS (TabS.mono hle58 hTab) hq113
            refine WL.fnq hE (hc_) (runs_plain rfl) bd6 rfl rfl rfl ?_
            clear hE hS hc_; rintro e w ⟨rfl, hS⟩; refine ⟨_, rfl, ?_⟩; clear a; intro a hE
            refine WL.vS hS hE (runs_plain rfl) (Gives.p hE rfl) rfl ?_; clear hE a; intro a hE
            rcases Bool.eq_false_or_eq_true q112 with hg114 | hg114
            · replace hq106 := iteT hg114 hq106
              refine WL.vS hS hE (runs_if hE rfl rfl rfl hg114) (Gives.p hE rfl) rfl ?_; clear hE a; intro a hE
              refine WL.vS hS hE (runs_if hE rfl rfl rfl hg114) (Gives.p hE rfl) rfl ?_; clear hE a; intro a hE
              refine WL.vS hS hE (runs_if hE rfl rfl rfl hg114) (Gives.p hE rfl) rfl ?_; clear hE a; intro a hE
              refine WL.vS hS hE (runs_plain rfl) (Gives.pickT hE rfl hg114 rfl) rfl ?_; clear hE a; intro a hE
              refine WL.vS hS hE (runs_plain rfl) (Gives.p hE rfl) rfl ?_; clear hE a; intro a hE
              rcases Bool.eq_false_or_eq_true (q52.2 == q86) with hg115 | hg115
              · replace hq106 := iteT hg115 hq106
                refine WL.vS hS hE (runs_if hE rfl rfl rfl hg115) (Gives.p hE rfl) rfl ?_; clear hE a; intro a hE
                refine WL.vS hS hE (runs_if hE rfl rfl rfl hg115) (Gives.len hE rfl sl23) rfl ?_; clear hE a; intro a hE
                refine WL.vS hS hE (runs_if hE rfl rfl rfl hg115) (Gives.p hE rfl) rfl ?_; clear hE a; intro a hE
                refine WL.vS hS hE (runs_plain rfl) (Gives.pickT hE rfl hg115 rfl) rfl ?_; clear hE a; intro a hE
                refine WL.vS hS hE (runs_plain rfl) (Gives.p hE rfl) rfl ?_; clear hE a; intro a hE
                refine WL.nil ?_
                subst hK111
                exact ⟨(((q52.1).length : Int) == 0), Option.some.inj hq106, hE.pick _ ⟨rfl, trivial⟩, hS⟩
              · replace hq106 := iteF hg115 hq106
                refine WL.no hE (runs_not hE rfl rfl rfl (by rw [hg115]; decide)) rfl ?_; clear hE a; intro a hE
                refine WL.no hE (runs_not hE rfl rfl rfl (by rw [hg115]; decide)) rfl ?_; clear hE a; intro a hE
                refine WL.no hE (runs_not hE rfl rfl rfl (by rw [hg115]; decide)) rfl ?_; clear hE a; intro a hE
                refine WL.vS hS hE (runs_plain rfl) (Gives.pickF hE rfl hg115 rfl) rfl ?_; clear hE a; intro a hE
                refine WL.vS hS hE (runs_plain rfl) (Gives.p hE rfl) rfl ?_; clear hE a; intro a hE
                refine WL.nil ?_
                subst hK111
                exact ⟨false, Option.some.inj hq106, hE.pick _ ⟨rfl, trivial⟩, hS⟩
            · replace hq106 := iteF hg114 hq106
              refine WL.no hE (runs_not hE rfl rfl rfl (by rw [hg114]; decide)) rfl ?_; clear hE a; intro a hE
              refine WL.no hE (runs_not hE rfl rfl rfl (by rw [hg114]; decide)) rfl ?_; clear hE a; intro a hE
              refine WL.no hE (runs_not hE rfl rfl rfl (by rw [hg114]; decide)) rfl ?_; clear hE a; intro a hE
              refine WL.vS hS hE (runs_plain rfl) (Gives.pickF hE rfl hg114 rfl) rfl ?_; clear hE a; intro a hE
              refine WL.vS hS hE (runs_plain rfl) (Gives.p hE rfl) rfl ?_; clear hE a; intro a hE
              refine WL.no hE (runs_not hE rfl rfl rfl (by decide)) rfl ?_; clear hE a; intro a hE
              refine WL.no hE (runs_not hE rfl rfl rfl (by decide)) rfl ?_; clear hE a; intro a hE
              refine WL.no hE (runs_not hE rfl rfl rfl (by decide)) rfl ?_; clear hE a; intro a hE
              refine WL.vS hS hE (runs_plain rfl) (Gives.pickF hE rfl rfl rfl) rfl ?_; clear hE a; intro a hE
              refine WL.vS hS hE (runs_plain rfl) (Gives.p hE rfl) rfl ?_; clear hE a; intro a hE
              refine WL.nil ?_
              subst hK111
              exact ⟨false, Option.some.inj hq106, hE.pick _ ⟨rfl, trivial⟩, hS⟩
          · clear hE hS a w; rintro a w ⟨q110, rfl, hE, hS⟩
            refine W.ret ?_
            refine finG (fn := Tryd.f4) (rs := [.tmp 4]) (vs := [_]) hE rfl ⟨rfl, trivial⟩ ?_
            obtain rfl := Option.some.inj hr
            replace hS := hS.tail
            exact ⟨rfl, (hS.down hle58)⟩
        · replace hr := iteF hc105 hr
          refine W.skip ?_
          refine W.seq ?_
          refine W.seq ?_
          obtain ⟨q117, hq116, hr⟩ := bindS hr
          refine W.cut (fun a w => ∃ (q120 : Bool), q120 = q117 ∧ Rep a 136 [(1, .slice a1 x1.length c1), (2, .pointer (some ⟨b51, 0, none⟩)), (5, .slice a54 q52.1.length c55), (71, .bool q120)] ∧ St w s57 (pt b51 (.cells #[.slice a0_0 x0.Trains.length c0_0, .slice a0_1 x0.Turns.length c0_1] 25 (0, 0)) :: R)) ?_ ?_
          · refine W.gen fun K121 hK121 => ?_
            refine W.region ?_
            obtain ⟨q122, hq123, hq116⟩ := bindS hq116
            have hc_ := Fishlaw2guides_ok hS (TabS.mono hle58 hTab) hq123
            refine WL.fnq hE (hc_) (runs_plain rfl) bd6 rfl rfl rfl ?_
            clear hE hS hc_; rintro e w ⟨rfl, hS⟩; refine ⟨_, rfl, ?_⟩; clear a; intro a hE
            refine WL.vS hS hE (runs_plain rfl) (Gives.p hE rfl) rfl ?_; clear hE a; intro a hE
            refine WL.vS hS hE (runs_plain rfl) (Gives.p hE rfl) rfl ?_; clear hE a; intro a hE
            rcases Bool.eq_false_or_eq_true !q122 with hg124 | hg124
            · replace hq116 := iteT hg124 hq116
              refine WL.no hE (runs_not hE rfl rfl rfl (by rw [hg124]; decide)) rfl ?_; clear hE a; intro a hE
              refine WL.no hE (runs_not hE rfl rfl rfl (by rw [hg124]; decide)) rfl ?_; clear hE a; intro a hE
              refine WL.vS hS hE (runs_plain rfl) (Gives.pickT hE rfl hg124 rfl) rfl ?_; clear hE a; intro a hE
              refine WL.vS hS hE (runs_plain rfl) (Gives.p hE rfl) rfl ?_; clear hE a; intro a hE
              refine WL.no hE (runs_not hE rfl rfl rfl (by decide)) rfl ?_; clear hE a; intro a hE
              refine WL.no hE (runs_not hE rfl rfl rfl (by decide)) rfl ?_; clear hE a; intro a hE
              refine WL.no hE (runs_not hE rfl rfl rfl (by decide)) rfl ?_; clear hE a; intro a hE
              refine WL.no hE (runs_not hE rfl rfl rfl (by decide)) rfl ?_; clear hE a; intro a hE
              refine WL.no hE (runs_not hE rfl rfl rfl (by decide)) rfl ?_; clear hE a; intro a hE
              refine WL.no hE (runs_not hE rfl rfl rfl (by decide)) rfl ?_; clear hE a; intro a hE
              refine WL.vS hS hE (runs_plain rfl) (Gives.pickT hE rfl rfl rfl) rfl ?_; clear hE a; intro a hE
              refine WL.nil ?_
              subst hK121
              exact ⟨true, Option.some.inj hq116, hE.pick _ ⟨rfl, rfl, rfl, rfl, trivial⟩, hS⟩
            · replace hq116 := iteF hg124 hq116
              refine WL.vS hS hE (runs_if hE rfl rfl rfl hg124) (Gives.p hE rfl) rfl ?_; clear hE a; intro a hE
              refine WL.vS hS hE (runs_if hE rfl rfl rfl hg124) (Gives.p hE rfl) rfl ?_; clear hE a; intro a hE
              refine WL.vS hS hE (runs_plain rfl) (Gives.pickF hE rfl hg124 rfl) rfl ?_; clear hE a; intro a hE
              refine WL.vS hS hE (runs_plain rfl) (Gives.p hE rfl) rfl ?_; clear hE a; intro a hE
              rcases Bool.eq_false_or_eq_true (q52.2 != 0) with hg125 | hg125
              · replace hq116 := iteT hg125 hq116
                refine WL.no hE (runs_not hE rfl rfl rfl (by rw [hg125]; decide)) rfl ?_; clear hE a; intro a hE
                refine WL.no hE (runs_not hE rfl rfl rfl (by rw [hg125]; decide)) rfl ?_; clear hE a; intro a hE
                refine WL.no hE (runs_not hE rfl rfl rfl (by rw [hg125]; decide)) rfl ?_; clear hE a; intro a hE
                refine WL.no hE (runs_not hE rfl rfl rfl (by rw [hg125]; decide)) rfl ?_; clear hE a; intro a hE
                refine WL.no hE (runs_not hE rfl rfl rfl (by rw [hg125]; decide)) rfl ?_; clear hE a; intro a hE
                refine WL.no hE (runs_not hE rfl rfl rfl (by rw [hg125]; decide)) rfl ?_; clear hE a; intro a hE
                refine WL.vS hS hE (runs_plain rfl) (Gives.pickT hE rfl hg125 rfl) rfl ?_; clear hE a; intro a hE
                refine WL.nil ?_
                subst hK121
                exact ⟨true, Option.some.inj hq116, hE.pick _ ⟨rfl, rfl, rfl, rfl, trivial⟩, hS⟩
              · replace hq116 := iteF hg125 hq116
                refine WL.vS hS hE (runs_if hE rfl rfl rfl hg125) (Gives.p hE rfl) rfl ?_; clear hE a; intro a hE
                refine WL.vS hS hE (runs_if hE rfl rfl rfl hg125) (Gives.len hE rfl sl23) rfl ?_; clear hE a; intro a hE
                refine WL.vS hS hE (runs_if hE rfl rfl rfl hg125) (Gives.fld hE rfl fl25_0) rfl ?_; clear hE a; intro a hE
                refine WL.vS hS hE (runs_if hE rfl rfl rfl hg125) (Gives.loadB hE 0 rfl rfl rfl ty22) rfl ?_; clear hE a; intro a hE
                refine WL.vS hS hE (runs_if hE rfl rfl rfl hg125) (Gives.len hE rfl sl22) rfl ?_; clear hE a; intro a hE
                refine WL.vS hS hE (runs_if hE rfl rfl rfl hg125) (Gives.p hE rfl) rfl ?_; clear hE a; intro a hE
                refine WL.vS hS hE (runs_plain rfl) (Gives.pickF hE rfl hg125 rfl) rfl ?_; clear hE a; intro a hE
                refine WL.nil ?_
                subst hK121
                exact ⟨(((q52.1).length : Int) != ((x0.Trains).length : Int)), Option.some.inj hq116, hE.pick _ ⟨rfl, rfl, rfl, rfl, trivial⟩, hS⟩
          · clear hE hS a w; rintro a w ⟨q120, rfl, hE, hS⟩
            refine W.cond hE rfl (fun hc126 => ?_) (fun hc126 => ?_)
            · replace hr := iteT hc126 hr
              refine W.seq ?_
              refine W.region ?_
              refine WL.vS hS hE (runs_plain rfl) (Gives.p hE rfl) rfl ?_; clear hE a; intro a hE
              refine WL.nil ?_
              refine W.ret ?_
              refine finG (fn := Tryd.f4) (rs := [.tmp 4]) (vs := [_]) hE rfl ⟨rfl, trivial⟩ ?_
              obtain rfl := Option.some.inj hr
              replace hS := hS.tail
              exact ⟨rfl, (hS.down hle58)⟩
            · replace hr := iteF hc126 hr
              refine W.skip ?_
              refine W.seq ?_
              refine W.seq ?_
              refine W.region ?_
              refine WL.vS hS hE (runs_plain rfl) (Gives.fld hE rfl fl25_0) rfl ?_; clear hE a; intro a hE
              refine WL.vS hS hE (runs_plain rfl) (Gives.loadB hE 0 rfl rfl rfl ty22) rfl ?_; clear hE a; intro a hE
              refine WL.vS hS hE (runs_plain rfl) (Gives.len hE rfl sl22) rfl ?_; clear hE a; intro a hE
              refine WL.vS hS hE (runs_plain rfl) (Gives.p hE rfl) rfl ?_; clear hE a; intro a hE
              refine WL.nil ?_
              obtain ⟨q128, hq127, hr⟩ := bindS hr
              refine W.cut (fun a w => (.next ()) = q128 ∧ Rep a 136 [] ∧ St w s57 (pt b51 (.cells #[.slice a0_0 x0.Trains.length c0_0, .slice a0_1 x0.Turns.length c0_1] 25 (0, 0)) :: R)) ?_ ?_
              · refine W.block ?_
                refine W.loop (fun m a w => ∃ (rest131 : List ApiTrain) (k129 : Nat), rest131.length = m ∧ x0.Trains.drop k129 = rest131 ∧ Fishlaw2GuideCrowds.loop2 x1 q52 rest131 k129 = some q128 ∧ Rep a 136 [(1, .slice a1 x1.length c1), (5, .slice a54 q52.1.length c55), (73, .slice a0_0 x0.Trains.length c0_0), (74, .int .i64 ((x0.Trains).length : Int)), (75, .int .i64 ((k129 : Nat) : Int))] ∧ St w s57 (pt b51 (.cells #[.slice a0_0 x0.Trains.length c0_0, .slice a0_1 x0.Turns.length c0_1] 25 (0, 0)) :: R)) (m := x0.Trains.length) ⟨x0.Trains, 0, rfl, rfl, hq127, hE.pick _ ⟨rfl, rfl, rfl, rfl, rfl, trivial⟩, hS⟩ ?_
                clear hE hS a w hq127; rintro m135 a w ⟨rest131, k129, rfl, hd132, hq127, hE, hS⟩
                refine W.gen fun K138 hK138 => ?_
                rcases rest131 with _ | ⟨x130, rest131⟩
                · have hlt133 := drop_nil hd132
                  refine W.seq ?_
                  refine W.region ?_
                  refine WL.vS hS hE (runs_plain rfl) (Gives.p hE rfl) rfl ?_; clear hE a; intro a hE
                  refine WL.nil ?_
                  refine W.seq ?_
                  refine W.condF hE rfl (decide_eq_false (by omega)) ?_
                  subst hK138
                  refine W.exit rfl ?_
                  exact ⟨Option.some.inj hq127, hE.pick _ trivial, hS⟩
                · obtain ⟨hlt133, hx134, hd132⟩ := drop_cons hd132
                  rw [Fishlaw2GuideCrowds.loop2] at hq127
                  refine W.seq ?_
                  refine W.region ?_
                  refine WL.vS hS hE (runs_plain rfl) (Gives.p hE rfl) rfl ?_; clear hE a; intro a hE
                  refine WL.nil ?_
                  refine W.seq ?_
                  refine W.condT hE rfl (decide_eq_true (by omega)) ?_
                  refine W.skip ?_
                  refine W.seq ?_
                  refine W.block ?_
                  refine W.seq ?_
                  refine W.region ?_
                  refine WL.vS hS hE (runs_plain rfl) (Gives.p hE rfl) rfl ?_; clear hE a; intro a hE
                  obtain ⟨cs139, hl140, hR141, hat142⟩ := h0_0.at hx134
                  obtain ⟨a143, c144, a146, c147, rfl, h145, h148⟩ := hR141
                  refine WL.vS hS hE (runs_plain rfl) (Gives.idx hE k129 rfl rfl sl22 rfl hlt133 (h0_0.aok hlt133)) rfl ?_; clear hE a; intro a hE
                  refine WL.vS hS hE (runs_plain rfl) (Gives.loadA hE rfl (fun w h => hat142 w _ h) ty40) rfl ?_; clear hE a; intro a hE
                  refine WL.alloc hE hS (runs_plain rfl) zr40 rfl ?_; clear hE hS a w; intro b149 a w hE hS
                  refine WL.vS hS hE (runs_plain rfl) (Gives.p hE rfl) rfl ?_; clear hE a; intro a hE
                  refine WL.storeI hE hS 0 rfl [.int .i64 x130.No, .int .i64 x130.Stock, .slice a143 x130.Stops.length c144, .slice a146 x130.Legs.length c147] (runs_plain rfl) rfl rfl rfl ty40 rfl rfl rfl rfl ?_; clear hE hS a w; intro a w hE hS
                  refine WL.nil ?_
                  refine W.seq ?_
                  refine W.seq ?_
                  refine W.regionQ (C := fun w => St w s57 (pt b149 (.cells #[.int .i64 x130.No, .int .i64 x130.Stock, .slice a143 x130.Stops.length c144, .slice a146 x130.Legs.length c147] 40 (0, 0)) :: pt b51 (.cells #[.slice a0_0 x0.Trains.length c0_0, .slice a0_1 x0.Turns.length c0_1] 25 (0, 0)) :: R)) mixed (by kernel_rfl) hS.drew ?_
                  refine QL.v hE (runs_plain rfl) (Gives.p hE rfl) rfl ?_; clear hE a; intro a hE
                  refine QL.v hE (runs_plain rfl) (Gives.p hE rfl) rfl ?_; clear hE a; intro a hE
                  obtain ⟨x150, hx151, hq127⟩ := bindS hq127
                  obtain ⟨hi152, hlt153, hy154⟩ := gx_some hx151
                  obtain ⟨cs155, hl156, hR157, hat158⟩ := h56.at hy154
                  obtain ⟨a159, c160, rfl, h161⟩ := hR157
                  refine QL.v hE (runs_plain rfl) (Gives.idx hE (((k129 : Nat) : Int)).toNat rfl rfl sl23 hi152 hlt153 (h56.aok hlt153)) rfl ?_; clear hE a; intro a hE
                  refine QL.v hE (runs_plain rfl) (Gives.load1 hE rfl (fun w h => hat158 w _ h) ty41) rfl ?_; clear hE a; intro a hE
                  refine QL.v hE (runs_plain rfl) (Gives.len hE rfl sl41) rfl ?_; clear hE a; intro a hE
                  refine QL.v hE (runs_plain rfl) (Gives.fld hE rfl fl40_3) rfl ?_; clear hE a; intro a hE
                  refine QL.v hE (runs_plain rfl) (Gives.loadB hE 0 rfl rfl rfl ty23) rfl ?_; clear hE a; intro a hE
                  refine QL.v hE (runs_plain rfl) (Gives.len hE rfl sl23) rfl ?_; clear hE a; intro a hE
                  refine QL.v hE (runs_plain rfl) (Gives.p hE rfl) rfl ?_; clear hE a; intro a hE
                  refine QL.nil ?_; clear hS w; intro w hS
                  refine W.cond hE rfl (fun hc162 => ?_) (fun hc162 => ?_)
                  · replace hq127 := iteT hc162 hq127
                    refine W.seq ?_
                    refine W.region ?_
                    refine WL.vS hS hE (runs_plain rfl) (Gives.p hE rfl) rfl ?_; clear hE a; intro a hE
                    refine WL.nil ?_
                    refine W.ret ?_
                    subst hK138
                    rw [← Option.some.inj hq127] at hr
                    dsimp only at hr
                    refine finG (fn := Tryd.f4) (rs := [.tmp 4]) (vs := [_]) hE rfl ⟨rfl, trivial⟩ ?_
                    obtain rfl := Option.some.inj hr
                    replace hS := hS.tail
                    replace hS := hS.tail
                    exact ⟨rfl, (hS.down hle58)⟩
                  · replace hq127 := iteF hc162 hq127
                    refine W.skip ?_
                    refine W.seq ?_
                    refine W.region ?_
                    refine WL.vS hS hE (runs_plain rfl) (Gives.p hE rfl) rfl ?_; clear hE a; intro a hE
                    refine WL.vS hS hE (runs_plain rfl) (Gives.p hE rfl) rfl ?_; clear hE a; intro a hE
                    obtain ⟨x163, hx164, hq127⟩ := bindS hq127
                    obtain ⟨hi165, hlt166, hy167⟩ := gx_some hx164
                    obtain ⟨cs168, hl169, hR170, hat171⟩ := h56.at hy167
                    obtain ⟨a172, c173, rfl, h174⟩ := hR170
                    refine WL.vS hS hE (runs_plain rfl) (Gives.idx hE (((k129 : Nat) : Int)).toNat rfl rfl sl23 hi165 hlt166 (h56.aok hlt166)) rfl ?_; clear hE a; intro a hE
                    refine WL.vS hS hE (runs_plain rfl) (Gives.load1 hE rfl (fun w h => hat171 w _ h) ty41) rfl ?_; clear hE a; intro a hE
                    refine WL.vS hS hE (runs_plain rfl) (Gives.len hE rfl sl41) rfl ?_; clear hE a; intro a hE
                    refine WL.vS hS hE (runs_plain rfl) (Gives.p hE rfl) rfl ?_; clear hE a; intro a hE
                    refine WL.nil ?_
                    obtain ⟨q176, hq175, hq127⟩ := bndS hq127
                    refine W.cut (fun a w => (.next ()) = q176 ∧ Rep a 136 [(1, .slice a1 x1.length c1), (5, .slice a54 q52.1.length c55), (73, .slice a0_0 x0.Trains.length c0_0), (74, .int .i64 ((x0.Trains).length : Int)), (75, .int .i64 ((k129 : Nat) : Int))] ∧ St w s57 (pt b149 (.cells #[.int .i64 x130.No, .int .i64 x130.Stock, .slice a143 x130.Stops.length c144, .slice a146 x130.Legs.length c147] 40 (0, 0)) :: pt b51 (.cells #[.slice a0_0 x0.Trains.length c0_0, .slice a0_1 x0.Turns.length c0_1] 25 (0, 0)) :: R)) ?_ ?_
                    · refine W.block ?_
                      refine W.loop (fun m a w => ∃ (rest179 : List Int) (k177 : Nat), rest179.length = m ∧ x163.drop k177 = rest179 ∧ Fishlaw2GuideCrowds.loop3 x1 k129 rest179 k177 = q176 ∧ Rep a 136 [(1, .slice a1 x1.length c1), (5, .slice a54 q52.1.length c55), (10, .int .i64 ((k129 : Nat) : Int)), (73, .slice a0_0 x0.Trains.length c0_0), (74, .int .i64 ((x0.Trains).length : Int)), (75, .int .i64 ((k129 : Nat) : Int)), (92, .slice a172 x163.length c173), (93, .int .i64 ((x163).length : Int)), (94, .int .i64 ((k177 : Nat) : Int))] ∧ St w s57 (pt b149 (.cells #[.int .i64 x130.No, .int .i64 x130.Stock, .slice a143 x130.Stops.length c144, .slice a146 x130.Legs.length c147] 40 (0, 0)) :: pt b51 (.cells #[.slice a0_0 x0.Trains.length c0_0, .slice a0_1 x0.Turns.length c0_1] 25 (0, 0)) :: R)) (m := x163.length) ⟨x163, 0, rfl, rfl, hq175, hE.pick _ ⟨rfl, rfl, rfl, rfl, rfl, rfl, rfl, rfl, rfl, trivial⟩, hS⟩ ?_
                      clear hE hS a w hq175; rintro m183 a w ⟨rest179, k177, rfl, hd180, hq175, hE, hS⟩
                      refine W.gen fun K186 hK186 => ?_
                      rcases rest179 with _ | ⟨x178, rest179⟩
                      · have hlt181 := drop_nil hd180
                        refine W.seq ?_
                        refine W.region ?_
                        refine WL.vS hS hE (runs_plain rfl) (Gives.p hE rfl) rfl ?_; clear hE a; intro a hE
                        refine WL.nil ?_
                        refine W.seq ?_
                        refine W.condF hE rfl (decide_eq_false (by omega)) ?_
                        subst hK186
                        refine W.exit rfl ?_
                        exact ⟨hq175, hE.pick _ ⟨rfl, rfl, rfl, rfl, rfl, trivial⟩, hS⟩
                      · obtain ⟨hlt181, hx182, hd180⟩ := drop_cons hd180
                        rw [Fishlaw2GuideCrowds.loop3] at hq175
                        refine W.seq ?_
                        refine W.region ?_
                        refine WL.vS hS hE (runs_plain rfl) (Gives.p hE rfl) rfl ?_; clear hE a; intro a hE
                        refine WL.nil ?_
                        refine W.seq ?_
                        refine W.condT hE rfl (decide_eq_true (by omega)) ?_
                        refine W.skip ?_
                        refine W.seq ?_
                        refine W.block ?_
                        refine W.seq ?_
                        refine W.region ?_
                        refine WL.vS hS hE (runs_plain rfl) (Gives.p hE rfl) rfl ?_; clear hE a; intro a hE
                        obtain ⟨cs187, hl188, hR189, hat190⟩ := h174.at hx182
                        subst hR189
                        refine WL.vS hS hE (runs_plain rfl) (Gives.idx hE k177 rfl rfl sl41 rfl hlt181 (h174.aok hlt181)) rfl ?_; clear hE a; intro a hE
                        refine WL.vS hS hE (runs_plain rfl) (Gives.load1 hE rfl (fun w h => hat190 w _ h) ty3) rfl ?_; clear hE a; intro a hE
                        refine WL.vS hS hE (runs_plain rfl) (Gives.p hE rfl) rfl ?_; clear hE a; intro a hE
                        refine WL.vS hS hE (runs_plain rfl) (Gives.p hE rfl) rfl ?_; clear hE a; intro a hE
                        refine WL.nil ?_
                        refine W.seq ?_
                        refine W.seq ?_
                        refine W.region ?_
                        refine WL.vS hS hE (runs_plain rfl) (Gives.p hE rfl) rfl ?_; clear hE a; intro a hE
                        refine WL.vS hS hE (runs_plain rfl) (Gives.len hE rfl sl35) rfl ?_; clear hE a; intro a hE
                        refine WL.vS hS hE (runs_plain rfl) (Gives.p hE rfl) rfl ?_; clear hE a; intro a hE
                        refine WL.nil ?_
                        obtain ⟨q192, hq191, hq175⟩ := bndS hq175
                        refine W.cut (fun a w => ∃ (q202 : Int), q202 = q192 ∧ Rep a 136 [(1, .slice a1 x1.length c1), (5, .slice a54 q52.1.length c55), (10, .int .i64 ((k129 : Nat) : Int)), (13, .int .i64 q202), (73, .slice a0_0 x0.Trains.length c0_0), (74, .int .i64 ((x0.Trains).length : Int)), (75, .int .i64 ((k129 : Nat) : Int)), (92, .slice a172 x163.length c173), (93, .int .i64 ((x163).length : Int)), (94, .int .i64 ((k177 : Nat) : Int))] ∧ St w s57 (pt b149 (.cells #[.int .i64 x130.No, .int .i64 x130.Stock, .slice a143 x130.Stops.length c144, .slice a146 x130.Legs.length c147] 40 (0, 0)) :: pt b51 (.cells #[.slice a0_0 x0.Trains.length c0_0, .slice a0_1 x0.Turns.length c0_1] 25 (0, 0)) :: R)) ?_ ?_
                        · refine W.block ?_
                          refine W.loop (fun m a w => ∃ (rest195 : List GuideJourney) (k193 : Nat), ∃ (q202 : Int), rest195.length = m ∧ x1.drop k193 = rest195 ∧ Fishlaw2GuideCrowds.loop4 k129 k177 rest195 q202 = q192 ∧ Rep a 136 [(1, .slice a1 x1.length c1), (5, .slice a54 q52.1.length c55), (10, .int .i64 ((k129 : Nat) : Int)), (12, .int .i64 ((k177 : Nat) : Int)), (13, .int .i64 q202), (73, .slice a0_0 x0.Trains.length c0_0), (74, .int .i64 ((x0.Trains).length : Int)), (75, .int .i64 ((k129 : Nat) : Int)), (92, .slice a172 x163.length c173), (93, .int .i64 ((x163).length : Int)), (94, .int .i64 ((k177 : Nat) : Int)), (99, .slice a1 x1.length c1), (100, .int .i64 ((x1).length : Int)), (101, .int .i64 ((k193 : Nat) : Int))] ∧ St w s57 (pt b149 (.cells #[.int .i64 x130.No, .int .i64 x130.Stock, .slice a143 x130.Stops.length c144, .slice a146 x130.Legs.length c147] 40 (0, 0)) :: pt b51 (.cells #[.slice a0_0 x0.Trains.length c0_0, .slice a0_1 x0.Turns.length c0_1] 25 (0, 0)) :: R)) (m := x1.length) ⟨x1, 0, x178, rfl, rfl, hq191, hE.pick _ ⟨rfl, rfl, rfl, rfl, rfl, rfl, rfl, rfl, rfl, rfl, rfl, rfl, rfl, rfl, trivial⟩, hS⟩ ?_
                          clear hE hS a w hq191; rintro m199 a w ⟨rest195, k193, q202, rfl, hd196, hq191, hE, hS⟩
                          refine W.gen fun K203 hK203 => ?_
                          rcases rest195 with _ | ⟨x194, rest195⟩
                          · have hlt197 := drop_nil hd196
                            refine W.seq ?_
                            refine W.region ?_
                            refine WL.vS hS hE (runs_plain rfl) (Gives.p hE rfl) rfl ?_; clear hE a; intro a hE
                            refine WL.nil ?_
                            refine W.seq ?_
                            refine W.condF hE rfl (decide_eq_false (by omega)) ?_
                            subst hK203
                            refine W.exit rfl ?_
                            exact ⟨q202, hq191, hE.pick _ ⟨rfl, rfl, rfl, rfl, rfl, rfl, rfl, rfl, rfl, rfl, trivial⟩, hS⟩
                          · obtain ⟨hlt197, hx198, hd196⟩ := drop_cons hd196
                            rw [Fishlaw2GuideCrowds.loop4] at hq191
                            refine W.seq ?_
                            refine W.region ?_
                            refine WL.vS hS hE (runs_plain rfl) (Gives.p hE rfl) rfl ?_; clear hE a; intro a hE
                            refine WL.nil ?_
                            refine W.seq ?_
                            refine W.condT hE rfl (decide_eq_true (by omega)) ?_
                            refine W.skip ?_
                            refine W.seq ?_
                            refine W.block ?_
                            refine W.seq ?_
                            refine W.region ?_
                            obtain ⟨cs204, hl205, hR206, hat207⟩ := h1.at hx198
                            obtain ⟨a208, c209, rfl, h210⟩ := hR206
                            refine WL.vS hS hE (runs_plain rfl) (Gives.idx hE k193 rfl rfl sl35 rfl hlt197 (h1.aok hlt197)) rfl ?_; clear hE a; intro a hE
                            refine WL.vS hS hE (runs_plain rfl) (Gives.loadA hE rfl (fun w h => hat207 w _ h) ty28) rfl ?_; clear hE a; intro a hE
                            refine WL.alloc hE hS (runs_plain rfl) zr28 rfl ?_; clear hE hS a w; intro b211 a w hE hS
                            refine WL.storeI hE hS 0 rfl [.slice a208 x194.Rides.length c209] (runs_plain rfl) rfl rfl rfl ty28 rfl rfl rfl rfl ?_; clear hE hS a w; intro a w hE hS
                            refine WL.nil ?_
                            refine W.seq ?_
                            refine W.region ?_
                            refine WL.vS hS hE (runs_plain rfl) (Gives.fld hE rfl fl28_0) rfl ?_; clear hE a; intro a hE
                            refine WL.vS hS hE (runs_plain rfl) (Gives.loadB hE 0 rfl rfl rfl ty26) rfl ?_; clear hE a; intro a hE
                            refine WL.vS hS hE (runs_plain rfl) (Gives.len hE rfl sl26) rfl ?_; clear hE a; intro a hE
                            refine WL.vS hS hE (runs_plain rfl) (Gives.p hE rfl) rfl ?_; clear hE a; intro a hE
                            refine WL.nil ?_
                            obtain ⟨q213, hq212, hq191⟩ := bndS hq191
                            refine W.cut (fun a w => ∃ (q223 : Int), q223 = q213 ∧ Rep a 136 [(1, .slice a1 x1.length c1), (5, .slice a54 q52.1.length c55), (10, .int .i64 ((k129 : Nat) : Int)), (12, .int .i64 ((k177 : Nat) : Int)), (13, .int .i64 q223), (73, .slice a0_0 x0.Trains.length c0_0), (74, .int .i64 ((x0.Trains).length : Int)), (75, .int .i64 ((k129 : Nat) : Int)), (92, .slice a172 x163.length c173), (93, .int .i64 ((x163).length : Int)), (94, .int .i64 ((k177 : Nat) : Int)), (99, .slice a1 x1.length c1), (100, .int .i64 ((x1).length : Int)), (101, .int .i64 ((k193 : Nat) : Int))] ∧ St w s57 (pt b211 (.cells #[.slice a208 x194.Rides.length c209] 28 (0, 0)) :: pt b149 (.cells #[.int .i64 x130.No, .int .i64 x130.Stock, .slice a143 x130.Stops.length c144, .slice a146 x130.Legs.length c147] 40 (0, 0)) :: pt b51 (.cells #[.slice a0_0 x0.Trains.length c0_0, .slice a0_1 x0.Turns.length c0_1] 25 (0, 0)) :: R)) ?_ ?_
                            · refine W.block ?_
                              refine W.loop (fun m a w => ∃ (rest216 : List GuideRide) (k214 : Nat), ∃ (q223 : Int), rest216.length = m ∧ x194.Rides.drop k214 = rest216 ∧ Fishlaw2GuideCrowds.loop5 k129 k177 rest216 q223 = q213 ∧ Rep a 136 [(1, .slice a1 x1.length c1), (5, .slice a54 q52.1.length c55), (10, .int .i64 ((k129 : Nat) : Int)), (12, .int .i64 ((k177 : Nat) : Int)), (13, .int .i64 q223), (73, .slice a0_0 x0.Trains.length c0_0), (74, .int .i64 ((x0.Trains).length : Int)), (75, .int .i64 ((k129 : Nat) : Int)), (92, .slice a172 x163.length c173), (93, .int .i64 ((x163).length : Int)), (94, .int .i64 ((k177 : Nat) : Int)), (99, .slice a1 x1.length c1), (100, .int .i64 ((x1).length : Int)), (101, .int .i64 ((k193 : Nat) : Int)), (106, .slice a208 x194.Rides.length c209), (107, .int .i64 ((x194.Rides).length : Int)), (108, .int .i64 ((k214 : Nat) : Int))] ∧ St w s57 (pt b211 (.cells #[.slice a208 x194.Rides.length c209] 28 (0, 0)) :: pt b149 (.cells #[.int .i64 x130.No, .int .i64 x130.Stock, .slice a143 x130.Stops.length c144, .slice a146 x130.Legs.length c147] 40 (0, 0)) :: pt b51 (.cells #[.slice a0_0 x0.Trains.length c0_0, .slice a0_1 x0.Turns.length c0_1] 25 (0, 0)) :: R)) (m := x194.Rides.length) ⟨x194.Rides, 0, q202, rfl, rfl, hq212, hE.pick _ ⟨rfl, rfl, rfl, rfl, rfl, rfl, rfl, rfl, rfl, rfl, rfl, rfl, rfl, rfl, rfl, rfl, rfl, trivial⟩, hS⟩ ?_
                              clear hE hS a w hq212; rintro m220 a w ⟨rest216, k214, q223, rfl, hd217, hq212, hE, hS⟩
                              refine W.gen fun K224 hK224 => ?_
                              rcases rest216 with _ | ⟨x215, rest216⟩
                              · have hlt218 := drop_nil hd217
                                refine W.seq ?_
                                refine W.region ?_
                                refine WL.vS hS hE (runs_plain rfl) (Gives.p hE rfl) rfl ?_; clear hE a; intro a hE
                                refine WL.nil ?_
                                refine W.seq ?_
                                refine W.condF hE rfl (decide_eq_false (by omega)) ?_
                                subst hK224
                                refine W.exit rfl ?_
                                exact ⟨q223, hq212, hE.pick _ ⟨rfl, rfl, rfl, rfl, rfl, rfl, rfl, rfl, rfl, rfl, rfl, rfl, rfl, rfl, trivial⟩, hS⟩
                              · obtain ⟨hlt218, hx219, hd217⟩ := drop_cons hd217
                                rw [Fishlaw2GuideCrowds.loop5] at hq212
                                refine W.seq ?_
                                refine W.region ?_
                                refine WL.vS hS hE (runs_plain rfl) (Gives.p hE rfl) rfl ?_; clear hE a; intro a hE
                                refine WL.nil ?_
                                refine W.seq ?_
                                refine W.condT hE rfl (decide_eq_true (by omega)) ?_
                                refine W.skip ?_
                                refine W.seq ?_
                                refine W.block ?_
                                refine W.seq ?_
                                refine W.region ?_
                                obtain ⟨cs225, hl226, hR227, hat228⟩ := h210.at hx219
                                subst hR227
                                refine WL.vS hS hE (runs_plain rfl) (Gives.idx hE k214 rfl rfl sl26 rfl hlt218 (h210.aok hlt218)) rfl ?_; clear hE a; intro a hE
                                refine WL.vS hS hE (runs_plain rfl) (Gives.loadA hE rfl (fun w h => hat228 w _ h) ty43) rfl ?_; clear hE a; intro a hE
                                refine WL.alloc hE hS (runs_plain rfl) zr43 rfl ?_; clear hE hS a w; intro b229 a w hE hS
                                refine WL.storeI hE hS 0 rfl (GuideRide.cells x215) (runs_plain rfl) rfl rfl rfl ty43 rfl rfl rfl rfl ?_; clear hE hS a w; intro a w hE hS
                                refine WL.nil ?_
                                refine W.seq ?_
                                obtain ⟨q231, hq230, hq212⟩ := bndS hq212
                                refine W.cut (fun a w => ∃ (q234 : Bool), q234 = q231 ∧ Rep a 136 [(1, .slice a1 x1.length c1), (5, .slice a54 q52.1.length c55), (10, .int .i64 ((k129 : Nat) : Int)), (12, .int .i64 ((k177 : Nat) : Int)), (13, .int .i64 q223), (73, .slice a0_0 x0.Trains.length c0_0), (74, .int .i64 ((x0.Trains).length : Int)), (75, .int .i64 ((k129 : Nat) : Int)), (92, .slice a172 x163.length c173), (93, .int .i64 ((x163).length : Int)), (94, .int .i64 ((k177 : Nat) : Int)), (99, .slice a1 x1.length c1), (100, .int .i64 ((x1).length : Int)), (101, .int .i64 ((k193 : Nat) : Int)), (106, .slice a208 x194.Rides.length c209), (107, .int .i64 ((x194.Rides).length : Int)), (108, .int .i64 ((k214 : Nat) : Int)), (127, .bool q234)] ∧ St w s57 (pt b229 (.cells (GuideRide.cells x215).toArray 43 (0, 0)) :: pt b211 (.cells #[.slice a208 x194.Rides.length c209] 28 (0, 0)) :: pt b149 (.cells #[.int .i64 x130.No, .int .i64 x130.Stock, .slice a143 x130.Stops.length c144, .slice a146 x130.Legs.length c147] 40 (0, 0)) :: pt b51 (.cells #[.slice a0_0 x0.Trains.length c0_0, .slice a0_1 x0.Turns.length c0_1] 25 (0, 0)) :: R)) ?_ ?_
                                · refine W.gen fun K235 hK235 => ?_
                                  refine W.region ?_
                                  refine WL.vS hS hE (runs_plain rfl) (Gives.fld hE rfl fl43_0) rfl ?_; clear hE a; intro a hE
                                  refine WL.vS hS hE (runs_plain rfl) (Gives.loadB hE 0 rfl rfl rfl ty3) rfl ?_; clear hE a; intro a hE
                                  refine WL.vS hS hE (runs_plain rfl) (Gives.p hE rfl) rfl ?_; clear hE a; intro a hE
                                  refine WL.vS hS hE (runs_plain rfl) (Gives.p hE rfl) rfl ?_; clear hE a; intro a hE
                                  refine WL.vS hS hE (runs_plain rfl) (Gives.p hE rfl) rfl ?_; clear hE a; intro a hE
                                  rcases Bool.eq_false_or_eq_true (x215.Train == ((k129 : Nat) : Int)) with hg236 | hg236
                                  · replace hq230 := iteT hg236 hq230
                                    refine WL.vS hS hE (runs_if hE rfl rfl rfl hg236) (Gives.fld hE rfl fl43_1) rfl ?_; clear hE a; intro a hE
                                    refine WL.vS hS hE (runs_if hE rfl rfl rfl hg236) (Gives.loadB hE 0 rfl rfl rfl ty3) rfl ?_; clear hE a; intro a hE
                                    refine WL.vS hS hE (runs_if hE rfl rfl rfl hg236) (Gives.p hE rfl) rfl ?_; clear hE a; intro a hE
                                    refine WL.vS hS hE (runs_if hE rfl rfl rfl hg236) (Gives.p hE rfl) rfl ?_; clear hE a; intro a hE
                                    refine WL.vS hS hE (runs_plain rfl) (Gives.pickT hE rfl hg236 rfl) rfl ?_; clear hE a; intro a hE
                                    refine WL.vS hS hE (runs_plain rfl) (Gives.p hE rfl) rfl ?_; clear hE a; intro a hE
                                    rcases Bool.eq_false_or_eq_true (decide (x215.On ≤ ((k177 : Nat) : Int))) with hg237 | hg237
                                    · replace hq230 := iteT hg237 hq230
                                      refine WL.vS hS hE (runs_if hE rfl rfl rfl hg237) (Gives.p hE rfl) rfl ?_; clear hE a; intro a hE
                                      refine WL.vS hS hE (runs_if hE rfl rfl rfl hg237) (Gives.fld hE rfl fl43_2) rfl ?_; clear hE a; intro a hE
                                      refine WL.vS hS hE (runs_if hE rfl rfl rfl hg237) (Gives.loadB hE 0 rfl rfl rfl ty3) rfl ?_; clear hE a; intro a hE
                                      refine WL.vS hS hE (runs_if hE rfl rfl rfl hg237) (Gives.p hE rfl) rfl ?_; clear hE a; intro a hE
                                      refine WL.vS hS hE (runs_plain rfl) (Gives.pickT hE rfl hg237 rfl) rfl ?_; clear hE a; intro a hE
                                      refine WL.nil ?_
                                      subst hK235
                                      exact ⟨decide (((k177 : Nat) : Int) < x215.Off), hq230, hE.pick _ ⟨rfl, rfl, rfl, rfl, rfl, rfl, rfl, rfl, rfl, rfl, rfl, rfl, rfl, rfl, rfl, rfl, rfl, rfl, trivial⟩, hS⟩
                                    · replace hq230 := iteF hg237 hq230
                                      refine WL.no hE (runs_not hE rfl rfl rfl (by rw [hg237]; decide)) rfl ?_; clear hE a; intro a hE
                                      refine WL.no hE (runs_not hE rfl rfl rfl (by rw [hg237]; decide)) rfl ?_; clear hE a; intro a hE
                                      refine WL.no hE (runs_not hE rfl rfl rfl (by rw [hg237]; decide)) rfl ?_; clear hE a; intro a hE
                                      refine WL.no hE (runs_not hE rfl rfl rfl (by rw [hg237]; decide)) rfl ?_; clear hE a; intro a hE
                                      refine WL.vS hS hE (runs_plain rfl) (Gives.pickF hE rfl hg237 rfl) rfl ?_; clear hE a; intro a hE
                                      refine WL.nil ?_
                                      subst hK235
                                      exact ⟨false, hq230, hE.pick _ ⟨rfl, rfl, rfl, rfl, rfl, rfl, rfl, rfl, rfl, rfl, rfl, rfl, rfl, rfl, rfl, rfl, rfl, rfl, trivial⟩, hS⟩
                                  · replace hq230 := iteF hg236 hq230
                                    refine WL.no hE (runs_not hE rfl rfl rfl (by rw [hg236]; decide)) rfl ?_; clear hE a; intro a hE
                                    refine WL.no hE (runs_not hE rfl rfl rfl (by rw [hg236]; decide)) rfl ?_; clear hE a; intro a hE
                                    refine WL.no hE (runs_not hE rfl rfl rfl (by rw [hg236]; decide)) rfl ?_; clear hE a; intro a hE
                                    refine WL.no hE (runs_not hE rfl rfl rfl (by rw [hg236]; decide)) rfl ?_; clear hE a; intro a hE
                                    refine WL.vS hS hE (runs_plain rfl) (Gives.pickF hE rfl hg236 rfl) rfl ?_; clear hE a; intro a hE
                                    refine WL.vS hS hE (runs_plain rfl) (Gives.p hE rfl) rfl ?_; clear hE a; intro a hE
                                    refine WL.no hE (runs_not hE rfl rfl rfl (by decide)) rfl ?_; clear hE a; intro a hE
                                    refine WL.no hE (runs_not hE rfl rfl rfl (by decide)) rfl ?_; clear hE a; intro a hE
                                    refine WL.no hE (runs_not hE rfl rfl rfl (by decide)) rfl ?_; clear hE a; intro a hE
                                    refine WL.no hE (runs_not hE rfl rfl rfl (by decide)) rfl ?_; clear hE a; intro a hE
                                    refine WL.vS hS hE (runs_plain rfl) (Gives.pickF hE rfl rfl rfl) rfl ?_; clear hE a; intro a hE
                                    refine WL.nil ?_
                                    subst hK235
                                    exact ⟨false, hq230, hE.pick _ ⟨rfl, rfl, rfl, rfl, rfl, rfl, rfl, rfl, rfl, rfl, rfl, rfl, rfl, rfl, rfl, rfl, rfl, rfl, trivial⟩, hS⟩
                                · clear hE hS a w; rintro a w ⟨q234, rfl, hE, hS⟩
                                  obtain ⟨q239, hq238, hq212⟩ := bndS hq212
                                  refine W.cut (fun a w => ∃ (q242 : Int), q242 = q239 ∧ Rep a 136 [(1, .slice a1 x1.length c1), (5, .slice a54 q52.1.length c55), (10, .int .i64 ((k129 : Nat) : Int)), (12, .int .i64 ((k177 : Nat) : Int)), (13, .int .i64 q242), (73, .slice a0_0 x0.Trains.length c0_0), (74, .int .i64 ((x0.Trains).length : Int)), (75, .int .i64 ((k129 : Nat) : Int)), (92, .slice a172 x163.length c173), (93, .int .i64 ((x163).length : Int)), (94, .int .i64 ((k177 : Nat) : Int)), (99, .slice a1 x1.length c1), (100, .int .i64 ((x1).length : Int)), (101, .int .i64 ((k193 : Nat) : Int)), (106, .slice a208 x194.Rides.length c209), (107, .int .i64 ((x194.Rides).length : Int)), (108, .int .i64 ((k214 : Nat) : Int))] ∧ St w s57 (pt b229 (.cells (GuideRide.cells x215).toArray 43 (0, 0)) :: pt b211 (.cells #[.slice a208 x194.Rides.length c209] 28 (0, 0)) :: pt b149 (.cells #[.int .i64 x130.No, .int .i64 x130.Stock, .slice a143 x130.Stops.length c144, .slice a146 x130.Legs.length c147] 40 (0, 0)) :: pt b51 (.cells #[.slice a0_0 x0.Trains.length c0_0, .slice a0_1 x0.Turns.length c0_1] 25 (0, 0)) :: R)) ?_ ?_
                                  · refine W.gen fun K243 hK243 => ?_
                                    refine W.cond hE rfl (fun hc244 => ?_) (fun hc244 => ?_)
                                    · replace hq238 := iteT hc244 hq238
                                      refine W.region ?_
                                      refine WL.vS hS hE (runs_plain rfl) (Gives.p hE rfl) rfl ?_; clear hE a; intro a hE
                                      refine WL.vS hS hE (runs_plain rfl) (Gives.p hE rfl) rfl ?_; clear hE a; intro a hE
                                      refine WL.vS hS hE (runs_plain rfl) (Gives.p hE rfl) rfl ?_; clear hE a; intro a hE
                                      refine WL.nil ?_
                                      subst hK243
                                      exact ⟨w64 (q223 - 1), hq238, hE.pick _ ⟨rfl, rfl, rfl, rfl, rfl, rfl, rfl, rfl, rfl, rfl, rfl, rfl, rfl, rfl, rfl, rfl, rfl, trivial⟩, hS⟩
                                    · replace hq238 := iteF hc244 hq238
                                      refine W.skip ?_
                                      subst hK243
                                      exact ⟨q223, hq238, hE.pick _ ⟨rfl, rfl, rfl, rfl, rfl, rfl, rfl, rfl, rfl, rfl, rfl, rfl, rfl, rfl, rfl, rfl, rfl, trivial⟩, hS⟩
                                  · clear hE hS a w; rintro a w ⟨q242, rfl, hE, hS⟩
                                    refine W.region ?_
                                    refine WL.vS hS hE (runs_plain rfl) (Gives.inc hE rfl (by have := h210.small; omega)) rfl ?_; clear hE a; intro a hE
                                    refine WL.vS hS hE (runs_plain rfl) (Gives.p hE rfl) rfl ?_; clear hE a; intro a hE
                                    refine WL.nil ?_
                                    replace hS := hS.tail
                                    subst hK224
                                    exact ⟨rest216.length, Nat.lt_succ_self _, rest216, k214 + 1, q242, rfl, hd217, hq212, hE.pick _ ⟨rfl, rfl, rfl, rfl, rfl, rfl, rfl, rfl, rfl, rfl, rfl, rfl, rfl, rfl, rfl, rfl, rfl, trivial⟩, hS⟩
                            · clear hE hS a w; rintro a w ⟨q223, rfl, hE, hS⟩
                              refine W.region ?_
                              refine WL.vS hS hE (runs_plain rfl) (Gives.inc hE rfl (by have := h1.small; omega)) rfl ?_; clear hE a; intro a hE
                              refine WL.vS hS hE (runs_plain rfl) (Gives.p hE rfl) rfl ?_; clear hE a; intro a hE
                              refine WL.nil ?_
                              replace hS := hS.tail
                              subst hK203
                              exact ⟨rest195.length, Nat.lt_succ_self _, rest195, k193 + 1, q223, rfl, hd196, hq191, hE.pick _ ⟨rfl, rfl, rfl, rfl, rfl, rfl, rfl, rfl, rfl, rfl, rfl, rfl, rfl, rfl, trivial⟩, hS⟩
                        · clear hE hS a w; rintro a w ⟨q202, rfl, hE, hS⟩
                          refine W.seq ?_
                          refine W.region ?_
                          refine WL.vS hS hE (runs_plain rfl) (Gives.p hE rfl) rfl ?_; clear hE a; intro a hE
                          refine WL.vS hS hE (runs_plain rfl) (Gives.p hE rfl) rfl ?_; clear hE a; intro a hE
                          refine WL.nil ?_
                          refine W.cond hE rfl (fun hc245 => ?_) (fun hc245 => ?_)
                          · replace hq175 := iteT hc245 hq175
                            refine W.seq ?_
                            refine W.region ?_
                            refine WL.vS hS hE (runs_plain rfl) (Gives.p hE rfl) rfl ?_; clear hE a; intro a hE
                            refine WL.nil ?_
                            refine W.ret ?_
                            subst hK186
                            subst hK138
                            rw [← hq175] at hq127
                            dsimp only at hq127
                            rw [← Option.some.inj hq127] at hr
                            dsimp only at hr
                            refine finG (fn := Tryd.f4) (rs := [.tmp 4]) (vs := [_]) hE rfl ⟨rfl, trivial⟩ ?_
                            obtain rfl := Option.some.inj hr
                            replace hS := hS.tail
                            replace hS := hS.tail
                            exact ⟨rfl, (hS.down hle58)⟩
                          · replace hq175 := iteF hc245 hq175
                            refine W.skip ?_
                            refine W.region ?_
                            refine WL.vS hS hE (runs_plain rfl) (Gives.inc hE rfl (by have := h174.small; omega)) rfl ?_; clear hE a; intro a hE
                            refine WL.vS hS hE (runs_plain rfl) (Gives.p hE rfl) rfl ?_; clear hE a; intro a hE
                            refine WL.nil ?_
                            subst hK186
                            exact ⟨rest179.length, Nat.lt_succ_self _, rest179, k177 + 1, rfl, hd180, hq175, hE.pick _ ⟨rfl, rfl, rfl, rfl, rfl, rfl, rfl, rfl, rfl, trivial⟩, hS⟩
                    · clear hE hS a w; rintro a w ⟨rfl, hE, hS⟩
                      dsimp only at hq127
                      refine W.region ?_
                      refine WL.vS hS hE (runs_plain rfl) (Gives.inc hE rfl (by have := h0_0.small; omega)) rfl ?_; clear hE a; intro a hE
                      refine WL.vS hS hE (runs_plain rfl) (Gives.p hE rfl) rfl ?_; clear hE a; intro a hE
                      refine WL.nil ?_
                      replace hS := hS.tail
                      subst hK138
                      exact ⟨rest131.length, Nat.lt_succ_self _, rest131, k129 + 1, rfl, hd132, hq127, hE.pick _ ⟨rfl, rfl, rfl, rfl, rfl, trivial⟩, hS⟩
              · clear hE hS a w; rintro a w ⟨rfl, hE, hS⟩
                dsimp only at hr
                refine W.seq ?_
                refine W.region ?_
                refine WL.vS hS hE (runs_plain rfl) (Gives.p hE rfl) rfl ?_; clear hE a; intro a hE
                refine WL.nil ?_
                refine W.ret ?_
                refine finG (fn := Tryd.f4) (rs := [.tmp 4]) (vs := [_]) hE rfl ⟨rfl, trivial⟩ ?_
                obtain rfl := Option.some.inj hr
                replace hS := hS.tail
                exact ⟨rfl, (hS.down hle58)⟩
end Go.Proofs.YtdajnfcggckdlaaDoor
