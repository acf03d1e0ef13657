/- The walks of the functions that GuideChances reaches: each call comes to what its mirror says. The conditions are those of each contract. -/
import Derived.Test.YtpcebngchmgckaaDoorProg
import Derived.Test.YtpcebngchmgckaaDoorGuideChancesM
import Derived.Test.YtpcebngchmgckaaDoorFpAllT
import Derived.Test.YtpcebngchmgckaaDoorGuideChancesS
import Derived.Test.YtpcebngchmgckaaDoorFpMapS
import Derived.Test.YtpcebngchmgckaaDoorFpFld
import Derived.Test.YtpcebngchmgckaaDoorFpMapG
import Derived.Test.YtpcebngchmgckaaDoorFpMapV
import Derived.Test.YtpcebngchmgckaaDoorFpMaps
import Derived.Test.YtpcebngchmgckaaDoorFpOrd
import Derived.Test.YtpcebngchmgckaaDoorFpRf
import Derived.Test.YtpcebngchmgckaaDoorFpRng
import Derived.Test.YtpcebngchmgckaaDoorGuideChancesW2
set_option maxRecDepth 10000
namespace Go.Proofs.YtpcebngchmgckaaDoor
open Go Go.Fp
set_option maxHeartbeats 8000000 in
theorem Fishref2JourneyFault_ok  {w : World} {s : Sg} {R : List HP} {x0 : ApiDay} {a0_0 : Option Addr} {c0_0 : Nat} {a0_1 : Option Addr} {c0_1 : Nat} {x1 : GuideJourney} {a1_0 : Option Addr} {c1_0 : Nat} {x2 : Int} {x3 : Bool} (hS : St w s (R)) (h0_0 : Sl 4 RApiTrain s a0_0 c0_0 x0.Trains) (_h0_1 : Sl 1 (RL 1 (RI .i64)) s a0_1 c0_1 x0.Turns) (h1_0 : Sl 3 RGuideRide s a1_0 c1_0 x1.Rides) {r : Int} (hr : Fishref2JourneyFault x0 x1 x2 x3 = some r) :
  Calls Tryd.prog 18 [.agg [.slice a0_0 x0.Trains.length c0_0, .slice a0_1 x0.Turns.length c0_1].toArray, .agg [.slice a1_0 x1.Rides.length c1_0].toArray, .int .i64 x2, .bool x3].toArray w (fun e w => e = .returned (.int .i64 r) ∧ St w s (R)) := by
 refine enter Tryd.func18 rfl rfl rfl fun a hE => ?_
 rw [Fishref2JourneyFault] at hr
 refine W.seq (W.region ?_)
 refine WL.box hE hS (runs_plain rfl) rfl rfl rfl ?_; clear hE hS a w; intro b51 a w hE hS
 refine WL.box hE hS (runs_plain rfl) rfl rfl rfl ?_; clear hE hS a w; intro b52 a w hE hS
 refine vP hS hE (Gives.p hE rfl) rfl ?_; clear hE a; intro a hE
 refine WL.nil ?_
 refine W.seq ?_
 refine W.seq (W.region ?_)
 refine vP hS hE (Gives.p hE rfl) rfl ?_; clear hE a; intro a hE
 refine WL.fnq hE (Fishref2within_ok hS  rfl (r := Fishref2within x2 0 28800)) (runs_plain rfl) bd57 rfl rfl rfl ?_
 clear hE hS; rintro e w ⟨rfl, hS⟩; refine ⟨_, rfl, ?_⟩; clear a; intro a hE
 refine vP hS hE (Gives.p hE rfl) rfl ?_; clear hE a; intro a hE
 refine WL.nil ?_
 refine W.cond hE rfl (fun hc53 => ?_) (fun hc53 => ?_)
 ·replace hr := iteT hc53 hr
  refine W.seq (W.region ?_)
  refine vP hS hE (Gives.p hE rfl) rfl ?_; clear hE a; intro a hE
  refine WL.nil ?_
  refine W.ret ?_
  refine finG (fn := Tryd.f18) (rs := [.tmp 8]) (vs := [_]) hE rfl ⟨rfl, trivial⟩ ?_
  obtain rfl := Option.some.inj hr
  replace hS := hS.tail
  replace hS := hS.tail
  exact ⟨rfl, hS⟩
 ·replace hr := iteF hc53 hr
  refine W.skip ?_
  refine W.seq ?_
  refine W.seq (W.region ?_)
  refine vP hS hE (Gives.fld hE rfl fl28_0) rfl ?_; clear hE a; intro a hE
  refine vP hS hE (Gives.loadB hE 0 rfl rfl rfl ty26) rfl ?_; clear hE a; intro a hE
  refine vP hS hE (Gives.len hE rfl sl26) rfl ?_; clear hE a; intro a hE
  refine WL.fnq hE (Fishref2within_ok hS  rfl (r := Fishref2within ((x1.Rides).length : Int) 1 4)) (runs_plain rfl) bd57 rfl rfl rfl ?_
  clear hE hS; rintro e w ⟨rfl, hS⟩; refine ⟨_, rfl, ?_⟩; clear a; intro a hE
  refine vP hS hE (Gives.p hE rfl) rfl ?_; clear hE a; intro a hE
  refine WL.nil ?_
  refine W.cond hE rfl (fun hc54 => ?_) (fun hc54 => ?_)
  ·replace hr := iteT hc54 hr
   refine W.seq (W.region ?_)
   refine vP hS hE (Gives.p hE rfl) rfl ?_; clear hE a; intro a hE
   refine WL.nil ?_
   refine W.ret ?_
   refine finG (fn := Tryd.f18) (rs := [.tmp 8]) (vs := [_]) hE rfl ⟨rfl, trivial⟩ ?_
   obtain rfl := Option.some.inj hr
   replace hS := hS.tail
   replace hS := hS.tail
   exact ⟨rfl, hS⟩
  ·replace hr := iteF hc54 hr
   refine W.skip ?_
   refine W.seq ?_
   refine W.seq (W.region ?_)
   refine vP hS hE (Gives.fld hE rfl fl28_0) rfl ?_; clear hE a; intro a hE
   refine vP hS hE (Gives.loadB hE 0 rfl rfl rfl ty26) rfl ?_; clear hE a; intro a hE
   refine vP hS hE (Gives.len hE rfl sl26) rfl ?_; clear hE a; intro a hE
   refine vP hS hE (Gives.p hE rfl) rfl ?_; clear hE a; intro a hE
   refine WL.nil ?_
   obtain ⟨q56, hq55, hr⟩ := bindS hr
   refine W.cut (fun a w => (.next ()) = q56 ∧ Rep a 125 [] ∧ St w s (pt b52 (.cells #[.slice a1_0 x1.Rides.length c1_0] 28 (0, 0)) :: pt b51 (.cells #[.slice a0_0 x0.Trains.length c0_0, .slice a0_1 x0.Turns.length c0_1] 25 (0, 0)) :: R)) ?_ ?_
   ·refine W.block ?_
    refine W.loop (fun m a w => ∃ (rest59 : List GuideRide) (k57 : Nat), rest59.length = m ∧ x1.Rides.drop k57 = rest59 ∧ Fishref2JourneyFault.loop1 x0 x1 x2 x3 rest59 k57 = some q56 ∧ Rep a 125 [(2, .int .i64 x2), (3, .bool x3), (4, .pointer (some ⟨b51, 0, none⟩)), (5, .pointer (some ⟨b52, 0, none⟩)), (23, .slice a1_0 x1.Rides.length c1_0), (24, .int .i64 ((x1.Rides).length : Int)), (25, .int .i64 ((k57 : Nat) : Int))] ∧ St w s (pt b52 (.cells #[.slice a1_0 x1.Rides.length c1_0] 28 (0, 0)) :: pt b51 (.cells #[.slice a0_0 x0.Trains.length c0_0, .slice a0_1 x0.Turns.length c0_1] 25 (0, 0)) :: R)) (m := x1.Rides.length) ⟨x1.Rides, 0, rfl, rfl, hq55, hE.pick _ ⟨rfl, rfl, rfl, rfl, rfl, rfl, rfl, trivial⟩, hS⟩ ?_
    clear hE hS a w hq55; rintro m63 a w ⟨rest59, k57, rfl, hd60, hq55, hE, hS⟩
    refine W.gen fun K66 hK66 => ?_
    rcases rest59 with _ | ⟨x58, rest59⟩
    ·have hlt61 := drop_nil hd60
     refine W.seq (W.region ?_)
     refine vP hS hE (Gives.p hE rfl) rfl ?_; clear hE a; intro a hE
     refine WL.nil ?_
     refine W.seq ?_
     refine W.condF hE rfl (decide_eq_false (by omega)) ?_
     subst hK66
     refine W.exit rfl ?_
     exact ⟨Option.some.inj hq55, hE.pick _ trivial, hS⟩
    ·obtain ⟨hlt61, hx62, hd60⟩ := drop_cons hd60
     rw [Fishref2JourneyFault.loop1] at hq55
     refine W.seq (W.region ?_)
     refine vP hS hE (Gives.p hE rfl) rfl ?_; clear hE a; intro a hE
     refine WL.nil ?_
     refine W.seq ?_
     refine W.condT hE rfl (decide_eq_true (by omega)) ?_
     refine W.skip ?_
     refine W.seq ?_
     refine W.block ?_
     refine W.seq (W.region ?_)
     refine vP hS hE (Gives.p hE rfl) rfl ?_; clear hE a; intro a hE
     obtain ⟨cs67, hl68, hR69, hat70⟩ := h1_0.at hx62
     subst hR69
     refine vP hS hE (Gives.idx hE k57 rfl rfl sl26 rfl hlt61 (h1_0.aok hlt61)) rfl ?_; clear hE a; intro a hE
     refine vP hS hE (Gives.loadA hE rfl (fun w h => hat70 w _ h) ty47) rfl ?_; clear hE a; intro a hE
     refine WL.alloc hE hS (runs_plain rfl) zr47 rfl ?_; clear hE hS a w; intro b71 a w hE hS
     refine vP hS hE (Gives.p hE rfl) rfl ?_; clear hE a; intro a hE
     refine WL.storeI hE hS 0 rfl (GuideRide.cells x58) (runs_plain rfl) rfl rfl rfl ty47 rfl rfl rfl rfl ?_; clear hE hS a w; intro a w hE hS
     refine WL.nil ?_
     refine W.seq ?_
     refine W.seq ?_
     obtain ⟨q73, hq72, hq55⟩ := bndS hq55
     refine W.cut (fun a w => ∃ (q76 : Bool), q76 = q73 ∧ Rep a 125 [(2, .int .i64 x2), (3, .bool x3), (4, .pointer (some ⟨b51, 0, none⟩)), (5, .pointer (some ⟨b52, 0, none⟩)), (9, .int .i64 ((k57 : Nat) : Int)), (10, .pointer (some ⟨b71, 0, none⟩)), (23, .slice a1_0 x1.Rides.length c1_0), (24, .int .i64 ((x1.Rides).length : Int)), (25, .int .i64 ((k57 : Nat) : Int)), (40, .bool q76)] ∧ St w s (pt b71 (.cells (GuideRide.cells x58).toArray 47 (0, 0)) :: pt b52 (.cells #[.slice a1_0 x1.Rides.length c1_0] 28 (0, 0)) :: pt b51 (.cells #[.slice a0_0 x0.Trains.length c0_0, .slice a0_1 x0.Turns.length c0_1] 25 (0, 0)) :: R)) ?_ ?_
     ·refine W.gen fun K77 hK77 => ?_
      refine W.region ?_
      refine vP hS hE (Gives.fld hE rfl fl47_0) rfl ?_; clear hE a; intro a hE
      refine vP hS hE (Gives.loadB hE 0 rfl rfl rfl ty3) rfl ?_; clear hE a; intro a hE
      refine vP hS hE (Gives.p hE rfl) rfl ?_; clear hE a; intro a hE
      refine vP hS hE (Gives.p hE rfl) rfl ?_; clear hE a; intro a hE
      rcases Bool.eq_false_or_eq_true (decide (x58.Train < 0)) with hg78 | hg78
      ·replace hq72 := iteT hg78 hq72
       refine WL.no hE (runs_not hE rfl rfl rfl (by rw [hg78]; decide)) rfl ?_; clear hE a; intro a hE
       refine WL.no hE (runs_not hE rfl rfl rfl (by rw [hg78]; decide)) rfl ?_; clear hE a; intro a hE
       refine WL.no hE (runs_not hE rfl rfl rfl (by rw [hg78]; decide)) rfl ?_; clear hE a; intro a hE
       refine WL.no hE (runs_not hE rfl rfl rfl (by rw [hg78]; decide)) rfl ?_; clear hE a; intro a hE
       refine WL.no hE (runs_not hE rfl rfl rfl (by rw [hg78]; decide)) rfl ?_; clear hE a; intro a hE
       refine WL.no hE (runs_not hE rfl rfl rfl (by rw [hg78]; decide)) rfl ?_; clear hE a; intro a hE
       refine vP hS hE (Gives.pickT hE rfl hg78 rfl) rfl ?_; clear hE a; intro a hE
       refine WL.nil ?_
       subst hK77
       exact ⟨true, hq72, hE.pick _ ⟨rfl, rfl, rfl, rfl, rfl, rfl, rfl, rfl, rfl, rfl, trivial⟩, hS⟩
      ·replace hq72 := iteF hg78 hq72
       refine WL.vS hS hE (runs_if hE rfl rfl rfl hg78) (Gives.fld hE rfl fl47_0) rfl ?_; clear hE a; intro a hE
       refine WL.vS hS hE (runs_if hE rfl rfl rfl hg78) (Gives.loadB hE 0 rfl rfl rfl ty3) rfl ?_; clear hE a; intro a hE
       refine WL.vS hS hE (runs_if hE rfl rfl rfl hg78) (Gives.fld hE rfl fl25_0) rfl ?_; clear hE a; intro a hE
       refine WL.vS hS hE (runs_if hE rfl rfl rfl hg78) (Gives.loadB hE 2 rfl rfl rfl ty22) rfl ?_; clear hE a; intro a hE
       refine WL.vS hS hE (runs_if hE rfl rfl rfl hg78) (Gives.len hE rfl sl22) rfl ?_; clear hE a; intro a hE
       refine WL.vS hS hE (runs_if hE rfl rfl rfl hg78) (Gives.p hE rfl) rfl ?_; clear hE a; intro a hE
       refine vP hS hE (Gives.pickF hE rfl hg78 rfl) rfl ?_; clear hE a; intro a hE
       refine WL.nil ?_
       subst hK77
       exact ⟨decide (x58.Train ≥ ((x0.Trains).length : Int)), hq72, hE.pick _ ⟨rfl, rfl, rfl, rfl, rfl, rfl, rfl, rfl, rfl, rfl, trivial⟩, hS⟩
     ·clear hE hS a w; rintro a w ⟨q76, rfl, hE, hS⟩
      refine W.cond hE rfl (fun hc79 => ?_) (fun hc79 => ?_)
      ·replace hq55 := iteT hc79 hq55
       refine W.seq (W.region ?_)
       refine vP hS hE (Gives.p hE rfl) rfl ?_; clear hE a; intro a hE
       refine WL.nil ?_
       refine W.ret ?_
       subst hK66
       rw [← Option.some.inj hq55] at hr
       dsimp only at hr
       refine finG (fn := Tryd.f18) (rs := [.tmp 8]) (vs := [_]) hE rfl ⟨rfl, trivial⟩ ?_
       obtain rfl := Option.some.inj hr
       replace hS := hS.tail
       replace hS := hS.tail
       replace hS := hS.tail
       exact ⟨rfl, hS⟩
      ·replace hq55 := iteF hc79 hq55
       refine W.skip ?_
       refine W.seq (W.region ?_)
       refine vP hS hE (Gives.fld hE rfl fl25_0) rfl ?_; clear hE a; intro a hE
       refine vP hS hE (Gives.loadB hE 2 rfl rfl rfl ty22) rfl ?_; clear hE a; intro a hE
       refine vP hS hE (Gives.fld hE rfl fl47_0) rfl ?_; clear hE a; intro a hE
       refine vP hS hE (Gives.loadB hE 0 rfl rfl rfl ty3) rfl ?_; clear hE a; intro a hE
       obtain ⟨x80, hx81, hq55⟩ := bindS hq55
       obtain ⟨hi82, hlt83, hy84⟩ := gx_some hx81
       obtain ⟨cs85, hl86, hR87, hat88⟩ := h0_0.at hy84
       obtain ⟨a89, c90, a92, c93, rfl, h91, h94⟩ := hR87
       refine vP hS hE (Gives.idx hE (x58.Train).toNat rfl rfl sl22 hi82 hlt83 (h0_0.aok hlt83)) rfl ?_; clear hE a; intro a hE
       refine vP hS hE (Gives.fld hE rfl fl44_2) rfl ?_; clear hE a; intro a hE
       refine vP hS hE (Gives.load1 hE rfl (fun w h => (hat88 w _ h).one rfl) ty42) rfl ?_; clear hE a; intro a hE
       refine vP hS hE (Gives.p hE rfl) rfl ?_; clear hE a; intro a hE
       refine WL.nil ?_
       refine W.seq ?_
       refine W.seq ?_
       obtain ⟨q96, hq95, hq55⟩ := bndS hq55
       refine W.cut (fun a w => ∃ (q99 : Bool), q99 = q96 ∧ Rep a 125 [(2, .int .i64 x2), (3, .bool x3), (4, .pointer (some ⟨b51, 0, none⟩)), (5, .pointer (some ⟨b52, 0, none⟩)), (9, .int .i64 ((k57 : Nat) : Int)), (10, .pointer (some ⟨b71, 0, none⟩)), (11, .slice a89 x80.Stops.length c90), (23, .slice a1_0 x1.Rides.length c1_0), (24, .int .i64 ((x1.Rides).length : Int)), (25, .int .i64 ((k57 : Nat) : Int)), (69, .bool q99)] ∧ St w s (pt b71 (.cells (GuideRide.cells x58).toArray 47 (0, 0)) :: pt b52 (.cells #[.slice a1_0 x1.Rides.length c1_0] 28 (0, 0)) :: pt b51 (.cells #[.slice a0_0 x0.Trains.length c0_0, .slice a0_1 x0.Turns.length c0_1] 25 (0, 0)) :: R)) ?_ ?_
       ·refine W.gen fun K100 hK100 => ?_
        refine W.region ?_
        refine vP hS hE (Gives.fld hE rfl fl47_1) rfl ?_; clear hE a; intro a hE
        refine vP hS hE (Gives.loadB hE 0 rfl rfl rfl ty3) rfl ?_; clear hE a; intro a hE
        refine vP hS hE (Gives.p hE rfl) rfl ?_; clear hE a; intro a hE
        refine vP hS hE (Gives.p hE rfl) rfl ?_; clear hE a; intro a hE
        rcases Bool.eq_false_or_eq_true (decide (x58.On < 0)) with hg101 | hg101
        ·replace hq95 := iteT hg101 hq95
         refine WL.no hE (runs_not hE rfl rfl rfl (by rw [hg101]; decide)) rfl ?_; clear hE a; intro a hE
         refine WL.no hE (runs_not hE rfl rfl rfl (by rw [hg101]; decide)) rfl ?_; clear hE a; intro a hE
         refine WL.no hE (runs_not hE rfl rfl rfl (by rw [hg101]; decide)) rfl ?_; clear hE a; intro a hE
         refine WL.no hE (runs_not hE rfl rfl rfl (by rw [hg101]; decide)) rfl ?_; clear hE a; intro a hE
         refine WL.no hE (runs_not hE rfl rfl rfl (by rw [hg101]; decide)) rfl ?_; clear hE a; intro a hE
         refine vP hS hE (Gives.pickT hE rfl hg101 rfl) rfl ?_; clear hE a; intro a hE
         refine vP hS hE (Gives.p hE rfl) rfl ?_; clear hE a; intro a hE
         refine WL.no hE (runs_not hE rfl rfl rfl (by decide)) rfl ?_; clear hE a; intro a hE
         refine WL.no hE (runs_not hE rfl rfl rfl (by decide)) rfl ?_; clear hE a; intro a hE
         refine WL.no hE (runs_not hE rfl rfl rfl (by decide)) rfl ?_; clear hE a; intro a hE
         refine vP hS hE (Gives.pickT hE rfl rfl rfl) rfl ?_; clear hE a; intro a hE
         refine vP hS hE (Gives.p hE rfl) rfl ?_; clear hE a; intro a hE
         refine WL.no hE (runs_not hE rfl rfl rfl (by decide)) rfl ?_; clear hE a; intro a hE
         refine WL.no hE (runs_not hE rfl rfl rfl (by decide)) rfl ?_; clear hE a; intro a hE
         refine WL.no hE (runs_not hE rfl rfl rfl (by decide)) rfl ?_; clear hE a; intro a hE
         refine WL.no hE (runs_not hE rfl rfl rfl (by decide)) rfl ?_; clear hE a; intro a hE
         refine WL.no hE (runs_not hE rfl rfl rfl (by decide)) rfl ?_; clear hE a; intro a hE
         refine vP hS hE (Gives.pickT hE rfl rfl rfl) rfl ?_; clear hE a; intro a hE
         refine WL.nil ?_
         subst hK100
         exact ⟨true, hq95, hE.pick _ ⟨rfl, rfl, rfl, rfl, rfl, rfl, rfl, rfl, rfl, rfl, rfl, trivial⟩, hS⟩
        ·replace hq95 := iteF hg101 hq95
         refine WL.vS hS hE (runs_if hE rfl rfl rfl hg101) (Gives.fld hE rfl fl47_1) rfl ?_; clear hE a; intro a hE
         refine WL.vS hS hE (runs_if hE rfl rfl rfl hg101) (Gives.loadB hE 0 rfl rfl rfl ty3) rfl ?_; clear hE a; intro a hE
         refine WL.vS hS hE (runs_if hE rfl rfl rfl hg101) (Gives.p hE rfl) rfl ?_; clear hE a; intro a hE
         refine WL.vS hS hE (runs_if hE rfl rfl rfl hg101) (Gives.len hE rfl sl42) rfl ?_; clear hE a; intro a hE
         refine WL.vS hS hE (runs_if hE rfl rfl rfl hg101) (Gives.p hE rfl) rfl ?_; clear hE a; intro a hE
         refine vP hS hE (Gives.pickF hE rfl hg101 rfl) rfl ?_; clear hE a; intro a hE
         refine vP hS hE (Gives.p hE rfl) rfl ?_; clear hE a; intro a hE
         rcases Bool.eq_false_or_eq_true (decide (x58.On ≥ ((x80.Stops).length : Int))) with hg102 | hg102
         ·replace hq95 := iteT hg102 hq95
          refine WL.no hE (runs_not hE rfl rfl rfl (by rw [hg102]; decide)) rfl ?_; clear hE a; intro a hE
          refine WL.no hE (runs_not hE rfl rfl rfl (by rw [hg102]; decide)) rfl ?_; clear hE a; intro a hE
          refine WL.no hE (runs_not hE rfl rfl rfl (by rw [hg102]; decide)) rfl ?_; clear hE a; intro a hE
          refine vP hS hE (Gives.pickT hE rfl hg102 rfl) rfl ?_; clear hE a; intro a hE
          refine vP hS hE (Gives.p hE rfl) rfl ?_; clear hE a; intro a hE
          refine WL.no hE (runs_not hE rfl rfl rfl (by decide)) rfl ?_; clear hE a; intro a hE
          refine WL.no hE (runs_not hE rfl rfl rfl (by decide)) rfl ?_; clear hE a; intro a hE
          refine WL.no hE (runs_not hE rfl rfl rfl (by decide)) rfl ?_; clear hE a; intro a hE
          refine WL.no hE (runs_not hE rfl rfl rfl (by decide)) rfl ?_; clear hE a; intro a hE
          refine WL.no hE (runs_not hE rfl rfl rfl (by decide)) rfl ?_; clear hE a; intro a hE
          refine vP hS hE (Gives.pickT hE rfl rfl rfl) rfl ?_; clear hE a; intro a hE
          refine WL.nil ?_
          subst hK100
          exact ⟨true, hq95, hE.pick _ ⟨rfl, rfl, rfl, rfl, rfl, rfl, rfl, rfl, rfl, rfl, rfl, trivial⟩, hS⟩
         ·replace hq95 := iteF hg102 hq95
          refine WL.vS hS hE (runs_if hE rfl rfl rfl hg102) (Gives.fld hE rfl fl47_2) rfl ?_; clear hE a; intro a hE
          refine WL.vS hS hE (runs_if hE rfl rfl rfl hg102) (Gives.loadB hE 0 rfl rfl rfl ty3) rfl ?_; clear hE a; intro a hE
          refine WL.vS hS hE (runs_if hE rfl rfl rfl hg102) (Gives.p hE rfl) rfl ?_; clear hE a; intro a hE
          refine vP hS hE (Gives.pickF hE rfl hg102 rfl) rfl ?_; clear hE a; intro a hE
          refine vP hS hE (Gives.p hE rfl) rfl ?_; clear hE a; intro a hE
          rcases Bool.eq_false_or_eq_true (decide (x58.Off < 0)) with hg103 | hg103
          ·replace hq95 := iteT hg103 hq95
           refine WL.no hE (runs_not hE rfl rfl rfl (by rw [hg103]; decide)) rfl ?_; clear hE a; intro a hE
           refine WL.no hE (runs_not hE rfl rfl rfl (by rw [hg103]; decide)) rfl ?_; clear hE a; intro a hE
           refine WL.no hE (runs_not hE rfl rfl rfl (by rw [hg103]; decide)) rfl ?_; clear hE a; intro a hE
           refine WL.no hE (runs_not hE rfl rfl rfl (by rw [hg103]; decide)) rfl ?_; clear hE a; intro a hE
           refine WL.no hE (runs_not hE rfl rfl rfl (by rw [hg103]; decide)) rfl ?_; clear hE a; intro a hE
           refine vP hS hE (Gives.pickT hE rfl hg103 rfl) rfl ?_; clear hE a; intro a hE
           refine WL.nil ?_
           subst hK100
           exact ⟨true, hq95, hE.pick _ ⟨rfl, rfl, rfl, rfl, rfl, rfl, rfl, rfl, rfl, rfl, rfl, trivial⟩, hS⟩
          ·replace hq95 := iteF hg103 hq95
           refine WL.vS hS hE (runs_if hE rfl rfl rfl hg103) (Gives.fld hE rfl fl47_2) rfl ?_; clear hE a; intro a hE
           refine WL.vS hS hE (runs_if hE rfl rfl rfl hg103) (Gives.loadB hE 0 rfl rfl rfl ty3) rfl ?_; clear hE a; intro a hE
           refine WL.vS hS hE (runs_if hE rfl rfl rfl hg103) (Gives.p hE rfl) rfl ?_; clear hE a; intro a hE
           refine WL.vS hS hE (runs_if hE rfl rfl rfl hg103) (Gives.len hE rfl sl42) rfl ?_; clear hE a; intro a hE
           refine WL.vS hS hE (runs_if hE rfl rfl rfl hg103) (Gives.p hE rfl) rfl ?_; clear hE a; intro a hE
           refine vP hS hE (Gives.pickF hE rfl hg103 rfl) rfl ?_; clear hE a; intro a hE
           refine WL.nil ?_
           subst hK100
           exact ⟨decide (x58.Off ≥ ((x80.Stops).length : Int)), hq95, hE.pick _ ⟨rfl, rfl, rfl, rfl, rfl, rfl, rfl, rfl, rfl, rfl, rfl, trivial⟩, hS⟩
       ·clear hE hS a w; rintro a w ⟨q99, rfl, hE, hS⟩
        refine W.cond hE rfl (fun hc104 => ?_) (fun hc104 => ?_)
        ·replace hq55 := iteT hc104 hq55
         refine W.seq (W.region ?_)
         refine vP hS hE (Gives.p hE rfl) rfl ?_; clear hE a; intro a hE
         refine WL.nil ?_
         refine W.ret ?_
         subst hK66
         rw [← Option.some.inj hq55] at hr
         dsimp only at hr
         refine finG (fn := Tryd.f18) (rs := [.tmp 8]) (vs := [_]) hE rfl ⟨rfl, trivial⟩ ?_
         obtain rfl := Option.some.inj hr
         replace hS := hS.tail
         replace hS := hS.tail
         replace hS := hS.tail
         exact ⟨rfl, hS⟩
        ·replace hq55 := iteF hc104 hq55
         refine W.skip ?_
         refine W.seq ?_
         refine W.seq (W.region ?_)
         refine vP hS hE (Gives.fld hE rfl fl47_1) rfl ?_; clear hE a; intro a hE
         refine vP hS hE (Gives.loadB hE 0 rfl rfl rfl ty3) rfl ?_; clear hE a; intro a hE
         refine vP hS hE (Gives.fld hE rfl fl47_2) rfl ?_; clear hE a; intro a hE
         refine vP hS hE (Gives.loadB hE 0 rfl rfl rfl ty3) rfl ?_; clear hE a; intro a hE
         refine vP hS hE (Gives.p hE rfl) rfl ?_; clear hE a; intro a hE
         refine WL.nil ?_
         refine W.cond hE rfl (fun hc105 => ?_) (fun hc105 => ?_)
         ·replace hq55 := iteT hc105 hq55
          refine W.seq (W.region ?_)
          refine vP hS hE (Gives.p hE rfl) rfl ?_; clear hE a; intro a hE
          refine WL.nil ?_
          refine W.ret ?_
          subst hK66
          rw [← Option.some.inj hq55] at hr
          dsimp only at hr
          refine finG (fn := Tryd.f18) (rs := [.tmp 8]) (vs := [_]) hE rfl ⟨rfl, trivial⟩ ?_
          obtain rfl := Option.some.inj hr
          replace hS := hS.tail
          replace hS := hS.tail
          replace hS := hS.tail
          exact ⟨rfl, hS⟩
         ·replace hq55 := iteF hc105 hq55
          refine W.skip ?_
          refine W.seq ?_
          refine W.seq (W.region ?_)
          refine vP hS hE (Gives.p hE rfl) rfl ?_; clear hE a; intro a hE
          refine vP hS hE (Gives.p hE rfl) rfl ?_; clear hE a; intro a hE
          refine WL.nil ?_
          refine W.cond hE rfl (fun hc106 => ?_) (fun hc106 => ?_)
          ·replace hq55 := iteT hc106 hq55
           refine W.exit rfl ?_
           refine W.region ?_
           refine vP hS hE (Gives.inc hE rfl (by have := h1_0.small; omega)) rfl ?_; clear hE a; intro a hE
           refine vP hS hE (Gives.p hE rfl) rfl ?_; clear hE a; intro a hE
           refine WL.nil ?_
           replace hS := hS.tail
           subst hK66
           exact ⟨rest59.length, Nat.lt_succ_self _, rest59, k57 + 1, rfl, hd60, hq55, hE.pick _ ⟨rfl, rfl, rfl, rfl, rfl, rfl, rfl, trivial⟩, hS⟩
          ·replace hq55 := iteF hc106 hq55
           refine W.skip ?_
           refine W.seq (W.region ?_)
           refine vP hS hE (Gives.fld hE rfl fl28_0) rfl ?_; clear hE a; intro a hE
           refine vP hS hE (Gives.loadB hE 1 rfl rfl rfl ty26) rfl ?_; clear hE a; intro a hE
           refine vP hS hE (Gives.p hE rfl) rfl ?_; clear hE a; intro a hE
           refine vP hS hE (Gives.p hE rfl) rfl ?_; clear hE a; intro a hE
           obtain ⟨x107, hx108, hq55⟩ := bindS hq55
           obtain ⟨hi109, hlt110, hy111⟩ := gx_some hx108
           obtain ⟨cs112, hl113, hR114, hat115⟩ := h1_0.at hy111
           subst hR114
           refine vP hS hE (Gives.idx hE (w64 (((k57 : Nat) : Int) - 1)).toNat rfl rfl sl26 hi109 hlt110 (h1_0.aok hlt110)) rfl ?_; clear hE a; intro a hE
           refine vP hS hE (Gives.loadA hE rfl (fun w h => hat115 w _ h) ty47) rfl ?_; clear hE a; intro a hE
           refine WL.alloc hE hS (runs_plain rfl) zr47 rfl ?_; clear hE hS a w; intro b116 a w hE hS
           refine WL.storeI hE hS 0 rfl (GuideRide.cells x107) (runs_plain rfl) rfl rfl rfl ty47 rfl rfl rfl rfl ?_; clear hE hS a w; intro a w hE hS
           refine WL.nil ?_
           refine W.seq ?_
           refine W.gen fun K117 hK117 => ?_
           refine W.regionE (sel (fun w => St w s (pt b116 (.cells (GuideRide.cells x107).toArray 47 (0, 0)) :: pt b71 (.cells (GuideRide.cells x58).toArray 47 (0, 0)) :: pt b52 (.cells #[.slice a1_0 x1.Rides.length c1_0] 28 (0, 0)) :: pt b51 (.cells #[.slice a0_0 x0.Trains.length c0_0, .slice a0_1 x0.Turns.length c0_1] 25 (0, 0)) :: R)) (fun w => St w s (pt b116 (.cells (GuideRide.cells x107).toArray 47 (0, 0)) :: pt b71 (.cells (GuideRide.cells x58).toArray 47 (0, 0)) :: pt b52 (.cells #[.slice a1_0 x1.Rides.length c1_0] 28 (0, 0)) :: pt b51 (.cells #[.slice a0_0 x0.Trains.length c0_0, .slice a0_1 x0.Turns.length c0_1] 25 (0, 0)) :: R))) (fun b i => cond b ([0, 1, 2, 3, 4, 5, 6, 7, 8, 9, 10, 11, 12].contains i) ([0, 1, 2, 3, 4, 5, 6, 7, 8, 9, 10, 11, 12].contains i)) mixed ?_
           replace hS := hS.drew
           refine Rg.takeP (i := 0) hE rfl (by kernel_rfl) (runs_plain rfl) (Gives.fld hE rfl fl25_0) rfl (tw_sel (fun _ => hS) (fun _ => hS)) ?_; clear hE a; intro a hE
           have hT := tw_sel (A := fun w => St w s _) (B := fun w => St w s _) (w := _) (x := true) (y := true) (fun _ => hS) (fun _ => hS)
           have hF := hS; replace hS := hS
           refine Rg.take (i := 1) true rfl hE rfl (by kernel_rfl) (runs_plain rfl) (Gives.loadB hE 3 rfl rfl rfl ty22) rfl hT ?_; clear hE a; intro a hE
           replace hS := hF; clear hF hT
           refine Rg.takeP (i := 2) hE rfl (by kernel_rfl) (runs_plain rfl) (Gives.fld hE rfl fl47_0) rfl (tw_sel (fun _ => hS) (fun _ => hS)) ?_; clear hE a; intro a hE
           have hT := tw_sel (A := fun w => St w s _) (B := fun w => St w s _) (w := _) (x := true) (y := true) (fun _ => hS) (fun _ => hS)
           have hF := hS; replace hS := hS
           refine Rg.take (i := 3) true rfl hE rfl (by kernel_rfl) (runs_plain rfl) (Gives.loadB hE 0 rfl rfl rfl ty3) rfl hT ?_; clear hE a; intro a hE
           replace hS := hF; clear hF hT
           obtain ⟨x118, hx119, hq55⟩ := bindS hq55
           obtain ⟨hi120, hlt121, hy122⟩ := gx_some hx119
           obtain ⟨cs123, hl124, hR125, hat126⟩ := h0_0.at hy122
           obtain ⟨a127, c128, a130, c131, rfl, h129, h132⟩ := hR125
           refine Rg.takeP (i := 4) hE rfl (by kernel_rfl) (runs_plain rfl) (Gives.idx hE (x107.Train).toNat rfl rfl sl22 hi120 hlt121 (h0_0.aok hlt121)) rfl (tw_sel (fun _ => hS) (fun _ => hS)) ?_; clear hE a; intro a hE
           refine Rg.takeP (i := 5) hE rfl (by kernel_rfl) (runs_plain rfl) (Gives.fld hE rfl fl44_2) rfl (tw_sel (fun _ => hS) (fun _ => hS)) ?_; clear hE a; intro a hE
           have hT := tw_sel (A := fun w => St w s _) (B := fun w => St w s _) (w := _) (x := true) (y := true) (fun _ => hS) (fun _ => hS)
           have hF := hS; replace hS := hS
           refine Rg.take (i := 6) true rfl hE rfl (by kernel_rfl) (runs_plain rfl) (Gives.load1 hE rfl (fun w h => (hat126 w _ h).one rfl) ty42) rfl hT ?_; clear hE a; intro a hE
           replace hS := hF; clear hF hT
           refine Rg.takeP (i := 7) hE rfl (by kernel_rfl) (runs_plain rfl) (Gives.fld hE rfl fl47_2) rfl (tw_sel (fun _ => hS) (fun _ => hS)) ?_; clear hE a; intro a hE
           have hT := tw_sel (A := fun w => St w s _) (B := fun w => St w s _) (w := _) (x := true) (y := true) (fun _ => hS) (fun _ => hS)
           have hF := hS; replace hS := hS
           refine Rg.take (i := 8) true rfl hE rfl (by kernel_rfl) (runs_plain rfl) (Gives.loadB hE 0 rfl rfl rfl ty3) rfl hT ?_; clear hE a; intro a hE
           replace hS := hF; clear hF hT
           obtain ⟨x133, hx134, hq55⟩ := bindS hq55
           obtain ⟨hi135, hlt136, hy137⟩ := gx_some hx134
           obtain ⟨cs138, hl139, hR140, hat141⟩ := h129.at hy137
           subst hR140
           refine Rg.takeP (i := 9) hE rfl (by kernel_rfl) (runs_plain rfl) (Gives.idx hE (x107.Off).toNat rfl rfl sl42 hi135 hlt136 (h129.aok hlt136)) rfl (tw_sel (fun _ => hS) (fun _ => hS)) ?_; clear hE a; intro a hE
           have hT := tw_sel (A := fun w => St w s _) (B := fun w => St w s _) (w := _) (x := true) (y := true) (fun _ => hS) (fun _ => hS)
           have hF := hS; replace hS := hS
           refine Rg.take (i := 10) true rfl hE rfl (by kernel_rfl) (runs_plain rfl) (Gives.loadA hE rfl (fun w h => hat141 w _ h) ty106) rfl hT ?_; clear hE a; intro a hE
           replace hS := hF; clear hF hT
           refine Rg.one (i := 11) true true rfl (by kernel_rfl) (by kernel_rfl) (by kernel_rfl) ?_
           refine WL.alloc hE hS (runs_plain rfl) zr106 rfl ?_; clear hE hS a w; intro b142 a w hE hS
           refine WL.nil ?_
           refine ⟨⟨fun _ => (hS.tail), fun _ => (hS.tail)⟩, ?_⟩
           refine Rg.one (i := 12) true true rfl (by kernel_rfl) (by kernel_rfl) (by kernel_rfl) ?_
           refine WL.storeI hE hS 0 rfl (ApiStop.cells x133) (runs_plain rfl) rfl rfl rfl ty106 rfl rfl rfl rfl ?_; clear hE hS a w; intro a w hE hS
           refine WL.nil ?_
           refine ⟨⟨fun _ => (hS.tail), fun _ => (hS.tail)⟩, ?_⟩
           refine Rg.done (by kernel_rfl) ?_
           subst hK117
           refine W.seq ?_
           refine W.seq ?_
           obtain ⟨q144, hq143, hq55⟩ := bindS hq55
           refine W.cut (fun a w => ∃ (q147 : Bool), q147 = q144 ∧ Rep a 125 [(2, .int .i64 x2), (3, .bool x3), (4, .pointer (some ⟨b51, 0, none⟩)), (5, .pointer (some ⟨b52, 0, none⟩)), (10, .pointer (some ⟨b71, 0, none⟩)), (11, .slice a89 x80.Stops.length c90), (13, .pointer (some ⟨b142, 0, none⟩)), (23, .slice a1_0 x1.Rides.length c1_0), (24, .int .i64 ((x1.Rides).length : Int)), (25, .int .i64 ((k57 : Nat) : Int)), (109, .bool q147)] ∧ St w s (pt b142 (.cells (ApiStop.cells x133).toArray 106 (0, 0)) :: pt b116 (.cells (GuideRide.cells x107).toArray 47 (0, 0)) :: pt b71 (.cells (GuideRide.cells x58).toArray 47 (0, 0)) :: pt b52 (.cells #[.slice a1_0 x1.Rides.length c1_0] 28 (0, 0)) :: pt b51 (.cells #[.slice a0_0 x0.Trains.length c0_0, .slice a0_1 x0.Turns.length c0_1] 25 (0, 0)) :: R)) ?_ ?_
           ·refine W.gen fun K148 hK148 => ?_
            refine W.regionQ (C := fun w => St w s (pt b142 (.cells (ApiStop.cells x133).toArray 106 (0, 0)) :: pt b116 (.cells (GuideRide.cells x107).toArray 47 (0, 0)) :: pt b71 (.cells (GuideRide.cells x58).toArray 47 (0, 0)) :: pt b52 (.cells #[.slice a1_0 x1.Rides.length c1_0] 28 (0, 0)) :: pt b51 (.cells #[.slice a0_0 x0.Trains.length c0_0, .slice a0_1 x0.Turns.length c0_1] 25 (0, 0)) :: R)) mixed (by kernel_rfl) hS.drew ?_
            refine qP hE (Gives.fld hE rfl fl47_0) rfl ?_; clear hE a; intro a hE
            refine qP hE (Gives.loadB hE 1 rfl rfl rfl ty3) rfl ?_; clear hE a; intro a hE
            refine qP hE (Gives.fld hE rfl fl47_0) rfl ?_; clear hE a; intro a hE
            refine qP hE (Gives.loadB hE 2 rfl rfl rfl ty3) rfl ?_; clear hE a; intro a hE
            refine qP hE (Gives.p hE rfl) rfl ?_; clear hE a; intro a hE
            refine qP hE (Gives.p hE rfl) rfl ?_; clear hE a; intro a hE
            rcases Bool.eq_false_or_eq_true (x107.Train == x58.Train) with hg149 | hg149
            ·replace hq143 := iteT hg149 hq143
             refine QL.no hE (runs_not hE rfl rfl rfl (by rw [hg149]; decide)) rfl ?_; clear hE a; intro a hE
             refine QL.no hE (runs_not hE rfl rfl rfl (by rw [hg149]; decide)) rfl ?_; clear hE a; intro a hE
             refine QL.no hE (runs_not hE rfl rfl rfl (by rw [hg149]; decide)) rfl ?_; clear hE a; intro a hE
             refine QL.no hE (runs_not hE rfl rfl rfl (by rw [hg149]; decide)) rfl ?_; clear hE a; intro a hE
             refine QL.no hE (runs_not hE rfl rfl rfl (by rw [hg149]; decide)) rfl ?_; clear hE a; intro a hE
             refine QL.no hE (runs_not hE rfl rfl rfl (by rw [hg149]; decide)) rfl ?_; clear hE a; intro a hE
             refine QL.no hE (runs_not hE rfl rfl rfl (by rw [hg149]; decide)) rfl ?_; clear hE a; intro a hE
             refine QL.no hE (runs_not hE rfl rfl rfl (by rw [hg149]; decide)) rfl ?_; clear hE a; intro a hE
             refine QL.no hE (runs_not hE rfl rfl rfl (by rw [hg149]; decide)) rfl ?_; clear hE a; intro a hE
             refine qP hE (Gives.pickT hE rfl hg149 rfl) rfl ?_; clear hE a; intro a hE
             refine QL.nil ?_; clear hS w; intro w hS
             subst hK148
             exact ⟨true, Option.some.inj hq143, hE.pick _ ⟨rfl, rfl, rfl, rfl, rfl, rfl, rfl, rfl, rfl, rfl, rfl, trivial⟩, hS⟩
            ·replace hq143 := iteF hg149 hq143
             refine QL.v hE (runs_if hE rfl rfl rfl hg149) (Gives.p hE rfl) rfl ?_; clear hE a; intro a hE
             refine QL.v hE (runs_if hE rfl rfl rfl hg149) (Gives.fld hE rfl fl47_1) rfl ?_; clear hE a; intro a hE
             refine QL.v hE (runs_if hE rfl rfl rfl hg149) (Gives.loadB hE 2 rfl rfl rfl ty3) rfl ?_; clear hE a; intro a hE
             obtain ⟨x150, hx151, hq143⟩ := bindS hq143
             obtain ⟨hi152, hlt153, hy154⟩ := gx_some hx151
             obtain ⟨cs155, hl156, hR157, hat158⟩ := h91.at hy154
             subst hR157
             refine QL.v hE (runs_if hE rfl rfl rfl hg149) (Gives.idx hE (x58.On).toNat rfl rfl sl42 hi152 hlt153 (h91.aok hlt153)) rfl ?_; clear hE a; intro a hE
             refine QL.v hE (runs_if hE rfl rfl rfl hg149) (Gives.fld hE rfl fl106_0) rfl ?_; clear hE a; intro a hE
             refine QL.v hE (runs_if hE rfl rfl rfl hg149) (Gives.load1 hE rfl (fun w h => (hat158 w _ h).one rfl) ty3) rfl ?_; clear hE a; intro a hE
             refine QL.v hE (runs_if hE rfl rfl rfl hg149) (Gives.fld hE rfl fl106_0) rfl ?_; clear hE a; intro a hE
             refine QL.v hE (runs_if hE rfl rfl rfl hg149) (Gives.loadB hE 0 rfl rfl rfl ty3) rfl ?_; clear hE a; intro a hE
             refine QL.v hE (runs_if hE rfl rfl rfl hg149) (Gives.p hE rfl) rfl ?_; clear hE a; intro a hE
             refine qP hE (Gives.pickF hE rfl hg149 rfl) rfl ?_; clear hE a; intro a hE
             refine QL.nil ?_; clear hS w; intro w hS
             subst hK148
             exact ⟨(x150.Station != x133.Station), Option.some.inj hq143, hE.pick _ ⟨rfl, rfl, rfl, rfl, rfl, rfl, rfl, rfl, rfl, rfl, rfl, trivial⟩, hS⟩
           ·clear hE hS a w; rintro a w ⟨q147, rfl, hE, hS⟩
            refine W.cond hE rfl (fun hc159 => ?_) (fun hc159 => ?_)
            ·replace hq55 := iteT hc159 hq55
             refine W.seq (W.region ?_)
             refine vP hS hE (Gives.p hE rfl) rfl ?_; clear hE a; intro a hE
             refine WL.nil ?_
             refine W.ret ?_
             subst hK66
             rw [← Option.some.inj hq55] at hr
             dsimp only at hr
             refine finG (fn := Tryd.f18) (rs := [.tmp 8]) (vs := [_]) hE rfl ⟨rfl, trivial⟩ ?_
             obtain rfl := Option.some.inj hr
             replace hS := hS.tail
             replace hS := hS.tail
             replace hS := hS.tail
             replace hS := hS.tail
             replace hS := hS.tail
             exact ⟨rfl, hS⟩
            ·replace hq55 := iteF hc159 hq55
             refine W.skip ?_
             refine W.seq ?_
             obtain ⟨q161, hq160, hq55⟩ := bindS hq55
             refine W.cut (fun a w => ∃ (q164 : Bool), q164 = q161 ∧ Rep a 125 [(2, .int .i64 x2), (3, .bool x3), (4, .pointer (some ⟨b51, 0, none⟩)), (5, .pointer (some ⟨b52, 0, none⟩)), (23, .slice a1_0 x1.Rides.length c1_0), (24, .int .i64 ((x1.Rides).length : Int)), (25, .int .i64 ((k57 : Nat) : Int)), (123, .bool q164)] ∧ St w s (pt b142 (.cells (ApiStop.cells x133).toArray 106 (0, 0)) :: pt b116 (.cells (GuideRide.cells x107).toArray 47 (0, 0)) :: pt b71 (.cells (GuideRide.cells x58).toArray 47 (0, 0)) :: pt b52 (.cells #[.slice a1_0 x1.Rides.length c1_0] 28 (0, 0)) :: pt b51 (.cells #[.slice a0_0 x0.Trains.length c0_0, .slice a0_1 x0.Turns.length c0_1] 25 (0, 0)) :: R)) ?_ ?_
             ·refine W.gen fun K165 hK165 => ?_
              refine W.regionQ (C := fun w => St w s (pt b142 (.cells (ApiStop.cells x133).toArray 106 (0, 0)) :: pt b116 (.cells (GuideRide.cells x107).toArray 47 (0, 0)) :: pt b71 (.cells (GuideRide.cells x58).toArray 47 (0, 0)) :: pt b52 (.cells #[.slice a1_0 x1.Rides.length c1_0] 28 (0, 0)) :: pt b51 (.cells #[.slice a0_0 x0.Trains.length c0_0, .slice a0_1 x0.Turns.length c0_1] 25 (0, 0)) :: R)) mixed (by kernel_rfl) hS.drew ?_
              refine qP hE (Gives.p hE rfl) rfl ?_; clear hE a; intro a hE
              refine qP hE (Gives.p hE rfl) rfl ?_; clear hE a; intro a hE
              rcases Bool.eq_false_or_eq_true x3 with hg166 | hg166
              ·replace hq160 := iteT hg166 hq160
               refine QL.v hE (runs_if hE rfl rfl rfl hg166) (Gives.p hE rfl) rfl ?_; clear hE a; intro a hE
               refine QL.v hE (runs_if hE rfl rfl rfl hg166) (Gives.fld hE rfl fl47_1) rfl ?_; clear hE a; intro a hE
               refine QL.v hE (runs_if hE rfl rfl rfl hg166) (Gives.loadB hE 2 rfl rfl rfl ty3) rfl ?_; clear hE a; intro a hE
               obtain ⟨x167, hx168, hq160⟩ := bindS hq160
               obtain ⟨hi169, hlt170, hy171⟩ := gx_some hx168
               obtain ⟨cs172, hl173, hR174, hat175⟩ := h91.at hy171
               subst hR174
               refine QL.v hE (runs_if hE rfl rfl rfl hg166) (Gives.idx hE (x58.On).toNat rfl rfl sl42 hi169 hlt170 (h91.aok hlt170)) rfl ?_; clear hE a; intro a hE
               refine QL.v hE (runs_if hE rfl rfl rfl hg166) (Gives.fld hE rfl fl106_3) rfl ?_; clear hE a; intro a hE
               refine QL.v hE (runs_if hE rfl rfl rfl hg166) (Gives.load1 hE rfl (fun w h => (hat175 w _ h).one rfl) ty3) rfl ?_; clear hE a; intro a hE
               refine QL.v hE (runs_if hE rfl rfl rfl hg166) (Gives.fld hE rfl fl106_2) rfl ?_; clear hE a; intro a hE
               refine QL.v hE (runs_if hE rfl rfl rfl hg166) (Gives.loadB hE 0 rfl rfl rfl ty3) rfl ?_; clear hE a; intro a hE
               refine QL.v hE (runs_if hE rfl rfl rfl hg166) (Gives.p hE rfl) rfl ?_; clear hE a; intro a hE
               refine QL.v hE (runs_if hE rfl rfl rfl hg166) (Gives.p hE rfl) rfl ?_; clear hE a; intro a hE
               refine QL.v hE (runs_if hE rfl rfl rfl hg166) (Gives.p hE rfl) rfl ?_; clear hE a; intro a hE
               refine qP hE (Gives.pickT hE rfl hg166 rfl) rfl ?_; clear hE a; intro a hE
               refine QL.nil ?_; clear hS w; intro w hS
               subst hK165
               exact ⟨decide (x167.Dep < (w64 (x133.Arr + x2))), Option.some.inj hq160, hE.pick _ ⟨rfl, rfl, rfl, rfl, rfl, rfl, rfl, rfl, trivial⟩, hS⟩
              ·replace hq160 := iteF hg166 hq160
               refine QL.no hE (runs_not hE rfl rfl rfl (by rw [hg166]; decide)) rfl ?_; clear hE a; intro a hE
               refine QL.no hE (runs_not hE rfl rfl rfl (by rw [hg166]; decide)) rfl ?_; clear hE a; intro a hE
               refine QL.no hE (runs_not hE rfl rfl rfl (by rw [hg166]; decide)) rfl ?_; clear hE a; intro a hE
               refine QL.no hE (runs_not hE rfl rfl rfl (by rw [hg166]; decide)) rfl ?_; clear hE a; intro a hE
               refine QL.no hE (runs_not hE rfl rfl rfl (by rw [hg166]; decide)) rfl ?_; clear hE a; intro a hE
               refine QL.no hE (runs_not hE rfl rfl rfl (by rw [hg166]; decide)) rfl ?_; clear hE a; intro a hE
               refine QL.no hE (runs_not hE rfl rfl rfl (by rw [hg166]; decide)) rfl ?_; clear hE a; intro a hE
               refine QL.no hE (runs_not hE rfl rfl rfl (by rw [hg166]; decide)) rfl ?_; clear hE a; intro a hE
               refine QL.no hE (runs_not hE rfl rfl rfl (by rw [hg166]; decide)) rfl ?_; clear hE a; intro a hE
               refine QL.no hE (runs_not hE rfl rfl rfl (by rw [hg166]; decide)) rfl ?_; clear hE a; intro a hE
               refine QL.no hE (runs_not hE rfl rfl rfl (by rw [hg166]; decide)) rfl ?_; clear hE a; intro a hE
               refine qP hE (Gives.pickF hE rfl hg166 rfl) rfl ?_; clear hE a; intro a hE
               refine QL.nil ?_; clear hS w; intro w hS
               subst hK165
               exact ⟨false, Option.some.inj hq160, hE.pick _ ⟨rfl, rfl, rfl, rfl, rfl, rfl, rfl, rfl, trivial⟩, hS⟩
             ·clear hE hS a w; rintro a w ⟨q164, rfl, hE, hS⟩
              refine W.cond hE rfl (fun hc176 => ?_) (fun hc176 => ?_)
              ·replace hq55 := iteT hc176 hq55
               refine W.seq (W.region ?_)
               refine vP hS hE (Gives.p hE rfl) rfl ?_; clear hE a; intro a hE
               refine WL.nil ?_
               refine W.ret ?_
               subst hK66
               rw [← Option.some.inj hq55] at hr
               dsimp only at hr
               refine finG (fn := Tryd.f18) (rs := [.tmp 8]) (vs := [_]) hE rfl ⟨rfl, trivial⟩ ?_
               obtain rfl := Option.some.inj hr
               replace hS := hS.tail
               replace hS := hS.tail
               replace hS := hS.tail
               replace hS := hS.tail
               replace hS := hS.tail
               exact ⟨rfl, hS⟩
              ·replace hq55 := iteF hc176 hq55
               refine W.skip ?_
               refine W.region ?_
               refine vP hS hE (Gives.inc hE rfl (by have := h1_0.small; omega)) rfl ?_; clear hE a; intro a hE
               refine vP hS hE (Gives.p hE rfl) rfl ?_; clear hE a; intro a hE
               refine WL.nil ?_
               replace hS := hS.tail
               replace hS := hS.tail
               replace hS := hS.tail
               subst hK66
               exact ⟨rest59.length, Nat.lt_succ_self _, rest59, k57 + 1, rfl, hd60, hq55, hE.pick _ ⟨rfl, rfl, rfl, rfl, rfl, rfl, rfl, trivial⟩, hS⟩
   ·clear hE hS a w; rintro a w ⟨rfl, hE, hS⟩
    dsimp only at hr
    refine W.seq (W.region ?_)
    refine vP hS hE (Gives.p hE rfl) rfl ?_; clear hE a; intro a hE
    refine WL.nil ?_
    refine W.ret ?_
    refine finG (fn := Tryd.f18) (rs := [.tmp 8]) (vs := [_]) hE rfl ⟨rfl, trivial⟩ ?_
    obtain rfl := Option.some.inj hr
    replace hS := hS.tail
    replace hS := hS.tail
    exact ⟨rfl, hS⟩
set_option maxHeartbeats 8000000 in
theorem Fishref2OddsFault_ok  {w : World} {s : Sg} {R : List HP} {x0 : ApiDay} {a0_0 : Option Addr} {c0_0 : Nat} {a0_1 : Option Addr} {c0_1 : Nat} {x1 : List GuideOdds} {a1 : Option Addr} {c1 : Nat} (hS : St w s (R)) (_h0_0 : Sl 4 RApiTrain s a0_0 c0_0 x0.Trains) (_h0_1 : Sl 1 (RL 1 (RI .i64)) s a0_1 c0_1 x0.Turns) (h1 : Sl 3 RGuideOdds s a1 c1 x1) {r : Int} (hr : Fishref2OddsFault x0 x1 = some r) :
  Calls Tryd.prog 33 [.agg [.slice a0_0 x0.Trains.length c0_0, .slice a0_1 x0.Turns.length c0_1].toArray, .slice a1 x1.length c1].toArray w (fun e w => e = .returned (.int .i64 r) ∧ St w s (R)) := by
 refine enter Tryd.func33 rfl rfl rfl fun a hE => ?_
 rw [Fishref2OddsFault] at hr
 refine W.seq (W.region ?_)
 refine WL.box hE hS (runs_plain rfl) rfl rfl rfl ?_; clear hE hS a w; intro b51 a w hE hS
 refine vP hS hE (Gives.p hE rfl) rfl ?_; clear hE a; intro a hE
 refine WL.nil ?_
 refine W.seq ?_
 refine W.seq (W.region ?_)
 refine vP hS hE (Gives.p hE rfl) rfl ?_; clear hE a; intro a hE
 refine vP hS hE (Gives.len hE rfl sl66) rfl ?_; clear hE a; intro a hE
 refine vP hS hE (Gives.p hE rfl) rfl ?_; clear hE a; intro a hE
 refine WL.nil ?_
 refine W.cond hE rfl (fun hc52 => ?_) (fun hc52 => ?_)
 ·replace hr := iteT hc52 hr
  refine W.seq (W.region ?_)
  refine vP hS hE (Gives.p hE rfl) rfl ?_; clear hE a; intro a hE
  refine WL.nil ?_
  refine W.ret ?_
  refine finG (fn := Tryd.f33) (rs := [.tmp 4]) (vs := [_]) hE rfl ⟨rfl, trivial⟩ ?_
  obtain rfl := Option.some.inj hr
  replace hS := hS.tail
  exact ⟨rfl, hS⟩
 ·replace hr := iteF hc52 hr
  refine W.skip ?_
  refine W.seq ?_
  refine W.seq (W.region ?_)
  refine vP hS hE (Gives.p hE rfl) rfl ?_; clear hE a; intro a hE
  refine vP hS hE (Gives.len hE rfl sl66) rfl ?_; clear hE a; intro a hE
  refine vP hS hE (Gives.p hE rfl) rfl ?_; clear hE a; intro a hE
  refine WL.nil ?_
  obtain ⟨q54, hq53, hr⟩ := bindS hr
  refine W.cut (fun a w => (.next ()) = q54 ∧ Rep a 92 [] ∧ St w s (pt b51 (.cells #[.slice a0_0 x0.Trains.length c0_0, .slice a0_1 x0.Turns.length c0_1] 25 (0, 0)) :: R)) ?_ ?_
  ·refine W.block ?_
   refine W.loop (fun m a w => ∃ (rest57 : List GuideOdds) (k55 : Nat), rest57.length = m ∧ x1.drop k55 = rest57 ∧ Fishref2OddsFault.loop1 x0 x1 rest57 k55 = some q54 ∧ Rep a 92 [(1, .slice a1 x1.length c1), (2, .pointer (some ⟨b51, 0, none⟩)), (14, .slice a1 x1.length c1), (15, .int .i64 ((x1).length : Int)), (16, .int .i64 ((k55 : Nat) : Int))] ∧ St w s (pt b51 (.cells #[.slice a0_0 x0.Trains.length c0_0, .slice a0_1 x0.Turns.length c0_1] 25 (0, 0)) :: R)) (m := x1.length) ⟨x1, 0, rfl, rfl, hq53, hE.pick _ ⟨rfl, rfl, rfl, rfl, rfl, trivial⟩, hS⟩ ?_
   clear hE hS a w hq53; rintro m61 a w ⟨rest57, k55, rfl, hd58, hq53, hE, hS⟩
   refine W.gen fun K64 hK64 => ?_
   rcases rest57 with _ | ⟨x56, rest57⟩
   ·have hlt59 := drop_nil hd58
    refine W.seq (W.region ?_)
    refine vP hS hE (Gives.p hE rfl) rfl ?_; clear hE a; intro a hE
    refine WL.nil ?_
    refine W.seq ?_
    refine W.condF hE rfl (decide_eq_false (by omega)) ?_
    subst hK64
    refine W.exit rfl ?_
    exact ⟨Option.some.inj hq53, hE.pick _ trivial, hS⟩
   ·obtain ⟨hlt59, hx60, hd58⟩ := drop_cons hd58
    rw [Fishref2OddsFault.loop1] at hq53
    refine W.seq (W.region ?_)
    refine vP hS hE (Gives.p hE rfl) rfl ?_; clear hE a; intro a hE
    refine WL.nil ?_
    refine W.seq ?_
    refine W.condT hE rfl (decide_eq_true (by omega)) ?_
    refine W.skip ?_
    refine W.seq ?_
    refine W.block ?_
    refine W.seq (W.region ?_)
    refine vP hS hE (Gives.p hE rfl) rfl ?_; clear hE a; intro a hE
    obtain ⟨cs65, hl66, hR67, hat68⟩ := h1.at hx60
    obtain ⟨a69, c70, a72, c73, rfl, h71, h74⟩ := hR67
    refine vP hS hE (Gives.idx hE k55 rfl rfl sl66 rfl hlt59 (h1.aok hlt59)) rfl ?_; clear hE a; intro a hE
    refine vP hS hE (Gives.loadA hE rfl (fun w h => hat68 w _ h) ty143) rfl ?_; clear hE a; intro a hE
    refine WL.alloc hE hS (runs_plain rfl) zr143 rfl ?_; clear hE hS a w; intro b75 a w hE hS
    refine vP hS hE (Gives.p hE rfl) rfl ?_; clear hE a; intro a hE
    refine WL.storeI hE hS 0 rfl [.int .i64 x56.Train, .slice a69 x56.Late.length c70, .slice a72 x56.Weight.length c73] (runs_plain rfl) rfl rfl rfl ty143 rfl rfl rfl rfl ?_; clear hE hS a w; intro a w hE hS
    refine WL.nil ?_
    refine W.seq ?_
    refine W.seq ?_
    obtain ⟨q77, hq76, hq53⟩ := bndS hq53
    refine W.cut (fun a w => ∃ (q80 : Bool), q80 = q77 ∧ Rep a 92 [(1, .slice a1 x1.length c1), (2, .pointer (some ⟨b51, 0, none⟩)), (5, .int .i64 ((k55 : Nat) : Int)), (6, .pointer (some ⟨b75, 0, none⟩)), (14, .slice a1 x1.length c1), (15, .int .i64 ((x1).length : Int)), (16, .int .i64 ((k55 : Nat) : Int)), (31, .bool q80)] ∧ St w s (pt b75 (.cells #[.int .i64 x56.Train, .slice a69 x56.Late.length c70, .slice a72 x56.Weight.length c73] 143 (0, 0)) :: pt b51 (.cells #[.slice a0_0 x0.Trains.length c0_0, .slice a0_1 x0.Turns.length c0_1] 25 (0, 0)) :: R)) ?_ ?_
    ·refine W.gen fun K81 hK81 => ?_
     refine W.region ?_
     refine vP hS hE (Gives.fld hE rfl fl143_0) rfl ?_; clear hE a; intro a hE
     refine vP hS hE (Gives.loadB hE 0 rfl rfl rfl ty3) rfl ?_; clear hE a; intro a hE
     refine vP hS hE (Gives.p hE rfl) rfl ?_; clear hE a; intro a hE
     refine vP hS hE (Gives.p hE rfl) rfl ?_; clear hE a; intro a hE
     rcases Bool.eq_false_or_eq_true (decide (x56.Train < 0)) with hg82 | hg82
     ·replace hq76 := iteT hg82 hq76
      refine WL.no hE (runs_not hE rfl rfl rfl (by rw [hg82]; decide)) rfl ?_; clear hE a; intro a hE
      refine WL.no hE (runs_not hE rfl rfl rfl (by rw [hg82]; decide)) rfl ?_; clear hE a; intro a hE
      refine WL.no hE (runs_not hE rfl rfl rfl (by rw [hg82]; decide)) rfl ?_; clear hE a; intro a hE
      refine WL.no hE (runs_not hE rfl rfl rfl (by rw [hg82]; decide)) rfl ?_; clear hE a; intro a hE
      refine WL.no hE (runs_not hE rfl rfl rfl (by rw [hg82]; decide)) rfl ?_; clear hE a; intro a hE
      refine WL.no hE (runs_not hE rfl rfl rfl (by rw [hg82]; decide)) rfl ?_; clear hE a; intro a hE
      refine vP hS hE (Gives.pickT hE rfl hg82 rfl) rfl ?_; clear hE a; intro a hE
      refine WL.nil ?_
      subst hK81
      exact ⟨true, hq76, hE.pick _ ⟨rfl, rfl, rfl, rfl, rfl, rfl, rfl, rfl, trivial⟩, hS⟩
     ·replace hq76 := iteF hg82 hq76
      refine WL.vS hS hE (runs_if hE rfl rfl rfl hg82) (Gives.fld hE rfl fl143_0) rfl ?_; clear hE a; intro a hE
      refine WL.vS hS hE (runs_if hE rfl rfl rfl hg82) (Gives.loadB hE 0 rfl rfl rfl ty3) rfl ?_; clear hE a; intro a hE
      refine WL.vS hS hE (runs_if hE rfl rfl rfl hg82) (Gives.fld hE rfl fl25_0) rfl ?_; clear hE a; intro a hE
      refine WL.vS hS hE (runs_if hE rfl rfl rfl hg82) (Gives.loadB hE 1 rfl rfl rfl ty22) rfl ?_; clear hE a; intro a hE
      refine WL.vS hS hE (runs_if hE rfl rfl rfl hg82) (Gives.len hE rfl sl22) rfl ?_; clear hE a; intro a hE
      refine WL.vS hS hE (runs_if hE rfl rfl rfl hg82) (Gives.p hE rfl) rfl ?_; clear hE a; intro a hE
      refine vP hS hE (Gives.pickF hE rfl hg82 rfl) rfl ?_; clear hE a; intro a hE
      refine WL.nil ?_
      subst hK81
      exact ⟨decide (x56.Train ≥ ((x0.Trains).length : Int)), hq76, hE.pick _ ⟨rfl, rfl, rfl, rfl, rfl, rfl, rfl, rfl, trivial⟩, hS⟩
    ·clear hE hS a w; rintro a w ⟨q80, rfl, hE, hS⟩
     refine W.cond hE rfl (fun hc83 => ?_) (fun hc83 => ?_)
     ·replace hq53 := iteT hc83 hq53
      refine W.seq (W.region ?_)
      refine vP hS hE (Gives.p hE rfl) rfl ?_; clear hE a; intro a hE
      refine WL.nil ?_
      refine W.ret ?_
      subst hK64
      rw [← Option.some.inj hq53] at hr
      dsimp only at hr
      refine finG (fn := Tryd.f33) (rs := [.tmp 4]) (vs := [_]) hE rfl ⟨rfl, trivial⟩ ?_
      obtain rfl := Option.some.inj hr
      replace hS := hS.tail
      replace hS := hS.tail
      exact ⟨rfl, hS⟩
     ·replace hq53 := iteF hc83 hq53
      refine W.skip ?_
      refine W.seq ?_
      refine W.seq (W.region ?_)
      refine vP hS hE (Gives.p hE rfl) rfl ?_; clear hE a; intro a hE
      refine vP hS hE (Gives.p hE rfl) rfl ?_; clear hE a; intro a hE
      obtain ⟨x84, hx85, hq53⟩ := bindS hq53
      obtain ⟨a86, c87, heq88, h89⟩ := h1.cut hx85
      obtain ⟨h90, h91, h92, _⟩ := cutl_some hx85
      refine vP hS hE (Gives.slH hE sl66 rfl rfl (by omega) (by have := h1.len; omega) heq88) rfl ?_; clear hE a; intro a hE
      refine vP hS hE (Gives.len hE rfl sl66) rfl ?_; clear hE a; intro a hE
      refine vP hS hE (Gives.p hE rfl) rfl ?_; clear hE a; intro a hE
      refine WL.nil ?_
      obtain ⟨q94, hq93, hq53⟩ := bndS hq53
      refine W.cut (fun a w => (.next ()) = q94 ∧ Rep a 92 [(1, .slice a1 x1.length c1), (2, .pointer (some ⟨b51, 0, none⟩)), (6, .pointer (some ⟨b75, 0, none⟩)), (14, .slice a1 x1.length c1), (15, .int .i64 ((x1).length : Int)), (16, .int .i64 ((k55 : Nat) : Int))] ∧ St w s (pt b75 (.cells #[.int .i64 x56.Train, .slice a69 x56.Late.length c70, .slice a72 x56.Weight.length c73] 143 (0, 0)) :: pt b51 (.cells #[.slice a0_0 x0.Trains.length c0_0, .slice a0_1 x0.Turns.length c0_1] 25 (0, 0)) :: R)) ?_ ?_
      ·refine W.block ?_
       refine W.loop (fun m a w => ∃ (rest97 : List GuideOdds) (k95 : Nat), rest97.length = m ∧ x84.drop k95 = rest97 ∧ Fishref2OddsFault.loop2 x56 rest97 = q94 ∧ Rep a 92 [(1, .slice a1 x1.length c1), (2, .pointer (some ⟨b51, 0, none⟩)), (6, .pointer (some ⟨b75, 0, none⟩)), (14, .slice a1 x1.length c1), (15, .int .i64 ((x1).length : Int)), (16, .int .i64 ((k55 : Nat) : Int)), (34, .slice a86 x84.length c87), (35, .int .i64 ((x84).length : Int)), (36, .int .i64 ((k95 : Nat) : Int))] ∧ St w s (pt b75 (.cells #[.int .i64 x56.Train, .slice a69 x56.Late.length c70, .slice a72 x56.Weight.length c73] 143 (0, 0)) :: pt b51 (.cells #[.slice a0_0 x0.Trains.length c0_0, .slice a0_1 x0.Turns.length c0_1] 25 (0, 0)) :: R)) (m := x84.length) ⟨x84, 0, rfl, rfl, hq93, hE.pick _ ⟨rfl, rfl, rfl, rfl, rfl, rfl, rfl, rfl, rfl, trivial⟩, hS⟩ ?_
       clear hE hS a w hq93; rintro m101 a w ⟨rest97, k95, rfl, hd98, hq93, hE, hS⟩
       refine W.gen fun K104 hK104 => ?_
       rcases rest97 with _ | ⟨x96, rest97⟩
       ·have hlt99 := drop_nil hd98
        refine W.seq (W.region ?_)
        refine vP hS hE (Gives.p hE rfl) rfl ?_; clear hE a; intro a hE
        refine WL.nil ?_
        refine W.seq ?_
        refine W.condF hE rfl (decide_eq_false (by omega)) ?_
        subst hK104
        refine W.exit rfl ?_
        exact ⟨hq93, hE.pick _ ⟨rfl, rfl, rfl, rfl, rfl, rfl, trivial⟩, hS⟩
       ·obtain ⟨hlt99, hx100, hd98⟩ := drop_cons hd98
        rw [Fishref2OddsFault.loop2] at hq93
        refine W.seq (W.region ?_)
        refine vP hS hE (Gives.p hE rfl) rfl ?_; clear hE a; intro a hE
        refine WL.nil ?_
        refine W.seq ?_
        refine W.condT hE rfl (decide_eq_true (by omega)) ?_
        refine W.skip ?_
        refine W.seq ?_
        refine W.block ?_
        refine W.seq (W.region ?_)
        obtain ⟨cs105, hl106, hR107, hat108⟩ := h89.at hx100
        obtain ⟨a109, c110, a112, c113, rfl, h111, h114⟩ := hR107
        refine vP hS hE (Gives.idx hE k95 rfl rfl sl66 rfl hlt99 (h89.aok hlt99)) rfl ?_; clear hE a; intro a hE
        refine vP hS hE (Gives.loadA hE rfl (fun w h => hat108 w _ h) ty143) rfl ?_; clear hE a; intro a hE
        refine WL.alloc hE hS (runs_plain rfl) zr143 rfl ?_; clear hE hS a w; intro b115 a w hE hS
        refine WL.storeI hE hS 0 rfl [.int .i64 x96.Train, .slice a109 x96.Late.length c110, .slice a112 x96.Weight.length c113] (runs_plain rfl) rfl rfl rfl ty143 rfl rfl rfl rfl ?_; clear hE hS a w; intro a w hE hS
        refine WL.nil ?_
        refine W.seq (W.region ?_)
        refine vP hS hE (Gives.fld hE rfl fl143_0) rfl ?_; clear hE a; intro a hE
        refine vP hS hE (Gives.loadB hE 0 rfl rfl rfl ty3) rfl ?_; clear hE a; intro a hE
        refine vP hS hE (Gives.fld hE rfl fl143_0) rfl ?_; clear hE a; intro a hE
        refine vP hS hE (Gives.loadB hE 1 rfl rfl rfl ty3) rfl ?_; clear hE a; intro a hE
        refine vP hS hE (Gives.p hE rfl) rfl ?_; clear hE a; intro a hE
        refine WL.nil ?_
        refine W.cond hE rfl (fun hc116 => ?_) (fun hc116 => ?_)
        ·replace hq93 := iteT hc116 hq93
         refine W.seq (W.region ?_)
         refine vP hS hE (Gives.p hE rfl) rfl ?_; clear hE a; intro a hE
         refine WL.nil ?_
         refine W.ret ?_
         subst hK104
         subst hK64
         rw [← hq93] at hq53
         dsimp only at hq53
         rw [← Option.some.inj hq53] at hr
         dsimp only at hr
         refine finG (fn := Tryd.f33) (rs := [.tmp 4]) (vs := [_]) hE rfl ⟨rfl, trivial⟩ ?_
         obtain rfl := Option.some.inj hr
         replace hS := hS.tail
         replace hS := hS.tail
         replace hS := hS.tail
         exact ⟨rfl, hS⟩
        ·replace hq93 := iteF hc116 hq93
         refine W.skip ?_
         refine W.region ?_
         refine vP hS hE (Gives.inc hE rfl (by have := h89.small; omega)) rfl ?_; clear hE a; intro a hE
         refine vP hS hE (Gives.p hE rfl) rfl ?_; clear hE a; intro a hE
         refine WL.nil ?_
         replace hS := hS.tail
         subst hK104
         exact ⟨rest97.length, Nat.lt_succ_self _, rest97, k95 + 1, rfl, hd98, hq93, hE.pick _ ⟨rfl, rfl, rfl, rfl, rfl, rfl, rfl, rfl, rfl, trivial⟩, hS⟩
      ·clear hE hS a w; rintro a w ⟨rfl, hE, hS⟩
       dsimp only at hq53
       refine W.seq ?_
       refine W.seq (W.region ?_)
       refine vP hS hE (Gives.fld hE rfl fl143_1) rfl ?_; clear hE a; intro a hE
       refine vP hS hE (Gives.loadB hE 0 rfl rfl rfl ty45) rfl ?_; clear hE a; intro a hE
       refine vP hS hE (Gives.len hE rfl sl45) rfl ?_; clear hE a; intro a hE
       refine vP hS hE (Gives.fld hE rfl fl143_2) rfl ?_; clear hE a; intro a hE
       refine vP hS hE (Gives.loadB hE 0 rfl rfl rfl ty45) rfl ?_; clear hE a; intro a hE
       refine vP hS hE (Gives.len hE rfl sl45) rfl ?_; clear hE a; intro a hE
       refine vP hS hE (Gives.p hE rfl) rfl ?_; clear hE a; intro a hE
       refine WL.nil ?_
       refine W.cond hE rfl (fun hc117 => ?_) (fun hc117 => ?_)
       ·replace hq53 := iteT hc117 hq53
        refine W.seq (W.region ?_)
        refine vP hS hE (Gives.p hE rfl) rfl ?_; clear hE a; intro a hE
        refine WL.nil ?_
        refine W.ret ?_
        subst hK64
        rw [← Option.some.inj hq53] at hr
        dsimp only at hr
        refine finG (fn := Tryd.f33) (rs := [.tmp 4]) (vs := [_]) hE rfl ⟨rfl, trivial⟩ ?_
        obtain rfl := Option.some.inj hr
        replace hS := hS.tail
        replace hS := hS.tail
        exact ⟨rfl, hS⟩
       ·replace hq53 := iteF hc117 hq53
        refine W.skip ?_
        refine W.seq ?_
        refine W.seq (W.region ?_)
        refine vP hS hE (Gives.fld hE rfl fl143_1) rfl ?_; clear hE a; intro a hE
        refine vP hS hE (Gives.loadB hE 0 rfl rfl rfl ty45) rfl ?_; clear hE a; intro a hE
        refine vP hS hE (Gives.len hE rfl sl45) rfl ?_; clear hE a; intro a hE
        refine WL.fnq hE (Fishref2within_ok hS  rfl (r := Fishref2within ((x56.Late).length : Int) 1 6)) (runs_plain rfl) bd57 rfl rfl rfl ?_
        clear hE hS; rintro e w ⟨rfl, hS⟩; refine ⟨_, rfl, ?_⟩; clear a; intro a hE
        refine vP hS hE (Gives.p hE rfl) rfl ?_; clear hE a; intro a hE
        refine WL.nil ?_
        refine W.cond hE rfl (fun hc118 => ?_) (fun hc118 => ?_)
        ·replace hq53 := iteT hc118 hq53
         refine W.seq (W.region ?_)
         refine vP hS hE (Gives.p hE rfl) rfl ?_; clear hE a; intro a hE
         refine WL.nil ?_
         refine W.ret ?_
         subst hK64
         rw [← Option.some.inj hq53] at hr
         dsimp only at hr
         refine finG (fn := Tryd.f33) (rs := [.tmp 4]) (vs := [_]) hE rfl ⟨rfl, trivial⟩ ?_
         obtain rfl := Option.some.inj hr
         replace hS := hS.tail
         replace hS := hS.tail
         exact ⟨rfl, hS⟩
        ·replace hq53 := iteF hc118 hq53
         refine W.skip ?_
         refine W.seq (W.region ?_)
         refine vP hS hE (Gives.fld hE rfl fl143_1) rfl ?_; clear hE a; intro a hE
         refine vP hS hE (Gives.loadB hE 0 rfl rfl rfl ty45) rfl ?_; clear hE a; intro a hE
         refine vP hS hE (Gives.len hE rfl sl45) rfl ?_; clear hE a; intro a hE
         refine vP hS hE (Gives.p hE rfl) rfl ?_; clear hE a; intro a hE
         refine WL.nil ?_
         obtain ⟨q120, hq119, hq53⟩ := bindS hq53
         refine W.cut (fun a w => (.next ()) = q120 ∧ Rep a 92 [(1, .slice a1 x1.length c1), (2, .pointer (some ⟨b51, 0, none⟩)), (14, .slice a1 x1.length c1), (15, .int .i64 ((x1).length : Int)), (16, .int .i64 ((k55 : Nat) : Int))] ∧ St w s (pt b75 (.cells #[.int .i64 x56.Train, .slice a69 x56.Late.length c70, .slice a72 x56.Weight.length c73] 143 (0, 0)) :: pt b51 (.cells #[.slice a0_0 x0.Trains.length c0_0, .slice a0_1 x0.Turns.length c0_1] 25 (0, 0)) :: R)) ?_ ?_
         ·refine W.block ?_
          refine W.loop (fun m a w => ∃ (rest123 : List Int) (k121 : Nat), rest123.length = m ∧ x56.Late.drop k121 = rest123 ∧ Fishref2OddsFault.loop3 x56 rest123 k121 = some q120 ∧ Rep a 92 [(1, .slice a1 x1.length c1), (2, .pointer (some ⟨b51, 0, none⟩)), (6, .pointer (some ⟨b75, 0, none⟩)), (14, .slice a1 x1.length c1), (15, .int .i64 ((x1).length : Int)), (16, .int .i64 ((k55 : Nat) : Int)), (59, .slice a69 x56.Late.length c70), (60, .int .i64 ((x56.Late).length : Int)), (61, .int .i64 ((k121 : Nat) : Int))] ∧ St w s (pt b75 (.cells #[.int .i64 x56.Train, .slice a69 x56.Late.length c70, .slice a72 x56.Weight.length c73] 143 (0, 0)) :: pt b51 (.cells #[.slice a0_0 x0.Trains.length c0_0, .slice a0_1 x0.Turns.length c0_1] 25 (0, 0)) :: R)) (m := x56.Late.length) ⟨x56.Late, 0, rfl, rfl, hq119, hE.pick _ ⟨rfl, rfl, rfl, rfl, rfl, rfl, rfl, rfl, rfl, trivial⟩, hS⟩ ?_
          clear hE hS a w hq119; rintro m127 a w ⟨rest123, k121, rfl, hd124, hq119, hE, hS⟩
          refine W.gen fun K130 hK130 => ?_
          rcases rest123 with _ | ⟨x122, rest123⟩
          ·have hlt125 := drop_nil hd124
           refine W.seq (W.region ?_)
           refine vP hS hE (Gives.p hE rfl) rfl ?_; clear hE a; intro a hE
           refine WL.nil ?_
           refine W.seq ?_
           refine W.condF hE rfl (decide_eq_false (by omega)) ?_
           subst hK130
           refine W.exit rfl ?_
           exact ⟨Option.some.inj hq119, hE.pick _ ⟨rfl, rfl, rfl, rfl, rfl, trivial⟩, hS⟩
          ·obtain ⟨hlt125, hx126, hd124⟩ := drop_cons hd124
           rw [Fishref2OddsFault.loop3] at hq119
           refine W.seq (W.region ?_)
           refine vP hS hE (Gives.p hE rfl) rfl ?_; clear hE a; intro a hE
           refine WL.nil ?_
           refine W.seq ?_
           refine W.condT hE rfl (decide_eq_true (by omega)) ?_
           refine W.skip ?_
           refine W.seq ?_
           refine W.block ?_
           refine W.seq (W.region ?_)
           refine vP hS hE (Gives.p hE rfl) rfl ?_; clear hE a; intro a hE
           obtain ⟨cs131, hl132, hR133, hat134⟩ := h71.at hx126
           subst hR133
           refine vP hS hE (Gives.idx hE k121 rfl rfl sl45 rfl hlt125 (h71.aok hlt125)) rfl ?_; clear hE a; intro a hE
           refine vP hS hE (Gives.load1 hE rfl (fun w h => hat134 w _ h) ty3) rfl ?_; clear hE a; intro a hE
           refine vP hS hE (Gives.p hE rfl) rfl ?_; clear hE a; intro a hE
           refine vP hS hE (Gives.p hE rfl) rfl ?_; clear hE a; intro a hE
           refine WL.nil ?_
           refine W.seq ?_
           refine W.seq ?_
           obtain ⟨q136, hq135, hq119⟩ := bindS hq119
           refine W.cut (fun a w => ∃ (q139 : Bool), q139 = q136 ∧ Rep a 92 [(1, .slice a1 x1.length c1), (2, .pointer (some ⟨b51, 0, none⟩)), (6, .pointer (some ⟨b75, 0, none⟩)), (9, .int .i64 ((k121 : Nat) : Int)), (10, .int .i64 x122), (14, .slice a1 x1.length c1), (15, .int .i64 ((x1).length : Int)), (16, .int .i64 ((k55 : Nat) : Int)), (59, .slice a69 x56.Late.length c70), (60, .int .i64 ((x56.Late).length : Int)), (61, .int .i64 ((k121 : Nat) : Int)), (77, .bool q139)] ∧ St w s (pt b75 (.cells #[.int .i64 x56.Train, .slice a69 x56.Late.length c70, .slice a72 x56.Weight.length c73] 143 (0, 0)) :: pt b51 (.cells #[.slice a0_0 x0.Trains.length c0_0, .slice a0_1 x0.Turns.length c0_1] 25 (0, 0)) :: R)) ?_ ?_
           ·refine W.gen fun K140 hK140 => ?_
            refine W.region ?_
            refine vP hS hE (Gives.p hE rfl) rfl ?_; clear hE a; intro a hE
            refine WL.fnq hE (Fishref2within_ok hS  rfl (r := Fishref2within x122 0 28800)) (runs_plain rfl) bd57 rfl rfl rfl ?_
            clear hE hS; rintro e w ⟨rfl, hS⟩; refine ⟨_, rfl, ?_⟩; clear a; intro a hE
            refine vP hS hE (Gives.p hE rfl) rfl ?_; clear hE a; intro a hE
            refine vP hS hE (Gives.p hE rfl) rfl ?_; clear hE a; intro a hE
            rcases Bool.eq_false_or_eq_true (!(Fishref2within x122 0 28800)) with hg141 | hg141
            ·replace hq135 := iteT hg141 hq135
             refine WL.no hE (runs_not hE rfl rfl rfl (by rw [hg141]; decide)) rfl ?_; clear hE a; intro a hE
             refine WL.no hE (runs_not hE rfl rfl rfl (by rw [hg141]; decide)) rfl ?_; clear hE a; intro a hE
             refine WL.no hE (runs_not hE rfl rfl rfl (by rw [hg141]; decide)) rfl ?_; clear hE a; intro a hE
             refine WL.no hE (runs_not hE rfl rfl rfl (by rw [hg141]; decide)) rfl ?_; clear hE a; intro a hE
             refine WL.no hE (runs_not hE rfl rfl rfl (by rw [hg141]; decide)) rfl ?_; clear hE a; intro a hE
             refine WL.no hE (runs_not hE rfl rfl rfl (by rw [hg141]; decide)) rfl ?_; clear hE a; intro a hE
             refine WL.no hE (runs_not hE rfl rfl rfl (by rw [hg141]; decide)) rfl ?_; clear hE a; intro a hE
             refine vP hS hE (Gives.pickT hE rfl hg141 rfl) rfl ?_; clear hE a; intro a hE
             refine WL.nil ?_
             subst hK140
             exact ⟨true, Option.some.inj hq135, hE.pick _ ⟨rfl, rfl, rfl, rfl, rfl, rfl, rfl, rfl, rfl, rfl, rfl, rfl, trivial⟩, hS⟩
            ·replace hq135 := iteF hg141 hq135
             refine WL.vS hS hE (runs_if hE rfl rfl rfl hg141) (Gives.fld hE rfl fl143_2) rfl ?_; clear hE a; intro a hE
             refine WL.vS hS hE (runs_if hE rfl rfl rfl hg141) (Gives.loadB hE 0 rfl rfl rfl ty45) rfl ?_; clear hE a; intro a hE
             refine WL.vS hS hE (runs_if hE rfl rfl rfl hg141) (Gives.p hE rfl) rfl ?_; clear hE a; intro a hE
             obtain ⟨x142, hx143, hq135⟩ := bindS hq135
             obtain ⟨hi144, hlt145, hy146⟩ := gx_some hx143
             obtain ⟨cs147, hl148, hR149, hat150⟩ := h74.at hy146
             subst hR149
             refine WL.vS hS hE (runs_if hE rfl rfl rfl hg141) (Gives.idx hE (((k121 : Nat) : Int)).toNat rfl rfl sl45 hi144 hlt145 (h74.aok hlt145)) rfl ?_; clear hE a; intro a hE
             refine WL.vS hS hE (runs_if hE rfl rfl rfl hg141) (Gives.load1 hE rfl (fun w h => hat150 w _ h) ty3) rfl ?_; clear hE a; intro a hE
             refine WL.fnq hE (Fishref2within_ok hS  rfl (r := Fishref2within x142 1 10)) (runs_if hE rfl rfl rfl hg141) bd57 rfl rfl rfl ?_
             clear hE hS; rintro e w ⟨rfl, hS⟩; refine ⟨_, rfl, ?_⟩; clear a; intro a hE
             refine WL.vS hS hE (runs_if hE rfl rfl rfl hg141) (Gives.p hE rfl) rfl ?_; clear hE a; intro a hE
             refine vP hS hE (Gives.pickF hE rfl hg141 rfl) rfl ?_; clear hE a; intro a hE
             refine WL.nil ?_
             subst hK140
             exact ⟨!(Fishref2within x142 1 10), Option.some.inj hq135, hE.pick _ ⟨rfl, rfl, rfl, rfl, rfl, rfl, rfl, rfl, rfl, rfl, rfl, rfl, trivial⟩, hS⟩
           ·clear hE hS a w; rintro a w ⟨q139, rfl, hE, hS⟩
            refine W.cond hE rfl (fun hc151 => ?_) (fun hc151 => ?_)
            ·replace hq119 := iteT hc151 hq119
             refine W.seq (W.region ?_)
             refine vP hS hE (Gives.p hE rfl) rfl ?_; clear hE a; intro a hE
             refine WL.nil ?_
             refine W.ret ?_
             subst hK130
             subst hK64
             rw [← Option.some.inj hq119] at hq53
             dsimp only at hq53
             rw [← Option.some.inj hq53] at hr
             dsimp only at hr
             refine finG (fn := Tryd.f33) (rs := [.tmp 4]) (vs := [_]) hE rfl ⟨rfl, trivial⟩ ?_
             obtain rfl := Option.some.inj hr
             replace hS := hS.tail
             replace hS := hS.tail
             exact ⟨rfl, hS⟩
            ·replace hq119 := iteF hc151 hq119
             refine W.skip ?_
             refine W.seq ?_
             obtain ⟨q153, hq152, hq119⟩ := bindS hq119
             refine W.cut (fun a w => ∃ (q156 : Bool), q156 = q153 ∧ Rep a 92 [(1, .slice a1 x1.length c1), (2, .pointer (some ⟨b51, 0, none⟩)), (6, .pointer (some ⟨b75, 0, none⟩)), (14, .slice a1 x1.length c1), (15, .int .i64 ((x1).length : Int)), (16, .int .i64 ((k55 : Nat) : Int)), (59, .slice a69 x56.Late.length c70), (60, .int .i64 ((x56.Late).length : Int)), (61, .int .i64 ((k121 : Nat) : Int)), (89, .bool q156)] ∧ St w s (pt b75 (.cells #[.int .i64 x56.Train, .slice a69 x56.Late.length c70, .slice a72 x56.Weight.length c73] 143 (0, 0)) :: pt b51 (.cells #[.slice a0_0 x0.Trains.length c0_0, .slice a0_1 x0.Turns.length c0_1] 25 (0, 0)) :: R)) ?_ ?_
             ·refine W.gen fun K157 hK157 => ?_
              refine W.region ?_
              refine vP hS hE (Gives.p hE rfl) rfl ?_; clear hE a; intro a hE
              refine vP hS hE (Gives.p hE rfl) rfl ?_; clear hE a; intro a hE
              refine vP hS hE (Gives.p hE rfl) rfl ?_; clear hE a; intro a hE
              rcases Bool.eq_false_or_eq_true (decide (((k121 : Nat) : Int) > 0)) with hg158 | hg158
              ·replace hq152 := iteT hg158 hq152
               refine WL.vS hS hE (runs_if hE rfl rfl rfl hg158) (Gives.p hE rfl) rfl ?_; clear hE a; intro a hE
               refine WL.vS hS hE (runs_if hE rfl rfl rfl hg158) (Gives.fld hE rfl fl143_1) rfl ?_; clear hE a; intro a hE
               refine WL.vS hS hE (runs_if hE rfl rfl rfl hg158) (Gives.loadB hE 0 rfl rfl rfl ty45) rfl ?_; clear hE a; intro a hE
               refine WL.vS hS hE (runs_if hE rfl rfl rfl hg158) (Gives.p hE rfl) rfl ?_; clear hE a; intro a hE
               refine WL.vS hS hE (runs_if hE rfl rfl rfl hg158) (Gives.p hE rfl) rfl ?_; clear hE a; intro a hE
               obtain ⟨x159, hx160, hq152⟩ := bindS hq152
               obtain ⟨hi161, hlt162, hy163⟩ := gx_some hx160
               obtain ⟨cs164, hl165, hR166, hat167⟩ := h71.at hy163
               subst hR166
               refine WL.vS hS hE (runs_if hE rfl rfl rfl hg158) (Gives.idx hE (w64 (((k121 : Nat) : Int) - 1)).toNat rfl rfl sl45 hi161 hlt162 (h71.aok hlt162)) rfl ?_; clear hE a; intro a hE
               refine WL.vS hS hE (runs_if hE rfl rfl rfl hg158) (Gives.load1 hE rfl (fun w h => hat167 w _ h) ty3) rfl ?_; clear hE a; intro a hE
               refine WL.vS hS hE (runs_if hE rfl rfl rfl hg158) (Gives.p hE rfl) rfl ?_; clear hE a; intro a hE
               refine vP hS hE (Gives.pickT hE rfl hg158 rfl) rfl ?_; clear hE a; intro a hE
               refine WL.nil ?_
               subst hK157
               exact ⟨decide (x122 ≤ x159), Option.some.inj hq152, hE.pick _ ⟨rfl, rfl, rfl, rfl, rfl, rfl, rfl, rfl, rfl, rfl, trivial⟩, hS⟩
              ·replace hq152 := iteF hg158 hq152
               refine WL.no hE (runs_not hE rfl rfl rfl (by rw [hg158]; decide)) rfl ?_; clear hE a; intro a hE
               refine WL.no hE (runs_not hE rfl rfl rfl (by rw [hg158]; decide)) rfl ?_; clear hE a; intro a hE
               refine WL.no hE (runs_not hE rfl rfl rfl (by rw [hg158]; decide)) rfl ?_; clear hE a; intro a hE
               refine WL.no hE (runs_not hE rfl rfl rfl (by rw [hg158]; decide)) rfl ?_; clear hE a; intro a hE
               refine WL.no hE (runs_not hE rfl rfl rfl (by rw [hg158]; decide)) rfl ?_; clear hE a; intro a hE
               refine WL.no hE (runs_not hE rfl rfl rfl (by rw [hg158]; decide)) rfl ?_; clear hE a; intro a hE
               refine WL.no hE (runs_not hE rfl rfl rfl (by rw [hg158]; decide)) rfl ?_; clear hE a; intro a hE
               refine WL.no hE (runs_not hE rfl rfl rfl (by rw [hg158]; decide)) rfl ?_; clear hE a; intro a hE
               refine vP hS hE (Gives.pickF hE rfl hg158 rfl) rfl ?_; clear hE a; intro a hE
               refine WL.nil ?_
               subst hK157
               exact ⟨false, Option.some.inj hq152, hE.pick _ ⟨rfl, rfl, rfl, rfl, rfl, rfl, rfl, rfl, rfl, rfl, trivial⟩, hS⟩
             ·clear hE hS a w; rintro a w ⟨q156, rfl, hE, hS⟩
              refine W.cond hE rfl (fun hc168 => ?_) (fun hc168 => ?_)
              ·replace hq119 := iteT hc168 hq119
               refine W.seq (W.region ?_)
               refine vP hS hE (Gives.p hE rfl) rfl ?_; clear hE a; intro a hE
               refine WL.nil ?_
               refine W.ret ?_
               subst hK130
               subst hK64
               rw [← Option.some.inj hq119] at hq53
               dsimp only at hq53
               rw [← Option.some.inj hq53] at hr
               dsimp only at hr
               refine finG (fn := Tryd.f33) (rs := [.tmp 4]) (vs := [_]) hE rfl ⟨rfl, trivial⟩ ?_
               obtain rfl := Option.some.inj hr
               replace hS := hS.tail
               replace hS := hS.tail
               exact ⟨rfl, hS⟩
              ·replace hq119 := iteF hc168 hq119
               refine W.skip ?_
               refine W.region ?_
               refine vP hS hE (Gives.inc hE rfl (by have := h71.small; omega)) rfl ?_; clear hE a; intro a hE
               refine vP hS hE (Gives.p hE rfl) rfl ?_; clear hE a; intro a hE
               refine WL.nil ?_
               subst hK130
               exact ⟨rest123.length, Nat.lt_succ_self _, rest123, k121 + 1, rfl, hd124, hq119, hE.pick _ ⟨rfl, rfl, rfl, rfl, rfl, rfl, rfl, rfl, rfl, trivial⟩, hS⟩
         ·clear hE hS a w; rintro a w ⟨rfl, hE, hS⟩
          dsimp only at hq53
          refine W.region ?_
          refine vP hS hE (Gives.inc hE rfl (by have := h1.small; omega)) rfl ?_; clear hE a; intro a hE
          refine vP hS hE (Gives.p hE rfl) rfl ?_; clear hE a; intro a hE
          refine WL.nil ?_
          replace hS := hS.tail
          subst hK64
          exact ⟨rest57.length, Nat.lt_succ_self _, rest57, k55 + 1, rfl, hd58, hq53, hE.pick _ ⟨rfl, rfl, rfl, rfl, rfl, trivial⟩, hS⟩
  ·clear hE hS a w; rintro a w ⟨rfl, hE, hS⟩
   dsimp only at hr
   refine W.seq (W.region ?_)
   refine vP hS hE (Gives.p hE rfl) rfl ?_; clear hE a; intro a hE
   refine WL.nil ?_
   refine W.ret ?_
   refine finG (fn := Tryd.f33) (rs := [.tmp 4]) (vs := [_]) hE rfl ⟨rfl, trivial⟩ ?_
   obtain rfl := Option.some.inj hr
   replace hS := hS.tail
   exact ⟨rfl, hS⟩
set_option maxHeartbeats 8000000 in
theorem Fishlaw2small_1_ok  {w : World} {s : Sg} {R : List HP} {x0 : Int} {x1 : Int} {x2 : Int} (hS : St w s (R))  {r : ApiStop} (hr : Fishlaw2small_1 x0 x1 x2 = r) :
  Calls Tryd.prog 104 [.int .i64 x0, .int .i64 x1, .int .i64 x2].toArray w (fun e w => ∃ (cs0 : List Value) (t : Sg), e = .returned (.agg cs0.toArray) ∧ s.Le t ∧ RApiStop t cs0 r ∧ St w t (R)) := by
 refine enter Tryd.func104 rfl rfl rfl fun a hE => ?_
 rw [Fishlaw2small_1] at hr
 refine W.seq (W.region ?_)
 refine WL.alloc hE hS (runs_plain rfl) zr106 rfl ?_; clear hE hS a w; intro b51 a w hE hS
 refine WL.nil ?_
 refine W.seq (W.region ?_)
 refine vP hS hE (Gives.p hE rfl) rfl ?_; clear hE a; intro a hE
 refine vP hS hE (Gives.p hE rfl) rfl ?_; clear hE a; intro a hE
 refine vP hS hE (Gives.p hE rfl) rfl ?_; clear hE a; intro a hE
 refine vP hS hE (Gives.build hE (vs := [(0, .int .i64 x0), (2, .int .i64 x1), (3, .int .i64 x2)]) [.int .i64 x0, .int .i64 0, .int .i64 x1, .int .i64 x2] rfl (by kernel_rfl)) rfl ?_; clear hE a; intro a hE
 refine WL.storeI hE hS 0 rfl [.int .i64 x0, .int .i64 0, .int .i64 x1, .int .i64 x2] (runs_plain rfl) rfl rfl rfl ty106 rfl rfl rfl rfl ?_; clear hE hS a w; intro a w hE hS
 refine WL.nil ?_
 refine W.ret ?_
 refine finG (fn := Tryd.f104) (rs := [.cell 6 106]) (vs := [_]) hE rfl ⟨⟨_, rfl, .inl ⟨_, rfl, hS.seesAt 0 rfl, ty106⟩⟩, trivial⟩ ?_
 subst hr
 replace hS := hS.tail
 exact ⟨_, s, rfl, (Sg.Le.refl _), rfl, hS⟩
set_option maxHeartbeats 8000000 in
theorem Fishlaw2small_ok  {w : World} {s : Sg} {R : List HP}  (hS : St w s (R))  {r : ApiDay} (hr : Fishlaw2small = r) :
  Calls Tryd.prog 58 [].toArray w (fun e w => ∃ (cs0 : List Value) (t : Sg), e = .returned (.agg cs0.toArray) ∧ s.Le t ∧ RApiDay t cs0 r ∧ St w t (R)) := by
 refine enter Tryd.func58 rfl rfl rfl fun a hE => ?_
 rw [Fishlaw2small] at hr
 refine W.seq (W.region ?_)
 refine WL.alloc hE hS (runs_plain rfl) zr25 rfl ?_; clear hE hS a w; intro b51 a w hE hS
 refine WL.nil ?_
 refine W.seq (W.region ?_)
 refine vP hS hE (Gives.p hE rfl) rfl ?_; clear hE a; intro a hE
 refine WL.nil ?_
 refine W.seq (W.region ?_)
 refine vP hS hE (Gives.p hE rfl) rfl ?_; clear hE a; intro a hE
 obtain ⟨q52, hq53, hr⟩ := bndS hr
 have hc_ := Fishlaw2small_1_ok hS  hq53
 refine WL.fnw hE (hc_) rfl (runs_plain rfl) bd104 rfl rfl rfl ?_
 clear hE hS hc_; rintro e w ⟨cs54, s56, rfl, hle57, h55, hS⟩; refine ⟨_, rfl, ?_⟩; clear a; intro a hE
 subst h55
 refine vP hS hE (Gives.p hE rfl) rfl ?_; clear hE a; intro a hE
 obtain ⟨q58, hq59, hr⟩ := bndS hr
 have hc_ := Fishlaw2small_1_ok hS  hq59
 refine WL.fnw hE (hc_) rfl (runs_plain rfl) bd104 rfl rfl rfl ?_
 clear hE hS hc_; rintro e w ⟨cs60, s62, rfl, hle63, h61, hS⟩; refine ⟨_, rfl, ?_⟩; clear a; intro a hE
 subst h61
 refine vP hS hE (Gives.p hE rfl) rfl ?_; clear hE a; intro a hE
 obtain ⟨q64, hq65, hr⟩ := bndS hr
 have hc_ := Fishlaw2small_1_ok hS  hq65
 refine WL.fnw hE (hc_) rfl (runs_plain rfl) bd104 rfl rfl rfl ?_
 clear hE hS hc_; rintro e w ⟨cs66, s68, rfl, hle69, h67, hS⟩; refine ⟨_, rfl, ?_⟩; clear a; intro a hE
 subst h67
 refine WL.lit hE hS (e := 106) (es := 4) (vs := [(0, .agg (ApiStop.cells q52).toArray), (1, .agg (ApiStop.cells q58).toArray), (2, .agg (ApiStop.cells q64).toArray)]) (cs := [.int .i64 q52.Station, .int .i64 q52.Track, .int .i64 q52.Arr, .int .i64 q52.Dep, .int .i64 q58.Station, .int .i64 q58.Track, .int .i64 q58.Arr, .int .i64 q58.Dep, .int .i64 q64.Station, .int .i64 q64.Track, .int .i64 q64.Arr, .int .i64 q64.Dep]) (runs_plain rfl) rfl (by kernel_rfl) rfl ?_; clear hE hS a w; intro b70 a w hE hS
 replace hS := hS.ptVec (es := 4) (m := 3) rfl (by decide)
 have h72 : Ev 4 RApiStop s68 [.int .i64 q52.Station, .int .i64 q52.Track, .int .i64 q52.Arr, .int .i64 q52.Dep, .int .i64 q58.Station, .int .i64 q58.Track, .int .i64 q58.Arr, .int .i64 q58.Dep, .int .i64 q64.Station, .int .i64 q64.Track, .int .i64 q64.Arr, .int .i64 q64.Dep] [q52, q58, q64] := (Ev.cons (c1 := [.int .i64 q52.Station, .int .i64 q52.Track, .int .i64 q52.Arr, .int .i64 q52.Dep]) rfl rfl (Ev.cons (c1 := [.int .i64 q58.Station, .int .i64 q58.Track, .int .i64 q58.Arr, .int .i64 q58.Dep]) rfl rfl (Ev.cons (c1 := [.int .i64 q64.Station, .int .i64 q64.Track, .int .i64 q64.Arr, .int .i64 q64.Dep]) rfl rfl (Ev.nil))))
 have hF := hS.fixD RApiStop.mono 0 rfl h72 (rfl); clear hS; obtain ⟨s73, hle74, hS, h75⟩ := hF
 refine WL.lit hE hS (e := 3) (es := 1) (vs := [(0, .int .i64 0)]) (cs := [.int .i64 0]) (runs_plain rfl) rfl (by kernel_rfl) rfl ?_; clear hE hS a w; intro b76 a w hE hS
 replace hS := hS.ptVec (es := 1) (m := 1) rfl (by decide)
 have h78 : Ev 1 (RI .i64) s73 [.int .i64 0] [0] := (Ev.cons (c1 := [.int .i64 0]) rfl rfl (Ev.nil))
 have hF := hS.fixD RI.mono 0 rfl h78 (rfl); clear hS; obtain ⟨s79, hle80, hS, h81⟩ := hF
 replace h75 := Sl.mono RApiStop.mono hle80 h75
 refine WL.lit hE hS (e := 3) (es := 1) (vs := [(0, .int .i64 1)]) (cs := [.int .i64 1]) (runs_plain rfl) rfl (by kernel_rfl) rfl ?_; clear hE hS a w; intro b82 a w hE hS
 replace hS := hS.ptVec (es := 1) (m := 1) rfl (by decide)
 have h84 : Ev 1 (RI .i64) s79 [.int .i64 1] [1] := (Ev.cons (c1 := [.int .i64 1]) rfl rfl (Ev.nil))
 have hF := hS.fixD RI.mono 0 rfl h84 (rfl); clear hS; obtain ⟨s85, hle86, hS, h87⟩ := hF
 replace h75 := Sl.mono RApiStop.mono hle86 h75
 replace h81 := Sl.mono RI.mono hle86 h81
 refine WL.lit hE hS (e := 45) (es := 1) (vs := [(0, .slice (some ⟨b76, 0, none⟩) 1 1), (1, .slice (some ⟨b82, 0, none⟩) 1 1)]) (cs := [.slice (some ⟨b76, 0, none⟩) 1 1, .slice (some ⟨b82, 0, none⟩) 1 1]) (runs_plain rfl) rfl (by kernel_rfl) rfl ?_; clear hE hS a w; intro b88 a w hE hS
 replace hS := hS.ptVec (es := 1) (m := 2) rfl (by decide)
 have h90 : Ev 1 (RL 1 (RI .i64)) s85 [.slice (some ⟨b76, 0, none⟩) 1 1, .slice (some ⟨b82, 0, none⟩) 1 1] [[0], [1]] := (Ev.cons (c1 := [.slice (some ⟨b76, 0, none⟩) 1 1]) ⟨_, _, rfl, h81⟩ rfl (Ev.cons (c1 := [.slice (some ⟨b82, 0, none⟩) 1 1]) ⟨_, _, rfl, h87⟩ rfl (Ev.nil)))
 have hF := hS.fixD (RL.mono RI.mono) 0 rfl h90 (rfl); clear hS; obtain ⟨s91, hle92, hS, h93⟩ := hF
 replace h75 := Sl.mono RApiStop.mono hle92 h75
 replace h81 := Sl.mono RI.mono hle92 h81
 replace h87 := Sl.mono RI.mono hle92 h87
 refine vP hS hE (Gives.build hE (vs := [(0, .int .i64 1), (2, .slice (some ⟨b70, 0, none⟩) 3 3), (3, .slice (some ⟨b88, 0, none⟩) 2 2)]) [.int .i64 1, .int .i64 0, .slice (some ⟨b70, 0, none⟩) 3 3, .slice (some ⟨b88, 0, none⟩) 2 2] rfl (by kernel_rfl)) rfl ?_; clear hE a; intro a hE
 refine vP hS hE (Gives.p hE rfl) rfl ?_; clear hE a; intro a hE
 obtain ⟨q94, hq95, hr⟩ := bndS hr
 have hc_ := Fishlaw2small_1_ok hS  hq95
 refine WL.fnw hE (hc_) rfl (runs_plain rfl) bd104 rfl rfl rfl ?_
 clear hE hS hc_; rintro e w ⟨cs96, s98, rfl, hle99, h97, hS⟩; refine ⟨_, rfl, ?_⟩; clear a; intro a hE
 replace h75 := Sl.mono RApiStop.mono hle99 h75
 replace h81 := Sl.mono RI.mono hle99 h81
 replace h87 := Sl.mono RI.mono hle99 h87
 replace h93 := Sl.mono (RL.mono RI.mono) hle99 h93
 subst h97
 refine vP hS hE (Gives.p hE rfl) rfl ?_; clear hE a; intro a hE
 obtain ⟨q100, hq101, hr⟩ := bndS hr
 have hc_ := Fishlaw2small_1_ok hS  hq101
 refine WL.fnw hE (hc_) rfl (runs_plain rfl) bd104 rfl rfl rfl ?_
 clear hE hS hc_; rintro e w ⟨cs102, s104, rfl, hle105, h103, hS⟩; refine ⟨_, rfl, ?_⟩; clear a; intro a hE
 replace h75 := Sl.mono RApiStop.mono hle105 h75
 replace h81 := Sl.mono RI.mono hle105 h81
 replace h87 := Sl.mono RI.mono hle105 h87
 replace h93 := Sl.mono (RL.mono RI.mono) hle105 h93
 subst h103
 refine WL.lit hE hS (e := 106) (es := 4) (vs := [(0, .agg (ApiStop.cells q94).toArray), (1, .agg (ApiStop.cells q100).toArray)]) (cs := [.int .i64 q94.Station, .int .i64 q94.Track, .int .i64 q94.Arr, .int .i64 q94.Dep, .int .i64 q100.Station, .int .i64 q100.Track, .int .i64 q100.Arr, .int .i64 q100.Dep]) (runs_plain rfl) rfl (by kernel_rfl) rfl ?_; clear hE hS a w; intro b106 a w hE hS
 replace hS := hS.ptVec (es := 4) (m := 2) rfl (by decide)
 have h108 : Ev 4 RApiStop s104 [.int .i64 q94.Station, .int .i64 q94.Track, .int .i64 q94.Arr, .int .i64 q94.Dep, .int .i64 q100.Station, .int .i64 q100.Track, .int .i64 q100.Arr, .int .i64 q100.Dep] [q94, q100] := (Ev.cons (c1 := [.int .i64 q94.Station, .int .i64 q94.Track, .int .i64 q94.Arr, .int .i64 q94.Dep]) rfl rfl (Ev.cons (c1 := [.int .i64 q100.Station, .int .i64 q100.Track, .int .i64 q100.Arr, .int .i64 q100.Dep]) rfl rfl (Ev.nil)))
 have hF := hS.fixD RApiStop.mono 0 rfl h108 (rfl); clear hS; obtain ⟨s109, hle110, hS, h111⟩ := hF
 replace h75 := Sl.mono RApiStop.mono hle110 h75
 replace h81 := Sl.mono RI.mono hle110 h81
 replace h87 := Sl.mono RI.mono hle110 h87
 replace h93 := Sl.mono (RL.mono RI.mono) hle110 h93
 refine WL.lit hE hS (e := 3) (es := 1) (vs := [(0, .int .i64 2)]) (cs := [.int .i64 2]) (runs_plain rfl) rfl (by kernel_rfl) rfl ?_; clear hE hS a w; intro b112 a w hE hS
 replace hS := hS.ptVec (es := 1) (m := 1) rfl (by decide)
 have h114 : Ev 1 (RI .i64) s109 [.int .i64 2] [2] := (Ev.cons (c1 := [.int .i64 2]) rfl rfl (Ev.nil))
 have hF := hS.fixD RI.mono 0 rfl h114 (rfl); clear hS; obtain ⟨s115, hle116, hS, h117⟩ := hF
 replace h75 := Sl.mono RApiStop.mono hle116 h75
 replace h81 := Sl.mono RI.mono hle116 h81
 replace h87 := Sl.mono RI.mono hle116 h87
 replace h93 := Sl.mono (RL.mono RI.mono) hle116 h93
 replace h111 := Sl.mono RApiStop.mono hle116 h111
 refine WL.lit hE hS (e := 45) (es := 1) (vs := [(0, .slice (some ⟨b112, 0, none⟩) 1 1)]) (cs := [.slice (some ⟨b112, 0, none⟩) 1 1]) (runs_plain rfl) rfl (by kernel_rfl) rfl ?_; clear hE hS a w; intro b118 a w hE hS
 replace hS := hS.ptVec (es := 1) (m := 1) rfl (by decide)
 have h120 : Ev 1 (RL 1 (RI .i64)) s115 [.slice (some ⟨b112, 0, none⟩) 1 1] [[2]] := (Ev.cons (c1 := [.slice (some ⟨b112, 0, none⟩) 1 1]) ⟨_, _, rfl, h117⟩ rfl (Ev.nil))
 have hF := hS.fixD (RL.mono RI.mono) 0 rfl h120 (rfl); clear hS; obtain ⟨s121, hle122, hS, h123⟩ := hF
 replace h75 := Sl.mono RApiStop.mono hle122 h75
 replace h81 := Sl.mono RI.mono hle122 h81
 replace h87 := Sl.mono RI.mono hle122 h87
 replace h93 := Sl.mono (RL.mono RI.mono) hle122 h93
 replace h111 := Sl.mono RApiStop.mono hle122 h111
 replace h117 := Sl.mono RI.mono hle122 h117
 refine vP hS hE (Gives.build hE (vs := [(0, .int .i64 2), (2, .slice (some ⟨b106, 0, none⟩) 2 2), (3, .slice (some ⟨b118, 0, none⟩) 1 1)]) [.int .i64 2, .int .i64 0, .slice (some ⟨b106, 0, none⟩) 2 2, .slice (some ⟨b118, 0, none⟩) 1 1] rfl (by kernel_rfl)) rfl ?_; clear hE a; intro a hE
 refine WL.lit hE hS (e := 44) (es := 4) (vs := [(0, .agg [.int .i64 1, .int .i64 0, .slice (some ⟨b70, 0, none⟩) 3 3, .slice (some ⟨b88, 0, none⟩) 2 2].toArray), (1, .agg [.int .i64 2, .int .i64 0, .slice (some ⟨b106, 0, none⟩) 2 2, .slice (some ⟨b118, 0, none⟩) 1 1].toArray)]) (cs := [.int .i64 1, .int .i64 0, .slice (some ⟨b70, 0, none⟩) 3 3, .slice (some ⟨b88, 0, none⟩) 2 2, .int .i64 2, .int .i64 0, .slice (some ⟨b106, 0, none⟩) 2 2, .slice (some ⟨b118, 0, none⟩) 1 1]) (runs_plain rfl) rfl (by kernel_rfl) rfl ?_; clear hE hS a w; intro b124 a w hE hS
 replace hS := hS.ptVec (es := 4) (m := 2) rfl (by decide)
 have h126 : Ev 4 RApiTrain s121 [.int .i64 1, .int .i64 0, .slice (some ⟨b70, 0, none⟩) 3 3, .slice (some ⟨b88, 0, none⟩) 2 2, .int .i64 2, .int .i64 0, .slice (some ⟨b106, 0, none⟩) 2 2, .slice (some ⟨b118, 0, none⟩) 1 1] [(ApiTrain.mk 1 0 [q52, q58, q64] [[0], [1]]), (ApiTrain.mk 2 0 [q94, q100] [[2]])] := (Ev.cons (c1 := [.int .i64 1, .int .i64 0, .slice (some ⟨b70, 0, none⟩) 3 3, .slice (some ⟨b88, 0, none⟩) 2 2]) ⟨_, _, _, _, rfl, h75, h93⟩ rfl (Ev.cons (c1 := [.int .i64 2, .int .i64 0, .slice (some ⟨b106, 0, none⟩) 2 2, .slice (some ⟨b118, 0, none⟩) 1 1]) ⟨_, _, _, _, rfl, h111, h123⟩ rfl (Ev.nil)))
 have hF := hS.fixD RApiTrain.mono 0 rfl h126 (rfl); clear hS; obtain ⟨s127, hle128, hS, h129⟩ := hF
 replace h75 := Sl.mono RApiStop.mono hle128 h75
 replace h81 := Sl.mono RI.mono hle128 h81
 replace h87 := Sl.mono RI.mono hle128 h87
 replace h93 := Sl.mono (RL.mono RI.mono) hle128 h93
 replace h111 := Sl.mono RApiStop.mono hle128 h111
 replace h117 := Sl.mono RI.mono hle128 h117
 replace h123 := Sl.mono (RL.mono RI.mono) hle128 h123
 refine vP hS hE (Gives.build hE (vs := [(0, .slice (some ⟨b124, 0, none⟩) 2 2)]) [.slice (some ⟨b124, 0, none⟩) 2 2, .slice none 0 0] rfl (by kernel_rfl)) rfl ?_; clear hE a; intro a hE
 refine WL.storeI hE hS 0 rfl [.slice (some ⟨b124, 0, none⟩) 2 2, .slice none 0 0] (runs_plain rfl) rfl rfl rfl ty25 rfl rfl rfl rfl ?_; clear hE hS a w; intro a w hE hS
 refine WL.nil ?_
 refine W.ret ?_
 refine finG (fn := Tryd.f58) (rs := [.cell 0 25]) (vs := [_]) hE rfl ⟨⟨_, rfl, .inl ⟨_, rfl, hS.seesAt 0 rfl, ty25⟩⟩, trivial⟩ ?_
 subst hr
 replace hS := hS.tail
 exact ⟨_, s127, rfl, (Sg.Le.trans (Sg.Le.trans (Sg.Le.trans (Sg.Le.trans (Sg.Le.trans (Sg.Le.trans (Sg.Le.trans (Sg.Le.trans (Sg.Le.trans (Sg.Le.trans (Sg.Le.trans (Sg.Le.trans hle57 hle63) hle69) hle74) hle80) hle86) hle92) hle99) hle105) hle110) hle116) hle122) hle128), ⟨_, _, _, _, rfl, h129, Sl.nil⟩, hS⟩
set_option maxHeartbeats 8000000 in
theorem Guidecheck_ok  {w : World} {s : Sg} {R : List HP} {x0 : ApiDay} {a0_0 : Option Addr} {c0_0 : Nat} {a0_1 : Option Addr} {c0_1 : Nat} {x1 : Int} {x2 : Int} {x3 : Int} {x4 : List Int} {a4 : Option Addr} {c4 : Nat} (hS : St w s (R)) (hTab : TabS Tryd.prog s) (h0_0 : Sl 4 RApiTrain s a0_0 c0_0 x0.Trains) (h0_1 : Sl 1 (RL 1 (RI .i64)) s a0_1 c0_1 x0.Turns) (h4 : Sl 1 (RI .i64) s a4 c4 x4) {r : Int} (hr : Guidecheck x0 x1 x2 x3 x4 = some r) :
  Calls Tryd.prog 46 [.agg [.slice a0_0 x0.Trains.length c0_0, .slice a0_1 x0.Turns.length c0_1].toArray, .int .i64 x1, .int .i64 x2, .int .i64 x3, .slice a4 x4.length c4].toArray w (fun e w => e = .returned (.int .i64 r) ∧ St w s (R)) := by
 refine enter Tryd.func46 rfl rfl rfl fun a hE => ?_
 rw [Guidecheck] at hr
 refine W.seq (W.region ?_)
 refine WL.box hE hS (runs_plain rfl) rfl rfl rfl ?_; clear hE hS a w; intro b51 a w hE hS
 refine vP hS hE (Gives.p hE rfl) rfl ?_; clear hE a; intro a hE
 refine WL.nil ?_
 refine W.seq ?_
 refine W.seq (W.region ?_)
 refine vP hS hE (Gives.loadBA hE 0 rfl rfl ty25) rfl ?_; clear hE a; intro a hE
 refine vP hS hE (Gives.p hE rfl) rfl ?_; clear hE a; intro a hE
 obtain ⟨q52, hq53, hr⟩ := bindS hr
 have hc_ := GuidecheckLeast_ok hS (TabS.mono (Sg.Le.refl _) hTab) h0_0 h0_1 hq53
 refine WL.fnq hE (hc_) (runs_plain rfl) bd67 rfl rfl rfl ?_
 clear hE hS hc_; rintro e w ⟨rfl, hS⟩; refine ⟨_, rfl, ?_⟩; clear a; intro a hE
 refine vP hS hE (Gives.p hE rfl) rfl ?_; clear hE a; intro a hE
 refine WL.nil ?_
 refine W.seq (W.region ?_)
 refine vP hS hE (Gives.p hE rfl) rfl ?_; clear hE a; intro a hE
 refine vP hS hE (Gives.p hE rfl) rfl ?_; clear hE a; intro a hE
 refine WL.nil ?_
 refine W.cond hE rfl (fun hc54 => ?_) (fun hc54 => ?_)
 ·replace hr := iteT hc54 hr
  refine W.seq (W.region ?_)
  refine vP hS hE (Gives.p hE rfl) rfl ?_; clear hE a; intro a hE
  refine vP hS hE (Gives.p hE rfl) rfl ?_; clear hE a; intro a hE
  refine WL.nil ?_
  refine W.ret ?_
  refine finG (fn := Tryd.f46) (rs := [.tmp 10]) (vs := [_]) hE rfl ⟨rfl, trivial⟩ ?_
  obtain rfl := Option.some.inj hr
  replace hS := hS.tail
  exact ⟨rfl, hS⟩
 ·replace hr := iteF hc54 hr
  refine W.skip ?_
  refine W.seq ?_
  refine W.seq ?_
  obtain ⟨q56, hq55, hr⟩ := bndS hr
  refine W.cut (fun a w => ∃ (q59 : Bool), q59 = q56 ∧ Rep a 41 [(2, .int .i64 x2), (3, .int .i64 x3), (4, .slice a4 x4.length c4), (27, .bool q59)] ∧ St w s (pt b51 (.cells #[.slice a0_0 x0.Trains.length c0_0, .slice a0_1 x0.Turns.length c0_1] 25 (0, 0)) :: R)) ?_ ?_
  ·refine W.gen fun K60 hK60 => ?_
   refine W.region ?_
   refine vP hS hE (Gives.p hE rfl) rfl ?_; clear hE a; intro a hE
   refine WL.fnq hE (Guidewithin_ok hS  rfl (r := Guidewithin x2 0 11)) (runs_plain rfl) bd66 rfl rfl rfl ?_
   clear hE hS; rintro e w ⟨rfl, hS⟩; refine ⟨_, rfl, ?_⟩; clear a; intro a hE
   refine vP hS hE (Gives.p hE rfl) rfl ?_; clear hE a; intro a hE
   refine vP hS hE (Gives.p hE rfl) rfl ?_; clear hE a; intro a hE
   rcases Bool.eq_false_or_eq_true (!(Guidewithin x2 0 11)) with hg61 | hg61
   ·replace hq55 := iteT hg61 hq55
    refine WL.no hE (runs_not hE rfl rfl rfl (by rw [hg61]; decide)) rfl ?_; clear hE a; intro a hE
    refine WL.no hE (runs_not hE rfl rfl rfl (by rw [hg61]; decide)) rfl ?_; clear hE a; intro a hE
    refine WL.no hE (runs_not hE rfl rfl rfl (by rw [hg61]; decide)) rfl ?_; clear hE a; intro a hE
    refine vP hS hE (Gives.pickT hE rfl hg61 rfl) rfl ?_; clear hE a; intro a hE
    refine WL.nil ?_
    subst hK60
    exact ⟨true, hq55, hE.pick _ ⟨rfl, rfl, rfl, rfl, trivial⟩, hS⟩
   ·replace hq55 := iteF hg61 hq55
    refine WL.vS hS hE (runs_if hE rfl rfl rfl hg61) (Gives.p hE rfl) rfl ?_; clear hE a; intro a hE
    refine WL.fnq hE (Guidewithin_ok hS  rfl (r := Guidewithin x3 0 11)) (runs_if hE rfl rfl rfl hg61) bd66 rfl rfl rfl ?_
    clear hE hS; rintro e w ⟨rfl, hS⟩; refine ⟨_, rfl, ?_⟩; clear a; intro a hE
    refine WL.vS hS hE (runs_if hE rfl rfl rfl hg61) (Gives.p hE rfl) rfl ?_; clear hE a; intro a hE
    refine vP hS hE (Gives.pickF hE rfl hg61 rfl) rfl ?_; clear hE a; intro a hE
    refine WL.nil ?_
    subst hK60
    exact ⟨!(Guidewithin x3 0 11), hq55, hE.pick _ ⟨rfl, rfl, rfl, rfl, trivial⟩, hS⟩
  ·clear hE hS a w; rintro a w ⟨q59, rfl, hE, hS⟩
   refine W.cond hE rfl (fun hc62 => ?_) (fun hc62 => ?_)
   ·replace hr := iteT hc62 hr
    refine W.seq (W.region ?_)
    refine vP hS hE (Gives.p hE rfl) rfl ?_; clear hE a; intro a hE
    refine WL.nil ?_
    refine W.ret ?_
    refine finG (fn := Tryd.f46) (rs := [.tmp 10]) (vs := [_]) hE rfl ⟨rfl, trivial⟩ ?_
    obtain rfl := Option.some.inj hr
    replace hS := hS.tail
    exact ⟨rfl, hS⟩
   ·replace hr := iteF hc62 hr
    refine W.skip ?_
    refine W.seq ?_
    refine W.seq (W.region ?_)
    refine vP hS hE (Gives.p hE rfl) rfl ?_; clear hE a; intro a hE
    refine vP hS hE (Gives.p hE rfl) rfl ?_; clear hE a; intro a hE
    refine vP hS hE (Gives.p hE rfl) rfl ?_; clear hE a; intro a hE
    refine WL.nil ?_
    refine W.cond hE rfl (fun hc63 => ?_) (fun hc63 => ?_)
    ·replace hr := iteT hc63 hr
     refine W.seq (W.region ?_)
     refine vP hS hE (Gives.p hE rfl) rfl ?_; clear hE a; intro a hE
     refine WL.nil ?_
     refine W.ret ?_
     refine finG (fn := Tryd.f46) (rs := [.tmp 10]) (vs := [_]) hE rfl ⟨rfl, trivial⟩ ?_
     obtain rfl := Option.some.inj hr
     replace hS := hS.tail
     exact ⟨rfl, hS⟩
    ·replace hr := iteF hc63 hr
     refine W.skip ?_
     refine W.seq ?_
     refine W.seq (W.region ?_)
     refine vP hS hE (Gives.p hE rfl) rfl ?_; clear hE a; intro a hE
     refine vP hS hE (Gives.len hE rfl sl45) rfl ?_; clear hE a; intro a hE
     refine vP hS hE (Gives.p hE rfl) rfl ?_; clear hE a; intro a hE
     refine WL.nil ?_
     obtain ⟨q65, hq64, hr⟩ := bndS hr
     refine W.cut (fun a w => (.next ()) = q65 ∧ Rep a 41 [] ∧ St w s (pt b51 (.cells #[.slice a0_0 x0.Trains.length c0_0, .slice a0_1 x0.Turns.length c0_1] 25 (0, 0)) :: R)) ?_ ?_
     ·refine W.block ?_
      refine W.loop (fun m a w => ∃ (rest68 : List Int) (k66 : Nat), rest68.length = m ∧ x4.drop k66 = rest68 ∧ Guidecheck.loop1 rest68 = q65 ∧ Rep a 41 [(31, .slice a4 x4.length c4), (32, .int .i64 ((x4).length : Int)), (33, .int .i64 ((k66 : Nat) : Int))] ∧ St w s (pt b51 (.cells #[.slice a0_0 x0.Trains.length c0_0, .slice a0_1 x0.Turns.length c0_1] 25 (0, 0)) :: R)) (m := x4.length) ⟨x4, 0, rfl, rfl, hq64, hE.pick _ ⟨rfl, rfl, rfl, trivial⟩, hS⟩ ?_
      clear hE hS a w hq64; rintro m72 a w ⟨rest68, k66, rfl, hd69, hq64, hE, hS⟩
      refine W.gen fun K75 hK75 => ?_
      rcases rest68 with _ | ⟨x67, rest68⟩
      ·have hlt70 := drop_nil hd69
       refine W.seq (W.region ?_)
       refine vP hS hE (Gives.p hE rfl) rfl ?_; clear hE a; intro a hE
       refine WL.nil ?_
       refine W.seq ?_
       refine W.condF hE rfl (decide_eq_false (by omega)) ?_
       subst hK75
       refine W.exit rfl ?_
       exact ⟨hq64, hE.pick _ trivial, hS⟩
      ·obtain ⟨hlt70, hx71, hd69⟩ := drop_cons hd69
       rw [Guidecheck.loop1] at hq64
       refine W.seq (W.region ?_)
       refine vP hS hE (Gives.p hE rfl) rfl ?_; clear hE a; intro a hE
       refine WL.nil ?_
       refine W.seq ?_
       refine W.condT hE rfl (decide_eq_true (by omega)) ?_
       refine W.skip ?_
       refine W.seq ?_
       refine W.block ?_
       refine W.seq (W.region ?_)
       obtain ⟨cs76, hl77, hR78, hat79⟩ := h4.at hx71
       subst hR78
       refine vP hS hE (Gives.idx hE k66 rfl rfl sl45 rfl hlt70 (h4.aok hlt70)) rfl ?_; clear hE a; intro a hE
       refine vP hS hE (Gives.load1 hE rfl (fun w h => hat79 w _ h) ty3) rfl ?_; clear hE a; intro a hE
       refine vP hS hE (Gives.p hE rfl) rfl ?_; clear hE a; intro a hE
       refine WL.nil ?_
       refine W.seq (W.region ?_)
       refine vP hS hE (Gives.p hE rfl) rfl ?_; clear hE a; intro a hE
       refine WL.fnq hE (Guidewithin_ok hS  rfl (r := Guidewithin x67 0 28800)) (runs_plain rfl) bd66 rfl rfl rfl ?_
       clear hE hS; rintro e w ⟨rfl, hS⟩; refine ⟨_, rfl, ?_⟩; clear a; intro a hE
       refine vP hS hE (Gives.p hE rfl) rfl ?_; clear hE a; intro a hE
       refine WL.nil ?_
       refine W.cond hE rfl (fun hc80 => ?_) (fun hc80 => ?_)
       ·replace hq64 := iteT hc80 hq64
        refine W.seq (W.region ?_)
        refine vP hS hE (Gives.p hE rfl) rfl ?_; clear hE a; intro a hE
        refine WL.nil ?_
        refine W.ret ?_
        subst hK75
        rw [← hq64] at hr
        dsimp only at hr
        refine finG (fn := Tryd.f46) (rs := [.tmp 10]) (vs := [_]) hE rfl ⟨rfl, trivial⟩ ?_
        obtain rfl := Option.some.inj hr
        replace hS := hS.tail
        exact ⟨rfl, hS⟩
       ·replace hq64 := iteF hc80 hq64
        refine W.skip ?_
        refine W.region ?_
        refine vP hS hE (Gives.inc hE rfl (by have := h4.small; omega)) rfl ?_; clear hE a; intro a hE
        refine vP hS hE (Gives.p hE rfl) rfl ?_; clear hE a; intro a hE
        refine WL.nil ?_
        subst hK75
        exact ⟨rest68.length, Nat.lt_succ_self _, rest68, k66 + 1, rfl, hd69, hq64, hE.pick _ ⟨rfl, rfl, rfl, trivial⟩, hS⟩
     ·clear hE hS a w; rintro a w ⟨rfl, hE, hS⟩
      dsimp only at hr
      refine W.seq (W.region ?_)
      refine vP hS hE (Gives.p hE rfl) rfl ?_; clear hE a; intro a hE
      refine WL.nil ?_
      refine W.ret ?_
      refine finG (fn := Tryd.f46) (rs := [.tmp 10]) (vs := [_]) hE rfl ⟨rfl, trivial⟩ ?_
      obtain rfl := Option.some.inj hr
      replace hS := hS.tail
      exact ⟨rfl, hS⟩
theorem pt_at0 {α : Type} {es : Nat} {R : Rd α} {s : Sg} {b : Nat} {v : α} (h : Pt es R s (some ⟨b, 0, none⟩) (some v)) : ∃ cs, s.At b 0 cs ∧ R s cs v := by
 obtain ⟨b', o', cs, e, _, h3, h4⟩ := h
 injection e with e
 injection e with e1 e2
 subst e1; subst e2
 exact ⟨cs, h3, h4⟩
set_option maxHeartbeats 4000000 in
theorem rides1_ok {s : Sg} {bn bo bs ba : Nat} {cn : List Value} {n : GuideNet} {station at_ nt : Int} (hn : s.At bn 0 cn) (hcn : RGuideNet s cn n) (hnt : s.At bo 0 [.int .i64 nt]) (hst : s.At bs 0 [.int .i64 station]) (hat : s.At ba 0 [.int .i64 at_]) :
  Iter Tryd.prog 113 [.pointer (some ⟨bn, 0, none⟩), .pointer (some ⟨bo, 0, none⟩), .pointer (some ⟨bs, 0, none⟩), .pointer (some ⟨ba, 0, none⟩)] (fun x => [Value.agg (GuideRide.cells x).toArray]) s (ridesT station at_ nt n.Day.Trains 0) := by
 intro y I X hI hY w t Q h0 hS
 obtain ⟨a0, c0, a1, c1, rfl, hTr, hTu⟩ := hcn
 have cell : ∀ {u : Sg} {b o : Nat} {cs : List Value} {v : Value} (k : Nat), s.Le u → s.At b o cs → cs[k]? = some v → ∀ w rs, St w u rs → Sees w b (o + k) [v] := by
  intro u b o cs v k hle h hk w rs hS j x hj
  cases j with
  | zero => simp at hj; subst hj; have := hS.sees (h.mono hle) k v hk; simpa using this
  | succ j => simp at hj
 have hle := hI _ _ _ h0
 refine enter Tryd.func113 rfl rfl rfl fun a hE => ?_
 refine W.seq (W.region ?_)
 refine vP hS hE (Gives.fld hE rfl fl94_0) rfl ?_; clear hE a; intro a hE
 refine vP hS hE (Gives.fld hE rfl fl25_0) rfl ?_; clear hE a; intro a hE
 refine vP hS hE (Gives.load1 hE rfl (fun w h => cell 0 hle hn rfl w _ h) ty22) rfl ?_; clear hE a; intro a hE
 refine vP hS hE (Gives.len hE rfl sl22) rfl ?_; clear hE a; intro a hE
 refine vP hS hE (Gives.p hE rfl) rfl ?_; clear hE a; intro a hE
 refine WL.nil ?_
 refine W.block ?_
 refine W.loop (fun m a w => ∃ (rest : List ApiTrain) (k : Nat) (pre : List GuideRide) (u : Sg) (Q : List HP), rest.length = m ∧ n.Day.Trains.drop k = rest ∧ ridesT station at_ nt n.Day.Trains 0 = pre ++ ridesT station at_ nt rest k ∧ I pre u Q ∧ Rep a 59 [(0, .func (.yield y) #[] #[]), (1, .pointer (some ⟨bn, 0, none⟩)), (2, .pointer (some ⟨bo, 0, none⟩)), (3, .pointer (some ⟨bs, 0, none⟩)), (4, .pointer (some ⟨ba, 0, none⟩)), (13, .slice a0 n.Day.Trains.length c0), (14, .int .i64 ((n.Day.Trains.length : Nat) : Int)), (15, .int .i64 (k : Int))] ∧ St w u Q) (m := n.Day.Trains.length) ⟨n.Day.Trains, 0, [], t, Q, rfl, rfl, rfl, h0, hE.pick _ ⟨rfl, rfl, rfl, rfl, rfl, rfl, rfl, rfl, trivial⟩, hS⟩ ?_
 clear hE hS h0 hle a w t Q; rintro m a w ⟨rest, k, pre, u, Q, rfl, hd, hl, hp, hE, hS⟩
 have hle := hI _ _ _ hp
 refine W.gen fun K hK => ?_
 have hrd : K.rd = none := by rw [← hK]
 rcases rest with _ | ⟨x, rest⟩
 ·have hlt := drop_nil hd
  refine W.seq (W.region ?_)
  refine vP hS hE (Gives.p hE rfl) rfl ?_; clear hE a; intro a hE
  refine WL.nil ?_
  refine W.seq ?_
  refine W.condF hE rfl (decide_eq_false (by omega)) ?_
  subst hK
  refine W.exit rfl ?_
  refine fin0 hE rfl ⟨⟨_, rfl⟩, .inl ⟨u, Q, ?_, hS⟩⟩
  rw [hl, ridesT, List.append_nil]; exact hp
 obtain ⟨hlt, hx, hd⟩ := drop_cons hd
 rw [ridesT] at hl
 refine W.seq (W.region ?_)
 refine vP hS hE (Gives.p hE rfl) rfl ?_; clear hE a; intro a hE
 refine WL.nil ?_
 refine W.seq ?_
 refine W.condT hE rfl (decide_eq_true (by omega)) ?_
 refine W.skip ?_
 refine W.seq ?_
 refine W.block ?_
 obtain ⟨ct, hctl, hctA, hct⟩ := hTr.el k x hx
 obtain ⟨ta, tc, tb, te, rfl, hSt, hLe⟩ := hct
 refine W.seq (W.region ?_)
 refine vP hS hE (Gives.p hE rfl) rfl ?_; clear hE a; intro a hE
 refine vP hS hE (Gives.idx hE k rfl rfl sl22 rfl hlt ((Sl.mono RApiTrain.mono hle hTr).aok (k := k) hlt)) rfl ?_; clear hE a; intro a hE
 refine vP hS hE (Gives.loadA hE rfl (fun w h => h.sees (hctA.mono hle)) ty44) rfl ?_; clear hE a; intro a hE
 refine WL.alloc hE hS (runs_plain rfl) zr44 rfl ?_; clear hE hS a w; intro bt a w hE hS
 refine vP hS hE (Gives.p hE rfl) rfl ?_; clear hE a; intro a hE
 refine WL.storeI hE hS 0 rfl [.int .i64 x.No, .int .i64 x.Stock, .slice ta x.Stops.length tc, .slice tb x.Legs.length te] (runs_plain rfl) rfl rfl rfl ty44 rfl rfl rfl rfl ?_; clear hE hS a w; intro a w hE hS
 refine WL.nil ?_
 refine W.seq ?_
 refine W.seq (W.region ?_)
 refine vP hS hE (Gives.p hE rfl) rfl ?_; clear hE a; intro a hE
 refine vP hS hE (Gives.load1 hE rfl (fun w h => cell 0 hle hnt rfl w _ h) ty3) rfl ?_; clear hE a; intro a hE
 refine vP hS hE (Gives.p hE rfl) rfl ?_; clear hE a; intro a hE
 refine WL.nil ?_
 refine W.cond hE rfl (fun hc => ?_) (fun hc => ?_)
 ·refine W.exit rfl ?_
  have hc : (k : Int) = nt := by simpa using hc
  rw [if_pos hc, List.nil_append] at hl
  replace hS := hS.tail
  refine W.region ?_
  refine vP hS hE (Gives.inc hE rfl (by have := hTr.small; omega)) rfl ?_; clear hE a; intro a hE
  refine vP hS hE (Gives.p hE rfl) rfl ?_; clear hE a; intro a hE
  refine WL.nil ?_
  subst hK
  exact ⟨rest.length, Nat.lt_succ_self _, rest, k + 1, pre, u, Q, rfl, hd, hl, hp, hE.pick _ ⟨rfl, rfl, rfl, rfl, rfl, rfl, rfl, rfl, trivial⟩, hS⟩
 have hc : ¬ (k : Int) = nt := by simpa using hc
 rw [if_neg hc] at hl
 refine W.skip ?_
 refine W.seq (W.region ?_)
 refine vP hS hE (Gives.fld hE rfl fl44_2) rfl ?_; clear hE a; intro a hE
 refine vP hS hE (Gives.loadB hE 0 rfl rfl rfl ty42) rfl ?_; clear hE a; intro a hE
 refine vP hS hE (Gives.len hE rfl sl42) rfl ?_; clear hE a; intro a hE
 refine vP hS hE (Gives.p hE rfl) rfl ?_; clear hE a; intro a hE
 refine WL.nil ?_
 refine W.block ?_
 refine W.loop (fun m a w => ∃ (rest2 : List ApiStop) (k2 : Nat) (pre2 : List GuideRide) (u2 : Sg) (Q2 : List HP), rest2.length = m ∧ x.Stops.drop k2 = rest2 ∧ ridesT station at_ nt n.Day.Trains 0 = pre2 ++ (ridesS station at_ k x.Stops.length rest2 k2 ++ ridesT station at_ nt rest (k + 1)) ∧ I pre2 u2 Q2 ∧ Rep a 59 [(0, .func (.yield y) #[] #[]), (1, .pointer (some ⟨bn, 0, none⟩)), (2, .pointer (some ⟨bo, 0, none⟩)), (3, .pointer (some ⟨bs, 0, none⟩)), (4, .pointer (some ⟨ba, 0, none⟩)), (13, .slice a0 n.Day.Trains.length c0), (14, .int .i64 ((n.Day.Trains.length : Nat) : Int)), (15, .int .i64 (k : Int)), (6, .int .i64 (k : Int)), (7, .pointer (some ⟨bt, 0, none⟩)), (24, .slice ta x.Stops.length tc), (25, .int .i64 ((x.Stops.length : Nat) : Int)), (26, .int .i64 (k2 : Int))] ∧ St w u2 (pt bt (Obj.cells [Value.int .i64 x.No, Value.int .i64 x.Stock, Value.slice ta x.Stops.length tc, Value.slice tb x.Legs.length te].toArray 44 (0, 0)) :: Q2)) (m := x.Stops.length) ⟨x.Stops, 0, pre, u, Q, rfl, rfl, hl, hp, hE.pick _ ⟨rfl, rfl, rfl, rfl, rfl, rfl, rfl, rfl, rfl, rfl, rfl, rfl, rfl, trivial⟩, hS⟩ ?_
 clear hE hS a w hp hl hle pre; rintro m2 a w ⟨rest2, k2, pre, u2, Q2, rfl, hd2, hl, hp, hE, hS⟩
 have hle := hI _ _ _ hp
 refine W.gen fun K2 hK2 => ?_
 have hrd2 : K2.rd = none := by rw [← hK2]; exact hrd
 rcases rest2 with _ | ⟨z, rest2⟩
 ·have hlt2 := drop_nil hd2
  rw [ridesS, List.nil_append] at hl
  refine W.seq (W.region ?_)
  refine vP hS hE (Gives.p hE rfl) rfl ?_; clear hE a; intro a hE
  refine WL.nil ?_
  refine W.seq ?_
  refine W.condF hE rfl (decide_eq_false (by omega)) ?_
  subst hK2
  refine W.exit rfl ?_
  replace hS := hS.tail
  refine W.region ?_
  refine vP hS hE (Gives.inc hE rfl (by have := hTr.small; omega)) rfl ?_; clear hE a; intro a hE
  refine vP hS hE (Gives.p hE rfl) rfl ?_; clear hE a; intro a hE
  refine WL.nil ?_
  subst hK
  exact ⟨rest.length, Nat.lt_succ_self _, rest, k + 1, pre, u2, Q2, rfl, hd, hl, hp, hE.pick _ ⟨rfl, rfl, rfl, rfl, rfl, rfl, rfl, rfl, trivial⟩, hS⟩
 obtain ⟨hlt2, hx2, hd2⟩ := drop_cons hd2
 rw [ridesS] at hl
 refine W.seq (W.region ?_)
 refine vP hS hE (Gives.p hE rfl) rfl ?_; clear hE a; intro a hE
 refine WL.nil ?_
 refine W.seq ?_
 refine W.condT hE rfl (decide_eq_true (by omega)) ?_
 refine W.skip ?_
 refine W.seq ?_
 refine W.block ?_
 obtain ⟨cz, hczl, hcz, hczS⟩ := (Sl.mono RApiStop.mono hle hSt).at hx2
 subst hcz
 refine W.seq (W.region ?_)
 refine vP hS hE (Gives.p hE rfl) rfl ?_; clear hE a; intro a hE
 refine vP hS hE (Gives.idx hE k2 rfl rfl sl42 rfl hlt2 ((Sl.mono RApiStop.mono hle hSt).aok (k := k2) hlt2)) rfl ?_; clear hE a; intro a hE
 refine vP hS hE (Gives.loadA hE rfl (fun w h => hczS w _ h) ty106) rfl ?_; clear hE a; intro a hE
 refine WL.alloc hE hS (runs_plain rfl) zr106 rfl ?_; clear hE hS a w; intro bz a w hE hS
 refine vP hS hE (Gives.p hE rfl) rfl ?_; clear hE a; intro a hE
 refine WL.storeI hE hS 0 rfl (ApiStop.cells z) (vs := ApiStop.cells z) (runs_plain rfl) rfl rfl rfl ty106 rfl rfl rfl rfl ?_; clear hE hS a w; intro a w hE hS
 refine WL.nil ?_
 refine W.seq ?_
 refine W.seq (W.region ?_)
 refine vP hS hE (Gives.fld hE rfl fl106_0) rfl ?_; clear hE a; intro a hE
 refine vP hS hE (Gives.loadB hE 0 rfl rfl rfl ty3) rfl ?_; clear hE a; intro a hE
 refine vP hS hE (Gives.load1 hE rfl (fun w h => cell 0 hle hst rfl w _ h) ty3) rfl ?_; clear hE a; intro a hE
 refine vP hS hE (Gives.p hE rfl) rfl ?_; clear hE a; intro a hE
 refine vP hS hE (Gives.p hE rfl) rfl ?_; clear hE a; intro a hE
 by_cases hc3 : z.Station = station
 ·have hb3 : (z.Station != station) = false := by simpa using hc3
  refine WL.vS hS hE (runs_if hE rfl rfl rfl hb3) (Gives.fld hE rfl fl106_3) rfl ?_; clear hE a; intro a hE
  refine WL.vS hS hE (runs_if hE rfl rfl rfl hb3) (Gives.loadB hE 0 rfl rfl rfl ty3) rfl ?_; clear hE a; intro a hE
  refine WL.vS hS hE (runs_if hE rfl rfl rfl hb3) (Gives.load1 hE rfl (fun w h => cell 0 hle hat rfl w _ h) ty3) rfl ?_; clear hE a; intro a hE
  refine WL.vS hS hE (runs_if hE rfl rfl rfl hb3) (Gives.p hE rfl) rfl ?_; clear hE a; intro a hE
  refine vP hS hE (Gives.pickF hE rfl hb3 rfl) rfl ?_; clear hE a; intro a hE
  refine WL.nil ?_
  refine W.cond hE rfl (fun hc4 => ?_) (fun hc4 => ?_)
  ·refine W.exit rfl ?_
   have hc4 : z.Dep < at_ := by simpa using hc4
   rw [if_pos (Or.inr hc4), List.nil_append] at hl
   replace hS := hS.tail
   refine W.region ?_
   refine vP hS hE (Gives.inc hE rfl (by have := hSt.small; omega)) rfl ?_; clear hE a; intro a hE
   refine vP hS hE (Gives.p hE rfl) rfl ?_; clear hE a; intro a hE
   refine WL.nil ?_
   subst hK2
   exact ⟨rest2.length, Nat.lt_succ_self _, rest2, k2 + 1, pre, u2, Q2, rfl, hd2, hl, hp, hE.pick _ ⟨rfl, rfl, rfl, rfl, rfl, rfl, rfl, rfl, rfl, rfl, rfl, rfl, rfl, trivial⟩, hS⟩
  have hc4 : ¬ z.Dep < at_ := by simpa using hc4
  rw [if_neg (show ¬ (z.Station ≠ station ∨ z.Dep < at_) from fun h => h.elim (fun h => h hc3) hc4), List.append_assoc] at hl
  refine W.skip ?_
  refine W.seq (W.region ?_)
  refine vP hS hE (Gives.p hE rfl) rfl ?_; clear hE a; intro a hE
  refine vP hS hE (Gives.inc hE rfl (by have := hSt.small; omega)) rfl ?_; clear hE a; intro a hE
  refine vP hS hE (Gives.p hE rfl) rfl ?_; clear hE a; intro a hE
  refine WL.nil ?_
  refine W.block ?_
  refine W.loop (fun m a w => ∃ (r3 k3 : Nat) (pre3 : List GuideRide) (u3 : Sg) (Q3 : List HP), r3 = m ∧ k3 + r3 = x.Stops.length ∧ ridesT station at_ nt n.Day.Trains 0 = pre3 ++ (ridesF k k2 r3 k3 ++ (ridesS station at_ k x.Stops.length rest2 (k2 + 1) ++ ridesT station at_ nt rest (k + 1))) ∧ I pre3 u3 Q3 ∧ Rep a 59 [(0, .func (.yield y) #[] #[]), (1, .pointer (some ⟨bn, 0, none⟩)), (2, .pointer (some ⟨bo, 0, none⟩)), (3, .pointer (some ⟨bs, 0, none⟩)), (4, .pointer (some ⟨ba, 0, none⟩)), (13, .slice a0 n.Day.Trains.length c0), (14, .int .i64 ((n.Day.Trains.length : Nat) : Int)), (15, .int .i64 (k : Int)), (6, .int .i64 (k : Int)), (7, .pointer (some ⟨bt, 0, none⟩)), (24, .slice ta x.Stops.length tc), (25, .int .i64 ((x.Stops.length : Nat) : Int)), (26, .int .i64 (k2 : Int)), (8, .int .i64 (k2 : Int)), (9, .pointer (some ⟨bz, 0, none⟩)), (10, .int .i64 (k3 : Int))] ∧ St w u3 (pt bz (Obj.cells (ApiStop.cells z).toArray 106 (0, 0)) :: pt bt (Obj.cells [Value.int .i64 x.No, Value.int .i64 x.Stock, Value.slice ta x.Stops.length tc, Value.slice tb x.Legs.length te].toArray 44 (0, 0)) :: Q3)) (m := x.Stops.length - (k2 + 1)) ⟨x.Stops.length - (k2 + 1), k2 + 1, pre, u2, Q2, rfl, by omega, hl, hp, hE.pick _ ⟨rfl, rfl, rfl, rfl, rfl, rfl, rfl, rfl, rfl, rfl, rfl, rfl, rfl, rfl, rfl, rfl, trivial⟩, hS⟩ ?_
  clear hE hS a w hp hl hle pre; rintro m3 a w ⟨r3, k3, pre, u3, Q3, rfl, hd3, hl, hp, hE, hS⟩
  have hle := hI _ _ _ hp
  refine W.gen fun K3 hK3 => ?_
  have hrd3 : K3.rd = none := by rw [← hK3]; exact hrd2
  refine W.seq ?_
  refine W.seq (W.region ?_)
  refine vP hS hE (Gives.p hE rfl) rfl ?_; clear hE a; intro a hE
  refine vP hS hE (Gives.fld hE rfl fl44_2) rfl ?_; clear hE a; intro a hE
  refine vP hS hE (Gives.loadB hE 1 rfl rfl rfl ty42) rfl ?_; clear hE a; intro a hE
  refine vP hS hE (Gives.len hE rfl sl42) rfl ?_; clear hE a; intro a hE
  refine vP hS hE (Gives.p hE rfl) rfl ?_; clear hE a; intro a hE
  refine WL.nil ?_
  rcases r3 with _ | r3
  ·rw [ridesF, List.nil_append] at hl
   refine W.condF hE rfl (decide_eq_false (by omega)) ?_
   subst hK3
   refine W.exit rfl ?_
   replace hS := hS.tail
   refine W.region ?_
   refine vP hS hE (Gives.inc hE rfl (by have := hSt.small; omega)) rfl ?_; clear hE a; intro a hE
   refine vP hS hE (Gives.p hE rfl) rfl ?_; clear hE a; intro a hE
   refine WL.nil ?_
   subst hK2
   exact ⟨rest2.length, Nat.lt_succ_self _, rest2, k2 + 1, pre, u3, Q3, rfl, hd2, hl, hp, hE.pick _ ⟨rfl, rfl, rfl, rfl, rfl, rfl, rfl, rfl, rfl, rfl, rfl, rfl, rfl, trivial⟩, hS⟩
  rw [ridesF, List.cons_append] at hl
  refine W.condT hE rfl (decide_eq_true (by omega)) ?_
  refine W.skip ?_
  refine W.seq ?_
  refine W.block ?_
  refine W.seq ?_
  refine W.regionY ?_
  refine WLY.vS hrd3 hS hE (runs_plain rfl) (Gives.p hE rfl) rfl ?_; clear hE a; intro a hE
  refine WLY.vS hrd3 hS hE (runs_plain rfl) (Gives.p hE rfl) rfl ?_; clear hE a; intro a hE
  refine WLY.vS hrd3 hS hE (runs_plain rfl) (Gives.p hE rfl) rfl ?_; clear hE a; intro a hE
  refine WLY.vS hrd3 hS hE (runs_plain rfl) (Gives.p hE rfl) rfl ?_; clear hE a; intro a hE
  refine WLY.vS hrd3 hS hE (runs_plain rfl) (Gives.build hE (vs := [(0, .int .i64 (k : Int)), (1, .int .i64 (k2 : Int)), (2, .int .i64 (k3 : Int))]) (GuideRide.cells ⟨(k : Int), (k2 : Int), (k3 : Int)⟩) rfl (by kernel_rfl)) rfl ?_; clear hE a; intro a hE
  have hpre : pre ++ [⟨(k : Int), (k2 : Int), (k3 : Int)⟩] <+: ridesT station at_ nt n.Day.Trains 0 := ⟨_, by rw [hl, List.append_assoc]; rfl⟩
  refine WLY.yield hrd3 hE rfl rfl (runs_plain rfl) rfl (hY pre ⟨(k : Int), (k2 : Int), (k3 : Int)⟩ u3 Q3 [pt bz (Obj.cells (ApiStop.cells z).toArray 106 (0, 0)), pt bt (Obj.cells [Value.int .i64 x.No, Value.int .i64 x.Stock, Value.slice ta x.Stops.length tc, Value.slice tb x.Legs.length te].toArray 44 (0, 0))] w hpre hp hS) ?_
  clear hE hS a w; rintro e w (⟨rfl, u4, Q4, hp4, hS⟩ | ⟨rfl, u4, Q4, hX, hS⟩)
  ·refine ⟨_, rfl, fun a hE => ?_⟩
   refine WLY.vS hrd3 hS hE (runs_plain rfl) (Gives.p hE rfl) rfl ?_; clear hE a; intro a hE
   refine WLY.nil ?_
   refine W.condF hE rfl rfl ?_
   refine W.skip ?_
   refine W.region ?_
   refine vP hS hE (Gives.p hE rfl) rfl ?_; clear hE a; intro a hE
   refine vP hS hE (Gives.inc hE rfl (by have := hSt.small; omega)) rfl ?_; clear hE a; intro a hE
   refine vP hS hE (Gives.p hE rfl) rfl ?_; clear hE a; intro a hE
   refine WL.nil ?_
   subst hK3
   exact ⟨r3, Nat.lt_succ_self _, r3, k3 + 1, _, u4, Q4, rfl, by omega, (by rw [hl, List.append_assoc]; rfl), hp4, hE.pick _ ⟨rfl, rfl, rfl, rfl, rfl, rfl, rfl, rfl, rfl, rfl, rfl, rfl, rfl, rfl, rfl, rfl, trivial⟩, hS⟩
  ·refine ⟨_, rfl, fun a hE => ?_⟩
   refine WLY.vS hrd3 hS hE (runs_plain rfl) (Gives.p hE rfl) rfl ?_; clear hE a; intro a hE
   refine WLY.nil ?_
   refine W.condT hE rfl rfl ?_
   refine W.ret ?_
   subst hK3 hK2 hK
   exact fin0 hE rfl ⟨⟨_, rfl⟩, .inr ⟨u4, Q4, hX, hS.tail.tail⟩⟩
 ·have hb3 : (z.Station != station) = true := by simpa using hc3
  refine WL.no hE (runs_not hE rfl rfl rfl (by rw [hb3]; decide)) rfl ?_; clear hE a; intro a hE
  refine WL.no hE (runs_not hE rfl rfl rfl (by rw [hb3]; decide)) rfl ?_; clear hE a; intro a hE
  refine WL.no hE (runs_not hE rfl rfl rfl (by rw [hb3]; decide)) rfl ?_; clear hE a; intro a hE
  refine WL.no hE (runs_not hE rfl rfl rfl (by rw [hb3]; decide)) rfl ?_; clear hE a; intro a hE
  refine vP hS hE (Gives.pickT hE rfl hb3 rfl) rfl ?_; clear hE a; intro a hE
  refine WL.nil ?_
  refine W.condT hE rfl rfl ?_
  refine W.exit rfl ?_
  rw [if_pos (Or.inl hc3), List.nil_append] at hl
  replace hS := hS.tail
  refine W.region ?_
  refine vP hS hE (Gives.inc hE rfl (by have := hSt.small; omega)) rfl ?_; clear hE a; intro a hE
  refine vP hS hE (Gives.p hE rfl) rfl ?_; clear hE a; intro a hE
  refine WL.nil ?_
  subst hK2
  exact ⟨rest2.length, Nat.lt_succ_self _, rest2, k2 + 1, pre, u2, Q2, rfl, hd2, hl, hp, hE.pick _ ⟨rfl, rfl, rfl, rfl, rfl, rfl, rfl, rfl, rfl, rfl, rfl, rfl, rfl, trivial⟩, hS⟩
theorem rides_it {s : Sg} {bn bo bs ba : Nat} {n : GuideNet} {station at_ nt : Int} (hn : Pt 3 RGuideNet s (some ⟨bn, 0, none⟩) (some n)) (hnt : Pt 1 (RI .i64) s (some ⟨bo, 0, none⟩) (some nt)) (hst : Pt 1 (RI .i64) s (some ⟨bs, 0, none⟩) (some station)) (hat : Pt 1 (RI .i64) s (some ⟨ba, 0, none⟩) (some at_)) :
  Iter Tryd.prog 113 [.pointer (some ⟨bn, 0, none⟩), .pointer (some ⟨bo, 0, none⟩), .pointer (some ⟨bs, 0, none⟩), .pointer (some ⟨ba, 0, none⟩)] (fun x => [Value.agg (GuideRide.cells x).toArray]) s (ridesT station at_ nt n.Day.Trains 0) := by
 obtain ⟨cn, h1, h2⟩ := pt_at0 hn
 obtain ⟨c1, h3, rfl⟩ := pt_at0 hnt
 obtain ⟨c2, h4, rfl⟩ := pt_at0 hst
 obtain ⟨c3, h5, rfl⟩ := pt_at0 hat
 exact rides1_ok h1 h2 h3 h4 h5

set_option maxHeartbeats 8000000 in
theorem GuideNetrides_ok  {w : World} {s : Sg} {R : List HP} {x0 : GuideNet} {a0_0 : Option Addr} {c0_0 : Nat} {a0_1 : Option Addr} {c0_1 : Nat} {x1 : Int} {x2 : Int} {x3 : Int} (hS : St w s (R)) (h0_0 : Sl 4 RApiTrain s a0_0 c0_0 x0.Day.Trains) (h0_1 : Sl 1 (RL 1 (RI .i64)) s a0_1 c0_1 x0.Day.Turns) {r : (List GuideRide)} (hr : GuideNetrides x0 x1 x2 x3 = r) :
  Calls Tryd.prog 72 [.agg [.slice a0_0 x0.Day.Trains.length c0_0, .slice a0_1 x0.Day.Turns.length c0_1, .int .i64 x0.least].toArray, .int .i64 x1, .int .i64 x2, .int .i64 x3].toArray w (fun e w => ∃ (lb0 : List Value) (t : Sg), e = .returned (.func (.func 113) #[] lb0.toArray) ∧ s.Le t ∧ Iter Tryd.prog 113 lb0 (fun x => [Value.agg (GuideRide.cells x).toArray]) t r ∧ St w t (R)) := by
 refine enter Tryd.func72 rfl rfl rfl fun a hE => ?_
 rw [GuideNetrides] at hr
 refine W.seq (W.region ?_)
 refine WL.box hE hS (runs_plain rfl) rfl rfl rfl ?_; clear hE hS a w; intro b51 a w hE hS
 refine WL.box hE hS (runs_plain rfl) rfl rfl rfl ?_; clear hE hS a w; intro b52 a w hE hS
 refine WL.box hE hS (runs_plain rfl) rfl rfl rfl ?_; clear hE hS a w; intro b53 a w hE hS
 refine WL.box hE hS (runs_plain rfl) rfl rfl rfl ?_; clear hE hS a w; intro b54 a w hE hS
 refine vP hS hE (Gives.p hE rfl) rfl ?_; clear hE a; intro a hE
 refine WL.nil ?_
 refine W.seq (W.region ?_)
 refine vP hS hE (Gives.mkfn hE (vs := [.pointer (some ⟨b51, 0, none⟩), .pointer (some ⟨b54, 0, none⟩), .pointer (some ⟨b52, 0, none⟩), .pointer (some ⟨b53, 0, none⟩)]) rfl) rfl ?_; clear hE a; intro a hE
 refine vP hS hE (Gives.p hE rfl) rfl ?_; clear hE a; intro a hE
 refine WL.nil ?_
 refine W.ret ?_
 have hF := hS.fixB (es := 3) (Rr := RGuideNet) (v := x0) RGuideNet.mono 3 rfl rfl ⟨_, _, _, _, rfl, h0_0, h0_1⟩; clear hS; obtain ⟨s55, hle56, hS, h57⟩ := hF
 replace h0_0 := Sl.mono RApiTrain.mono hle56 h0_0
 replace h0_1 := Sl.mono (RL.mono RI.mono) hle56 h0_1
 have hF := hS.fixB (es := 1) (Rr := RI .i64) (v := x3) RI.mono 0 rfl rfl rfl; clear hS; obtain ⟨s58, hle59, hS, h60⟩ := hF
 replace h0_0 := Sl.mono RApiTrain.mono hle59 h0_0
 replace h0_1 := Sl.mono (RL.mono RI.mono) hle59 h0_1
 replace h57 := Pt.mono RGuideNet.mono hle59 h57
 have hF := hS.fixB (es := 1) (Rr := RI .i64) (v := x1) RI.mono 1 rfl rfl rfl; clear hS; obtain ⟨s61, hle62, hS, h63⟩ := hF
 replace h0_0 := Sl.mono RApiTrain.mono hle62 h0_0
 replace h0_1 := Sl.mono (RL.mono RI.mono) hle62 h0_1
 replace h57 := Pt.mono RGuideNet.mono hle62 h57
 replace h60 := Pt.mono RI.mono hle62 h60
 have hF := hS.fixB (es := 1) (Rr := RI .i64) (v := x2) RI.mono 0 rfl rfl rfl; clear hS; obtain ⟨s64, hle65, hS, h66⟩ := hF
 replace h0_0 := Sl.mono RApiTrain.mono hle65 h0_0
 replace h0_1 := Sl.mono (RL.mono RI.mono) hle65 h0_1
 replace h57 := Pt.mono RGuideNet.mono hle65 h57
 replace h63 := Pt.mono RI.mono hle65 h63
 replace h60 := Pt.mono RI.mono hle65 h60
 have h67 := rides_it h57 h60 h63 h66
 refine finG (fn := Tryd.f72) (rs := [.tmp 8]) (vs := [_]) hE rfl ⟨rfl, trivial⟩ ?_
 subst hr
 exact ⟨[.pointer (some ⟨b51, 0, none⟩), .pointer (some ⟨b54, 0, none⟩), .pointer (some ⟨b52, 0, none⟩), .pointer (some ⟨b53, 0, none⟩)], s64, rfl, (Sg.Le.trans (Sg.Le.trans (Sg.Le.trans hle56 hle59) hle62) hle65), h67, hS⟩
set_option maxHeartbeats 8000000 in
theorem GuideNetbehind_ok  {w : World} {s : Sg} {R : List HP} {x0 : GuideNet} {a0_0 : Option Addr} {c0_0 : Nat} {a0_1 : Option Addr} {c0_1 : Nat} {x1 : GuideRide} (hS : St w s (R)) (h0_0 : Sl 4 RApiTrain s a0_0 c0_0 x0.Day.Trains) (h0_1 : Sl 1 (RL 1 (RI .i64)) s a0_1 c0_1 x0.Day.Turns) {r : (List GuideRide)} (hr : GuideNetbehind x0 x1 = some r) :
  Calls Tryd.prog 78 [.agg [.slice a0_0 x0.Day.Trains.length c0_0, .slice a0_1 x0.Day.Turns.length c0_1, .int .i64 x0.least].toArray, .agg (GuideRide.cells x1).toArray].toArray w (fun e w => ∃ (lb0 : List Value) (t : Sg), e = .returned (.func (.func 113) #[] lb0.toArray) ∧ s.Le t ∧ Iter Tryd.prog 113 lb0 (fun x => [Value.agg (GuideRide.cells x).toArray]) t r ∧ St w t (R)) := by
 refine enter Tryd.func78 rfl rfl rfl fun a hE => ?_
 rw [GuideNetbehind] at hr
 refine W.seq (W.region ?_)
 refine WL.box hE hS (runs_plain rfl) rfl rfl rfl ?_; clear hE hS a w; intro b51 a w hE hS
 refine WL.box hE hS (runs_plain rfl) rfl rfl rfl ?_; clear hE hS a w; intro b52 a w hE hS
 refine vP hS hE (Gives.p hE rfl) rfl ?_; clear hE a; intro a hE
 refine WL.nil ?_
 refine W.seq (W.region ?_)
 refine vP hS hE (Gives.loadBA hE 1 rfl rfl ty94) rfl ?_; clear hE a; intro a hE
 refine vP hS hE (Gives.loadBA hE 0 rfl rfl ty47) rfl ?_; clear hE a; intro a hE
 obtain ⟨q53, hq54, hr⟩ := bindS hr
 have hc_ := GuideNetoff_ok hS h0_0 h0_1 hq54
 refine WL.fnq hE (hc_) (runs_plain rfl) bd77 rfl rfl rfl ?_
 clear hE hS hc_; rintro e w ⟨cs55, s57, rfl, hle58, h56, hS⟩; refine ⟨_, rfl, ?_⟩; clear a; intro a hE
 replace h0_0 := Sl.mono RApiTrain.mono hle58 h0_0
 replace h0_1 := Sl.mono (RL.mono RI.mono) hle58 h0_1
 subst h56
 refine WL.alloc hE hS (runs_plain rfl) zr106 rfl ?_; clear hE hS a w; intro b59 a w hE hS
 refine WL.storeI hE hS 0 rfl (ApiStop.cells q53) (runs_plain rfl) rfl rfl rfl ty106 rfl rfl rfl rfl ?_; clear hE hS a w; intro a w hE hS
 refine WL.nil ?_
 refine W.seq (W.region ?_)
 refine vP hS hE (Gives.loadBA hE 2 rfl rfl ty94) rfl ?_; clear hE a; intro a hE
 refine vP hS hE (Gives.fld hE rfl fl106_0) rfl ?_; clear hE a; intro a hE
 refine vP hS hE (Gives.loadB hE 0 rfl rfl rfl ty3) rfl ?_; clear hE a; intro a hE
 refine vP hS hE (Gives.fld hE rfl fl106_2) rfl ?_; clear hE a; intro a hE
 refine vP hS hE (Gives.loadB hE 0 rfl rfl rfl ty3) rfl ?_; clear hE a; intro a hE
 refine vP hS hE (Gives.fld hE rfl fl94_1) rfl ?_; clear hE a; intro a hE
 refine vP hS hE (Gives.loadB hE 2 rfl rfl rfl ty3) rfl ?_; clear hE a; intro a hE
 refine vP hS hE (Gives.p hE rfl) rfl ?_; clear hE a; intro a hE
 refine vP hS hE (Gives.fld hE rfl fl47_0) rfl ?_; clear hE a; intro a hE
 refine vP hS hE (Gives.loadB hE 1 rfl rfl rfl ty3) rfl ?_; clear hE a; intro a hE
 obtain ⟨q60, hq61, hr⟩ := bndS hr
 have hc_ := GuideNetrides_ok hS h0_0 h0_1 hq61
 refine WL.fnq hE (hc_) (runs_plain rfl) bd72 rfl rfl rfl ?_
 clear hE hS hc_; rintro e w ⟨lb62, s64, rfl, hle65, h63, hS⟩; refine ⟨_, rfl, ?_⟩; clear a; intro a hE
 replace h0_0 := Sl.mono RApiTrain.mono hle65 h0_0
 replace h0_1 := Sl.mono (RL.mono RI.mono) hle65 h0_1
 refine vP hS hE (Gives.p hE rfl) rfl ?_; clear hE a; intro a hE
 refine WL.nil ?_
 refine W.ret ?_
 refine finG (fn := Tryd.f78) (rs := [.tmp 4]) (vs := [_]) hE rfl ⟨rfl, trivial⟩ ?_
 obtain rfl := Option.some.inj hr
 replace hS := hS.tail
 replace hS := hS.tail
 replace hS := hS.tail
 exact ⟨lb62, s64, rfl, (Sg.Le.trans hle58 hle65), h63, hS⟩
set_option maxHeartbeats 8000000 in
theorem SlicesAppendSeqLguideRide_v1_ok  {w : World} {s : Sg} {R : List HP} {x0 : List GuideRide} {a_v0 : Option Addr} {c_v0 n_v0 : Nat} {cs_v0 : List Value} {x1 : List GuideRide} {lb1 : List Value} (hS : St w s (vecC 47 3 a_v0 c_v0 n_v0 cs_v0 :: R)) (h_v0 : Ev 3 RGuideRide s cs_v0 x0) (hn_v0 : x0.length = n_v0) (h1 : Iter Tryd.prog 113 lb1 (fun x => [Value.agg (GuideRide.cells x).toArray]) s x1) {r : (List GuideRide)} (hr : SlicesAppendSeqLguideRide_v1 x0 x1 = some r) :
  Calls Tryd.prog 112 [.slice a_v0 n_v0 c_v0, .func (.func 113) #[] lb1.toArray].toArray w (fun e w => ∃ (a0 : Option Addr) (c0 n0 : Nat) (cs0 : List Value) (t : Sg), e = .returned (.slice a0 n0 c0) ∧ s.Le t ∧ Ev 3 RGuideRide t cs0 r ∧ r.length = n0 ∧ St w t (vecC 47 3 a0 c0 n0 cs0 :: R)) := by
 refine enter Tryd.func112 rfl rfl rfl fun a hE => ?_
 rw [SlicesAppendSeqLguideRide_v1] at hr
 subst hn_v0
 refine W.seq (W.region ?_)
 refine WL.box hE hS (runs_plain rfl) rfl rfl rfl ?_; clear hE hS a w; intro b51 a w hE hS
 refine vP hS hE (Gives.p hE rfl) rfl ?_; clear hE a; intro a hE
 refine WL.nil ?_
 refine W.seq ?_
 refine W.seq (W.region ?_)
 refine vP hS hE (Gives.p hE rfl) rfl ?_; clear hE a; intro a hE
 refine WL.nil ?_
 refine W.block ?_
 obtain ⟨q53, hq52, hr⟩ := bindS hr
 refine W.cut (fun a w => ∃ (q65 : List GuideRide), ∃ (a66 : Option Addr), ∃ (c67 : Nat), ∃ (n69 : Nat), ∃ (cs70 : List Value), ∃ (D59 : Nat) (s63 : Sg), s.Le s63 ∧ q65 = q53 ∧ Ev 3 RGuideRide s63 cs70 q65 ∧ q65.length = n69 ∧ Rep a 13 [(2, .pointer (some ⟨b51, 0, none⟩)), (4294967295, .int .i64 (D59 : Nat))] ∧ St w s63 (pt D59 (.deferred (some [])) :: pt b51 (.cells #[.slice a66 n69 c67] 26 (0, 0)) :: vecC 47 3 a66 c67 n69 cs70 :: R)) ?_ ?_
 ·refine W.rangeFunc (l := x1) (ps := [7]) [] rfl hE rfl hS rfl h1 bd113 (fun _ => rfl) rfl (fun pre56 s63 Q_ => ∃ (rest55 : List GuideRide), ∃ (q65 : List GuideRide), ∃ (a66 : Option Addr), ∃ (c67 : Nat), ∃ (n69 : Nat), ∃ (cs70 : List Value), x1 = pre56 ++ rest55 ∧ SlicesAppendSeqLguideRide_v1.loop1 rest55 q65 = some q53 ∧ s.Le s63 ∧ Ev 3 RGuideRide s63 cs70 q65 ∧ q65.length = n69 ∧ Q_ = pt b51 (.cells #[.slice a66 n69 c67] 26 (0, 0)) :: vecC 47 3 a66 c67 n69 cs70 :: R) (fun _ _ _ => False) (fun _ _ _ h => (by obtain ⟨rest55, q65, a66, c67, n69, cs70, _, _, hle_, _⟩ := h; exact hle_)) ⟨x1, x0, a_v0, c_v0, x0.length, cs_v0, rfl, hq52, Sg.Le.refl _, h_v0, (rfl), rfl⟩ (fun x54 (b72 : Nat) => [(2, .pointer (some ⟨b51, 0, none⟩)), (5, .pointer (some ⟨b72, 0, none⟩))]) (fun x54 (b72 : Nat) => [pt b72 (.cells (GuideRide.cells x54).toArray 47 (0, 0))]) ?_ ?_ ?_ ?_
  ·intro x54 a w t62 R L60 hE hS
   refine W.region ?_
   refine WL.alloc hE hS (runs_plain rfl) zr47 rfl ?_; clear hE hS a w; intro b72 a w hE hS
   refine WL.storeI hE hS 0 rfl (GuideRide.cells x54) (runs_plain rfl) rfl rfl rfl ty47 rfl rfl rfl rfl ?_; clear hE hS a w; intro a w hE hS
   refine WL.nil ?_
   exact ⟨b72, hE.pick _ ⟨rfl, rfl, trivial⟩, hS⟩
  ·intro pre56 x54 b72 s63 Q_ T_ L60 a w hpre_ hI_ hE hS
   obtain ⟨rest55, q65, a66, c67, n69, cs70, hl57, hq52, hle64, h68, rfl, rfl⟩ := hI_
   obtain ⟨rest55, rfl⟩ := pre_next hl57 hpre_
   rw [SlicesAppendSeqLguideRide_v1.loop1] at hq52
   replace hS : St w s63 (pt b72 (.cells (GuideRide.cells x54).toArray 47 (0, 0)) :: pt b51 (.cells #[.slice a66 q65.length c67] 26 (0, 0)) :: vecC 47 3 a66 c67 q65.length cs70 :: (R ++ T_)) := hS
   generalize hT73 : R ++ T_ = R at hS
   refine W.gen fun K74 hK74 => ?_
   replace h1 := Iter.mono hle64 h1
   replace h_v0 := Ev.mono RGuideRide.mono hle64 h_v0
   refine W.block ?_
   refine W.region ?_
   refine vP hS hE (Gives.loadB hE 1 rfl rfl rfl ty26) rfl ?_; clear hE a; intro a hE
   refine vP hS hE (Gives.loadBA hE 0 rfl rfl ty47) rfl ?_; clear hE a; intro a hE
   refine WL.lit hE hS (e := 47) (es := 3) (vs := [(0, .agg (GuideRide.cells x54).toArray)]) (cs := [.int .i64 x54.Train, .int .i64 x54.On, .int .i64 x54.Off]) (runs_plain rfl) rfl (by kernel_rfl) rfl ?_; clear hE hS a w; intro b75 a w hE hS
   obtain ⟨x76, hx77, hq52⟩ := bindS hq52
   refine WL.appD hE hS 2 (m := 1) (runs_plain rfl) rfl rfl rfl ap26 rfl h68 rfl (xs := [x54]) (Ev.cons (c1 := [.int .i64 x54.Train, .int .i64 x54.On, .int .i64 x54.Off]) rfl rfl (Ev.nil)) rfl rfl hx77 rfl ?_; clear hE hS a w; intro a78 c79 cs80 a w h81 hE hS
   refine WL.storeI hE hS 1 rfl [.slice a78 x76.length c79] (runs_plain rfl) rfl rfl rfl ty26 rfl rfl rfl rfl ?_; clear hE hS a w; intro a w hE hS
   refine WL.nil ?_
   replace hS := hS.tail
   subst hK74
   subst hT73
   exact ⟨s63, _, ⟨rest55, x76, a78, c79, x76.length, cs80, hl57.trans (by simp), hq52, hle64, h81, (rfl), rfl⟩, hS⟩
  ·intro s63 Q_ D59 a w hI_ hE hS
   obtain ⟨rest55, q65, a66, c67, n69, cs70, hl57, hq52, hle64, h68, rfl, rfl⟩ := hI_
   obtain rfl := pre_end hl57
   rw [SlicesAppendSeqLguideRide_v1.loop1] at hq52
   exact ⟨q65, _, _, _, _, D59, s63, hle64, Option.some.inj hq52, h68, rfl, hE.pick _ ⟨rfl, rfl, trivial⟩, hS⟩
  ·exact fun _ _ _ _ _ _ _ h => h.elim
 ·clear hE hS a w; rintro a w ⟨q65, a66, c67, n69, cs70, D59, s63, hle64, rfl, h68, rfl, hE, hS⟩
  replace h1 := Iter.mono hle64 h1
  replace h_v0 := Ev.mono RGuideRide.mono hle64 h_v0
  refine W.seq (W.region ?_)
  refine vP hS hE (Gives.loadB hE 1 rfl rfl rfl ty26) rfl ?_; clear hE a; intro a hE
  refine vP hS hE (Gives.p hE rfl) rfl ?_; clear hE a; intro a hE
  refine WL.nil ?_
  refine W.ret ?_
  refine finGM (fn := Tryd.f112) (rs := [.tmp 4]) (vs := [.slice a66 q65.length c67]) hE hS 0 rfl rfl ?_
  clear hS; intro w hS
  refine ⟨⟨rfl, trivial⟩, ?_⟩
  obtain rfl := Option.some.inj hr
  replace hS := hS.tail
  exact ⟨a66, c67, q65.length, cs70, s63, rfl, hle64, h68, rfl, hS⟩
set_option maxHeartbeats 8000000 in
theorem GuideNetends_ok  {w : World} {s : Sg} {R : List HP} {x0 : GuideNet} {a0_0 : Option Addr} {c0_0 : Nat} {a0_1 : Option Addr} {c0_1 : Nat} {x1 : List GuideRide} {a1 : Option Addr} {c1 : Nat} (hS : St w s (R)) (h0_0 : Sl 4 RApiTrain s a0_0 c0_0 x0.Day.Trains) (h0_1 : Sl 1 (RL 1 (RI .i64)) s a0_1 c0_1 x0.Day.Turns) (h1 : Sl 3 RGuideRide s a1 c1 x1) {r : (List (List (GuidePlace × Bool)))} (hr : GuideNetends x0 x1 = some r) :
  Calls Tryd.prog 70 [.agg [.slice a0_0 x0.Day.Trains.length c0_0, .slice a0_1 x0.Day.Turns.length c0_1, .int .i64 x0.least].toArray, .slice a1 x1.length c1].toArray w (fun e w => ∃ (bs0 : List Nat) (t : Sg), e = .returned (.agg (mcells 4 bs0).toArray) ∧ s.Le t ∧ bs0.length = 4 ∧ St w t (mapsV keyGuidePlace.f Value.bool bs0 r :: R)) := by
 refine enter Tryd.func70 rfl rfl rfl fun a hE => ?_
 rw [GuideNetends] at hr
 refine W.seq (W.region ?_)
 refine WL.box hE hS (runs_plain rfl) rfl rfl rfl ?_; clear hE hS a w; intro b51 a w hE hS
 refine WL.alloc hE hS (runs_plain rfl) zr119 rfl ?_; clear hE hS a w; intro b52 a w hE hS
 replace hS : St w s (pt b52 (.cells (mcells 4 []).toArray 119 (0, 0)) :: pt b51 (.cells #[.slice a0_0 x0.Day.Trains.length c0_0, .slice a0_1 x0.Day.Turns.length c0_1, .int .i64 x0.least] 94 (0, 0)) :: R) := hS
 refine WL.nil ?_
 refine W.seq (W.region ?_)
 refine WL.alloc hE hS (runs_plain rfl) zr119 rfl ?_; clear hE hS a w; intro b53 a w hE hS
 replace hS := hS.mapsNil (fk := keyGuidePlace.f) (fv := Value.bool)
 replace hS : St w s (mapsV keyGuidePlace.f Value.bool [] [] :: pt b53 (.cells (mcells 4 []).toArray 119 (0, 0)) :: pt b52 (.cells (mcells 4 []).toArray 119 (0, 0)) :: pt b51 (.cells #[.slice a0_0 x0.Day.Trains.length c0_0, .slice a0_1 x0.Day.Turns.length c0_1, .int .i64 x0.least] 94 (0, 0)) :: R) := hS
 refine WL.nil ?_
 refine W.seq (W.region ?_)
 refine vP hS hE (Gives.p hE rfl) rfl ?_; clear hE a; intro a hE
 refine vP hS hE (Gives.p hE rfl) rfl ?_; clear hE a; intro a hE
 refine WL.nil ?_
 refine W.seq ?_
 refine W.seq (W.region ?_)
 refine vP hS hE (Gives.p hE rfl) rfl ?_; clear hE a; intro a hE
 refine WL.nil ?_
 obtain ⟨q55, hq54, hr⟩ := bindS hr
 refine W.cut (fun a w => ∃ (q65 : List GuideRide), ∃ (q69 : List (List (GuidePlace × Bool))), ∃ (a66 : Option Addr), ∃ (c67 : Nat), ∃ (bs70 : List Nat), ∃ (s63 : Sg), s.Le s63 ∧ (q65, q69) = q55 ∧ Sl 3 RGuideRide s63 a66 c67 q65 ∧ Rep a 48 [(4, .pointer (some ⟨b52, 0, none⟩)), (5, .pointer (some ⟨b53, 0, none⟩))] ∧ St w s63 (mapsV keyGuidePlace.f Value.bool bs70 q69 :: pt b53 (.cells (mcells 4 bs70).toArray 119 (0, 0)) :: pt b52 (.cells (mcells 4 []).toArray 119 (0, 0)) :: pt b51 (.cells #[.slice a0_0 x0.Day.Trains.length c0_0, .slice a0_1 x0.Day.Turns.length c0_1, .int .i64 x0.least] 94 (0, 0)) :: R)) ?_ ?_
 ·refine W.block ?_
  refine W.loop (fun m a w => ∃ (rest58 : Nat) (k56 : Nat), ∃ (q65 : List GuideRide), ∃ (q69 : List (List (GuidePlace × Bool))), ∃ (a66 : Option Addr), ∃ (c67 : Nat), ∃ (bs70 : List Nat), ∃ (s63 : Sg), rest58 = m ∧ k56 + rest58 = 4 ∧ s.Le s63 ∧ GuideNetends.loop1 x0 rest58 k56 q65 q69 = some q55 ∧ Sl 3 RGuideRide s63 a66 c67 q65 ∧ Rep a 48 [(2, .pointer (some ⟨b51, 0, none⟩)), (4, .pointer (some ⟨b52, 0, none⟩)), (5, .pointer (some ⟨b53, 0, none⟩)), (6, .slice a66 q65.length c67), (13, .int .i64 ((k56 : Nat) : Int))] ∧ St w s63 (mapsV keyGuidePlace.f Value.bool bs70 q69 :: pt b53 (.cells (mcells 4 bs70).toArray 119 (0, 0)) :: pt b52 (.cells (mcells 4 []).toArray 119 (0, 0)) :: pt b51 (.cells #[.slice a0_0 x0.Day.Trains.length c0_0, .slice a0_1 x0.Day.Turns.length c0_1, .int .i64 x0.least] 94 (0, 0)) :: R)) (m := 4) ⟨4, 0, x1, [], a1, c1, [], s, rfl, by omega, (Sg.Le.refl _), hq54, h1, hE.pick _ ⟨rfl, rfl, rfl, rfl, rfl, trivial⟩, hS⟩ ?_
  clear hE hS a w hq54; rintro m62 a w ⟨rest58, k56, q65, q69, a66, c67, bs70, s63, rfl, hd59, hle64, hq54, h68, hE, hS⟩
  refine W.gen fun K71 hK71 => ?_
  replace h0_0 := Sl.mono RApiTrain.mono hle64 h0_0
  replace h0_1 := Sl.mono (RL.mono RI.mono) hle64 h0_1
  replace h1 := Sl.mono RGuideRide.mono hle64 h1
  rcases rest58 with _ | rest58
  ·skip
   refine W.seq (W.region ?_)
   refine vP hS hE (Gives.p hE rfl) rfl ?_; clear hE a; intro a hE
   refine WL.nil ?_
   refine W.seq ?_
   refine W.condF hE rfl (decide_eq_false (by omega)) ?_
   subst hK71
   refine W.exit rfl ?_
   exact ⟨q65, q69, a66, c67, bs70, s63, hle64, Option.some.inj hq54, h68, hE.pick _ ⟨rfl, rfl, trivial⟩, hS⟩
  ·have hlt60 : k56 < 4 := by omega
   rw [GuideNetends.loop1] at hq54
   refine W.seq (W.region ?_)
   refine vP hS hE (Gives.p hE rfl) rfl ?_; clear hE a; intro a hE
   refine WL.nil ?_
   refine W.seq ?_
   refine W.condT hE rfl (decide_eq_true (by omega)) ?_
   refine W.skip ?_
   refine W.seq ?_
   refine W.block ?_
   refine W.seq (W.region ?_)
   refine vP hS hE (Gives.p hE rfl) rfl ?_; clear hE a; intro a hE
   refine vP hS hE (Gives.p hE rfl) rfl ?_; clear hE a; intro a hE
   refine WL.nil ?_
   refine W.seq (W.region ?_)
   refine vP hS hE (Gives.p hE rfl) rfl ?_; clear hE a; intro a hE
   refine WL.mkMap (fk := keyGuidePlace.f) (fv := Value.bool) hE hS (runs_plain rfl) rfl ?_; clear hE hS a w; intro b72 a w hE hS
   obtain ⟨_, hx73, hq54⟩ := bindS hq54
   obtain ⟨h74, h75⟩ := mst_some hx73
   have hl76 := hS.mapsLen 1 rfl
   refine vP hS hE (Gives.idxA hE (bs70).length rfl rfl ar119 (by rw [hl76]; exact h74) (by rw [hl76]; exact h75) ⟨_, _, rfl⟩) rfl ?_; clear hE a; intro a hE
   refine WL.storeM hE hS 2 rfl (runs_plain rfl) rfl rfl ty118 (by rw [hl76]; exact h75) rfl ?_; clear hE hS a w; intro a w hE hS
   replace hS := hS.mapsSnoc 1 0 rfl rfl
   refine WL.nil ?_
   refine W.seq (W.region ?_)
   replace hS := hS.vecNil 47 3
   refine vP hS hE (Gives.p hE rfl) rfl ?_; clear hE a; intro a hE
   refine WL.nil ?_
   refine W.seq ?_
   refine W.seq (W.region ?_)
   refine vP hS hE (Gives.p hE rfl) rfl ?_; clear hE a; intro a hE
   refine vP hS hE (Gives.len hE rfl sl26) rfl ?_; clear hE a; intro a hE
   refine vP hS hE (Gives.p hE rfl) rfl ?_; clear hE a; intro a hE
   refine WL.nil ?_
   obtain ⟨q79, hq78, hq54⟩ := bindS hq54
   refine W.cut (fun a w => ∃ (q89 : List GuideRide), ∃ (q96 : List (List (GuidePlace × Bool))), ∃ (a90 : Option Addr), ∃ (c91 : Nat), ∃ (n93 : Nat), ∃ (cs94 : List Value), ∃ (bs97 : List Nat), ∃ (s87 : Sg), s63.Le s87 ∧ (q89, q96) = q79 ∧ Ev 3 RGuideRide s87 cs94 q89 ∧ q89.length = n93 ∧ Rep a 48 [(2, .pointer (some ⟨b51, 0, none⟩)), (4, .pointer (some ⟨b52, 0, none⟩)), (5, .pointer (some ⟨b53, 0, none⟩)), (8, .slice a90 n93 c91), (13, .int .i64 ((k56 : Nat) : Int))] ∧ St w s87 (vecC 47 3 a90 c91 n93 cs94 :: mapsV keyGuidePlace.f Value.bool bs97 q96 :: pt b53 (.cells (mcells 4 bs97).toArray 119 (0, 0)) :: pt b52 (.cells (mcells 4 []).toArray 119 (0, 0)) :: pt b51 (.cells #[.slice a0_0 x0.Day.Trains.length c0_0, .slice a0_1 x0.Day.Turns.length c0_1, .int .i64 x0.least] 94 (0, 0)) :: R)) ?_ ?_
   ·refine W.block ?_
    refine W.loop (fun m a w => ∃ (rest82 : List GuideRide) (k80 : Nat), ∃ (q89 : List GuideRide), ∃ (q96 : List (List (GuidePlace × Bool))), ∃ (a90 : Option Addr), ∃ (c91 : Nat), ∃ (n93 : Nat), ∃ (cs94 : List Value), ∃ (bs97 : List Nat), ∃ (s87 : Sg), rest82.length = m ∧ q65.drop k80 = rest82 ∧ s63.Le s87 ∧ GuideNetends.loop2 x0 k56 rest82 q89 q96 = some q79 ∧ Ev 3 RGuideRide s87 cs94 q89 ∧ q89.length = n93 ∧ Rep a 48 [(2, .pointer (some ⟨b51, 0, none⟩)), (4, .pointer (some ⟨b52, 0, none⟩)), (5, .pointer (some ⟨b53, 0, none⟩)), (7, .int .i64 ((k56 : Nat) : Int)), (8, .slice a90 n93 c91), (13, .int .i64 ((k56 : Nat) : Int)), (19, .slice a66 q65.length c67), (20, .int .i64 ((q65).length : Int)), (21, .int .i64 ((k80 : Nat) : Int))] ∧ St w s87 (vecC 47 3 a90 c91 n93 cs94 :: mapsV keyGuidePlace.f Value.bool bs97 q96 :: pt b53 (.cells (mcells 4 bs97).toArray 119 (0, 0)) :: pt b52 (.cells (mcells 4 []).toArray 119 (0, 0)) :: pt b51 (.cells #[.slice a0_0 x0.Day.Trains.length c0_0, .slice a0_1 x0.Day.Turns.length c0_1, .int .i64 x0.least] 94 (0, 0)) :: R)) (m := q65.length) ⟨q65, 0, [], (q69 ++ [[]]), none, 0, 0, [], (bs70 ++ [b72]), s63, rfl, rfl, (Sg.Le.refl _), hq78, (Ev.nil), (rfl), hE.pick _ ⟨rfl, rfl, rfl, rfl, rfl, rfl, rfl, rfl, rfl, trivial⟩, hS⟩ ?_
    clear hE hS a w hq78; rintro m86 a w ⟨rest82, k80, q89, q96, a90, c91, n93, cs94, bs97, s87, rfl, hd83, hle88, hq78, h92, rfl, hE, hS⟩
    refine W.gen fun K98 hK98 => ?_
    replace h68 := Sl.mono RGuideRide.mono hle88 h68
    replace h0_0 := Sl.mono RApiTrain.mono hle88 h0_0
    replace h0_1 := Sl.mono (RL.mono RI.mono) hle88 h0_1
    rcases rest82 with _ | ⟨x81, rest82⟩
    ·have hlt84 := drop_nil hd83
     refine W.seq (W.region ?_)
     refine vP hS hE (Gives.p hE rfl) rfl ?_; clear hE a; intro a hE
     refine WL.nil ?_
     refine W.seq ?_
     refine W.condF hE rfl (decide_eq_false (by omega)) ?_
     subst hK98
     refine W.exit rfl ?_
     exact ⟨q89, q96, a90, c91, q89.length, cs94, bs97, s87, hle88, Option.some.inj hq78, h92, rfl, hE.pick _ ⟨rfl, rfl, rfl, rfl, rfl, trivial⟩, hS⟩
    ·obtain ⟨hlt84, hx85, hd83⟩ := drop_cons hd83
     rw [GuideNetends.loop2] at hq78
     refine W.seq (W.region ?_)
     refine vP hS hE (Gives.p hE rfl) rfl ?_; clear hE a; intro a hE
     refine WL.nil ?_
     refine W.seq ?_
     refine W.condT hE rfl (decide_eq_true (by omega)) ?_
     refine W.skip ?_
     refine W.seq ?_
     refine W.block ?_
     refine W.seq (W.region ?_)
     obtain ⟨cs99, hl100, hR101, hat102⟩ := h68.at hx85
     subst hR101
     refine vP hS hE (Gives.idx hE k80 rfl rfl sl26 rfl hlt84 (h68.aok hlt84)) rfl ?_; clear hE a; intro a hE
     refine vP hS hE (Gives.loadA hE rfl (fun w h => hat102 w _ h) ty47) rfl ?_; clear hE a; intro a hE
     refine WL.alloc hE hS (runs_plain rfl) zr47 rfl ?_; clear hE hS a w; intro b103 a w hE hS
     refine WL.storeI hE hS 0 rfl (GuideRide.cells x81) (runs_plain rfl) rfl rfl rfl ty47 rfl rfl rfl rfl ?_; clear hE hS a w; intro a w hE hS
     refine WL.nil ?_
     refine W.seq (W.region ?_)
     refine vP hS hE (Gives.fld hE rfl fl47_0) rfl ?_; clear hE a; intro a hE
     refine vP hS hE (Gives.loadB hE 0 rfl rfl rfl ty3) rfl ?_; clear hE a; intro a hE
     refine vP hS hE (Gives.fld hE rfl fl47_2) rfl ?_; clear hE a; intro a hE
     refine vP hS hE (Gives.loadB hE 0 rfl rfl rfl ty3) rfl ?_; clear hE a; intro a hE
     refine vP hS hE (Gives.build hE (vs := [(0, .int .i64 x81.Train), (1, .int .i64 x81.Off)]) [.int .i64 x81.Train, .int .i64 x81.Off] rfl (by kernel_rfl)) rfl ?_; clear hE a; intro a hE
     refine WL.alloc hE hS (runs_plain rfl) zr126 rfl ?_; clear hE hS a w; intro b104 a w hE hS
     refine WL.storeI hE hS 0 rfl [.int .i64 x81.Train, .int .i64 x81.Off] (runs_plain rfl) rfl rfl rfl ty126 rfl rfl rfl rfl ?_; clear hE hS a w; intro a w hE hS
     refine WL.nil ?_
     refine W.seq ?_
     refine W.seq ?_
     refine W.regionQ (C := fun w => St w s87 (pt b104 (.cells #[.int .i64 x81.Train, .int .i64 x81.Off] 126 (0, 0)) :: pt b103 (.cells (GuideRide.cells x81).toArray 47 (0, 0)) :: vecC 47 3 a90 c91 q89.length cs94 :: mapsV keyGuidePlace.f Value.bool bs97 q96 :: pt b53 (.cells (mcells 4 bs97).toArray 119 (0, 0)) :: pt b52 (.cells (mcells 4 []).toArray 119 (0, 0)) :: pt b51 (.cells #[.slice a0_0 x0.Day.Trains.length c0_0, .slice a0_1 x0.Day.Turns.length c0_1, .int .i64 x0.least] 94 (0, 0)) :: R)) mixed (by kernel_rfl) hS.drew ?_
     refine qP hE (Gives.p hE rfl) rfl ?_; clear hE a; intro a hE
     obtain ⟨x105, hx106, hq78⟩ := bindS hq78
     obtain ⟨hi107, hlt108, hy109⟩ := mgx_some hx106
     obtain ⟨b110, hb111⟩ := hS.mapsAt 3 rfl hy109
     refine qP hE (Gives.idxA hE ((((k56 : Nat) : Int)).toNat) rfl rfl ar119 hi107 hlt108 ⟨_, _, rfl⟩) rfl ?_; clear hE a; intro a hE
     refine qP hE (Gives.load1 hE rfl (fun w h => St.mapsSees h 4 rfl hb111) ty118) rfl ?_; clear hE a; intro a hE
     refine qP hE (Gives.loadBA hE 0 rfl rfl ty126) rfl ?_; clear hE a; intro a hE
     refine qP hE (Gives.mapsGetS keyGuidePlace hE 3 (k := (GuidePlace.mk x81.Train x81.Off)) (z := false) hb111 hy109 rfl rfl rfl mp118 zm4) rfl ?_; clear hE a; intro a hE
     refine QL.nil ?_; clear hS w; intro w hS
     refine W.cond hE rfl (fun hc112 => ?_) (fun hc112 => ?_)
     ·replace hq78 := iteT hc112 hq78
      refine W.exit rfl ?_
      refine W.region ?_
      refine vP hS hE (Gives.inc hE rfl (by have := h68.small; omega)) rfl ?_; clear hE a; intro a hE
      refine vP hS hE (Gives.p hE rfl) rfl ?_; clear hE a; intro a hE
      refine WL.nil ?_
      replace hS := hS.tail
      replace hS := hS.tail
      subst hK98
      exact ⟨rest82.length, Nat.lt_succ_self _, rest82, k80 + 1, q89, q96, a90, c91, q89.length, cs94, bs97, s87, rfl, hd83, hle88, hq78, h92, rfl, hE.pick _ ⟨rfl, rfl, rfl, rfl, rfl, rfl, rfl, rfl, rfl, trivial⟩, hS⟩
     ·replace hq78 := iteF hc112 hq78
      refine W.skip ?_
      refine W.seq ?_
      refine W.gen fun K113 hK113 => ?_
      refine W.regionE (sel (fun w => St w s87 (pt b104 (.cells #[.int .i64 x81.Train, .int .i64 x81.Off] 126 (0, 0)) :: pt b103 (.cells (GuideRide.cells x81).toArray 47 (0, 0)) :: vecC 47 3 a90 c91 q89.length cs94 :: mapsV keyGuidePlace.f Value.bool bs97 q96 :: pt b53 (.cells (mcells 4 bs97).toArray 119 (0, 0)) :: pt b52 (.cells (mcells 4 []).toArray 119 (0, 0)) :: pt b51 (.cells #[.slice a0_0 x0.Day.Trains.length c0_0, .slice a0_1 x0.Day.Turns.length c0_1, .int .i64 x0.least] 94 (0, 0)) :: R)) (fun w => St w s87 (pt b104 (.cells #[.int .i64 x81.Train, .int .i64 x81.Off] 126 (0, 0)) :: pt b103 (.cells (GuideRide.cells x81).toArray 47 (0, 0)) :: vecC 47 3 a90 c91 q89.length cs94 :: pt b52 (.cells (mcells 4 []).toArray 119 (0, 0)) :: pt b51 (.cells #[.slice a0_0 x0.Day.Trains.length c0_0, .slice a0_1 x0.Day.Turns.length c0_1, .int .i64 x0.least] 94 (0, 0)) :: R))) (fun b i => cond b ([0, 1, 2, 3].contains i) ([0, 1, 2, 3, 4].contains i)) mixed ?_
      replace hS := hS.drew
      refine Rg.takeP (i := 0) hE rfl (by kernel_rfl) (runs_plain rfl) (Gives.p hE rfl) rfl (tw_sel (fun _ => hS) (fun _ => ((hS.dropAt 3).dropAt 3))) ?_; clear hE a; intro a hE
      obtain ⟨x114, hx115, hq78⟩ := bindS hq78
      obtain ⟨hi116, hlt117, hy118⟩ := mgx_some hx115
      obtain ⟨b119, hb120⟩ := hS.mapsAt 3 rfl hy118
      refine Rg.takeP (i := 1) hE rfl (by kernel_rfl) (runs_plain rfl) (Gives.idxA hE ((((k56 : Nat) : Int)).toNat) rfl rfl ar119 hi116 hlt117 ⟨_, _, rfl⟩) rfl (tw_sel (fun _ => hS) (fun _ => ((hS.dropAt 3).dropAt 3))) ?_; clear hE a; intro a hE
      have hT := tw_sel (A := fun w => St w s87 _) (B := fun w => St w s87 _) (w := _) (x := true) (y := true) (fun _ => hS) (fun _ => ((hS.dropAt 3).dropAt 3))
      have hF := hS; replace hS := hS
      refine Rg.take (i := 2) true rfl hE rfl (by kernel_rfl) (runs_plain rfl) (Gives.load1 hE rfl (fun w h => St.mapsSees h 4 rfl hb120) ty118) rfl hT ?_; clear hE a; intro a hE
      replace hS := hF; clear hF hT
      have hT := tw_sel (A := fun w => St w s87 _) (B := fun w => St w s87 _) (w := _) (x := true) (y := true) (fun _ => hS) (fun _ => ((hS.dropAt 3).dropAt 3))
      have hF := hS; replace hS := hS
      refine Rg.take (i := 3) true rfl hE rfl (by kernel_rfl) (runs_plain rfl) (Gives.loadBA hE 0 rfl rfl ty126) rfl hT ?_; clear hE a; intro a hE
      replace hS := hF; clear hF hT
      refine Rg.one (i := 4) false true rfl (by kernel_rfl) (by kernel_rfl) (by kernel_rfl) ?_
      refine WL.mapsSetS keyGuidePlace hE hS 3 (k := (GuidePlace.mk x81.Train x81.Off)) (v := true) (.inl rfl) hb120 hy118 (runs_plain rfl) rfl rfl rfl rfl mp118 rfl ?_; clear hE hS a w; intro a w hE hS
      refine WL.nil ?_
      refine ⟨⟨fun h => absurd h (by decide), fun _ => ((hS.dropAt 3).dropAt 3)⟩, ?_⟩
      refine Rg.done (by kernel_rfl) ?_
      subst hK113
      refine W.region ?_
      refine vP hS hE (Gives.p hE rfl) rfl ?_; clear hE a; intro a hE
      refine vP hS hE (Gives.loadBA hE 6 rfl rfl ty94) rfl ?_; clear hE a; intro a hE
      refine vP hS hE (Gives.loadBA hE 1 rfl rfl ty47) rfl ?_; clear hE a; intro a hE
      obtain ⟨q121, hq122, hq78⟩ := bindS hq78
      have hc_ := GuideNetbehind_ok hS h0_0 h0_1 hq122
      refine WL.fnq hE (hc_) (runs_plain rfl) bd78 rfl rfl rfl ?_
      clear hE hS hc_; rintro e w ⟨lb123, s125, rfl, hle126, h124, hS⟩; refine ⟨_, rfl, ?_⟩; clear a; intro a hE
      replace h68 := Sl.mono RGuideRide.mono hle126 h68
      replace h0_0 := Sl.mono RApiTrain.mono hle126 h0_0
      replace h0_1 := Sl.mono (RL.mono RI.mono) hle126 h0_1
      replace h92 := Ev.mono RGuideRide.mono hle126 h92
      obtain ⟨q127, hq128, hq78⟩ := bindS hq78
      replace hS := hS.front 2 rfl
      have hc_ := SlicesAppendSeqLguideRide_v1_ok hS h92 rfl h124 hq128
      refine WL.fnq hE (hc_) (runs_plain rfl) bd112 rfl rfl rfl ?_
      clear hE hS hc_; rintro e w ⟨a129, c130, n131, cs132, s135, rfl, hle136, h133, rfl, hS⟩; refine ⟨_, rfl, ?_⟩; clear a; intro a hE
      replace h68 := Sl.mono RGuideRide.mono hle136 h68
      replace h0_0 := Sl.mono RApiTrain.mono hle136 h0_0
      replace h0_1 := Sl.mono (RL.mono RI.mono) hle136 h0_1
      replace h124 := Iter.mono hle136 h124
      replace h92 := Ev.mono RGuideRide.mono hle136 h92
      refine vP hS hE (Gives.p hE rfl) rfl ?_; clear hE a; intro a hE
      refine WL.nil ?_
      refine W.region ?_
      refine vP hS hE (Gives.inc hE rfl (by have := h68.small; omega)) rfl ?_; clear hE a; intro a hE
      refine vP hS hE (Gives.p hE rfl) rfl ?_; clear hE a; intro a hE
      refine WL.nil ?_
      replace hS := hS.dropAt 1
      replace hS := hS.dropAt 1
      subst hK98
      exact ⟨rest82.length, Nat.lt_succ_self _, rest82, k80 + 1, q127, (q96.set ((((k56 : Nat) : Int)).toNat) (mput x114 (GuidePlace.mk x81.Train x81.Off) true)), a129, c130, q127.length, cs132, bs97, s135, rfl, hd83, (Sg.Le.trans (Sg.Le.trans hle88 hle126) hle136), hq78, h133, rfl, hE.pick _ ⟨rfl, rfl, rfl, rfl, rfl, rfl, rfl, rfl, rfl, trivial⟩, hS⟩
   ·clear hE hS a w; rintro a w ⟨q89, q96, a90, c91, n93, cs94, bs97, s87, hle88, rfl, h92, rfl, hE, hS⟩
    dsimp only at hq54
    replace h68 := Sl.mono RGuideRide.mono hle88 h68
    replace h0_0 := Sl.mono RApiTrain.mono hle88 h0_0
    replace h0_1 := Sl.mono (RL.mono RI.mono) hle88 h0_1
    refine W.region ?_
    refine vP hS hE (Gives.p hE rfl) rfl ?_; clear hE a; intro a hE
    refine vP hS hE (Gives.p hE rfl) rfl ?_; clear hE a; intro a hE
    refine WL.nil ?_
    refine W.region ?_
    refine vP hS hE (Gives.inc hE rfl (by omega)) rfl ?_; clear hE a; intro a hE
    refine vP hS hE (Gives.p hE rfl) rfl ?_; clear hE a; intro a hE
    refine WL.nil ?_
    have hF := hS.fixD RGuideRide.mono 0 rfl h92 rfl; clear hS; obtain ⟨s137, hle138, hS, h139⟩ := hF
    replace h0_0 := Sl.mono RApiTrain.mono hle138 h0_0
    replace h0_1 := Sl.mono (RL.mono RI.mono) hle138 h0_1
    subst hK71
    exact ⟨rest58, Nat.lt_succ_self _, rest58, k56 + 1, q89, q96, a90, c91, bs97, s137, rfl, (by omega), (Sg.Le.trans (Sg.Le.trans hle64 hle88) hle138), hq54, h139, hE.pick _ ⟨rfl, rfl, rfl, rfl, rfl, trivial⟩, hS⟩
 ·clear hE hS a w; rintro a w ⟨q65, q69, a66, c67, bs70, s63, hle64, rfl, h68, hE, hS⟩
  dsimp only at hr
  replace h0_0 := Sl.mono RApiTrain.mono hle64 h0_0
  replace h0_1 := Sl.mono (RL.mono RI.mono) hle64 h0_1
  replace h1 := Sl.mono RGuideRide.mono hle64 h1
  refine W.seq (W.region ?_)
  obtain ⟨_, hx140, hr⟩ := bindS hr
  have hl141 : (bs70).length = 4 := (hS.mapsLen 0 rfl).trans (mall_some hx140)
  refine vP hS hE (Gives.loadBA hE 1 rfl rfl (by rw [mcells_len (by omega)]; exact ty119)) rfl ?_; clear hE a; intro a hE
  refine WL.storeMA hE hS 2 rfl (runs_plain rfl) rfl rfl ty119 (by decide) (by omega) rfl ?_; clear hE hS a w; intro a w hE hS
  refine WL.nil ?_
  refine W.ret ?_
  refine finG (fn := Tryd.f70) (rs := [.cell 4 119]) (vs := [_]) hE rfl ⟨⟨_, rfl, .inl ⟨_, rfl, hS.seesAt 2 rfl, (by rw [mcells_len (by omega)]; exact ty119)⟩⟩, trivial⟩ ?_
  obtain rfl := Option.some.inj hr
  replace hS := hS.dropAt 1
  replace hS := hS.dropAt 1
  replace hS := hS.dropAt 1
  exact ⟨bs70, s63, rfl, hle64, hl141, hS⟩
set_option maxHeartbeats 8000000 in
theorem MathBitsLen64_ok  {w : World} {s : Sg} {R : List HP} {x0 : Int} (hS : St w s (R))  {r : Int} (hr : MathBitsLen64 x0 = some r) :
  Calls Tryd.prog 136 [.int .u64 x0].toArray w (fun e w => e = .returned (.int .i64 r) ∧ St w s (R)) := by
 refine enter Tryd.func136 rfl rfl rfl fun a hE => ?_
 rw [MathBitsLen64] at hr
 refine W.seq (W.region ?_)
 refine vP hS hE (Gives.p hE rfl) rfl ?_; clear hE a; intro a hE
 refine WL.nil ?_
 refine W.seq ?_
 refine W.seq (W.region ?_)
 refine vP hS hE (Gives.p hE rfl) rfl ?_; clear hE a; intro a hE
 refine vP hS hE (Gives.p hE rfl) rfl ?_; clear hE a; intro a hE
 refine WL.nil ?_
 obtain ⟨q52, hq51, hr⟩ := bndS hr
 refine W.cut (fun a w => ∃ (q55 : Int), ∃ (q56 : Int), (q55, q56) = q52 ∧ Rep a 25 [(0, .int .u64 q55), (2, .int .i64 q56)] ∧ St w s (R)) ?_ ?_
 ·refine W.gen fun K57 hK57 => ?_
  refine W.cond hE rfl (fun hc58 => ?_) (fun hc58 => ?_)
  ·replace hq51 := iteT hc58 hq51
   refine W.seq (W.region ?_)
   refine vP hS hE (Gives.p hE rfl) rfl ?_; clear hE a; intro a hE
   refine vP hS hE (Gives.shr hE rfl rfl (by decide)) rfl ?_; clear hE a; intro a hE
   refine vP hS hE (Gives.p hE rfl) rfl ?_; clear hE a; intro a hE
   refine WL.nil ?_
   refine W.region ?_
   refine vP hS hE (Gives.p hE rfl) rfl ?_; clear hE a; intro a hE
   refine WL.nil ?_
   subst hK57
   exact ⟨Int.fdiv x0 (2 ^ (min (Int.toNat 32) (IntKind.bits .u64))), 32, hq51, hE.pick _ ⟨rfl, rfl, trivial⟩, hS⟩
  ·replace hq51 := iteF hc58 hq51
   refine W.skip ?_
   subst hK57
   exact ⟨x0, 0, hq51, hE.pick _ ⟨rfl, rfl, trivial⟩, hS⟩
 ·clear hE hS a w; rintro a w ⟨q55, q56, rfl, hE, hS⟩
  dsimp only at hr
  refine W.seq ?_
  refine W.seq (W.region ?_)
  refine vP hS hE (Gives.p hE rfl) rfl ?_; clear hE a; intro a hE
  refine vP hS hE (Gives.p hE rfl) rfl ?_; clear hE a; intro a hE
  refine WL.nil ?_
  obtain ⟨q60, hq59, hr⟩ := bndS hr
  refine W.cut (fun a w => ∃ (q63 : Int), ∃ (q64 : Int), (q63, q64) = q60 ∧ Rep a 25 [(0, .int .u64 q63), (2, .int .i64 q64)] ∧ St w s (R)) ?_ ?_
  ·refine W.gen fun K65 hK65 => ?_
   refine W.cond hE rfl (fun hc66 => ?_) (fun hc66 => ?_)
   ·replace hq59 := iteT hc66 hq59
    refine W.seq (W.region ?_)
    refine vP hS hE (Gives.p hE rfl) rfl ?_; clear hE a; intro a hE
    refine vP hS hE (Gives.shr hE rfl rfl (by decide)) rfl ?_; clear hE a; intro a hE
    refine vP hS hE (Gives.p hE rfl) rfl ?_; clear hE a; intro a hE
    refine WL.nil ?_
    refine W.region ?_
    refine vP hS hE (Gives.p hE rfl) rfl ?_; clear hE a; intro a hE
    refine vP hS hE (Gives.p hE rfl) rfl ?_; clear hE a; intro a hE
    refine vP hS hE (Gives.p hE rfl) rfl ?_; clear hE a; intro a hE
    refine WL.nil ?_
    subst hK65
    exact ⟨Int.fdiv q55 (2 ^ (min (Int.toNat 16) (IntKind.bits .u64))), w64 (q56 + 16), hq59, hE.pick _ ⟨rfl, rfl, trivial⟩, hS⟩
   ·replace hq59 := iteF hc66 hq59
    refine W.skip ?_
    subst hK65
    exact ⟨q55, q56, hq59, hE.pick _ ⟨rfl, rfl, trivial⟩, hS⟩
  ·clear hE hS a w; rintro a w ⟨q63, q64, rfl, hE, hS⟩
   dsimp only at hr
   refine W.seq ?_
   refine W.seq (W.region ?_)
   refine vP hS hE (Gives.p hE rfl) rfl ?_; clear hE a; intro a hE
   refine vP hS hE (Gives.p hE rfl) rfl ?_; clear hE a; intro a hE
   refine WL.nil ?_
   obtain ⟨q68, hq67, hr⟩ := bndS hr
   refine W.cut (fun a w => ∃ (q71 : Int), ∃ (q72 : Int), (q71, q72) = q68 ∧ Rep a 25 [(0, .int .u64 q71), (2, .int .i64 q72)] ∧ St w s (R)) ?_ ?_
   ·refine W.gen fun K73 hK73 => ?_
    refine W.cond hE rfl (fun hc74 => ?_) (fun hc74 => ?_)
    ·replace hq67 := iteT hc74 hq67
     refine W.seq (W.region ?_)
     refine vP hS hE (Gives.p hE rfl) rfl ?_; clear hE a; intro a hE
     refine vP hS hE (Gives.shr hE rfl rfl (by decide)) rfl ?_; clear hE a; intro a hE
     refine vP hS hE (Gives.p hE rfl) rfl ?_; clear hE a; intro a hE
     refine WL.nil ?_
     refine W.region ?_
     refine vP hS hE (Gives.p hE rfl) rfl ?_; clear hE a; intro a hE
     refine vP hS hE (Gives.p hE rfl) rfl ?_; clear hE a; intro a hE
     refine vP hS hE (Gives.p hE rfl) rfl ?_; clear hE a; intro a hE
     refine WL.nil ?_
     subst hK73
     exact ⟨Int.fdiv q63 (2 ^ (min (Int.toNat 8) (IntKind.bits .u64))), w64 (q64 + 8), hq67, hE.pick _ ⟨rfl, rfl, trivial⟩, hS⟩
    ·replace hq67 := iteF hc74 hq67
     refine W.skip ?_
     subst hK73
     exact ⟨q63, q64, hq67, hE.pick _ ⟨rfl, rfl, trivial⟩, hS⟩
   ·clear hE hS a w; rintro a w ⟨q71, q72, rfl, hE, hS⟩
    dsimp only at hr
    refine W.seq (W.region ?_)
    refine vP hS hE (Gives.p hE rfl) rfl ?_; clear hE a; intro a hE
    refine vP hS hE (Gives.p hE rfl) rfl ?_; clear hE a; intro a hE
    refine vP hS hE (Gives.conv hE rfl hu197 ui5) rfl ?_; clear hE a; intro a hE
    obtain ⟨x75, hx76, hr⟩ := bindS hr
    refine vP hS hE (Gives.idxS hE st9 rfl rfl hx76) rfl ?_; clear hE a; intro a hE
    refine vP hS hE (Gives.conv hE rfl hu5 ui3) rfl ?_; clear hE a; intro a hE
    refine vP hS hE (Gives.p hE rfl) rfl ?_; clear hE a; intro a hE
    refine vP hS hE (Gives.p hE rfl) rfl ?_; clear hE a; intro a hE
    refine WL.nil ?_
    refine W.ret ?_
    refine finG (fn := Tryd.f136) (rs := [.tmp 2]) (vs := [_]) hE rfl ⟨rfl, trivial⟩ ?_
    obtain rfl := Option.some.inj hr
    exact ⟨rfl, hS⟩
set_option maxHeartbeats 8000000 in
theorem MathBitsLen_ok  {w : World} {s : Sg} {R : List HP} {x0 : Int} (hS : St w s (R))  {r : Int} (hr : MathBitsLen x0 = some r) :
  Calls Tryd.prog 95 [.int .u64 x0].toArray w (fun e w => e = .returned (.int .i64 r) ∧ St w s (R)) := by
 refine enter Tryd.func95 rfl rfl rfl fun a hE => ?_
 rw [MathBitsLen] at hr
 refine W.seq (W.region ?_)
 refine vP hS hE (Gives.p hE rfl) rfl ?_; clear hE a; intro a hE
 refine WL.nil ?_
 refine W.seq ?_
 refine W.condF hE rfl rfl ?_
 refine W.skip ?_
 refine W.seq (W.region ?_)
 refine vP hS hE (Gives.p hE rfl) rfl ?_; clear hE a; intro a hE
 obtain ⟨q51, hq52, hr⟩ := bindS hr
 have hc_ := MathBitsLen64_ok hS  hq52
 refine WL.fnq hE (hc_) (runs_plain rfl) bd136 rfl rfl rfl ?_
 clear hE hS hc_; rintro e w ⟨rfl, hS⟩; refine ⟨_, rfl, ?_⟩; clear a; intro a hE
 refine vP hS hE (Gives.p hE rfl) rfl ?_; clear hE a; intro a hE
 refine WL.nil ?_
 refine W.ret ?_
 refine finG (fn := Tryd.f95) (rs := [.tmp 2]) (vs := [_]) hE rfl ⟨rfl, trivial⟩ ?_
 obtain rfl := Option.some.inj hr
 exact ⟨rfl, hS⟩
set_option maxHeartbeats 8000000 in
theorem CmpisNaNint_ok  {w : World} {s : Sg} {R : List HP} {x0 : Int} (hS : St w s (R))  {r : Bool} (hr : CmpisNaNint x0 = r) :
  Calls Tryd.prog 101 [.int .i64 x0].toArray w (fun e w => e = .returned (.bool r) ∧ St w s (R)) := by
 refine enter Tryd.func101 rfl rfl rfl fun a hE => ?_
 rw [CmpisNaNint] at hr
 refine W.seq (W.region ?_)
 refine vP hS hE (Gives.p hE rfl) rfl ?_; clear hE a; intro a hE
 refine WL.nil ?_
 refine W.seq (W.region ?_)
 refine vP hS hE (Gives.p hE rfl) rfl ?_; clear hE a; intro a hE
 refine vP hS hE (Gives.p hE rfl) rfl ?_; clear hE a; intro a hE
 refine vP hS hE (Gives.p hE rfl) rfl ?_; clear hE a; intro a hE
 refine vP hS hE (Gives.p hE rfl) rfl ?_; clear hE a; intro a hE
 refine WL.nil ?_
 refine W.ret ?_
 refine finG (fn := Tryd.f101) (rs := [.tmp 2]) (vs := [_]) hE rfl ⟨rfl, trivial⟩ ?_
 subst hr
 exact ⟨rfl, hS⟩
set_option maxHeartbeats 8000000 in
theorem CmpCompareint_ok  {w : World} {s : Sg} {R : List HP} {x0 : Int} {x1 : Int} (hS : St w s (R))  {r : Int} (hr : CmpCompareint x0 x1 = r) :
  Calls Tryd.prog 54 [.int .i64 x0, .int .i64 x1].toArray w (fun e w => e = .returned (.int .i64 r) ∧ St w s (R)) := by
 refine enter Tryd.func54 rfl rfl rfl fun a hE => ?_
 rw [CmpCompareint] at hr
 refine W.seq (W.region ?_)
 refine vP hS hE (Gives.p hE rfl) rfl ?_; clear hE a; intro a hE
 refine WL.nil ?_
 refine W.seq (W.region ?_)
 refine vP hS hE (Gives.p hE rfl) rfl ?_; clear hE a; intro a hE
 refine WL.fnq hE (CmpisNaNint_ok hS  rfl (r := CmpisNaNint x0)) (runs_plain rfl) bd101 rfl rfl rfl ?_
 clear hE hS; rintro e w ⟨rfl, hS⟩; refine ⟨_, rfl, ?_⟩; clear a; intro a hE
 refine vP hS hE (Gives.p hE rfl) rfl ?_; clear hE a; intro a hE
 refine WL.nil ?_
 refine W.seq (W.region ?_)
 refine vP hS hE (Gives.p hE rfl) rfl ?_; clear hE a; intro a hE
 refine WL.fnq hE (CmpisNaNint_ok hS  rfl (r := CmpisNaNint x1)) (runs_plain rfl) bd101 rfl rfl rfl ?_
 clear hE hS; rintro e w ⟨rfl, hS⟩; refine ⟨_, rfl, ?_⟩; clear a; intro a hE
 refine vP hS hE (Gives.p hE rfl) rfl ?_; clear hE a; intro a hE
 refine WL.nil ?_
 refine W.seq ?_
 refine W.seq (W.region ?_)
 refine vP hS hE (Gives.p hE rfl) rfl ?_; clear hE a; intro a hE
 refine WL.nil ?_
 refine W.cond hE rfl (fun hc51 => ?_) (fun hc51 => ?_)
 ·replace hr := iteT hc51 hr
  refine W.seq ?_
  refine W.seq (W.region ?_)
  refine vP hS hE (Gives.p hE rfl) rfl ?_; clear hE a; intro a hE
  refine WL.nil ?_
  refine W.cond hE rfl (fun hc52 => ?_) (fun hc52 => ?_)
  ·replace hr := iteT hc52 hr
   refine W.seq (W.region ?_)
   refine vP hS hE (Gives.p hE rfl) rfl ?_; clear hE a; intro a hE
   refine WL.nil ?_
   refine W.ret ?_
   refine finG (fn := Tryd.f54) (rs := [.tmp 4]) (vs := [_]) hE rfl ⟨rfl, trivial⟩ ?_
   subst hr
   exact ⟨rfl, hS⟩
  ·replace hr := iteF hc52 hr
   refine W.skip ?_
   refine W.seq (W.region ?_)
   refine vP hS hE (Gives.p hE rfl) rfl ?_; clear hE a; intro a hE
   refine WL.nil ?_
   refine W.ret ?_
   refine finG (fn := Tryd.f54) (rs := [.tmp 4]) (vs := [_]) hE rfl ⟨rfl, trivial⟩ ?_
   subst hr
   exact ⟨rfl, hS⟩
 ·replace hr := iteF hc51 hr
  refine W.skip ?_
  refine W.seq ?_
  refine W.seq (W.region ?_)
  refine vP hS hE (Gives.p hE rfl) rfl ?_; clear hE a; intro a hE
  refine WL.nil ?_
  refine W.cond hE rfl (fun hc53 => ?_) (fun hc53 => ?_)
  ·replace hr := iteT hc53 hr
   refine W.seq (W.region ?_)
   refine vP hS hE (Gives.p hE rfl) rfl ?_; clear hE a; intro a hE
   refine WL.nil ?_
   refine W.ret ?_
   refine finG (fn := Tryd.f54) (rs := [.tmp 4]) (vs := [_]) hE rfl ⟨rfl, trivial⟩ ?_
   subst hr
   exact ⟨rfl, hS⟩
  ·replace hr := iteF hc53 hr
   refine W.skip ?_
   refine W.seq ?_
   refine W.seq (W.region ?_)
   refine vP hS hE (Gives.p hE rfl) rfl ?_; clear hE a; intro a hE
   refine vP hS hE (Gives.p hE rfl) rfl ?_; clear hE a; intro a hE
   refine vP hS hE (Gives.p hE rfl) rfl ?_; clear hE a; intro a hE
   refine WL.nil ?_
   refine W.cond hE rfl (fun hc54 => ?_) (fun hc54 => ?_)
   ·replace hr := iteT hc54 hr
    refine W.seq (W.region ?_)
    refine vP hS hE (Gives.p hE rfl) rfl ?_; clear hE a; intro a hE
    refine WL.nil ?_
    refine W.ret ?_
    refine finG (fn := Tryd.f54) (rs := [.tmp 4]) (vs := [_]) hE rfl ⟨rfl, trivial⟩ ?_
    subst hr
    exact ⟨rfl, hS⟩
   ·replace hr := iteF hc54 hr
    refine W.skip ?_
    refine W.seq ?_
    refine W.seq (W.region ?_)
    refine vP hS hE (Gives.p hE rfl) rfl ?_; clear hE a; intro a hE
    refine vP hS hE (Gives.p hE rfl) rfl ?_; clear hE a; intro a hE
    refine vP hS hE (Gives.p hE rfl) rfl ?_; clear hE a; intro a hE
    refine WL.nil ?_
    refine W.cond hE rfl (fun hc55 => ?_) (fun hc55 => ?_)
    ·replace hr := iteT hc55 hr
     refine W.seq (W.region ?_)
     refine vP hS hE (Gives.p hE rfl) rfl ?_; clear hE a; intro a hE
     refine WL.nil ?_
     refine W.ret ?_
     refine finG (fn := Tryd.f54) (rs := [.tmp 4]) (vs := [_]) hE rfl ⟨rfl, trivial⟩ ?_
     subst hr
     exact ⟨rfl, hS⟩
    ·replace hr := iteF hc55 hr
     refine W.skip ?_
     refine W.seq (W.region ?_)
     refine vP hS hE (Gives.p hE rfl) rfl ?_; clear hE a; intro a hE
     refine WL.nil ?_
     refine W.ret ?_
     refine finG (fn := Tryd.f54) (rs := [.tmp 4]) (vs := [_]) hE rfl ⟨rfl, trivial⟩ ?_
     subst hr
     exact ⟨rfl, hS⟩
set_option maxHeartbeats 8000000 in
theorem CmpOrint_ok  {w : World} {s : Sg} {R : List HP} {x0 : List Int} {a0 : Option Addr} {c0 : Nat} (hS : St w s (R)) (h0 : Sl 1 (RI .i64) s a0 c0 x0) {r : Int} (hr : CmpOrint x0 = r) :
  Calls Tryd.prog 53 [.slice a0 x0.length c0].toArray w (fun e w => e = .returned (.int .i64 r) ∧ St w s (R)) := by
 refine enter Tryd.func53 rfl rfl rfl fun a hE => ?_
 rw [CmpOrint] at hr
 refine W.seq (W.region ?_)
 refine vP hS hE (Gives.p hE rfl) rfl ?_; clear hE a; intro a hE
 refine WL.nil ?_
 refine W.seq (W.region ?_)
 refine vP hS hE (Gives.p hE rfl) rfl ?_; clear hE a; intro a hE
 refine WL.nil ?_
 refine W.seq ?_
 refine W.seq (W.region ?_)
 refine vP hS hE (Gives.p hE rfl) rfl ?_; clear hE a; intro a hE
 refine vP hS hE (Gives.len hE rfl sl45) rfl ?_; clear hE a; intro a hE
 refine vP hS hE (Gives.p hE rfl) rfl ?_; clear hE a; intro a hE
 refine WL.nil ?_
 obtain ⟨q52, hq51, hr⟩ := bndS hr
 refine W.cut (fun a w => (.next ()) = q52 ∧ Rep a 18 [(3, .int .i64 0)] ∧ St w s (R)) ?_ ?_
 ·refine W.block ?_
  refine W.loop (fun m a w => ∃ (rest55 : List Int) (k53 : Nat), rest55.length = m ∧ x0.drop k53 = rest55 ∧ CmpOrint.loop1 rest55 = q52 ∧ Rep a 18 [(3, .int .i64 0), (6, .slice a0 x0.length c0), (7, .int .i64 ((x0).length : Int)), (8, .int .i64 ((k53 : Nat) : Int))] ∧ St w s (R)) (m := x0.length) ⟨x0, 0, rfl, rfl, hq51, hE.pick _ ⟨rfl, rfl, rfl, rfl, trivial⟩, hS⟩ ?_
  clear hE hS a w hq51; rintro m59 a w ⟨rest55, k53, rfl, hd56, hq51, hE, hS⟩
  refine W.gen fun K62 hK62 => ?_
  rcases rest55 with _ | ⟨x54, rest55⟩
  ·have hlt57 := drop_nil hd56
   refine W.seq (W.region ?_)
   refine vP hS hE (Gives.p hE rfl) rfl ?_; clear hE a; intro a hE
   refine WL.nil ?_
   refine W.seq ?_
   refine W.condF hE rfl (decide_eq_false (by omega)) ?_
   subst hK62
   refine W.exit rfl ?_
   exact ⟨hq51, hE.pick _ ⟨rfl, trivial⟩, hS⟩
  ·obtain ⟨hlt57, hx58, hd56⟩ := drop_cons hd56
   rw [CmpOrint.loop1] at hq51
   refine W.seq (W.region ?_)
   refine vP hS hE (Gives.p hE rfl) rfl ?_; clear hE a; intro a hE
   refine WL.nil ?_
   refine W.seq ?_
   refine W.condT hE rfl (decide_eq_true (by omega)) ?_
   refine W.skip ?_
   refine W.seq ?_
   refine W.block ?_
   refine W.seq (W.region ?_)
   obtain ⟨cs63, hl64, hR65, hat66⟩ := h0.at hx58
   subst hR65
   refine vP hS hE (Gives.idx hE k53 rfl rfl sl45 rfl hlt57 (h0.aok hlt57)) rfl ?_; clear hE a; intro a hE
   refine vP hS hE (Gives.load1 hE rfl (fun w h => hat66 w _ h) ty3) rfl ?_; clear hE a; intro a hE
   refine vP hS hE (Gives.p hE rfl) rfl ?_; clear hE a; intro a hE
   refine WL.nil ?_
   refine W.seq (W.region ?_)
   refine vP hS hE (Gives.p hE rfl) rfl ?_; clear hE a; intro a hE
   refine vP hS hE (Gives.p hE rfl) rfl ?_; clear hE a; intro a hE
   refine vP hS hE (Gives.p hE rfl) rfl ?_; clear hE a; intro a hE
   refine WL.nil ?_
   refine W.cond hE rfl (fun hc67 => ?_) (fun hc67 => ?_)
   ·replace hq51 := iteT hc67 hq51
    refine W.seq (W.region ?_)
    refine vP hS hE (Gives.p hE rfl) rfl ?_; clear hE a; intro a hE
    refine vP hS hE (Gives.p hE rfl) rfl ?_; clear hE a; intro a hE
    refine WL.nil ?_
    refine W.ret ?_
    subst hK62
    rw [← hq51] at hr
    dsimp only at hr
    refine finG (fn := Tryd.f53) (rs := [.tmp 2]) (vs := [_]) hE rfl ⟨rfl, trivial⟩ ?_
    subst hr
    exact ⟨rfl, hS⟩
   ·replace hq51 := iteF hc67 hq51
    refine W.skip ?_
    refine W.region ?_
    refine vP hS hE (Gives.inc hE rfl (by have := h0.small; omega)) rfl ?_; clear hE a; intro a hE
    refine vP hS hE (Gives.p hE rfl) rfl ?_; clear hE a; intro a hE
    refine WL.nil ?_
    subst hK62
    exact ⟨rest55.length, Nat.lt_succ_self _, rest55, k53 + 1, rfl, hd56, hq51, hE.pick _ ⟨rfl, rfl, rfl, rfl, trivial⟩, hS⟩
 ·clear hE hS a w; rintro a w ⟨rfl, hE, hS⟩
  dsimp only at hr
  refine W.seq (W.region ?_)
  refine vP hS hE (Gives.p hE rfl) rfl ?_; clear hE a; intro a hE
  refine vP hS hE (Gives.p hE rfl) rfl ?_; clear hE a; intro a hE
  refine WL.nil ?_
  refine W.ret ?_
  refine finG (fn := Tryd.f53) (rs := [.tmp 2]) (vs := [_]) hE rfl ⟨rfl, trivial⟩ ?_
  subst hr
  exact ⟨rfl, hS⟩
set_option maxHeartbeats 8000000 in
theorem GuidecomparePoints_ok  {w : World} {s : Sg} {R : List HP} {x0 : GuidePoint} {x1 : GuidePoint} (hS : St w s (R))  {r : Int} (hr : GuidecomparePoints x0 x1 = r) :
  Calls Tryd.prog 100 [.agg (GuidePoint.cells x0).toArray, .agg (GuidePoint.cells x1).toArray].toArray w (fun e w => e = .returned (.int .i64 r) ∧ St w s (R)) := by
 refine enter Tryd.func100 rfl rfl rfl fun a hE => ?_
 rw [GuidecomparePoints] at hr
 refine W.seq (W.region ?_)
 refine WL.box hE hS (runs_plain rfl) rfl rfl rfl ?_; clear hE hS a w; intro b51 a w hE hS
 refine WL.box hE hS (runs_plain rfl) rfl rfl rfl ?_; clear hE hS a w; intro b52 a w hE hS
 refine vP hS hE (Gives.p hE rfl) rfl ?_; clear hE a; intro a hE
 refine WL.nil ?_
 refine W.seq ?_
 refine W.gen fun K53 hK53 => ?_
 refine W.regionE (sel (fun w => St w s (pt b52 (.cells (GuidePoint.cells x1).toArray 62 (0, 0)) :: pt b51 (.cells (GuidePoint.cells x0).toArray 62 (0, 0)) :: R)) (fun w => St w s (pt b52 (.cells (GuidePoint.cells x1).toArray 62 (0, 0)) :: pt b51 (.cells (GuidePoint.cells x0).toArray 62 (0, 0)) :: R))) (fun b i => cond b ([0, 1, 2, 3, 4, 5, 6, 7, 8, 9, 10, 11, 12, 13, 14, 15, 16, 17].contains i) ([0, 1, 2, 3, 4, 5, 6, 7, 8, 9, 10, 11, 12, 13, 14, 15, 16, 17].contains i)) mixed ?_
 replace hS := hS.drew
 refine Rg.takeP (i := 0) hE rfl (by kernel_rfl) (runs_plain rfl) (Gives.fld hE rfl fl62_0) rfl (tw_sel (fun _ => hS) (fun _ => hS)) ?_; clear hE a; intro a hE
 have hT := tw_sel (A := fun w => St w s _) (B := fun w => St w s _) (w := _) (x := true) (y := true) (fun _ => hS) (fun _ => hS)
 have hF := hS; replace hS := hS
 refine Rg.take (i := 1) true rfl hE rfl (by kernel_rfl) (runs_plain rfl) (Gives.loadB hE 1 rfl rfl rfl ty3) rfl hT ?_; clear hE a; intro a hE
 replace hS := hF; clear hF hT
 refine Rg.takeP (i := 2) hE rfl (by kernel_rfl) (runs_plain rfl) (Gives.fld hE rfl fl62_0) rfl (tw_sel (fun _ => hS) (fun _ => hS)) ?_; clear hE a; intro a hE
 have hT := tw_sel (A := fun w => St w s _) (B := fun w => St w s _) (w := _) (x := true) (y := true) (fun _ => hS) (fun _ => hS)
 have hF := hS; replace hS := hS
 refine Rg.take (i := 3) true rfl hE rfl (by kernel_rfl) (runs_plain rfl) (Gives.loadB hE 0 rfl rfl rfl ty3) rfl hT ?_; clear hE a; intro a hE
 replace hS := hF; clear hF hT
 refine Rg.takeP (i := 5) hE rfl (by kernel_rfl) (runs_plain rfl) (Gives.fld hE rfl fl62_1) rfl (tw_sel (fun _ => hS) (fun _ => hS)) ?_; clear hE a; intro a hE
 have hT := tw_sel (A := fun w => St w s _) (B := fun w => St w s _) (w := _) (x := true) (y := true) (fun _ => hS) (fun _ => hS)
 have hF := hS; replace hS := hS
 refine Rg.take (i := 6) true rfl hE rfl (by kernel_rfl) (runs_plain rfl) (Gives.loadB hE 1 rfl rfl rfl ty3) rfl hT ?_; clear hE a; intro a hE
 replace hS := hF; clear hF hT
 refine Rg.takeP (i := 7) hE rfl (by kernel_rfl) (runs_plain rfl) (Gives.fld hE rfl fl62_1) rfl (tw_sel (fun _ => hS) (fun _ => hS)) ?_; clear hE a; intro a hE
 have hT := tw_sel (A := fun w => St w s _) (B := fun w => St w s _) (w := _) (x := true) (y := true) (fun _ => hS) (fun _ => hS)
 have hF := hS; replace hS := hS
 refine Rg.take (i := 8) true rfl hE rfl (by kernel_rfl) (runs_plain rfl) (Gives.loadB hE 0 rfl rfl rfl ty3) rfl hT ?_; clear hE a; intro a hE
 replace hS := hF; clear hF hT
 refine Rg.takeP (i := 10) hE rfl (by kernel_rfl) (runs_plain rfl) (Gives.fld hE rfl fl62_2) rfl (tw_sel (fun _ => hS) (fun _ => hS)) ?_; clear hE a; intro a hE
 have hT := tw_sel (A := fun w => St w s _) (B := fun w => St w s _) (w := _) (x := true) (y := true) (fun _ => hS) (fun _ => hS)
 have hF := hS; replace hS := hS
 refine Rg.take (i := 11) true rfl hE rfl (by kernel_rfl) (runs_plain rfl) (Gives.loadB hE 1 rfl rfl rfl ty3) rfl hT ?_; clear hE a; intro a hE
 replace hS := hF; clear hF hT
 refine Rg.takeP (i := 12) hE rfl (by kernel_rfl) (runs_plain rfl) (Gives.fld hE rfl fl62_2) rfl (tw_sel (fun _ => hS) (fun _ => hS)) ?_; clear hE a; intro a hE
 have hT := tw_sel (A := fun w => St w s _) (B := fun w => St w s _) (w := _) (x := true) (y := true) (fun _ => hS) (fun _ => hS)
 have hF := hS; replace hS := hS
 refine Rg.take (i := 13) true rfl hE rfl (by kernel_rfl) (runs_plain rfl) (Gives.loadB hE 0 rfl rfl rfl ty3) rfl hT ?_; clear hE a; intro a hE
 replace hS := hF; clear hF hT
 refine Rg.one (i := 4) true true rfl (by kernel_rfl) (by kernel_rfl) (by kernel_rfl) ?_
 refine WL.fnq hE (CmpCompareint_ok hS  rfl (r := CmpCompareint x0.Dep x1.Dep)) (runs_plain rfl) bd54 rfl rfl rfl ?_
 clear hE hS; rintro e w ⟨rfl, hS⟩; refine ⟨_, rfl, ?_⟩; clear a; intro a hE
 refine WL.nil ?_
 refine ⟨⟨fun _ => hS, fun _ => hS⟩, ?_⟩
 refine Rg.one (i := 9) true true rfl (by kernel_rfl) (by kernel_rfl) (by kernel_rfl) ?_
 refine WL.fnq hE (CmpCompareint_ok hS  rfl (r := CmpCompareint x0.Arr x1.Arr)) (runs_plain rfl) bd54 rfl rfl rfl ?_
 clear hE hS; rintro e w ⟨rfl, hS⟩; refine ⟨_, rfl, ?_⟩; clear a; intro a hE
 refine WL.nil ?_
 refine ⟨⟨fun _ => hS, fun _ => hS⟩, ?_⟩
 refine Rg.one (i := 14) true true rfl (by kernel_rfl) (by kernel_rfl) (by kernel_rfl) ?_
 refine WL.fnq hE (CmpCompareint_ok hS  rfl (r := CmpCompareint x0.Rides x1.Rides)) (runs_plain rfl) bd54 rfl rfl rfl ?_
 clear hE hS; rintro e w ⟨rfl, hS⟩; refine ⟨_, rfl, ?_⟩; clear a; intro a hE
 refine WL.nil ?_
 refine ⟨⟨fun _ => hS, fun _ => hS⟩, ?_⟩
 refine Rg.one (i := 15) true true rfl (by kernel_rfl) (by kernel_rfl) (by kernel_rfl) ?_
 refine WL.lit hE hS (e := 3) (es := 1) (vs := [(0, .int .i64 (CmpCompareint x0.Dep x1.Dep)), (1, .int .i64 (CmpCompareint x0.Arr x1.Arr)), (2, .int .i64 (CmpCompareint x0.Rides x1.Rides))]) (cs := [.int .i64 (CmpCompareint x0.Dep x1.Dep), .int .i64 (CmpCompareint x0.Arr x1.Arr), .int .i64 (CmpCompareint x0.Rides x1.Rides)]) (runs_plain rfl) rfl (by kernel_rfl) rfl ?_; clear hE hS a w; intro b54 a w hE hS
 replace hS := hS.ptVec (es := 1) (m := 3) rfl (by decide)
 have h56 : Ev 1 (RI .i64) s [.int .i64 (CmpCompareint x0.Dep x1.Dep), .int .i64 (CmpCompareint x0.Arr x1.Arr), .int .i64 (CmpCompareint x0.Rides x1.Rides)] [(CmpCompareint x0.Dep x1.Dep), (CmpCompareint x0.Arr x1.Arr), (CmpCompareint x0.Rides x1.Rides)] := (Ev.cons (c1 := [.int .i64 (CmpCompareint x0.Dep x1.Dep)]) rfl rfl (Ev.cons (c1 := [.int .i64 (CmpCompareint x0.Arr x1.Arr)]) rfl rfl (Ev.cons (c1 := [.int .i64 (CmpCompareint x0.Rides x1.Rides)]) rfl rfl (Ev.nil))))
 have hF := hS.fixD RI.mono 0 rfl h56 (rfl); clear hS; obtain ⟨s57, hle58, hS, h59⟩ := hF
 refine WL.nil ?_
 refine ⟨⟨fun _ => (St.down hle58 hS), fun _ => (St.down hle58 hS)⟩, ?_⟩
 refine Rg.one (i := 16) true true rfl (by kernel_rfl) (by kernel_rfl) (by kernel_rfl) ?_
 refine WL.fnq hE (CmpOrint_ok hS h59 rfl (r := CmpOrint [(CmpCompareint x0.Dep x1.Dep), (CmpCompareint x0.Arr x1.Arr), (CmpCompareint x0.Rides x1.Rides)])) (runs_plain rfl) bd53 rfl rfl rfl ?_
 clear hE hS; rintro e w ⟨rfl, hS⟩; refine ⟨_, rfl, ?_⟩; clear a; intro a hE
 refine WL.nil ?_
 refine ⟨⟨fun _ => (St.down hle58 hS), fun _ => (St.down hle58 hS)⟩, ?_⟩
 refine Rg.takeP (i := 17) hE rfl (by kernel_rfl) (runs_plain rfl) (Gives.p hE rfl) rfl (tw_sel (fun _ => (St.down hle58 hS)) (fun _ => (St.down hle58 hS))) ?_; clear hE a; intro a hE
 refine Rg.done (by kernel_rfl) ?_
 subst hK53
 refine W.ret ?_
 refine finG (fn := Tryd.f100) (rs := [.tmp 4]) (vs := [_]) hE rfl ⟨rfl, trivial⟩ ?_
 subst hr
 replace hS := hS.tail
 replace hS := hS.tail
 exact ⟨rfl, (hS.down hle58)⟩
set_option maxHeartbeats 8000000 in
theorem SlicesinsertionSortCmpFuncguidePoint_v1_ok {fu : Nat}  {w : World} {s : Sg} {R : List HP} {x0 : List GuidePoint} {a_v0 : Option Addr} {c_v0 n_v0 : Nat} {cs_v0 : List Value} {x1 : Int} {x2 : Int} (hS : St w s (vecC 62 3 a_v0 c_v0 n_v0 cs_v0 :: R)) (h_v0 : Ev 3 RGuidePoint s cs_v0 x0) (hn_v0 : x0.length = n_v0) {r : (List GuidePoint)} (hr : SlicesinsertionSortCmpFuncguidePoint_v1 fu x0 x1 x2 = some r) :
  Calls Tryd.prog 141 [.slice a_v0 n_v0 c_v0, .int .i64 x1, .int .i64 x2, .func (.func 100) #[] #[]].toArray w (fun e w => ∃ (cs55 : List Value), e = .returned (.tuple #[]) ∧ Ev 3 RGuidePoint s cs55 r ∧ r.length = n_v0 ∧ St w s (vecC 62 3 a_v0 c_v0 n_v0 cs55 :: R)) := by
 refine enter Tryd.func141 rfl rfl rfl fun a hE => ?_
 rw [SlicesinsertionSortCmpFuncguidePoint_v1] at hr
 subst hn_v0
 refine W.seq (W.region ?_)
 refine vP hS hE (Gives.p hE rfl) rfl ?_; clear hE a; intro a hE
 refine vP hS hE (Gives.p hE rfl) rfl ?_; clear hE a; intro a hE
 refine vP hS hE (Gives.p hE rfl) rfl ?_; clear hE a; intro a hE
 refine WL.nil ?_
 obtain ⟨q58, hq57, hr⟩ := bindS hr
 refine W.cut (fun a w => ∃ (q63 : Int), ∃ (q64 : List GuidePoint), ∃ (cs68 : List Value), (q63, q64) = q58 ∧ Ev 3 RGuidePoint s cs68 q64 ∧ q64.length = x0.length ∧ Rep a 53 [] ∧ St w s (vecC 62 3 a_v0 c_v0 x0.length cs68 :: R)) ?_ ?_
 ·refine W.block ?_
  refine W.loop (fun m a w => ∃ (n59 : Nat), ∃ (q63 : Int), ∃ (q64 : List GuidePoint), ∃ (cs68 : List Value), n59 = m ∧ SlicesinsertionSortCmpFuncguidePoint_v1.loop1 x1 x2 fu n59 q63 q64 = some q58 ∧ Ev 3 RGuidePoint s cs68 q64 ∧ q64.length = x0.length ∧ Rep a 53 [(0, .slice a_v0 x0.length c_v0), (1, .int .i64 x1), (2, .int .i64 x2), (3, .func (.func 100) #[] #[]), (8, .int .i64 q63)] ∧ St w s (vecC 62 3 a_v0 c_v0 x0.length cs68 :: R)) (m := fu) ⟨fu, (w64 (x1 + 1)), x0, cs_v0, rfl, hq57, h_v0, (rfl), hE.pick _ ⟨rfl, rfl, rfl, rfl, rfl, trivial⟩, hS⟩ ?_
  clear hE hS a w hq57; rintro m60 a w ⟨n59, q63, q64, cs68, rfl, hq57, h67, hn69, hE, hS⟩
  refine W.gen fun K70 hK70 => ?_
  rcases n59 with _ | n59
  ·rw [SlicesinsertionSortCmpFuncguidePoint_v1.loop1] at hq57; exact absurd hq57 (by simp)
  rw [SlicesinsertionSortCmpFuncguidePoint_v1.loop1] at hq57
  refine W.seq ?_
  refine W.seq (W.region ?_)
  refine vP hS hE (Gives.p hE rfl) rfl ?_; clear hE a; intro a hE
  refine vP hS hE (Gives.p hE rfl) rfl ?_; clear hE a; intro a hE
  refine vP hS hE (Gives.p hE rfl) rfl ?_; clear hE a; intro a hE
  refine WL.nil ?_
  refine W.cond hE rfl (fun hc71 => ?_) (fun hc71 => ?_)
  ·replace hq57 := iteT hc71 hq57
   refine W.skip ?_
   refine W.seq ?_
   refine W.block ?_
   refine W.seq (W.region ?_)
   refine vP hS hE (Gives.p hE rfl) rfl ?_; clear hE a; intro a hE
   refine vP hS hE (Gives.p hE rfl) rfl ?_; clear hE a; intro a hE
   refine WL.nil ?_
   obtain ⟨q73, hq72, hq57⟩ := bindS hq57
   refine W.cut (fun a w => ∃ (q78 : Int), ∃ (q79 : List GuidePoint), ∃ (cs83 : List Value), (q78, q79) = q73 ∧ Ev 3 RGuidePoint s cs83 q79 ∧ q79.length = x0.length ∧ Rep a 53 [(0, .slice a_v0 x0.length c_v0), (1, .int .i64 x1), (2, .int .i64 x2), (3, .func (.func 100) #[] #[]), (8, .int .i64 q63)] ∧ St w s (vecC 62 3 a_v0 c_v0 x0.length cs83 :: R)) ?_ ?_
   ·refine W.block ?_
    refine W.loop (fun m a w => ∃ (n74 : Nat), ∃ (q78 : Int), ∃ (q79 : List GuidePoint), ∃ (cs83 : List Value), n74 = m ∧ SlicesinsertionSortCmpFuncguidePoint_v1.loop2 x1 n74 q78 q79 = some q73 ∧ Ev 3 RGuidePoint s cs83 q79 ∧ q79.length = x0.length ∧ Rep a 53 [(0, .slice a_v0 x0.length c_v0), (1, .int .i64 x1), (2, .int .i64 x2), (3, .func (.func 100) #[] #[]), (8, .int .i64 q63), (9, .int .i64 q78)] ∧ St w s (vecC 62 3 a_v0 c_v0 x0.length cs83 :: R)) (m := fu) ⟨fu, q63, q64, cs68, rfl, hq72, h67, hn69, hE.pick _ ⟨rfl, rfl, rfl, rfl, rfl, rfl, trivial⟩, hS⟩ ?_
    clear hE hS a w hq72; rintro m75 a w ⟨n74, q78, q79, cs83, rfl, hq72, h82, hn84, hE, hS⟩
    refine W.gen fun K85 hK85 => ?_
    rcases n74 with _ | n74
    ·rw [SlicesinsertionSortCmpFuncguidePoint_v1.loop2] at hq72; exact absurd hq72 (by simp)
    rw [SlicesinsertionSortCmpFuncguidePoint_v1.loop2] at hq72
    refine W.seq ?_
    refine W.seq ?_
    obtain ⟨q87, hq86, hq72⟩ := bindS hq72
    refine W.cut (fun a w => ∃ (q90 : Bool), q90 = q87 ∧ Rep a 53 [(0, .slice a_v0 x0.length c_v0), (1, .int .i64 x1), (2, .int .i64 x2), (3, .func (.func 100) #[] #[]), (8, .int .i64 q63), (9, .int .i64 q78), (34, .bool q90)] ∧ St w s (vecC 62 3 a_v0 c_v0 x0.length cs83 :: R)) ?_ ?_
    ·refine W.gen fun K91 hK91 => ?_
     refine W.regionQ (C := fun w => St w s (vecC 62 3 a_v0 c_v0 x0.length cs83 :: R)) mixed (by kernel_rfl) hS.drew ?_
     refine qP hE (Gives.p hE rfl) rfl ?_; clear hE a; intro a hE
     refine qP hE (Gives.p hE rfl) rfl ?_; clear hE a; intro a hE
     refine qP hE (Gives.p hE rfl) rfl ?_; clear hE a; intro a hE
     refine qP hE (Gives.p hE rfl) rfl ?_; clear hE a; intro a hE
     rcases Bool.eq_false_or_eq_true (decide (q78 > x1)) with hg92 | hg92
     ·replace hq86 := iteT hg92 hq86
      refine QL.v hE (runs_if hE rfl rfl rfl hg92) (Gives.p hE rfl) rfl ?_; clear hE a; intro a hE
      refine QL.v hE (runs_if hE rfl rfl rfl hg92) (Gives.p hE rfl) rfl ?_; clear hE a; intro a hE
      refine QL.v hE (runs_if hE rfl rfl rfl hg92) (Gives.p hE rfl) rfl ?_; clear hE a; intro a hE
      obtain ⟨x93, hx94, hq86⟩ := bindS hq86
      obtain ⟨hi95, hlt96, hy97⟩ := gx_some hx94
      obtain ⟨vs98, hl99, hR100, hd101, hget102⟩ := h82.at hy97
      subst hR100
      refine QL.v hE (runs_if hE rfl rfl rfl hg92) (Gives.idx hE ((q78).toNat) rfl rfl sl55 hi95 (by have := hn84; omega) (hS.vecAok 0 rfl (by have := hn84; omega : (q78).toNat < x0.length))) rfl ?_; clear hE a; intro a hE
      refine QL.v hE (runs_if hE rfl rfl rfl hg92) (Gives.loadA hE rfl (fun w h => St.vecSees h 0 rfl ((q78).toNat * 3) _ hget102) ty62) rfl ?_; clear hE a; intro a hE
      refine QL.v hE (runs_if hE rfl rfl rfl hg92) (Gives.p hE rfl) rfl ?_; clear hE a; intro a hE
      refine QL.v hE (runs_if hE rfl rfl rfl hg92) (Gives.p hE rfl) rfl ?_; clear hE a; intro a hE
      refine QL.v hE (runs_if hE rfl rfl rfl hg92) (Gives.p hE rfl) rfl ?_; clear hE a; intro a hE
      obtain ⟨x103, hx104, hq86⟩ := bindS hq86
      obtain ⟨hi105, hlt106, hy107⟩ := gx_some hx104
      obtain ⟨vs108, hl109, hR110, hd111, hget112⟩ := h82.at hy107
      subst hR110
      refine QL.v hE (runs_if hE rfl rfl rfl hg92) (Gives.idx hE ((w64 (q78 - 1)).toNat) rfl rfl sl55 hi105 (by have := hn84; omega) (hS.vecAok 0 rfl (by have := hn84; omega : (w64 (q78 - 1)).toNat < x0.length))) rfl ?_; clear hE a; intro a hE
      refine QL.v hE (runs_if hE rfl rfl rfl hg92) (Gives.loadA hE rfl (fun w h => St.vecSees h 0 rfl ((w64 (q78 - 1)).toNat * 3) _ hget112) ty62) rfl ?_; clear hE a; intro a hE
      refine QL.fnw hE (fun w hS => GuidecomparePoints_ok hS  rfl (r := GuidecomparePoints x93 x103)) rfl (runs_if hE rfl rfl rfl hg92) bd100 rfl rfl rfl ?_; clear hE a; intro a hE
      refine QL.v hE (runs_if hE rfl rfl rfl hg92) (Gives.p hE rfl) rfl ?_; clear hE a; intro a hE
      refine qP hE (Gives.pickT hE rfl hg92 rfl) rfl ?_; clear hE a; intro a hE
      refine QL.nil ?_; clear hS w; intro w hS
      subst hK91
      exact ⟨decide ((GuidecomparePoints x93 x103) < 0), Option.some.inj hq86, hE.pick _ ⟨rfl, rfl, rfl, rfl, rfl, rfl, rfl, trivial⟩, hS⟩
     ·replace hq86 := iteF hg92 hq86
      refine QL.no hE (runs_not hE rfl rfl rfl (by rw [hg92]; decide)) rfl ?_; clear hE a; intro a hE
      refine QL.no hE (runs_not hE rfl rfl rfl (by rw [hg92]; decide)) rfl ?_; clear hE a; intro a hE
      refine QL.no hE (runs_not hE rfl rfl rfl (by rw [hg92]; decide)) rfl ?_; clear hE a; intro a hE
      refine QL.no hE (runs_not hE rfl rfl rfl (by rw [hg92]; decide)) rfl ?_; clear hE a; intro a hE
      refine QL.no hE (runs_not hE rfl rfl rfl (by rw [hg92]; decide)) rfl ?_; clear hE a; intro a hE
      refine QL.no hE (runs_not hE rfl rfl rfl (by rw [hg92]; decide)) rfl ?_; clear hE a; intro a hE
      refine QL.no hE (runs_not hE rfl rfl rfl (by rw [hg92]; decide)) rfl ?_; clear hE a; intro a hE
      refine QL.no hE (runs_not hE rfl rfl rfl (by rw [hg92]; decide)) rfl ?_; clear hE a; intro a hE
      refine QL.no hE (runs_not hE rfl rfl rfl (by rw [hg92]; decide)) rfl ?_; clear hE a; intro a hE
      refine QL.no hE (runs_not hE rfl rfl rfl (by rw [hg92]; decide)) rfl ?_; clear hE a; intro a hE
      refine QL.no hE (runs_not hE rfl rfl rfl (by rw [hg92]; decide)) rfl ?_; clear hE a; intro a hE
      refine QL.no hE (runs_not hE rfl rfl rfl (by rw [hg92]; decide)) rfl ?_; clear hE a; intro a hE
      refine qP hE (Gives.pickF hE rfl hg92 rfl) rfl ?_; clear hE a; intro a hE
      refine QL.nil ?_; clear hS w; intro w hS
      subst hK91
      exact ⟨false, Option.some.inj hq86, hE.pick _ ⟨rfl, rfl, rfl, rfl, rfl, rfl, rfl, trivial⟩, hS⟩
    ·clear hE hS a w; rintro a w ⟨q90, rfl, hE, hS⟩
     refine W.cond hE rfl (fun hc113 => ?_) (fun hc113 => ?_)
     ·replace hq72 := iteT hc113 hq72
      refine W.skip ?_
      refine W.seq ?_
      refine W.block ?_
      refine W.gen fun K114 hK114 => ?_
      refine W.regionE (sel (fun w => St w s (vecC 62 3 a_v0 c_v0 x0.length cs83 :: R)) (fun w => St w s (R))) (fun b i => cond b ([0, 1, 2, 3, 4, 5, 6, 7, 8, 9, 10, 11, 12, 13, 14, 16].contains i) ([0, 1, 2, 3, 4, 5, 6, 7, 8, 9, 10, 11, 12, 13, 14, 15, 16, 17].contains i)) mixed ?_
      replace hS := hS.drew
      refine Rg.takeP (i := 0) hE rfl (by kernel_rfl) (runs_plain rfl) (Gives.p hE rfl) rfl (tw_sel (fun _ => hS) (fun _ => (hS.tail))) ?_; clear hE a; intro a hE
      refine Rg.takeP (i := 1) hE rfl (by kernel_rfl) (runs_plain rfl) (Gives.p hE rfl) rfl (tw_sel (fun _ => hS) (fun _ => (hS.tail))) ?_; clear hE a; intro a hE
      refine Rg.takeP (i := 2) hE rfl (by kernel_rfl) (runs_plain rfl) (Gives.p hE rfl) rfl (tw_sel (fun _ => hS) (fun _ => (hS.tail))) ?_; clear hE a; intro a hE
      refine Rg.takeP (i := 3) hE rfl (by kernel_rfl) (runs_plain rfl) (Gives.p hE rfl) rfl (tw_sel (fun _ => hS) (fun _ => (hS.tail))) ?_; clear hE a; intro a hE
      refine Rg.takeP (i := 4) hE rfl (by kernel_rfl) (runs_plain rfl) (Gives.p hE rfl) rfl (tw_sel (fun _ => hS) (fun _ => (hS.tail))) ?_; clear hE a; intro a hE
      refine Rg.takeP (i := 5) hE rfl (by kernel_rfl) (runs_plain rfl) (Gives.p hE rfl) rfl (tw_sel (fun _ => hS) (fun _ => (hS.tail))) ?_; clear hE a; intro a hE
      refine Rg.takeP (i := 6) hE rfl (by kernel_rfl) (runs_plain rfl) (Gives.p hE rfl) rfl (tw_sel (fun _ => hS) (fun _ => (hS.tail))) ?_; clear hE a; intro a hE
      refine Rg.takeP (i := 7) hE rfl (by kernel_rfl) (runs_plain rfl) (Gives.p hE rfl) rfl (tw_sel (fun _ => hS) (fun _ => (hS.tail))) ?_; clear hE a; intro a hE
      obtain ⟨x115, hx116, hq72⟩ := bindS hq72
      obtain ⟨hi117, hlt118, hy119⟩ := gx_some hx116
      obtain ⟨vs120, hl121, hR122, hd123, hget124⟩ := h82.at hy119
      subst hR122
      refine Rg.takeP (i := 8) hE rfl (by kernel_rfl) (runs_plain rfl) (Gives.idx hE ((w64 (q78 - 1)).toNat) rfl rfl sl55 hi117 (by have := hn84; omega) (hS.vecAok 0 rfl (by have := hn84; omega : (w64 (q78 - 1)).toNat < x0.length))) rfl (tw_sel (fun _ => hS) (fun _ => (hS.tail))) ?_; clear hE a; intro a hE
      have hT := tw_sel (A := fun w => St w s _) (B := fun w => St w s _) (w := _) (x := true) (y := true) (fun _ => hS) (fun _ => (hS.tail))
      have hF := hS; replace hS := hS
      refine Rg.take (i := 9) true rfl hE rfl (by kernel_rfl) (runs_plain rfl) (Gives.loadA hE rfl (fun w h => St.vecSees h 0 rfl ((w64 (q78 - 1)).toNat * 3) _ hget124) ty62) rfl hT ?_; clear hE a; intro a hE
      replace hS := hF; clear hF hT
      refine Rg.takeP (i := 10) hE rfl (by kernel_rfl) (runs_plain rfl) (Gives.p hE rfl) rfl (tw_sel (fun _ => hS) (fun _ => (hS.tail))) ?_; clear hE a; intro a hE
      refine Rg.takeP (i := 11) hE rfl (by kernel_rfl) (runs_plain rfl) (Gives.p hE rfl) rfl (tw_sel (fun _ => hS) (fun _ => (hS.tail))) ?_; clear hE a; intro a hE
      obtain ⟨x125, hx126, hq72⟩ := bindS hq72
      obtain ⟨hi127, hlt128, hy129⟩ := gx_some hx126
      obtain ⟨vs130, hl131, hR132, hd133, hget134⟩ := h82.at hy129
      subst hR132
      refine Rg.takeP (i := 12) hE rfl (by kernel_rfl) (runs_plain rfl) (Gives.idx hE ((q78).toNat) rfl rfl sl55 hi127 (by have := hn84; omega) (hS.vecAok 0 rfl (by have := hn84; omega : (q78).toNat < x0.length))) rfl (tw_sel (fun _ => hS) (fun _ => (hS.tail))) ?_; clear hE a; intro a hE
      have hT := tw_sel (A := fun w => St w s _) (B := fun w => St w s _) (w := _) (x := true) (y := true) (fun _ => hS) (fun _ => (hS.tail))
      have hF := hS; replace hS := hS
      refine Rg.take (i := 13) true rfl hE rfl (by kernel_rfl) (runs_plain rfl) (Gives.loadA hE rfl (fun w h => St.vecSees h 0 rfl ((q78).toNat * 3) _ hget134) ty62) rfl hT ?_; clear hE a; intro a hE
      replace hS := hF; clear hF hT
      obtain ⟨_, hx136, hq72⟩ := bindS hq72
      obtain ⟨h137, h138⟩ := ix_some hx136
      refine Rg.takeP (i := 14) hE rfl (by kernel_rfl) (runs_plain rfl) (Gives.idx hE ((q78).toNat) rfl rfl sl55 h137 (by have := hn84; omega) (hS.vecAok 0 rfl (by have := hn84; omega : (q78).toNat < x0.length))) rfl (tw_sel (fun _ => hS) (fun _ => (hS.tail))) ?_; clear hE a; intro a hE
      refine Rg.one (i := 15) false true rfl (by kernel_rfl) (by kernel_rfl) (by kernel_rfl) ?_
      obtain ⟨x140, hx141, hq72⟩ := bindS hq72
      refine WL.setD hE hS 0 rfl (runs_plain rfl) rfl rfl (vs := [.int .i64 x115.Dep, .int .i64 x115.Arr, .int .i64 x115.Rides]) rfl ty62 rfl rfl rfl h82 hn84 (sx_some hx141).1 hx141 rfl rfl ?_; clear hE hS a w; intro cs142 a w h143 hn144 hE hS
      refine WL.nil ?_
      refine ⟨⟨fun h => absurd h (by decide), fun _ => (hS.tail)⟩, ?_⟩
      obtain ⟨_, hx146, hq72⟩ := bindS hq72
      obtain ⟨h147, h148⟩ := ix_some hx146
      refine Rg.takeP (i := 16) hE rfl (by kernel_rfl) (runs_plain rfl) (Gives.idx hE ((w64 (q78 - 1)).toNat) rfl rfl sl55 h147 (by have := hn144; omega) (hS.vecAok 0 rfl (by have := hn144; omega : (w64 (q78 - 1)).toNat < x0.length))) rfl (tw_sel (fun h => absurd h (by decide)) (fun _ => (hS.tail))) ?_; clear hE a; intro a hE
      refine Rg.one (i := 17) false true rfl (by kernel_rfl) (by kernel_rfl) (by kernel_rfl) ?_
      obtain ⟨x150, hx151, hq72⟩ := bindS hq72
      refine WL.setD hE hS 0 rfl (runs_plain rfl) rfl rfl (vs := [.int .i64 x125.Dep, .int .i64 x125.Arr, .int .i64 x125.Rides]) rfl ty62 rfl rfl rfl h143 hn144 (sx_some hx151).1 hx151 rfl rfl ?_; clear hE hS a w; intro cs152 a w h153 hn154 hE hS
      refine WL.nil ?_
      refine ⟨⟨fun h => absurd h (by decide), fun _ => (hS.tail)⟩, ?_⟩
      refine Rg.done (by kernel_rfl) ?_
      subst hK114
      refine W.region ?_
      refine vP hS hE (Gives.p hE rfl) rfl ?_; clear hE a; intro a hE
      refine vP hS hE (Gives.p hE rfl) rfl ?_; clear hE a; intro a hE
      refine vP hS hE (Gives.p hE rfl) rfl ?_; clear hE a; intro a hE
      refine WL.nil ?_
      subst hK85
      exact ⟨n74, Nat.lt_succ_self _, n74, (w64 (q78 - 1)), x150, cs152, rfl, hq72, h153, hn154, hE.pick _ ⟨rfl, rfl, rfl, rfl, rfl, rfl, trivial⟩, hS⟩
     ·replace hq72 := iteF hc113 hq72
      subst hK85
      refine W.exit rfl ?_
      exact ⟨q78, q79, cs83, Option.some.inj hq72, h82, hn84, hE.pick _ ⟨rfl, rfl, rfl, rfl, rfl, trivial⟩, hS⟩
   ·clear hE hS a w; rintro a w ⟨q78, q79, cs83, rfl, h82, hn84, hE, hS⟩
    dsimp only at hq57
    refine W.region ?_
    refine vP hS hE (Gives.p hE rfl) rfl ?_; clear hE a; intro a hE
    refine vP hS hE (Gives.p hE rfl) rfl ?_; clear hE a; intro a hE
    refine vP hS hE (Gives.p hE rfl) rfl ?_; clear hE a; intro a hE
    refine WL.nil ?_
    subst hK70
    exact ⟨n59, Nat.lt_succ_self _, n59, (w64 (q63 + 1)), q79, cs83, rfl, hq57, h82, hn84, hE.pick _ ⟨rfl, rfl, rfl, rfl, rfl, trivial⟩, hS⟩
  ·replace hq57 := iteF hc71 hq57
   subst hK70
   refine W.exit rfl ?_
   exact ⟨q63, q64, cs68, Option.some.inj hq57, h67, hn69, hE.pick _ trivial, hS⟩
 ·clear hE hS a w; rintro a w ⟨q63, q64, cs68, rfl, h67, hn69, hE, hS⟩
  dsimp only at hr
  refine finG (fn := Tryd.f141) (rs := []) (vs := []) hE rfl trivial ?_
  obtain rfl := Option.some.inj hr
  exact ⟨cs68, rfl, h67, hn69, hS⟩
set_option maxHeartbeats 8000000 in
theorem SlicespdqsortCmpFuncguidePoint_v1_ok {fu : Nat}  {w : World} {s : Sg} {R : List HP} {x0 : List GuidePoint} {a_v0 : Option Addr} {c_v0 n_v0 : Nat} {cs_v0 : List Value} {x1 : Int} {x2 : Int} {x3 : Int} (hS : St w s (vecC 62 3 a_v0 c_v0 n_v0 cs_v0 :: R)) (h_v0 : Ev 3 RGuidePoint s cs_v0 x0) (hn_v0 : x0.length = n_v0) {r : (List GuidePoint)} (hr : SlicespdqsortCmpFuncguidePoint_v1 fu x0 x1 x2 x3 = some r) :
  Calls Tryd.prog 115 [.slice a_v0 n_v0 c_v0, .int .i64 x1, .int .i64 x2, .int .i64 x3, .func (.func 100) #[] #[]].toArray w (fun e w => ∃ (cs55 : List Value), e = .returned (.tuple #[]) ∧ Ev 3 RGuidePoint s cs55 r ∧ r.length = n_v0 ∧ St w s (vecC 62 3 a_v0 c_v0 n_v0 cs55 :: R)) := by
 refine enter Tryd.func115 rfl rfl rfl fun a hE => ?_
 rw [SlicespdqsortCmpFuncguidePoint_v1] at hr
 subst hn_v0
 refine W.seq (W.region ?_)
 refine vP hS hE (Gives.p hE rfl) rfl ?_; clear hE a; intro a hE
 refine WL.nil ?_
 refine W.seq (W.region ?_)
 refine vP hS hE (Gives.p hE rfl) rfl ?_; clear hE a; intro a hE
 refine WL.nil ?_
 obtain ⟨q58, hq57, hr⟩ := bindS hr
 refine W.cut (fun _ _ => False) ?_ ?_
 ·refine W.block ?_
  refine W.loop (fun m a w => ∃ (n59 : Nat), ∃ (q63 : Int), ∃ (q64 : Int), ∃ (q65 : Int), ∃ (q66 : Bool), ∃ (q67 : Bool), ∃ (q68 : List GuidePoint), ∃ (cs72 : List Value), n59 = m ∧ SlicespdqsortCmpFuncguidePoint_v1.loop1 fu n59 q63 q64 q65 q66 q67 q68 = some q58 ∧ Ev 3 RGuidePoint s cs72 q68 ∧ q68.length = x0.length ∧ Rep a 148 [(0, .slice a_v0 x0.length c_v0), (1, .int .i64 q63), (2, .int .i64 q64), (3, .int .i64 q65), (4, .func (.func 100) #[] #[]), (10, .bool q66), (11, .bool q67)] ∧ St w s (vecC 62 3 a_v0 c_v0 x0.length cs72 :: R)) (m := fu) ⟨fu, x1, x2, x3, true, true, x0, cs_v0, rfl, hq57, h_v0, (rfl), hE.pick _ ⟨rfl, rfl, rfl, rfl, rfl, rfl, rfl, trivial⟩, hS⟩ ?_
  clear hE hS a w hq57; rintro m60 a w ⟨n59, q63, q64, q65, q66, q67, q68, cs72, rfl, hq57, h71, hn73, hE, hS⟩
  refine W.gen fun K74 hK74 => ?_
  rcases n59 with _ | n59
  ·rw [SlicespdqsortCmpFuncguidePoint_v1.loop1] at hq57; exact absurd hq57 (by simp)
  rw [SlicespdqsortCmpFuncguidePoint_v1.loop1] at hq57
  refine W.block ?_
  refine W.seq (W.region ?_)
  refine vP hS hE (Gives.p hE rfl) rfl ?_; clear hE a; intro a hE
  refine vP hS hE (Gives.p hE rfl) rfl ?_; clear hE a; intro a hE
  refine vP hS hE (Gives.p hE rfl) rfl ?_; clear hE a; intro a hE
  refine vP hS hE (Gives.p hE rfl) rfl ?_; clear hE a; intro a hE
  refine WL.nil ?_
  refine W.seq ?_
  refine W.seq (W.region ?_)
  refine vP hS hE (Gives.p hE rfl) rfl ?_; clear hE a; intro a hE
  refine vP hS hE (Gives.p hE rfl) rfl ?_; clear hE a; intro a hE
  refine WL.nil ?_
  refine W.cond hE rfl (fun hc75 => ?_) (fun hc75 => ?_)
  ·replace hq57 := iteT hc75 hq57
   refine W.seq (W.region ?_)
   refine vP hS hE (Gives.p hE rfl) rfl ?_; clear hE a; intro a hE
   refine vP hS hE (Gives.p hE rfl) rfl ?_; clear hE a; intro a hE
   refine vP hS hE (Gives.p hE rfl) rfl ?_; clear hE a; intro a hE
   refine vP hS hE (Gives.p hE rfl) rfl ?_; clear hE a; intro a hE
   obtain ⟨q76, hq77, hq57⟩ := bindS hq57
   have hc_ := SlicesinsertionSortCmpFuncguidePoint_v1_ok hS h71 hn73 hq77
   refine WL.fnq hE (hc_) (runs_plain rfl) bd141 rfl rfl rfl ?_
   clear hE hS hc_; rintro e w ⟨cs78, rfl, h79, hn80, hS⟩; refine ⟨_, rfl, ?_⟩; clear a; intro a hE
   refine WL.nil ?_
   refine W.ret ?_
   subst hK74
   rw [← Option.some.inj hq57] at hr
   dsimp only at hr
   refine finG (fn := Tryd.f115) (rs := []) (vs := []) hE rfl trivial ?_
   obtain rfl := Option.some.inj hr
   exact ⟨cs78, rfl, h79, hn80, hS⟩
  ·replace hq57 := iteF hc75 hq57
   refine W.skip ?_
   refine W.seq ?_
   refine W.seq (W.region ?_)
   refine vP hS hE (Gives.p hE rfl) rfl ?_; clear hE a; intro a hE
   refine vP hS hE (Gives.p hE rfl) rfl ?_; clear hE a; intro a hE
   refine WL.nil ?_
   refine W.cond hE rfl (fun hc81 => ?_) (fun hc81 => ?_)
   ·replace hq57 := iteT hc81 hq57
    refine W.seq (W.region ?_)
    refine vP hS hE (Gives.p hE rfl) rfl ?_; clear hE a; intro a hE
    refine vP hS hE (Gives.p hE rfl) rfl ?_; clear hE a; intro a hE
    refine vP hS hE (Gives.p hE rfl) rfl ?_; clear hE a; intro a hE
    refine vP hS hE (Gives.p hE rfl) rfl ?_; clear hE a; intro a hE
    exact absurd hq57 (by simp)
   ·replace hq57 := iteF hc81 hq57
    refine W.skip ?_
    refine W.seq ?_
    refine W.seq (W.region ?_)
    refine vP hS hE (Gives.p hE rfl) rfl ?_; clear hE a; intro a hE
    refine vP hS hE (Gives.p hE rfl) rfl ?_; clear hE a; intro a hE
    refine WL.nil ?_
    obtain ⟨q83, hq82, hq57⟩ := bindS hq57
    refine W.cut (fun a w => ∃ (q86 : Int), ∃ (q87 : List GuidePoint), ∃ (cs91 : List Value), (q86, q87) = q83 ∧ Ev 3 RGuidePoint s cs91 q87 ∧ q87.length = x0.length ∧ Rep a 148 [(0, .slice a_v0 x0.length c_v0), (1, .int .i64 q63), (2, .int .i64 q64), (3, .int .i64 q86), (4, .func (.func 100) #[] #[]), (10, .bool q66), (11, .bool q67), (12, .int .i64 (w64 (q64 - q63)))] ∧ St w s (vecC 62 3 a_v0 c_v0 x0.length cs91 :: R)) ?_ ?_
    ·refine W.gen fun K93 hK93 => ?_
     refine W.cond hE rfl (fun hc94 => ?_) (fun hc94 => ?_)
     ·replace hq82 := iteT hc94 hq82
      refine W.seq (W.region ?_)
      refine vP hS hE (Gives.p hE rfl) rfl ?_; clear hE a; intro a hE
      refine vP hS hE (Gives.p hE rfl) rfl ?_; clear hE a; intro a hE
      refine vP hS hE (Gives.p hE rfl) rfl ?_; clear hE a; intro a hE
      refine vP hS hE (Gives.p hE rfl) rfl ?_; clear hE a; intro a hE
      exact absurd hq82 (by simp)
     ·replace hq82 := iteF hc94 hq82
      refine W.skip ?_
      subst hK93
      exact ⟨q65, q68, cs72, Option.some.inj hq82, h71, hn73, hE.pick _ ⟨rfl, rfl, rfl, rfl, rfl, rfl, rfl, rfl, trivial⟩, hS⟩
    ·clear hE hS a w; rintro a w ⟨q86, q87, cs91, rfl, h90, hn92, hE, hS⟩
     dsimp only at hq57
     refine W.seq (W.region ?_)
     refine vP hS hE (Gives.p hE rfl) rfl ?_; clear hE a; intro a hE
     refine vP hS hE (Gives.p hE rfl) rfl ?_; clear hE a; intro a hE
     refine vP hS hE (Gives.p hE rfl) rfl ?_; clear hE a; intro a hE
     refine vP hS hE (Gives.p hE rfl) rfl ?_; clear hE a; intro a hE
     exact absurd hq57 (by simp)
 ·exact fun _ _ h => h.elim
set_option maxHeartbeats 8000000 in
theorem SlicesSortFuncLguidePoint_v1_ok {fu : Nat}  {w : World} {s : Sg} {R : List HP} {x0 : List GuidePoint} {a_v0 : Option Addr} {c_v0 n_v0 : Nat} {cs_v0 : List Value} (hS : St w s (vecC 62 3 a_v0 c_v0 n_v0 cs_v0 :: R)) (h_v0 : Ev 3 RGuidePoint s cs_v0 x0) (hn_v0 : x0.length = n_v0) {r : (List GuidePoint)} (hr : SlicesSortFuncLguidePoint_v1 fu x0 = some r) :
  Calls Tryd.prog 80 [.slice a_v0 n_v0 c_v0, .func (.func 100) #[] #[]].toArray w (fun e w => ∃ (cs55 : List Value), e = .returned (.tuple #[]) ∧ Ev 3 RGuidePoint s cs55 r ∧ r.length = n_v0 ∧ St w s (vecC 62 3 a_v0 c_v0 n_v0 cs55 :: R)) := by
 refine enter Tryd.func80 rfl rfl rfl fun a hE => ?_
 rw [SlicesSortFuncLguidePoint_v1] at hr
 subst hn_v0
 refine W.seq (W.region ?_)
 refine vP hS hE (Gives.p hE rfl) rfl ?_; clear hE a; intro a hE
 refine vP hS hE (Gives.len hE rfl sl55) rfl ?_; clear hE a; intro a hE
 refine vP hS hE (Gives.p hE rfl) rfl ?_; clear hE a; intro a hE
 refine WL.nil ?_
 refine W.region ?_
 refine vP hS hE (Gives.p hE rfl) rfl ?_; clear hE a; intro a hE
 refine vP hS hE (Gives.p hE rfl) rfl ?_; clear hE a; intro a hE
 refine vP hS hE (Gives.p hE rfl) rfl ?_; clear hE a; intro a hE
 refine vP hS hE (Gives.conv hE rfl hu3 ui154) rfl ?_; clear hE a; intro a hE
 obtain ⟨q57, hq58, hr⟩ := bindS hr
 have hc_ := MathBitsLen_ok hS  hq58
 refine WL.fnq hE (hc_) (runs_plain rfl) bd95 rfl rfl rfl ?_
 clear hE hS hc_; rintro e w ⟨rfl, hS⟩; refine ⟨_, rfl, ?_⟩; clear a; intro a hE
 refine vP hS hE (Gives.p hE rfl) rfl ?_; clear hE a; intro a hE
 obtain ⟨q59, hq60, hr⟩ := bindS hr
 have hc_ := SlicespdqsortCmpFuncguidePoint_v1_ok hS h_v0 (rfl) hq60
 refine WL.fnq hE (hc_) (runs_plain rfl) bd115 rfl rfl rfl ?_
 clear hE hS hc_; rintro e w ⟨cs61, rfl, h62, hn63, hS⟩; refine ⟨_, rfl, ?_⟩; clear a; intro a hE
 refine WL.nil ?_
 refine finG (fn := Tryd.f80) (rs := []) (vs := []) hE rfl trivial ?_
 obtain rfl := Option.some.inj hr
 exact ⟨cs61, rfl, h62, hn63, hS⟩
end Go.Proofs.YtpcebngchmgckaaDoor
