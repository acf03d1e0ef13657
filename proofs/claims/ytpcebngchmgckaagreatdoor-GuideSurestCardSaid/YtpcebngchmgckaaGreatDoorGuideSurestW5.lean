/- The walks of the functions that GuideSurest reaches: each call comes to what its mirror says. The conditions are those of each contract. -/
import Derived.Test.YtpcebngchmgckaaGreatDoorProg
import Derived.Test.YtpcebngchmgckaaGreatDoorFpTight
import Derived.Test.YtpcebngchmgckaaGreatDoorGuideSurestM
import Derived.Test.YtpcebngchmgckaaGreatDoorFpAllX
import Derived.Test.YtpcebngchmgckaaGreatDoorGuideSurestS
import Derived.Test.YtpcebngchmgckaaGreatDoorFpMapS
import Derived.Test.YtpcebngchmgckaaGreatDoorFpFld
import Derived.Test.YtpcebngchmgckaaGreatDoorFpMapG
import Derived.Test.YtpcebngchmgckaaGreatDoorFpMapV
import Derived.Test.YtpcebngchmgckaaGreatDoorFpMaps
import Derived.Test.YtpcebngchmgckaaGreatDoorFpOrd
import Derived.Test.YtpcebngchmgckaaGreatDoorFpRf
import Derived.Test.YtpcebngchmgckaaGreatDoorFpRng
import Derived.Test.YtpcebngchmgckaaGreatDoorGuideSurestW4
set_option maxRecDepth 10000
namespace Go.Proofs.YtpcebngchmgckaaGreatDoor
open Go Go.Fp
set_option maxHeartbeats 8000000 in
theorem Fishref2JourneyFault_ok  {w : World} {s : Sg} {R : List HP} {x0 : ApiDay} {a0_0 : Option Addr} {c0_0 : Nat} {a0_1 : Option Addr} {c0_1 : Nat} {x1 : GuideJourney} {a1_0 : Option Addr} {c1_0 : Nat} {x2 : Int} {x3 : Bool} (hS : St w s (R)) (h0_0 : Sl 4 RApiTrain s a0_0 c0_0 x0.Trains) (_h0_1 : Sl 1 (RL 1 (RI .i64)) s a0_1 c0_1 x0.Turns) (h1_0 : Sl 3 RGuideRide s a1_0 c1_0 x1.Rides) {r : Int} (hr : Fishref2JourneyFault x0 x1 x2 x3 = some r) :
  Calls Tryz.prog 86 [.agg [.slice a0_0 x0.Trains.length c0_0, .slice a0_1 x0.Turns.length c0_1].toArray, .agg [.slice a1_0 x1.Rides.length c1_0].toArray, vi x2, .bool x3].toArray w (fun e w => e = .returned (vi r) ∧ St w s (R)) := by
 refine enter Tryz.func86 rfl rfl rfl fun a hE => ?_
 rw [Fishref2JourneyFault] at hr
 refine W.seq (W.region ?_)
 refine WL.box hE hS (runs_plain rfl) rfl rfl rfl ?_; clear hE hS a w; intro b51 a w hE hS
 refine WL.box hE hS (runs_plain rfl) rfl rfl rfl ?_; clear hE hS a w; intro b52 a w hE hS
 refine vp hS hE rfl rfl fun a hE => WL.nil ?_
 refine W.seq ?_
 refine W.seq (W.region (vp hS hE rfl rfl fun a hE => ?_))
 refine WL.fnq hE (Fishref2within_ok hS  rfl (r := Fishref2within x2 0 28800)) (runs_plain rfl) bd51 rfl rfl rfl ?_
 clear hE hS; rintro e w ⟨rfl, hS⟩; refine ⟨_, rfl, ?_⟩; clear a; intro a hE
 refine vp hS hE rfl rfl fun a hE => WL.nil ?_
 refine W.cond hE rfl (fun hc53 => ?_) (fun hc53 => ?_)
 ·replace hr := iteT hc53 hr
  refine W.seq (W.region (vp hS hE rfl rfl fun a hE => WL.nil ?_))
  refine W.ret ?_
  refine finG (fn := Tryz.f86) (rs := [.tmp 8]) (vs := [_]) hE rfl ⟨rfl, trivial⟩ ?_
  obtain rfl := Option.some.inj hr
  replace hS := hS.tail
  replace hS := hS.tail
  exact ⟨rfl, hS⟩
 replace hr := iteF hc53 hr
 refine W.skip ?_
 refine W.seq ?_
 refine W.seq (W.region (vP hS hE (Gives.fld hE rfl fl29_0) rfl fun a hE => ?_))
 refine vP hS hE (Gives.loadB hE 0 rfl rfl rfl ty27) rfl fun a hE => ?_
 refine vP hS hE (Gives.len hE rfl sl27) rfl fun a hE => ?_
 refine WL.fnq hE (Fishref2within_ok hS  rfl (r := Fishref2within ((x1.Rides).length : Int) 1 4)) (runs_plain rfl) bd51 rfl rfl rfl ?_
 clear hE hS; rintro e w ⟨rfl, hS⟩; refine ⟨_, rfl, ?_⟩; clear a; intro a hE
 refine vp hS hE rfl rfl fun a hE => WL.nil ?_
 refine W.cond hE rfl (fun hc54 => ?_) (fun hc54 => ?_)
 ·replace hr := iteT hc54 hr
  refine W.seq (W.region (vp hS hE rfl rfl fun a hE => WL.nil ?_))
  refine W.ret ?_
  refine finG (fn := Tryz.f86) (rs := [.tmp 8]) (vs := [_]) hE rfl ⟨rfl, trivial⟩ ?_
  obtain rfl := Option.some.inj hr
  replace hS := hS.tail
  replace hS := hS.tail
  exact ⟨rfl, hS⟩
 replace hr := iteF hc54 hr
 refine W.skip ?_
 refine W.seq ?_
 refine W.seq (W.region (vP hS hE (Gives.fld hE rfl fl29_0) rfl fun a hE => ?_))
 refine vP hS hE (Gives.loadB hE 0 rfl rfl rfl ty27) rfl fun a hE => ?_
 refine vP hS hE (Gives.len hE rfl sl27) rfl fun a hE => ?_
 refine vp hS hE rfl rfl fun a hE => WL.nil ?_
 obtain ⟨q56, hq55, hr⟩ := bindS hr
 refine W.cut (fun a w => (.next ()) = q56 ∧ Rep a 125 [] ∧ St w s (pc b52 #[.slice a1_0 x1.Rides.length c1_0] 29 :: pc b51 #[.slice a0_0 x0.Trains.length c0_0, .slice a0_1 x0.Turns.length c0_1] 25 :: R)) ?_ ?_
 ·refine W.block ?_
  refine W.loop (fun m a w => ∃ (rest59 : List GuideRide) (k57 : Nat), rest59.length = m ∧ x1.Rides.drop k57 = rest59 ∧ Fishref2JourneyFault.loop1 x0 x1 x2 x3 rest59 k57 = some q56 ∧ Rep a 125 [(2, vi x2), (3, .bool x3), (4, pp b51), (5, pp b52), (23, .slice a1_0 x1.Rides.length c1_0), (24, vi ((x1.Rides).length : Int)), (25, vi ((k57 : Nat) : Int))] ∧ St w s (pc b52 #[.slice a1_0 x1.Rides.length c1_0] 29 :: pc b51 #[.slice a0_0 x0.Trains.length c0_0, .slice a0_1 x0.Turns.length c0_1] 25 :: R)) (m := x1.Rides.length) ⟨x1.Rides, 0, rfl, rfl, hq55, hE.pick _ ⟨rfl, rfl, rfl, rfl, rfl, rfl, rfl, trivial⟩, hS⟩ ?_
  clear hE hS a w hq55; rintro m63 a w ⟨rest59, k57, rfl, hd60, hq55, hE, hS⟩
  refine W.gen fun K66 hK66 => ?_
  rcases rest59 with _ | ⟨x58, rest59⟩
  ·have hlt61 := drop_nil hd60
   refine W.seq (W.region (vp hS hE rfl rfl fun a hE => WL.nil ?_))
   refine W.seq ?_
   refine W.condF hE rfl (decide_eq_false (by omega)) ?_
   subst hK66
   refine W.exit rfl ?_
   exact ⟨Option.some.inj hq55, hE.pick _ trivial, hS⟩
  obtain ⟨hlt61, hx62, hd60⟩ := drop_cons hd60
  rw [Fishref2JourneyFault.loop1] at hq55
  refine W.seq (W.region (vp hS hE rfl rfl fun a hE => WL.nil ?_))
  refine W.seq ?_
  refine W.condT hE rfl (decide_eq_true (by omega)) ?_
  refine W.skip ?_
  refine W.seq ?_
  refine W.block ?_
  refine W.seq (W.region (vp hS hE rfl rfl fun a hE => ?_))
  obtain ⟨cs67, hl68, hR69, hat70⟩ := h1_0.at hx62
  subst hR69
  refine vP hS hE (Gives.idx hE k57 rfl rfl sl27 rfl hlt61 (h1_0.aok hlt61)) rfl fun a hE => ?_
  refine vP hS hE (Gives.loadA hE rfl (fun w h => hat70 w _ h) ty95) rfl fun a hE => ?_
  refine WL.alloc hE hS (runs_plain rfl) zr95 rfl ?_; clear hE hS a w; intro b71 a w hE hS
  refine vp hS hE rfl rfl fun a hE => ?_
  refine WL.storeI hE hS 0 rfl (GuideRide.cells x58) (runs_plain rfl) rfl rfl rfl ty95 rfl rfl rfl rfl ?_; clear hE hS a w; intro a w hE hS
  refine WL.nil ?_
  refine W.seq ?_
  refine W.seq ?_
  obtain ⟨q73, hq72, hq55⟩ := bndS hq55
  refine W.cut (fun a w => ∃ (q76 : Bool), q76 = q73 ∧ Rep a 125 [(2, vi x2), (3, .bool x3), (4, pp b51), (5, pp b52), (9, vi ((k57 : Nat) : Int)), (10, pp b71), (23, .slice a1_0 x1.Rides.length c1_0), (24, vi ((x1.Rides).length : Int)), (25, vi ((k57 : Nat) : Int)), (40, .bool q76)] ∧ St w s (pc b71 (GuideRide.cells x58).toArray 95 :: pc b52 #[.slice a1_0 x1.Rides.length c1_0] 29 :: pc b51 #[.slice a0_0 x0.Trains.length c0_0, .slice a0_1 x0.Turns.length c0_1] 25 :: R)) ?_ ?_
  ·refine W.gen fun K77 hK77 => ?_
   refine W.region ?_
   refine vP hS hE (Gives.fld hE rfl fl95_0) rfl fun a hE => ?_
   refine vP hS hE (Gives.loadB hE 0 rfl rfl rfl ty3) rfl fun a hE => ?_
   refine v2 hS hE rfl rfl rfl rfl fun a hE => ?_
   rcases Bool.eq_false_or_eq_true (decide (x58.Train < 0)) with hg78 | hg78
   ·replace hq72 := iteT hg78 hq72
    refine nO hE rfl rfl rfl (by rw [hg78]; decide) rfl fun a hE => ?_
    refine nO hE rfl rfl rfl (by rw [hg78]; decide) rfl fun a hE => ?_
    refine nO hE rfl rfl rfl (by rw [hg78]; decide) rfl fun a hE => ?_
    refine nO hE rfl rfl rfl (by rw [hg78]; decide) rfl fun a hE => ?_
    refine nO hE rfl rfl rfl (by rw [hg78]; decide) rfl fun a hE => ?_
    refine nO hE rfl rfl rfl (by rw [hg78]; decide) rfl fun a hE => ?_
    refine vP hS hE (Gives.pickT hE rfl hg78 rfl) rfl fun a hE => WL.nil ?_
    subst hK77
    exact ⟨true, hq72, hE.pick _ ⟨rfl, rfl, rfl, rfl, rfl, rfl, rfl, rfl, rfl, rfl, trivial⟩, hS⟩
   replace hq72 := iteF hg78 hq72
   refine WL.vS hS hE (runs_if hE rfl rfl rfl hg78) (Gives.fld hE rfl fl95_0) rfl fun a hE => ?_
   refine WL.vS hS hE (runs_if hE rfl rfl rfl hg78) (Gives.loadB hE 0 rfl rfl rfl ty3) rfl fun a hE => ?_
   refine WL.vS hS hE (runs_if hE rfl rfl rfl hg78) (Gives.fld hE rfl fl25_0) rfl fun a hE => ?_
   refine WL.vS hS hE (runs_if hE rfl rfl rfl hg78) (Gives.loadB hE 2 rfl rfl rfl ty22) rfl fun a hE => ?_
   refine WL.vS hS hE (runs_if hE rfl rfl rfl hg78) (Gives.len hE rfl sl22) rfl fun a hE => ?_
   refine WL.vS hS hE (runs_if hE rfl rfl rfl hg78) (Gives.p hE rfl) rfl fun a hE => ?_
   refine vP hS hE (Gives.pickF hE rfl hg78 rfl) rfl fun a hE => WL.nil ?_
   subst hK77
   exact ⟨decide (x58.Train ≥ ((x0.Trains).length : Int)), hq72, hE.pick _ ⟨rfl, rfl, rfl, rfl, rfl, rfl, rfl, rfl, rfl, rfl, trivial⟩, hS⟩
  clear hE hS a w; rintro a w ⟨q76, rfl, hE, hS⟩
  refine W.cond hE rfl (fun hc79 => ?_) (fun hc79 => ?_)
  ·replace hq55 := iteT hc79 hq55
   refine W.seq (W.region (vp hS hE rfl rfl fun a hE => WL.nil ?_))
   refine W.ret ?_
   subst hK66
   rw [← Option.some.inj hq55] at hr
   dsimp only at hr
   refine finG (fn := Tryz.f86) (rs := [.tmp 8]) (vs := [_]) hE rfl ⟨rfl, trivial⟩ ?_
   obtain rfl := Option.some.inj hr
   replace hS := hS.tail
   replace hS := hS.tail
   replace hS := hS.tail
   exact ⟨rfl, hS⟩
  replace hq55 := iteF hc79 hq55
  refine W.skip ?_
  refine W.seq (W.region (vP hS hE (Gives.fld hE rfl fl25_0) rfl fun a hE => ?_))
  refine vP hS hE (Gives.loadB hE 2 rfl rfl rfl ty22) rfl fun a hE => ?_
  refine vP hS hE (Gives.fld hE rfl fl95_0) rfl fun a hE => ?_
  refine vP hS hE (Gives.loadB hE 0 rfl rfl rfl ty3) rfl fun a hE => ?_
  obtain ⟨x80, hx81, hq55⟩ := bindS hq55
  obtain ⟨hi82, hlt83, hy84⟩ := gx_some hx81
  obtain ⟨cs85, hl86, hR87, hat88⟩ := h0_0.at hy84
  obtain ⟨a89, c90, a92, c93, rfl, h91, h94⟩ := hR87
  refine vP hS hE (Gives.idx hE (x58.Train).toNat rfl rfl sl22 hi82 hlt83 (h0_0.aok hlt83)) rfl fun a hE => ?_
  refine vP hS hE (Gives.fld hE rfl fl111_2) rfl fun a hE => ?_
  refine vP hS hE (Gives.load1 hE rfl (fun w h => (hat88 w _ h).one rfl) ty109) rfl fun a hE => ?_
  refine vp hS hE rfl rfl fun a hE => WL.nil ?_
  refine W.seq ?_
  refine W.seq ?_
  obtain ⟨q96, hq95, hq55⟩ := bndS hq55
  refine W.cut (fun a w => ∃ (q99 : Bool), q99 = q96 ∧ Rep a 125 [(2, vi x2), (3, .bool x3), (4, pp b51), (5, pp b52), (9, vi ((k57 : Nat) : Int)), (10, pp b71), (11, .slice a89 x80.Stops.length c90), (23, .slice a1_0 x1.Rides.length c1_0), (24, vi ((x1.Rides).length : Int)), (25, vi ((k57 : Nat) : Int)), (69, .bool q99)] ∧ St w s (pc b71 (GuideRide.cells x58).toArray 95 :: pc b52 #[.slice a1_0 x1.Rides.length c1_0] 29 :: pc b51 #[.slice a0_0 x0.Trains.length c0_0, .slice a0_1 x0.Turns.length c0_1] 25 :: R)) ?_ ?_
  ·refine W.gen fun K100 hK100 => ?_
   refine W.region ?_
   refine vP hS hE (Gives.fld hE rfl fl95_1) rfl fun a hE => ?_
   refine vP hS hE (Gives.loadB hE 0 rfl rfl rfl ty3) rfl fun a hE => ?_
   refine v2 hS hE rfl rfl rfl rfl fun a hE => ?_
   rcases Bool.eq_false_or_eq_true (decide (x58.On < 0)) with hg101 | hg101
   ·replace hq95 := iteT hg101 hq95
    refine nO hE rfl rfl rfl (by rw [hg101]; decide) rfl fun a hE => ?_
    refine nO hE rfl rfl rfl (by rw [hg101]; decide) rfl fun a hE => ?_
    refine nO hE rfl rfl rfl (by rw [hg101]; decide) rfl fun a hE => ?_
    refine nO hE rfl rfl rfl (by rw [hg101]; decide) rfl fun a hE => ?_
    refine nO hE rfl rfl rfl (by rw [hg101]; decide) rfl fun a hE => ?_
    refine vP hS hE (Gives.pickT hE rfl hg101 rfl) rfl fun a hE => ?_
    refine vp hS hE rfl rfl fun a hE => ?_
    refine nO hE rfl rfl rfl (by decide) rfl fun a hE => ?_
    refine nO hE rfl rfl rfl (by decide) rfl fun a hE => ?_
    refine nO hE rfl rfl rfl (by decide) rfl fun a hE => ?_
    refine vP hS hE (Gives.pickT hE rfl rfl rfl) rfl fun a hE => ?_
    refine vp hS hE rfl rfl fun a hE => ?_
    refine nO hE rfl rfl rfl (by decide) rfl fun a hE => ?_
    refine nO hE rfl rfl rfl (by decide) rfl fun a hE => ?_
    refine nO hE rfl rfl rfl (by decide) rfl fun a hE => ?_
    refine nO hE rfl rfl rfl (by decide) rfl fun a hE => ?_
    refine nO hE rfl rfl rfl (by decide) rfl fun a hE => ?_
    refine vP hS hE (Gives.pickT hE rfl rfl rfl) rfl fun a hE => WL.nil ?_
    subst hK100
    exact ⟨true, hq95, hE.pick _ ⟨rfl, rfl, rfl, rfl, rfl, rfl, rfl, rfl, rfl, rfl, rfl, trivial⟩, hS⟩
   replace hq95 := iteF hg101 hq95
   refine WL.vS hS hE (runs_if hE rfl rfl rfl hg101) (Gives.fld hE rfl fl95_1) rfl fun a hE => ?_
   refine WL.vS hS hE (runs_if hE rfl rfl rfl hg101) (Gives.loadB hE 0 rfl rfl rfl ty3) rfl fun a hE => ?_
   refine WL.vS hS hE (runs_if hE rfl rfl rfl hg101) (Gives.p hE rfl) rfl fun a hE => ?_
   refine WL.vS hS hE (runs_if hE rfl rfl rfl hg101) (Gives.len hE rfl sl109) rfl fun a hE => ?_
   refine WL.vS hS hE (runs_if hE rfl rfl rfl hg101) (Gives.p hE rfl) rfl fun a hE => ?_
   refine vP hS hE (Gives.pickF hE rfl hg101 rfl) rfl fun a hE => ?_
   refine vp hS hE rfl rfl fun a hE => ?_
   rcases Bool.eq_false_or_eq_true (decide (x58.On ≥ ((x80.Stops).length : Int))) with hg102 | hg102
   ·replace hq95 := iteT hg102 hq95
    refine nO hE rfl rfl rfl (by rw [hg102]; decide) rfl fun a hE => ?_
    refine nO hE rfl rfl rfl (by rw [hg102]; decide) rfl fun a hE => ?_
    refine nO hE rfl rfl rfl (by rw [hg102]; decide) rfl fun a hE => ?_
    refine vP hS hE (Gives.pickT hE rfl hg102 rfl) rfl fun a hE => ?_
    refine vp hS hE rfl rfl fun a hE => ?_
    refine nO hE rfl rfl rfl (by decide) rfl fun a hE => ?_
    refine nO hE rfl rfl rfl (by decide) rfl fun a hE => ?_
    refine nO hE rfl rfl rfl (by decide) rfl fun a hE => ?_
    refine nO hE rfl rfl rfl (by decide) rfl fun a hE => ?_
    refine nO hE rfl rfl rfl (by decide) rfl fun a hE => ?_
    refine vP hS hE (Gives.pickT hE rfl rfl rfl) rfl fun a hE => WL.nil ?_
    subst hK100
    exact ⟨true, hq95, hE.pick _ ⟨rfl, rfl, rfl, rfl, rfl, rfl, rfl, rfl, rfl, rfl, rfl, trivial⟩, hS⟩
   replace hq95 := iteF hg102 hq95
   refine WL.vS hS hE (runs_if hE rfl rfl rfl hg102) (Gives.fld hE rfl fl95_2) rfl fun a hE => ?_
   refine WL.vS hS hE (runs_if hE rfl rfl rfl hg102) (Gives.loadB hE 0 rfl rfl rfl ty3) rfl fun a hE => ?_
   refine WL.vS hS hE (runs_if hE rfl rfl rfl hg102) (Gives.p hE rfl) rfl fun a hE => ?_
   refine vP hS hE (Gives.pickF hE rfl hg102 rfl) rfl fun a hE => ?_
   refine vp hS hE rfl rfl fun a hE => ?_
   rcases Bool.eq_false_or_eq_true (decide (x58.Off < 0)) with hg103 | hg103
   ·replace hq95 := iteT hg103 hq95
    refine nO hE rfl rfl rfl (by rw [hg103]; decide) rfl fun a hE => ?_
    refine nO hE rfl rfl rfl (by rw [hg103]; decide) rfl fun a hE => ?_
    refine nO hE rfl rfl rfl (by rw [hg103]; decide) rfl fun a hE => ?_
    refine nO hE rfl rfl rfl (by rw [hg103]; decide) rfl fun a hE => ?_
    refine nO hE rfl rfl rfl (by rw [hg103]; decide) rfl fun a hE => ?_
    refine vP hS hE (Gives.pickT hE rfl hg103 rfl) rfl fun a hE => WL.nil ?_
    subst hK100
    exact ⟨true, hq95, hE.pick _ ⟨rfl, rfl, rfl, rfl, rfl, rfl, rfl, rfl, rfl, rfl, rfl, trivial⟩, hS⟩
   replace hq95 := iteF hg103 hq95
   refine WL.vS hS hE (runs_if hE rfl rfl rfl hg103) (Gives.fld hE rfl fl95_2) rfl fun a hE => ?_
   refine WL.vS hS hE (runs_if hE rfl rfl rfl hg103) (Gives.loadB hE 0 rfl rfl rfl ty3) rfl fun a hE => ?_
   refine WL.vS hS hE (runs_if hE rfl rfl rfl hg103) (Gives.p hE rfl) rfl fun a hE => ?_
   refine WL.vS hS hE (runs_if hE rfl rfl rfl hg103) (Gives.len hE rfl sl109) rfl fun a hE => ?_
   refine WL.vS hS hE (runs_if hE rfl rfl rfl hg103) (Gives.p hE rfl) rfl fun a hE => ?_
   refine vP hS hE (Gives.pickF hE rfl hg103 rfl) rfl fun a hE => WL.nil ?_
   subst hK100
   exact ⟨decide (x58.Off ≥ ((x80.Stops).length : Int)), hq95, hE.pick _ ⟨rfl, rfl, rfl, rfl, rfl, rfl, rfl, rfl, rfl, rfl, rfl, trivial⟩, hS⟩
  clear hE hS a w; rintro a w ⟨q99, rfl, hE, hS⟩
  refine W.cond hE rfl (fun hc104 => ?_) (fun hc104 => ?_)
  ·replace hq55 := iteT hc104 hq55
   refine W.seq (W.region (vp hS hE rfl rfl fun a hE => WL.nil ?_))
   refine W.ret ?_
   subst hK66
   rw [← Option.some.inj hq55] at hr
   dsimp only at hr
   refine finG (fn := Tryz.f86) (rs := [.tmp 8]) (vs := [_]) hE rfl ⟨rfl, trivial⟩ ?_
   obtain rfl := Option.some.inj hr
   replace hS := hS.tail
   replace hS := hS.tail
   replace hS := hS.tail
   exact ⟨rfl, hS⟩
  replace hq55 := iteF hc104 hq55
  refine W.skip ?_
  refine W.seq ?_
  refine W.seq (W.region (vP hS hE (Gives.fld hE rfl fl95_1) rfl fun a hE => ?_))
  refine vP hS hE (Gives.loadB hE 0 rfl rfl rfl ty3) rfl fun a hE => ?_
  refine vP hS hE (Gives.fld hE rfl fl95_2) rfl fun a hE => ?_
  refine vP hS hE (Gives.loadB hE 0 rfl rfl rfl ty3) rfl fun a hE => ?_
  refine vp hS hE rfl rfl fun a hE => WL.nil ?_
  refine W.cond hE rfl (fun hc105 => ?_) (fun hc105 => ?_)
  ·replace hq55 := iteT hc105 hq55
   refine W.seq (W.region (vp hS hE rfl rfl fun a hE => WL.nil ?_))
   refine W.ret ?_
   subst hK66
   rw [← Option.some.inj hq55] at hr
   dsimp only at hr
   refine finG (fn := Tryz.f86) (rs := [.tmp 8]) (vs := [_]) hE rfl ⟨rfl, trivial⟩ ?_
   obtain rfl := Option.some.inj hr
   replace hS := hS.tail
   replace hS := hS.tail
   replace hS := hS.tail
   exact ⟨rfl, hS⟩
  replace hq55 := iteF hc105 hq55
  refine W.skip ?_
  refine W.seq ?_
  refine W.seq (W.region (v2 hS hE rfl rfl rfl rfl fun a hE => WL.nil ?_))
  refine W.cond hE rfl (fun hc106 => ?_) (fun hc106 => ?_)
  ·replace hq55 := iteT hc106 hq55
   refine W.exit rfl ?_
   refine W.region ?_
   refine vP hS hE (Gives.inc hE rfl (by have := h1_0.small; omega)) rfl fun a hE => ?_
   refine vp hS hE rfl rfl fun a hE => WL.nil ?_
   replace hS := hS.tail
   subst hK66
   exact ⟨rest59.length, Nat.lt_succ_self _, rest59, k57 + 1, rfl, hd60, hq55, hE.pick _ ⟨rfl, rfl, rfl, rfl, rfl, rfl, rfl, trivial⟩, hS⟩
  replace hq55 := iteF hc106 hq55
  refine W.skip ?_
  refine W.seq (W.region (vP hS hE (Gives.fld hE rfl fl29_0) rfl fun a hE => ?_))
  refine vP hS hE (Gives.loadB hE 1 rfl rfl rfl ty27) rfl fun a hE => ?_
  refine v2 hS hE rfl rfl rfl rfl fun a hE => ?_
  obtain ⟨x107, hx108, hq55⟩ := bindS hq55
  obtain ⟨hi109, hlt110, hy111⟩ := gx_some hx108
  obtain ⟨cs112, hl113, hR114, hat115⟩ := h1_0.at hy111
  subst hR114
  refine vP hS hE (Gives.idx hE (w64 (((k57 : Nat) : Int) - 1)).toNat rfl rfl sl27 hi109 hlt110 (h1_0.aok hlt110)) rfl fun a hE => ?_
  refine vP hS hE (Gives.loadA hE rfl (fun w h => hat115 w _ h) ty95) rfl fun a hE => ?_
  refine WL.alloc hE hS (runs_plain rfl) zr95 rfl ?_; clear hE hS a w; intro b116 a w hE hS
  refine WL.storeI hE hS 0 rfl (GuideRide.cells x107) (runs_plain rfl) rfl rfl rfl ty95 rfl rfl rfl rfl ?_; clear hE hS a w; intro a w hE hS
  refine WL.nil ?_
  refine W.seq ?_
  refine W.gen fun K117 hK117 => ?_
  refine W.regionE (dup (fun w => St w s (pc b116 (GuideRide.cells x107).toArray 95 :: pc b71 (GuideRide.cells x58).toArray 95 :: pc b52 #[.slice a1_0 x1.Rides.length c1_0] 29 :: pc b51 #[.slice a0_0 x0.Trains.length c0_0, .slice a0_1 x0.Turns.length c0_1] 25 :: R))) (fun b i => cond b ([0, 1, 2, 3, 4, 5, 6, 7, 8, 9, 10, 11, 12].contains i) ([0, 1, 2, 3, 4, 5, 6, 7, 8, 9, 10, 11, 12].contains i)) mixed ?_
  replace hS := hS.drew
  refine tP (i := 0) hE rfl (by kernel_rfl) (Gives.fld hE rfl fl25_0) rfl hS hS fun a hE => ?_
  refine tT (i := 1) true rfl hE rfl (by kernel_rfl) (Gives.loadB hE 3 rfl rfl rfl ty22) rfl hS hS fun a hE => ?_
  refine tP (i := 2) hE rfl (by kernel_rfl) (Gives.fld hE rfl fl95_0) rfl hS hS fun a hE => ?_
  refine tT (i := 3) true rfl hE rfl (by kernel_rfl) (Gives.loadB hE 0 rfl rfl rfl ty3) rfl hS hS fun a hE => ?_
  obtain ⟨x118, hx119, hq55⟩ := bindS hq55
  obtain ⟨hi120, hlt121, hy122⟩ := gx_some hx119
  obtain ⟨cs123, hl124, hR125, hat126⟩ := h0_0.at hy122
  obtain ⟨a127, c128, a130, c131, rfl, h129, h132⟩ := hR125
  refine tP (i := 4) hE rfl (by kernel_rfl) (Gives.idx hE (x107.Train).toNat rfl rfl sl22 hi120 hlt121 (h0_0.aok hlt121)) rfl hS hS fun a hE => ?_
  refine tP (i := 5) hE rfl (by kernel_rfl) (Gives.fld hE rfl fl111_2) rfl hS hS fun a hE => ?_
  refine tT (i := 6) true rfl hE rfl (by kernel_rfl) (Gives.load1 hE rfl (fun w h => (hat126 w _ h).one rfl) ty109) rfl hS hS fun a hE => ?_
  refine tP (i := 7) hE rfl (by kernel_rfl) (Gives.fld hE rfl fl95_2) rfl hS hS fun a hE => ?_
  refine tT (i := 8) true rfl hE rfl (by kernel_rfl) (Gives.loadB hE 0 rfl rfl rfl ty3) rfl hS hS fun a hE => ?_
  obtain ⟨x133, hx134, hq55⟩ := bindS hq55
  obtain ⟨hi135, hlt136, hy137⟩ := gx_some hx134
  obtain ⟨cs138, hl139, hR140, hat141⟩ := h129.at hy137
  subst hR140
  refine tP (i := 9) hE rfl (by kernel_rfl) (Gives.idx hE (x107.Off).toNat rfl rfl sl109 hi135 hlt136 (h129.aok hlt136)) rfl hS hS fun a hE => ?_
  refine tT (i := 10) true rfl hE rfl (by kernel_rfl) (Gives.loadA hE rfl (fun w h => hat141 w _ h) ty99) rfl hS hS fun a hE => ?_
  refine Rg.one (i := 11) true true rfl (by kernel_rfl) (by kernel_rfl) (by kernel_rfl) ?_
  refine WL.alloc hE hS (runs_plain rfl) zr99 rfl ?_; clear hE hS a w; intro b142 a w hE hS
  refine WL.nil ?_
  refine ⟨⟨fun _ => (hS.tail), fun _ => (hS.tail)⟩, ?_⟩
  refine Rg.one (i := 12) true true rfl (by kernel_rfl) (by kernel_rfl) (by kernel_rfl) ?_
  refine WL.storeI hE hS 0 rfl (ApiStop.cells x133) (runs_plain rfl) rfl rfl rfl ty99 rfl rfl rfl rfl ?_; clear hE hS a w; intro a w hE hS
  refine WL.nil ?_
  refine ⟨⟨fun _ => (hS.tail), fun _ => (hS.tail)⟩, ?_⟩
  refine Rg.done (by kernel_rfl) ?_
  subst hK117
  refine W.seq ?_
  refine W.seq ?_
  obtain ⟨q144, hq143, hq55⟩ := bindS hq55
  refine W.cut (fun a w => ∃ (q147 : Bool), q147 = q144 ∧ Rep a 125 [(2, vi x2), (3, .bool x3), (4, pp b51), (5, pp b52), (10, pp b71), (11, .slice a89 x80.Stops.length c90), (13, pp b142), (23, .slice a1_0 x1.Rides.length c1_0), (24, vi ((x1.Rides).length : Int)), (25, vi ((k57 : Nat) : Int)), (109, .bool q147)] ∧ St w s (pc b142 (ApiStop.cells x133).toArray 99 :: pc b116 (GuideRide.cells x107).toArray 95 :: pc b71 (GuideRide.cells x58).toArray 95 :: pc b52 #[.slice a1_0 x1.Rides.length c1_0] 29 :: pc b51 #[.slice a0_0 x0.Trains.length c0_0, .slice a0_1 x0.Turns.length c0_1] 25 :: R)) ?_ ?_
  ·refine W.gen fun K148 hK148 => ?_
   refine W.regionQ (C := fun w => St w s (pc b142 (ApiStop.cells x133).toArray 99 :: pc b116 (GuideRide.cells x107).toArray 95 :: pc b71 (GuideRide.cells x58).toArray 95 :: pc b52 #[.slice a1_0 x1.Rides.length c1_0] 29 :: pc b51 #[.slice a0_0 x0.Trains.length c0_0, .slice a0_1 x0.Turns.length c0_1] 25 :: R)) mixed (by kernel_rfl) hS.drew ?_
   refine qP hE (Gives.fld hE rfl fl95_0) rfl fun a hE => ?_
   refine qP hE (Gives.loadB hE 1 rfl rfl rfl ty3) rfl fun a hE => ?_
   refine qP hE (Gives.fld hE rfl fl95_0) rfl fun a hE => ?_
   refine qP hE (Gives.loadB hE 2 rfl rfl rfl ty3) rfl fun a hE => ?_
   refine qP hE (Gives.p hE rfl) rfl fun a hE => ?_
   refine qP hE (Gives.p hE rfl) rfl fun a hE => ?_
   rcases Bool.eq_false_or_eq_true (x107.Train == x58.Train) with hg149 | hg149
   ·replace hq143 := iteT hg149 hq143
    refine QL.no hE (runs_not hE rfl rfl rfl (by rw [hg149]; decide)) rfl fun a hE => ?_
    refine QL.no hE (runs_not hE rfl rfl rfl (by rw [hg149]; decide)) rfl fun a hE => ?_
    refine QL.no hE (runs_not hE rfl rfl rfl (by rw [hg149]; decide)) rfl fun a hE => ?_
    refine QL.no hE (runs_not hE rfl rfl rfl (by rw [hg149]; decide)) rfl fun a hE => ?_
    refine QL.no hE (runs_not hE rfl rfl rfl (by rw [hg149]; decide)) rfl fun a hE => ?_
    refine QL.no hE (runs_not hE rfl rfl rfl (by rw [hg149]; decide)) rfl fun a hE => ?_
    refine QL.no hE (runs_not hE rfl rfl rfl (by rw [hg149]; decide)) rfl fun a hE => ?_
    refine QL.no hE (runs_not hE rfl rfl rfl (by rw [hg149]; decide)) rfl fun a hE => ?_
    refine QL.no hE (runs_not hE rfl rfl rfl (by rw [hg149]; decide)) rfl fun a hE => ?_
    refine qP hE (Gives.pickT hE rfl hg149 rfl) rfl fun a hE => ?_
    refine QL.nil ?_; clear hS w; intro w hS
    subst hK148
    exact ⟨true, Option.some.inj hq143, hE.pick _ ⟨rfl, rfl, rfl, rfl, rfl, rfl, rfl, rfl, rfl, rfl, rfl, trivial⟩, hS⟩
   replace hq143 := iteF hg149 hq143
   refine QL.v hE (runs_if hE rfl rfl rfl hg149) (Gives.p hE rfl) rfl fun a hE => ?_
   refine QL.v hE (runs_if hE rfl rfl rfl hg149) (Gives.fld hE rfl fl95_1) rfl fun a hE => ?_
   refine QL.v hE (runs_if hE rfl rfl rfl hg149) (Gives.loadB hE 2 rfl rfl rfl ty3) rfl fun a hE => ?_
   obtain ⟨x150, hx151, hq143⟩ := bindS hq143
   obtain ⟨hi152, hlt153, hy154⟩ := gx_some hx151
   obtain ⟨cs155, hl156, hR157, hat158⟩ := h91.at hy154
   subst hR157
   refine QL.v hE (runs_if hE rfl rfl rfl hg149) (Gives.idx hE (x58.On).toNat rfl rfl sl109 hi152 hlt153 (h91.aok hlt153)) rfl fun a hE => ?_
   refine QL.v hE (runs_if hE rfl rfl rfl hg149) (Gives.fld hE rfl fl99_0) rfl fun a hE => ?_
   refine QL.v hE (runs_if hE rfl rfl rfl hg149) (Gives.load1 hE rfl (fun w h => (hat158 w _ h).one rfl) ty3) rfl fun a hE => ?_
   refine QL.v hE (runs_if hE rfl rfl rfl hg149) (Gives.fld hE rfl fl99_0) rfl fun a hE => ?_
   refine QL.v hE (runs_if hE rfl rfl rfl hg149) (Gives.loadB hE 0 rfl rfl rfl ty3) rfl fun a hE => ?_
   refine QL.v hE (runs_if hE rfl rfl rfl hg149) (Gives.p hE rfl) rfl fun a hE => ?_
   refine qP hE (Gives.pickF hE rfl hg149 rfl) rfl fun a hE => ?_
   refine QL.nil ?_; clear hS w; intro w hS
   subst hK148
   exact ⟨(x150.Station != x133.Station), Option.some.inj hq143, hE.pick _ ⟨rfl, rfl, rfl, rfl, rfl, rfl, rfl, rfl, rfl, rfl, rfl, trivial⟩, hS⟩
  clear hE hS a w; rintro a w ⟨q147, rfl, hE, hS⟩
  refine W.cond hE rfl (fun hc159 => ?_) (fun hc159 => ?_)
  ·replace hq55 := iteT hc159 hq55
   refine W.seq (W.region (vp hS hE rfl rfl fun a hE => WL.nil ?_))
   refine W.ret ?_
   subst hK66
   rw [← Option.some.inj hq55] at hr
   dsimp only at hr
   refine finG (fn := Tryz.f86) (rs := [.tmp 8]) (vs := [_]) hE rfl ⟨rfl, trivial⟩ ?_
   obtain rfl := Option.some.inj hr
   replace hS := hS.tail
   replace hS := hS.tail
   replace hS := hS.tail
   replace hS := hS.tail
   replace hS := hS.tail
   exact ⟨rfl, hS⟩
  replace hq55 := iteF hc159 hq55
  refine W.skip ?_
  refine W.seq ?_
  obtain ⟨q161, hq160, hq55⟩ := bindS hq55
  refine W.cut (fun a w => ∃ (q164 : Bool), q164 = q161 ∧ Rep a 125 [(2, vi x2), (3, .bool x3), (4, pp b51), (5, pp b52), (23, .slice a1_0 x1.Rides.length c1_0), (24, vi ((x1.Rides).length : Int)), (25, vi ((k57 : Nat) : Int)), (123, .bool q164)] ∧ St w s (pc b142 (ApiStop.cells x133).toArray 99 :: pc b116 (GuideRide.cells x107).toArray 95 :: pc b71 (GuideRide.cells x58).toArray 95 :: pc b52 #[.slice a1_0 x1.Rides.length c1_0] 29 :: pc b51 #[.slice a0_0 x0.Trains.length c0_0, .slice a0_1 x0.Turns.length c0_1] 25 :: R)) ?_ ?_
  ·refine W.gen fun K165 hK165 => ?_
   refine W.regionQ (C := fun w => St w s (pc b142 (ApiStop.cells x133).toArray 99 :: pc b116 (GuideRide.cells x107).toArray 95 :: pc b71 (GuideRide.cells x58).toArray 95 :: pc b52 #[.slice a1_0 x1.Rides.length c1_0] 29 :: pc b51 #[.slice a0_0 x0.Trains.length c0_0, .slice a0_1 x0.Turns.length c0_1] 25 :: R)) mixed (by kernel_rfl) hS.drew ?_
   refine qP hE (Gives.p hE rfl) rfl fun a hE => ?_
   refine qP hE (Gives.p hE rfl) rfl fun a hE => ?_
   rcases Bool.eq_false_or_eq_true x3 with hg166 | hg166
   ·replace hq160 := iteT hg166 hq160
    refine QL.v hE (runs_if hE rfl rfl rfl hg166) (Gives.p hE rfl) rfl fun a hE => ?_
    refine QL.v hE (runs_if hE rfl rfl rfl hg166) (Gives.fld hE rfl fl95_1) rfl fun a hE => ?_
    refine QL.v hE (runs_if hE rfl rfl rfl hg166) (Gives.loadB hE 2 rfl rfl rfl ty3) rfl fun a hE => ?_
    obtain ⟨x167, hx168, hq160⟩ := bindS hq160
    obtain ⟨hi169, hlt170, hy171⟩ := gx_some hx168
    obtain ⟨cs172, hl173, hR174, hat175⟩ := h91.at hy171
    subst hR174
    refine QL.v hE (runs_if hE rfl rfl rfl hg166) (Gives.idx hE (x58.On).toNat rfl rfl sl109 hi169 hlt170 (h91.aok hlt170)) rfl fun a hE => ?_
    refine QL.v hE (runs_if hE rfl rfl rfl hg166) (Gives.fld hE rfl fl99_3) rfl fun a hE => ?_
    refine QL.v hE (runs_if hE rfl rfl rfl hg166) (Gives.load1 hE rfl (fun w h => (hat175 w _ h).one rfl) ty3) rfl fun a hE => ?_
    refine QL.v hE (runs_if hE rfl rfl rfl hg166) (Gives.fld hE rfl fl99_2) rfl fun a hE => ?_
    refine QL.v hE (runs_if hE rfl rfl rfl hg166) (Gives.loadB hE 0 rfl rfl rfl ty3) rfl fun a hE => ?_
    refine QL.v hE (runs_if hE rfl rfl rfl hg166) (Gives.p hE rfl) rfl fun a hE => ?_
    refine QL.v hE (runs_if hE rfl rfl rfl hg166) (Gives.p hE rfl) rfl fun a hE => ?_
    refine QL.v hE (runs_if hE rfl rfl rfl hg166) (Gives.p hE rfl) rfl fun a hE => ?_
    refine qP hE (Gives.pickT hE rfl hg166 rfl) rfl fun a hE => ?_
    refine QL.nil ?_; clear hS w; intro w hS
    subst hK165
    exact ⟨decide (x167.Dep < (w64 (x133.Arr + x2))), Option.some.inj hq160, hE.pick _ ⟨rfl, rfl, rfl, rfl, rfl, rfl, rfl, rfl, trivial⟩, hS⟩
   replace hq160 := iteF hg166 hq160
   refine QL.no hE (runs_not hE rfl rfl rfl (by rw [hg166]; decide)) rfl fun a hE => ?_
   refine QL.no hE (runs_not hE rfl rfl rfl (by rw [hg166]; decide)) rfl fun a hE => ?_
   refine QL.no hE (runs_not hE rfl rfl rfl (by rw [hg166]; decide)) rfl fun a hE => ?_
   refine QL.no hE (runs_not hE rfl rfl rfl (by rw [hg166]; decide)) rfl fun a hE => ?_
   refine QL.no hE (runs_not hE rfl rfl rfl (by rw [hg166]; decide)) rfl fun a hE => ?_
   refine QL.no hE (runs_not hE rfl rfl rfl (by rw [hg166]; decide)) rfl fun a hE => ?_
   refine QL.no hE (runs_not hE rfl rfl rfl (by rw [hg166]; decide)) rfl fun a hE => ?_
   refine QL.no hE (runs_not hE rfl rfl rfl (by rw [hg166]; decide)) rfl fun a hE => ?_
   refine QL.no hE (runs_not hE rfl rfl rfl (by rw [hg166]; decide)) rfl fun a hE => ?_
   refine QL.no hE (runs_not hE rfl rfl rfl (by rw [hg166]; decide)) rfl fun a hE => ?_
   refine QL.no hE (runs_not hE rfl rfl rfl (by rw [hg166]; decide)) rfl fun a hE => ?_
   refine qP hE (Gives.pickF hE rfl hg166 rfl) rfl fun a hE => ?_
   refine QL.nil ?_; clear hS w; intro w hS
   subst hK165
   exact ⟨false, Option.some.inj hq160, hE.pick _ ⟨rfl, rfl, rfl, rfl, rfl, rfl, rfl, rfl, trivial⟩, hS⟩
  clear hE hS a w; rintro a w ⟨q164, rfl, hE, hS⟩
  refine W.cond hE rfl (fun hc176 => ?_) (fun hc176 => ?_)
  ·replace hq55 := iteT hc176 hq55
   refine W.seq (W.region (vp hS hE rfl rfl fun a hE => WL.nil ?_))
   refine W.ret ?_
   subst hK66
   rw [← Option.some.inj hq55] at hr
   dsimp only at hr
   refine finG (fn := Tryz.f86) (rs := [.tmp 8]) (vs := [_]) hE rfl ⟨rfl, trivial⟩ ?_
   obtain rfl := Option.some.inj hr
   replace hS := hS.tail
   replace hS := hS.tail
   replace hS := hS.tail
   replace hS := hS.tail
   replace hS := hS.tail
   exact ⟨rfl, hS⟩
  replace hq55 := iteF hc176 hq55
  refine W.skip ?_
  refine W.region ?_
  refine vP hS hE (Gives.inc hE rfl (by have := h1_0.small; omega)) rfl fun a hE => ?_
  refine vp hS hE rfl rfl fun a hE => WL.nil ?_
  replace hS := hS.tail
  replace hS := hS.tail
  replace hS := hS.tail
  subst hK66
  exact ⟨rest59.length, Nat.lt_succ_self _, rest59, k57 + 1, rfl, hd60, hq55, hE.pick _ ⟨rfl, rfl, rfl, rfl, rfl, rfl, rfl, trivial⟩, hS⟩
 clear hE hS a w; rintro a w ⟨rfl, hE, hS⟩
 dsimp only at hr
 refine W.seq (W.region (vp hS hE rfl rfl fun a hE => WL.nil ?_))
 refine W.ret ?_
 refine finG (fn := Tryz.f86) (rs := [.tmp 8]) (vs := [_]) hE rfl ⟨rfl, trivial⟩ ?_
 obtain rfl := Option.some.inj hr
 replace hS := hS.tail
 replace hS := hS.tail
 exact ⟨rfl, hS⟩
set_option maxHeartbeats 8000000 in
theorem Fishref2AllOf_1_v1_ok : ∀ {fu : Nat} {w : World} {s : Sg} {R : List HP} {pb0 : Nat} {pb1 : Nat} {pb2 : Nat} {pb3 : Nat} {pb4 : Nat} {pb5 : Nat} {x0 : List GuideRide} {a0 : Option Addr} {c0 : Nat} {y0 : ApiDay} {a_y0_0 : Option Addr} {c_y0_0 : Nat} {a_y0_1 : Option Addr} {c_y0_1 : Nat} {y1 : Int} {y2 : List GuideJourney} {a_v0 : Option Addr} {c_v0 n_v0 : Nat} {cs_v0 : List Value} {y3 : Int} {y4 : Int} (_hS : St w s (pc pb0 #[.slice a_y0_0 y0.Trains.length c_y0_0, .slice a_y0_1 y0.Turns.length c_y0_1] 25 :: pc pb1 #[vi y1] 3 :: pc pb2 #[.slice a_v0 n_v0 c_v0] 64 :: pc pb3 #[vi y3] 3 :: pc pb4 #[vi y4] 3 :: pc pb5 #[.func (.func 103) #[] #[pp pb0, pp pb1, pp pb2, pp pb3, pp pb4, pp pb5]] 102 :: vecC 29 1 a_v0 c_v0 n_v0 cs_v0 :: R)) (_h0 : Sl 3 RGuideRide s a0 c0 x0) (_h_y0_0 : Sl 4 RApiTrain s a_y0_0 c_y0_0 y0.Trains) (_h_y0_1 : Sl 1 (RL 1 (RI .i64)) s a_y0_1 c_y0_1 y0.Turns) (_h_v0 : Ev 1 RGuideJourney s cs_v0 y2) (_hn_v0 : y2.length = n_v0) {r : (List GuideJourney)} (_hr : Fishref2AllOf_1_v1 fu x0 y0 y1 y2 y3 y4 = some r),
  Calls Tryz.prog 103 [.slice a0 x0.length c0, pp pb0, pp pb1, pp pb2, pp pb3, pp pb4, pp pb5].toArray w (fun e w => ∃ (a59 : Option Addr) (c60 : Nat) (n62 : Nat) (cs63 : List Value) (t : Sg), e = .returned (.tuple #[]) ∧ s.Le t ∧ Ev 1 RGuideJourney t cs63 r ∧ r.length = n62 ∧ St w t (pc pb0 #[.slice a_y0_0 y0.Trains.length c_y0_0, .slice a_y0_1 y0.Turns.length c_y0_1] 25 :: pc pb1 #[vi y1] 3 :: pc pb2 #[.slice a59 n62 c60] 64 :: pc pb3 #[vi y3] 3 :: pc pb4 #[vi y4] 3 :: pc pb5 #[.func (.func 103) #[] #[pp pb0, pp pb1, pp pb2, pp pb3, pp pb4, pp pb5]] 102 :: vecC 29 1 a59 c60 n62 cs63 :: R)) := by
 intro fu
 induction fu with
 | zero => intro w s R pb0 pb1 pb2 pb3 pb4 pb5 x0 a0 c0 y0 a_y0_0 c_y0_0 a_y0_1 c_y0_1 y1 y2 a_v0 c_v0 n_v0 cs_v0 y3 y4 hS h0 h_y0_0 h_y0_1 h_v0 hn_v0 r hr; rw [Fishref2AllOf_1_v1] at hr; exact absurd hr (by simp)
 | succ fu ih_Fishref2AllOf_1_v1 =>
  intro w s R pb0 pb1 pb2 pb3 pb4 pb5 x0 a0 c0 y0 a_y0_0 c_y0_0 a_y0_1 c_y0_1 y1 y2 a_v0 c_v0 n_v0 cs_v0 y3 y4 hS h0 h_y0_0 h_y0_1 h_v0 hn_v0 r hr
  rw [Fishref2AllOf_1_v1] at hr
  generalize Fishref2AllOf_1_v1 fu = self_Fishref2AllOf_1_v1 at hr ih_Fishref2AllOf_1_v1
  refine enter Tryz.func103 rfl rfl rfl fun a hE => ?_
  subst hn_v0
  refine W.seq ?_
  refine W.seq (W.region (vp hS hE rfl rfl fun a hE => ?_))
  refine vP hS hE (Gives.len hE rfl sl27) rfl fun a hE => ?_
  refine vp hS hE rfl rfl fun a hE => WL.nil ?_
  obtain ⟨q66, hq65, hr⟩ := bindS hr
  refine W.cut (fun a w => ∃ (q69 : List GuideJourney), ∃ (a70 : Option Addr), ∃ (c71 : Nat), ∃ (n73 : Nat), ∃ (cs74 : List Value), ∃ (s67 : Sg), s.Le s67 ∧ q69 = q66 ∧ Ev 1 RGuideJourney s67 cs74 q69 ∧ q69.length = n73 ∧ Rep a 116 [(0, .slice a0 x0.length c0), (1, pp pb0), (4, pp pb3), (5, pp pb4), (6, pp pb5)] ∧ St w s67 (pc pb0 #[.slice a_y0_0 y0.Trains.length c_y0_0, .slice a_y0_1 y0.Turns.length c_y0_1] 25 :: pc pb1 #[vi y1] 3 :: pc pb2 #[.slice a70 n73 c71] 64 :: pc pb3 #[vi y3] 3 :: pc pb4 #[vi y4] 3 :: pc pb5 #[.func (.func 103) #[] #[pp pb0, pp pb1, pp pb2, pp pb3, pp pb4, pp pb5]] 102 :: vecC 29 1 a70 c71 n73 cs74 :: R)) ?_ ?_
  ·refine W.gen fun K76 hK76 => ?_
   refine W.cond hE rfl (fun hc77 => ?_) (fun hc77 => ?_)
   ·replace hq65 := iteT hc77 hq65
    refine W.seq (W.region (v2 hS hE rfl rfl rfl rfl fun a hE => ?_))
    refine vP hS hE (Gives.len hE rfl sl27) rfl fun a hE => ?_
    refine vp hS hE rfl rfl fun a hE => ?_
    obtain ⟨x78, hx79, hq65⟩ := bindS hq65
    obtain ⟨hi80, hlt81, hy82⟩ := gx_some hx79
    obtain ⟨cs83, hl84, hR85, hat86⟩ := h0.at hy82
    subst hR85
    refine vP hS hE (Gives.idx hE (w64 (((x0).length : Int) - 1)).toNat rfl rfl sl27 hi80 hlt81 (h0.aok hlt81)) rfl fun a hE => ?_
    refine vP hS hE (Gives.loadA hE rfl (fun w h => hat86 w _ h) ty95) rfl fun a hE => ?_
    refine WL.alloc hE hS (runs_plain rfl) zr95 rfl ?_; clear hE hS a w; intro b87 a w hE hS
    refine WL.storeI hE hS 0 rfl (GuideRide.cells x78) (runs_plain rfl) rfl rfl rfl ty95 rfl rfl rfl rfl ?_; clear hE hS a w; intro a w hE hS
    refine WL.nil ?_
    refine W.seq ?_
    refine W.regionQ (C := fun w => St w s (pc b87 (GuideRide.cells x78).toArray 95 :: pc pb0 #[.slice a_y0_0 y0.Trains.length c_y0_0, .slice a_y0_1 y0.Turns.length c_y0_1] 25 :: pc pb1 #[vi y1] 3 :: pc pb2 #[.slice a_v0 y2.length c_v0] 64 :: pc pb3 #[vi y3] 3 :: pc pb4 #[vi y4] 3 :: pc pb5 #[.func (.func 103) #[] #[pp pb0, pp pb1, pp pb2, pp pb3, pp pb4, pp pb5]] 102 :: vecC 29 1 a_v0 c_v0 y2.length cs_v0 :: R)) mixed (by kernel_rfl) hS.drew ?_
    refine qP hE (Gives.fld hE rfl fl25_0) rfl fun a hE => ?_
    refine qP hE (Gives.loadB hE 1 rfl rfl rfl ty22) rfl fun a hE => ?_
    refine qP hE (Gives.fld hE rfl fl95_0) rfl fun a hE => ?_
    refine qP hE (Gives.loadB hE 0 rfl rfl rfl ty3) rfl fun a hE => ?_
    obtain ⟨x88, hx89, hq65⟩ := bindS hq65
    obtain ⟨hi90, hlt91, hy92⟩ := gx_some hx89
    obtain ⟨cs93, hl94, hR95, hat96⟩ := h_y0_0.at hy92
    obtain ⟨a97, c98, a100, c101, rfl, h99, h102⟩ := hR95
    refine qP hE (Gives.idx hE (x78.Train).toNat rfl rfl sl22 hi90 hlt91 (h_y0_0.aok hlt91)) rfl fun a hE => ?_
    refine qP hE (Gives.fld hE rfl fl111_2) rfl fun a hE => ?_
    refine qP hE (Gives.load1 hE rfl (fun w h => (hat96 w _ h).one rfl) ty109) rfl fun a hE => ?_
    refine qP hE (Gives.fld hE rfl fl95_2) rfl fun a hE => ?_
    refine qP hE (Gives.loadB hE 0 rfl rfl rfl ty3) rfl fun a hE => ?_
    obtain ⟨x103, hx104, hq65⟩ := bindS hq65
    obtain ⟨hi105, hlt106, hy107⟩ := gx_some hx104
    obtain ⟨cs108, hl109, hR110, hat111⟩ := h99.at hy107
    subst hR110
    refine qP hE (Gives.idx hE (x78.Off).toNat rfl rfl sl109 hi105 hlt106 (h99.aok hlt106)) rfl fun a hE => ?_
    refine qP hE (Gives.fld hE rfl fl99_0) rfl fun a hE => ?_
    refine qP hE (Gives.load1 hE rfl (fun w h => (hat111 w _ h).one rfl) ty3) rfl fun a hE => ?_
    refine qP hE (Gives.p hE rfl) rfl fun a hE => ?_
    refine QL.nil ?_; clear hS w; intro w hS
    refine W.seq ?_
    obtain ⟨q113, hq112, hq65⟩ := bndS hq65
    refine W.cut (fun a w => ∃ (q116 : Bool), q116 = q113 ∧ Rep a 116 [(0, .slice a0 x0.length c0), (1, pp pb0), (3, pp pb2), (4, pp pb3), (5, pp pb4), (6, pp pb5), (42, .bool q116)] ∧ St w s (pc b87 (GuideRide.cells x78).toArray 95 :: pc pb0 #[.slice a_y0_0 y0.Trains.length c_y0_0, .slice a_y0_1 y0.Turns.length c_y0_1] 25 :: pc pb1 #[vi y1] 3 :: pc pb2 #[.slice a_v0 y2.length c_v0] 64 :: pc pb3 #[vi y3] 3 :: pc pb4 #[vi y4] 3 :: pc pb5 #[.func (.func 103) #[] #[pp pb0, pp pb1, pp pb2, pp pb3, pp pb4, pp pb5]] 102 :: vecC 29 1 a_v0 c_v0 y2.length cs_v0 :: R)) ?_ ?_
    ·refine W.gen fun K117 hK117 => ?_
     refine W.region ?_
     refine vP hS hE (Gives.loadB hE 2 rfl rfl rfl ty3) rfl fun a hE => ?_
     refine v2 hS hE rfl rfl rfl rfl fun a hE => ?_
     rcases Bool.eq_false_or_eq_true (decide (y1 < 0)) with hg118 | hg118
     ·replace hq112 := iteT hg118 hq112
      refine nO hE rfl rfl rfl (by rw [hg118]; decide) rfl fun a hE => ?_
      refine nO hE rfl rfl rfl (by rw [hg118]; decide) rfl fun a hE => ?_
      refine nO hE rfl rfl rfl (by rw [hg118]; decide) rfl fun a hE => ?_
      refine vP hS hE (Gives.pickT hE rfl hg118 rfl) rfl fun a hE => WL.nil ?_
      subst hK117
      exact ⟨true, hq112, hE.pick _ ⟨rfl, rfl, rfl, rfl, rfl, rfl, rfl, trivial⟩, hS⟩
     replace hq112 := iteF hg118 hq112
     refine WL.vS hS hE (runs_if hE rfl rfl rfl hg118) (Gives.p hE rfl) rfl fun a hE => ?_
     refine WL.vS hS hE (runs_if hE rfl rfl rfl hg118) (Gives.loadB hE 2 rfl rfl rfl ty3) rfl fun a hE => ?_
     refine WL.vS hS hE (runs_if hE rfl rfl rfl hg118) (Gives.p hE rfl) rfl fun a hE => ?_
     refine vP hS hE (Gives.pickF hE rfl hg118 rfl) rfl fun a hE => WL.nil ?_
     subst hK117
     exact ⟨(x103.Station == y1), hq112, hE.pick _ ⟨rfl, rfl, rfl, rfl, rfl, rfl, rfl, trivial⟩, hS⟩
    clear hE hS a w; rintro a w ⟨q116, rfl, hE, hS⟩
    obtain ⟨q120, hq119, hq65⟩ := bindS hq65
    refine W.cut (fun a w => ∃ (q123 : List GuideJourney), ∃ (a124 : Option Addr), ∃ (c125 : Nat), ∃ (n127 : Nat), ∃ (cs128 : List Value), ∃ (s121 : Sg), s.Le s121 ∧ q123 = q120 ∧ Ev 1 RGuideJourney s121 cs128 q123 ∧ q123.length = n127 ∧ Rep a 116 [(0, .slice a0 x0.length c0), (1, pp pb0), (4, pp pb3), (5, pp pb4), (6, pp pb5)] ∧ St w s121 (pc b87 (GuideRide.cells x78).toArray 95 :: pc pb0 #[.slice a_y0_0 y0.Trains.length c_y0_0, .slice a_y0_1 y0.Turns.length c_y0_1] 25 :: pc pb1 #[vi y1] 3 :: pc pb2 #[.slice a124 n127 c125] 64 :: pc pb3 #[vi y3] 3 :: pc pb4 #[vi y4] 3 :: pc pb5 #[.func (.func 103) #[] #[pp pb0, pp pb1, pp pb2, pp pb3, pp pb4, pp pb5]] 102 :: vecC 29 1 a124 c125 n127 cs128 :: R)) ?_ ?_
    ·refine W.gen fun K130 hK130 => ?_
     refine W.cond hE rfl (fun hc131 => ?_) (fun hc131 => ?_)
     ·replace hq119 := iteT hc131 hq119
      refine W.gen fun K132 hK132 => ?_
      refine W.regionE (sel (fun w => St w s (pc b87 (GuideRide.cells x78).toArray 95 :: pc pb0 #[.slice a_y0_0 y0.Trains.length c_y0_0, .slice a_y0_1 y0.Turns.length c_y0_1] 25 :: pc pb1 #[vi y1] 3 :: pc pb2 #[.slice a_v0 y2.length c_v0] 64 :: pc pb3 #[vi y3] 3 :: pc pb4 #[vi y4] 3 :: pc pb5 #[.func (.func 103) #[] #[pp pb0, pp pb1, pp pb2, pp pb3, pp pb4, pp pb5]] 102 :: vecC 29 1 a_v0 c_v0 y2.length cs_v0 :: R)) (fun w => St w s (pc b87 (GuideRide.cells x78).toArray 95 :: pc pb0 #[.slice a_y0_0 y0.Trains.length c_y0_0, .slice a_y0_1 y0.Turns.length c_y0_1] 25 :: pc pb1 #[vi y1] 3 :: pc pb2 #[.slice a_v0 y2.length c_v0] 64 :: pc pb3 #[vi y3] 3 :: pc pb4 #[vi y4] 3 :: pc pb5 #[.func (.func 103) #[] #[pp pb0, pp pb1, pp pb2, pp pb3, pp pb4, pp pb5]] 102 :: R))) (fun b i => cond b ([0, 1, 2, 3, 4].contains i) ([0, 1, 2, 3, 4, 5].contains i)) mixed ?_
      replace hS := hS.drew
      refine tT (i := 0) true rfl hE rfl (by kernel_rfl) (Gives.loadB hE 3 rfl rfl rfl ty64) rfl hS (hS.dropAt 7) fun a hE => ?_
      refine tP (i := 1) hE rfl (by kernel_rfl) (Gives.p hE rfl) rfl hS (hS.dropAt 7) fun a hE => ?_
      refine Rg.one (i := 2) true true rfl (by kernel_rfl) (by kernel_rfl) (by kernel_rfl) ?_
      obtain ⟨q133, hq134, hq119⟩ := bindS hq119
      have hc_ := SlicesCloneLguideRide_ok hS h0 hq134
      refine WL.fnq hE (hc_) (runs_plain rfl) bd48 rfl rfl rfl ?_
      clear hE hS hc_; rintro e w ⟨a135, c136, n137, cs138, rfl, h139, rfl, hS⟩; refine ⟨_, rfl, ?_⟩; clear a; intro a hE
      refine WL.nil ?_
      refine ⟨⟨fun _ => (hS.tail), fun _ => ((hS.tail).dropAt 7)⟩, ?_⟩
      refine tP (i := 3) hE rfl (by kernel_rfl) (Gives.build hE (vs := [(0, .slice a135 q133.length c136)]) [.slice a135 q133.length c136] rfl (by kernel_rfl)) rfl (hS.tail) ((hS.tail).dropAt 7) fun a hE => ?_
      refine Rg.one (i := 4) true true rfl (by kernel_rfl) (by kernel_rfl) (by kernel_rfl) ?_
      have hF := hS.fixD RGuideRide.mono 0 rfl h139 rfl; clear hS; obtain ⟨s141, hle142, hS, h143⟩ := hF
      replace h0 := Sl.mono RGuideRide.mono hle142 h0
      replace h_y0_0 := Sl.mono RApiTrain.mono hle142 h_y0_0
      replace h_y0_1 := Sl.mono (RL.mono RI.mono) hle142 h_y0_1
      replace h_v0 := Ev.mono RGuideJourney.mono hle142 h_v0
      refine WL.lit hE hS (e := 29) (es := 1) (vs := [(0, .agg [.slice a135 q133.length c136].toArray)]) (cs := [.slice a135 q133.length c136]) (runs_plain rfl) rfl (by kernel_rfl) rfl ?_; clear hE hS a w; intro b144 a w hE hS
      refine WL.nil ?_
      refine ⟨⟨fun _ => (St.down hle142 (hS.tail)), fun _ => (St.down hle142 ((hS.tail).dropAt 7))⟩, ?_⟩
      refine Rg.one (i := 5) false true rfl (by kernel_rfl) (by kernel_rfl) (by kernel_rfl) ?_
      obtain ⟨x145, hx146, hq119⟩ := bindS hq119
      refine WL.appD hE hS 7 (m := 1) (runs_plain rfl) rfl rfl rfl ap64 rfl h_v0 (rfl) (xs := [(GuideJourney.mk q133)]) (Ev.cons (c1 := [.slice a135 q133.length c136]) ⟨_, _, rfl, h143⟩ rfl (Ev.nil)) rfl rfl hx146 rfl ?_; clear hE hS a w; intro a147 c148 cs149 a w h150 hE hS
      refine WL.nil ?_
      refine ⟨⟨fun h => absurd h (by decide), fun _ => (St.down hle142 (hS.dropAt 7))⟩, ?_⟩
      refine Rg.one (i := 6) false false rfl (by kernel_rfl) (by kernel_rfl) (by kernel_rfl) ?_
      refine WL.storeI hE hS 3 rfl [.slice a147 x145.length c148] (runs_plain rfl) rfl rfl rfl ty64 rfl rfl rfl rfl ?_; clear hE hS a w; intro a w hE hS
      refine WL.nil ?_
      refine ⟨⟨fun h => absurd h (by decide), fun h => absurd h (by decide)⟩, ?_⟩
      refine Rg.done (by kernel_rfl) ?_
      subst hK132
      subst hK130
      exact ⟨x145, a147, c148, x145.length, cs149, s141, hle142, Option.some.inj hq119, h150, (rfl), hE.pick _ ⟨rfl, rfl, rfl, rfl, rfl, trivial⟩, hS⟩
     replace hq119 := iteF hc131 hq119
     refine W.skip ?_
     subst hK130
     exact ⟨y2, a_v0, c_v0, y2.length, cs_v0, s, (Sg.Le.refl _), Option.some.inj hq119, h_v0, (rfl), hE.pick _ ⟨rfl, rfl, rfl, rfl, rfl, trivial⟩, hS⟩
    clear hE hS a w; rintro a w ⟨q123, a124, c125, n127, cs128, s121, hle122, rfl, h126, rfl, hE, hS⟩
    replace h0 := Sl.mono RGuideRide.mono hle122 h0
    replace h_y0_0 := Sl.mono RApiTrain.mono hle122 h_y0_0
    replace h_y0_1 := Sl.mono (RL.mono RI.mono) hle122 h_y0_1
    replace h_v0 := Ev.mono RGuideJourney.mono hle122 h_v0
    replace hS := hS.tail
    subst hK76
    exact ⟨q123, a124, c125, q123.length, cs128, s121, hle122, Option.some.inj hq65, h126, rfl, hE.pick _ ⟨rfl, rfl, rfl, rfl, rfl, trivial⟩, hS⟩
   replace hq65 := iteF hc77 hq65
   refine W.skip ?_
   subst hK76
   exact ⟨y2, a_v0, c_v0, y2.length, cs_v0, s, (Sg.Le.refl _), Option.some.inj hq65, h_v0, (rfl), hE.pick _ ⟨rfl, rfl, rfl, rfl, rfl, trivial⟩, hS⟩
  clear hE hS a w; rintro a w ⟨q69, a70, c71, n73, cs74, s67, hle68, rfl, h72, rfl, hE, hS⟩
  replace h0 := Sl.mono RGuideRide.mono hle68 h0
  replace h_y0_0 := Sl.mono RApiTrain.mono hle68 h_y0_0
  replace h_y0_1 := Sl.mono (RL.mono RI.mono) hle68 h_y0_1
  replace h_v0 := Ev.mono RGuideJourney.mono hle68 h_v0
  refine W.seq ?_
  refine W.seq (W.region (vp hS hE rfl rfl fun a hE => ?_))
  refine vP hS hE (Gives.len hE rfl sl27) rfl fun a hE => ?_
  refine vp hS hE rfl rfl fun a hE => WL.nil ?_
  refine W.cond hE rfl (fun hc151 => ?_) (fun hc151 => ?_)
  ·replace hr := iteT hc151 hr
   refine W.ret ?_
   refine finG (fn := Tryz.f103) (rs := []) (vs := []) hE rfl trivial ?_
   obtain rfl := Option.some.inj hr
   exact ⟨a70, c71, q69.length, cs74, s67, rfl, hle68, h72, rfl, hS⟩
  replace hr := iteF hc151 hr
  refine W.skip ?_
  refine W.seq (W.region (vP hS hE (Gives.fld hE rfl fl25_0) rfl fun a hE => ?_))
  refine vP hS hE (Gives.loadB hE 0 rfl rfl rfl ty22) rfl fun a hE => ?_
  refine vP hS hE (Gives.len hE rfl sl22) rfl fun a hE => ?_
  refine vp hS hE rfl rfl fun a hE => WL.nil ?_
  obtain ⟨q153, hq152, hr⟩ := bindS hr
  refine W.cut (fun a w => ∃ (q163 : List GuideJourney), ∃ (a164 : Option Addr), ∃ (c165 : Nat), ∃ (n167 : Nat), ∃ (cs168 : List Value), ∃ (s161 : Sg), s67.Le s161 ∧ q163 = q153 ∧ Ev 1 RGuideJourney s161 cs168 q163 ∧ q163.length = n167 ∧ Rep a 116 [] ∧ St w s161 (pc pb0 #[.slice a_y0_0 y0.Trains.length c_y0_0, .slice a_y0_1 y0.Turns.length c_y0_1] 25 :: pc pb1 #[vi y1] 3 :: pc pb2 #[.slice a164 n167 c165] 64 :: pc pb3 #[vi y3] 3 :: pc pb4 #[vi y4] 3 :: pc pb5 #[.func (.func 103) #[] #[pp pb0, pp pb1, pp pb2, pp pb3, pp pb4, pp pb5]] 102 :: vecC 29 1 a164 c165 n167 cs168 :: R)) ?_ ?_
  ·refine W.block ?_
   refine W.loop (fun m a w => ∃ (rest156 : List ApiTrain) (k154 : Nat), ∃ (q163 : List GuideJourney), ∃ (a164 : Option Addr), ∃ (c165 : Nat), ∃ (n167 : Nat), ∃ (cs168 : List Value), ∃ (s161 : Sg), rest156.length = m ∧ y0.Trains.drop k154 = rest156 ∧ s67.Le s161 ∧ Fishref2AllOf_1_v1.loop1 x0 y0 y1 y3 y4 fu self_Fishref2AllOf_1_v1 rest156 k154 q163 = some q153 ∧ Ev 1 RGuideJourney s161 cs168 q163 ∧ q163.length = n167 ∧ Rep a 116 [(0, .slice a0 x0.length c0), (1, pp pb0), (4, pp pb3), (5, pp pb4), (6, pp pb5), (53, .slice a_y0_0 y0.Trains.length c_y0_0), (54, vi ((y0.Trains).length : Int)), (55, vi ((k154 : Nat) : Int))] ∧ St w s161 (pc pb0 #[.slice a_y0_0 y0.Trains.length c_y0_0, .slice a_y0_1 y0.Turns.length c_y0_1] 25 :: pc pb1 #[vi y1] 3 :: pc pb2 #[.slice a164 n167 c165] 64 :: pc pb3 #[vi y3] 3 :: pc pb4 #[vi y4] 3 :: pc pb5 #[.func (.func 103) #[] #[pp pb0, pp pb1, pp pb2, pp pb3, pp pb4, pp pb5]] 102 :: vecC 29 1 a164 c165 n167 cs168 :: R)) (m := y0.Trains.length) ⟨y0.Trains, 0, q69, a70, c71, q69.length, cs74, s67, rfl, rfl, (Sg.Le.refl _), hq152, h72, rfl, hE.pick _ ⟨rfl, rfl, rfl, rfl, rfl, rfl, rfl, rfl, trivial⟩, hS⟩ ?_
   clear hE hS a w hq152; rintro m160 a w ⟨rest156, k154, q163, a164, c165, n167, cs168, s161, rfl, hd157, hle162, hq152, h166, rfl, hE, hS⟩
   refine W.gen fun K170 hK170 => ?_
   replace h0 := Sl.mono RGuideRide.mono hle162 h0
   replace h_y0_0 := Sl.mono RApiTrain.mono hle162 h_y0_0
   replace h_y0_1 := Sl.mono (RL.mono RI.mono) hle162 h_y0_1
   replace h72 := Ev.mono RGuideJourney.mono hle162 h72
   rcases rest156 with _ | ⟨x155, rest156⟩
   ·have hlt158 := drop_nil hd157
    refine W.seq (W.region (vp hS hE rfl rfl fun a hE => WL.nil ?_))
    refine W.seq ?_
    refine W.condF hE rfl (decide_eq_false (by omega)) ?_
    subst hK170
    refine W.exit rfl ?_
    exact ⟨q163, a164, c165, q163.length, cs168, s161, hle162, Option.some.inj hq152, h166, rfl, hE.pick _ trivial, hS⟩
   obtain ⟨hlt158, hx159, hd157⟩ := drop_cons hd157
   rw [Fishref2AllOf_1_v1.loop1] at hq152
   refine W.seq (W.region (vp hS hE rfl rfl fun a hE => WL.nil ?_))
   refine W.seq ?_
   refine W.condT hE rfl (decide_eq_true (by omega)) ?_
   refine W.skip ?_
   refine W.seq ?_
   refine W.block ?_
   refine W.seq (W.region (vp hS hE rfl rfl fun a hE => ?_))
   obtain ⟨cs171, hl172, hR173, hat174⟩ := h_y0_0.at hx159
   obtain ⟨a175, c176, a178, c179, rfl, h177, h180⟩ := hR173
   refine vP hS hE (Gives.idx hE k154 rfl rfl sl22 rfl hlt158 (h_y0_0.aok hlt158)) rfl fun a hE => ?_
   refine vP hS hE (Gives.loadA hE rfl (fun w h => hat174 w _ h) ty111) rfl fun a hE => ?_
   refine WL.alloc hE hS (runs_plain rfl) zr111 rfl ?_; clear hE hS a w; intro b181 a w hE hS
   refine vp hS hE rfl rfl fun a hE => ?_
   refine WL.storeI hE hS 0 rfl [vi x155.No, vi x155.Stock, .slice a175 x155.Stops.length c176, .slice a178 x155.Legs.length c179] (runs_plain rfl) rfl rfl rfl ty111 rfl rfl rfl rfl ?_; clear hE hS a w; intro a w hE hS
   refine WL.nil ?_
   refine W.seq (W.region (vP hS hE (Gives.fld hE rfl fl111_2) rfl fun a hE => ?_))
   refine vP hS hE (Gives.loadB hE 0 rfl rfl rfl ty109) rfl fun a hE => ?_
   refine vP hS hE (Gives.len hE rfl sl109) rfl fun a hE => ?_
   refine vp hS hE rfl rfl fun a hE => WL.nil ?_
   obtain ⟨q183, hq182, hq152⟩ := bindS hq152
   refine W.cut (fun a w => ∃ (q193 : List GuideJourney), ∃ (a194 : Option Addr), ∃ (c195 : Nat), ∃ (n197 : Nat), ∃ (cs198 : List Value), ∃ (s191 : Sg), s161.Le s191 ∧ q193 = q183 ∧ Ev 1 RGuideJourney s191 cs198 q193 ∧ q193.length = n197 ∧ Rep a 116 [(0, .slice a0 x0.length c0), (1, pp pb0), (4, pp pb3), (5, pp pb4), (6, pp pb5), (53, .slice a_y0_0 y0.Trains.length c_y0_0), (54, vi ((y0.Trains).length : Int)), (55, vi ((k154 : Nat) : Int))] ∧ St w s191 (pc b181 #[vi x155.No, vi x155.Stock, .slice a175 x155.Stops.length c176, .slice a178 x155.Legs.length c179] 111 :: pc pb0 #[.slice a_y0_0 y0.Trains.length c_y0_0, .slice a_y0_1 y0.Turns.length c_y0_1] 25 :: pc pb1 #[vi y1] 3 :: pc pb2 #[.slice a194 n197 c195] 64 :: pc pb3 #[vi y3] 3 :: pc pb4 #[vi y4] 3 :: pc pb5 #[.func (.func 103) #[] #[pp pb0, pp pb1, pp pb2, pp pb3, pp pb4, pp pb5]] 102 :: vecC 29 1 a194 c195 n197 cs198 :: R)) ?_ ?_
   ·refine W.block ?_
    refine W.loop (fun m a w => ∃ (rest186 : List ApiStop) (k184 : Nat), ∃ (q193 : List GuideJourney), ∃ (a194 : Option Addr), ∃ (c195 : Nat), ∃ (n197 : Nat), ∃ (cs198 : List Value), ∃ (s191 : Sg), rest186.length = m ∧ x155.Stops.drop k184 = rest186 ∧ s161.Le s191 ∧ Fishref2AllOf_1_v1.loop2 x0 y0 y1 y3 y4 fu self_Fishref2AllOf_1_v1 x155 k154 rest186 k184 q193 = some q183 ∧ Ev 1 RGuideJourney s191 cs198 q193 ∧ q193.length = n197 ∧ Rep a 116 [(0, .slice a0 x0.length c0), (1, pp pb0), (4, pp pb3), (5, pp pb4), (6, pp pb5), (10, vi ((k154 : Nat) : Int)), (11, pp b181), (53, .slice a_y0_0 y0.Trains.length c_y0_0), (54, vi ((y0.Trains).length : Int)), (55, vi ((k154 : Nat) : Int)), (62, vi ((x155.Stops).length : Int)), (63, vi ((k184 : Nat) : Int))] ∧ St w s191 (pc b181 #[vi x155.No, vi x155.Stock, .slice a175 x155.Stops.length c176, .slice a178 x155.Legs.length c179] 111 :: pc pb0 #[.slice a_y0_0 y0.Trains.length c_y0_0, .slice a_y0_1 y0.Turns.length c_y0_1] 25 :: pc pb1 #[vi y1] 3 :: pc pb2 #[.slice a194 n197 c195] 64 :: pc pb3 #[vi y3] 3 :: pc pb4 #[vi y4] 3 :: pc pb5 #[.func (.func 103) #[] #[pp pb0, pp pb1, pp pb2, pp pb3, pp pb4, pp pb5]] 102 :: vecC 29 1 a194 c195 n197 cs198 :: R)) (m := x155.Stops.length) ⟨x155.Stops, 0, q163, a164, c165, q163.length, cs168, s161, rfl, rfl, (Sg.Le.refl _), hq182, h166, rfl, hE.pick _ ⟨rfl, rfl, rfl, rfl, rfl, rfl, rfl, rfl, rfl, rfl, rfl, rfl, trivial⟩, hS⟩ ?_
    clear hE hS a w hq182; rintro m190 a w ⟨rest186, k184, q193, a194, c195, n197, cs198, s191, rfl, hd187, hle192, hq182, h196, rfl, hE, hS⟩
    refine W.gen fun K200 hK200 => ?_
    replace h0 := Sl.mono RGuideRide.mono hle192 h0
    replace h_y0_0 := Sl.mono RApiTrain.mono hle192 h_y0_0
    replace h177 := Sl.mono RApiStop.mono hle192 h177
    replace h180 := Sl.mono (RL.mono RI.mono) hle192 h180
    replace h_y0_1 := Sl.mono (RL.mono RI.mono) hle192 h_y0_1
    replace h166 := Ev.mono RGuideJourney.mono hle192 h166
    rcases rest186 with _ | ⟨x185, rest186⟩
    ·have hlt188 := drop_nil hd187
     refine W.seq (W.region (vp hS hE rfl rfl fun a hE => WL.nil ?_))
     refine W.seq ?_
     refine W.condF hE rfl (decide_eq_false (by omega)) ?_
     subst hK200
     refine W.exit rfl ?_
     exact ⟨q193, a194, c195, q193.length, cs198, s191, hle192, Option.some.inj hq182, h196, rfl, hE.pick _ ⟨rfl, rfl, rfl, rfl, rfl, rfl, rfl, rfl, trivial⟩, hS⟩
    obtain ⟨hlt188, hx189, hd187⟩ := drop_cons hd187
    rw [Fishref2AllOf_1_v1.loop2] at hq182
    refine W.seq (W.region (vp hS hE rfl rfl fun a hE => WL.nil ?_))
    refine W.seq ?_
    refine W.condT hE rfl (decide_eq_true (by omega)) ?_
    refine W.skip ?_
    refine W.seq ?_
    refine W.block ?_
    refine W.seq (W.region (v2 hS hE rfl rfl rfl rfl fun a hE => WL.nil ?_))
    refine W.seq ?_
    refine W.seq ?_
    obtain ⟨q202, hq201, hq182⟩ := bndS hq182
    refine W.cut (fun a w => ∃ (q205 : Bool), q205 = q202 ∧ Rep a 116 [(0, .slice a0 x0.length c0), (1, pp pb0), (4, pp pb3), (5, pp pb4), (6, pp pb5), (10, vi ((k154 : Nat) : Int)), (11, pp b181), (12, vi ((k184 : Nat) : Int)), (53, .slice a_y0_0 y0.Trains.length c_y0_0), (54, vi ((y0.Trains).length : Int)), (55, vi ((k154 : Nat) : Int)), (62, vi ((x155.Stops).length : Int)), (63, vi ((k184 : Nat) : Int)), (78, .bool q205)] ∧ St w s191 (pc b181 #[vi x155.No, vi x155.Stock, .slice a175 x155.Stops.length c176, .slice a178 x155.Legs.length c179] 111 :: pc pb0 #[.slice a_y0_0 y0.Trains.length c_y0_0, .slice a_y0_1 y0.Turns.length c_y0_1] 25 :: pc pb1 #[vi y1] 3 :: pc pb2 #[.slice a194 q193.length c195] 64 :: pc pb3 #[vi y3] 3 :: pc pb4 #[vi y4] 3 :: pc pb5 #[.func (.func 103) #[] #[pp pb0, pp pb1, pp pb2, pp pb3, pp pb4, pp pb5]] 102 :: vecC 29 1 a194 c195 q193.length cs198 :: R)) ?_ ?_
    ·refine W.gen fun K206 hK206 => ?_
     refine W.regionQ (C := fun w => St w s191 (pc b181 #[vi x155.No, vi x155.Stock, .slice a175 x155.Stops.length c176, .slice a178 x155.Legs.length c179] 111 :: pc pb0 #[.slice a_y0_0 y0.Trains.length c_y0_0, .slice a_y0_1 y0.Turns.length c_y0_1] 25 :: pc pb1 #[vi y1] 3 :: pc pb2 #[.slice a194 q193.length c195] 64 :: pc pb3 #[vi y3] 3 :: pc pb4 #[vi y4] 3 :: pc pb5 #[.func (.func 103) #[] #[pp pb0, pp pb1, pp pb2, pp pb3, pp pb4, pp pb5]] 102 :: vecC 29 1 a194 c195 q193.length cs198 :: R)) mixed (by kernel_rfl) hS.drew ?_
     refine qP hE (Gives.p hE rfl) rfl fun a hE => ?_
     refine qP hE (Gives.len hE rfl sl27) rfl fun a hE => ?_
     refine qP hE (Gives.p hE rfl) rfl fun a hE => ?_
     refine qP hE (Gives.p hE rfl) rfl fun a hE => ?_
     rcases Bool.eq_false_or_eq_true (((x0).length : Int) == 0) with hg207 | hg207
     ·replace hq201 := iteT hg207 hq201
      refine QL.v hE (runs_if hE rfl rfl rfl hg207) (Gives.fld hE rfl fl111_2) rfl fun a hE => ?_
      refine QL.v hE (runs_if hE rfl rfl rfl hg207) (Gives.loadB hE 0 rfl rfl rfl ty109) rfl fun a hE => ?_
      refine QL.v hE (runs_if hE rfl rfl rfl hg207) (Gives.p hE rfl) rfl fun a hE => ?_
      obtain ⟨cs208, hl209, hR210, hat211⟩ := h177.at hx189
      subst hR210
      refine QL.v hE (runs_if hE rfl rfl rfl hg207) (Gives.idx hE k184 rfl rfl sl109 rfl hlt188 (h177.aok hlt188)) rfl fun a hE => ?_
      refine QL.v hE (runs_if hE rfl rfl rfl hg207) (Gives.fld hE rfl fl99_0) rfl fun a hE => ?_
      refine QL.v hE (runs_if hE rfl rfl rfl hg207) (Gives.load1 hE rfl (fun w h => (hat211 w _ h).one rfl) ty3) rfl fun a hE => ?_
      refine QL.v hE (runs_if hE rfl rfl rfl hg207) (Gives.loadB hE 4 rfl rfl rfl ty3) rfl fun a hE => ?_
      refine QL.v hE (runs_if hE rfl rfl rfl hg207) (Gives.p hE rfl) rfl fun a hE => ?_
      refine qP hE (Gives.pickT hE rfl hg207 rfl) rfl fun a hE => ?_
      refine QL.nil ?_; clear hS w; intro w hS
      subst hK206
      exact ⟨(x185.Station != y3), hq201, hE.pick _ ⟨rfl, rfl, rfl, rfl, rfl, rfl, rfl, rfl, rfl, rfl, rfl, rfl, rfl, rfl, trivial⟩, hS⟩
     replace hq201 := iteF hg207 hq201
     refine QL.no hE (runs_not hE rfl rfl rfl (by rw [hg207]; decide)) rfl fun a hE => ?_
     refine QL.no hE (runs_not hE rfl rfl rfl (by rw [hg207]; decide)) rfl fun a hE => ?_
     refine QL.no hE (runs_not hE rfl rfl rfl (by rw [hg207]; decide)) rfl fun a hE => ?_
     refine QL.no hE (runs_not hE rfl rfl rfl (by rw [hg207]; decide)) rfl fun a hE => ?_
     refine QL.no hE (runs_not hE rfl rfl rfl (by rw [hg207]; decide)) rfl fun a hE => ?_
     refine QL.no hE (runs_not hE rfl rfl rfl (by rw [hg207]; decide)) rfl fun a hE => ?_
     refine QL.no hE (runs_not hE rfl rfl rfl (by rw [hg207]; decide)) rfl fun a hE => ?_
     refine QL.no hE (runs_not hE rfl rfl rfl (by rw [hg207]; decide)) rfl fun a hE => ?_
     refine qP hE (Gives.pickF hE rfl hg207 rfl) rfl fun a hE => ?_
     refine QL.nil ?_; clear hS w; intro w hS
     subst hK206
     exact ⟨false, hq201, hE.pick _ ⟨rfl, rfl, rfl, rfl, rfl, rfl, rfl, rfl, rfl, rfl, rfl, rfl, rfl, rfl, trivial⟩, hS⟩
    clear hE hS a w; rintro a w ⟨q205, rfl, hE, hS⟩
    refine W.cond hE rfl (fun hc212 => ?_) (fun hc212 => ?_)
    ·replace hq182 := iteT hc212 hq182
     refine W.exit rfl ?_
     refine W.region ?_
     refine vP hS hE (Gives.inc hE rfl (by have := h177.small; omega)) rfl fun a hE => ?_
     refine vp hS hE rfl rfl fun a hE => WL.nil ?_
     subst hK200
     exact ⟨rest186.length, Nat.lt_succ_self _, rest186, k184 + 1, q193, a194, c195, q193.length, cs198, s191, rfl, hd187, hle192, hq182, h196, rfl, hE.pick _ ⟨rfl, rfl, rfl, rfl, rfl, rfl, rfl, rfl, rfl, rfl, rfl, rfl, trivial⟩, hS⟩
    replace hq182 := iteF hc212 hq182
    refine W.skip ?_
    refine W.seq (W.region (vp hS hE rfl rfl fun a hE => ?_))
    refine vP hS hE (Gives.inc hE rfl (by have := h177.small; omega)) rfl fun a hE => ?_
    refine vp hS hE rfl rfl fun a hE => WL.nil ?_
    obtain ⟨q214, hq213, hq182⟩ := bindS hq182
    refine W.cut (fun a w => ∃ (q219 : Int), ∃ (q220 : List GuideJourney), ∃ (a221 : Option Addr), ∃ (c222 : Nat), ∃ (n224 : Nat), ∃ (cs225 : List Value), ∃ (s217 : Sg), s191.Le s217 ∧ (q219, q220) = q214 ∧ Ev 1 RGuideJourney s217 cs225 q220 ∧ q220.length = n224 ∧ Rep a 116 [(0, .slice a0 x0.length c0), (1, pp pb0), (4, pp pb3), (5, pp pb4), (6, pp pb5), (10, vi ((k154 : Nat) : Int)), (11, pp b181), (53, .slice a_y0_0 y0.Trains.length c_y0_0), (54, vi ((y0.Trains).length : Int)), (55, vi ((k154 : Nat) : Int)), (62, vi ((x155.Stops).length : Int)), (63, vi ((k184 : Nat) : Int))] ∧ St w s217 (pc b181 #[vi x155.No, vi x155.Stock, .slice a175 x155.Stops.length c176, .slice a178 x155.Legs.length c179] 111 :: pc pb0 #[.slice a_y0_0 y0.Trains.length c_y0_0, .slice a_y0_1 y0.Turns.length c_y0_1] 25 :: pc pb1 #[vi y1] 3 :: pc pb2 #[.slice a221 n224 c222] 64 :: pc pb3 #[vi y3] 3 :: pc pb4 #[vi y4] 3 :: pc pb5 #[.func (.func 103) #[] #[pp pb0, pp pb1, pp pb2, pp pb3, pp pb4, pp pb5]] 102 :: vecC 29 1 a221 c222 n224 cs225 :: R)) ?_ ?_
    ·refine W.block ?_
     refine W.loop (fun m a w => ∃ (n215 : Nat), ∃ (q219 : Int), ∃ (q220 : List GuideJourney), ∃ (a221 : Option Addr), ∃ (c222 : Nat), ∃ (n224 : Nat), ∃ (cs225 : List Value), ∃ (s217 : Sg), n215 = m ∧ s191.Le s217 ∧ Fishref2AllOf_1_v1.loop3 x0 y0 y1 y3 y4 self_Fishref2AllOf_1_v1 x155 k154 k184 n215 q219 q220 = some q214 ∧ Ev 1 RGuideJourney s217 cs225 q220 ∧ q220.length = n224 ∧ Rep a 116 [(0, .slice a0 x0.length c0), (1, pp pb0), (4, pp pb3), (5, pp pb4), (6, pp pb5), (10, vi ((k154 : Nat) : Int)), (11, pp b181), (12, vi ((k184 : Nat) : Int)), (13, vi q219), (53, .slice a_y0_0 y0.Trains.length c_y0_0), (54, vi ((y0.Trains).length : Int)), (55, vi ((k154 : Nat) : Int)), (62, vi ((x155.Stops).length : Int)), (63, vi ((k184 : Nat) : Int))] ∧ St w s217 (pc b181 #[vi x155.No, vi x155.Stock, .slice a175 x155.Stops.length c176, .slice a178 x155.Legs.length c179] 111 :: pc pb0 #[.slice a_y0_0 y0.Trains.length c_y0_0, .slice a_y0_1 y0.Turns.length c_y0_1] 25 :: pc pb1 #[vi y1] 3 :: pc pb2 #[.slice a221 n224 c222] 64 :: pc pb3 #[vi y3] 3 :: pc pb4 #[vi y4] 3 :: pc pb5 #[.func (.func 103) #[] #[pp pb0, pp pb1, pp pb2, pp pb3, pp pb4, pp pb5]] 102 :: vecC 29 1 a221 c222 n224 cs225 :: R)) (m := fu) ⟨fu, ((k184 + 1 : Nat) : Int), q193, a194, c195, q193.length, cs198, s191, rfl, (Sg.Le.refl _), hq213, h196, rfl, hE.pick _ ⟨rfl, rfl, rfl, rfl, rfl, rfl, rfl, rfl, rfl, rfl, rfl, rfl, rfl, rfl, trivial⟩, hS⟩ ?_
     clear hE hS a w hq213; rintro m216 a w ⟨n215, q219, q220, a221, c222, n224, cs225, s217, rfl, hle218, hq213, h223, rfl, hE, hS⟩
     refine W.gen fun K227 hK227 => ?_
     replace h0 := Sl.mono RGuideRide.mono hle218 h0
     replace h_y0_0 := Sl.mono RApiTrain.mono hle218 h_y0_0
     replace h177 := Sl.mono RApiStop.mono hle218 h177
     replace h180 := Sl.mono (RL.mono RI.mono) hle218 h180
     replace h_y0_1 := Sl.mono (RL.mono RI.mono) hle218 h_y0_1
     replace h196 := Ev.mono RGuideJourney.mono hle218 h196
     rcases n215 with _ | n215
     ·rw [Fishref2AllOf_1_v1.loop3] at hq213; exact absurd hq213 (by simp)
     rw [Fishref2AllOf_1_v1.loop3] at hq213
     refine W.seq ?_
     refine W.seq (W.region (vp hS hE rfl rfl fun a hE => ?_))
     refine vP hS hE (Gives.fld hE rfl fl111_2) rfl fun a hE => ?_
     refine vP hS hE (Gives.loadB hE 0 rfl rfl rfl ty109) rfl fun a hE => ?_
     refine vP hS hE (Gives.len hE rfl sl109) rfl fun a hE => ?_
     refine vp hS hE rfl rfl fun a hE => WL.nil ?_
     refine W.cond hE rfl (fun hc228 => ?_) (fun hc228 => ?_)
     ·replace hq213 := iteT hc228 hq213
      refine W.skip ?_
      refine W.seq ?_
      refine W.block ?_
      refine W.seq (W.region (vp hS hE rfl rfl fun a hE => ?_))
      obtain ⟨q229, hq230, hq213⟩ := bindS hq213
      have hc_ := SlicesCloneLguideRide_ok hS h0 hq230
      refine WL.fnq hE (hc_) (runs_plain rfl) bd48 rfl rfl rfl ?_
      clear hE hS hc_; rintro e w ⟨a231, c232, n233, cs234, rfl, h235, rfl, hS⟩; refine ⟨_, rfl, ?_⟩; clear a; intro a hE
      refine v2 hS hE rfl rfl rfl rfl fun a hE => ?_
      refine vp hS hE rfl rfl fun a hE => ?_
      refine vP hS hE (Gives.build hE (vs := [(0, vi ((k154 : Nat) : Int)), (1, vi ((k184 : Nat) : Int)), (2, vi q219)]) [vi ((k154 : Nat) : Int), vi ((k184 : Nat) : Int), vi q219] rfl (by kernel_rfl)) rfl fun a hE => ?_
      refine WL.lit hE hS (e := 95) (es := 3) (vs := [(0, .agg [vi ((k154 : Nat) : Int), vi ((k184 : Nat) : Int), vi q219].toArray)]) (cs := [vi ((k154 : Nat) : Int), vi ((k184 : Nat) : Int), vi q219]) (runs_plain rfl) rfl (by kernel_rfl) rfl ?_; clear hE hS a w; intro b237 a w hE hS
      obtain ⟨x238, hx239, hq213⟩ := bindS hq213
      refine WL.appD hE hS 0 (m := 1) (runs_plain rfl) rfl rfl rfl ap27 rfl h235 rfl (xs := [(GuideRide.mk ((k154 : Nat) : Int) ((k184 : Nat) : Int) q219)]) (Ev.cons (c1 := [vi ((k154 : Nat) : Int), vi ((k184 : Nat) : Int), vi q219]) rfl rfl (Ev.nil)) rfl rfl hx239 rfl ?_; clear hE hS a w; intro a240 c241 cs242 a w h243 hE hS
      refine vp hS hE rfl rfl fun a hE => WL.nil ?_
      refine W.seq ?_
      have hF := hS.fixD RGuideRide.mono 0 rfl h243 (rfl); clear hS; obtain ⟨s244, hle245, hS, h246⟩ := hF
      replace h0 := Sl.mono RGuideRide.mono hle245 h0
      replace h_y0_0 := Sl.mono RApiTrain.mono hle245 h_y0_0
      replace h177 := Sl.mono RApiStop.mono hle245 h177
      replace h180 := Sl.mono (RL.mono RI.mono) hle245 h180
      replace h_y0_1 := Sl.mono (RL.mono RI.mono) hle245 h_y0_1
      replace h223 := Ev.mono RGuideJourney.mono hle245 h223
      obtain ⟨q248, hq247, hq213⟩ := bindS hq213
      refine W.cut (fun a w => ∃ (q251 : Bool), q251 = q248 ∧ Rep a 116 [(0, .slice a0 x0.length c0), (1, pp pb0), (4, pp pb3), (5, pp pb4), (6, pp pb5), (10, vi ((k154 : Nat) : Int)), (11, pp b181), (12, vi ((k184 : Nat) : Int)), (13, vi q219), (14, .slice a240 x238.length c241), (53, .slice a_y0_0 y0.Trains.length c_y0_0), (54, vi ((y0.Trains).length : Int)), (55, vi ((k154 : Nat) : Int)), (62, vi ((x155.Stops).length : Int)), (63, vi ((k184 : Nat) : Int)), (110, .bool q251)] ∧ St w s244 (pc b181 #[vi x155.No, vi x155.Stock, .slice a175 x155.Stops.length c176, .slice a178 x155.Legs.length c179] 111 :: pc pb0 #[.slice a_y0_0 y0.Trains.length c_y0_0, .slice a_y0_1 y0.Turns.length c_y0_1] 25 :: pc pb1 #[vi y1] 3 :: pc pb2 #[.slice a221 q220.length c222] 64 :: pc pb3 #[vi y3] 3 :: pc pb4 #[vi y4] 3 :: pc pb5 #[.func (.func 103) #[] #[pp pb0, pp pb1, pp pb2, pp pb3, pp pb4, pp pb5]] 102 :: vecC 29 1 a221 c222 q220.length cs225 :: R)) ?_ ?_
      ·refine W.gen fun K252 hK252 => ?_
       refine W.regionQ (C := fun w => St w s244 (pc b181 #[vi x155.No, vi x155.Stock, .slice a175 x155.Stops.length c176, .slice a178 x155.Legs.length c179] 111 :: pc pb0 #[.slice a_y0_0 y0.Trains.length c_y0_0, .slice a_y0_1 y0.Turns.length c_y0_1] 25 :: pc pb1 #[vi y1] 3 :: pc pb2 #[.slice a221 q220.length c222] 64 :: pc pb3 #[vi y3] 3 :: pc pb4 #[vi y4] 3 :: pc pb5 #[.func (.func 103) #[] #[pp pb0, pp pb1, pp pb2, pp pb3, pp pb4, pp pb5]] 102 :: vecC 29 1 a221 c222 q220.length cs225 :: R)) mixed (by kernel_rfl) hS.drew ?_
       refine qP hE (Gives.p hE rfl) rfl fun a hE => ?_
       refine qP hE (Gives.len hE rfl sl27) rfl fun a hE => ?_
       refine qP hE (Gives.p hE rfl) rfl fun a hE => ?_
       refine qP hE (Gives.p hE rfl) rfl fun a hE => ?_
       rcases Bool.eq_false_or_eq_true (((x238).length : Int) == 1) with hg253 | hg253
       ·replace hq247 := iteT hg253 hq247
        refine QL.no hE (runs_not hE rfl rfl rfl (by rw [hg253]; decide)) rfl fun a hE => ?_
        refine QL.no hE (runs_not hE rfl rfl rfl (by rw [hg253]; decide)) rfl fun a hE => ?_
        refine QL.no hE (runs_not hE rfl rfl rfl (by rw [hg253]; decide)) rfl fun a hE => ?_
        refine QL.no hE (runs_not hE rfl rfl rfl (by rw [hg253]; decide)) rfl fun a hE => ?_
        refine QL.no hE (runs_not hE rfl rfl rfl (by rw [hg253]; decide)) rfl fun a hE => ?_
        refine QL.no hE (runs_not hE rfl rfl rfl (by rw [hg253]; decide)) rfl fun a hE => ?_
        refine QL.no hE (runs_not hE rfl rfl rfl (by rw [hg253]; decide)) rfl fun a hE => ?_
        refine QL.no hE (runs_not hE rfl rfl rfl (by rw [hg253]; decide)) rfl fun a hE => ?_
        refine QL.no hE (runs_not hE rfl rfl rfl (by rw [hg253]; decide)) rfl fun a hE => ?_
        refine QL.no hE (runs_not hE rfl rfl rfl (by rw [hg253]; decide)) rfl fun a hE => ?_
        refine qP hE (Gives.pickT hE rfl hg253 rfl) rfl fun a hE => ?_
        refine QL.nil ?_; clear hS w; intro w hS
        subst hK252
        exact ⟨true, Option.some.inj hq247, hE.pick _ ⟨rfl, rfl, rfl, rfl, rfl, rfl, rfl, rfl, rfl, rfl, rfl, rfl, rfl, rfl, rfl, rfl, trivial⟩, hS⟩
       replace hq247 := iteF hg253 hq247
       refine QL.v hE (runs_if hE rfl rfl rfl hg253) (Gives.loadBA hE 1 rfl rfl ty25) rfl fun a hE => ?_
       refine QL.v hE (runs_if hE rfl rfl rfl hg253) (Gives.p hE rfl) rfl fun a hE => ?_
       refine QL.v hE (runs_if hE rfl rfl rfl hg253) (Gives.p hE rfl) rfl fun a hE => ?_
       refine QL.v hE (runs_if hE rfl rfl rfl hg253) (Gives.len hE rfl sl27) rfl fun a hE => ?_
       refine QL.v hE (runs_if hE rfl rfl rfl hg253) (Gives.p hE rfl) rfl fun a hE => ?_
       obtain ⟨x254, hx255, hq247⟩ := bindS hq247
       obtain ⟨a256, c257, heq258, h259⟩ := h246.cut hx255
       obtain ⟨h260, h261, h262, _⟩ := cutl_some hx255
       refine QL.v hE (runs_if hE rfl rfl rfl hg253) (Gives.slL hE sl27 rfl rfl h260 (by omega) (by simpa using heq258)) rfl fun a hE => ?_
       refine QL.v hE (runs_if hE rfl rfl rfl hg253) (Gives.build hE (vs := [(0, .slice a256 x254.length c257)]) [.slice a256 x254.length c257] rfl (by kernel_rfl)) rfl fun a hE => ?_
       refine QL.v hE (runs_if hE rfl rfl rfl hg253) (Gives.loadB hE 5 rfl rfl rfl ty3) rfl fun a hE => ?_
       obtain ⟨q263, hq264, hq247⟩ := bindS hq247
       refine QL.fnq hE (fun w hS => Fishref2JourneyFault_ok hS h_y0_0 h_y0_1 h259 hq264) (runs_if hE rfl rfl rfl hg253) bd86 rfl rfl rfl fun a hE => ?_
       refine QL.v hE (runs_if hE rfl rfl rfl hg253) (Gives.p hE rfl) rfl fun a hE => ?_
       refine qP hE (Gives.pickF hE rfl hg253 rfl) rfl fun a hE => ?_
       refine QL.nil ?_; clear hS w; intro w hS
       subst hK252
       exact ⟨(q263 == 0), Option.some.inj hq247, hE.pick _ ⟨rfl, rfl, rfl, rfl, rfl, rfl, rfl, rfl, rfl, rfl, rfl, rfl, rfl, rfl, rfl, rfl, trivial⟩, hS⟩
      clear hE hS a w; rintro a w ⟨q251, rfl, hE, hS⟩
      refine W.cond hE rfl (fun hc265 => ?_) (fun hc265 => ?_)
      ·replace hq213 := iteT hc265 hq213
       refine W.region ?_
       refine vP hS hE (Gives.loadB hE 6 rfl rfl rfl ty102) rfl fun a hE => ?_
       refine vp hS hE rfl rfl fun a hE => ?_
       obtain ⟨q266, hq267, hq213⟩ := bindS hq213
       replace hS := hS.front 7 rfl
       replace hS := hS.front 7 rfl
       replace hS := hS.front 7 rfl
       replace hS := hS.front 7 rfl
       replace hS := hS.front 7 rfl
       replace hS := hS.front 7 rfl
       replace hS := hS.front 7 rfl
       have hc_ := ih_Fishref2AllOf_1_v1 (y0 := y0) hS h246 h_y0_0 h_y0_1 h223 rfl hq267
       refine WL.fnw hE (hc_) rfl (runs_plain rfl) bd103 rfl rfl rfl ?_
       clear hE hS hc_; rintro e w ⟨a268, c269, n270, cs271, s273, rfl, hle274, h272, rfl, hS⟩; refine ⟨_, rfl, ?_⟩; clear a; intro a hE
       replace h0 := Sl.mono RGuideRide.mono hle274 h0
       replace h246 := Sl.mono RGuideRide.mono hle274 h246
       replace h_y0_0 := Sl.mono RApiTrain.mono hle274 h_y0_0
       replace h_y0_1 := Sl.mono (RL.mono RI.mono) hle274 h_y0_1
       replace h223 := Ev.mono RGuideJourney.mono hle274 h223
       replace h177 := Sl.mono RApiStop.mono hle274 h177
       replace h180 := Sl.mono (RL.mono RI.mono) hle274 h180
       refine WL.nil ?_
       refine W.region ?_
       refine v2 hS hE rfl rfl rfl rfl fun a hE => ?_
       refine vp hS hE rfl rfl fun a hE => WL.nil ?_
       replace hS := hS.front 6 rfl
       replace hS := hS.front 6 rfl
       replace hS := hS.front 6 rfl
       replace hS := hS.front 6 rfl
       replace hS := hS.front 6 rfl
       replace hS := hS.front 6 rfl
       replace hS := hS.front 6 rfl
       replace hS := hS.front 7 rfl
       subst hK227
       exact ⟨n215, Nat.lt_succ_self _, n215, (w64 (q219 + 1)), q266, a268, c269, q266.length, cs271, s273, rfl, (Sg.Le.trans (Sg.Le.trans hle218 hle245) hle274), hq213, h272, rfl, hE.pick _ ⟨rfl, rfl, rfl, rfl, rfl, rfl, rfl, rfl, rfl, rfl, rfl, rfl, rfl, rfl, trivial⟩, hS⟩
      replace hq213 := iteF hc265 hq213
      refine W.skip ?_
      refine W.region ?_
      refine v2 hS hE rfl rfl rfl rfl fun a hE => ?_
      refine vp hS hE rfl rfl fun a hE => WL.nil ?_
      subst hK227
      exact ⟨n215, Nat.lt_succ_self _, n215, (w64 (q219 + 1)), q220, a221, c222, q220.length, cs225, s244, rfl, (Sg.Le.trans hle218 hle245), hq213, h223, rfl, hE.pick _ ⟨rfl, rfl, rfl, rfl, rfl, rfl, rfl, rfl, rfl, rfl, rfl, rfl, rfl, rfl, trivial⟩, hS⟩
     replace hq213 := iteF hc228 hq213
     subst hK227
     refine W.exit rfl ?_
     exact ⟨q219, q220, a221, c222, q220.length, cs225, s217, hle218, Option.some.inj hq213, h223, rfl, hE.pick _ ⟨rfl, rfl, rfl, rfl, rfl, rfl, rfl, rfl, rfl, rfl, rfl, rfl, trivial⟩, hS⟩
    clear hE hS a w; rintro a w ⟨q219, q220, a221, c222, n224, cs225, s217, hle218, rfl, h223, rfl, hE, hS⟩
    dsimp only at hq182
    replace h0 := Sl.mono RGuideRide.mono hle218 h0
    replace h_y0_0 := Sl.mono RApiTrain.mono hle218 h_y0_0
    replace h177 := Sl.mono RApiStop.mono hle218 h177
    replace h180 := Sl.mono (RL.mono RI.mono) hle218 h180
    replace h_y0_1 := Sl.mono (RL.mono RI.mono) hle218 h_y0_1
    replace h196 := Ev.mono RGuideJourney.mono hle218 h196
    refine W.region ?_
    refine vP hS hE (Gives.inc hE rfl (by have := h177.small; omega)) rfl fun a hE => ?_
    refine vp hS hE rfl rfl fun a hE => WL.nil ?_
    subst hK200
    exact ⟨rest186.length, Nat.lt_succ_self _, rest186, k184 + 1, q220, a221, c222, q220.length, cs225, s217, rfl, hd187, (Sg.Le.trans hle192 hle218), hq182, h223, rfl, hE.pick _ ⟨rfl, rfl, rfl, rfl, rfl, rfl, rfl, rfl, rfl, rfl, rfl, rfl, trivial⟩, hS⟩
   clear hE hS a w; rintro a w ⟨q193, a194, c195, n197, cs198, s191, hle192, rfl, h196, rfl, hE, hS⟩
   replace h0 := Sl.mono RGuideRide.mono hle192 h0
   replace h_y0_0 := Sl.mono RApiTrain.mono hle192 h_y0_0
   replace h177 := Sl.mono RApiStop.mono hle192 h177
   replace h180 := Sl.mono (RL.mono RI.mono) hle192 h180
   replace h_y0_1 := Sl.mono (RL.mono RI.mono) hle192 h_y0_1
   replace h166 := Ev.mono RGuideJourney.mono hle192 h166
   refine W.region ?_
   refine vP hS hE (Gives.inc hE rfl (by have := h_y0_0.small; omega)) rfl fun a hE => ?_
   refine vp hS hE rfl rfl fun a hE => WL.nil ?_
   replace hS := hS.tail
   subst hK170
   exact ⟨rest156.length, Nat.lt_succ_self _, rest156, k154 + 1, q193, a194, c195, q193.length, cs198, s191, rfl, hd157, (Sg.Le.trans hle162 hle192), hq152, h196, rfl, hE.pick _ ⟨rfl, rfl, rfl, rfl, rfl, rfl, rfl, rfl, trivial⟩, hS⟩
  clear hE hS a w; rintro a w ⟨q163, a164, c165, n167, cs168, s161, hle162, rfl, h166, rfl, hE, hS⟩
  replace h0 := Sl.mono RGuideRide.mono hle162 h0
  replace h_y0_0 := Sl.mono RApiTrain.mono hle162 h_y0_0
  replace h_y0_1 := Sl.mono (RL.mono RI.mono) hle162 h_y0_1
  replace h72 := Ev.mono RGuideJourney.mono hle162 h72
  refine finG (fn := Tryz.f103) (rs := []) (vs := []) hE rfl trivial ?_
  obtain rfl := Option.some.inj hr
  exact ⟨a164, c165, q163.length, cs168, s161, rfl, (Sg.Le.trans hle68 hle162), h166, rfl, hS⟩
set_option maxHeartbeats 8000000 in
theorem Fishref2AllOf_ok {fu : Nat}  {w : World} {s : Sg} {R : List HP} {x0 : ApiDay} {a0_0 : Option Addr} {c0_0 : Nat} {a0_1 : Option Addr} {c0_1 : Nat} {x1 : Int} {x2 : Int} {x3 : Int} (hS : St w s (R)) (h0_0 : Sl 4 RApiTrain s a0_0 c0_0 x0.Trains) (h0_1 : Sl 1 (RL 1 (RI .i64)) s a0_1 c0_1 x0.Turns) {r : (List GuideJourney)} (hr : Fishref2AllOf fu x0 x1 x2 x3 = some r) :
  Calls Tryz.prog 55 [.agg [.slice a0_0 x0.Trains.length c0_0, .slice a0_1 x0.Turns.length c0_1].toArray, vi x1, vi x2, vi x3].toArray w (fun e w => ∃ (a0 : Option Addr) (c0 n0 : Nat) (cs0 : List Value) (t : Sg), e = .returned (.slice a0 n0 c0) ∧ s.Le t ∧ Ev 1 RGuideJourney t cs0 r ∧ r.length = n0 ∧ St w t (vecC 29 1 a0 c0 n0 cs0 :: R)) := by
 refine enter Tryz.func55 rfl rfl rfl fun a hE => ?_
 rw [Fishref2AllOf] at hr
 refine W.seq (W.region ?_)
 refine WL.box hE hS (runs_plain rfl) rfl rfl rfl ?_; clear hE hS a w; intro b51 a w hE hS
 refine WL.box hE hS (runs_plain rfl) rfl rfl rfl ?_; clear hE hS a w; intro b52 a w hE hS
 refine WL.box hE hS (runs_plain rfl) rfl rfl rfl ?_; clear hE hS a w; intro b53 a w hE hS
 refine WL.box hE hS (runs_plain rfl) rfl rfl rfl ?_; clear hE hS a w; intro b54 a w hE hS
 refine vp hS hE rfl rfl fun a hE => WL.nil ?_
 refine W.seq (W.region ?_)
 refine WL.alloc hE hS (runs_plain rfl) zr64 rfl ?_; clear hE hS a w; intro b55 a w hE hS
 refine WL.nil ?_
 refine W.seq (W.region ?_)
 refine WL.alloc hE hS (runs_plain rfl) zr102 rfl ?_; clear hE hS a w; intro b56 a w hE hS
 refine WL.nil ?_
 refine W.seq (W.region ?_)
 replace hS := hS.vecNil 29 1
 refine vP hS hE (Gives.mkfn hE (vs := [pp b51, pp b53, pp b55, pp b52, pp b54, pp b56]) rfl) rfl fun a hE => ?_
 refine WL.storeI hE hS 1 rfl [.func (.func 103) #[] #[pp b51, pp b53, pp b55, pp b52, pp b54, pp b56]] (runs_plain rfl) rfl rfl rfl ty102 rfl rfl rfl rfl ?_; clear hE hS a w; intro a w hE hS
 refine WL.nil ?_
 refine W.seq (W.region (vP hS hE (Gives.loadB hE 1 rfl rfl rfl ty102) rfl fun a hE => ?_))
 obtain ⟨q58, hq59, hr⟩ := bindS hr
 replace hS := hS.front 0 rfl
 replace hS := hS.front 1 rfl
 replace hS := hS.front 3 rfl
 replace hS := hS.front 5 rfl
 replace hS := hS.front 4 rfl
 replace hS := hS.front 5 rfl
 replace hS := hS.front 6 rfl
 have hc_ := Fishref2AllOf_1_v1_ok (y0 := x0) hS Sl.nil h0_0 h0_1 (Ev.nil) (rfl) hq59
 refine WL.fnw hE (hc_) rfl (runs_plain rfl) bd103 rfl rfl rfl ?_
 clear hE hS hc_; rintro e w ⟨a60, c61, n62, cs63, s65, rfl, hle66, h64, rfl, hS⟩; refine ⟨_, rfl, ?_⟩; clear a; intro a hE
 replace h0_0 := Sl.mono RApiTrain.mono hle66 h0_0
 replace h0_1 := Sl.mono (RL.mono RI.mono) hle66 h0_1
 refine WL.nil ?_
 refine W.seq (W.region (vP hS hE (Gives.loadB hE 2 rfl rfl rfl ty64) rfl fun a hE => ?_))
 refine vp hS hE rfl rfl fun a hE => WL.nil ?_
 refine W.ret ?_
 refine finG (fn := Tryz.f55) (rs := [.tmp 8]) (vs := [_]) hE rfl ⟨rfl, trivial⟩ ?_
 obtain rfl := Option.some.inj hr
 replace hS := hS.tail
 replace hS := hS.tail
 replace hS := hS.tail
 replace hS := hS.tail
 replace hS := hS.tail
 replace hS := hS.tail
 exact ⟨a60, c61, q58.length, cs63, s65, rfl, hle66, h64, rfl, hS⟩
set_option maxHeartbeats 8000000 in
theorem Fishref2Leaves_ok  {w : World} {s : Sg} {R : List HP} {x0 : ApiDay} {a0_0 : Option Addr} {c0_0 : Nat} {a0_1 : Option Addr} {c0_1 : Nat} {x1 : GuideJourney} {a1_0 : Option Addr} {c1_0 : Nat} (hS : St w s (R)) (h0_0 : Sl 4 RApiTrain s a0_0 c0_0 x0.Trains) (_h0_1 : Sl 1 (RL 1 (RI .i64)) s a0_1 c0_1 x0.Turns) (h1_0 : Sl 3 RGuideRide s a1_0 c1_0 x1.Rides) {r : Int} (hr : Fishref2Leaves x0 x1 = some r) :
  Calls Tryz.prog 56 [.agg [.slice a0_0 x0.Trains.length c0_0, .slice a0_1 x0.Turns.length c0_1].toArray, .agg [.slice a1_0 x1.Rides.length c1_0].toArray].toArray w (fun e w => e = .returned (vi r) ∧ St w s (R)) := by
 refine enter Tryz.func56 rfl rfl rfl fun a hE => ?_
 rw [Fishref2Leaves] at hr
 refine W.seq (W.region ?_)
 refine WL.box hE hS (runs_plain rfl) rfl rfl rfl ?_; clear hE hS a w; intro b51 a w hE hS
 refine WL.box hE hS (runs_plain rfl) rfl rfl rfl ?_; clear hE hS a w; intro b52 a w hE hS
 refine vp hS hE rfl rfl fun a hE => WL.nil ?_
 refine W.seq (W.region (vP hS hE (Gives.fld hE rfl fl29_0) rfl fun a hE => ?_))
 refine vP hS hE (Gives.loadB hE 0 rfl rfl rfl ty27) rfl fun a hE => ?_
 obtain ⟨x53, hx54, hr⟩ := bindS hr
 obtain ⟨hi55, hlt56, hy57⟩ := gx_some hx54
 obtain ⟨cs58, hl59, hR60, hat61⟩ := h1_0.at hy57
 subst hR60
 refine vP hS hE (Gives.idx hE ((0 : Int)).toNat rfl rfl sl27 hi55 hlt56 (h1_0.aok hlt56)) rfl fun a hE => ?_
 refine vP hS hE (Gives.loadA hE rfl (fun w h => hat61 w _ h) ty95) rfl fun a hE => ?_
 refine WL.alloc hE hS (runs_plain rfl) zr95 rfl ?_; clear hE hS a w; intro b62 a w hE hS
 refine WL.storeI hE hS 0 rfl (GuideRide.cells x53) (runs_plain rfl) rfl rfl rfl ty95 rfl rfl rfl rfl ?_; clear hE hS a w; intro a w hE hS
 refine WL.nil ?_
 refine W.seq ?_
 refine W.regionQ (C := fun w => St w s (pc b62 (GuideRide.cells x53).toArray 95 :: pc b52 #[.slice a1_0 x1.Rides.length c1_0] 29 :: pc b51 #[.slice a0_0 x0.Trains.length c0_0, .slice a0_1 x0.Turns.length c0_1] 25 :: R)) mixed (by kernel_rfl) hS.drew ?_
 refine qP hE (Gives.fld hE rfl fl25_0) rfl fun a hE => ?_
 refine qP hE (Gives.loadB hE 2 rfl rfl rfl ty22) rfl fun a hE => ?_
 refine qP hE (Gives.fld hE rfl fl95_0) rfl fun a hE => ?_
 refine qP hE (Gives.loadB hE 0 rfl rfl rfl ty3) rfl fun a hE => ?_
 obtain ⟨x63, hx64, hr⟩ := bindS hr
 obtain ⟨hi65, hlt66, hy67⟩ := gx_some hx64
 obtain ⟨cs68, hl69, hR70, hat71⟩ := h0_0.at hy67
 obtain ⟨a72, c73, a75, c76, rfl, h74, h77⟩ := hR70
 refine qP hE (Gives.idx hE (x53.Train).toNat rfl rfl sl22 hi65 hlt66 (h0_0.aok hlt66)) rfl fun a hE => ?_
 refine qP hE (Gives.fld hE rfl fl111_2) rfl fun a hE => ?_
 refine qP hE (Gives.load1 hE rfl (fun w h => (hat71 w _ h).one rfl) ty109) rfl fun a hE => ?_
 refine qP hE (Gives.fld hE rfl fl95_1) rfl fun a hE => ?_
 refine qP hE (Gives.loadB hE 0 rfl rfl rfl ty3) rfl fun a hE => ?_
 obtain ⟨x78, hx79, hr⟩ := bindS hr
 obtain ⟨hi80, hlt81, hy82⟩ := gx_some hx79
 obtain ⟨cs83, hl84, hR85, hat86⟩ := h74.at hy82
 subst hR85
 refine qP hE (Gives.idx hE (x53.On).toNat rfl rfl sl109 hi80 hlt81 (h74.aok hlt81)) rfl fun a hE => ?_
 refine qP hE (Gives.fld hE rfl fl99_3) rfl fun a hE => ?_
 refine qP hE (Gives.load1 hE rfl (fun w h => (hat86 w _ h).one rfl) ty3) rfl fun a hE => ?_
 refine qP hE (Gives.p hE rfl) rfl fun a hE => ?_
 refine QL.nil ?_; clear hS w; intro w hS
 refine W.ret ?_
 refine finG (fn := Tryz.f56) (rs := [.tmp 4]) (vs := [_]) hE rfl ⟨rfl, trivial⟩ ?_
 obtain rfl := Option.some.inj hr
 replace hS := hS.tail
 replace hS := hS.tail
 replace hS := hS.tail
 exact ⟨rfl, hS⟩
set_option maxHeartbeats 8000000 in
theorem Fishref2Arrives_ok  {w : World} {s : Sg} {R : List HP} {x0 : ApiDay} {a0_0 : Option Addr} {c0_0 : Nat} {a0_1 : Option Addr} {c0_1 : Nat} {x1 : GuideJourney} {a1_0 : Option Addr} {c1_0 : Nat} (hS : St w s (R)) (h0_0 : Sl 4 RApiTrain s a0_0 c0_0 x0.Trains) (_h0_1 : Sl 1 (RL 1 (RI .i64)) s a0_1 c0_1 x0.Turns) (h1_0 : Sl 3 RGuideRide s a1_0 c1_0 x1.Rides) {r : Int} (hr : Fishref2Arrives x0 x1 = some r) :
  Calls Tryz.prog 57 [.agg [.slice a0_0 x0.Trains.length c0_0, .slice a0_1 x0.Turns.length c0_1].toArray, .agg [.slice a1_0 x1.Rides.length c1_0].toArray].toArray w (fun e w => e = .returned (vi r) ∧ St w s (R)) := by
 refine enter Tryz.func57 rfl rfl rfl fun a hE => ?_
 rw [Fishref2Arrives] at hr
 refine W.seq (W.region ?_)
 refine WL.box hE hS (runs_plain rfl) rfl rfl rfl ?_; clear hE hS a w; intro b51 a w hE hS
 refine WL.box hE hS (runs_plain rfl) rfl rfl rfl ?_; clear hE hS a w; intro b52 a w hE hS
 refine vp hS hE rfl rfl fun a hE => WL.nil ?_
 refine W.seq (W.region (vP hS hE (Gives.fld hE rfl fl29_0) rfl fun a hE => ?_))
 refine vP hS hE (Gives.loadB hE 0 rfl rfl rfl ty27) rfl fun a hE => ?_
 refine vP hS hE (Gives.fld hE rfl fl29_0) rfl fun a hE => ?_
 refine vP hS hE (Gives.loadB hE 0 rfl rfl rfl ty27) rfl fun a hE => ?_
 refine vP hS hE (Gives.len hE rfl sl27) rfl fun a hE => ?_
 refine vp hS hE rfl rfl fun a hE => ?_
 obtain ⟨x53, hx54, hr⟩ := bindS hr
 obtain ⟨hi55, hlt56, hy57⟩ := gx_some hx54
 obtain ⟨cs58, hl59, hR60, hat61⟩ := h1_0.at hy57
 subst hR60
 refine vP hS hE (Gives.idx hE (w64 (((x1.Rides).length : Int) - 1)).toNat rfl rfl sl27 hi55 hlt56 (h1_0.aok hlt56)) rfl fun a hE => ?_
 refine vP hS hE (Gives.loadA hE rfl (fun w h => hat61 w _ h) ty95) rfl fun a hE => ?_
 refine WL.alloc hE hS (runs_plain rfl) zr95 rfl ?_; clear hE hS a w; intro b62 a w hE hS
 refine WL.storeI hE hS 0 rfl (GuideRide.cells x53) (runs_plain rfl) rfl rfl rfl ty95 rfl rfl rfl rfl ?_; clear hE hS a w; intro a w hE hS
 refine WL.nil ?_
 refine W.seq ?_
 refine W.regionQ (C := fun w => St w s (pc b62 (GuideRide.cells x53).toArray 95 :: pc b52 #[.slice a1_0 x1.Rides.length c1_0] 29 :: pc b51 #[.slice a0_0 x0.Trains.length c0_0, .slice a0_1 x0.Turns.length c0_1] 25 :: R)) mixed (by kernel_rfl) hS.drew ?_
 refine qP hE (Gives.fld hE rfl fl25_0) rfl fun a hE => ?_
 refine qP hE (Gives.loadB hE 2 rfl rfl rfl ty22) rfl fun a hE => ?_
 refine qP hE (Gives.fld hE rfl fl95_0) rfl fun a hE => ?_
 refine qP hE (Gives.loadB hE 0 rfl rfl rfl ty3) rfl fun a hE => ?_
 obtain ⟨x63, hx64, hr⟩ := bindS hr
 obtain ⟨hi65, hlt66, hy67⟩ := gx_some hx64
 obtain ⟨cs68, hl69, hR70, hat71⟩ := h0_0.at hy67
 obtain ⟨a72, c73, a75, c76, rfl, h74, h77⟩ := hR70
 refine qP hE (Gives.idx hE (x53.Train).toNat rfl rfl sl22 hi65 hlt66 (h0_0.aok hlt66)) rfl fun a hE => ?_
 refine qP hE (Gives.fld hE rfl fl111_2) rfl fun a hE => ?_
 refine qP hE (Gives.load1 hE rfl (fun w h => (hat71 w _ h).one rfl) ty109) rfl fun a hE => ?_
 refine qP hE (Gives.fld hE rfl fl95_2) rfl fun a hE => ?_
 refine qP hE (Gives.loadB hE 0 rfl rfl rfl ty3) rfl fun a hE => ?_
 obtain ⟨x78, hx79, hr⟩ := bindS hr
 obtain ⟨hi80, hlt81, hy82⟩ := gx_some hx79
 obtain ⟨cs83, hl84, hR85, hat86⟩ := h74.at hy82
 subst hR85
 refine qP hE (Gives.idx hE (x53.Off).toNat rfl rfl sl109 hi80 hlt81 (h74.aok hlt81)) rfl fun a hE => ?_
 refine qP hE (Gives.fld hE rfl fl99_2) rfl fun a hE => ?_
 refine qP hE (Gives.load1 hE rfl (fun w h => (hat86 w _ h).one rfl) ty3) rfl fun a hE => ?_
 refine qP hE (Gives.p hE rfl) rfl fun a hE => ?_
 refine QL.nil ?_; clear hS w; intro w hS
 refine W.ret ?_
 refine finG (fn := Tryz.f57) (rs := [.tmp 4]) (vs := [_]) hE rfl ⟨rfl, trivial⟩ ?_
 obtain rfl := Option.some.inj hr
 replace hS := hS.tail
 replace hS := hS.tail
 replace hS := hS.tail
 exact ⟨rfl, hS⟩
set_option maxHeartbeats 8000000 in
theorem Fishref2Cases_1_v1_ok : ∀ {fu : Nat} {w : World} {s : Sg} {R : List HP} {pb0 : Nat} {pb1 : Nat} {pb2 : Nat} {pb3 : Nat} {pb4 : Nat} {pb5 : Nat} {pb6 : Nat} {pb7 : Nat} {pb8 : Nat} {pb9 : Nat} {x0 : Int} {x1 : Int} {y0 : List Int} {a_v0 : Option Addr} {c_v0 n_v0 : Nat} {cs_v0 : List Value} {y1 : Int} {y2 : GuideJourney} {a_y2_0 : Option Addr} {c_y2_0 : Nat} {y3 : ApiDay} {a_y3_0 : Option Addr} {c_y3_0 : Nat} {a_y3_1 : Option Addr} {c_y3_1 : Nat} {y4_0 : List (Int × Int)} {b_v1 : Nat} {y5 : Int} {y6 : Int} {y7 : Int} {y8 : List GuideOdds} {a_y8_0 : Option Addr} {c_y8_0 : Nat} (_hS : St w s (pc pb0 #[.slice a_v0 n_v0 c_v0] 65 :: pc pb1 #[vi y1] 3 :: pc pb2 #[.slice a_y2_0 y2.Rides.length c_y2_0] 29 :: pc pb3 #[.slice a_y3_0 y3.Trains.length c_y3_0, .slice a_y3_1 y3.Turns.length c_y3_1] 25 :: pc pb4 #[.map (some b_v1)] 167 :: pc pb5 #[vi y5] 3 :: pc pb6 #[vi y6] 3 :: pc pb7 #[vi y7] 3 :: pc pb8 #[.slice a_y8_0 y8.length c_y8_0] 26 :: pc pb9 #[.func (.func 104) #[] #[pp pb0, pp pb1, pp pb2, pp pb3, pp pb4, pp pb5, pp pb6, pp pb7, pp pb8, pp pb9]] 182 :: vecC 3 1 a_v0 c_v0 n_v0 cs_v0 :: mapC keyI.f (Value.int .i64) b_v1 y4_0 :: R)) (_h_v0 : Ev 1 (RI .i64) s cs_v0 y0) (_hn_v0 : y0.length = n_v0) (_h_y2_0 : Sl 3 RGuideRide s a_y2_0 c_y2_0 y2.Rides) (_h_y3_0 : Sl 4 RApiTrain s a_y3_0 c_y3_0 y3.Trains) (_h_y3_1 : Sl 1 (RL 1 (RI .i64)) s a_y3_1 c_y3_1 y3.Turns) (_h_y8_0 : Sl 3 RGuideOdds s a_y8_0 c_y8_0 y8) {r : (List (Int × Int)) × Int × Int × Int} (_hr : Fishref2Cases_1_v1 fu x0 x1 y0 y1 y2 y3 y4_0 y5 y6 y7 y8 = some r),
  Calls Tryz.prog 104 [vi x0, vi x1, pp pb0, pp pb1, pp pb2, pp pb3, pp pb4, pp pb5, pp pb6, pp pb7, pp pb8, pp pb9].toArray w (fun e w => e = .returned (.tuple #[]) ∧ St w s (pc pb0 #[.slice a_v0 n_v0 c_v0] 65 :: pc pb1 #[vi r.2.1] 3 :: pc pb2 #[.slice a_y2_0 y2.Rides.length c_y2_0] 29 :: pc pb3 #[.slice a_y3_0 y3.Trains.length c_y3_0, .slice a_y3_1 y3.Turns.length c_y3_1] 25 :: pc pb4 #[.map (some b_v1)] 167 :: pc pb5 #[vi y5] 3 :: pc pb6 #[vi r.2.2.1] 3 :: pc pb7 #[vi r.2.2.2] 3 :: pc pb8 #[.slice a_y8_0 y8.length c_y8_0] 26 :: pc pb9 #[.func (.func 104) #[] #[pp pb0, pp pb1, pp pb2, pp pb3, pp pb4, pp pb5, pp pb6, pp pb7, pp pb8, pp pb9]] 182 :: vecC 3 1 a_v0 c_v0 n_v0 cs_v0 :: mapC keyI.f (Value.int .i64) b_v1 r.1 :: R)) := by
 intro fu
 induction fu with
 | zero => intro w s R pb0 pb1 pb2 pb3 pb4 pb5 pb6 pb7 pb8 pb9 x0 x1 y0 a_v0 c_v0 n_v0 cs_v0 y1 y2 a_y2_0 c_y2_0 y3 a_y3_0 c_y3_0 a_y3_1 c_y3_1 y4_0 b_v1 y5 y6 y7 y8 a_y8_0 c_y8_0 hS h_v0 hn_v0 h_y2_0 h_y3_0 h_y3_1 h_y8_0 r hr; rw [Fishref2Cases_1_v1] at hr; exact absurd hr (by simp)
 | succ fu ih_Fishref2Cases_1_v1 =>
  intro w s R pb0 pb1 pb2 pb3 pb4 pb5 pb6 pb7 pb8 pb9 x0 x1 y0 a_v0 c_v0 n_v0 cs_v0 y1 y2 a_y2_0 c_y2_0 y3 a_y3_0 c_y3_0 a_y3_1 c_y3_1 y4_0 b_v1 y5 y6 y7 y8 a_y8_0 c_y8_0 hS h_v0 hn_v0 h_y2_0 h_y3_0 h_y3_1 h_y8_0 r hr
  rw [Fishref2Cases_1_v1] at hr
  generalize Fishref2Cases_1_v1 fu = self_Fishref2Cases_1_v1 at hr ih_Fishref2Cases_1_v1
  refine enter Tryz.func104 rfl rfl rfl fun a hE => ?_
  subst hn_v0
  refine W.seq ?_
  refine W.seq (W.region (vp hS hE rfl rfl fun a hE => ?_))
  refine vP hS hE (Gives.loadB hE 0 rfl rfl rfl ty65) rfl fun a hE => ?_
  refine vP hS hE (Gives.len hE rfl sl65) rfl fun a hE => ?_
  refine vp hS hE rfl rfl fun a hE => WL.nil ?_
  refine W.cond hE rfl (fun hc55 => ?_) (fun hc55 => ?_)
  ·replace hr := iteT hc55 hr
   refine W.seq (W.region (vP hS hE (Gives.loadB hE 1 rfl rfl rfl ty3) rfl fun a hE => ?_))
   refine v2 hS hE rfl rfl rfl rfl fun a hE => ?_
   refine WL.storeI hE hS 1 rfl [vi (w64 (y1 + x1))] (runs_plain rfl) rfl rfl rfl ty3 rfl rfl rfl rfl ?_; clear hE hS a w; intro a w hE hS
   refine WL.nil ?_
   refine W.seq ?_
   refine W.seq (W.region (vp hS hE rfl rfl fun a hE => WL.nil ?_))
   obtain ⟨q57, hq56, hr⟩ := bindS hr
   refine W.cut (fun a w => ∃ (q62 : Int), (.next q62) = q57 ∧ Rep a 151 [(1, vi x1), (4, pp pb2), (6, pp pb4), (8, pp pb6), (9, pp pb7)] ∧ St w s (pc pb0 #[.slice a_v0 y0.length c_v0] 65 :: pc pb1 #[vi (w64 (y1 + x1))] 3 :: pc pb2 #[.slice a_y2_0 y2.Rides.length c_y2_0] 29 :: pc pb3 #[.slice a_y3_0 y3.Trains.length c_y3_0, .slice a_y3_1 y3.Turns.length c_y3_1] 25 :: pc pb4 #[.map (some b_v1)] 167 :: pc pb5 #[vi y5] 3 :: pc pb6 #[vi y6] 3 :: pc pb7 #[vi y7] 3 :: pc pb8 #[.slice a_y8_0 y8.length c_y8_0] 26 :: pc pb9 #[.func (.func 104) #[] #[pp pb0, pp pb1, pp pb2, pp pb3, pp pb4, pp pb5, pp pb6, pp pb7, pp pb8, pp pb9]] 182 :: vecC 3 1 a_v0 c_v0 y0.length cs_v0 :: mapC keyI.f (Value.int .i64) b_v1 y4_0 :: R)) ?_ ?_
   ·refine W.block ?_
    refine W.loop (fun m a w => ∃ (n58 : Nat), ∃ (q62 : Int), n58 = m ∧ Fishref2Cases_1_v1.loop1 x1 y1 y2 y3 y4_0 y5 y6 y7 n58 q62 = some q57 ∧ Rep a 151 [(1, vi x1), (4, pp pb2), (5, pp pb3), (6, pp pb4), (7, pp pb5), (8, pp pb6), (9, pp pb7), (14, vi q62)] ∧ St w s (pc pb0 #[.slice a_v0 y0.length c_v0] 65 :: pc pb1 #[vi (w64 (y1 + x1))] 3 :: pc pb2 #[.slice a_y2_0 y2.Rides.length c_y2_0] 29 :: pc pb3 #[.slice a_y3_0 y3.Trains.length c_y3_0, .slice a_y3_1 y3.Turns.length c_y3_1] 25 :: pc pb4 #[.map (some b_v1)] 167 :: pc pb5 #[vi y5] 3 :: pc pb6 #[vi y6] 3 :: pc pb7 #[vi y7] 3 :: pc pb8 #[.slice a_y8_0 y8.length c_y8_0] 26 :: pc pb9 #[.func (.func 104) #[] #[pp pb0, pp pb1, pp pb2, pp pb3, pp pb4, pp pb5, pp pb6, pp pb7, pp pb8, pp pb9]] 182 :: vecC 3 1 a_v0 c_v0 y0.length cs_v0 :: mapC keyI.f (Value.int .i64) b_v1 y4_0 :: R)) (m := fu) ⟨fu, 1, rfl, hq56, hE.pick _ ⟨rfl, rfl, rfl, rfl, rfl, rfl, rfl, rfl, trivial⟩, hS⟩ ?_
    clear hE hS a w hq56; rintro m59 a w ⟨n58, q62, rfl, hq56, hE, hS⟩
    refine W.gen fun K63 hK63 => ?_
    rcases n58 with _ | n58
    ·rw [Fishref2Cases_1_v1.loop1] at hq56; exact absurd hq56 (by simp)
    rw [Fishref2Cases_1_v1.loop1] at hq56
    refine W.seq ?_
    refine W.seq (W.region (vp hS hE rfl rfl fun a hE => ?_))
    refine vP hS hE (Gives.fld hE rfl fl29_0) rfl fun a hE => ?_
    refine vP hS hE (Gives.loadB hE 2 rfl rfl rfl ty27) rfl fun a hE => ?_
    refine vP hS hE (Gives.len hE rfl sl27) rfl fun a hE => ?_
    refine vp hS hE rfl rfl fun a hE => WL.nil ?_
    refine W.cond hE rfl (fun hc64 => ?_) (fun hc64 => ?_)
    ·replace hq56 := iteT hc64 hq56
     refine W.skip ?_
     refine W.seq ?_
     refine W.block ?_
     refine W.seq ?_
     refine W.gen fun K65 hK65 => ?_
     refine W.regionE (dup (fun w => St w s (pc pb0 #[.slice a_v0 y0.length c_v0] 65 :: pc pb1 #[vi (w64 (y1 + x1))] 3 :: pc pb2 #[.slice a_y2_0 y2.Rides.length c_y2_0] 29 :: pc pb3 #[.slice a_y3_0 y3.Trains.length c_y3_0, .slice a_y3_1 y3.Turns.length c_y3_1] 25 :: pc pb4 #[.map (some b_v1)] 167 :: pc pb5 #[vi y5] 3 :: pc pb6 #[vi y6] 3 :: pc pb7 #[vi y7] 3 :: pc pb8 #[.slice a_y8_0 y8.length c_y8_0] 26 :: pc pb9 #[.func (.func 104) #[] #[pp pb0, pp pb1, pp pb2, pp pb3, pp pb4, pp pb5, pp pb6, pp pb7, pp pb8, pp pb9]] 182 :: vecC 3 1 a_v0 c_v0 y0.length cs_v0 :: mapC keyI.f (Value.int .i64) b_v1 y4_0 :: R))) (fun b i => cond b ([0, 1, 2, 3, 4, 5, 6, 7, 8, 9, 10, 11, 12, 13, 14].contains i) ([0, 1, 2, 3, 4, 5, 6, 7, 8, 9, 10, 11, 12, 13, 14].contains i)) mixed ?_
     replace hS := hS.drew
     refine tP (i := 0) hE rfl (by kernel_rfl) (Gives.fld hE rfl fl29_0) rfl hS hS fun a hE => ?_
     refine tT (i := 1) true rfl hE rfl (by kernel_rfl) (Gives.loadB hE 2 rfl rfl rfl ty27) rfl hS hS fun a hE => ?_
     refine tP (i := 2) hE rfl (by kernel_rfl) (Gives.p hE rfl) rfl hS hS fun a hE => ?_
     refine tP (i := 3) hE rfl (by kernel_rfl) (Gives.p hE rfl) rfl hS hS fun a hE => ?_
     obtain ⟨x66, hx67, hq56⟩ := bindS hq56
     obtain ⟨hi68, hlt69, hy70⟩ := gx_some hx67
     obtain ⟨cs71, hl72, hR73, hat74⟩ := h_y2_0.at hy70
     subst hR73
     refine tP (i := 4) hE rfl (by kernel_rfl) (Gives.idx hE (w64 (q62 - 1)).toNat rfl rfl sl27 hi68 hlt69 (h_y2_0.aok hlt69)) rfl hS hS fun a hE => ?_
     refine tT (i := 5) true rfl hE rfl (by kernel_rfl) (Gives.loadA hE rfl (fun w h => hat74 w _ h) ty95) rfl hS hS fun a hE => ?_
     refine tP (i := 6) hE rfl (by kernel_rfl) (Gives.fld hE rfl fl29_0) rfl hS hS fun a hE => ?_
     refine tT (i := 7) true rfl hE rfl (by kernel_rfl) (Gives.loadB hE 2 rfl rfl rfl ty27) rfl hS hS fun a hE => ?_
     refine tP (i := 8) hE rfl (by kernel_rfl) (Gives.p hE rfl) rfl hS hS fun a hE => ?_
     obtain ⟨x75, hx76, hq56⟩ := bindS hq56
     obtain ⟨hi77, hlt78, hy79⟩ := gx_some hx76
     obtain ⟨cs80, hl81, hR82, hat83⟩ := h_y2_0.at hy79
     subst hR82
     refine tP (i := 9) hE rfl (by kernel_rfl) (Gives.idx hE (q62).toNat rfl rfl sl27 hi77 hlt78 (h_y2_0.aok hlt78)) rfl hS hS fun a hE => ?_
     refine tT (i := 10) true rfl hE rfl (by kernel_rfl) (Gives.loadA hE rfl (fun w h => hat83 w _ h) ty95) rfl hS hS fun a hE => ?_
     suffices key : ∀ b84 b85 (a : Act) (w : World), Sl 3 RGuideRide s a_y2_0 c_y2_0 y2.Rides → Sl 4 RApiTrain s a_y3_0 c_y3_0 y3.Trains → Sl 1 (RL 1 (RI .i64)) s a_y3_1 c_y3_1 y3.Turns → Sl 3 RGuideOdds s a_y8_0 c_y8_0 y8 → Ev 1 (RI .i64) s cs_v0 y0 → Rep a 151 [(1, vi x1), (4, pp pb2), (5, pp pb3), (6, pp pb4), (7, pp pb5), (8, pp pb6), (9, pp pb7), (14, vi q62), (15, pp b84), (16, pp b85)] → St w s (pc b85 (GuideRide.cells x75).toArray 95 :: pc b84 (GuideRide.cells x66).toArray 95 :: pc pb0 #[.slice a_v0 y0.length c_v0] 65 :: pc pb1 #[vi (w64 (y1 + x1))] 3 :: pc pb2 #[.slice a_y2_0 y2.Rides.length c_y2_0] 29 :: pc pb3 #[.slice a_y3_0 y3.Trains.length c_y3_0, .slice a_y3_1 y3.Turns.length c_y3_1] 25 :: pc pb4 #[.map (some b_v1)] 167 :: pc pb5 #[vi y5] 3 :: pc pb6 #[vi y6] 3 :: pc pb7 #[vi y7] 3 :: pc pb8 #[.slice a_y8_0 y8.length c_y8_0] 26 :: pc pb9 #[.func (.func 104) #[] #[pp pb0, pp pb1, pp pb2, pp pb3, pp pb4, pp pb5, pp pb6, pp pb7, pp pb8, pp pb9]] 182 :: vecC 3 1 a_v0 c_v0 y0.length cs_v0 :: mapC keyI.f (Value.int .i64) b_v1 y4_0 :: R) → K65.nor a w by
      refine Rg.many 11 [12] (by kernel_rfl) ⟨?_, ?_, trivial⟩
      ·refine Br.mk (i := 11) true true rfl (by kernel_rfl) (by kernel_rfl) ?_
       refine WL.alloc hE hS (runs_plain rfl) zr95 rfl ?_; clear hE hS a w; intro b84 a w hE hS
       refine WL.nil ?_
       refine ⟨⟨fun _ => (hS.tail), fun _ => (hS.tail)⟩, ?_⟩
       refine Rg.one (i := 12) true true rfl (by kernel_rfl) (by kernel_rfl) (by kernel_rfl) ?_
       refine WL.alloc hE hS (runs_plain rfl) zr95 rfl ?_; clear hE hS a w; intro b85 a w hE hS
       refine WL.nil ?_
       refine ⟨⟨fun _ => ((hS.tail).tail), fun _ => ((hS.tail).tail)⟩, ?_⟩
       refine Rg.one (i := 13) true true rfl (by kernel_rfl) (by kernel_rfl) (by kernel_rfl) ?_
       refine WL.storeI hE hS 1 rfl (GuideRide.cells x66) (runs_plain rfl) rfl rfl rfl ty95 rfl rfl rfl rfl ?_; clear hE hS a w; intro a w hE hS
       refine WL.nil ?_
       refine ⟨⟨fun _ => ((hS.tail).tail), fun _ => ((hS.tail).tail)⟩, ?_⟩
       refine Rg.one (i := 14) true true rfl (by kernel_rfl) (by kernel_rfl) (by kernel_rfl) ?_
       refine WL.storeI hE hS 0 rfl (GuideRide.cells x75) (runs_plain rfl) rfl rfl rfl ty95 rfl rfl rfl rfl ?_; clear hE hS a w; intro a w hE hS
       refine WL.nil ?_
       refine ⟨⟨fun _ => ((hS.tail).tail), fun _ => ((hS.tail).tail)⟩, ?_⟩
       refine Rg.done (by kernel_rfl) ?_
       exact key _ _ _ _ h_y2_0 h_y3_0 h_y3_1 h_y8_0 h_v0 (hE.pick _ ⟨rfl, rfl, rfl, rfl, rfl, rfl, rfl, rfl, rfl, rfl, trivial⟩) hS
      refine Br.mk (i := 12) true true rfl (by kernel_rfl) (by kernel_rfl) ?_
      refine WL.alloc hE hS (runs_plain rfl) zr95 rfl ?_; clear hE hS a w; intro b85 a w hE hS
      refine WL.nil ?_
      refine ⟨⟨fun _ => (hS.tail), fun _ => (hS.tail)⟩, ?_⟩
      refine Rg.one (i := 11) true true rfl (by kernel_rfl) (by kernel_rfl) (by kernel_rfl) ?_
      refine WL.alloc hE hS (runs_plain rfl) zr95 rfl ?_; clear hE hS a w; intro b84 a w hE hS
      refine WL.nil ?_
      refine ⟨⟨fun _ => ((hS.tail).tail), fun _ => ((hS.tail).tail)⟩, ?_⟩
      refine Rg.one (i := 13) true true rfl (by kernel_rfl) (by kernel_rfl) (by kernel_rfl) ?_
      refine WL.storeI hE hS 0 rfl (GuideRide.cells x66) (runs_plain rfl) rfl rfl rfl ty95 rfl rfl rfl rfl ?_; clear hE hS a w; intro a w hE hS
      refine WL.nil ?_
      refine ⟨⟨fun _ => ((hS.tail).tail), fun _ => ((hS.tail).tail)⟩, ?_⟩
      refine Rg.one (i := 14) true true rfl (by kernel_rfl) (by kernel_rfl) (by kernel_rfl) ?_
      refine WL.storeI hE hS 1 rfl (GuideRide.cells x75) (runs_plain rfl) rfl rfl rfl ty95 rfl rfl rfl rfl ?_; clear hE hS a w; intro a w hE hS
      refine WL.nil ?_
      refine ⟨⟨fun _ => ((hS.tail).tail), fun _ => ((hS.tail).tail)⟩, ?_⟩
      refine Rg.done (by kernel_rfl) ?_
      replace hS := hS.order [1, 0, 0, 0, 0, 0, 0, 0, 0, 0, 0, 0, 0, 0] rfl
      exact key _ _ _ _ h_y2_0 h_y3_0 h_y3_1 h_y8_0 h_v0 (hE.pick _ ⟨rfl, rfl, rfl, rfl, rfl, rfl, rfl, rfl, rfl, rfl, trivial⟩) hS
     clear hE hS a w; intro b84 b85 a w h_y2_0 h_y3_0 h_y3_1 h_y8_0 h_v0 hE hS
     subst hK65
     refine W.seq ?_
     refine W.regionQ (C := fun w => St w s (pc b85 (GuideRide.cells x75).toArray 95 :: pc b84 (GuideRide.cells x66).toArray 95 :: pc pb0 #[.slice a_v0 y0.length c_v0] 65 :: pc pb1 #[vi (w64 (y1 + x1))] 3 :: pc pb2 #[.slice a_y2_0 y2.Rides.length c_y2_0] 29 :: pc pb3 #[.slice a_y3_0 y3.Trains.length c_y3_0, .slice a_y3_1 y3.Turns.length c_y3_1] 25 :: pc pb4 #[.map (some b_v1)] 167 :: pc pb5 #[vi y5] 3 :: pc pb6 #[vi y6] 3 :: pc pb7 #[vi y7] 3 :: pc pb8 #[.slice a_y8_0 y8.length c_y8_0] 26 :: pc pb9 #[.func (.func 104) #[] #[pp pb0, pp pb1, pp pb2, pp pb3, pp pb4, pp pb5, pp pb6, pp pb7, pp pb8, pp pb9]] 182 :: vecC 3 1 a_v0 c_v0 y0.length cs_v0 :: mapC keyI.f (Value.int .i64) b_v1 y4_0 :: R)) mixed (by kernel_rfl) hS.drew ?_
     refine qP hE (Gives.fld hE rfl fl25_0) rfl fun a hE => ?_
     refine qP hE (Gives.loadB hE 5 rfl rfl rfl ty22) rfl fun a hE => ?_
     refine qP hE (Gives.fld hE rfl fl95_0) rfl fun a hE => ?_
     refine qP hE (Gives.loadB hE 1 rfl rfl rfl ty3) rfl fun a hE => ?_
     obtain ⟨x87, hx88, hq56⟩ := bindS hq56
     obtain ⟨hi89, hlt90, hy91⟩ := gx_some hx88
     obtain ⟨cs92, hl93, hR94, hat95⟩ := h_y3_0.at hy91
     obtain ⟨a96, c97, a99, c100, rfl, h98, h101⟩ := hR94
     refine qP hE (Gives.idx hE (x66.Train).toNat rfl rfl sl22 hi89 hlt90 (h_y3_0.aok hlt90)) rfl fun a hE => ?_
     refine qP hE (Gives.fld hE rfl fl111_2) rfl fun a hE => ?_
     refine qP hE (Gives.load1 hE rfl (fun w h => (hat95 w _ h).one rfl) ty109) rfl fun a hE => ?_
     refine qP hE (Gives.fld hE rfl fl95_2) rfl fun a hE => ?_
     refine qP hE (Gives.loadB hE 1 rfl rfl rfl ty3) rfl fun a hE => ?_
     obtain ⟨x102, hx103, hq56⟩ := bindS hq56
     obtain ⟨hi104, hlt105, hy106⟩ := gx_some hx103
     obtain ⟨cs107, hl108, hR109, hat110⟩ := h98.at hy106
     subst hR109
     refine qP hE (Gives.idx hE (x66.Off).toNat rfl rfl sl109 hi104 hlt105 (h98.aok hlt105)) rfl fun a hE => ?_
     refine qP hE (Gives.fld hE rfl fl99_2) rfl fun a hE => ?_
     refine qP hE (Gives.load1 hE rfl (fun w h => (hat110 w _ h).one rfl) ty3) rfl fun a hE => ?_
     refine qP hE (Gives.loadB hE 6 rfl rfl rfl ty167) rfl fun a hE => ?_
     refine qP hE (Gives.fld hE rfl fl95_0) rfl fun a hE => ?_
     refine qP hE (Gives.loadB hE 1 rfl rfl rfl ty3) rfl fun a hE => ?_
     refine qP hE (Gives.mapGet keyI hE 13 (k := x66.Train) (z := 0) rfl rfl rfl mp167 zm3) rfl fun a hE => ?_
     refine qP hE (Gives.p hE rfl) rfl fun a hE => ?_
     refine qP hE (Gives.loadB hE 7 rfl rfl rfl ty3) rfl fun a hE => ?_
     refine qP hE (Gives.p hE rfl) rfl fun a hE => ?_
     refine qP hE (Gives.fld hE rfl fl25_0) rfl fun a hE => ?_
     refine qP hE (Gives.loadB hE 5 rfl rfl rfl ty22) rfl fun a hE => ?_
     refine qP hE (Gives.fld hE rfl fl95_0) rfl fun a hE => ?_
     refine qP hE (Gives.loadB hE 0 rfl rfl rfl ty3) rfl fun a hE => ?_
     obtain ⟨x111, hx112, hq56⟩ := bindS hq56
     obtain ⟨hi113, hlt114, hy115⟩ := gx_some hx112
     obtain ⟨cs116, hl117, hR118, hat119⟩ := h_y3_0.at hy115
     obtain ⟨a120, c121, a123, c124, rfl, h122, h125⟩ := hR118
     refine qP hE (Gives.idx hE (x75.Train).toNat rfl rfl sl22 hi113 hlt114 (h_y3_0.aok hlt114)) rfl fun a hE => ?_
     refine qP hE (Gives.fld hE rfl fl111_2) rfl fun a hE => ?_
     refine qP hE (Gives.load1 hE rfl (fun w h => (hat119 w _ h).one rfl) ty109) rfl fun a hE => ?_
     refine qP hE (Gives.fld hE rfl fl95_1) rfl fun a hE => ?_
     refine qP hE (Gives.loadB hE 0 rfl rfl rfl ty3) rfl fun a hE => ?_
     obtain ⟨x126, hx127, hq56⟩ := bindS hq56
     obtain ⟨hi128, hlt129, hy130⟩ := gx_some hx127
     obtain ⟨cs131, hl132, hR133, hat134⟩ := h122.at hy130
     subst hR133
     refine qP hE (Gives.idx hE (x75.On).toNat rfl rfl sl109 hi128 hlt129 (h122.aok hlt129)) rfl fun a hE => ?_
     refine qP hE (Gives.fld hE rfl fl99_3) rfl fun a hE => ?_
     refine qP hE (Gives.load1 hE rfl (fun w h => (hat134 w _ h).one rfl) ty3) rfl fun a hE => ?_
     refine qP hE (Gives.loadB hE 6 rfl rfl rfl ty167) rfl fun a hE => ?_
     refine qP hE (Gives.fld hE rfl fl95_0) rfl fun a hE => ?_
     refine qP hE (Gives.loadB hE 0 rfl rfl rfl ty3) rfl fun a hE => ?_
     refine qP hE (Gives.mapGet keyI hE 13 (k := x75.Train) (z := 0) rfl rfl rfl mp167 zm3) rfl fun a hE => ?_
     refine qP hE (Gives.p hE rfl) rfl fun a hE => ?_
     refine qP hE (Gives.p hE rfl) rfl fun a hE => ?_
     refine QL.nil ?_; clear hS w; intro w hS
     refine W.cond hE rfl (fun hc135 => ?_) (fun hc135 => ?_)
     ·replace hq56 := iteT hc135 hq56
      refine W.ret ?_
      subst hK63
      rw [← Option.some.inj hq56] at hr
      dsimp only at hr
      refine finG (fn := Tryz.f104) (rs := []) (vs := []) hE rfl trivial ?_
      obtain rfl := Option.some.inj hr
      replace hS := hS.tail
      replace hS := hS.tail
      exact ⟨rfl, hS⟩
     replace hq56 := iteF hc135 hq56
     refine W.skip ?_
     refine W.region ?_
     refine v2 hS hE rfl rfl rfl rfl fun a hE => ?_
     refine vp hS hE rfl rfl fun a hE => WL.nil ?_
     replace hS := hS.tail
     replace hS := hS.tail
     subst hK63
     exact ⟨n58, Nat.lt_succ_self _, n58, (w64 (q62 + 1)), rfl, hq56, hE.pick _ ⟨rfl, rfl, rfl, rfl, rfl, rfl, rfl, rfl, trivial⟩, hS⟩
    replace hq56 := iteF hc64 hq56
    subst hK63
    refine W.exit rfl ?_
    exact ⟨q62, Option.some.inj hq56, hE.pick _ ⟨rfl, rfl, rfl, rfl, rfl, trivial⟩, hS⟩
   clear hE hS a w; rintro a w ⟨q62, rfl, hE, hS⟩
   dsimp only at hr
   refine W.seq (W.region (vP hS hE (Gives.loadB hE 6 rfl rfl rfl ty3) rfl fun a hE => ?_))
   refine v2 hS hE rfl rfl rfl rfl fun a hE => ?_
   refine WL.storeI hE hS 6 rfl [vi (w64 (y6 + x1))] (runs_plain rfl) rfl rfl rfl ty3 rfl rfl rfl rfl ?_; clear hE hS a w; intro a w hE hS
   refine WL.nil ?_
   refine W.seq ?_
   refine W.gen fun K136 hK136 => ?_
   refine W.regionE (sel (fun w => St w s (pc pb0 #[.slice a_v0 y0.length c_v0] 65 :: pc pb1 #[vi (w64 (y1 + x1))] 3 :: pc pb2 #[.slice a_y2_0 y2.Rides.length c_y2_0] 29 :: pc pb3 #[.slice a_y3_0 y3.Trains.length c_y3_0, .slice a_y3_1 y3.Turns.length c_y3_1] 25 :: pc pb4 #[.map (some b_v1)] 167 :: pc pb5 #[vi y5] 3 :: pc pb6 #[vi (w64 (y6 + x1))] 3 :: pc pb7 #[vi y7] 3 :: pc pb8 #[.slice a_y8_0 y8.length c_y8_0] 26 :: pc pb9 #[.func (.func 104) #[] #[pp pb0, pp pb1, pp pb2, pp pb3, pp pb4, pp pb5, pp pb6, pp pb7, pp pb8, pp pb9]] 182 :: vecC 3 1 a_v0 c_v0 y0.length cs_v0 :: mapC keyI.f (Value.int .i64) b_v1 y4_0 :: R)) (fun w => St w s (pc pb0 #[.slice a_v0 y0.length c_v0] 65 :: pc pb1 #[vi (w64 (y1 + x1))] 3 :: pc pb2 #[.slice a_y2_0 y2.Rides.length c_y2_0] 29 :: pc pb3 #[.slice a_y3_0 y3.Trains.length c_y3_0, .slice a_y3_1 y3.Turns.length c_y3_1] 25 :: pc pb4 #[.map (some b_v1)] 167 :: pc pb5 #[vi y5] 3 :: pc pb6 #[vi (w64 (y6 + x1))] 3 :: pc pb8 #[.slice a_y8_0 y8.length c_y8_0] 26 :: pc pb9 #[.func (.func 104) #[] #[pp pb0, pp pb1, pp pb2, pp pb3, pp pb4, pp pb5, pp pb6, pp pb7, pp pb8, pp pb9]] 182 :: vecC 3 1 a_v0 c_v0 y0.length cs_v0 :: mapC keyI.f (Value.int .i64) b_v1 y4_0 :: R))) (fun b i => cond b ([0, 1, 2, 3, 4, 5, 6, 7, 8, 9, 10, 11, 12, 13, 14].contains i) ([0, 1, 2, 3, 4, 5, 6, 7, 8, 9, 10, 11, 12, 13, 14, 15].contains i)) mixed ?_
   replace hS := hS.drew
   refine tT (i := 0) true rfl hE rfl (by kernel_rfl) (Gives.loadB hE 7 rfl rfl rfl ty3) rfl hS (hS.dropAt 7) fun a hE => ?_
   refine tP (i := 1) hE rfl (by kernel_rfl) (Gives.p hE rfl) rfl hS (hS.dropAt 7) fun a hE => ?_
   refine tT (i := 2) true rfl hE rfl (by kernel_rfl) (Gives.loadB hE 4 rfl rfl rfl ty167) rfl hS (hS.dropAt 7) fun a hE => ?_
   refine tP (i := 3) hE rfl (by kernel_rfl) (Gives.fld hE rfl fl29_0) rfl hS (hS.dropAt 7) fun a hE => ?_
   refine tT (i := 4) true rfl hE rfl (by kernel_rfl) (Gives.loadB hE 2 rfl rfl rfl ty27) rfl hS (hS.dropAt 7) fun a hE => ?_
   refine tP (i := 5) hE rfl (by kernel_rfl) (Gives.fld hE rfl fl29_0) rfl hS (hS.dropAt 7) fun a hE => ?_
   refine tT (i := 6) true rfl hE rfl (by kernel_rfl) (Gives.loadB hE 2 rfl rfl rfl ty27) rfl hS (hS.dropAt 7) fun a hE => ?_
   refine tP (i := 7) hE rfl (by kernel_rfl) (Gives.len hE rfl sl27) rfl hS (hS.dropAt 7) fun a hE => ?_
   refine tP (i := 8) hE rfl (by kernel_rfl) (Gives.p hE rfl) rfl hS (hS.dropAt 7) fun a hE => ?_
   obtain ⟨x137, hx138, hr⟩ := bindS hr
   obtain ⟨hi139, hlt140, hy141⟩ := gx_some hx138
   obtain ⟨cs142, hl143, hR144, hat145⟩ := h_y2_0.at hy141
   subst hR144
   refine tP (i := 9) hE rfl (by kernel_rfl) (Gives.idx hE (w64 (((y2.Rides).length : Int) - 1)).toNat rfl rfl sl27 hi139 hlt140 (h_y2_0.aok hlt140)) rfl hS (hS.dropAt 7) fun a hE => ?_
   refine tP (i := 10) hE rfl (by kernel_rfl) (Gives.fld hE rfl fl95_0) rfl hS (hS.dropAt 7) fun a hE => ?_
   refine tT (i := 11) true rfl hE rfl (by kernel_rfl) (Gives.load1 hE rfl (fun w h => (hat145 w _ h).one rfl) ty3) rfl hS (hS.dropAt 7) fun a hE => ?_
   have hT := tw_sel (A := fun w => St w s _) (B := fun w => St w s _) (w := _) (x := true) (y := true) (fun _ => hS) (fun _ => (hS.dropAt 7))
   have hF := hS; replace hS := hS
   refine Rg.take (i := 12) true rfl hE rfl (by kernel_rfl) (runs_plain rfl) (Gives.mapGet keyI hE 11 (k := x137.Train) (z := 0) rfl rfl rfl mp167 zm3) rfl hT fun a hE => ?_
   replace hS := hF; clear hF hT
   refine tP (i := 13) hE rfl (by kernel_rfl) (Gives.p hE rfl) rfl hS (hS.dropAt 7) fun a hE => ?_
   refine tP (i := 14) hE rfl (by kernel_rfl) (Gives.p hE rfl) rfl hS (hS.dropAt 7) fun a hE => ?_
   refine Rg.one (i := 15) false true rfl (by kernel_rfl) (by kernel_rfl) (by kernel_rfl) ?_
   refine WL.storeI hE hS 7 rfl [vi (w64 (y7 + (w64 (x1 * ((mget y4_0 x137.Train).getD 0)))))] (runs_plain rfl) rfl rfl rfl ty3 rfl rfl rfl rfl ?_; clear hE hS a w; intro a w hE hS
   refine WL.nil ?_
   refine ⟨⟨fun h => absurd h (by decide), fun _ => (hS.dropAt 7)⟩, ?_⟩
   refine Rg.done (by kernel_rfl) ?_
   subst hK136
   refine W.ret ?_
   refine finG (fn := Tryz.f104) (rs := []) (vs := []) hE rfl trivial ?_
   obtain rfl := Option.some.inj hr
   exact ⟨rfl, hS⟩
  replace hr := iteF hc55 hr
  refine W.skip ?_
  refine W.seq ?_
  refine W.seq (W.region (vP hS hE (Gives.loadB hE 8 rfl rfl rfl ty26) rfl fun a hE => ?_))
  refine vP hS hE (Gives.len hE rfl sl26) rfl fun a hE => ?_
  refine vp hS hE rfl rfl fun a hE => WL.nil ?_
  obtain ⟨q147, hq146, hr⟩ := bindS hr
  refine W.cut (fun a w => ∃ (q157 : List (Int × Int)), ∃ (q158 : Int), ∃ (q159 : Int), ∃ (q160 : Int), (.next (q157, q158, q159, q160)) = q147 ∧ Rep a 151 [(0, vi x0), (1, vi x1), (2, pp pb0), (6, pp pb4), (11, pp pb9)] ∧ St w s (pc pb0 #[.slice a_v0 y0.length c_v0] 65 :: pc pb1 #[vi q158] 3 :: pc pb2 #[.slice a_y2_0 y2.Rides.length c_y2_0] 29 :: pc pb3 #[.slice a_y3_0 y3.Trains.length c_y3_0, .slice a_y3_1 y3.Turns.length c_y3_1] 25 :: pc pb4 #[.map (some b_v1)] 167 :: pc pb5 #[vi y5] 3 :: pc pb6 #[vi q159] 3 :: pc pb7 #[vi q160] 3 :: pc pb8 #[.slice a_y8_0 y8.length c_y8_0] 26 :: pc pb9 #[.func (.func 104) #[] #[pp pb0, pp pb1, pp pb2, pp pb3, pp pb4, pp pb5, pp pb6, pp pb7, pp pb8, pp pb9]] 182 :: vecC 3 1 a_v0 c_v0 y0.length cs_v0 :: mapC keyI.f (Value.int .i64) b_v1 q157 :: R)) ?_ ?_
  ·refine W.block ?_
   refine W.loop (fun m a w => ∃ (rest150 : List GuideOdds) (k148 : Nat), ∃ (q157 : List (Int × Int)), ∃ (q158 : Int), ∃ (q159 : Int), ∃ (q160 : Int), rest150.length = m ∧ y8.drop k148 = rest150 ∧ Fishref2Cases_1_v1.loop2 x0 x1 y0 y2 y3 y5 y8 self_Fishref2Cases_1_v1 rest150 q157 q158 q159 q160 = some q147 ∧ Rep a 151 [(0, vi x0), (1, vi x1), (2, pp pb0), (6, pp pb4), (11, pp pb9), (101, .slice a_y8_0 y8.length c_y8_0), (102, vi ((y8).length : Int)), (103, vi ((k148 : Nat) : Int))] ∧ St w s (pc pb0 #[.slice a_v0 y0.length c_v0] 65 :: pc pb1 #[vi q158] 3 :: pc pb2 #[.slice a_y2_0 y2.Rides.length c_y2_0] 29 :: pc pb3 #[.slice a_y3_0 y3.Trains.length c_y3_0, .slice a_y3_1 y3.Turns.length c_y3_1] 25 :: pc pb4 #[.map (some b_v1)] 167 :: pc pb5 #[vi y5] 3 :: pc pb6 #[vi q159] 3 :: pc pb7 #[vi q160] 3 :: pc pb8 #[.slice a_y8_0 y8.length c_y8_0] 26 :: pc pb9 #[.func (.func 104) #[] #[pp pb0, pp pb1, pp pb2, pp pb3, pp pb4, pp pb5, pp pb6, pp pb7, pp pb8, pp pb9]] 182 :: vecC 3 1 a_v0 c_v0 y0.length cs_v0 :: mapC keyI.f (Value.int .i64) b_v1 q157 :: R)) (m := y8.length) ⟨y8, 0, y4_0, y1, y6, y7, rfl, rfl, hq146, hE.pick _ ⟨rfl, rfl, rfl, rfl, rfl, rfl, rfl, rfl, trivial⟩, hS⟩ ?_
   clear hE hS a w hq146; rintro m154 a w ⟨rest150, k148, q157, q158, q159, q160, rfl, hd151, hq146, hE, hS⟩
   refine W.gen fun K161 hK161 => ?_
   rcases rest150 with _ | ⟨x149, rest150⟩
   ·have hlt152 := drop_nil hd151
    refine W.seq (W.region (vp hS hE rfl rfl fun a hE => WL.nil ?_))
    refine W.seq ?_
    refine W.condF hE rfl (decide_eq_false (by omega)) ?_
    subst hK161
    refine W.exit rfl ?_
    exact ⟨q157, q158, q159, q160, Option.some.inj hq146, hE.pick _ ⟨rfl, rfl, rfl, rfl, rfl, trivial⟩, hS⟩
   obtain ⟨hlt152, hx153, hd151⟩ := drop_cons hd151
   rw [Fishref2Cases_1_v1.loop2] at hq146
   refine W.seq (W.region (vp hS hE rfl rfl fun a hE => WL.nil ?_))
   refine W.seq ?_
   refine W.condT hE rfl (decide_eq_true (by omega)) ?_
   refine W.skip ?_
   refine W.seq ?_
   refine W.block ?_
   refine W.seq (W.region ?_)
   obtain ⟨cs162, hl163, hR164, hat165⟩ := h_y8_0.at hx153
   obtain ⟨a166, c167, a169, c170, rfl, h168, h171⟩ := hR164
   refine vP hS hE (Gives.idx hE k148 rfl rfl sl26 rfl hlt152 (h_y8_0.aok hlt152)) rfl fun a hE => ?_
   refine vP hS hE (Gives.loadA hE rfl (fun w h => hat165 w _ h) ty114) rfl fun a hE => ?_
   refine WL.alloc hE hS (runs_plain rfl) zr114 rfl ?_; clear hE hS a w; intro b172 a w hE hS
   refine WL.storeI hE hS 0 rfl [vi x149.Train, .slice a166 x149.Late.length c167, .slice a169 x149.Weight.length c170] (runs_plain rfl) rfl rfl rfl ty114 rfl rfl rfl rfl ?_; clear hE hS a w; intro a w hE hS
   refine WL.nil ?_
   refine W.seq ?_
   refine W.regionQ (C := fun w => St w s (pc b172 #[vi x149.Train, .slice a166 x149.Late.length c167, .slice a169 x149.Weight.length c170] 114 :: pc pb0 #[.slice a_v0 y0.length c_v0] 65 :: pc pb1 #[vi q158] 3 :: pc pb2 #[.slice a_y2_0 y2.Rides.length c_y2_0] 29 :: pc pb3 #[.slice a_y3_0 y3.Trains.length c_y3_0, .slice a_y3_1 y3.Turns.length c_y3_1] 25 :: pc pb4 #[.map (some b_v1)] 167 :: pc pb5 #[vi y5] 3 :: pc pb6 #[vi q159] 3 :: pc pb7 #[vi q160] 3 :: pc pb8 #[.slice a_y8_0 y8.length c_y8_0] 26 :: pc pb9 #[.func (.func 104) #[] #[pp pb0, pp pb1, pp pb2, pp pb3, pp pb4, pp pb5, pp pb6, pp pb7, pp pb8, pp pb9]] 182 :: vecC 3 1 a_v0 c_v0 y0.length cs_v0 :: mapC keyI.f (Value.int .i64) b_v1 q157 :: R)) mixed (by kernel_rfl) hS.drew ?_
   refine qP hE (Gives.fld hE rfl fl114_0) rfl fun a hE => ?_
   refine qP hE (Gives.loadB hE 0 rfl rfl rfl ty3) rfl fun a hE => ?_
   refine qP hE (Gives.loadB hE 1 rfl rfl rfl ty65) rfl fun a hE => ?_
   refine qP hE (Gives.p hE rfl) rfl fun a hE => ?_
   obtain ⟨x173, hx174, hq146⟩ := bindS hq146
   obtain ⟨hi175, hlt176, hy177⟩ := gx_some hx174
   obtain ⟨vs178, hl179, hR180, hd181, hget182⟩ := h_v0.at hy177
   subst hR180
   refine qP hE (Gives.idx hE ((x0).toNat) rfl rfl sl65 hi175 (by omega) (hS.vecAok 11 rfl (by omega : (x0).toNat < y0.length))) rfl fun a hE => ?_
   refine qP hE (Gives.load1 hE rfl (fun w h => St.vecSees h 11 rfl ((x0).toNat * 1) _ hget182) ty3) rfl fun a hE => ?_
   refine qP hE (Gives.p hE rfl) rfl fun a hE => ?_
   refine QL.nil ?_; clear hS w; intro w hS
   refine W.cond hE rfl (fun hc183 => ?_) (fun hc183 => ?_)
   ·replace hq146 := iteT hc183 hq146
    refine W.seq ?_
    refine W.seq (W.region (vP hS hE (Gives.fld hE rfl fl114_1) rfl fun a hE => ?_))
    refine vP hS hE (Gives.loadB hE 0 rfl rfl rfl ty65) rfl fun a hE => ?_
    refine vP hS hE (Gives.len hE rfl sl65) rfl fun a hE => ?_
    refine vp hS hE rfl rfl fun a hE => WL.nil ?_
    obtain ⟨q185, hq184, hq146⟩ := bindS hq146
    refine W.cut (fun a w => ∃ (q195 : List (Int × Int)), ∃ (q196 : Int), ∃ (q197 : Int), ∃ (q198 : Int), (q195, q196, q197, q198) = q185 ∧ Rep a 151 [] ∧ St w s (pc b172 #[vi x149.Train, .slice a166 x149.Late.length c167, .slice a169 x149.Weight.length c170] 114 :: pc pb0 #[.slice a_v0 y0.length c_v0] 65 :: pc pb1 #[vi q196] 3 :: pc pb2 #[.slice a_y2_0 y2.Rides.length c_y2_0] 29 :: pc pb3 #[.slice a_y3_0 y3.Trains.length c_y3_0, .slice a_y3_1 y3.Turns.length c_y3_1] 25 :: pc pb4 #[.map (some b_v1)] 167 :: pc pb5 #[vi y5] 3 :: pc pb6 #[vi q197] 3 :: pc pb7 #[vi q198] 3 :: pc pb8 #[.slice a_y8_0 y8.length c_y8_0] 26 :: pc pb9 #[.func (.func 104) #[] #[pp pb0, pp pb1, pp pb2, pp pb3, pp pb4, pp pb5, pp pb6, pp pb7, pp pb8, pp pb9]] 182 :: vecC 3 1 a_v0 c_v0 y0.length cs_v0 :: mapC keyI.f (Value.int .i64) b_v1 q195 :: R)) ?_ ?_
    ·refine W.block ?_
     refine W.loop (fun m a w => ∃ (rest188 : List Int) (k186 : Nat), ∃ (q195 : List (Int × Int)), ∃ (q196 : Int), ∃ (q197 : Int), ∃ (q198 : Int), rest188.length = m ∧ x149.Late.drop k186 = rest188 ∧ Fishref2Cases_1_v1.loop3 x0 x1 y0 y2 y3 y5 y8 self_Fishref2Cases_1_v1 x149 rest188 k186 q195 q196 q197 q198 = some q185 ∧ Rep a 151 [(0, vi x0), (1, vi x1), (2, pp pb0), (6, pp pb4), (11, pp pb9), (18, pp b172), (115, .slice a166 x149.Late.length c167), (116, vi ((x149.Late).length : Int)), (117, vi ((k186 : Nat) : Int))] ∧ St w s (pc b172 #[vi x149.Train, .slice a166 x149.Late.length c167, .slice a169 x149.Weight.length c170] 114 :: pc pb0 #[.slice a_v0 y0.length c_v0] 65 :: pc pb1 #[vi q196] 3 :: pc pb2 #[.slice a_y2_0 y2.Rides.length c_y2_0] 29 :: pc pb3 #[.slice a_y3_0 y3.Trains.length c_y3_0, .slice a_y3_1 y3.Turns.length c_y3_1] 25 :: pc pb4 #[.map (some b_v1)] 167 :: pc pb5 #[vi y5] 3 :: pc pb6 #[vi q197] 3 :: pc pb7 #[vi q198] 3 :: pc pb8 #[.slice a_y8_0 y8.length c_y8_0] 26 :: pc pb9 #[.func (.func 104) #[] #[pp pb0, pp pb1, pp pb2, pp pb3, pp pb4, pp pb5, pp pb6, pp pb7, pp pb8, pp pb9]] 182 :: vecC 3 1 a_v0 c_v0 y0.length cs_v0 :: mapC keyI.f (Value.int .i64) b_v1 q195 :: R)) (m := x149.Late.length) ⟨x149.Late, 0, q157, q158, q159, q160, rfl, rfl, hq184, hE.pick _ ⟨rfl, rfl, rfl, rfl, rfl, rfl, rfl, rfl, rfl, trivial⟩, hS⟩ ?_
     clear hE hS a w hq184; rintro m192 a w ⟨rest188, k186, q195, q196, q197, q198, rfl, hd189, hq184, hE, hS⟩
     refine W.gen fun K199 hK199 => ?_
     rcases rest188 with _ | ⟨x187, rest188⟩
     ·have hlt190 := drop_nil hd189
      refine W.seq (W.region (vp hS hE rfl rfl fun a hE => WL.nil ?_))
      refine W.seq ?_
      refine W.condF hE rfl (decide_eq_false (by omega)) ?_
      subst hK199
      refine W.exit rfl ?_
      exact ⟨q195, q196, q197, q198, Option.some.inj hq184, hE.pick _ trivial, hS⟩
     obtain ⟨hlt190, hx191, hd189⟩ := drop_cons hd189
     rw [Fishref2Cases_1_v1.loop3] at hq184
     refine W.seq (W.region (vp hS hE rfl rfl fun a hE => WL.nil ?_))
     refine W.seq ?_
     refine W.condT hE rfl (decide_eq_true (by omega)) ?_
     refine W.skip ?_
     refine W.seq ?_
     refine W.block ?_
     refine W.seq (W.region (vp hS hE rfl rfl fun a hE => ?_))
     obtain ⟨cs200, hl201, hR202, hat203⟩ := h168.at hx191
     subst hR202
     refine vP hS hE (Gives.idx hE k186 rfl rfl sl65 rfl hlt190 (h168.aok hlt190)) rfl fun a hE => ?_
     refine vP hS hE (Gives.load1 hE rfl (fun w h => hat203 w _ h) ty3) rfl fun a hE => ?_
     refine v2 hS hE rfl rfl rfl rfl fun a hE => WL.nil ?_
     refine W.seq ?_
     refine W.gen fun K204 hK204 => ?_
     refine W.regionE (sel (fun w => St w s (pc b172 #[vi x149.Train, .slice a166 x149.Late.length c167, .slice a169 x149.Weight.length c170] 114 :: pc pb0 #[.slice a_v0 y0.length c_v0] 65 :: pc pb1 #[vi q196] 3 :: pc pb2 #[.slice a_y2_0 y2.Rides.length c_y2_0] 29 :: pc pb3 #[.slice a_y3_0 y3.Trains.length c_y3_0, .slice a_y3_1 y3.Turns.length c_y3_1] 25 :: pc pb4 #[.map (some b_v1)] 167 :: pc pb5 #[vi y5] 3 :: pc pb6 #[vi q197] 3 :: pc pb7 #[vi q198] 3 :: pc pb8 #[.slice a_y8_0 y8.length c_y8_0] 26 :: pc pb9 #[.func (.func 104) #[] #[pp pb0, pp pb1, pp pb2, pp pb3, pp pb4, pp pb5, pp pb6, pp pb7, pp pb8, pp pb9]] 182 :: vecC 3 1 a_v0 c_v0 y0.length cs_v0 :: mapC keyI.f (Value.int .i64) b_v1 q195 :: R)) (fun w => St w s (pc b172 #[vi x149.Train, .slice a166 x149.Late.length c167, .slice a169 x149.Weight.length c170] 114 :: pc pb0 #[.slice a_v0 y0.length c_v0] 65 :: pc pb1 #[vi q196] 3 :: pc pb2 #[.slice a_y2_0 y2.Rides.length c_y2_0] 29 :: pc pb3 #[.slice a_y3_0 y3.Trains.length c_y3_0, .slice a_y3_1 y3.Turns.length c_y3_1] 25 :: pc pb4 #[.map (some b_v1)] 167 :: pc pb5 #[vi y5] 3 :: pc pb6 #[vi q197] 3 :: pc pb7 #[vi q198] 3 :: pc pb8 #[.slice a_y8_0 y8.length c_y8_0] 26 :: pc pb9 #[.func (.func 104) #[] #[pp pb0, pp pb1, pp pb2, pp pb3, pp pb4, pp pb5, pp pb6, pp pb7, pp pb8, pp pb9]] 182 :: vecC 3 1 a_v0 c_v0 y0.length cs_v0 :: R))) (fun b i => cond b ([0, 1, 2, 3, 4, 5].contains i) ([0, 1, 2, 3, 4, 5, 6].contains i)) mixed ?_
     replace hS := hS.drew
     refine tT (i := 0) true rfl hE rfl (by kernel_rfl) (Gives.loadB hE 5 rfl rfl rfl ty167) rfl hS (hS.dropAt 12) fun a hE => ?_
     have hT := tw_sel (A := fun w => St w s _) (B := fun w => St w s _) (w := _) (x := true) (y := true) (fun _ => hS) (fun _ => (hS.dropAt 12))
     have hF := hS; replace hS := hS
     refine Rg.take (i := 1) true rfl hE rfl (by kernel_rfl) (runs_plain rfl) (Gives.loadB hE 1 rfl rfl rfl ty65) rfl hT fun a hE => ?_
     replace hS := hF; clear hF hT
     refine tP (i := 2) hE rfl (by kernel_rfl) (Gives.p hE rfl) rfl hS (hS.dropAt 12) fun a hE => ?_
     obtain ⟨x205, hx206, hq184⟩ := bindS hq184
     obtain ⟨hi207, hlt208, hy209⟩ := gx_some hx206
     obtain ⟨vs210, hl211, hR212, hd213, hget214⟩ := h_v0.at hy209
     subst hR212
     refine tP (i := 3) hE rfl (by kernel_rfl) (Gives.idx hE ((x0).toNat) rfl rfl sl65 hi207 (by omega) (hS.vecAok 11 rfl (by omega : (x0).toNat < y0.length))) rfl hS (hS.dropAt 12) fun a hE => ?_
     refine tT (i := 4) true rfl hE rfl (by kernel_rfl) (Gives.load1 hE rfl (fun w h => St.vecSees h 11 rfl ((x0).toNat * 1) _ hget214) ty3) rfl hS (hS.dropAt 12) fun a hE => ?_
     refine tP (i := 5) hE rfl (by kernel_rfl) (Gives.p hE rfl) rfl hS (hS.dropAt 12) fun a hE => ?_
     refine Rg.one (i := 6) false true rfl (by kernel_rfl) (by kernel_rfl) (by kernel_rfl) ?_
     refine WL.mapSet keyI hE hS 12 (k := x205) (v := x187) (.inl rfl) (runs_plain rfl) rfl rfl rfl rfl mp167 rfl ?_; clear hE hS a w; intro a w hE hS
     refine WL.nil ?_
     refine ⟨⟨fun h => absurd h (by decide), fun _ => (hS.dropAt 12)⟩, ?_⟩
     refine Rg.done (by kernel_rfl) ?_
     subst hK204
     refine W.gen fun K215 hK215 => ?_
     refine W.regionE (sel (fun w => St w s (pc b172 #[vi x149.Train, .slice a166 x149.Late.length c167, .slice a169 x149.Weight.length c170] 114 :: pc pb0 #[.slice a_v0 y0.length c_v0] 65 :: pc pb1 #[vi q196] 3 :: pc pb2 #[.slice a_y2_0 y2.Rides.length c_y2_0] 29 :: pc pb3 #[.slice a_y3_0 y3.Trains.length c_y3_0, .slice a_y3_1 y3.Turns.length c_y3_1] 25 :: pc pb4 #[.map (some b_v1)] 167 :: pc pb5 #[vi y5] 3 :: pc pb6 #[vi q197] 3 :: pc pb7 #[vi q198] 3 :: pc pb8 #[.slice a_y8_0 y8.length c_y8_0] 26 :: pc pb9 #[.func (.func 104) #[] #[pp pb0, pp pb1, pp pb2, pp pb3, pp pb4, pp pb5, pp pb6, pp pb7, pp pb8, pp pb9]] 182 :: vecC 3 1 a_v0 c_v0 y0.length cs_v0 :: mapC keyI.f (Value.int .i64) b_v1 (mput q195 x205 x187) :: R)) (fun w => St w s (pc b172 #[vi x149.Train, .slice a166 x149.Late.length c167, .slice a169 x149.Weight.length c170] 114 :: pc pb0 #[.slice a_v0 y0.length c_v0] 65 :: pc pb2 #[.slice a_y2_0 y2.Rides.length c_y2_0] 29 :: pc pb3 #[.slice a_y3_0 y3.Trains.length c_y3_0, .slice a_y3_1 y3.Turns.length c_y3_1] 25 :: pc pb4 #[.map (some b_v1)] 167 :: pc pb5 #[vi y5] 3 :: pc pb8 #[.slice a_y8_0 y8.length c_y8_0] 26 :: pc pb9 #[.func (.func 104) #[] #[pp pb0, pp pb1, pp pb2, pp pb3, pp pb4, pp pb5, pp pb6, pp pb7, pp pb8, pp pb9]] 182 :: vecC 3 1 a_v0 c_v0 y0.length cs_v0 :: R))) (fun b i => cond b ([0, 1, 2, 3, 4, 5, 6, 7, 8, 9].contains i) ([0, 1, 2, 3, 4, 5, 6, 7, 8, 9, 10].contains i)) mixed ?_
     replace hS := hS.drew
     refine tT (i := 0) true rfl hE rfl (by kernel_rfl) (Gives.loadB hE 10 rfl rfl rfl ty182) rfl hS ((((hS.dropAt 2).dropAt 6).dropAt 6).dropAt 9) fun a hE => ?_
     refine tP (i := 1) hE rfl (by kernel_rfl) (Gives.p hE rfl) rfl hS ((((hS.dropAt 2).dropAt 6).dropAt 6).dropAt 9) fun a hE => ?_
     refine tP (i := 2) hE rfl (by kernel_rfl) (Gives.p hE rfl) rfl hS ((((hS.dropAt 2).dropAt 6).dropAt 6).dropAt 9) fun a hE => ?_
     refine tP (i := 3) hE rfl (by kernel_rfl) (Gives.p hE rfl) rfl hS ((((hS.dropAt 2).dropAt 6).dropAt 6).dropAt 9) fun a hE => ?_
     refine tP (i := 4) hE rfl (by kernel_rfl) (Gives.fld hE rfl fl114_2) rfl hS ((((hS.dropAt 2).dropAt 6).dropAt 6).dropAt 9) fun a hE => ?_
     have hT := tw_sel (A := fun w => St w s _) (B := fun w => St w s _) (w := _) (x := true) (y := true) (fun _ => hS) (fun _ => ((((hS.dropAt 2).dropAt 6).dropAt 6).dropAt 9))
     have hF := hS; replace hS := ((((hS.dropAt 2).dropAt 6).dropAt 6).dropAt 9)
     refine Rg.take (i := 5) false rfl hE rfl (by kernel_rfl) (runs_plain rfl) (Gives.loadB hE 0 rfl rfl rfl ty65) rfl hT fun a hE => ?_
     replace hS := hF; clear hF hT
     refine tP (i := 6) hE rfl (by kernel_rfl) (Gives.p hE rfl) rfl hS ((((hS.dropAt 2).dropAt 6).dropAt 6).dropAt 9) fun a hE => ?_
     obtain ⟨x216, hx217, hq184⟩ := bindS hq184
     obtain ⟨hi218, hlt219, hy220⟩ := gx_some hx217
     obtain ⟨cs221, hl222, hR223, hat224⟩ := h171.at hy220
     subst hR223
     refine tP (i := 7) hE rfl (by kernel_rfl) (Gives.idx hE (((k186 : Nat) : Int)).toNat rfl rfl sl65 hi218 hlt219 (h171.aok hlt219)) rfl hS ((((hS.dropAt 2).dropAt 6).dropAt 6).dropAt 9) fun a hE => ?_
     have hT := tw_sel (A := fun w => St w s _) (B := fun w => St w s _) (w := _) (x := true) (y := true) (fun _ => hS) (fun _ => ((((hS.dropAt 2).dropAt 6).dropAt 6).dropAt 9))
     have hF := hS; replace hS := ((((hS.dropAt 2).dropAt 6).dropAt 6).dropAt 9)
     refine Rg.take (i := 8) false rfl hE rfl (by kernel_rfl) (runs_plain rfl) (Gives.load1 hE rfl (fun w h => hat224 w _ h) ty3) rfl hT fun a hE => ?_
     replace hS := hF; clear hF hT
     refine tP (i := 9) hE rfl (by kernel_rfl) (Gives.p hE rfl) rfl hS ((((hS.dropAt 2).dropAt 6).dropAt 6).dropAt 9) fun a hE => ?_
     refine Rg.one (i := 10) false true rfl (by kernel_rfl) (by kernel_rfl) (by kernel_rfl) ?_
     obtain ⟨q225, hq226, hq184⟩ := bindS hq184
     replace hS := hS.front 12 rfl
     replace hS := hS.front 12 rfl
     replace hS := hS.front 12 rfl
     replace hS := hS.front 12 rfl
     replace hS := hS.front 12 rfl
     replace hS := hS.front 12 rfl
     replace hS := hS.front 12 rfl
     replace hS := hS.front 12 rfl
     replace hS := hS.front 12 rfl
     replace hS := hS.front 12 rfl
     replace hS := hS.front 12 rfl
     replace hS := hS.front 12 rfl
     have hc_ := ih_Fishref2Cases_1_v1 (y3 := y3) hS h_v0 (rfl) h_y2_0 h_y3_0 h_y3_1 h_y8_0 hq226
     refine WL.fnw hE (hc_) rfl (runs_plain rfl) bd104 rfl rfl rfl ?_
     clear hE hS hc_; rintro e w ⟨rfl, hS⟩; refine ⟨_, rfl, ?_⟩; clear a; intro a hE
     refine WL.nil ?_
     refine ⟨⟨fun h => absurd h (by decide), fun _ => (St.order ((((hS.dropAt 1).dropAt 5).dropAt 5).dropAt 8) [8, 0, 0, 0, 0, 0, 0, 0, 0] (by kernel_rfl))⟩, ?_⟩
     refine Rg.done (by kernel_rfl) ?_
     subst hK215
     refine W.region ?_
     refine vP hS hE (Gives.inc hE rfl (by have := h168.small; omega)) rfl fun a hE => ?_
     refine vp hS hE rfl rfl fun a hE => WL.nil ?_
     replace hS := hS.order [12, 0, 0, 0, 0, 0, 0, 0, 0, 0, 0, 0, 0] rfl
     subst hK199
     exact ⟨rest188.length, Nat.lt_succ_self _, rest188, k186 + 1, q225.1, q225.2.1, q225.2.2.1, q225.2.2.2, rfl, hd189, hq184, hE.pick _ ⟨rfl, rfl, rfl, rfl, rfl, rfl, rfl, rfl, rfl, trivial⟩, hS⟩
    clear hE hS a w; rintro a w ⟨q195, q196, q197, q198, rfl, hE, hS⟩
    dsimp only at hq146
    refine W.ret ?_
    subst hK161
    rw [← Option.some.inj hq146] at hr
    dsimp only at hr
    refine finG (fn := Tryz.f104) (rs := []) (vs := []) hE rfl trivial ?_
    obtain rfl := Option.some.inj hr
    replace hS := hS.tail
    exact ⟨rfl, hS⟩
   replace hq146 := iteF hc183 hq146
   refine W.skip ?_
   refine W.region ?_
   refine vP hS hE (Gives.inc hE rfl (by have := h_y8_0.small; omega)) rfl fun a hE => ?_
   refine vp hS hE rfl rfl fun a hE => WL.nil ?_
   replace hS := hS.tail
   subst hK161
   exact ⟨rest150.length, Nat.lt_succ_self _, rest150, k148 + 1, q157, q158, q159, q160, rfl, hd151, hq146, hE.pick _ ⟨rfl, rfl, rfl, rfl, rfl, rfl, rfl, rfl, trivial⟩, hS⟩
  clear hE hS a w; rintro a w ⟨q157, q158, q159, q160, rfl, hE, hS⟩
  dsimp only at hr
  refine W.seq ?_
  refine W.gen fun K227 hK227 => ?_
  refine W.regionE (sel (fun w => St w s (pc pb0 #[.slice a_v0 y0.length c_v0] 65 :: pc pb1 #[vi q158] 3 :: pc pb2 #[.slice a_y2_0 y2.Rides.length c_y2_0] 29 :: pc pb3 #[.slice a_y3_0 y3.Trains.length c_y3_0, .slice a_y3_1 y3.Turns.length c_y3_1] 25 :: pc pb4 #[.map (some b_v1)] 167 :: pc pb5 #[vi y5] 3 :: pc pb6 #[vi q159] 3 :: pc pb7 #[vi q160] 3 :: pc pb8 #[.slice a_y8_0 y8.length c_y8_0] 26 :: pc pb9 #[.func (.func 104) #[] #[pp pb0, pp pb1, pp pb2, pp pb3, pp pb4, pp pb5, pp pb6, pp pb7, pp pb8, pp pb9]] 182 :: vecC 3 1 a_v0 c_v0 y0.length cs_v0 :: mapC keyI.f (Value.int .i64) b_v1 q157 :: R)) (fun w => St w s (pc pb0 #[.slice a_v0 y0.length c_v0] 65 :: pc pb1 #[vi q158] 3 :: pc pb2 #[.slice a_y2_0 y2.Rides.length c_y2_0] 29 :: pc pb3 #[.slice a_y3_0 y3.Trains.length c_y3_0, .slice a_y3_1 y3.Turns.length c_y3_1] 25 :: pc pb4 #[.map (some b_v1)] 167 :: pc pb5 #[vi y5] 3 :: pc pb6 #[vi q159] 3 :: pc pb7 #[vi q160] 3 :: pc pb8 #[.slice a_y8_0 y8.length c_y8_0] 26 :: pc pb9 #[.func (.func 104) #[] #[pp pb0, pp pb1, pp pb2, pp pb3, pp pb4, pp pb5, pp pb6, pp pb7, pp pb8, pp pb9]] 182 :: vecC 3 1 a_v0 c_v0 y0.length cs_v0 :: R))) (fun b i => cond b ([0, 1, 2, 3, 4].contains i) ([0, 1, 2, 3, 4, 5].contains i)) mixed ?_
  replace hS := hS.drew
  refine tT (i := 0) true rfl hE rfl (by kernel_rfl) (Gives.loadB hE 4 rfl rfl rfl ty167) rfl hS (hS.dropAt 11) fun a hE => ?_
  have hT := tw_sel (A := fun w => St w s _) (B := fun w => St w s _) (w := _) (x := true) (y := true) (fun _ => hS) (fun _ => (hS.dropAt 11))
  have hF := hS; replace hS := hS
  refine Rg.take (i := 1) true rfl hE rfl (by kernel_rfl) (runs_plain rfl) (Gives.loadB hE 0 rfl rfl rfl ty65) rfl hT fun a hE => ?_
  replace hS := hF; clear hF hT
  refine tP (i := 2) hE rfl (by kernel_rfl) (Gives.p hE rfl) rfl hS (hS.dropAt 11) fun a hE => ?_
  obtain ⟨x228, hx229, hr⟩ := bindS hr
  obtain ⟨hi230, hlt231, hy232⟩ := gx_some hx229
  obtain ⟨vs233, hl234, hR235, hd236, hget237⟩ := h_v0.at hy232
  subst hR235
  refine tP (i := 3) hE rfl (by kernel_rfl) (Gives.idx hE ((x0).toNat) rfl rfl sl65 hi230 (by omega) (hS.vecAok 10 rfl (by omega : (x0).toNat < y0.length))) rfl hS (hS.dropAt 11) fun a hE => ?_
  refine tT (i := 4) true rfl hE rfl (by kernel_rfl) (Gives.load1 hE rfl (fun w h => St.vecSees h 10 rfl ((x0).toNat * 1) _ hget237) ty3) rfl hS (hS.dropAt 11) fun a hE => ?_
  refine Rg.one (i := 5) false true rfl (by kernel_rfl) (by kernel_rfl) (by kernel_rfl) ?_
  refine WL.mapSet keyI hE hS 11 (k := x228) (v := 0) (.inl rfl) (runs_plain rfl) rfl rfl rfl rfl mp167 rfl ?_; clear hE hS a w; intro a w hE hS
  refine WL.nil ?_
  refine ⟨⟨fun h => absurd h (by decide), fun _ => (hS.dropAt 11)⟩, ?_⟩
  refine Rg.done (by kernel_rfl) ?_
  subst hK227
  refine W.region ?_
  refine vP hS hE (Gives.loadB hE 9 rfl rfl rfl ty182) rfl fun a hE => ?_
  refine v2 hS hE rfl rfl rfl rfl fun a hE => ?_
  refine vp hS hE rfl rfl fun a hE => ?_
  obtain ⟨q238, hq239, hr⟩ := bindS hr
  have hc_ := ih_Fishref2Cases_1_v1 (y3 := y3) hS h_v0 (rfl) h_y2_0 h_y3_0 h_y3_1 h_y8_0 hq239
  refine WL.fnw hE (hc_) rfl (runs_plain rfl) bd104 rfl rfl rfl ?_
  clear hE hS hc_; rintro e w ⟨rfl, hS⟩; refine ⟨_, rfl, ?_⟩; clear a; intro a hE
  refine WL.nil ?_
  refine finG (fn := Tryz.f104) (rs := []) (vs := []) hE rfl trivial ?_
  obtain rfl := Option.some.inj hr
  exact ⟨rfl, hS⟩
set_option maxHeartbeats 8000000 in
theorem Fishref2Cases_ok {fu : Nat}  {w : World} {s : Sg} {R : List HP} {x0 : ApiDay} {a0_0 : Option Addr} {c0_0 : Nat} {a0_1 : Option Addr} {c0_1 : Nat} {x1 : GuideJourney} {a1_0 : Option Addr} {c1_0 : Nat} {x2 : Int} {x3 : List GuideOdds} {a3 : Option Addr} {c3 : Nat} (hS : St w s (R)) (h0_0 : Sl 4 RApiTrain s a0_0 c0_0 x0.Trains) (h0_1 : Sl 1 (RL 1 (RI .i64)) s a0_1 c0_1 x0.Turns) (h1_0 : Sl 3 RGuideRide s a1_0 c1_0 x1.Rides) (h3 : Sl 3 RGuideOdds s a3 c3 x3) {r : Int × Int × Int} (hr : Fishref2Cases fu x0 x1 x2 x3 = some r) :
  Calls Tryz.prog 58 [.agg [.slice a0_0 x0.Trains.length c0_0, .slice a0_1 x0.Turns.length c0_1].toArray, .agg [.slice a1_0 x1.Rides.length c1_0].toArray, vi x2, .slice a3 x3.length c3].toArray w (fun e w => e = .returned (.tuple #[vi r.1, vi r.2.1, vi r.2.2]) ∧ St w s (R)) := by
 refine enter Tryz.func58 rfl rfl rfl fun a hE => ?_
 rw [Fishref2Cases] at hr
 refine W.seq (W.region ?_)
 refine WL.box hE hS (runs_plain rfl) rfl rfl rfl ?_; clear hE hS a w; intro b51 a w hE hS
 refine WL.box hE hS (runs_plain rfl) rfl rfl rfl ?_; clear hE hS a w; intro b52 a w hE hS
 refine WL.box hE hS (runs_plain rfl) rfl rfl rfl ?_; clear hE hS a w; intro b53 a w hE hS
 refine WL.box hE hS (runs_plain rfl) rfl rfl rfl ?_; clear hE hS a w; intro b54 a w hE hS
 refine WL.alloc hE hS (runs_plain rfl) zr3 rfl ?_; clear hE hS a w; intro b55 a w hE hS
 refine WL.alloc hE hS (runs_plain rfl) zr3 rfl ?_; clear hE hS a w; intro b56 a w hE hS
 refine WL.alloc hE hS (runs_plain rfl) zr3 rfl ?_; clear hE hS a w; intro b57 a w hE hS
 refine WL.nil ?_
 refine W.seq (W.region ?_)
 refine WL.alloc hE hS (runs_plain rfl) zr65 rfl ?_; clear hE hS a w; intro b58 a w hE hS
 refine WL.nil ?_
 refine W.seq ?_
 refine W.seq (W.region (vP hS hE (Gives.fld hE rfl fl29_0) rfl fun a hE => ?_))
 refine vP hS hE (Gives.loadB hE 6 rfl rfl rfl ty27) rfl fun a hE => ?_
 refine vP hS hE (Gives.len hE rfl sl27) rfl fun a hE => ?_
 refine vp hS hE rfl rfl fun a hE => WL.nil ?_
 replace hS := hS.vecNil 3 1
 obtain ⟨q61, hq60, hr⟩ := bindS hr
 refine W.cut (fun a w => ∃ (q71 : List Int), ∃ (a72 : Option Addr), ∃ (c73 : Nat), ∃ (n75 : Nat), ∃ (cs76 : List Value), q71 = q61 ∧ Ev 1 (RI .i64) s cs76 q71 ∧ q71.length = n75 ∧ Rep a 41 [(4, pp b51), (5, pp b52), (6, pp b53), (7, pp b54), (8, pp b55), (9, pp b56), (10, pp b57), (11, pp b58)] ∧ St w s (vecC 3 1 a72 c73 n75 cs76 :: pc b58 #[.slice a72 n75 c73] 65 :: pc b57 #[vi 0] 3 :: pc b56 #[vi 0] 3 :: pc b55 #[vi 0] 3 :: pc b54 #[.slice a3 x3.length c3] 26 :: pc b53 #[vi x2] 3 :: pc b52 #[.slice a1_0 x1.Rides.length c1_0] 29 :: pc b51 #[.slice a0_0 x0.Trains.length c0_0, .slice a0_1 x0.Turns.length c0_1] 25 :: R)) ?_ ?_
 ·refine W.block ?_
  refine W.loop (fun m a w => ∃ (rest64 : List GuideRide) (k62 : Nat), ∃ (q71 : List Int), ∃ (a72 : Option Addr), ∃ (c73 : Nat), ∃ (n75 : Nat), ∃ (cs76 : List Value), rest64.length = m ∧ x1.Rides.drop k62 = rest64 ∧ Fishref2Cases.loop1 rest64 q71 = some q61 ∧ Ev 1 (RI .i64) s cs76 q71 ∧ q71.length = n75 ∧ Rep a 41 [(4, pp b51), (5, pp b52), (6, pp b53), (7, pp b54), (8, pp b55), (9, pp b56), (10, pp b57), (11, pp b58), (17, .slice a1_0 x1.Rides.length c1_0), (18, vi ((x1.Rides).length : Int)), (19, vi ((k62 : Nat) : Int))] ∧ St w s (vecC 3 1 a72 c73 n75 cs76 :: pc b58 #[.slice a72 n75 c73] 65 :: pc b57 #[vi 0] 3 :: pc b56 #[vi 0] 3 :: pc b55 #[vi 0] 3 :: pc b54 #[.slice a3 x3.length c3] 26 :: pc b53 #[vi x2] 3 :: pc b52 #[.slice a1_0 x1.Rides.length c1_0] 29 :: pc b51 #[.slice a0_0 x0.Trains.length c0_0, .slice a0_1 x0.Turns.length c0_1] 25 :: R)) (m := x1.Rides.length) ⟨x1.Rides, 0, [], none, 0, 0, [], rfl, rfl, hq60, (Ev.nil), (rfl), hE.pick _ ⟨rfl, rfl, rfl, rfl, rfl, rfl, rfl, rfl, rfl, rfl, rfl, trivial⟩, hS⟩ ?_
  clear hE hS a w hq60; rintro m68 a w ⟨rest64, k62, q71, a72, c73, n75, cs76, rfl, hd65, hq60, h74, rfl, hE, hS⟩
  refine W.gen fun K78 hK78 => ?_
  rcases rest64 with _ | ⟨x63, rest64⟩
  ·have hlt66 := drop_nil hd65
   refine W.seq (W.region (vp hS hE rfl rfl fun a hE => WL.nil ?_))
   refine W.seq ?_
   refine W.condF hE rfl (decide_eq_false (by omega)) ?_
   subst hK78
   refine W.exit rfl ?_
   exact ⟨q71, a72, c73, q71.length, cs76, Option.some.inj hq60, h74, rfl, hE.pick _ ⟨rfl, rfl, rfl, rfl, rfl, rfl, rfl, rfl, trivial⟩, hS⟩
  obtain ⟨hlt66, hx67, hd65⟩ := drop_cons hd65
  rw [Fishref2Cases.loop1] at hq60
  refine W.seq (W.region (vp hS hE rfl rfl fun a hE => WL.nil ?_))
  refine W.seq ?_
  refine W.condT hE rfl (decide_eq_true (by omega)) ?_
  refine W.skip ?_
  refine W.seq ?_
  refine W.block ?_
  refine W.seq (W.region ?_)
  obtain ⟨cs79, hl80, hR81, hat82⟩ := h1_0.at hx67
  subst hR81
  refine vP hS hE (Gives.idx hE k62 rfl rfl sl27 rfl hlt66 (h1_0.aok hlt66)) rfl fun a hE => ?_
  refine vP hS hE (Gives.loadA hE rfl (fun w h => hat82 w _ h) ty95) rfl fun a hE => ?_
  refine WL.alloc hE hS (runs_plain rfl) zr95 rfl ?_; clear hE hS a w; intro b83 a w hE hS
  refine WL.storeI hE hS 0 rfl (GuideRide.cells x63) (runs_plain rfl) rfl rfl rfl ty95 rfl rfl rfl rfl ?_; clear hE hS a w; intro a w hE hS
  refine WL.nil ?_
  refine W.seq (W.region (vP hS hE (Gives.loadB hE 2 rfl rfl rfl ty65) rfl fun a hE => ?_))
  refine vP hS hE (Gives.fld hE rfl fl95_0) rfl fun a hE => ?_
  refine vP hS hE (Gives.loadB hE 0 rfl rfl rfl ty3) rfl fun a hE => ?_
  have hF := hS.lendV RI.mono 1 rfl h74 rfl; clear hS; obtain ⟨t84, hle85, hS, hs86, bk87⟩ := hF
  refine WL.fnq hE (SlicesContainsLint_ok hS hs86 rfl (r := SlicesContainsLint q71 x63.Train)) (runs_plain rfl) bd96 rfl rfl rfl ?_
  clear hE hS; rintro e w ⟨rfl, hS⟩; refine ⟨_, rfl, ?_⟩; clear a; intro a hE
  replace hS := bk87 _ _ hS
  refine vp hS hE rfl rfl fun a hE => WL.nil ?_
  obtain ⟨q89, hq88, hq60⟩ := bindS hq60
  refine W.cut (fun a w => ∃ (q92 : List Int), ∃ (a93 : Option Addr), ∃ (c94 : Nat), ∃ (n96 : Nat), ∃ (cs97 : List Value), q92 = q89 ∧ Ev 1 (RI .i64) s cs97 q92 ∧ q92.length = n96 ∧ Rep a 41 [(4, pp b51), (5, pp b52), (6, pp b53), (7, pp b54), (8, pp b55), (9, pp b56), (10, pp b57), (11, pp b58), (17, .slice a1_0 x1.Rides.length c1_0), (18, vi ((x1.Rides).length : Int)), (19, vi ((k62 : Nat) : Int))] ∧ St w s (vecC 3 1 a93 c94 n96 cs97 :: pc b83 (GuideRide.cells x63).toArray 95 :: pc b58 #[.slice a93 n96 c94] 65 :: pc b57 #[vi 0] 3 :: pc b56 #[vi 0] 3 :: pc b55 #[vi 0] 3 :: pc b54 #[.slice a3 x3.length c3] 26 :: pc b53 #[vi x2] 3 :: pc b52 #[.slice a1_0 x1.Rides.length c1_0] 29 :: pc b51 #[.slice a0_0 x0.Trains.length c0_0, .slice a0_1 x0.Turns.length c0_1] 25 :: R)) ?_ ?_
  ·refine W.gen fun K99 hK99 => ?_
   refine W.cond hE rfl (fun hc100 => ?_) (fun hc100 => ?_)
   ·replace hq88 := iteT hc100 hq88
    refine W.region ?_
    refine vP hS hE (Gives.loadB hE 2 rfl rfl rfl ty65) rfl fun a hE => ?_
    refine vP hS hE (Gives.fld hE rfl fl95_0) rfl fun a hE => ?_
    refine vP hS hE (Gives.loadB hE 1 rfl rfl rfl ty3) rfl fun a hE => ?_
    refine WL.lit hE hS (e := 3) (es := 1) (vs := [(0, vi x63.Train)]) (cs := [vi x63.Train]) (runs_plain rfl) rfl (by kernel_rfl) rfl ?_; clear hE hS a w; intro b101 a w hE hS
    obtain ⟨x102, hx103, hq88⟩ := bindS hq88
    refine WL.appD hE hS 0 (m := 1) (runs_plain rfl) rfl rfl rfl ap65 rfl h74 rfl (xs := [x63.Train]) (Ev.cons (c1 := [vi x63.Train]) rfl rfl (Ev.nil)) rfl rfl hx103 rfl ?_; clear hE hS a w; intro a104 c105 cs106 a w h107 hE hS
    refine WL.storeI hE hS 2 rfl [.slice a104 x102.length c105] (runs_plain rfl) rfl rfl rfl ty65 rfl rfl rfl rfl ?_; clear hE hS a w; intro a w hE hS
    refine WL.nil ?_
    subst hK99
    exact ⟨x102, a104, c105, x102.length, cs106, Option.some.inj hq88, h107, (rfl), hE.pick _ ⟨rfl, rfl, rfl, rfl, rfl, rfl, rfl, rfl, rfl, rfl, rfl, trivial⟩, hS⟩
   replace hq88 := iteF hc100 hq88
   refine W.skip ?_
   subst hK99
   exact ⟨q71, a72, c73, q71.length, cs76, Option.some.inj hq88, h74, rfl, hE.pick _ ⟨rfl, rfl, rfl, rfl, rfl, rfl, rfl, rfl, rfl, rfl, rfl, trivial⟩, hS⟩
  clear hE hS a w; rintro a w ⟨q92, a93, c94, n96, cs97, rfl, h95, rfl, hE, hS⟩
  refine W.region ?_
  refine vP hS hE (Gives.inc hE rfl (by have := h1_0.small; omega)) rfl fun a hE => ?_
  refine vp hS hE rfl rfl fun a hE => WL.nil ?_
  replace hS := hS.dropAt 1
  subst hK78
  exact ⟨rest64.length, Nat.lt_succ_self _, rest64, k62 + 1, q92, a93, c94, q92.length, cs97, rfl, hd65, hq60, h95, rfl, hE.pick _ ⟨rfl, rfl, rfl, rfl, rfl, rfl, rfl, rfl, rfl, rfl, rfl, trivial⟩, hS⟩
 clear hE hS a w; rintro a w ⟨q71, a72, c73, n75, cs76, rfl, h74, rfl, hE, hS⟩
 refine W.seq (W.region ?_)
 refine WL.mkMap (fk := keyI.f) (fv := (Value.int .i64)) hE hS (runs_plain rfl) rfl ?_; clear hE hS a w; intro b108 a w hE hS
 refine WL.alloc hE hS (runs_plain rfl) zr167 rfl ?_; clear hE hS a w; intro b109 a w hE hS
 refine WL.storeI hE hS 0 rfl [.map (some b108)] (runs_plain rfl) rfl rfl rfl ty167 rfl rfl rfl rfl ?_; clear hE hS a w; intro a w hE hS
 refine WL.nil ?_
 refine W.seq (W.region ?_)
 refine WL.alloc hE hS (runs_plain rfl) zr182 rfl ?_; clear hE hS a w; intro b110 a w hE hS
 refine WL.nil ?_
 refine W.seq (W.region (vP hS hE (Gives.mkfn hE (vs := [pp b58, pp b55, pp b52, pp b51, pp b109, pp b53, pp b56, pp b57, pp b54, pp b110]) rfl) rfl fun a hE => ?_))
 refine WL.storeI hE hS 0 rfl [.func (.func 104) #[] #[pp b58, pp b55, pp b52, pp b51, pp b109, pp b53, pp b56, pp b57, pp b54, pp b110]] (runs_plain rfl) rfl rfl rfl ty182 rfl rfl rfl rfl ?_; clear hE hS a w; intro a w hE hS
 refine WL.nil ?_
 refine W.seq (W.region (vP hS hE (Gives.loadB hE 0 rfl rfl rfl ty182) rfl fun a hE => ?_))
 obtain ⟨q111, hq112, hr⟩ := bindS hr
 replace hS := hS.front 2 rfl
 replace hS := hS.front 3 rfl
 replace hS := hS.front 2 rfl
 replace hS := hS.front 8 rfl
 replace hS := hS.front 6 rfl
 replace hS := hS.front 7 rfl
 replace hS := hS.front 9 rfl
 replace hS := hS.front 7 rfl
 replace hS := hS.front 11 rfl
 replace hS := hS.front 11 rfl
 replace hS := hS.front 11 rfl
 replace hS := hS.front 11 rfl
 have hc_ := Fishref2Cases_1_v1_ok (y3 := x0) hS h74 rfl h1_0 h0_0 h0_1 h3 hq112
 refine WL.fnw hE (hc_) rfl (runs_plain rfl) bd104 rfl rfl rfl ?_
 clear hE hS hc_; rintro e w ⟨rfl, hS⟩; refine ⟨_, rfl, ?_⟩; clear a; intro a hE
 refine WL.nil ?_
 refine W.seq ?_
 refine W.gen fun K113 hK113 => ?_
 refine W.regionE (sel (fun w => St w s (pc b58 #[.slice a72 q71.length c73] 65 :: pc b55 #[vi q111.2.1] 3 :: pc b52 #[.slice a1_0 x1.Rides.length c1_0] 29 :: pc b51 #[.slice a0_0 x0.Trains.length c0_0, .slice a0_1 x0.Turns.length c0_1] 25 :: pc b109 #[.map (some b108)] 167 :: pc b53 #[vi x2] 3 :: pc b56 #[vi q111.2.2.1] 3 :: pc b57 #[vi q111.2.2.2] 3 :: pc b54 #[.slice a3 x3.length c3] 26 :: pc b110 #[.func (.func 104) #[] #[pp b58, pp b55, pp b52, pp b51, pp b109, pp b53, pp b56, pp b57, pp b54, pp b110]] 182 :: vecC 3 1 a72 c73 q71.length cs76 :: mapC keyI.f (Value.int .i64) b108 q111.1 :: R)) (fun w => St w s (pc b58 #[.slice a72 q71.length c73] 65 :: pc b52 #[.slice a1_0 x1.Rides.length c1_0] 29 :: pc b51 #[.slice a0_0 x0.Trains.length c0_0, .slice a0_1 x0.Turns.length c0_1] 25 :: pc b109 #[.map (some b108)] 167 :: pc b53 #[vi x2] 3 :: pc b54 #[.slice a3 x3.length c3] 26 :: pc b110 #[.func (.func 104) #[] #[pp b58, pp b55, pp b52, pp b51, pp b109, pp b53, pp b56, pp b57, pp b54, pp b110]] 182 :: vecC 3 1 a72 c73 q71.length cs76 :: mapC keyI.f (Value.int .i64) b108 q111.1 :: R))) (fun b i => cond b ([0, 1, 2].contains i) ([0, 1, 2, 3, 4, 5].contains i)) mixed ?_
 replace hS := hS.drew
 refine tT (i := 0) true rfl hE rfl (by kernel_rfl) (Gives.loadB hE 1 rfl rfl rfl ty3) rfl hS (((hS.dropAt 1).dropAt 5).dropAt 5) fun a hE => ?_
 suffices key : ∀ (a : Act) (w : World), Sl 3 RGuideRide s a1_0 c1_0 x1.Rides → Sl 4 RApiTrain s a0_0 c0_0 x0.Trains → Sl 1 (RL 1 (RI .i64)) s a0_1 c0_1 x0.Turns → Sl 3 RGuideOdds s a3 c3 x3 → Ev 1 (RI .i64) s cs76 q71 → Rep a 41 [(8, pp b55), (9, pp b56), (10, pp b57)] → St w s (pc b58 #[.slice a72 q71.length c73] 65 :: pc b55 #[vi q111.2.1] 3 :: pc b52 #[.slice a1_0 x1.Rides.length c1_0] 29 :: pc b51 #[.slice a0_0 x0.Trains.length c0_0, .slice a0_1 x0.Turns.length c0_1] 25 :: pc b109 #[.map (some b108)] 167 :: pc b53 #[vi x2] 3 :: pc b56 #[vi q111.2.2.1] 3 :: pc b57 #[vi q111.2.2.2] 3 :: pc b54 #[.slice a3 x3.length c3] 26 :: pc b110 #[.func (.func 104) #[] #[pp b58, pp b55, pp b52, pp b51, pp b109, pp b53, pp b56, pp b57, pp b54, pp b110]] 182 :: vecC 3 1 a72 c73 q71.length cs76 :: mapC keyI.f (Value.int .i64) b108 q111.1 :: R) → K113.nor a w by
  refine Rg.many 1 [2, 3] (by kernel_rfl) ⟨?_, ?_, ?_, trivial⟩
  ·refine Br.mk (i := 1) true true rfl (by kernel_rfl) (by kernel_rfl) ?_
   refine vP hS hE (Gives.loadB hE 6 rfl rfl rfl ty3) rfl fun a hE => WL.nil ?_
   refine ⟨⟨fun _ => hS, fun _ => (((hS.dropAt 1).dropAt 5).dropAt 5)⟩, ?_⟩
   refine Rg.many 2 [3] (by kernel_rfl) ⟨?_, ?_, trivial⟩
   ·refine Br.mk (i := 2) true true rfl (by kernel_rfl) (by kernel_rfl) ?_
    refine vP hS hE (Gives.loadB hE 7 rfl rfl rfl ty3) rfl fun a hE => WL.nil ?_
    refine ⟨⟨fun _ => hS, fun _ => (((hS.dropAt 1).dropAt 5).dropAt 5)⟩, ?_⟩
    refine Rg.one (i := 3) false true rfl (by kernel_rfl) (by kernel_rfl) (by kernel_rfl) ?_
    refine WL.storeI hE hS 1 rfl [vi q111.2.1] (runs_plain rfl) rfl rfl rfl ty3 rfl rfl rfl rfl ?_; clear hE hS a w; intro a w hE hS
    refine WL.nil ?_
    refine ⟨⟨fun h => absurd h (by decide), fun _ => (((hS.dropAt 1).dropAt 5).dropAt 5)⟩, ?_⟩
    refine Rg.one (i := 4) false true rfl (by kernel_rfl) (by kernel_rfl) (by kernel_rfl) ?_
    refine WL.storeI hE hS 6 rfl [vi q111.2.2.1] (runs_plain rfl) rfl rfl rfl ty3 rfl rfl rfl rfl ?_; clear hE hS a w; intro a w hE hS
    refine WL.nil ?_
    refine ⟨⟨fun h => absurd h (by decide), fun _ => (((hS.dropAt 1).dropAt 5).dropAt 5)⟩, ?_⟩
    refine Rg.one (i := 5) false true rfl (by kernel_rfl) (by kernel_rfl) (by kernel_rfl) ?_
    refine WL.storeI hE hS 7 rfl [vi q111.2.2.2] (runs_plain rfl) rfl rfl rfl ty3 rfl rfl rfl rfl ?_; clear hE hS a w; intro a w hE hS
    refine WL.nil ?_
    refine ⟨⟨fun h => absurd h (by decide), fun _ => (((hS.dropAt 1).dropAt 5).dropAt 5)⟩, ?_⟩
    refine Rg.done (by kernel_rfl) ?_
    exact key  _ _ h1_0 h0_0 h0_1 h3 h74 (hE.pick _ ⟨rfl, rfl, rfl, trivial⟩) hS
   refine Br.mk (i := 3) false true rfl (by kernel_rfl) (by kernel_rfl) ?_
   refine WL.storeI hE hS 1 rfl [vi q111.2.1] (runs_plain rfl) rfl rfl rfl ty3 rfl rfl rfl rfl ?_; clear hE hS a w; intro a w hE hS
   refine WL.nil ?_
   refine ⟨⟨fun h => absurd h (by decide), fun _ => (((hS.dropAt 1).dropAt 5).dropAt 5)⟩, ?_⟩
   refine Rg.many 2 [4] (by kernel_rfl) ⟨?_, ?_, trivial⟩
   ·refine Br.mk (i := 2) false true rfl (by kernel_rfl) (by kernel_rfl) ?_
    refine vP hS hE (Gives.loadB hE 7 rfl rfl rfl ty3) rfl fun a hE => WL.nil ?_
    refine ⟨⟨fun h => absurd h (by decide), fun _ => (((hS.dropAt 1).dropAt 5).dropAt 5)⟩, ?_⟩
    refine Rg.one (i := 4) false true rfl (by kernel_rfl) (by kernel_rfl) (by kernel_rfl) ?_
    refine WL.storeI hE hS 6 rfl [vi q111.2.2.1] (runs_plain rfl) rfl rfl rfl ty3 rfl rfl rfl rfl ?_; clear hE hS a w; intro a w hE hS
    refine WL.nil ?_
    refine ⟨⟨fun h => absurd h (by decide), fun _ => (((hS.dropAt 1).dropAt 5).dropAt 5)⟩, ?_⟩
    refine Rg.one (i := 5) false true rfl (by kernel_rfl) (by kernel_rfl) (by kernel_rfl) ?_
    refine WL.storeI hE hS 7 rfl [vi q111.2.2.2] (runs_plain rfl) rfl rfl rfl ty3 rfl rfl rfl rfl ?_; clear hE hS a w; intro a w hE hS
    refine WL.nil ?_
    refine ⟨⟨fun h => absurd h (by decide), fun _ => (((hS.dropAt 1).dropAt 5).dropAt 5)⟩, ?_⟩
    refine Rg.done (by kernel_rfl) ?_
    exact key  _ _ h1_0 h0_0 h0_1 h3 h74 (hE.pick _ ⟨rfl, rfl, rfl, trivial⟩) hS
   refine Br.mk (i := 4) false true rfl (by kernel_rfl) (by kernel_rfl) ?_
   refine WL.storeI hE hS 6 rfl [vi q111.2.2.1] (runs_plain rfl) rfl rfl rfl ty3 rfl rfl rfl rfl ?_; clear hE hS a w; intro a w hE hS
   refine WL.nil ?_
   refine ⟨⟨fun h => absurd h (by decide), fun _ => (((hS.dropAt 1).dropAt 5).dropAt 5)⟩, ?_⟩
   refine Rg.one (i := 2) false true rfl (by kernel_rfl) (by kernel_rfl) (by kernel_rfl) ?_
   refine vP hS hE (Gives.loadB hE 7 rfl rfl rfl ty3) rfl fun a hE => WL.nil ?_
   refine ⟨⟨fun h => absurd h (by decide), fun _ => (((hS.dropAt 1).dropAt 5).dropAt 5)⟩, ?_⟩
   refine Rg.one (i := 5) false true rfl (by kernel_rfl) (by kernel_rfl) (by kernel_rfl) ?_
   refine WL.storeI hE hS 7 rfl [vi q111.2.2.2] (runs_plain rfl) rfl rfl rfl ty3 rfl rfl rfl rfl ?_; clear hE hS a w; intro a w hE hS
   refine WL.nil ?_
   refine ⟨⟨fun h => absurd h (by decide), fun _ => (((hS.dropAt 1).dropAt 5).dropAt 5)⟩, ?_⟩
   refine Rg.done (by kernel_rfl) ?_
   exact key  _ _ h1_0 h0_0 h0_1 h3 h74 (hE.pick _ ⟨rfl, rfl, rfl, trivial⟩) hS
  ·refine Br.mk (i := 2) true true rfl (by kernel_rfl) (by kernel_rfl) ?_
   refine vP hS hE (Gives.loadB hE 7 rfl rfl rfl ty3) rfl fun a hE => WL.nil ?_
   refine ⟨⟨fun _ => hS, fun _ => (((hS.dropAt 1).dropAt 5).dropAt 5)⟩, ?_⟩
   refine Rg.many 1 [3] (by kernel_rfl) ⟨?_, ?_, trivial⟩
   ·refine Br.mk (i := 1) true true rfl (by kernel_rfl) (by kernel_rfl) ?_
    refine vP hS hE (Gives.loadB hE 6 rfl rfl rfl ty3) rfl fun a hE => WL.nil ?_
    refine ⟨⟨fun _ => hS, fun _ => (((hS.dropAt 1).dropAt 5).dropAt 5)⟩, ?_⟩
    refine Rg.one (i := 3) false true rfl (by kernel_rfl) (by kernel_rfl) (by kernel_rfl) ?_
    refine WL.storeI hE hS 1 rfl [vi q111.2.1] (runs_plain rfl) rfl rfl rfl ty3 rfl rfl rfl rfl ?_; clear hE hS a w; intro a w hE hS
    refine WL.nil ?_
    refine ⟨⟨fun h => absurd h (by decide), fun _ => (((hS.dropAt 1).dropAt 5).dropAt 5)⟩, ?_⟩
    refine Rg.one (i := 4) false true rfl (by kernel_rfl) (by kernel_rfl) (by kernel_rfl) ?_
    refine WL.storeI hE hS 6 rfl [vi q111.2.2.1] (runs_plain rfl) rfl rfl rfl ty3 rfl rfl rfl rfl ?_; clear hE hS a w; intro a w hE hS
    refine WL.nil ?_
    refine ⟨⟨fun h => absurd h (by decide), fun _ => (((hS.dropAt 1).dropAt 5).dropAt 5)⟩, ?_⟩
    refine Rg.one (i := 5) false true rfl (by kernel_rfl) (by kernel_rfl) (by kernel_rfl) ?_
    refine WL.storeI hE hS 7 rfl [vi q111.2.2.2] (runs_plain rfl) rfl rfl rfl ty3 rfl rfl rfl rfl ?_; clear hE hS a w; intro a w hE hS
    refine WL.nil ?_
    refine ⟨⟨fun h => absurd h (by decide), fun _ => (((hS.dropAt 1).dropAt 5).dropAt 5)⟩, ?_⟩
    refine Rg.done (by kernel_rfl) ?_
    exact key  _ _ h1_0 h0_0 h0_1 h3 h74 (hE.pick _ ⟨rfl, rfl, rfl, trivial⟩) hS
   refine Br.mk (i := 3) false true rfl (by kernel_rfl) (by kernel_rfl) ?_
   refine WL.storeI hE hS 1 rfl [vi q111.2.1] (runs_plain rfl) rfl rfl rfl ty3 rfl rfl rfl rfl ?_; clear hE hS a w; intro a w hE hS
   refine WL.nil ?_
   refine ⟨⟨fun h => absurd h (by decide), fun _ => (((hS.dropAt 1).dropAt 5).dropAt 5)⟩, ?_⟩
   refine Rg.one (i := 1) false true rfl (by kernel_rfl) (by kernel_rfl) (by kernel_rfl) ?_
   refine vP hS hE (Gives.loadB hE 6 rfl rfl rfl ty3) rfl fun a hE => WL.nil ?_
   refine ⟨⟨fun h => absurd h (by decide), fun _ => (((hS.dropAt 1).dropAt 5).dropAt 5)⟩, ?_⟩
   refine Rg.one (i := 4) false true rfl (by kernel_rfl) (by kernel_rfl) (by kernel_rfl) ?_
   refine WL.storeI hE hS 6 rfl [vi q111.2.2.1] (runs_plain rfl) rfl rfl rfl ty3 rfl rfl rfl rfl ?_; clear hE hS a w; intro a w hE hS
   refine WL.nil ?_
   refine ⟨⟨fun h => absurd h (by decide), fun _ => (((hS.dropAt 1).dropAt 5).dropAt 5)⟩, ?_⟩
   refine Rg.one (i := 5) false true rfl (by kernel_rfl) (by kernel_rfl) (by kernel_rfl) ?_
   refine WL.storeI hE hS 7 rfl [vi q111.2.2.2] (runs_plain rfl) rfl rfl rfl ty3 rfl rfl rfl rfl ?_; clear hE hS a w; intro a w hE hS
   refine WL.nil ?_
   refine ⟨⟨fun h => absurd h (by decide), fun _ => (((hS.dropAt 1).dropAt 5).dropAt 5)⟩, ?_⟩
   refine Rg.done (by kernel_rfl) ?_
   exact key  _ _ h1_0 h0_0 h0_1 h3 h74 (hE.pick _ ⟨rfl, rfl, rfl, trivial⟩) hS
  refine Br.mk (i := 3) false true rfl (by kernel_rfl) (by kernel_rfl) ?_
  refine WL.storeI hE hS 1 rfl [vi q111.2.1] (runs_plain rfl) rfl rfl rfl ty3 rfl rfl rfl rfl ?_; clear hE hS a w; intro a w hE hS
  refine WL.nil ?_
  refine ⟨⟨fun h => absurd h (by decide), fun _ => (((hS.dropAt 1).dropAt 5).dropAt 5)⟩, ?_⟩
  refine Rg.many 1 [2] (by kernel_rfl) ⟨?_, ?_, trivial⟩
  ·refine Br.mk (i := 1) false true rfl (by kernel_rfl) (by kernel_rfl) ?_
   refine vP hS hE (Gives.loadB hE 6 rfl rfl rfl ty3) rfl fun a hE => WL.nil ?_
   refine ⟨⟨fun h => absurd h (by decide), fun _ => (((hS.dropAt 1).dropAt 5).dropAt 5)⟩, ?_⟩
   refine Rg.many 2 [4] (by kernel_rfl) ⟨?_, ?_, trivial⟩
   ·refine Br.mk (i := 2) false true rfl (by kernel_rfl) (by kernel_rfl) ?_
    refine vP hS hE (Gives.loadB hE 7 rfl rfl rfl ty3) rfl fun a hE => WL.nil ?_
    refine ⟨⟨fun h => absurd h (by decide), fun _ => (((hS.dropAt 1).dropAt 5).dropAt 5)⟩, ?_⟩
    refine Rg.one (i := 4) false true rfl (by kernel_rfl) (by kernel_rfl) (by kernel_rfl) ?_
    refine WL.storeI hE hS 6 rfl [vi q111.2.2.1] (runs_plain rfl) rfl rfl rfl ty3 rfl rfl rfl rfl ?_; clear hE hS a w; intro a w hE hS
    refine WL.nil ?_
    refine ⟨⟨fun h => absurd h (by decide), fun _ => (((hS.dropAt 1).dropAt 5).dropAt 5)⟩, ?_⟩
    refine Rg.one (i := 5) false true rfl (by kernel_rfl) (by kernel_rfl) (by kernel_rfl) ?_
    refine WL.storeI hE hS 7 rfl [vi q111.2.2.2] (runs_plain rfl) rfl rfl rfl ty3 rfl rfl rfl rfl ?_; clear hE hS a w; intro a w hE hS
    refine WL.nil ?_
    refine ⟨⟨fun h => absurd h (by decide), fun _ => (((hS.dropAt 1).dropAt 5).dropAt 5)⟩, ?_⟩
    refine Rg.done (by kernel_rfl) ?_
    exact key  _ _ h1_0 h0_0 h0_1 h3 h74 (hE.pick _ ⟨rfl, rfl, rfl, trivial⟩) hS
   refine Br.mk (i := 4) false true rfl (by kernel_rfl) (by kernel_rfl) ?_
   refine WL.storeI hE hS 6 rfl [vi q111.2.2.1] (runs_plain rfl) rfl rfl rfl ty3 rfl rfl rfl rfl ?_; clear hE hS a w; intro a w hE hS
   refine WL.nil ?_
   refine ⟨⟨fun h => absurd h (by decide), fun _ => (((hS.dropAt 1).dropAt 5).dropAt 5)⟩, ?_⟩
   refine Rg.one (i := 2) false true rfl (by kernel_rfl) (by kernel_rfl) (by kernel_rfl) ?_
   refine vP hS hE (Gives.loadB hE 7 rfl rfl rfl ty3) rfl fun a hE => WL.nil ?_
   refine ⟨⟨fun h => absurd h (by decide), fun _ => (((hS.dropAt 1).dropAt 5).dropAt 5)⟩, ?_⟩
   refine Rg.one (i := 5) false true rfl (by kernel_rfl) (by kernel_rfl) (by kernel_rfl) ?_
   refine WL.storeI hE hS 7 rfl [vi q111.2.2.2] (runs_plain rfl) rfl rfl rfl ty3 rfl rfl rfl rfl ?_; clear hE hS a w; intro a w hE hS
   refine WL.nil ?_
   refine ⟨⟨fun h => absurd h (by decide), fun _ => (((hS.dropAt 1).dropAt 5).dropAt 5)⟩, ?_⟩
   refine Rg.done (by kernel_rfl) ?_
   exact key  _ _ h1_0 h0_0 h0_1 h3 h74 (hE.pick _ ⟨rfl, rfl, rfl, trivial⟩) hS
  refine Br.mk (i := 2) false true rfl (by kernel_rfl) (by kernel_rfl) ?_
  refine vP hS hE (Gives.loadB hE 7 rfl rfl rfl ty3) rfl fun a hE => WL.nil ?_
  refine ⟨⟨fun h => absurd h (by decide), fun _ => (((hS.dropAt 1).dropAt 5).dropAt 5)⟩, ?_⟩
  refine Rg.one (i := 1) false true rfl (by kernel_rfl) (by kernel_rfl) (by kernel_rfl) ?_
  refine vP hS hE (Gives.loadB hE 6 rfl rfl rfl ty3) rfl fun a hE => WL.nil ?_
  refine ⟨⟨fun h => absurd h (by decide), fun _ => (((hS.dropAt 1).dropAt 5).dropAt 5)⟩, ?_⟩
  refine Rg.one (i := 4) false true rfl (by kernel_rfl) (by kernel_rfl) (by kernel_rfl) ?_
  refine WL.storeI hE hS 6 rfl [vi q111.2.2.1] (runs_plain rfl) rfl rfl rfl ty3 rfl rfl rfl rfl ?_; clear hE hS a w; intro a w hE hS
  refine WL.nil ?_
  refine ⟨⟨fun h => absurd h (by decide), fun _ => (((hS.dropAt 1).dropAt 5).dropAt 5)⟩, ?_⟩
  refine Rg.one (i := 5) false true rfl (by kernel_rfl) (by kernel_rfl) (by kernel_rfl) ?_
  refine WL.storeI hE hS 7 rfl [vi q111.2.2.2] (runs_plain rfl) rfl rfl rfl ty3 rfl rfl rfl rfl ?_; clear hE hS a w; intro a w hE hS
  refine WL.nil ?_
  refine ⟨⟨fun h => absurd h (by decide), fun _ => (((hS.dropAt 1).dropAt 5).dropAt 5)⟩, ?_⟩
  refine Rg.done (by kernel_rfl) ?_
  exact key  _ _ h1_0 h0_0 h0_1 h3 h74 (hE.pick _ ⟨rfl, rfl, rfl, trivial⟩) hS
 clear hE hS a w; intro a w h1_0 h0_0 h0_1 h3 h74 hE hS
 subst hK113
 refine W.ret ?_
 refine finG (fn := Tryz.f58) (rs := [.cell 8 3, .cell 9 3, .cell 10 3]) (vs := [_, _, _]) hE rfl ⟨⟨_, rfl, .inr ⟨hS.seesAt 1 rfl, ty3⟩⟩, ⟨_, rfl, .inr ⟨hS.seesAt 6 rfl, ty3⟩⟩, ⟨_, rfl, .inr ⟨hS.seesAt 7 rfl, ty3⟩⟩, trivial⟩ ?_
 obtain rfl := Option.some.inj hr
 replace hS := hS.tail
 replace hS := hS.tail
 replace hS := hS.tail
 replace hS := hS.tail
 replace hS := hS.tail
 replace hS := hS.tail
 replace hS := hS.tail
 replace hS := hS.tail
 replace hS := hS.tail
 replace hS := hS.tail
 replace hS := hS.tail
 replace hS := hS.tail
 exact ⟨rfl, hS⟩
end Go.Proofs.YtpcebngchmgckaaGreatDoor
