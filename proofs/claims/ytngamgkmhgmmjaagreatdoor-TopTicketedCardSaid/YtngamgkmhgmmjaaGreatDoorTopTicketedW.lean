/- The walks of the functions that TopTicketed reaches: each call comes to what its mirror says. The conditions are those of each contract. -/
import Derived.Test.YtngamgkmhgmmjaaGreatDoorProg
import Derived.Test.YtngamgkmhgmmjaaGreatDoorTopTicketedM
import Derived.Test.YtngamgkmhgmmjaaGreatDoorFpAllT
import Derived.Test.YtngamgkmhgmmjaaGreatDoorTopTicketedS
import Derived.Test.YtngamgkmhgmmjaaGreatDoorFpErr
import Derived.Test.YtngamgkmhgmmjaaGreatDoorFpFld
import Derived.Test.YtngamgkmhgmmjaaGreatDoorFpPan
import Derived.Test.YtngamgkmhgmmjaaGreatDoorFpRgn
import Derived.Test.YtngamgkmhgmmjaaGreatDoorTopTicketedW3
set_option maxRecDepth 10000
namespace Go.Proofs.YtngamgkmhgmmjaaGreatDoor
open Go Go.Fp
set_option maxHeartbeats 8000000 in
theorem FareAccept_ok {fu : Nat}  {w : World} {s : Sg} {R : List HP} {x0 : FareKey} {x1 : ByteArray} {x2 : Int} {x3 : Int} {x4 : Int} {x5 : List Int} {a5 : Option Addr} {c5 : Nat} (hS : St w s (R)) (hTab : TabX s) (h5 : Sl 1 (RI .i64) s a5 c5 x5) {r : Int} (hr : FareAccept fu x0 x1 x2 x3 x4 x5 = some r) :
  Calls Tryz.prog 15 [.agg (FareKey.cells x0).toArray, .string x1, .int .i64 x2, .int .i64 x3, .int .i64 x4, .slice a5 x5.length c5].toArray w (fun e w => e = .returned (.int .i64 r) ∧ St w s (R)) := by
 refine enter Tryz.func15 rfl rfl rfl fun a hE => ?_
 rw [FareAccept] at hr
 refine W.seq (W.region ?_)
 refine WL.box hE hS (runs_plain rfl) rfl rfl rfl ?_; clear hE hS a w; intro b51 a w hE hS
 refine vP hS hE (Gives.p hE rfl) rfl ?_; clear hE a; intro a hE
 refine WL.nil ?_
 refine W.seq (W.region ?_)
 refine vP hS hE (Gives.loadBA hE 0 rfl rfl ty56) rfl ?_; clear hE a; intro a hE
 refine vP hS hE (Gives.p hE rfl) rfl ?_; clear hE a; intro a hE
 obtain ⟨q52, hq53, hr⟩ := bindS hr
 have hc_ := FareOpen_ok hS (TabG.mono (Sg.Le.refl _) hTab) hq53
 refine WL.fnq hE (hc_) (runs_plain rfl) bd33 rfl rfl rfl ?_
 clear hE hS hc_; rintro e w ⟨cs54, s56, rfl, hle57, h55, hS⟩; refine ⟨_, rfl, ?_⟩; clear a; intro a hE
 replace h5 := Sl.mono RI.mono hle57 h5
 obtain ⟨a58, c59, rfl, h60⟩ := h55
 refine vP hS hE (Gives.p hE rfl) rfl ?_; clear hE a; intro a hE
 refine vP hS hE (Gives.p hE rfl) rfl ?_; clear hE a; intro a hE
 refine vP hS hE (Gives.p hE rfl) rfl ?_; clear hE a; intro a hE
 refine WL.alloc hE hS (runs_plain rfl) zr62 rfl ?_; clear hE hS a w; intro b61 a w hE hS
 refine WL.storeI hE hS 0 rfl [.int .i64 q52.1.No, .int .i64 q52.1.Day, .int .i64 q52.1.Start, .int .i64 q52.1.End, .int .i64 q52.1.Price, .slice a58 q52.1.Zones.length c59] (runs_plain rfl) rfl rfl rfl ty62 rfl rfl rfl rfl ?_; clear hE hS a w; intro a w hE hS
 refine vP hS hE (Gives.p hE rfl) rfl ?_; clear hE a; intro a hE
 refine WL.nil ?_
 refine W.seq ?_
 refine W.block ?_
 refine W.seq (W.region ?_)
 refine vP hS hE (Gives.p hE rfl) rfl ?_; clear hE a; intro a hE
 refine vP hS hE (Gives.p hE rfl) rfl ?_; clear hE a; intro a hE
 refine vP hS hE (Gives.p hE rfl) rfl ?_; clear hE a; intro a hE
 refine WL.nil ?_
 refine W.cond hE rfl (fun hc62 => ?_) (fun hc62 => ?_)
 ·replace hr := iteT hc62 hr
  refine W.seq (W.region ?_)
  refine vP hS hE (Gives.p hE rfl) rfl ?_; clear hE a; intro a hE
  refine vP hS hE (Gives.p hE rfl) rfl ?_; clear hE a; intro a hE
  refine WL.nil ?_
  refine W.ret ?_
  refine finG (fn := Tryz.f15) (rs := [.tmp 12]) (vs := [_]) hE rfl ⟨rfl, trivial⟩ ?_
  obtain rfl := Option.some.inj hr
  replace hS := hS.tail
  replace hS := hS.tail
  exact ⟨rfl, (hS.down hle57)⟩
 ·replace hr := iteF hc62 hr
  refine W.seq ?_
  obtain ⟨q64, hq63, hr⟩ := bndS hr
  refine W.cut (fun a w => ∃ (q67 : Bool), q67 = q64 ∧ Rep a 50 [(4, .int .i64 x4), (5, .slice a5 x5.length c5), (13, .pointer (some ⟨b61, 0, none⟩)), (25, .bool q67)] ∧ St w s56 (pt b61 (.cells #[.int .i64 q52.1.No, .int .i64 q52.1.Day, .int .i64 q52.1.Start, .int .i64 q52.1.End, .int .i64 q52.1.Price, .slice a58 q52.1.Zones.length c59] 62 (0, 0)) :: pt b51 (.cells (FareKey.cells x0).toArray 56 (0, 0)) :: R)) ?_ ?_
  ·refine W.gen fun K68 hK68 => ?_
   refine W.region ?_
   refine vP hS hE (Gives.fld hE rfl fl62_1) rfl ?_; clear hE a; intro a hE
   refine vP hS hE (Gives.loadB hE 0 rfl rfl rfl ty3) rfl ?_; clear hE a; intro a hE
   refine vP hS hE (Gives.p hE rfl) rfl ?_; clear hE a; intro a hE
   refine vP hS hE (Gives.p hE rfl) rfl ?_; clear hE a; intro a hE
   refine vP hS hE (Gives.p hE rfl) rfl ?_; clear hE a; intro a hE
   rcases Bool.eq_false_or_eq_true (q52.1.Day != x2) with hg69 | hg69
   ·replace hq63 := iteT hg69 hq63
    refine WL.no hE (runs_not hE rfl rfl rfl (by rw [hg69]; decide)) rfl ?_; clear hE a; intro a hE
    refine WL.no hE (runs_not hE rfl rfl rfl (by rw [hg69]; decide)) rfl ?_; clear hE a; intro a hE
    refine WL.no hE (runs_not hE rfl rfl rfl (by rw [hg69]; decide)) rfl ?_; clear hE a; intro a hE
    refine WL.no hE (runs_not hE rfl rfl rfl (by rw [hg69]; decide)) rfl ?_; clear hE a; intro a hE
    refine WL.no hE (runs_not hE rfl rfl rfl (by rw [hg69]; decide)) rfl ?_; clear hE a; intro a hE
    refine WL.no hE (runs_not hE rfl rfl rfl (by rw [hg69]; decide)) rfl ?_; clear hE a; intro a hE
    refine WL.no hE (runs_not hE rfl rfl rfl (by rw [hg69]; decide)) rfl ?_; clear hE a; intro a hE
    refine vP hS hE (Gives.pickT hE rfl hg69 rfl) rfl ?_; clear hE a; intro a hE
    refine vP hS hE (Gives.p hE rfl) rfl ?_; clear hE a; intro a hE
    refine WL.nil ?_
    subst hK68
    exact ⟨true, hq63, hE.pick _ ⟨rfl, rfl, rfl, rfl, trivial⟩, hS⟩
   ·replace hq63 := iteF hg69 hq63
    refine WL.vS hS hE (runs_if hE rfl rfl rfl hg69) (Gives.p hE rfl) rfl ?_; clear hE a; intro a hE
    refine WL.vS hS hE (runs_if hE rfl rfl rfl hg69) (Gives.fld hE rfl fl62_2) rfl ?_; clear hE a; intro a hE
    refine WL.vS hS hE (runs_if hE rfl rfl rfl hg69) (Gives.loadB hE 0 rfl rfl rfl ty3) rfl ?_; clear hE a; intro a hE
    refine WL.vS hS hE (runs_if hE rfl rfl rfl hg69) (Gives.fld hE rfl fl62_3) rfl ?_; clear hE a; intro a hE
    refine WL.vS hS hE (runs_if hE rfl rfl rfl hg69) (Gives.loadB hE 0 rfl rfl rfl ty3) rfl ?_; clear hE a; intro a hE
    refine WL.fnq hE (Farewithin_ok hS  rfl (r := Farewithin x3 q52.1.Start q52.1.End)) (runs_if hE rfl rfl rfl hg69) bd26 rfl rfl rfl ?_
    clear hE hS; rintro e w ⟨rfl, hS⟩; refine ⟨_, rfl, ?_⟩; clear a; intro a hE
    refine WL.vS hS hE (runs_if hE rfl rfl rfl hg69) (Gives.p hE rfl) rfl ?_; clear hE a; intro a hE
    refine vP hS hE (Gives.pickF hE rfl hg69 rfl) rfl ?_; clear hE a; intro a hE
    refine vP hS hE (Gives.p hE rfl) rfl ?_; clear hE a; intro a hE
    refine WL.nil ?_
    subst hK68
    exact ⟨!(Farewithin x3 q52.1.Start q52.1.End), hq63, hE.pick _ ⟨rfl, rfl, rfl, rfl, trivial⟩, hS⟩
  ·clear hE hS a w; rintro a w ⟨q67, rfl, hE, hS⟩
   refine W.cond hE rfl (fun hc70 => ?_) (fun hc70 => ?_)
   ·replace hr := iteT hc70 hr
    refine W.seq (W.region ?_)
    refine vP hS hE (Gives.p hE rfl) rfl ?_; clear hE a; intro a hE
    refine WL.nil ?_
    refine W.ret ?_
    refine finG (fn := Tryz.f15) (rs := [.tmp 12]) (vs := [_]) hE rfl ⟨rfl, trivial⟩ ?_
    obtain rfl := Option.some.inj hr
    replace hS := hS.tail
    replace hS := hS.tail
    exact ⟨rfl, (hS.down hle57)⟩
   ·replace hr := iteF hc70 hr
    refine W.seq (W.region ?_)
    refine vP hS hE (Gives.fld hE rfl fl62_5) rfl ?_; clear hE a; intro a hE
    refine vP hS hE (Gives.loadB hE 0 rfl rfl rfl ty37) rfl ?_; clear hE a; intro a hE
    refine vP hS hE (Gives.p hE rfl) rfl ?_; clear hE a; intro a hE
    refine WL.fnq hE (SlicesContainsLint_ok hS h60 rfl (r := SlicesContainsLint q52.1.Zones x4)) (runs_plain rfl) bd16 rfl rfl rfl ?_
    clear hE hS; rintro e w ⟨rfl, hS⟩; refine ⟨_, rfl, ?_⟩; clear a; intro a hE
    refine vP hS hE (Gives.p hE rfl) rfl ?_; clear hE a; intro a hE
    refine vP hS hE (Gives.p hE rfl) rfl ?_; clear hE a; intro a hE
    refine WL.nil ?_
    refine W.cond hE rfl (fun hc71 => ?_) (fun hc71 => ?_)
    ·replace hr := iteT hc71 hr
     refine W.seq (W.region ?_)
     refine vP hS hE (Gives.p hE rfl) rfl ?_; clear hE a; intro a hE
     refine WL.nil ?_
     refine W.ret ?_
     refine finG (fn := Tryz.f15) (rs := [.tmp 12]) (vs := [_]) hE rfl ⟨rfl, trivial⟩ ?_
     obtain rfl := Option.some.inj hr
     replace hS := hS.tail
     replace hS := hS.tail
     exact ⟨rfl, (hS.down hle57)⟩
    ·replace hr := iteF hc71 hr
     refine W.seq (W.region ?_)
     refine vP hS hE (Gives.p hE rfl) rfl ?_; clear hE a; intro a hE
     refine vP hS hE (Gives.fld hE rfl fl62_0) rfl ?_; clear hE a; intro a hE
     refine vP hS hE (Gives.loadB hE 0 rfl rfl rfl ty3) rfl ?_; clear hE a; intro a hE
     refine WL.fnq hE (SlicesContainsLint_ok hS h5 rfl (r := SlicesContainsLint x5 q52.1.No)) (runs_plain rfl) bd16 rfl rfl rfl ?_
     clear hE hS; rintro e w ⟨rfl, hS⟩; refine ⟨_, rfl, ?_⟩; clear a; intro a hE
     refine vP hS hE (Gives.p hE rfl) rfl ?_; clear hE a; intro a hE
     refine WL.nil ?_
     refine W.cond hE rfl (fun hc72 => ?_) (fun hc72 => ?_)
     ·replace hr := iteT hc72 hr
      refine W.seq (W.region ?_)
      refine vP hS hE (Gives.p hE rfl) rfl ?_; clear hE a; intro a hE
      refine WL.nil ?_
      refine W.ret ?_
      refine finG (fn := Tryz.f15) (rs := [.tmp 12]) (vs := [_]) hE rfl ⟨rfl, trivial⟩ ?_
      obtain rfl := Option.some.inj hr
      replace hS := hS.tail
      replace hS := hS.tail
      exact ⟨rfl, (hS.down hle57)⟩
     ·replace hr := iteF hc72 hr
      refine W.skip ?_
      refine W.seq (W.region ?_)
      refine vP hS hE (Gives.p hE rfl) rfl ?_; clear hE a; intro a hE
      refine WL.nil ?_
      refine W.ret ?_
      refine finG (fn := Tryz.f15) (rs := [.tmp 12]) (vs := [_]) hE rfl ⟨rfl, trivial⟩ ?_
      obtain rfl := Option.some.inj hr
      replace hS := hS.tail
      replace hS := hS.tail
      exact ⟨rfl, (hS.down hle57)⟩
set_option maxHeartbeats 8000000 in
theorem FishtopTopTicketed_ok {fu : Nat}  {w : World} {s : Sg} {R : List HP} {x0 : ApiDay} {a0_0 : Option Addr} {c0_0 : Nat} {a0_1 : Option Addr} {c0_1 : Nat} {x1 : GuideJourney} {a1_0 : Option Addr} {c1_0 : Nat} {x2 : FareTariff} {a2_0 : Option Addr} {c2_0 : Nat} {a2_1 : Option Addr} {c2_1 : Nat} {x3 : Int} {x4 : Int} {x5 : Int} {x6 : Int} {x7 : Int} (hS : St w s (R)) (hTab : TabX s) (h0_0 : Sl 4 RApiTrain s a0_0 c0_0 x0.Trains) (h0_1 : Sl 1 (RL 1 (RI .i64)) s a0_1 c0_1 x0.Turns) (h1_0 : Sl 3 RGuideRide s a1_0 c1_0 x1.Rides) (h2_0 : Sl 2 RFareBand s a2_0 c2_0 x2.Bands) (h2_1 : Sl 7 RFareRule s a2_1 c2_1 x2.Rules) {r : Bool} (hr : FishtopTopTicketed fu x0 x1 x2 x3 x4 x5 x6 x7 = some r) :
  Calls Tryz.prog 3 [.agg (List.toArray [.slice a0_0 x0.Trains.length c0_0, .slice a0_1 x0.Turns.length c0_1]), .agg (List.toArray [.slice a1_0 x1.Rides.length c1_0]), .agg (List.toArray [.bool x2.ByKm, .slice a2_0 x2.Bands.length c2_0, .int .i64 x2.Round, .slice a2_1 x2.Rules.length c2_1]), .int .i64 x3, .int .i64 x4, .int .i64 x5, .int .i64 x6, .int .i64 x7].toArray w (fun e w => e = .returned (.bool r) ∧ St w s (R)) := by
 refine enter Tryz.func3 rfl rfl rfl fun a hE => ?_
 rw [FishtopTopTicketed] at hr
 refine W.seq (W.region ?_)
 refine WL.box hE hS (runs_plain rfl) rfl rfl rfl ?_; clear hE hS a w; intro b51 a w hE hS
 refine WL.box hE hS (runs_plain rfl) rfl rfl rfl ?_; clear hE hS a w; intro b52 a w hE hS
 refine WL.box hE hS (runs_plain rfl) rfl rfl rfl ?_; clear hE hS a w; intro b53 a w hE hS
 refine vP hS hE (Gives.p hE rfl) rfl ?_; clear hE a; intro a hE
 refine WL.nil ?_
 refine W.seq ?_
 refine W.seq (W.region ?_)
 obtain ⟨q54, hq55, hr⟩ := bindS hr
 have hc_ := FishtopawakeGuide_ok hS (TabG.mono (Sg.Le.refl _) hTab) hq55
 refine WL.fnq hE (hc_) (runs_plain rfl) bd4 rfl rfl rfl ?_
 clear hE hS hc_; rintro e w ⟨rfl, hS⟩; refine ⟨_, rfl, ?_⟩; clear a; intro a hE
 refine vP hS hE (Gives.p hE rfl) rfl ?_; clear hE a; intro a hE
 refine WL.nil ?_
 refine W.cond hE rfl (fun hc56 => ?_) (fun hc56 => ?_)
 ·replace hr := iteT hc56 hr
  refine W.seq (W.region ?_)
  refine vP hS hE (Gives.p hE rfl) rfl ?_; clear hE a; intro a hE
  refine WL.nil ?_
  refine W.ret ?_
  refine finG (fn := Tryz.f3) (rs := [.tmp 16]) (vs := [_]) hE rfl ⟨rfl, trivial⟩ ?_
  obtain rfl := Option.some.inj hr
  replace hS := hS.tail
  replace hS := hS.tail
  replace hS := hS.tail
  exact ⟨rfl, hS⟩
 ·replace hr := iteF hc56 hr
  refine W.skip ?_
  refine W.seq ?_
  refine W.seq ?_
  obtain ⟨q58, hq57, hr⟩ := bindS hr
  refine W.cut (fun a w => ∃ (q61 : Bool), q61 = q58 ∧ Rep a 267 [(3, .int .i64 x3), (4, .int .i64 x4), (5, .int .i64 x5), (6, .int .i64 x6), (7, .int .i64 x7), (8, .pointer (some ⟨b51, 0, none⟩)), (9, .pointer (some ⟨b52, 0, none⟩)), (10, .pointer (some ⟨b53, 0, none⟩)), (47, .bool q61)] ∧ St w s (pt b53 (.cells #[.bool x2.ByKm, .slice a2_0 x2.Bands.length c2_0, .int .i64 x2.Round, .slice a2_1 x2.Rules.length c2_1] 32 (0, 0)) :: pt b52 (.cells #[.slice a1_0 x1.Rides.length c1_0] 28 (0, 0)) :: pt b51 (.cells #[.slice a0_0 x0.Trains.length c0_0, .slice a0_1 x0.Turns.length c0_1] 25 (0, 0)) :: R)) ?_ ?_
  ·refine W.gen fun K62 hK62 => ?_
   refine W.region ?_
   refine vP hS hE (Gives.loadBA hE 2 rfl rfl ty25) rfl ?_; clear hE a; intro a hE
   obtain ⟨q63, hq64, hq57⟩ := bindS hq57
   have hc_ := Fishref2GuideFault_ok hS h0_0 h0_1 hq64
   refine WL.fnq hE (hc_) (runs_plain rfl) bd5 rfl rfl rfl ?_
   clear hE hS hc_; rintro e w ⟨rfl, hS⟩; refine ⟨_, rfl, ?_⟩; clear a; intro a hE
   refine vP hS hE (Gives.p hE rfl) rfl ?_; clear hE a; intro a hE
   refine vP hS hE (Gives.p hE rfl) rfl ?_; clear hE a; intro a hE
   rcases Bool.eq_false_or_eq_true (q63 != 0) with hg65 | hg65
   ·replace hq57 := iteT hg65 hq57
    refine WL.no hE (runs_not hE rfl rfl rfl (by rw [hg65]; decide)) rfl ?_; clear hE a; intro a hE
    refine WL.no hE (runs_not hE rfl rfl rfl (by rw [hg65]; decide)) rfl ?_; clear hE a; intro a hE
    refine WL.no hE (runs_not hE rfl rfl rfl (by rw [hg65]; decide)) rfl ?_; clear hE a; intro a hE
    refine WL.no hE (runs_not hE rfl rfl rfl (by rw [hg65]; decide)) rfl ?_; clear hE a; intro a hE
    refine vP hS hE (Gives.pickT hE rfl hg65 rfl) rfl ?_; clear hE a; intro a hE
    refine WL.nil ?_
    subst hK62
    exact ⟨true, Option.some.inj hq57, hE.pick _ ⟨rfl, rfl, rfl, rfl, rfl, rfl, rfl, rfl, rfl, trivial⟩, hS⟩
   ·replace hq57 := iteF hg65 hq57
    refine WL.vS hS hE (runs_if hE rfl rfl rfl hg65) (Gives.loadBA hE 2 rfl rfl ty25) rfl ?_; clear hE a; intro a hE
    refine WL.vS hS hE (runs_if hE rfl rfl rfl hg65) (Gives.loadBA hE 1 rfl rfl ty28) rfl ?_; clear hE a; intro a hE
    obtain ⟨q66, hq67, hq57⟩ := bindS hq57
    have hc_ := Fishref2JourneyFault_ok hS h0_0 h0_1 h1_0 hq67
    refine WL.fnq hE (hc_) (runs_if hE rfl rfl rfl hg65) bd6 rfl rfl rfl ?_
    clear hE hS hc_; rintro e w ⟨rfl, hS⟩; refine ⟨_, rfl, ?_⟩; clear a; intro a hE
    refine WL.vS hS hE (runs_if hE rfl rfl rfl hg65) (Gives.p hE rfl) rfl ?_; clear hE a; intro a hE
    refine vP hS hE (Gives.pickF hE rfl hg65 rfl) rfl ?_; clear hE a; intro a hE
    refine WL.nil ?_
    subst hK62
    exact ⟨(q66 != 0), Option.some.inj hq57, hE.pick _ ⟨rfl, rfl, rfl, rfl, rfl, rfl, rfl, rfl, rfl, trivial⟩, hS⟩
  ·clear hE hS a w; rintro a w ⟨q61, rfl, hE, hS⟩
   refine W.cond hE rfl (fun hc68 => ?_) (fun hc68 => ?_)
   ·replace hr := iteT hc68 hr
    refine W.seq (W.region ?_)
    refine vP hS hE (Gives.p hE rfl) rfl ?_; clear hE a; intro a hE
    refine WL.nil ?_
    refine W.ret ?_
    refine finG (fn := Tryz.f3) (rs := [.tmp 16]) (vs := [_]) hE rfl ⟨rfl, trivial⟩ ?_
    obtain rfl := Option.some.inj hr
    replace hS := hS.tail
    replace hS := hS.tail
    replace hS := hS.tail
    exact ⟨rfl, hS⟩
   ·replace hr := iteF hc68 hr
    refine W.skip ?_
    refine W.seq (W.region ?_)
    replace hS := hS.vecNil 3 1
    refine vP hS hE (Gives.p hE rfl) rfl ?_; clear hE a; intro a hE
    refine vP hS hE (Gives.p hE rfl) rfl ?_; clear hE a; intro a hE
    refine WL.nil ?_
    refine W.seq ?_
    refine W.seq (W.region ?_)
    refine vP hS hE (Gives.fld hE rfl fl28_0) rfl ?_; clear hE a; intro a hE
    refine vP hS hE (Gives.loadB hE 2 rfl rfl rfl ty26) rfl ?_; clear hE a; intro a hE
    refine vP hS hE (Gives.len hE rfl sl26) rfl ?_; clear hE a; intro a hE
    refine vP hS hE (Gives.p hE rfl) rfl ?_; clear hE a; intro a hE
    refine WL.nil ?_
    obtain ⟨q71, hq70, hr⟩ := bindS hr
    refine W.cut (fun a w => ∃ (q81 : List Int), ∃ (a82 : Option Addr), ∃ (c83 : Nat), ∃ (n85 : Nat), ∃ (cs86 : List Value), q81 = q71 ∧ Ev 1 (RI .i64) s cs86 q81 ∧ q81.length = n85 ∧ Rep a 267 [(3, .int .i64 x3), (4, .int .i64 x4), (5, .int .i64 x5), (6, .int .i64 x6), (7, .int .i64 x7), (8, .pointer (some ⟨b51, 0, none⟩)), (9, .pointer (some ⟨b52, 0, none⟩)), (10, .pointer (some ⟨b53, 0, none⟩)), (17, .slice a82 n85 c83)] ∧ St w s (vecC 3 1 a82 c83 n85 cs86 :: pt b53 (.cells #[.bool x2.ByKm, .slice a2_0 x2.Bands.length c2_0, .int .i64 x2.Round, .slice a2_1 x2.Rules.length c2_1] 32 (0, 0)) :: pt b52 (.cells #[.slice a1_0 x1.Rides.length c1_0] 28 (0, 0)) :: pt b51 (.cells #[.slice a0_0 x0.Trains.length c0_0, .slice a0_1 x0.Turns.length c0_1] 25 (0, 0)) :: R)) ?_ ?_
    ·refine W.block ?_
     refine W.loop (fun m a w => ∃ (rest74 : List GuideRide) (k72 : Nat), ∃ (q81 : List Int), ∃ (a82 : Option Addr), ∃ (c83 : Nat), ∃ (n85 : Nat), ∃ (cs86 : List Value), rest74.length = m ∧ x1.Rides.drop k72 = rest74 ∧ FishtopTopTicketed.loop1 x0 rest74 q81 = some q71 ∧ Ev 1 (RI .i64) s cs86 q81 ∧ q81.length = n85 ∧ Rep a 267 [(3, .int .i64 x3), (4, .int .i64 x4), (5, .int .i64 x5), (6, .int .i64 x6), (7, .int .i64 x7), (8, .pointer (some ⟨b51, 0, none⟩)), (9, .pointer (some ⟨b52, 0, none⟩)), (10, .pointer (some ⟨b53, 0, none⟩)), (17, .slice a82 n85 c83), (49, .slice a1_0 x1.Rides.length c1_0), (50, .int .i64 ((x1.Rides).length : Int)), (51, .int .i64 ((k72 : Nat) : Int))] ∧ St w s (vecC 3 1 a82 c83 n85 cs86 :: pt b53 (.cells #[.bool x2.ByKm, .slice a2_0 x2.Bands.length c2_0, .int .i64 x2.Round, .slice a2_1 x2.Rules.length c2_1] 32 (0, 0)) :: pt b52 (.cells #[.slice a1_0 x1.Rides.length c1_0] 28 (0, 0)) :: pt b51 (.cells #[.slice a0_0 x0.Trains.length c0_0, .slice a0_1 x0.Turns.length c0_1] 25 (0, 0)) :: R)) (m := x1.Rides.length) ⟨x1.Rides, 0, [], none, 0, 0, [], rfl, rfl, hq70, (Ev.nil), (rfl), hE.pick _ ⟨rfl, rfl, rfl, rfl, rfl, rfl, rfl, rfl, rfl, rfl, rfl, rfl, trivial⟩, hS⟩ ?_
     clear hE hS a w hq70; rintro m78 a w ⟨rest74, k72, q81, a82, c83, n85, cs86, rfl, hd75, hq70, h84, rfl, hE, hS⟩
     refine W.gen fun K88 hK88 => ?_
     rcases rest74 with _ | ⟨x73, rest74⟩
     ·have hlt76 := drop_nil hd75
      refine W.seq (W.region ?_)
      refine vP hS hE (Gives.p hE rfl) rfl ?_; clear hE a; intro a hE
      refine WL.nil ?_
      refine W.seq ?_
      refine W.condF hE rfl (decide_eq_false (by omega)) ?_
      subst hK88
      refine W.exit rfl ?_
      exact ⟨q81, a82, c83, q81.length, cs86, Option.some.inj hq70, h84, rfl, hE.pick _ ⟨rfl, rfl, rfl, rfl, rfl, rfl, rfl, rfl, rfl, trivial⟩, hS⟩
     ·obtain ⟨hlt76, hx77, hd75⟩ := drop_cons hd75
      rw [FishtopTopTicketed.loop1] at hq70
      refine W.seq (W.region ?_)
      refine vP hS hE (Gives.p hE rfl) rfl ?_; clear hE a; intro a hE
      refine WL.nil ?_
      refine W.seq ?_
      refine W.condT hE rfl (decide_eq_true (by omega)) ?_
      refine W.skip ?_
      refine W.seq ?_
      refine W.block ?_
      refine W.seq (W.region ?_)
      obtain ⟨cs89, hl90, hR91, hat92⟩ := h1_0.at hx77
      subst hR91
      refine vP hS hE (Gives.idx hE k72 rfl rfl sl26 rfl hlt76 (h1_0.aok hlt76)) rfl ?_; clear hE a; intro a hE
      refine vP hS hE (Gives.loadA hE rfl (fun w h => hat92 w _ h) ty39) rfl ?_; clear hE a; intro a hE
      refine WL.alloc hE hS (runs_plain rfl) zr39 rfl ?_; clear hE hS a w; intro b93 a w hE hS
      refine WL.storeI hE hS 0 rfl (GuideRide.cells x73) (runs_plain rfl) rfl rfl rfl ty39 rfl rfl rfl rfl ?_; clear hE hS a w; intro a w hE hS
      refine WL.nil ?_
      refine W.seq ?_
      refine W.regionQ (C := fun w => St w s (pt b93 (.cells (GuideRide.cells x73).toArray 39 (0, 0)) :: vecC 3 1 a82 c83 q81.length cs86 :: pt b53 (.cells #[.bool x2.ByKm, .slice a2_0 x2.Bands.length c2_0, .int .i64 x2.Round, .slice a2_1 x2.Rules.length c2_1] 32 (0, 0)) :: pt b52 (.cells #[.slice a1_0 x1.Rides.length c1_0] 28 (0, 0)) :: pt b51 (.cells #[.slice a0_0 x0.Trains.length c0_0, .slice a0_1 x0.Turns.length c0_1] 25 (0, 0)) :: R)) mixed (by kernel_rfl) hS.drew ?_
      refine qP hE (Gives.fld hE rfl fl25_0) rfl ?_; clear hE a; intro a hE
      refine qP hE (Gives.loadB hE 4 rfl rfl rfl ty22) rfl ?_; clear hE a; intro a hE
      refine qP hE (Gives.fld hE rfl fl39_0) rfl ?_; clear hE a; intro a hE
      refine qP hE (Gives.loadB hE 0 rfl rfl rfl ty3) rfl ?_; clear hE a; intro a hE
      obtain ⟨x94, hx95, hq70⟩ := bindS hq70
      obtain ⟨hi96, hlt97, hy98⟩ := gx_some hx95
      obtain ⟨cs99, hl100, hR101, hat102⟩ := h0_0.at hy98
      obtain ⟨a103, c104, a106, c107, rfl, h105, h108⟩ := hR101
      refine qP hE (Gives.idx hE (x73.Train).toNat rfl rfl sl22 hi96 hlt97 (h0_0.aok hlt97)) rfl ?_; clear hE a; intro a hE
      refine qP hE (Gives.fld hE rfl fl42_2) rfl ?_; clear hE a; intro a hE
      refine qP hE (Gives.load1 hE rfl (fun w h => (hat102 w _ h).one rfl) ty40) rfl ?_; clear hE a; intro a hE
      refine qP hE (Gives.fld hE rfl fl39_1) rfl ?_; clear hE a; intro a hE
      refine qP hE (Gives.loadB hE 0 rfl rfl rfl ty3) rfl ?_; clear hE a; intro a hE
      refine qP hE (Gives.fld hE rfl fl39_2) rfl ?_; clear hE a; intro a hE
      refine qP hE (Gives.loadB hE 0 rfl rfl rfl ty3) rfl ?_; clear hE a; intro a hE
      refine qP hE (Gives.p hE rfl) rfl ?_; clear hE a; intro a hE
      obtain ⟨x109, hx110, hq70⟩ := bindS hq70
      obtain ⟨a111, c112, heq113, h114⟩ := h105.cut hx110
      obtain ⟨h115, h116, h117, _⟩ := cutl_some hx110
      refine qP hE (Gives.slLH hE sl40 rfl rfl rfl h115 h116 (Int.le_trans h117 (by have := h105.len; omega)) heq113) rfl ?_; clear hE a; intro a hE
      refine qP hE (Gives.len hE rfl sl40) rfl ?_; clear hE a; intro a hE
      refine qP hE (Gives.p hE rfl) rfl ?_; clear hE a; intro a hE
      refine QL.nil ?_; clear hS w; intro w hS
      obtain ⟨q119, hq118, hq70⟩ := bindS hq70
      refine W.cut (fun a w => ∃ (q129 : List Int), ∃ (a130 : Option Addr), ∃ (c131 : Nat), ∃ (n133 : Nat), ∃ (cs134 : List Value), q129 = q119 ∧ Ev 1 (RI .i64) s cs134 q129 ∧ q129.length = n133 ∧ Rep a 267 [(3, .int .i64 x3), (4, .int .i64 x4), (5, .int .i64 x5), (6, .int .i64 x6), (7, .int .i64 x7), (8, .pointer (some ⟨b51, 0, none⟩)), (9, .pointer (some ⟨b52, 0, none⟩)), (10, .pointer (some ⟨b53, 0, none⟩)), (17, .slice a130 n133 c131), (49, .slice a1_0 x1.Rides.length c1_0), (50, .int .i64 ((x1.Rides).length : Int)), (51, .int .i64 ((k72 : Nat) : Int))] ∧ St w s (pt b93 (.cells (GuideRide.cells x73).toArray 39 (0, 0)) :: vecC 3 1 a130 c131 n133 cs134 :: pt b53 (.cells #[.bool x2.ByKm, .slice a2_0 x2.Bands.length c2_0, .int .i64 x2.Round, .slice a2_1 x2.Rules.length c2_1] 32 (0, 0)) :: pt b52 (.cells #[.slice a1_0 x1.Rides.length c1_0] 28 (0, 0)) :: pt b51 (.cells #[.slice a0_0 x0.Trains.length c0_0, .slice a0_1 x0.Turns.length c0_1] 25 (0, 0)) :: R)) ?_ ?_
      ·refine W.block ?_
       refine W.loop (fun m a w => ∃ (rest122 : List ApiStop) (k120 : Nat), ∃ (q129 : List Int), ∃ (a130 : Option Addr), ∃ (c131 : Nat), ∃ (n133 : Nat), ∃ (cs134 : List Value), rest122.length = m ∧ x109.drop k120 = rest122 ∧ FishtopTopTicketed.loop2 rest122 q129 = some q119 ∧ Ev 1 (RI .i64) s cs134 q129 ∧ q129.length = n133 ∧ Rep a 267 [(3, .int .i64 x3), (4, .int .i64 x4), (5, .int .i64 x5), (6, .int .i64 x6), (7, .int .i64 x7), (8, .pointer (some ⟨b51, 0, none⟩)), (9, .pointer (some ⟨b52, 0, none⟩)), (10, .pointer (some ⟨b53, 0, none⟩)), (17, .slice a130 n133 c131), (49, .slice a1_0 x1.Rides.length c1_0), (50, .int .i64 ((x1.Rides).length : Int)), (51, .int .i64 ((k72 : Nat) : Int)), (67, .slice a111 x109.length c112), (68, .int .i64 ((x109).length : Int)), (69, .int .i64 ((k120 : Nat) : Int))] ∧ St w s (pt b93 (.cells (GuideRide.cells x73).toArray 39 (0, 0)) :: vecC 3 1 a130 c131 n133 cs134 :: pt b53 (.cells #[.bool x2.ByKm, .slice a2_0 x2.Bands.length c2_0, .int .i64 x2.Round, .slice a2_1 x2.Rules.length c2_1] 32 (0, 0)) :: pt b52 (.cells #[.slice a1_0 x1.Rides.length c1_0] 28 (0, 0)) :: pt b51 (.cells #[.slice a0_0 x0.Trains.length c0_0, .slice a0_1 x0.Turns.length c0_1] 25 (0, 0)) :: R)) (m := x109.length) ⟨x109, 0, q81, a82, c83, q81.length, cs86, rfl, rfl, hq118, h84, rfl, hE.pick _ ⟨rfl, rfl, rfl, rfl, rfl, rfl, rfl, rfl, rfl, rfl, rfl, rfl, rfl, rfl, rfl, trivial⟩, hS⟩ ?_
       clear hE hS a w hq118; rintro m126 a w ⟨rest122, k120, q129, a130, c131, n133, cs134, rfl, hd123, hq118, h132, rfl, hE, hS⟩
       refine W.gen fun K136 hK136 => ?_
       rcases rest122 with _ | ⟨x121, rest122⟩
       ·have hlt124 := drop_nil hd123
        refine W.seq (W.region ?_)
        refine vP hS hE (Gives.p hE rfl) rfl ?_; clear hE a; intro a hE
        refine WL.nil ?_
        refine W.seq ?_
        refine W.condF hE rfl (decide_eq_false (by omega)) ?_
        subst hK136
        refine W.exit rfl ?_
        exact ⟨q129, a130, c131, q129.length, cs134, Option.some.inj hq118, h132, rfl, hE.pick _ ⟨rfl, rfl, rfl, rfl, rfl, rfl, rfl, rfl, rfl, rfl, rfl, rfl, trivial⟩, hS⟩
       ·obtain ⟨hlt124, hx125, hd123⟩ := drop_cons hd123
        rw [FishtopTopTicketed.loop2] at hq118
        refine W.seq (W.region ?_)
        refine vP hS hE (Gives.p hE rfl) rfl ?_; clear hE a; intro a hE
        refine WL.nil ?_
        refine W.seq ?_
        refine W.condT hE rfl (decide_eq_true (by omega)) ?_
        refine W.skip ?_
        refine W.seq ?_
        refine W.block ?_
        refine W.seq (W.region ?_)
        obtain ⟨cs137, hl138, hR139, hat140⟩ := h114.at hx125
        subst hR139
        refine vP hS hE (Gives.idx hE k120 rfl rfl sl40 rfl hlt124 (h114.aok hlt124)) rfl ?_; clear hE a; intro a hE
        refine vP hS hE (Gives.loadA hE rfl (fun w h => hat140 w _ h) ty44) rfl ?_; clear hE a; intro a hE
        refine WL.alloc hE hS (runs_plain rfl) zr44 rfl ?_; clear hE hS a w; intro b141 a w hE hS
        refine WL.storeI hE hS 0 rfl (ApiStop.cells x121) (runs_plain rfl) rfl rfl rfl ty44 rfl rfl rfl rfl ?_; clear hE hS a w; intro a w hE hS
        refine WL.nil ?_
        refine W.seq ?_
        obtain ⟨q143, hq142, hq118⟩ := bindS hq118
        refine W.cut (fun a w => ∃ (q146 : Bool), q146 = q143 ∧ Rep a 267 [(3, .int .i64 x3), (4, .int .i64 x4), (5, .int .i64 x5), (6, .int .i64 x6), (7, .int .i64 x7), (8, .pointer (some ⟨b51, 0, none⟩)), (9, .pointer (some ⟨b52, 0, none⟩)), (10, .pointer (some ⟨b53, 0, none⟩)), (17, .slice a130 q129.length c131), (22, .pointer (some ⟨b141, 0, none⟩)), (49, .slice a1_0 x1.Rides.length c1_0), (50, .int .i64 ((x1.Rides).length : Int)), (51, .int .i64 ((k72 : Nat) : Int)), (67, .slice a111 x109.length c112), (68, .int .i64 ((x109).length : Int)), (69, .int .i64 ((k120 : Nat) : Int)), (86, .bool q146)] ∧ St w s (pt b141 (.cells (ApiStop.cells x121).toArray 44 (0, 0)) :: pt b93 (.cells (GuideRide.cells x73).toArray 39 (0, 0)) :: vecC 3 1 a130 c131 q129.length cs134 :: pt b53 (.cells #[.bool x2.ByKm, .slice a2_0 x2.Bands.length c2_0, .int .i64 x2.Round, .slice a2_1 x2.Rules.length c2_1] 32 (0, 0)) :: pt b52 (.cells #[.slice a1_0 x1.Rides.length c1_0] 28 (0, 0)) :: pt b51 (.cells #[.slice a0_0 x0.Trains.length c0_0, .slice a0_1 x0.Turns.length c0_1] 25 (0, 0)) :: R)) ?_ ?_
        ·refine W.gen fun K147 hK147 => ?_
         refine W.regionQ (C := fun w => St w s (pt b141 (.cells (ApiStop.cells x121).toArray 44 (0, 0)) :: pt b93 (.cells (GuideRide.cells x73).toArray 39 (0, 0)) :: vecC 3 1 a130 c131 q129.length cs134 :: pt b53 (.cells #[.bool x2.ByKm, .slice a2_0 x2.Bands.length c2_0, .int .i64 x2.Round, .slice a2_1 x2.Rules.length c2_1] 32 (0, 0)) :: pt b52 (.cells #[.slice a1_0 x1.Rides.length c1_0] 28 (0, 0)) :: pt b51 (.cells #[.slice a0_0 x0.Trains.length c0_0, .slice a0_1 x0.Turns.length c0_1] 25 (0, 0)) :: R)) mixed (by kernel_rfl) hS.drew ?_
         refine qP hE (Gives.p hE rfl) rfl ?_; clear hE a; intro a hE
         refine qP hE (Gives.len hE rfl sl37) rfl ?_; clear hE a; intro a hE
         refine qP hE (Gives.p hE rfl) rfl ?_; clear hE a; intro a hE
         refine qP hE (Gives.p hE rfl) rfl ?_; clear hE a; intro a hE
         rcases Bool.eq_false_or_eq_true (((q129.length : Nat) : Int) == 0) with hg148 | hg148
         ·replace hq142 := iteT hg148 hq142
          refine QL.no hE (runs_not hE rfl rfl rfl (by rw [hg148]; decide)) rfl ?_; clear hE a; intro a hE
          refine QL.no hE (runs_not hE rfl rfl rfl (by rw [hg148]; decide)) rfl ?_; clear hE a; intro a hE
          refine QL.no hE (runs_not hE rfl rfl rfl (by rw [hg148]; decide)) rfl ?_; clear hE a; intro a hE
          refine QL.no hE (runs_not hE rfl rfl rfl (by rw [hg148]; decide)) rfl ?_; clear hE a; intro a hE
          refine QL.no hE (runs_not hE rfl rfl rfl (by rw [hg148]; decide)) rfl ?_; clear hE a; intro a hE
          refine QL.no hE (runs_not hE rfl rfl rfl (by rw [hg148]; decide)) rfl ?_; clear hE a; intro a hE
          refine QL.no hE (runs_not hE rfl rfl rfl (by rw [hg148]; decide)) rfl ?_; clear hE a; intro a hE
          refine QL.no hE (runs_not hE rfl rfl rfl (by rw [hg148]; decide)) rfl ?_; clear hE a; intro a hE
          refine QL.no hE (runs_not hE rfl rfl rfl (by rw [hg148]; decide)) rfl ?_; clear hE a; intro a hE
          refine qP hE (Gives.pickT hE rfl hg148 rfl) rfl ?_; clear hE a; intro a hE
          refine QL.nil ?_; clear hS w; intro w hS
          subst hK147
          exact ⟨true, Option.some.inj hq142, hE.pick _ ⟨rfl, rfl, rfl, rfl, rfl, rfl, rfl, rfl, rfl, rfl, rfl, rfl, rfl, rfl, rfl, rfl, rfl, trivial⟩, hS⟩
         ·replace hq142 := iteF hg148 hq142
          refine QL.v hE (runs_if hE rfl rfl rfl hg148) (Gives.p hE rfl) rfl ?_; clear hE a; intro a hE
          refine QL.v hE (runs_if hE rfl rfl rfl hg148) (Gives.p hE rfl) rfl ?_; clear hE a; intro a hE
          refine QL.v hE (runs_if hE rfl rfl rfl hg148) (Gives.len hE rfl sl37) rfl ?_; clear hE a; intro a hE
          refine QL.v hE (runs_if hE rfl rfl rfl hg148) (Gives.p hE rfl) rfl ?_; clear hE a; intro a hE
          obtain ⟨x149, hx150, hq142⟩ := bindS hq142
          obtain ⟨hi151, hlt152, hy153⟩ := gx_some hx150
          obtain ⟨vs154, hl155, hR156, hd157, hget158⟩ := h132.at hy153
          subst hR156
          refine QL.v hE (runs_if hE rfl rfl rfl hg148) (Gives.idx hE ((w64 (((q129.length : Nat) : Int) - 1)).toNat) rfl rfl sl37 hi151 (by omega) (hS.vecAok 2 rfl (by omega : (w64 (((q129.length : Nat) : Int) - 1)).toNat < q129.length))) rfl ?_; clear hE a; intro a hE
          refine QL.v hE (runs_if hE rfl rfl rfl hg148) (Gives.load1 hE rfl (fun w h => St.vecSees h 2 rfl ((w64 (((q129.length : Nat) : Int) - 1)).toNat * 1) _ hget158) ty3) rfl ?_; clear hE a; intro a hE
          refine QL.v hE (runs_if hE rfl rfl rfl hg148) (Gives.fld hE rfl fl44_0) rfl ?_; clear hE a; intro a hE
          refine QL.v hE (runs_if hE rfl rfl rfl hg148) (Gives.loadB hE 0 rfl rfl rfl ty3) rfl ?_; clear hE a; intro a hE
          refine QL.v hE (runs_if hE rfl rfl rfl hg148) (Gives.p hE rfl) rfl ?_; clear hE a; intro a hE
          refine qP hE (Gives.pickF hE rfl hg148 rfl) rfl ?_; clear hE a; intro a hE
          refine QL.nil ?_; clear hS w; intro w hS
          subst hK147
          exact ⟨(x149 != x121.Station), Option.some.inj hq142, hE.pick _ ⟨rfl, rfl, rfl, rfl, rfl, rfl, rfl, rfl, rfl, rfl, rfl, rfl, rfl, rfl, rfl, rfl, rfl, trivial⟩, hS⟩
        ·clear hE hS a w; rintro a w ⟨q146, rfl, hE, hS⟩
         obtain ⟨q160, hq159, hq118⟩ := bindS hq118
         refine W.cut (fun a w => ∃ (q163 : List Int), ∃ (a164 : Option Addr), ∃ (c165 : Nat), ∃ (n167 : Nat), ∃ (cs168 : List Value), q163 = q160 ∧ Ev 1 (RI .i64) s cs168 q163 ∧ q163.length = n167 ∧ Rep a 267 [(3, .int .i64 x3), (4, .int .i64 x4), (5, .int .i64 x5), (6, .int .i64 x6), (7, .int .i64 x7), (8, .pointer (some ⟨b51, 0, none⟩)), (9, .pointer (some ⟨b52, 0, none⟩)), (10, .pointer (some ⟨b53, 0, none⟩)), (17, .slice a164 n167 c165), (49, .slice a1_0 x1.Rides.length c1_0), (50, .int .i64 ((x1.Rides).length : Int)), (51, .int .i64 ((k72 : Nat) : Int)), (67, .slice a111 x109.length c112), (68, .int .i64 ((x109).length : Int)), (69, .int .i64 ((k120 : Nat) : Int))] ∧ St w s (pt b141 (.cells (ApiStop.cells x121).toArray 44 (0, 0)) :: pt b93 (.cells (GuideRide.cells x73).toArray 39 (0, 0)) :: vecC 3 1 a164 c165 n167 cs168 :: pt b53 (.cells #[.bool x2.ByKm, .slice a2_0 x2.Bands.length c2_0, .int .i64 x2.Round, .slice a2_1 x2.Rules.length c2_1] 32 (0, 0)) :: pt b52 (.cells #[.slice a1_0 x1.Rides.length c1_0] 28 (0, 0)) :: pt b51 (.cells #[.slice a0_0 x0.Trains.length c0_0, .slice a0_1 x0.Turns.length c0_1] 25 (0, 0)) :: R)) ?_ ?_
         ·refine W.gen fun K170 hK170 => ?_
          refine W.cond hE rfl (fun hc171 => ?_) (fun hc171 => ?_)
          ·replace hq159 := iteT hc171 hq159
           refine W.region ?_
           refine vP hS hE (Gives.p hE rfl) rfl ?_; clear hE a; intro a hE
           refine vP hS hE (Gives.fld hE rfl fl44_0) rfl ?_; clear hE a; intro a hE
           refine vP hS hE (Gives.loadB hE 0 rfl rfl rfl ty3) rfl ?_; clear hE a; intro a hE
           refine WL.lit hE hS (e := 3) (es := 1) (vs := [(0, .int .i64 x121.Station)]) (cs := [.int .i64 x121.Station]) (runs_plain rfl) rfl (by kernel_rfl) rfl ?_; clear hE hS a w; intro b172 a w hE hS
           obtain ⟨x173, hx174, hq159⟩ := bindS hq159
           refine WL.appD hE hS 2 (m := 1) (runs_plain rfl) rfl rfl rfl ap37 rfl h132 rfl (xs := [x121.Station]) (Ev.cons (c1 := [.int .i64 x121.Station]) rfl rfl (Ev.nil)) rfl rfl hx174 rfl ?_; clear hE hS a w; intro a175 c176 cs177 a w h178 hE hS
           refine vP hS hE (Gives.p hE rfl) rfl ?_; clear hE a; intro a hE
           refine WL.nil ?_
           subst hK170
           exact ⟨x173, a175, c176, x173.length, cs177, Option.some.inj hq159, h178, (rfl), hE.pick _ ⟨rfl, rfl, rfl, rfl, rfl, rfl, rfl, rfl, rfl, rfl, rfl, rfl, rfl, rfl, rfl, trivial⟩, hS⟩
          ·replace hq159 := iteF hc171 hq159
           refine W.skip ?_
           subst hK170
           exact ⟨q129, a130, c131, q129.length, cs134, Option.some.inj hq159, h132, rfl, hE.pick _ ⟨rfl, rfl, rfl, rfl, rfl, rfl, rfl, rfl, rfl, rfl, rfl, rfl, rfl, rfl, rfl, trivial⟩, hS⟩
         ·clear hE hS a w; rintro a w ⟨q163, a164, c165, n167, cs168, rfl, h166, rfl, hE, hS⟩
          refine W.region ?_
          refine vP hS hE (Gives.inc hE rfl (by have := h114.small; omega)) rfl ?_; clear hE a; intro a hE
          refine vP hS hE (Gives.p hE rfl) rfl ?_; clear hE a; intro a hE
          refine WL.nil ?_
          replace hS := hS.tail
          subst hK136
          exact ⟨rest122.length, Nat.lt_succ_self _, rest122, k120 + 1, q163, a164, c165, q163.length, cs168, rfl, hd123, hq118, h166, rfl, hE.pick _ ⟨rfl, rfl, rfl, rfl, rfl, rfl, rfl, rfl, rfl, rfl, rfl, rfl, rfl, rfl, rfl, trivial⟩, hS⟩
      ·clear hE hS a w; rintro a w ⟨q129, a130, c131, n133, cs134, rfl, h132, rfl, hE, hS⟩
       refine W.region ?_
       refine vP hS hE (Gives.inc hE rfl (by have := h1_0.small; omega)) rfl ?_; clear hE a; intro a hE
       refine vP hS hE (Gives.p hE rfl) rfl ?_; clear hE a; intro a hE
       refine WL.nil ?_
       replace hS := hS.tail
       subst hK88
       exact ⟨rest74.length, Nat.lt_succ_self _, rest74, k72 + 1, q129, a130, c131, q129.length, cs134, rfl, hd75, hq70, h132, rfl, hE.pick _ ⟨rfl, rfl, rfl, rfl, rfl, rfl, rfl, rfl, rfl, rfl, rfl, rfl, trivial⟩, hS⟩
    ·clear hE hS a w; rintro a w ⟨q81, a82, c83, n85, cs86, rfl, h84, rfl, hE, hS⟩
     refine W.seq (W.region ?_)
     refine vP hS hE (Gives.p hE rfl) rfl ?_; clear hE a; intro a hE
     have hF := hS.fixD RI.mono 0 rfl h84 rfl; clear hS; obtain ⟨s179, hle180, hS, h181⟩ := hF
     replace h2_0 := Sl.mono RFareBand.mono hle180 h2_0
     replace h2_1 := Sl.mono RFareRule.mono hle180 h2_1
     replace h1_0 := Sl.mono RGuideRide.mono hle180 h1_0
     replace h0_0 := Sl.mono RApiTrain.mono hle180 h0_0
     replace h0_1 := Sl.mono (RL.mono RI.mono) hle180 h0_1
     refine WL.fnq hE (itVals_ok hS) (runs_plain rfl) bd9 rfl rfl rfl ?_
     clear hE hS; rintro e w ⟨b182, rfl, hS⟩; refine ⟨_, rfl, ?_⟩; clear a; intro a hE
     obtain ⟨q183, hq184, hr⟩ := bindS hr
     have hc_ := SlicesSortedint_v1_ok hS h181 hq184
     refine WL.fnq hE (hc_) (runs_plain rfl) bd8 rfl rfl rfl ?_
     clear hE hS hc_; rintro e w ⟨a185, c186, n187, cs188, rfl, h189, rfl, hS⟩; refine ⟨_, rfl, ?_⟩; clear a; intro a hE
     refine WL.fnq hE (itCompact_ok hS h189 rfl) (runs_plain rfl) bd7 rfl rfl rfl ?_
     clear hE hS; rintro e w ⟨_, cs192, rfl, h193, rfl, hS⟩; refine ⟨_, rfl, ?_⟩; clear a; intro a hE
     obtain ⟨q194, hq195, hr⟩ := bndS hr
     rw [hq195] at h193 hS hE
     refine vP hS hE (Gives.p hE rfl) rfl ?_; clear hE a; intro a hE
     refine WL.nil ?_
     refine W.seq ?_
     refine W.seq (W.region ?_)
     refine vP hS hE (Gives.p hE rfl) rfl ?_; clear hE a; intro a hE
     refine vP hS hE (Gives.len hE rfl sl37) rfl ?_; clear hE a; intro a hE
     refine vP hS hE (Gives.p hE rfl) rfl ?_; clear hE a; intro a hE
     refine WL.nil ?_
     refine W.cond hE rfl (fun hc198 => ?_) (fun hc198 => ?_)
     ·replace hr := iteT hc198 hr
      refine W.seq (W.region ?_)
      refine vP hS hE (Gives.p hE rfl) rfl ?_; clear hE a; intro a hE
      refine WL.nil ?_
      refine W.ret ?_
      refine finG (fn := Tryz.f3) (rs := [.tmp 16]) (vs := [_]) hE rfl ⟨rfl, trivial⟩ ?_
      obtain rfl := Option.some.inj hr
      replace hS := hS.tail
      replace hS := hS.tail
      replace hS := hS.tail
      replace hS := hS.tail
      replace hS := hS.tail
      exact ⟨rfl, (hS.down hle180)⟩
     ·replace hr := iteF hc198 hr
      refine W.skip ?_
      refine W.seq ?_
      refine W.gen fun K199 hK199 => ?_
      refine rE hS [] [] [0, 1, 2, 3, 4, 5, 6, 7, 8, 9, 10, 11, 12, 13, 14, 15, 16] [0, 1, 2, 3, 4, 5, 6, 7, 8, 9, 10, 11, 12, 13, 14, 15, 16] mixed ?_
      replace hS := hS.drew
      refine Rg.take (i := 0) true rfl hE rfl (by kernel_rfl) (runs_plain rfl) (Gives.loadBA hE 2 rfl rfl ty32) rfl (tw_sel (fun _ => hS) (fun _ => hS)) ?_; clear hE a; intro a hE
      refine Rg.take (i := 1) true rfl hE rfl (by kernel_rfl) (runs_plain rfl) (Gives.loadBA hE 4 rfl rfl ty25) rfl (tw_sel (fun _ => hS) (fun _ => hS)) ?_; clear hE a; intro a hE
      refine Rg.take (i := 2) true rfl hE rfl (by kernel_rfl) (runs_plain rfl) (Gives.loadBA hE 3 rfl rfl ty28) rfl (tw_sel (fun _ => hS) (fun _ => hS)) ?_; clear hE a; intro a hE
      refine Rg.takeP (i := 4) hE rfl (by kernel_rfl) (runs_plain rfl) (Gives.p hE rfl) rfl (tw_sel (fun _ => hS) (fun _ => hS)) ?_; clear hE a; intro a hE
      refine Rg.takeP (i := 5) hE rfl (by kernel_rfl) (runs_plain rfl) (Gives.len hE rfl sl37) rfl (tw_sel (fun _ => hS) (fun _ => hS)) ?_; clear hE a; intro a hE
      refine Rg.takeP (i := 6) hE rfl (by kernel_rfl) (runs_plain rfl) (Gives.p hE rfl) rfl (tw_sel (fun _ => hS) (fun _ => hS)) ?_; clear hE a; intro a hE
      refine Rg.takeP (i := 7) hE rfl (by kernel_rfl) (runs_plain rfl) (Gives.p hE rfl) rfl (tw_sel (fun _ => hS) (fun _ => hS)) ?_; clear hE a; intro a hE
      refine Rg.one (i := 3) true true rfl (by kernel_rfl) (by kernel_rfl) (by kernel_rfl) ?_
      obtain ⟨q200, hq201, hr⟩ := bindS hr
      have hc_ := Fishref2Leaves_ok hS h0_0 h0_1 h1_0 hq201
      refine WL.fnq hE (hc_) (runs_plain rfl) bd11 rfl rfl rfl ?_
      clear hE hS hc_; rintro e w ⟨rfl, hS⟩; refine ⟨_, rfl, ?_⟩; clear a; intro a hE
      refine WL.nil ?_
      refine ⟨⟨fun _ => hS, fun _ => hS⟩, ?_⟩
      refine Rg.takeP (i := 8) hE rfl (by kernel_rfl) (runs_plain rfl) (Gives.build hE (vs := [(1, .int .i64 q200), (2, .int .i64 ((q81).length : Int)), (3, .int .i64 x7), (5, .slice a82 q81.length c83)]) [.int .i64 0, .int .i64 q200, .int .i64 ((q81).length : Int), .int .i64 x7, .bool false, .slice a82 q81.length c83] rfl (by kernel_rfl)) rfl (tw_sel (fun _ => hS) (fun _ => hS)) ?_; clear hE a; intro a hE
      refine Rg.one (i := 9) true true rfl (by kernel_rfl) (by kernel_rfl) (by kernel_rfl) ?_
      obtain ⟨q202, hq203, hr⟩ := bindS hr
      have hc_ := FarePrice_ok (x1 := (FareTrip.mk 0 q200 ((q81).length : Int) x7 false q81)) hS h2_0 h2_1 h181 hq203
      refine WL.fnq hE (hc_) (runs_plain rfl) bd10 rfl rfl rfl ?_
      clear hE hS hc_; rintro e w ⟨a204, c205, n206, cs207, rfl, h208, rfl, hS⟩; refine ⟨_, rfl, ?_⟩; clear a; intro a hE
      refine WL.nil ?_
      refine ⟨⟨fun _ => (hS.tail), fun _ => (hS.tail)⟩, ?_⟩
      refine Rg.takeP (i := 10) hE rfl (by kernel_rfl) (runs_plain rfl) (Gives.p hE rfl) rfl (tw_sel (fun _ => (hS.tail)) (fun _ => (hS.tail))) ?_; clear hE a; intro a hE
      refine Rg.takeP (i := 11) hE rfl (by kernel_rfl) (runs_plain rfl) (Gives.p hE rfl) rfl (tw_sel (fun _ => (hS.tail)) (fun _ => (hS.tail))) ?_; clear hE a; intro a hE
      refine Rg.takeP (i := 12) hE rfl (by kernel_rfl) (runs_plain rfl) (Gives.p hE rfl) rfl (tw_sel (fun _ => (hS.tail)) (fun _ => (hS.tail))) ?_; clear hE a; intro a hE
      refine Rg.takeP (i := 13) hE rfl (by kernel_rfl) (runs_plain rfl) (Gives.p hE rfl) rfl (tw_sel (fun _ => (hS.tail)) (fun _ => (hS.tail))) ?_; clear hE a; intro a hE
      refine Rg.takeP (i := 14) hE rfl (by kernel_rfl) (runs_plain rfl) (Gives.p hE rfl) rfl (tw_sel (fun _ => (hS.tail)) (fun _ => (hS.tail))) ?_; clear hE a; intro a hE
      refine Rg.takeP (i := 15) hE rfl (by kernel_rfl) (runs_plain rfl) (Gives.p hE rfl) rfl (tw_sel (fun _ => (hS.tail)) (fun _ => (hS.tail))) ?_; clear hE a; intro a hE
      refine Rg.takeP (i := 16) hE rfl (by kernel_rfl) (runs_plain rfl) (Gives.p hE rfl) rfl (tw_sel (fun _ => (hS.tail)) (fun _ => (hS.tail))) ?_; clear hE a; intro a hE
      refine Rg.done (by kernel_rfl) ?_
      subst hK199
      refine W.seq ?_
      refine W.seq (W.region ?_)
      refine vP hS hE (Gives.p hE rfl) rfl ?_; clear hE a; intro a hE
      refine vP hS hE (Gives.p hE rfl) rfl ?_; clear hE a; intro a hE
      refine WL.nil ?_
      refine W.cond hE rfl (fun hc210 => ?_) (fun hc210 => ?_)
      ·replace hr := iteT hc210 hr
       refine W.seq (W.region ?_)
       refine vP hS hE (Gives.p hE rfl) rfl ?_; clear hE a; intro a hE
       refine vP hS hE (Gives.p hE rfl) rfl ?_; clear hE a; intro a hE
       refine vP hS hE (Gives.p hE rfl) rfl ?_; clear hE a; intro a hE
       refine WL.nil ?_
       refine W.ret ?_
       refine finG (fn := Tryz.f3) (rs := [.tmp 16]) (vs := [_]) hE rfl ⟨rfl, trivial⟩ ?_
       obtain rfl := Option.some.inj hr
       replace hS := hS.tail
       replace hS := hS.tail
       replace hS := hS.tail
       replace hS := hS.tail
       replace hS := hS.tail
       replace hS := hS.tail
       exact ⟨rfl, (hS.down hle180)⟩
      ·replace hr := iteF hc210 hr
       refine W.skip ?_
       refine W.seq (W.region ?_)
       refine vP hS hE (Gives.p hE rfl) rfl ?_; clear hE a; intro a hE
       refine vP hS hE (Gives.p hE rfl) rfl ?_; clear hE a; intro a hE
       refine vP hS hE (Gives.p hE rfl) rfl ?_; clear hE a; intro a hE
       obtain ⟨q211, hq212, hr⟩ := bindS hr
       have hc_ := FareMakeKey_ok hS  hq212
       refine WL.fnq hE (hc_) (runs_plain rfl) bd12 rfl rfl rfl ?_
       clear hE hS hc_; rintro e w ⟨cs213, rfl, h214, hS⟩; refine ⟨_, rfl, ?_⟩; clear a; intro a hE
       subst h214
       refine vP hS hE (Gives.p hE rfl) rfl ?_; clear hE a; intro a hE
       refine vP hS hE (Gives.p hE rfl) rfl ?_; clear hE a; intro a hE
       refine vP hS hE (Gives.p hE rfl) rfl ?_; clear hE a; intro a hE
       refine WL.alloc hE hS (runs_plain rfl) zr56 rfl ?_; clear hE hS a w; intro b215 a w hE hS
       refine WL.storeI hE hS 0 rfl (FareKey.cells q211.1) (runs_plain rfl) rfl rfl rfl ty56 rfl rfl rfl rfl ?_; clear hE hS a w; intro a w hE hS
       refine vP hS hE (Gives.p hE rfl) rfl ?_; clear hE a; intro a hE
       refine WL.nil ?_
       refine W.seq ?_
       refine W.seq (W.region ?_)
       refine vP hS hE (Gives.p hE rfl) rfl ?_; clear hE a; intro a hE
       refine vP hS hE (Gives.p hE rfl) rfl ?_; clear hE a; intro a hE
       refine WL.nil ?_
       refine W.cond hE rfl (fun hc216 => ?_) (fun hc216 => ?_)
       ·replace hr := iteT hc216 hr
        refine W.seq (W.region ?_)
        refine vP hS hE (Gives.loadBA hE 0 rfl rfl ty56) rfl ?_; clear hE a; intro a hE
        refine vP hS hE (Gives.build hE (vs := []) [.int .i64 0, .int .i64 0, .int .i64 0] rfl (by kernel_rfl)) rfl ?_; clear hE a; intro a hE
        refine vP hS hE (show Gives _ _ _ _ (Value.bool ((q211.1.N == 0) && ((q211.1.E == 0) && (q211.1.D == 0)))) from Gives.eqS hE [.i .i64, .i .i64, .i .i64] [.i .i64 q211.1.N, .i .i64 q211.1.E, .i .i64 q211.1.D] [.i .i64 0, .i .i64 0, .i .i64 0] rfl rfl se56 rfl rfl rfl rfl) rfl ?_; clear hE a; intro a hE
        refine vP hS hE (Gives.p hE rfl) rfl ?_; clear hE a; intro a hE
        refine WL.nil ?_
        refine W.ret ?_
        refine finG (fn := Tryz.f3) (rs := [.tmp 16]) (vs := [_]) hE rfl ⟨rfl, trivial⟩ ?_
        obtain rfl := Option.some.inj hr
        replace hS := hS.tail
        replace hS := hS.tail
        replace hS := hS.tail
        replace hS := hS.tail
        replace hS := hS.tail
        replace hS := hS.tail
        replace hS := hS.tail
        exact ⟨rfl, (hS.down hle180)⟩
       ·replace hr := iteF hc216 hr
        refine W.skip ?_
        refine W.seq ?_
        refine W.regionQ (C := fun w => St w s179 (pt b215 (.cells (FareKey.cells q211.1).toArray 56 (0, 0)) :: vecC 3 1 a204 c205 q202.2.1.length cs207 :: vecC 3 1 a185 c186 q194.length cs192 :: pt b182 (.cells #[.slice a82 q81.length c83] 37 (0, 0)) :: pt b53 (.cells #[.bool x2.ByKm, .slice a2_0 x2.Bands.length c2_0, .int .i64 x2.Round, .slice a2_1 x2.Rules.length c2_1] 32 (0, 0)) :: pt b52 (.cells #[.slice a1_0 x1.Rides.length c1_0] 28 (0, 0)) :: pt b51 (.cells #[.slice a0_0 x0.Trains.length c0_0, .slice a0_1 x0.Turns.length c0_1] 25 (0, 0)) :: R)) mixed (by kernel_rfl) hS.drew ?_
        refine qP hE (Gives.loadBA hE 0 rfl rfl ty56) rfl ?_; clear hE a; intro a hE
        refine qP hE (Gives.p hE rfl) rfl ?_; clear hE a; intro a hE
        refine qP hE (Gives.loadBA hE 6 rfl rfl ty25) rfl ?_; clear hE a; intro a hE
        refine qP hE (Gives.loadBA hE 5 rfl rfl ty28) rfl ?_; clear hE a; intro a hE
        obtain ⟨q217, hq218, hr⟩ := bindS hr
        refine QL.fnq hE (fun w hS => Fishref2Leaves_ok hS h0_0 h0_1 h1_0 hq218) (runs_plain rfl) bd11 rfl rfl rfl ?_; clear hE a; intro a hE
        refine qP hE (Gives.loadBA hE 6 rfl rfl ty25) rfl ?_; clear hE a; intro a hE
        refine qP hE (Gives.loadBA hE 5 rfl rfl ty28) rfl ?_; clear hE a; intro a hE
        obtain ⟨q219, hq220, hr⟩ := bindS hr
        refine QL.fnq hE (fun w hS => Fishref2Arrives_ok hS h0_0 h0_1 h1_0 hq220) (runs_plain rfl) bd14 rfl rfl rfl ?_; clear hE a; intro a hE
        refine qP hE (Gives.p hE rfl) rfl ?_; clear hE a; intro a hE
        refine qP hE (Gives.p hE rfl) rfl ?_; clear hE a; intro a hE
        refine qP hE (Gives.build hE (vs := [(0, .int .i64 x6), (1, .int .i64 3), (2, .int .i64 q217), (3, .int .i64 q219), (4, .int .i64 q202.1), (5, .slice a185 q194.length c186)]) [.int .i64 x6, .int .i64 3, .int .i64 q217, .int .i64 q219, .int .i64 q202.1, .slice a185 q194.length c186] rfl (by kernel_rfl)) rfl ?_; clear hE a; intro a hE
        obtain ⟨q221, hq222, hr⟩ := bindS hr
        refine QL.fnq hE (fun w hS => let ⟨t0_, hl0_, hS0_, hs0_, bk0_⟩ := hS.lendV RI.mono 2 rfl h193 (rfl); (FareIssue_ok (x1 := (FareTicket.mk x6 3 q217 q219 q202.1 q194)) hS0_ (TabG.mono hl0_ (TabG.mono hle180 hTab)) hs0_ hq222).mono fun _ _ ⟨he, hq⟩ => ⟨he, (St.unfront 2 rfl (bk0_ _ _ hq))⟩) (runs_plain rfl) bd13 rfl rfl rfl ?_; clear hE a; intro a hE
        refine qP hE (Gives.p hE rfl) rfl ?_; clear hE a; intro a hE
        refine qP hE (Gives.p hE rfl) rfl ?_; clear hE a; intro a hE
        refine qP hE (Gives.p hE rfl) rfl ?_; clear hE a; intro a hE
        refine qP hE (Gives.p hE rfl) rfl ?_; clear hE a; intro a hE
        refine qP hE (Gives.p hE rfl) rfl ?_; clear hE a; intro a hE
        refine QL.nil ?_; clear hS w; intro w hS
        refine W.seq ?_
        refine W.seq (W.region ?_)
        refine vP hS hE (Gives.p hE rfl) rfl ?_; clear hE a; intro a hE
        refine vP hS hE (Gives.p hE rfl) rfl ?_; clear hE a; intro a hE
        refine WL.nil ?_
        refine W.cond hE rfl (fun hc223 => ?_) (fun hc223 => ?_)
        ·replace hr := iteT hc223 hr
         refine W.seq ?_
         obtain ⟨q225, hq224, hr⟩ := bndS hr
         refine W.cut (fun a w => ∃ (q228 : Bool), q228 = q225 ∧ Rep a 267 [(16, .bool q228)] ∧ St w s179 (pt b215 (.cells (FareKey.cells q211.1).toArray 56 (0, 0)) :: pt b182 (.cells #[.slice a82 q81.length c83] 37 (0, 0)) :: pt b53 (.cells #[.bool x2.ByKm, .slice a2_0 x2.Bands.length c2_0, .int .i64 x2.Round, .slice a2_1 x2.Rules.length c2_1] 32 (0, 0)) :: pt b52 (.cells #[.slice a1_0 x1.Rides.length c1_0] 28 (0, 0)) :: pt b51 (.cells #[.slice a0_0 x0.Trains.length c0_0, .slice a0_1 x0.Turns.length c0_1] 25 (0, 0)) :: R)) ?_ ?_
         ·refine W.gen fun K229 hK229 => ?_
          refine W.region ?_
          refine vP hS hE (Gives.p hE rfl) rfl ?_; clear hE a; intro a hE
          refine vP hS hE (Gives.p hE rfl) rfl ?_; clear hE a; intro a hE
          refine vP hS hE (Gives.p hE rfl) rfl ?_; clear hE a; intro a hE
          rcases Bool.eq_false_or_eq_true (decide (x6 < 0)) with hg230 | hg230
          ·replace hq224 := iteT hg230 hq224
           refine WL.no hE (runs_not hE rfl rfl rfl (by rw [hg230]; decide)) rfl ?_; clear hE a; intro a hE
           refine WL.no hE (runs_not hE rfl rfl rfl (by rw [hg230]; decide)) rfl ?_; clear hE a; intro a hE
           refine vP hS hE (Gives.pickT hE rfl hg230 rfl) rfl ?_; clear hE a; intro a hE
           refine vP hS hE (Gives.p hE rfl) rfl ?_; clear hE a; intro a hE
           refine WL.no hE (runs_not hE rfl rfl rfl (by decide)) rfl ?_; clear hE a; intro a hE
           refine WL.no hE (runs_not hE rfl rfl rfl (by decide)) rfl ?_; clear hE a; intro a hE
           refine vP hS hE (Gives.pickT hE rfl rfl rfl) rfl ?_; clear hE a; intro a hE
           refine vP hS hE (Gives.p hE rfl) rfl ?_; clear hE a; intro a hE
           refine WL.nil ?_
           replace hS := hS.dropAt 1
           replace hS := hS.dropAt 1
           subst hK229
           exact ⟨true, hq224, hE.pick _ ⟨rfl, trivial⟩, hS⟩
          ·replace hq224 := iteF hg230 hq224
           refine WL.vS hS hE (runs_if hE rfl rfl rfl hg230) (Gives.p hE rfl) rfl ?_; clear hE a; intro a hE
           refine WL.vS hS hE (runs_if hE rfl rfl rfl hg230) (Gives.p hE rfl) rfl ?_; clear hE a; intro a hE
           refine vP hS hE (Gives.pickF hE rfl hg230 rfl) rfl ?_; clear hE a; intro a hE
           refine vP hS hE (Gives.p hE rfl) rfl ?_; clear hE a; intro a hE
           rcases Bool.eq_false_or_eq_true (decide (x6 > 999999)) with hg231 | hg231
           ·replace hq224 := iteT hg231 hq224
            refine WL.no hE (runs_not hE rfl rfl rfl (by rw [hg231]; decide)) rfl ?_; clear hE a; intro a hE
            refine WL.no hE (runs_not hE rfl rfl rfl (by rw [hg231]; decide)) rfl ?_; clear hE a; intro a hE
            refine vP hS hE (Gives.pickT hE rfl hg231 rfl) rfl ?_; clear hE a; intro a hE
            refine vP hS hE (Gives.p hE rfl) rfl ?_; clear hE a; intro a hE
            refine WL.nil ?_
            replace hS := hS.dropAt 1
            replace hS := hS.dropAt 1
            subst hK229
            exact ⟨true, hq224, hE.pick _ ⟨rfl, trivial⟩, hS⟩
           ·replace hq224 := iteF hg231 hq224
            refine WL.vS hS hE (runs_if hE rfl rfl rfl hg231) (Gives.p hE rfl) rfl ?_; clear hE a; intro a hE
            refine WL.vS hS hE (runs_if hE rfl rfl rfl hg231) (Gives.p hE rfl) rfl ?_; clear hE a; intro a hE
            refine vP hS hE (Gives.pickF hE rfl hg231 rfl) rfl ?_; clear hE a; intro a hE
            refine vP hS hE (Gives.p hE rfl) rfl ?_; clear hE a; intro a hE
            refine WL.nil ?_
            replace hS := hS.dropAt 1
            replace hS := hS.dropAt 1
            subst hK229
            exact ⟨decide (q202.1 > 100000), hq224, hE.pick _ ⟨rfl, trivial⟩, hS⟩
         ·clear hE hS a w; rintro a w ⟨q228, rfl, hE, hS⟩
          refine W.ret ?_
          refine finG (fn := Tryz.f3) (rs := [.tmp 16]) (vs := [_]) hE rfl ⟨rfl, trivial⟩ ?_
          obtain rfl := Option.some.inj hr
          replace hS := hS.tail
          replace hS := hS.tail
          replace hS := hS.tail
          replace hS := hS.tail
          replace hS := hS.tail
          exact ⟨rfl, (hS.down hle180)⟩
        ·replace hr := iteF hc223 hr
         refine W.skip ?_
         refine W.seq (W.region ?_)
         refine vP hS hE (Gives.fld hE rfl fl56_0) rfl ?_; clear hE a; intro a hE
         refine vP hS hE (Gives.loadB hE 0 rfl rfl rfl ty3) rfl ?_; clear hE a; intro a hE
         refine vP hS hE (Gives.fld hE rfl fl56_1) rfl ?_; clear hE a; intro a hE
         refine vP hS hE (Gives.loadB hE 0 rfl rfl rfl ty3) rfl ?_; clear hE a; intro a hE
         refine vP hS hE (Gives.build hE (vs := [(0, .int .i64 q211.1.N), (1, .int .i64 q211.1.E)]) [.int .i64 q211.1.N, .int .i64 q211.1.E, .int .i64 0] rfl (by kernel_rfl)) rfl ?_; clear hE a; intro a hE
         refine WL.alloc hE hS (runs_plain rfl) zr56 rfl ?_; clear hE hS a w; intro b232 a w hE hS
         refine WL.storeI hE hS 0 rfl [.int .i64 q211.1.N, .int .i64 q211.1.E, .int .i64 0] (runs_plain rfl) rfl rfl rfl ty56 rfl rfl rfl rfl ?_; clear hE hS a w; intro a w hE hS
         refine WL.nil ?_
         refine W.seq ?_
         refine W.seq (W.region ?_)
         refine vP hS hE (Gives.fld hE rfl fl28_0) rfl ?_; clear hE a; intro a hE
         refine vP hS hE (Gives.loadB hE 6 rfl rfl rfl ty26) rfl ?_; clear hE a; intro a hE
         refine vP hS hE (Gives.len hE rfl sl26) rfl ?_; clear hE a; intro a hE
         refine vP hS hE (Gives.p hE rfl) rfl ?_; clear hE a; intro a hE
         refine WL.nil ?_
         replace hS := hS.dropAt 2
         obtain ⟨q234, hq233, hr⟩ := bindS hr
         refine W.cut (fun a w => ∃ (s242 : Sg), s179.Le s242 ∧ (.next ()) = q234 ∧ Rep a 267 [(8, .pointer (some ⟨b51, 0, none⟩)), (9, .pointer (some ⟨b52, 0, none⟩)), (17, .slice a82 q81.length c83), (18, .slice a185 q194.length c186), (27, .string q221.1), (28, .pointer (some ⟨b232, 0, none⟩))] ∧ St w s242 (pt b232 (.cells #[.int .i64 q211.1.N, .int .i64 q211.1.E, .int .i64 0] 56 (0, 0)) :: pt b215 (.cells (FareKey.cells q211.1).toArray 56 (0, 0)) :: vecC 3 1 a185 c186 q194.length cs192 :: pt b182 (.cells #[.slice a82 q81.length c83] 37 (0, 0)) :: pt b53 (.cells #[.bool x2.ByKm, .slice a2_0 x2.Bands.length c2_0, .int .i64 x2.Round, .slice a2_1 x2.Rules.length c2_1] 32 (0, 0)) :: pt b52 (.cells #[.slice a1_0 x1.Rides.length c1_0] 28 (0, 0)) :: pt b51 (.cells #[.slice a0_0 x0.Trains.length c0_0, .slice a0_1 x0.Turns.length c0_1] 25 (0, 0)) :: R)) ?_ ?_
         ·refine W.block ?_
          refine W.loop (fun m a w => ∃ (rest237 : List GuideRide) (k235 : Nat), ∃ (s242 : Sg), rest237.length = m ∧ x1.Rides.drop k235 = rest237 ∧ s179.Le s242 ∧ FishtopTopTicketed.loop3 x0 x6 fu q211 q221 rest237 = some q234 ∧ Rep a 267 [(6, .int .i64 x6), (8, .pointer (some ⟨b51, 0, none⟩)), (9, .pointer (some ⟨b52, 0, none⟩)), (17, .slice a82 q81.length c83), (18, .slice a185 q194.length c186), (27, .string q221.1), (28, .pointer (some ⟨b232, 0, none⟩)), (164, .slice a1_0 x1.Rides.length c1_0), (165, .int .i64 ((x1.Rides).length : Int)), (166, .int .i64 ((k235 : Nat) : Int))] ∧ St w s242 (pt b232 (.cells #[.int .i64 q211.1.N, .int .i64 q211.1.E, .int .i64 0] 56 (0, 0)) :: pt b215 (.cells (FareKey.cells q211.1).toArray 56 (0, 0)) :: vecC 3 1 a185 c186 q194.length cs192 :: pt b182 (.cells #[.slice a82 q81.length c83] 37 (0, 0)) :: pt b53 (.cells #[.bool x2.ByKm, .slice a2_0 x2.Bands.length c2_0, .int .i64 x2.Round, .slice a2_1 x2.Rules.length c2_1] 32 (0, 0)) :: pt b52 (.cells #[.slice a1_0 x1.Rides.length c1_0] 28 (0, 0)) :: pt b51 (.cells #[.slice a0_0 x0.Trains.length c0_0, .slice a0_1 x0.Turns.length c0_1] 25 (0, 0)) :: R)) (m := x1.Rides.length) ⟨x1.Rides, 0, s179, rfl, rfl, (Sg.Le.refl _), hq233, hE.pick _ ⟨rfl, rfl, rfl, rfl, rfl, rfl, rfl, rfl, rfl, rfl, trivial⟩, hS⟩ ?_
          clear hE hS a w hq233; rintro m241 a w ⟨rest237, k235, s242, rfl, hd238, hle243, hq233, hE, hS⟩
          refine W.gen fun K244 hK244 => ?_
          replace h181 := Sl.mono RI.mono hle243 h181
          replace h2_0 := Sl.mono RFareBand.mono hle243 h2_0
          replace h2_1 := Sl.mono RFareRule.mono hle243 h2_1
          replace h0_0 := Sl.mono RApiTrain.mono hle243 h0_0
          replace h0_1 := Sl.mono (RL.mono RI.mono) hle243 h0_1
          replace h1_0 := Sl.mono RGuideRide.mono hle243 h1_0
          replace h193 := Ev.mono RI.mono hle243 h193
          rcases rest237 with _ | ⟨x236, rest237⟩
          ·have hlt239 := drop_nil hd238
           refine W.seq (W.region ?_)
           refine vP hS hE (Gives.p hE rfl) rfl ?_; clear hE a; intro a hE
           refine WL.nil ?_
           refine W.seq ?_
           refine W.condF hE rfl (decide_eq_false (by omega)) ?_
           subst hK244
           refine W.exit rfl ?_
           exact ⟨s242, hle243, Option.some.inj hq233, hE.pick _ ⟨rfl, rfl, rfl, rfl, rfl, rfl, trivial⟩, hS⟩
          ·obtain ⟨hlt239, hx240, hd238⟩ := drop_cons hd238
           rw [FishtopTopTicketed.loop3] at hq233
           refine W.seq (W.region ?_)
           refine vP hS hE (Gives.p hE rfl) rfl ?_; clear hE a; intro a hE
           refine WL.nil ?_
           refine W.seq ?_
           refine W.condT hE rfl (decide_eq_true (by omega)) ?_
           refine W.skip ?_
           refine W.seq ?_
           refine W.block ?_
           refine W.seq (W.region ?_)
           obtain ⟨cs245, hl246, hR247, hat248⟩ := h1_0.at hx240
           subst hR247
           refine vP hS hE (Gives.idx hE k235 rfl rfl sl26 rfl hlt239 (h1_0.aok hlt239)) rfl ?_; clear hE a; intro a hE
           refine vP hS hE (Gives.loadA hE rfl (fun w h => hat248 w _ h) ty39) rfl ?_; clear hE a; intro a hE
           refine WL.alloc hE hS (runs_plain rfl) zr39 rfl ?_; clear hE hS a w; intro b249 a w hE hS
           refine WL.storeI hE hS 0 rfl (GuideRide.cells x236) (runs_plain rfl) rfl rfl rfl ty39 rfl rfl rfl rfl ?_; clear hE hS a w; intro a w hE hS
           refine WL.nil ?_
           refine W.seq ?_
           refine W.regionQ (C := fun w => St w s242 (pt b249 (.cells (GuideRide.cells x236).toArray 39 (0, 0)) :: pt b232 (.cells #[.int .i64 q211.1.N, .int .i64 q211.1.E, .int .i64 0] 56 (0, 0)) :: pt b215 (.cells (FareKey.cells q211.1).toArray 56 (0, 0)) :: vecC 3 1 a185 c186 q194.length cs192 :: pt b182 (.cells #[.slice a82 q81.length c83] 37 (0, 0)) :: pt b53 (.cells #[.bool x2.ByKm, .slice a2_0 x2.Bands.length c2_0, .int .i64 x2.Round, .slice a2_1 x2.Rules.length c2_1] 32 (0, 0)) :: pt b52 (.cells #[.slice a1_0 x1.Rides.length c1_0] 28 (0, 0)) :: pt b51 (.cells #[.slice a0_0 x0.Trains.length c0_0, .slice a0_1 x0.Turns.length c0_1] 25 (0, 0)) :: R)) mixed (by kernel_rfl) hS.drew ?_
           refine qP hE (Gives.fld hE rfl fl25_0) rfl ?_; clear hE a; intro a hE
           refine qP hE (Gives.loadB hE 7 rfl rfl rfl ty22) rfl ?_; clear hE a; intro a hE
           refine qP hE (Gives.fld hE rfl fl39_0) rfl ?_; clear hE a; intro a hE
           refine qP hE (Gives.loadB hE 0 rfl rfl rfl ty3) rfl ?_; clear hE a; intro a hE
           obtain ⟨x250, hx251, hq233⟩ := bindS hq233
           obtain ⟨hi252, hlt253, hy254⟩ := gx_some hx251
           obtain ⟨cs255, hl256, hR257, hat258⟩ := h0_0.at hy254
           obtain ⟨a259, c260, a262, c263, rfl, h261, h264⟩ := hR257
           refine qP hE (Gives.idx hE (x236.Train).toNat rfl rfl sl22 hi252 hlt253 (h0_0.aok hlt253)) rfl ?_; clear hE a; intro a hE
           refine qP hE (Gives.fld hE rfl fl42_2) rfl ?_; clear hE a; intro a hE
           refine qP hE (Gives.load1 hE rfl (fun w h => (hat258 w _ h).one rfl) ty40) rfl ?_; clear hE a; intro a hE
           refine qP hE (Gives.fld hE rfl fl39_1) rfl ?_; clear hE a; intro a hE
           refine qP hE (Gives.loadB hE 0 rfl rfl rfl ty3) rfl ?_; clear hE a; intro a hE
           refine qP hE (Gives.fld hE rfl fl39_2) rfl ?_; clear hE a; intro a hE
           refine qP hE (Gives.loadB hE 0 rfl rfl rfl ty3) rfl ?_; clear hE a; intro a hE
           refine qP hE (Gives.p hE rfl) rfl ?_; clear hE a; intro a hE
           obtain ⟨x265, hx266, hq233⟩ := bindS hq233
           obtain ⟨a267, c268, heq269, h270⟩ := h261.cut hx266
           obtain ⟨h271, h272, h273, _⟩ := cutl_some hx266
           refine qP hE (Gives.slLH hE sl40 rfl rfl rfl h271 h272 (Int.le_trans h273 (by have := h261.len; omega)) heq269) rfl ?_; clear hE a; intro a hE
           refine qP hE (Gives.len hE rfl sl40) rfl ?_; clear hE a; intro a hE
           refine qP hE (Gives.p hE rfl) rfl ?_; clear hE a; intro a hE
           refine QL.nil ?_; clear hS w; intro w hS
           obtain ⟨q275, hq274, hq233⟩ := bindS hq233
           refine W.cut (fun a w => ∃ (s283 : Sg), s242.Le s283 ∧ (.next ()) = q275 ∧ Rep a 267 [(6, .int .i64 x6), (8, .pointer (some ⟨b51, 0, none⟩)), (9, .pointer (some ⟨b52, 0, none⟩)), (17, .slice a82 q81.length c83), (18, .slice a185 q194.length c186), (27, .string q221.1), (28, .pointer (some ⟨b232, 0, none⟩)), (164, .slice a1_0 x1.Rides.length c1_0), (165, .int .i64 ((x1.Rides).length : Int)), (166, .int .i64 ((k235 : Nat) : Int))] ∧ St w s283 (pt b249 (.cells (GuideRide.cells x236).toArray 39 (0, 0)) :: pt b232 (.cells #[.int .i64 q211.1.N, .int .i64 q211.1.E, .int .i64 0] 56 (0, 0)) :: pt b215 (.cells (FareKey.cells q211.1).toArray 56 (0, 0)) :: vecC 3 1 a185 c186 q194.length cs192 :: pt b182 (.cells #[.slice a82 q81.length c83] 37 (0, 0)) :: pt b53 (.cells #[.bool x2.ByKm, .slice a2_0 x2.Bands.length c2_0, .int .i64 x2.Round, .slice a2_1 x2.Rules.length c2_1] 32 (0, 0)) :: pt b52 (.cells #[.slice a1_0 x1.Rides.length c1_0] 28 (0, 0)) :: pt b51 (.cells #[.slice a0_0 x0.Trains.length c0_0, .slice a0_1 x0.Turns.length c0_1] 25 (0, 0)) :: R)) ?_ ?_
           ·refine W.block ?_
            refine W.loop (fun m a w => ∃ (rest278 : List ApiStop) (k276 : Nat), ∃ (s283 : Sg), rest278.length = m ∧ x265.drop k276 = rest278 ∧ s242.Le s283 ∧ FishtopTopTicketed.loop4 x6 fu q211 q221 rest278 k276 = some q275 ∧ Rep a 267 [(6, .int .i64 x6), (8, .pointer (some ⟨b51, 0, none⟩)), (9, .pointer (some ⟨b52, 0, none⟩)), (17, .slice a82 q81.length c83), (18, .slice a185 q194.length c186), (27, .string q221.1), (28, .pointer (some ⟨b232, 0, none⟩)), (164, .slice a1_0 x1.Rides.length c1_0), (165, .int .i64 ((x1.Rides).length : Int)), (166, .int .i64 ((k235 : Nat) : Int)), (182, .slice a267 x265.length c268), (183, .int .i64 ((x265).length : Int)), (184, .int .i64 ((k276 : Nat) : Int))] ∧ St w s283 (pt b249 (.cells (GuideRide.cells x236).toArray 39 (0, 0)) :: pt b232 (.cells #[.int .i64 q211.1.N, .int .i64 q211.1.E, .int .i64 0] 56 (0, 0)) :: pt b215 (.cells (FareKey.cells q211.1).toArray 56 (0, 0)) :: vecC 3 1 a185 c186 q194.length cs192 :: pt b182 (.cells #[.slice a82 q81.length c83] 37 (0, 0)) :: pt b53 (.cells #[.bool x2.ByKm, .slice a2_0 x2.Bands.length c2_0, .int .i64 x2.Round, .slice a2_1 x2.Rules.length c2_1] 32 (0, 0)) :: pt b52 (.cells #[.slice a1_0 x1.Rides.length c1_0] 28 (0, 0)) :: pt b51 (.cells #[.slice a0_0 x0.Trains.length c0_0, .slice a0_1 x0.Turns.length c0_1] 25 (0, 0)) :: R)) (m := x265.length) ⟨x265, 0, s242, rfl, rfl, (Sg.Le.refl _), hq274, hE.pick _ ⟨rfl, rfl, rfl, rfl, rfl, rfl, rfl, rfl, rfl, rfl, rfl, rfl, rfl, trivial⟩, hS⟩ ?_
            clear hE hS a w hq274; rintro m282 a w ⟨rest278, k276, s283, rfl, hd279, hle284, hq274, hE, hS⟩
            refine W.gen fun K285 hK285 => ?_
            replace h181 := Sl.mono RI.mono hle284 h181
            replace h1_0 := Sl.mono RGuideRide.mono hle284 h1_0
            replace h0_0 := Sl.mono RApiTrain.mono hle284 h0_0
            replace h261 := Sl.mono RApiStop.mono hle284 h261
            replace h270 := Sl.mono RApiStop.mono hle284 h270
            replace h193 := Ev.mono RI.mono hle284 h193
            replace h2_0 := Sl.mono RFareBand.mono hle284 h2_0
            replace h2_1 := Sl.mono RFareRule.mono hle284 h2_1
            replace h0_1 := Sl.mono (RL.mono RI.mono) hle284 h0_1
            rcases rest278 with _ | ⟨x277, rest278⟩
            ·have hlt280 := drop_nil hd279
             refine W.seq (W.region ?_)
             refine vP hS hE (Gives.p hE rfl) rfl ?_; clear hE a; intro a hE
             refine WL.nil ?_
             refine W.seq ?_
             refine W.condF hE rfl (decide_eq_false (by omega)) ?_
             subst hK285
             refine W.exit rfl ?_
             exact ⟨s283, hle284, Option.some.inj hq274, hE.pick _ ⟨rfl, rfl, rfl, rfl, rfl, rfl, rfl, rfl, rfl, rfl, trivial⟩, hS⟩
            ·obtain ⟨hlt280, hx281, hd279⟩ := drop_cons hd279
             rw [FishtopTopTicketed.loop4] at hq274
             refine W.seq (W.region ?_)
             refine vP hS hE (Gives.p hE rfl) rfl ?_; clear hE a; intro a hE
             refine WL.nil ?_
             refine W.seq ?_
             refine W.condT hE rfl (decide_eq_true (by omega)) ?_
             refine W.skip ?_
             refine W.seq ?_
             refine W.block ?_
             refine W.seq (W.region ?_)
             refine vP hS hE (Gives.p hE rfl) rfl ?_; clear hE a; intro a hE
             obtain ⟨cs286, hl287, hR288, hat289⟩ := h270.at hx281
             subst hR288
             refine vP hS hE (Gives.idx hE k276 rfl rfl sl40 rfl hlt280 (h270.aok hlt280)) rfl ?_; clear hE a; intro a hE
             refine vP hS hE (Gives.loadA hE rfl (fun w h => hat289 w _ h) ty44) rfl ?_; clear hE a; intro a hE
             refine WL.alloc hE hS (runs_plain rfl) zr44 rfl ?_; clear hE hS a w; intro b290 a w hE hS
             refine vP hS hE (Gives.p hE rfl) rfl ?_; clear hE a; intro a hE
             refine WL.storeI hE hS 0 rfl (ApiStop.cells x277) (runs_plain rfl) rfl rfl rfl ty44 rfl rfl rfl rfl ?_; clear hE hS a w; intro a w hE hS
             refine WL.nil ?_
             refine W.seq (W.region ?_)
             refine vP hS hE (Gives.fld hE rfl fl44_2) rfl ?_; clear hE a; intro a hE
             refine vP hS hE (Gives.loadB hE 0 rfl rfl rfl ty3) rfl ?_; clear hE a; intro a hE
             refine vP hS hE (Gives.p hE rfl) rfl ?_; clear hE a; intro a hE
             refine WL.nil ?_
             refine W.seq ?_
             refine W.seq (W.region ?_)
             refine vP hS hE (Gives.p hE rfl) rfl ?_; clear hE a; intro a hE
             refine vP hS hE (Gives.p hE rfl) rfl ?_; clear hE a; intro a hE
             refine WL.nil ?_
             obtain ⟨q292, hq291, hq274⟩ := bndS hq274
             refine W.cut (fun a w => ∃ (q295 : Int), q295 = q292 ∧ Rep a 267 [(6, .int .i64 x6), (8, .pointer (some ⟨b51, 0, none⟩)), (9, .pointer (some ⟨b52, 0, none⟩)), (17, .slice a82 q81.length c83), (18, .slice a185 q194.length c186), (27, .string q221.1), (28, .pointer (some ⟨b232, 0, none⟩)), (32, .pointer (some ⟨b290, 0, none⟩)), (33, .int .i64 q295), (164, .slice a1_0 x1.Rides.length c1_0), (165, .int .i64 ((x1.Rides).length : Int)), (166, .int .i64 ((k235 : Nat) : Int)), (182, .slice a267 x265.length c268), (183, .int .i64 ((x265).length : Int)), (184, .int .i64 ((k276 : Nat) : Int))] ∧ St w s283 (pt b290 (.cells (ApiStop.cells x277).toArray 44 (0, 0)) :: pt b249 (.cells (GuideRide.cells x236).toArray 39 (0, 0)) :: pt b232 (.cells #[.int .i64 q211.1.N, .int .i64 q211.1.E, .int .i64 0] 56 (0, 0)) :: pt b215 (.cells (FareKey.cells q211.1).toArray 56 (0, 0)) :: vecC 3 1 a185 c186 q194.length cs192 :: pt b182 (.cells #[.slice a82 q81.length c83] 37 (0, 0)) :: pt b53 (.cells #[.bool x2.ByKm, .slice a2_0 x2.Bands.length c2_0, .int .i64 x2.Round, .slice a2_1 x2.Rules.length c2_1] 32 (0, 0)) :: pt b52 (.cells #[.slice a1_0 x1.Rides.length c1_0] 28 (0, 0)) :: pt b51 (.cells #[.slice a0_0 x0.Trains.length c0_0, .slice a0_1 x0.Turns.length c0_1] 25 (0, 0)) :: R)) ?_ ?_
             ·refine W.gen fun K296 hK296 => ?_
              refine W.cond hE rfl (fun hc297 => ?_) (fun hc297 => ?_)
              ·replace hq291 := iteT hc297 hq291
               refine W.region ?_
               refine vP hS hE (Gives.fld hE rfl fl44_3) rfl ?_; clear hE a; intro a hE
               refine vP hS hE (Gives.loadB hE 0 rfl rfl rfl ty3) rfl ?_; clear hE a; intro a hE
               refine vP hS hE (Gives.p hE rfl) rfl ?_; clear hE a; intro a hE
               refine WL.nil ?_
               subst hK296
               exact ⟨x277.Dep, hq291, hE.pick _ ⟨rfl, rfl, rfl, rfl, rfl, rfl, rfl, rfl, rfl, rfl, rfl, rfl, rfl, rfl, rfl, trivial⟩, hS⟩
              ·replace hq291 := iteF hc297 hq291
               refine W.skip ?_
               subst hK296
               exact ⟨x277.Arr, hq291, hE.pick _ ⟨rfl, rfl, rfl, rfl, rfl, rfl, rfl, rfl, rfl, rfl, rfl, rfl, rfl, rfl, rfl, trivial⟩, hS⟩
             ·clear hE hS a w; rintro a w ⟨q295, rfl, hE, hS⟩
              refine W.seq ?_
              obtain ⟨q299, hq298, hq274⟩ := bindS hq274
              refine W.cut (fun a w => ∃ (q302 : Bool), ∃ (s300 : Sg), s283.Le s300 ∧ q302 = q299 ∧ Rep a 267 [(6, .int .i64 x6), (8, .pointer (some ⟨b51, 0, none⟩)), (9, .pointer (some ⟨b52, 0, none⟩)), (17, .slice a82 q81.length c83), (18, .slice a185 q194.length c186), (27, .string q221.1), (28, .pointer (some ⟨b232, 0, none⟩)), (164, .slice a1_0 x1.Rides.length c1_0), (165, .int .i64 ((x1.Rides).length : Int)), (166, .int .i64 ((k235 : Nat) : Int)), (182, .slice a267 x265.length c268), (183, .int .i64 ((x265).length : Int)), (184, .int .i64 ((k276 : Nat) : Int)), (224, .bool q302)] ∧ St w s300 (pt b290 (.cells (ApiStop.cells x277).toArray 44 (0, 0)) :: pt b249 (.cells (GuideRide.cells x236).toArray 39 (0, 0)) :: pt b232 (.cells #[.int .i64 q211.1.N, .int .i64 q211.1.E, .int .i64 0] 56 (0, 0)) :: pt b215 (.cells (FareKey.cells q211.1).toArray 56 (0, 0)) :: vecC 3 1 a185 c186 q194.length cs192 :: pt b182 (.cells #[.slice a82 q81.length c83] 37 (0, 0)) :: pt b53 (.cells #[.bool x2.ByKm, .slice a2_0 x2.Bands.length c2_0, .int .i64 x2.Round, .slice a2_1 x2.Rules.length c2_1] 32 (0, 0)) :: pt b52 (.cells #[.slice a1_0 x1.Rides.length c1_0] 28 (0, 0)) :: pt b51 (.cells #[.slice a0_0 x0.Trains.length c0_0, .slice a0_1 x0.Turns.length c0_1] 25 (0, 0)) :: R)) ?_ ?_
              ·refine W.gen fun K303 hK303 => ?_
               refine W.region ?_
               refine vP hS hE (Gives.loadBA hE 2 rfl rfl ty56) rfl ?_; clear hE a; intro a hE
               refine vP hS hE (Gives.p hE rfl) rfl ?_; clear hE a; intro a hE
               refine vP hS hE (Gives.p hE rfl) rfl ?_; clear hE a; intro a hE
               refine vP hS hE (Gives.fld hE rfl fl44_0) rfl ?_; clear hE a; intro a hE
               refine vP hS hE (Gives.loadB hE 0 rfl rfl rfl ty3) rfl ?_; clear hE a; intro a hE
               refine vP hS hE (Gives.p hE rfl) rfl ?_; clear hE a; intro a hE
               refine vP hS hE (Gives.p hE rfl) rfl ?_; clear hE a; intro a hE
               refine WL.lit hE hS (e := 3) (es := 1) (vs := [(0, .int .i64 (w64 (x6 + 1)))]) (cs := [.int .i64 (w64 (x6 + 1))]) (runs_plain rfl) rfl (by kernel_rfl) rfl ?_; clear hE hS a w; intro b304 a w hE hS
               replace hS := hS.ptVec (es := 1) (m := 1) rfl (by decide)
               have h306 : Ev 1 (RI .i64) s283 [.int .i64 (w64 (x6 + 1))] [w64 (x6 + 1)] := (Ev.cons (c1 := [.int .i64 (w64 (x6 + 1))]) rfl rfl (Ev.nil))
               have hF := hS.fixD RI.mono 0 rfl h306 (rfl); clear hS; obtain ⟨s307, hle308, hS, h309⟩ := hF
               replace h181 := Sl.mono RI.mono hle308 h181
               replace h1_0 := Sl.mono RGuideRide.mono hle308 h1_0
               replace h270 := Sl.mono RApiStop.mono hle308 h270
               replace h193 := Ev.mono RI.mono hle308 h193
               replace h2_0 := Sl.mono RFareBand.mono hle308 h2_0
               replace h2_1 := Sl.mono RFareRule.mono hle308 h2_1
               replace h0_0 := Sl.mono RApiTrain.mono hle308 h0_0
               replace h0_1 := Sl.mono (RL.mono RI.mono) hle308 h0_1
               obtain ⟨q310, hq311, hq298⟩ := bindS hq298
               have hc_ := FareAccept_ok hS (TabG.mono (Sg.Le.trans (Sg.Le.trans (Sg.Le.trans hle180 hle243) hle284) hle308) hTab) h309 hq311
               refine WL.fnq hE (hc_) (runs_plain rfl) bd15 rfl rfl rfl ?_
               clear hE hS hc_; rintro e w ⟨rfl, hS⟩; refine ⟨_, rfl, ?_⟩; clear a; intro a hE
               refine vP hS hE (Gives.p hE rfl) rfl ?_; clear hE a; intro a hE
               refine vP hS hE (Gives.p hE rfl) rfl ?_; clear hE a; intro a hE
               rcases Bool.eq_false_or_eq_true (q310 != 0) with hg312 | hg312
               ·replace hq298 := iteT hg312 hq298
                refine WL.no hE (runs_not hE rfl rfl rfl (by rw [hg312]; decide)) rfl ?_; clear hE a; intro a hE
                refine WL.no hE (runs_not hE rfl rfl rfl (by rw [hg312]; decide)) rfl ?_; clear hE a; intro a hE
                refine WL.no hE (runs_not hE rfl rfl rfl (by rw [hg312]; decide)) rfl ?_; clear hE a; intro a hE
                refine WL.no hE (runs_not hE rfl rfl rfl (by rw [hg312]; decide)) rfl ?_; clear hE a; intro a hE
                refine WL.no hE (runs_not hE rfl rfl rfl (by rw [hg312]; decide)) rfl ?_; clear hE a; intro a hE
                refine WL.no hE (runs_not hE rfl rfl rfl (by rw [hg312]; decide)) rfl ?_; clear hE a; intro a hE
                refine WL.no hE (runs_not hE rfl rfl rfl (by rw [hg312]; decide)) rfl ?_; clear hE a; intro a hE
                refine vP hS hE (Gives.pickT hE rfl hg312 rfl) rfl ?_; clear hE a; intro a hE
                refine vP hS hE (Gives.p hE rfl) rfl ?_; clear hE a; intro a hE
                refine WL.no hE (runs_not hE rfl rfl rfl (by decide)) rfl ?_; clear hE a; intro a hE
                refine WL.no hE (runs_not hE rfl rfl rfl (by decide)) rfl ?_; clear hE a; intro a hE
                refine WL.no hE (runs_not hE rfl rfl rfl (by decide)) rfl ?_; clear hE a; intro a hE
                refine WL.no hE (runs_not hE rfl rfl rfl (by decide)) rfl ?_; clear hE a; intro a hE
                refine WL.no hE (runs_not hE rfl rfl rfl (by decide)) rfl ?_; clear hE a; intro a hE
                refine WL.no hE (runs_not hE rfl rfl rfl (by decide)) rfl ?_; clear hE a; intro a hE
                refine WL.no hE (runs_not hE rfl rfl rfl (by decide)) rfl ?_; clear hE a; intro a hE
                refine WL.no hE (runs_not hE rfl rfl rfl (by decide)) rfl ?_; clear hE a; intro a hE
                refine WL.no hE (runs_not hE rfl rfl rfl (by decide)) rfl ?_; clear hE a; intro a hE
                refine vP hS hE (Gives.pickT hE rfl rfl rfl) rfl ?_; clear hE a; intro a hE
                refine WL.nil ?_
                subst hK303
                exact ⟨true, s307, hle308, Option.some.inj hq298, hE.pick _ ⟨rfl, rfl, rfl, rfl, rfl, rfl, rfl, rfl, rfl, rfl, rfl, rfl, rfl, rfl, trivial⟩, hS⟩
               ·replace hq298 := iteF hg312 hq298
                refine WL.vS hS hE (runs_if hE rfl rfl rfl hg312) (Gives.loadBA hE 2 rfl rfl ty56) rfl ?_; clear hE a; intro a hE
                refine WL.vS hS hE (runs_if hE rfl rfl rfl hg312) (Gives.p hE rfl) rfl ?_; clear hE a; intro a hE
                refine WL.vS hS hE (runs_if hE rfl rfl rfl hg312) (Gives.p hE rfl) rfl ?_; clear hE a; intro a hE
                refine WL.vS hS hE (runs_if hE rfl rfl rfl hg312) (Gives.fld hE rfl fl44_0) rfl ?_; clear hE a; intro a hE
                refine WL.vS hS hE (runs_if hE rfl rfl rfl hg312) (Gives.loadB hE 0 rfl rfl rfl ty3) rfl ?_; clear hE a; intro a hE
                obtain ⟨q313, hq314, hq298⟩ := bindS hq298
                have hc_ := FareAccept_ok hS (TabG.mono (Sg.Le.trans (Sg.Le.trans (Sg.Le.trans hle180 hle243) hle284) hle308) hTab) Sl.nil hq314
                refine WL.fnq hE (hc_) (runs_if hE rfl rfl rfl hg312) bd15 rfl rfl rfl ?_
                clear hE hS hc_; rintro e w ⟨rfl, hS⟩; refine ⟨_, rfl, ?_⟩; clear a; intro a hE
                refine WL.vS hS hE (runs_if hE rfl rfl rfl hg312) (Gives.p hE rfl) rfl ?_; clear hE a; intro a hE
                refine vP hS hE (Gives.pickF hE rfl hg312 rfl) rfl ?_; clear hE a; intro a hE
                refine vP hS hE (Gives.p hE rfl) rfl ?_; clear hE a; intro a hE
                rcases Bool.eq_false_or_eq_true (q313 != 13) with hg315 | hg315
                ·replace hq298 := iteT hg315 hq298
                 refine WL.no hE (runs_not hE rfl rfl rfl (by rw [hg315]; decide)) rfl ?_; clear hE a; intro a hE
                 refine WL.no hE (runs_not hE rfl rfl rfl (by rw [hg315]; decide)) rfl ?_; clear hE a; intro a hE
                 refine WL.no hE (runs_not hE rfl rfl rfl (by rw [hg315]; decide)) rfl ?_; clear hE a; intro a hE
                 refine WL.no hE (runs_not hE rfl rfl rfl (by rw [hg315]; decide)) rfl ?_; clear hE a; intro a hE
                 refine WL.no hE (runs_not hE rfl rfl rfl (by rw [hg315]; decide)) rfl ?_; clear hE a; intro a hE
                 refine WL.no hE (runs_not hE rfl rfl rfl (by rw [hg315]; decide)) rfl ?_; clear hE a; intro a hE
                 refine WL.no hE (runs_not hE rfl rfl rfl (by rw [hg315]; decide)) rfl ?_; clear hE a; intro a hE
                 refine WL.no hE (runs_not hE rfl rfl rfl (by rw [hg315]; decide)) rfl ?_; clear hE a; intro a hE
                 refine WL.no hE (runs_not hE rfl rfl rfl (by rw [hg315]; decide)) rfl ?_; clear hE a; intro a hE
                 refine vP hS hE (Gives.pickT hE rfl hg315 rfl) rfl ?_; clear hE a; intro a hE
                 refine WL.nil ?_
                 subst hK303
                 exact ⟨true, s307, hle308, Option.some.inj hq298, hE.pick _ ⟨rfl, rfl, rfl, rfl, rfl, rfl, rfl, rfl, rfl, rfl, rfl, rfl, rfl, rfl, trivial⟩, hS⟩
                ·replace hq298 := iteF hg315 hq298
                 refine WL.vS hS hE (runs_if hE rfl rfl rfl hg315) (Gives.loadBA hE 2 rfl rfl ty56) rfl ?_; clear hE a; intro a hE
                 refine WL.vS hS hE (runs_if hE rfl rfl rfl hg315) (Gives.p hE rfl) rfl ?_; clear hE a; intro a hE
                 refine WL.vS hS hE (runs_if hE rfl rfl rfl hg315) (Gives.p hE rfl) rfl ?_; clear hE a; intro a hE
                 refine WL.vS hS hE (runs_if hE rfl rfl rfl hg315) (Gives.fld hE rfl fl44_0) rfl ?_; clear hE a; intro a hE
                 refine WL.vS hS hE (runs_if hE rfl rfl rfl hg315) (Gives.loadB hE 0 rfl rfl rfl ty3) rfl ?_; clear hE a; intro a hE
                 refine WL.vS hS hE (runs_if hE rfl rfl rfl hg315) (Gives.p hE rfl) rfl ?_; clear hE a; intro a hE
                 refine WL.lit hE hS (e := 3) (es := 1) (vs := [(0, .int .i64 x6)]) (cs := [.int .i64 x6]) (runs_if hE rfl rfl rfl hg315) rfl (by kernel_rfl) rfl ?_; clear hE hS a w; intro b316 a w hE hS
                 replace hS := hS.ptVec (es := 1) (m := 1) rfl (by decide)
                 have h318 : Ev 1 (RI .i64) s307 [.int .i64 x6] [x6] := (Ev.cons (c1 := [.int .i64 x6]) rfl rfl (Ev.nil))
                 have hF := hS.fixD RI.mono 0 rfl h318 (rfl); clear hS; obtain ⟨s319, hle320, hS, h321⟩ := hF
                 replace h181 := Sl.mono RI.mono hle320 h181
                 replace h1_0 := Sl.mono RGuideRide.mono hle320 h1_0
                 replace h270 := Sl.mono RApiStop.mono hle320 h270
                 replace h309 := Sl.mono RI.mono hle320 h309
                 replace h193 := Ev.mono RI.mono hle320 h193
                 replace h2_0 := Sl.mono RFareBand.mono hle320 h2_0
                 replace h2_1 := Sl.mono RFareRule.mono hle320 h2_1
                 replace h0_0 := Sl.mono RApiTrain.mono hle320 h0_0
                 replace h0_1 := Sl.mono (RL.mono RI.mono) hle320 h0_1
                 obtain ⟨q322, hq323, hq298⟩ := bindS hq298
                 have hc_ := FareAccept_ok hS (TabG.mono (Sg.Le.trans (Sg.Le.trans (Sg.Le.trans (Sg.Le.trans hle180 hle243) hle284) hle308) hle320) hTab) h321 hq323
                 refine WL.fnq hE (hc_) (runs_if hE rfl rfl rfl hg315) bd15 rfl rfl rfl ?_
                 clear hE hS hc_; rintro e w ⟨rfl, hS⟩; refine ⟨_, rfl, ?_⟩; clear a; intro a hE
                 refine WL.vS hS hE (runs_if hE rfl rfl rfl hg315) (Gives.p hE rfl) rfl ?_; clear hE a; intro a hE
                 refine vP hS hE (Gives.pickF hE rfl hg315 rfl) rfl ?_; clear hE a; intro a hE
                 refine WL.nil ?_
                 subst hK303
                 exact ⟨(q322 != 7), s319, (Sg.Le.trans hle308 hle320), Option.some.inj hq298, hE.pick _ ⟨rfl, rfl, rfl, rfl, rfl, rfl, rfl, rfl, rfl, rfl, rfl, rfl, rfl, rfl, trivial⟩, hS⟩
              ·clear hE hS a w; rintro a w ⟨q302, s300, hle301, rfl, hE, hS⟩
               replace h181 := Sl.mono RI.mono hle301 h181
               replace h1_0 := Sl.mono RGuideRide.mono hle301 h1_0
               replace h270 := Sl.mono RApiStop.mono hle301 h270
               replace h193 := Ev.mono RI.mono hle301 h193
               replace h2_0 := Sl.mono RFareBand.mono hle301 h2_0
               replace h2_1 := Sl.mono RFareRule.mono hle301 h2_1
               replace h0_0 := Sl.mono RApiTrain.mono hle301 h0_0
               replace h0_1 := Sl.mono (RL.mono RI.mono) hle301 h0_1
               refine W.cond hE rfl (fun hc324 => ?_) (fun hc324 => ?_)
               ·replace hq274 := iteT hc324 hq274
                refine W.seq (W.region ?_)
                refine vP hS hE (Gives.p hE rfl) rfl ?_; clear hE a; intro a hE
                refine WL.nil ?_
                refine W.ret ?_
                subst hK285
                subst hK244
                rw [← Option.some.inj hq274] at hq233
                dsimp only at hq233
                rw [← Option.some.inj hq233] at hr
                dsimp only at hr
                refine finG (fn := Tryz.f3) (rs := [.tmp 16]) (vs := [_]) hE rfl ⟨rfl, trivial⟩ ?_
                obtain rfl := Option.some.inj hr
                replace hS := hS.tail
                replace hS := hS.tail
                replace hS := hS.tail
                replace hS := hS.tail
                replace hS := hS.tail
                replace hS := hS.tail
                replace hS := hS.tail
                replace hS := hS.tail
                replace hS := hS.tail
                exact ⟨rfl, (hS.down (Sg.Le.trans (Sg.Le.trans (Sg.Le.trans hle180 hle243) hle284) hle301))⟩
               ·replace hq274 := iteF hc324 hq274
                refine W.skip ?_
                refine W.region ?_
                refine vP hS hE (Gives.inc hE rfl (by have := h270.small; omega)) rfl ?_; clear hE a; intro a hE
                refine vP hS hE (Gives.p hE rfl) rfl ?_; clear hE a; intro a hE
                refine WL.nil ?_
                replace hS := hS.tail
                subst hK285
                exact ⟨rest278.length, Nat.lt_succ_self _, rest278, k276 + 1, s300, rfl, hd279, (Sg.Le.trans hle284 hle301), hq274, hE.pick _ ⟨rfl, rfl, rfl, rfl, rfl, rfl, rfl, rfl, rfl, rfl, rfl, rfl, rfl, trivial⟩, hS⟩
           ·clear hE hS a w; rintro a w ⟨s283, hle284, rfl, hE, hS⟩
            dsimp only at hq233
            replace h181 := Sl.mono RI.mono hle284 h181
            replace h1_0 := Sl.mono RGuideRide.mono hle284 h1_0
            replace h0_0 := Sl.mono RApiTrain.mono hle284 h0_0
            replace h261 := Sl.mono RApiStop.mono hle284 h261
            replace h270 := Sl.mono RApiStop.mono hle284 h270
            replace h193 := Ev.mono RI.mono hle284 h193
            replace h2_0 := Sl.mono RFareBand.mono hle284 h2_0
            replace h2_1 := Sl.mono RFareRule.mono hle284 h2_1
            replace h0_1 := Sl.mono (RL.mono RI.mono) hle284 h0_1
            refine W.region ?_
            refine vP hS hE (Gives.inc hE rfl (by have := h1_0.small; omega)) rfl ?_; clear hE a; intro a hE
            refine vP hS hE (Gives.p hE rfl) rfl ?_; clear hE a; intro a hE
            refine WL.nil ?_
            replace hS := hS.tail
            subst hK244
            exact ⟨rest237.length, Nat.lt_succ_self _, rest237, k235 + 1, s283, rfl, hd238, (Sg.Le.trans hle243 hle284), hq233, hE.pick _ ⟨rfl, rfl, rfl, rfl, rfl, rfl, rfl, rfl, rfl, rfl, trivial⟩, hS⟩
         ·clear hE hS a w; rintro a w ⟨s242, hle243, rfl, hE, hS⟩
          dsimp only at hr
          replace h181 := Sl.mono RI.mono hle243 h181
          replace h2_0 := Sl.mono RFareBand.mono hle243 h2_0
          replace h2_1 := Sl.mono RFareRule.mono hle243 h2_1
          replace h0_0 := Sl.mono RApiTrain.mono hle243 h0_0
          replace h0_1 := Sl.mono (RL.mono RI.mono) hle243 h0_1
          replace h1_0 := Sl.mono RGuideRide.mono hle243 h1_0
          replace h193 := Ev.mono RI.mono hle243 h193
          refine W.seq (W.region ?_)
          refine vP hS hE (Gives.p hE rfl) rfl ?_; clear hE a; intro a hE
          obtain ⟨x325, hx326, hr⟩ := bindS hr
          obtain ⟨hi327, hlt328, hy329⟩ := gx_some hx326
          obtain ⟨cs330, hl331, hR332, hat333⟩ := h181.at hy329
          subst hR332
          refine vP hS hE (Gives.idx hE ((0 : Int)).toNat rfl rfl sl37 hi327 hlt328 (h181.aok hlt328)) rfl ?_; clear hE a; intro a hE
          refine vP hS hE (Gives.load1 hE rfl (fun w h => hat333 w _ h) ty3) rfl ?_; clear hE a; intro a hE
          refine vP hS hE (Gives.p hE rfl) rfl ?_; clear hE a; intro a hE
          refine WL.nil ?_
          refine W.seq ?_
          refine W.seq ?_
          obtain ⟨q335, hq334, hr⟩ := bindS hr
          refine W.cut (fun a w => ∃ (q338 : Bool), q338 = q335 ∧ Rep a 267 [(8, .pointer (some ⟨b51, 0, none⟩)), (9, .pointer (some ⟨b52, 0, none⟩)), (18, .slice a185 q194.length c186), (27, .string q221.1), (28, .pointer (some ⟨b232, 0, none⟩)), (249, .bool q338)] ∧ St w s242 (pt b232 (.cells #[.int .i64 q211.1.N, .int .i64 q211.1.E, .int .i64 0] 56 (0, 0)) :: pt b215 (.cells (FareKey.cells q211.1).toArray 56 (0, 0)) :: vecC 3 1 a185 c186 q194.length cs192 :: pt b182 (.cells #[.slice a82 q81.length c83] 37 (0, 0)) :: pt b53 (.cells #[.bool x2.ByKm, .slice a2_0 x2.Bands.length c2_0, .int .i64 x2.Round, .slice a2_1 x2.Rules.length c2_1] 32 (0, 0)) :: pt b52 (.cells #[.slice a1_0 x1.Rides.length c1_0] 28 (0, 0)) :: pt b51 (.cells #[.slice a0_0 x0.Trains.length c0_0, .slice a0_1 x0.Turns.length c0_1] 25 (0, 0)) :: R)) ?_ ?_
          ·refine W.gen fun K339 hK339 => ?_
           refine W.regionQ (C := fun w => St w s242 (pt b232 (.cells #[.int .i64 q211.1.N, .int .i64 q211.1.E, .int .i64 0] 56 (0, 0)) :: pt b215 (.cells (FareKey.cells q211.1).toArray 56 (0, 0)) :: vecC 3 1 a185 c186 q194.length cs192 :: pt b182 (.cells #[.slice a82 q81.length c83] 37 (0, 0)) :: pt b53 (.cells #[.bool x2.ByKm, .slice a2_0 x2.Bands.length c2_0, .int .i64 x2.Round, .slice a2_1 x2.Rules.length c2_1] 32 (0, 0)) :: pt b52 (.cells #[.slice a1_0 x1.Rides.length c1_0] 28 (0, 0)) :: pt b51 (.cells #[.slice a0_0 x0.Trains.length c0_0, .slice a0_1 x0.Turns.length c0_1] 25 (0, 0)) :: R)) mixed (by kernel_rfl) hS.drew ?_
           refine qP hE (Gives.loadBA hE 0 rfl rfl ty56) rfl ?_; clear hE a; intro a hE
           refine qP hE (Gives.p hE rfl) rfl ?_; clear hE a; intro a hE
           refine qP hE (Gives.loadBA hE 6 rfl rfl ty25) rfl ?_; clear hE a; intro a hE
           refine qP hE (Gives.loadBA hE 5 rfl rfl ty28) rfl ?_; clear hE a; intro a hE
           obtain ⟨q340, hq341, hq334⟩ := bindS hq334
           refine QL.fnq hE (fun w hS => Fishref2Leaves_ok hS h0_0 h0_1 h1_0 hq341) (runs_plain rfl) bd11 rfl rfl rfl ?_; clear hE a; intro a hE
           refine qP hE (Gives.p hE rfl) rfl ?_; clear hE a; intro a hE
           refine qP hE (Gives.p hE rfl) rfl ?_; clear hE a; intro a hE
           obtain ⟨q342, hq343, hq334⟩ := bindS hq334
           refine QL.fnq hE (fun w hS => FareAccept_ok hS (TabG.mono (Sg.Le.trans hle180 hle243) hTab) Sl.nil hq343) (runs_plain rfl) bd15 rfl rfl rfl ?_; clear hE a; intro a hE
           refine qP hE (Gives.p hE rfl) rfl ?_; clear hE a; intro a hE
           refine qP hE (Gives.p hE rfl) rfl ?_; clear hE a; intro a hE
           rcases Bool.eq_false_or_eq_true (q342 != 13) with hg344 | hg344
           ·replace hq334 := iteT hg344 hq334
            refine QL.no hE (runs_not hE rfl rfl rfl (by rw [hg344]; decide)) rfl ?_; clear hE a; intro a hE
            refine QL.no hE (runs_not hE rfl rfl rfl (by rw [hg344]; decide)) rfl ?_; clear hE a; intro a hE
            refine QL.no hE (runs_not hE rfl rfl rfl (by rw [hg344]; decide)) rfl ?_; clear hE a; intro a hE
            refine QL.no hE (runs_not hE rfl rfl rfl (by rw [hg344]; decide)) rfl ?_; clear hE a; intro a hE
            refine QL.no hE (runs_not hE rfl rfl rfl (by rw [hg344]; decide)) rfl ?_; clear hE a; intro a hE
            refine QL.no hE (runs_not hE rfl rfl rfl (by rw [hg344]; decide)) rfl ?_; clear hE a; intro a hE
            refine QL.no hE (runs_not hE rfl rfl rfl (by rw [hg344]; decide)) rfl ?_; clear hE a; intro a hE
            refine QL.no hE (runs_not hE rfl rfl rfl (by rw [hg344]; decide)) rfl ?_; clear hE a; intro a hE
            refine QL.no hE (runs_not hE rfl rfl rfl (by rw [hg344]; decide)) rfl ?_; clear hE a; intro a hE
            refine qP hE (Gives.pickT hE rfl hg344 rfl) rfl ?_; clear hE a; intro a hE
            refine QL.nil ?_; clear hS w; intro w hS
            subst hK339
            exact ⟨true, Option.some.inj hq334, hE.pick _ ⟨rfl, rfl, rfl, rfl, rfl, rfl, trivial⟩, hS⟩
           ·replace hq334 := iteF hg344 hq334
            refine QL.v hE (runs_if hE rfl rfl rfl hg344) (Gives.loadBA hE 0 rfl rfl ty56) rfl ?_; clear hE a; intro a hE
            refine QL.v hE (runs_if hE rfl rfl rfl hg344) (Gives.p hE rfl) rfl ?_; clear hE a; intro a hE
            refine QL.v hE (runs_if hE rfl rfl rfl hg344) (Gives.loadBA hE 6 rfl rfl ty25) rfl ?_; clear hE a; intro a hE
            refine QL.v hE (runs_if hE rfl rfl rfl hg344) (Gives.loadBA hE 5 rfl rfl ty28) rfl ?_; clear hE a; intro a hE
            obtain ⟨q345, hq346, hq334⟩ := bindS hq334
            refine QL.fnq hE (fun w hS => Fishref2Arrives_ok hS h0_0 h0_1 h1_0 hq346) (runs_if hE rfl rfl rfl hg344) bd14 rfl rfl rfl ?_; clear hE a; intro a hE
            refine QL.v hE (runs_if hE rfl rfl rfl hg344) (Gives.p hE rfl) rfl ?_; clear hE a; intro a hE
            refine QL.v hE (runs_if hE rfl rfl rfl hg344) (Gives.p hE rfl) rfl ?_; clear hE a; intro a hE
            obtain ⟨q347, hq348, hq334⟩ := bindS hq334
            refine QL.fnq hE (fun w hS => FareAccept_ok hS (TabG.mono (Sg.Le.trans hle180 hle243) hTab) Sl.nil hq348) (runs_if hE rfl rfl rfl hg344) bd15 rfl rfl rfl ?_; clear hE a; intro a hE
            refine QL.v hE (runs_if hE rfl rfl rfl hg344) (Gives.p hE rfl) rfl ?_; clear hE a; intro a hE
            refine qP hE (Gives.pickF hE rfl hg344 rfl) rfl ?_; clear hE a; intro a hE
            refine QL.nil ?_; clear hS w; intro w hS
            subst hK339
            exact ⟨(q347 != 13), Option.some.inj hq334, hE.pick _ ⟨rfl, rfl, rfl, rfl, rfl, rfl, trivial⟩, hS⟩
          ·clear hE hS a w; rintro a w ⟨q338, rfl, hE, hS⟩
           refine W.cond hE rfl (fun hc349 => ?_) (fun hc349 => ?_)
           ·replace hr := iteT hc349 hr
            refine W.seq (W.region ?_)
            refine vP hS hE (Gives.p hE rfl) rfl ?_; clear hE a; intro a hE
            refine WL.nil ?_
            refine W.ret ?_
            refine finG (fn := Tryz.f3) (rs := [.tmp 16]) (vs := [_]) hE rfl ⟨rfl, trivial⟩ ?_
            obtain rfl := Option.some.inj hr
            replace hS := hS.tail
            replace hS := hS.tail
            replace hS := hS.tail
            replace hS := hS.tail
            replace hS := hS.tail
            replace hS := hS.tail
            replace hS := hS.tail
            exact ⟨rfl, (hS.down (Sg.Le.trans hle180 hle243))⟩
           ·replace hr := iteF hc349 hr
            refine W.skip ?_
            refine W.seq ?_
            refine W.seq (W.region ?_)
            refine vP hS hE (Gives.p hE rfl) rfl ?_; clear hE a; intro a hE
            refine WL.nil ?_
            obtain ⟨q351, hq350, hr⟩ := bindS hr
            refine W.cut (fun a w => (.next ()) = q351 ∧ Rep a 267 [] ∧ St w s242 (pt b232 (.cells #[.int .i64 q211.1.N, .int .i64 q211.1.E, .int .i64 0] 56 (0, 0)) :: pt b215 (.cells (FareKey.cells q211.1).toArray 56 (0, 0)) :: vecC 3 1 a185 c186 q194.length cs192 :: pt b182 (.cells #[.slice a82 q81.length c83] 37 (0, 0)) :: pt b53 (.cells #[.bool x2.ByKm, .slice a2_0 x2.Bands.length c2_0, .int .i64 x2.Round, .slice a2_1 x2.Rules.length c2_1] 32 (0, 0)) :: pt b52 (.cells #[.slice a1_0 x1.Rides.length c1_0] 28 (0, 0)) :: pt b51 (.cells #[.slice a0_0 x0.Trains.length c0_0, .slice a0_1 x0.Turns.length c0_1] 25 (0, 0)) :: R)) ?_ ?_
            ·refine W.block ?_
             refine W.loop (fun m a w => ∃ (rest354 : Nat) (k352 : Nat), rest354 = m ∧ k352 + rest354 = 20 ∧ FishtopTopTicketed.loop5 x0 x1 fu q194 q211 q221 rest354 k352 = some q351 ∧ Rep a 267 [(8, .pointer (some ⟨b51, 0, none⟩)), (9, .pointer (some ⟨b52, 0, none⟩)), (18, .slice a185 q194.length c186), (27, .string q221.1), (28, .pointer (some ⟨b232, 0, none⟩)), (250, .int .i64 ((k352 : Nat) : Int))] ∧ St w s242 (pt b232 (.cells #[.int .i64 q211.1.N, .int .i64 q211.1.E, .int .i64 0] 56 (0, 0)) :: pt b215 (.cells (FareKey.cells q211.1).toArray 56 (0, 0)) :: vecC 3 1 a185 c186 q194.length cs192 :: pt b182 (.cells #[.slice a82 q81.length c83] 37 (0, 0)) :: pt b53 (.cells #[.bool x2.ByKm, .slice a2_0 x2.Bands.length c2_0, .int .i64 x2.Round, .slice a2_1 x2.Rules.length c2_1] 32 (0, 0)) :: pt b52 (.cells #[.slice a1_0 x1.Rides.length c1_0] 28 (0, 0)) :: pt b51 (.cells #[.slice a0_0 x0.Trains.length c0_0, .slice a0_1 x0.Turns.length c0_1] 25 (0, 0)) :: R)) (m := 20) ⟨20, 0, rfl, by omega, hq350, hE.pick _ ⟨rfl, rfl, rfl, rfl, rfl, rfl, trivial⟩, hS⟩ ?_
             clear hE hS a w hq350; rintro m358 a w ⟨rest354, k352, rfl, hd355, hq350, hE, hS⟩
             refine W.gen fun K361 hK361 => ?_
             rcases rest354 with _ | rest354
             ·skip
              refine W.seq (W.region ?_)
              refine vP hS hE (Gives.p hE rfl) rfl ?_; clear hE a; intro a hE
              refine WL.nil ?_
              refine W.seq ?_
              refine W.condF hE rfl (decide_eq_false (by omega)) ?_
              subst hK361
              refine W.exit rfl ?_
              exact ⟨Option.some.inj hq350, hE.pick _ trivial, hS⟩
             ·have hlt356 : k352 < 20 := by omega
              rw [FishtopTopTicketed.loop5] at hq350
              refine W.seq (W.region ?_)
              refine vP hS hE (Gives.p hE rfl) rfl ?_; clear hE a; intro a hE
              refine WL.nil ?_
              refine W.seq ?_
              refine W.condT hE rfl (decide_eq_true (by omega)) ?_
              refine W.skip ?_
              refine W.seq ?_
              refine W.block ?_
              refine W.seq (W.region ?_)
              refine vP hS hE (Gives.p hE rfl) rfl ?_; clear hE a; intro a hE
              refine vP hS hE (Gives.p hE rfl) rfl ?_; clear hE a; intro a hE
              refine WL.nil ?_
              refine W.seq (W.region ?_)
              refine vP hS hE (Gives.p hE rfl) rfl ?_; clear hE a; intro a hE
              refine vP hS hE (Gives.p hE rfl) rfl ?_; clear hE a; intro a hE
              have hF := hS.lendV RI.mono 2 rfl h193 (rfl); clear hS; obtain ⟨t362, hle363, hS, hs364, bk365⟩ := hF
              refine WL.fnq hE (SlicesContainsLint_ok hS hs364 rfl (r := SlicesContainsLint q194 ((k352 : Nat) : Int))) (runs_plain rfl) bd16 rfl rfl rfl ?_
              clear hE hS; rintro e w ⟨rfl, hS⟩; refine ⟨_, rfl, ?_⟩; clear a; intro a hE
              replace hS := bk365 _ _ hS
              refine vP hS hE (Gives.p hE rfl) rfl ?_; clear hE a; intro a hE
              refine WL.nil ?_
              refine W.seq ?_
              refine W.regionQ (C := fun w => St w s242 (vecC 3 1 a185 c186 q194.length cs192 :: pt b232 (.cells #[.int .i64 q211.1.N, .int .i64 q211.1.E, .int .i64 0] 56 (0, 0)) :: pt b215 (.cells (FareKey.cells q211.1).toArray 56 (0, 0)) :: pt b182 (.cells #[.slice a82 q81.length c83] 37 (0, 0)) :: pt b53 (.cells #[.bool x2.ByKm, .slice a2_0 x2.Bands.length c2_0, .int .i64 x2.Round, .slice a2_1 x2.Rules.length c2_1] 32 (0, 0)) :: pt b52 (.cells #[.slice a1_0 x1.Rides.length c1_0] 28 (0, 0)) :: pt b51 (.cells #[.slice a0_0 x0.Trains.length c0_0, .slice a0_1 x0.Turns.length c0_1] 25 (0, 0)) :: R)) mixed (by kernel_rfl) hS.drew ?_
              refine qP hE (Gives.p hE rfl) rfl ?_; clear hE a; intro a hE
              refine qP hE (Gives.loadBA hE 1 rfl rfl ty56) rfl ?_; clear hE a; intro a hE
              refine qP hE (Gives.p hE rfl) rfl ?_; clear hE a; intro a hE
              refine qP hE (Gives.loadBA hE 6 rfl rfl ty25) rfl ?_; clear hE a; intro a hE
              refine qP hE (Gives.loadBA hE 5 rfl rfl ty28) rfl ?_; clear hE a; intro a hE
              obtain ⟨q366, hq367, hq350⟩ := bindS hq350
              refine QL.fnq hE (fun w hS => Fishref2Leaves_ok hS h0_0 h0_1 h1_0 hq367) (runs_plain rfl) bd11 rfl rfl rfl ?_; clear hE a; intro a hE
              refine qP hE (Gives.p hE rfl) rfl ?_; clear hE a; intro a hE
              obtain ⟨q368, hq369, hq350⟩ := bindS hq350
              refine QL.fnq hE (fun w hS => FareAccept_ok hS (TabG.mono (Sg.Le.trans hle180 hle243) hTab) Sl.nil hq369) (runs_plain rfl) bd15 rfl rfl rfl ?_; clear hE a; intro a hE
              refine qP hE (Gives.p hE rfl) rfl ?_; clear hE a; intro a hE
              refine qP hE (Gives.neB hE rfl rfl bl4) rfl ?_; clear hE a; intro a hE
              refine QL.nil ?_; clear hS w; intro w hS
              refine W.cond hE rfl (fun hc370 => ?_) (fun hc370 => ?_)
              ·replace hq350 := iteT hc370 hq350
               refine W.seq (W.region ?_)
               refine vP hS hE (Gives.p hE rfl) rfl ?_; clear hE a; intro a hE
               refine WL.nil ?_
               refine W.ret ?_
               subst hK361
               rw [← Option.some.inj hq350] at hr
               dsimp only at hr
               refine finG (fn := Tryz.f3) (rs := [.tmp 16]) (vs := [_]) hE rfl ⟨rfl, trivial⟩ ?_
               obtain rfl := Option.some.inj hr
               replace hS := hS.tail
               replace hS := hS.tail
               replace hS := hS.tail
               replace hS := hS.tail
               replace hS := hS.tail
               replace hS := hS.tail
               replace hS := hS.tail
               exact ⟨rfl, (hS.down (Sg.Le.trans hle180 hle243))⟩
              ·replace hq350 := iteF hc370 hq350
               refine W.skip ?_
               refine W.region ?_
               refine vP hS hE (Gives.inc hE rfl (by omega)) rfl ?_; clear hE a; intro a hE
               refine vP hS hE (Gives.p hE rfl) rfl ?_; clear hE a; intro a hE
               refine WL.nil ?_
               replace hS := hS.front 6 rfl
               replace hS := hS.front 6 rfl
               replace hS := hS.front 6 rfl
               replace hS := hS.front 6 rfl
               replace hS := hS.front 4 rfl
               replace hS := hS.front 6 rfl
               replace hS := hS.front 6 rfl
               subst hK361
               exact ⟨rest354, Nat.lt_succ_self _, rest354, k352 + 1, rfl, (by omega), hq350, hE.pick _ ⟨rfl, rfl, rfl, rfl, rfl, rfl, trivial⟩, hS⟩
            ·clear hE hS a w; rintro a w ⟨rfl, hE, hS⟩
             dsimp only at hr
             refine W.seq (W.region ?_)
             refine vP hS hE (Gives.p hE rfl) rfl ?_; clear hE a; intro a hE
             refine WL.nil ?_
             refine W.ret ?_
             refine finG (fn := Tryz.f3) (rs := [.tmp 16]) (vs := [_]) hE rfl ⟨rfl, trivial⟩ ?_
             obtain rfl := Option.some.inj hr
             replace hS := hS.tail
             replace hS := hS.tail
             replace hS := hS.tail
             replace hS := hS.tail
             replace hS := hS.tail
             replace hS := hS.tail
             replace hS := hS.tail
             exact ⟨rfl, (hS.down (Sg.Le.trans hle180 hle243))⟩
end Go.Proofs.YtngamgkmhgmmjaaGreatDoor
