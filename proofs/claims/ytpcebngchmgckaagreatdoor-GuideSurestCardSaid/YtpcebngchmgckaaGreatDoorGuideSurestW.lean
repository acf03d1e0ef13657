/- The walks of the functions that GuideSurest reaches: each call comes to what its mirror says. The conditions are those of each contract. -/
import Derived.Test.YtpcebngchmgckaaGreatDoorProg
import Derived.Test.YtpcebngchmgckaaGreatDoorFpTight
import Derived.Test.YtpcebngchmgckaaGreatDoorGuideSurestM
import Derived.Test.YtpcebngchmgckaaGreatDoorFpAllX
import Derived.Test.YtpcebngchmgckaaGreatDoorGuideSurestS
import Derived.Test.YtpcebngchmgckaaGreatDoorFpMapS
import Derived.Test.YtpcebngchmgckaaGreatDoorFpFld
import Derived.Test.YtpcebngchmgckaaGreatDoorFpMapG
import Derived.Test.YtpcebngchmgckaaGreatDoorFpMapV
import Derived.Test.YtpcebngchmgckaaGreatDoorFpMaps
import Derived.Test.YtpcebngchmgckaaGreatDoorFpOrd
import Derived.Test.YtpcebngchmgckaaGreatDoorFpRf
import Derived.Test.YtpcebngchmgckaaGreatDoorFpRng
import Derived.Test.YtpcebngchmgckaaGreatDoorGuideSurestW5
set_option maxRecDepth 10000
namespace Go.Proofs.YtpcebngchmgckaaGreatDoor
open Go Go.Fp
set_option maxHeartbeats 8000000 in
theorem SlicesCompareLint_ok  {w : World} {s : Sg} {R : List HP} {x0 : List Int} {a0 : Option Addr} {c0 : Nat} {x1 : List Int} {a1 : Option Addr} {c1 : Nat} (hS : St w s (R)) (h0 : Sl 1 (RI .i64) s a0 c0 x0) (h1 : Sl 1 (RI .i64) s a1 c1 x1) {r : Int} (hr : SlicesCompareLint x0 x1 = some r) :
  Calls Tryz.prog 59 [.slice a0 x0.length c0, .slice a1 x1.length c1].toArray w (fun e w => e = .returned (vi r) ∧ St w s (R)) := by
 refine enter Tryz.func59 rfl rfl rfl fun a hE => ?_
 rw [SlicesCompareLint] at hr
 refine W.seq (W.region (vp hS hE rfl rfl fun a hE => WL.nil ?_))
 refine W.seq ?_
 refine W.seq (W.region (vp hS hE rfl rfl fun a hE => ?_))
 refine vP hS hE (Gives.len hE rfl sl65) rfl fun a hE => ?_
 refine vp hS hE rfl rfl fun a hE => WL.nil ?_
 obtain ⟨q52, hq51, hr⟩ := bindS hr
 refine W.cut (fun a w => (.next ()) = q52 ∧ Rep a 36 [(0, .slice a0 x0.length c0), (1, .slice a1 x1.length c1)] ∧ St w s (R)) ?_ ?_
 ·refine W.block ?_
  refine W.loop (fun m a w => ∃ (rest55 : List Int) (k53 : Nat), rest55.length = m ∧ x0.drop k53 = rest55 ∧ SlicesCompareLint.loop1 x1 rest55 k53 = some q52 ∧ Rep a 36 [(0, .slice a0 x0.length c0), (1, .slice a1 x1.length c1), (9, .slice a0 x0.length c0), (10, vi ((x0).length : Int)), (11, vi ((k53 : Nat) : Int))] ∧ St w s (R)) (m := x0.length) ⟨x0, 0, rfl, rfl, hq51, hE.pick _ ⟨rfl, rfl, rfl, rfl, rfl, trivial⟩, hS⟩ ?_
  clear hE hS a w hq51; rintro m59 a w ⟨rest55, k53, rfl, hd56, hq51, hE, hS⟩
  refine W.gen fun K62 hK62 => ?_
  rcases rest55 with _ | ⟨x54, rest55⟩
  ·have hlt57 := drop_nil hd56
   refine W.seq (W.region (vp hS hE rfl rfl fun a hE => WL.nil ?_))
   refine W.seq ?_
   refine W.condF hE rfl (decide_eq_false (by omega)) ?_
   subst hK62
   refine W.exit rfl ?_
   exact ⟨Option.some.inj hq51, hE.pick _ ⟨rfl, rfl, trivial⟩, hS⟩
  obtain ⟨hlt57, hx58, hd56⟩ := drop_cons hd56
  rw [SlicesCompareLint.loop1] at hq51
  refine W.seq (W.region (vp hS hE rfl rfl fun a hE => WL.nil ?_))
  refine W.seq ?_
  refine W.condT hE rfl (decide_eq_true (by omega)) ?_
  refine W.skip ?_
  refine W.seq ?_
  refine W.block ?_
  refine W.seq (W.region (vp hS hE rfl rfl fun a hE => ?_))
  obtain ⟨cs63, hl64, hR65, hat66⟩ := h0.at hx58
  subst hR65
  refine vP hS hE (Gives.idx hE k53 rfl rfl sl65 rfl hlt57 (h0.aok hlt57)) rfl fun a hE => ?_
  refine vP hS hE (Gives.load1 hE rfl (fun w h => hat66 w _ h) ty3) rfl fun a hE => ?_
  refine v2 hS hE rfl rfl rfl rfl fun a hE => WL.nil ?_
  refine W.seq ?_
  refine W.seq (W.region (v2 hS hE rfl rfl rfl rfl fun a hE => ?_))
  refine vP hS hE (Gives.len hE rfl sl65) rfl fun a hE => ?_
  refine vp hS hE rfl rfl fun a hE => WL.nil ?_
  refine W.cond hE rfl (fun hc67 => ?_) (fun hc67 => ?_)
  ·replace hq51 := iteT hc67 hq51
   refine W.seq (W.region (vp hS hE rfl rfl fun a hE => WL.nil ?_))
   refine W.ret ?_
   subst hK62
   rw [← Option.some.inj hq51] at hr
   dsimp only at hr
   refine finG (fn := Tryz.f59) (rs := [.tmp 4]) (vs := [_]) hE rfl ⟨rfl, trivial⟩ ?_
   obtain rfl := Option.some.inj hr
   exact ⟨rfl, hS⟩
  replace hq51 := iteF hc67 hq51
  refine W.skip ?_
  refine W.seq (W.region (v2 hS hE rfl rfl rfl rfl fun a hE => ?_))
  obtain ⟨x68, hx69, hq51⟩ := bindS hq51
  obtain ⟨hi70, hlt71, hy72⟩ := gx_some hx69
  obtain ⟨cs73, hl74, hR75, hat76⟩ := h1.at hy72
  subst hR75
  refine vP hS hE (Gives.idx hE (((k53 : Nat) : Int)).toNat rfl rfl sl65 hi70 hlt71 (h1.aok hlt71)) rfl fun a hE => ?_
  refine vP hS hE (Gives.load1 hE rfl (fun w h => hat76 w _ h) ty3) rfl fun a hE => ?_
  refine vp hS hE rfl rfl fun a hE => WL.nil ?_
  refine W.seq (W.region (v2 hS hE rfl rfl rfl rfl fun a hE => ?_))
  refine WL.fnq hE (CmpCompareint_ok hS  rfl (r := CmpCompareint x54 x68)) (runs_plain rfl) bd42 rfl rfl rfl ?_
  clear hE hS; rintro e w ⟨rfl, hS⟩; refine ⟨_, rfl, ?_⟩; clear a; intro a hE
  refine vp hS hE rfl rfl fun a hE => WL.nil ?_
  refine W.seq (W.region (v2 hS hE rfl rfl rfl rfl fun a hE => WL.nil ?_))
  refine W.cond hE rfl (fun hc77 => ?_) (fun hc77 => ?_)
  ·replace hq51 := iteT hc77 hq51
   refine W.seq (W.region (v2 hS hE rfl rfl rfl rfl fun a hE => WL.nil ?_))
   refine W.ret ?_
   subst hK62
   rw [← Option.some.inj hq51] at hr
   dsimp only at hr
   refine finG (fn := Tryz.f59) (rs := [.tmp 4]) (vs := [_]) hE rfl ⟨rfl, trivial⟩ ?_
   obtain rfl := Option.some.inj hr
   exact ⟨rfl, hS⟩
  replace hq51 := iteF hc77 hq51
  refine W.skip ?_
  refine W.region ?_
  refine vP hS hE (Gives.inc hE rfl (by have := h0.small; omega)) rfl fun a hE => ?_
  refine vp hS hE rfl rfl fun a hE => WL.nil ?_
  subst hK62
  exact ⟨rest55.length, Nat.lt_succ_self _, rest55, k53 + 1, rfl, hd56, hq51, hE.pick _ ⟨rfl, rfl, rfl, rfl, rfl, trivial⟩, hS⟩
 clear hE hS a w; rintro a w ⟨rfl, hE, hS⟩
 dsimp only at hr
 refine W.seq ?_
 refine W.seq (W.region (vp hS hE rfl rfl fun a hE => ?_))
 refine vP hS hE (Gives.len hE rfl sl65) rfl fun a hE => ?_
 refine vp hS hE rfl rfl fun a hE => ?_
 refine vP hS hE (Gives.len hE rfl sl65) rfl fun a hE => ?_
 refine vp hS hE rfl rfl fun a hE => WL.nil ?_
 refine W.cond hE rfl (fun hc78 => ?_) (fun hc78 => ?_)
 ·replace hr := iteT hc78 hr
  refine W.seq (W.region (vp hS hE rfl rfl fun a hE => WL.nil ?_))
  refine W.ret ?_
  refine finG (fn := Tryz.f59) (rs := [.tmp 4]) (vs := [_]) hE rfl ⟨rfl, trivial⟩ ?_
  obtain rfl := Option.some.inj hr
  exact ⟨rfl, hS⟩
 replace hr := iteF hc78 hr
 refine W.skip ?_
 refine W.seq (W.region (vp hS hE rfl rfl fun a hE => WL.nil ?_))
 refine W.ret ?_
 refine finG (fn := Tryz.f59) (rs := [.tmp 4]) (vs := [_]) hE rfl ⟨rfl, trivial⟩ ?_
 obtain rfl := Option.some.inj hr
 exact ⟨rfl, hS⟩
set_option maxHeartbeats 8000000 in
theorem Fishref2SurestOf_ok {fu : Nat}  {w : World} {s : Sg} {R : List HP} {x0 : ApiDay} {a0_0 : Option Addr} {c0_0 : Nat} {a0_1 : Option Addr} {c0_1 : Nat} {x1 : Int} {x2 : Int} {x3 : Int} {x4 : Int} {x5 : Int} {x6 : List GuideOdds} {a6 : Option Addr} {c6 : Nat} (hS : St w s (R)) (h0_0 : Sl 4 RApiTrain s a0_0 c0_0 x0.Trains) (h0_1 : Sl 1 (RL 1 (RI .i64)) s a0_1 c0_1 x0.Turns) (h6 : Sl 3 RGuideOdds s a6 c6 x6) {r : GuideJourney × Int} (hr : Fishref2SurestOf fu x0 x1 x2 x3 x4 x5 x6 = some r) :
  Calls Tryz.prog 12 [.agg [.slice a0_0 x0.Trains.length c0_0, .slice a0_1 x0.Turns.length c0_1].toArray, vi x1, vi x2, vi x3, vi x4, vi x5, .slice a6 x6.length c6].toArray w (fun e w => ∃ (cs0 : List Value) (t : Sg), e = .returned (.tuple #[.agg cs0.toArray, vi r.2]) ∧ s.Le t ∧ RGuideJourney t cs0 r.1 ∧ St w t (R)) := by
 refine enter Tryz.func12 rfl rfl rfl fun a hE => ?_
 rw [Fishref2SurestOf] at hr
 refine W.seq (W.region ?_)
 refine WL.box hE hS (runs_plain rfl) rfl rfl rfl ?_; clear hE hS a w; intro b51 a w hE hS
 refine WL.alloc hE hS (runs_plain rfl) zr29 rfl ?_; clear hE hS a w; intro b52 a w hE hS
 refine vp hS hE rfl rfl fun a hE => WL.nil ?_
 refine W.seq (W.region (vP hS hE (Gives.build hE (vs := []) [.slice none 0 0] rfl (by kernel_rfl)) rfl fun a hE => ?_))
 refine WL.alloc hE hS (runs_plain rfl) zr29 rfl ?_; clear hE hS a w; intro b53 a w hE hS
 refine WL.storeI hE hS 0 rfl [.slice none 0 0] (runs_plain rfl) rfl rfl rfl ty29 rfl rfl rfl rfl ?_; clear hE hS a w; intro a w hE hS
 refine WL.nil ?_
 refine W.seq (W.region (vp hS hE rfl rfl fun a hE => WL.nil ?_))
 refine W.seq (W.region (v2 hS hE rfl rfl rfl rfl fun a hE => WL.nil ?_))
 refine W.seq ?_
 refine W.seq (W.region (vP hS hE (Gives.loadBA hE 2 rfl rfl ty25) rfl fun a hE => ?_))
 refine v2 hS hE rfl rfl rfl rfl fun a hE => ?_
 refine vp hS hE rfl rfl fun a hE => ?_
 obtain ⟨q54, hq55, hr⟩ := bindS hr
 have hc_ := Fishref2AllOf_ok hS h0_0 h0_1 hq55
 refine WL.fnq hE (hc_) (runs_plain rfl) bd55 rfl rfl rfl ?_
 clear hE hS hc_; rintro e w ⟨a56, c57, n58, cs59, s62, rfl, hle63, h60, rfl, hS⟩; refine ⟨_, rfl, ?_⟩; clear a; intro a hE
 replace h0_0 := Sl.mono RApiTrain.mono hle63 h0_0
 replace h0_1 := Sl.mono (RL.mono RI.mono) hle63 h0_1
 replace h6 := Sl.mono RGuideOdds.mono hle63 h6
 refine vP hS hE (Gives.len hE rfl sl64) rfl fun a hE => ?_
 refine vp hS hE rfl rfl fun a hE => WL.nil ?_
 have hb75 : q54.length ≤ 9223372036854775807 := by have := hS.vecCap 0 rfl; unfold maxLen at this; omega
 obtain ⟨q65, hq64, hr⟩ := bindS hr
 refine W.cut (fun a w => ∃ (q76 : Bool), ∃ (q77 : Int), ∃ (q78 : Int), ∃ (q79 : List GuideRide), ∃ (a80 : Option Addr), ∃ (c81 : Nat), ∃ (s73 : Sg), s62.Le s73 ∧ (q76, q77, q78, q79) = q65 ∧ Sl 3 RGuideRide s73 a80 c81 q79 ∧ Rep a 116 [(14, pp b52), (16, pp b53), (17, .bool q76)] ∧ St w s73 (vecC 29 1 a56 c57 q54.length cs59 :: pc b53 #[.slice a80 q79.length c81] 29 :: pc b52 #[.slice none 0 0] 29 :: pc b51 #[.slice a0_0 x0.Trains.length c0_0, .slice a0_1 x0.Turns.length c0_1] 25 :: R)) ?_ ?_
 ·refine W.block ?_
  refine W.loop (fun m a w => ∃ (rest68 : Nat) (k66 : Nat), ∃ (q76 : Bool), ∃ (q77 : Int), ∃ (q78 : Int), ∃ (q79 : List GuideRide), ∃ (a80 : Option Addr), ∃ (c81 : Nat), ∃ (s73 : Sg), rest68 = m ∧ k66 + rest68 = q54.length ∧ s62.Le s73 ∧ Fishref2SurestOf.loop1 x0 x2 x4 x5 x6 fu q54 rest68 k66 q76 q77 q78 q79 = some q65 ∧ Sl 3 RGuideRide s73 a80 c81 q79 ∧ Rep a 116 [(2, vi x2), (4, vi x4), (5, vi x5), (6, .slice a6 x6.length c6), (7, pp b51), (14, pp b52), (16, pp b53), (17, .bool q76), (18, vi q77), (19, vi q78), (33, .slice a56 q54.length c57), (34, vi ((q54.length : Nat) : Int)), (35, vi ((k66 : Nat) : Int))] ∧ St w s73 (vecC 29 1 a56 c57 q54.length cs59 :: pc b53 #[.slice a80 q79.length c81] 29 :: pc b52 #[.slice none 0 0] 29 :: pc b51 #[.slice a0_0 x0.Trains.length c0_0, .slice a0_1 x0.Turns.length c0_1] 25 :: R)) (m := q54.length) ⟨q54.length, 0, false, 0, 0, [], none, 0, s62, rfl, by omega, (Sg.Le.refl _), hq64, Sl.nil, hE.pick _ ⟨rfl, rfl, rfl, rfl, rfl, rfl, rfl, rfl, rfl, rfl, rfl, rfl, rfl, trivial⟩, hS⟩ ?_
  clear hE hS a w hq64; rintro m72 a w ⟨rest68, k66, q76, q77, q78, q79, a80, c81, s73, rfl, hd69, hle74, hq64, h82, hE, hS⟩
  refine W.gen fun K83 hK83 => ?_
  replace h0_0 := Sl.mono RApiTrain.mono hle74 h0_0
  replace h0_1 := Sl.mono (RL.mono RI.mono) hle74 h0_1
  replace h6 := Sl.mono RGuideOdds.mono hle74 h6
  replace h60 := Ev.mono RGuideJourney.mono hle74 h60
  rcases rest68 with _ | rest68
  ·skip
   refine W.seq (W.region (vp hS hE rfl rfl fun a hE => WL.nil ?_))
   refine W.seq ?_
   refine W.condF hE rfl (decide_eq_false (by omega)) ?_
   subst hK83
   refine W.exit rfl ?_
   exact ⟨q76, q77, q78, q79, a80, c81, s73, hle74, Option.some.inj hq64, h82, hE.pick _ ⟨rfl, rfl, rfl, trivial⟩, hS⟩
  have hlt70 : k66 < q54.length := by omega
  rw [Fishref2SurestOf.loop1] at hq64
  refine W.seq (W.region (vp hS hE rfl rfl fun a hE => WL.nil ?_))
  refine W.seq ?_
  refine W.condT hE rfl (decide_eq_true (by omega)) ?_
  refine W.skip ?_
  refine W.seq ?_
  refine W.block ?_
  refine W.seq (W.region ?_)
  obtain ⟨x84, hx85, hq64⟩ := bindS hq64
  obtain ⟨hi86, hlt87, hy88⟩ := gx_some hx85
  obtain ⟨vs89, hl90, hR91, hd92, hget93⟩ := h60.at hy88
  obtain ⟨a94, c95, rfl, h96⟩ := hR91
  refine vP hS hE (Gives.idx hE ((((k66 : Nat) : Int)).toNat) rfl rfl sl64 hi86 (by omega) (hS.vecAok 0 rfl (by omega : (((k66 : Nat) : Int)).toNat < q54.length))) rfl fun a hE => ?_
  refine vP hS hE (Gives.loadA hE rfl (fun w h => St.vecSees h 0 rfl ((((k66 : Nat) : Int)).toNat * 1) _ hget93) ty29) rfl fun a hE => ?_
  refine WL.alloc hE hS (runs_plain rfl) zr29 rfl ?_; clear hE hS a w; intro b97 a w hE hS
  refine WL.storeI hE hS 0 rfl [.slice a94 x84.Rides.length c95] (runs_plain rfl) rfl rfl rfl ty29 rfl rfl rfl rfl ?_; clear hE hS a w; intro a w hE hS
  refine WL.nil ?_
  refine W.seq ?_
  refine W.seq ?_
  obtain ⟨q99, hq98, hq64⟩ := bindS hq64
  refine W.cut (fun a w => ∃ (q102 : Bool), q102 = q99 ∧ Rep a 116 [(2, vi x2), (4, vi x4), (5, vi x5), (6, .slice a6 x6.length c6), (7, pp b51), (14, pp b52), (16, pp b53), (17, .bool q76), (18, vi q77), (19, vi q78), (21, pp b97), (33, .slice a56 q54.length c57), (34, vi ((q54.length : Nat) : Int)), (35, vi ((k66 : Nat) : Int)), (50, .bool q102)] ∧ St w s73 (pc b97 #[.slice a94 x84.Rides.length c95] 29 :: vecC 29 1 a56 c57 q54.length cs59 :: pc b53 #[.slice a80 q79.length c81] 29 :: pc b52 #[.slice none 0 0] 29 :: pc b51 #[.slice a0_0 x0.Trains.length c0_0, .slice a0_1 x0.Turns.length c0_1] 25 :: R)) ?_ ?_
  ·refine W.gen fun K103 hK103 => ?_
   refine W.region ?_
   refine vP hS hE (Gives.loadBA hE 4 rfl rfl ty25) rfl fun a hE => ?_
   refine vP hS hE (Gives.loadBA hE 0 rfl rfl ty29) rfl fun a hE => ?_
   obtain ⟨q104, hq105, hq98⟩ := bindS hq98
   have hc_ := Fishref2Leaves_ok hS h0_0 h0_1 h96 hq105
   refine WL.fnq hE (hc_) (runs_plain rfl) bd56 rfl rfl rfl ?_
   clear hE hS hc_; rintro e w ⟨rfl, hS⟩; refine ⟨_, rfl, ?_⟩; clear a; intro a hE
   refine v2 hS hE rfl rfl rfl rfl fun a hE => ?_
   refine vp hS hE rfl rfl fun a hE => ?_
   rcases Bool.eq_false_or_eq_true (decide (q104 < x2)) with hg106 | hg106
   ·replace hq98 := iteT hg106 hq98
    refine nO hE rfl rfl rfl (by rw [hg106]; decide) rfl fun a hE => ?_
    refine nO hE rfl rfl rfl (by rw [hg106]; decide) rfl fun a hE => ?_
    refine nO hE rfl rfl rfl (by rw [hg106]; decide) rfl fun a hE => ?_
    refine nO hE rfl rfl rfl (by rw [hg106]; decide) rfl fun a hE => ?_
    refine nO hE rfl rfl rfl (by rw [hg106]; decide) rfl fun a hE => ?_
    refine vP hS hE (Gives.pickT hE rfl hg106 rfl) rfl fun a hE => WL.nil ?_
    subst hK103
    exact ⟨true, Option.some.inj hq98, hE.pick _ ⟨rfl, rfl, rfl, rfl, rfl, rfl, rfl, rfl, rfl, rfl, rfl, rfl, rfl, rfl, rfl, trivial⟩, hS⟩
   replace hq98 := iteF hg106 hq98
   refine WL.vS hS hE (runs_if hE rfl rfl rfl hg106) (Gives.loadBA hE 4 rfl rfl ty25) rfl fun a hE => ?_
   refine WL.vS hS hE (runs_if hE rfl rfl rfl hg106) (Gives.loadBA hE 0 rfl rfl ty29) rfl fun a hE => ?_
   obtain ⟨q107, hq108, hq98⟩ := bindS hq98
   have hc_ := Fishref2Arrives_ok hS h0_0 h0_1 h96 hq108
   refine WL.fnq hE (hc_) (runs_if hE rfl rfl rfl hg106) bd57 rfl rfl rfl ?_
   clear hE hS hc_; rintro e w ⟨rfl, hS⟩; refine ⟨_, rfl, ?_⟩; clear a; intro a hE
   refine WL.vS hS hE (runs_if hE rfl rfl rfl hg106) (Gives.p hE rfl) rfl fun a hE => ?_
   refine WL.vS hS hE (runs_if hE rfl rfl rfl hg106) (Gives.p hE rfl) rfl fun a hE => ?_
   refine vP hS hE (Gives.pickF hE rfl hg106 rfl) rfl fun a hE => WL.nil ?_
   subst hK103
   exact ⟨decide (q107 > x4), Option.some.inj hq98, hE.pick _ ⟨rfl, rfl, rfl, rfl, rfl, rfl, rfl, rfl, rfl, rfl, rfl, rfl, rfl, rfl, rfl, trivial⟩, hS⟩
  clear hE hS a w; rintro a w ⟨q102, rfl, hE, hS⟩
  refine W.cond hE rfl (fun hc109 => ?_) (fun hc109 => ?_)
  ·replace hq64 := iteT hc109 hq64
   refine W.exit rfl ?_
   refine W.region ?_
   refine vP hS hE (Gives.inc hE rfl (by omega)) rfl fun a hE => ?_
   refine vp hS hE rfl rfl fun a hE => WL.nil ?_
   replace hS := hS.tail
   subst hK83
   exact ⟨rest68, Nat.lt_succ_self _, rest68, k66 + 1, q76, q77, q78, q79, a80, c81, s73, rfl, (by omega), hle74, hq64, h82, hE.pick _ ⟨rfl, rfl, rfl, rfl, rfl, rfl, rfl, rfl, rfl, rfl, rfl, rfl, rfl, trivial⟩, hS⟩
  replace hq64 := iteF hc109 hq64
  refine W.skip ?_
  refine W.seq (W.region (vP hS hE (Gives.loadBA hE 4 rfl rfl ty25) rfl fun a hE => ?_))
  refine vP hS hE (Gives.loadBA hE 0 rfl rfl ty29) rfl fun a hE => ?_
  refine v2 hS hE rfl rfl rfl rfl fun a hE => ?_
  obtain ⟨q110, hq111, hq64⟩ := bindS hq64
  have hc_ := Fishref2Cases_ok hS h0_0 h0_1 h96 h6 hq111
  refine WL.fnq hE (hc_) (runs_plain rfl) bd58 rfl rfl rfl ?_
  clear hE hS hc_; rintro e w ⟨rfl, hS⟩; refine ⟨_, rfl, ?_⟩; clear a; intro a hE
  refine v2 hS hE rfl rfl rfl rfl fun a hE => ?_
  refine v2 hS hE rfl rfl rfl rfl fun a hE => ?_
  refine v2 hS hE rfl rfl rfl rfl fun a hE => ?_
  refine vp hS hE rfl rfl fun a hE => WL.nil ?_
  refine W.seq ?_
  obtain ⟨q113, hq112, hq64⟩ := bndS hq64
  refine W.cut (fun a w => ∃ (q116 : Bool), q116 = q113 ∧ Rep a 116 [(2, vi x2), (4, vi x4), (5, vi x5), (6, .slice a6 x6.length c6), (7, pp b51), (14, pp b52), (16, pp b53), (17, .bool q76), (18, vi q77), (19, vi q78), (21, pp b97), (22, vi q110.1), (23, vi q110.2.1), (25, .bool q116), (33, .slice a56 q54.length c57), (34, vi ((q54.length : Nat) : Int)), (35, vi ((k66 : Nat) : Int))] ∧ St w s73 (pc b97 #[.slice a94 x84.Rides.length c95] 29 :: vecC 29 1 a56 c57 q54.length cs59 :: pc b53 #[.slice a80 q79.length c81] 29 :: pc b52 #[.slice none 0 0] 29 :: pc b51 #[.slice a0_0 x0.Trains.length c0_0, .slice a0_1 x0.Turns.length c0_1] 25 :: R)) ?_ ?_
  ·refine W.gen fun K117 hK117 => ?_
   refine W.region ?_
   refine v2 hS hE rfl rfl rfl rfl fun a hE => ?_
   refine vp hS hE rfl rfl fun a hE => ?_
   rcases Bool.eq_false_or_eq_true !q76 with hg118 | hg118
   ·replace hq112 := iteT hg118 hq112
    refine nO hE rfl rfl rfl (by rw [hg118]; decide) rfl fun a hE => ?_
    refine nO hE rfl rfl rfl (by rw [hg118]; decide) rfl fun a hE => ?_
    refine nO hE rfl rfl rfl (by rw [hg118]; decide) rfl fun a hE => ?_
    refine nO hE rfl rfl rfl (by rw [hg118]; decide) rfl fun a hE => ?_
    refine nO hE rfl rfl rfl (by rw [hg118]; decide) rfl fun a hE => ?_
    refine nO hE rfl rfl rfl (by rw [hg118]; decide) rfl fun a hE => ?_
    refine nO hE rfl rfl rfl (by rw [hg118]; decide) rfl fun a hE => ?_
    refine vP hS hE (Gives.pickT hE rfl hg118 rfl) rfl fun a hE => ?_
    refine vp hS hE rfl rfl fun a hE => WL.nil ?_
    subst hK117
    exact ⟨true, hq112, hE.pick _ ⟨rfl, rfl, rfl, rfl, rfl, rfl, rfl, rfl, rfl, rfl, rfl, rfl, rfl, rfl, rfl, rfl, rfl, trivial⟩, hS⟩
   replace hq112 := iteF hg118 hq112
   refine WL.vS hS hE (runs_if hE rfl rfl rfl hg118) (Gives.p hE rfl) rfl fun a hE => ?_
   refine WL.vS hS hE (runs_if hE rfl rfl rfl hg118) (Gives.p hE rfl) rfl fun a hE => ?_
   refine WL.vS hS hE (runs_if hE rfl rfl rfl hg118) (Gives.p hE rfl) rfl fun a hE => ?_
   refine WL.vS hS hE (runs_if hE rfl rfl rfl hg118) (Gives.p hE rfl) rfl fun a hE => ?_
   refine WL.vS hS hE (runs_if hE rfl rfl rfl hg118) (Gives.p hE rfl) rfl fun a hE => ?_
   refine WL.vS hS hE (runs_if hE rfl rfl rfl hg118) (Gives.p hE rfl) rfl fun a hE => ?_
   refine WL.vS hS hE (runs_if hE rfl rfl rfl hg118) (Gives.p hE rfl) rfl fun a hE => ?_
   refine vP hS hE (Gives.pickF hE rfl hg118 rfl) rfl fun a hE => ?_
   refine vp hS hE rfl rfl fun a hE => WL.nil ?_
   subst hK117
   exact ⟨decide ((w64 (q110.2.1 * q78)) > (w64 (q77 * q110.1))), hq112, hE.pick _ ⟨rfl, rfl, rfl, rfl, rfl, rfl, rfl, rfl, rfl, rfl, rfl, rfl, rfl, rfl, rfl, rfl, rfl, trivial⟩, hS⟩
  clear hE hS a w; rintro a w ⟨q116, rfl, hE, hS⟩
  refine W.seq ?_
  refine W.seq ?_
  obtain ⟨q120, hq119, hq64⟩ := bndS hq64
  refine W.cut (fun a w => ∃ (q123 : Bool), q123 = q120 ∧ Rep a 116 [(2, vi x2), (4, vi x4), (5, vi x5), (6, .slice a6 x6.length c6), (7, pp b51), (14, pp b52), (16, pp b53), (17, .bool q76), (18, vi q77), (19, vi q78), (21, pp b97), (22, vi q110.1), (23, vi q110.2.1), (25, .bool q116), (33, .slice a56 q54.length c57), (34, vi ((q54.length : Nat) : Int)), (35, vi ((k66 : Nat) : Int)), (80, .bool q123)] ∧ St w s73 (pc b97 #[.slice a94 x84.Rides.length c95] 29 :: vecC 29 1 a56 c57 q54.length cs59 :: pc b53 #[.slice a80 q79.length c81] 29 :: pc b52 #[.slice none 0 0] 29 :: pc b51 #[.slice a0_0 x0.Trains.length c0_0, .slice a0_1 x0.Turns.length c0_1] 25 :: R)) ?_ ?_
  ·refine W.gen fun K124 hK124 => ?_
   refine W.region ?_
   refine v2 hS hE rfl rfl rfl rfl fun a hE => ?_
   rcases Bool.eq_false_or_eq_true q76 with hg125 | hg125
   ·replace hq119 := iteT hg125 hq119
    refine WL.vS hS hE (runs_if hE rfl rfl rfl hg125) (Gives.p hE rfl) rfl fun a hE => ?_
    refine WL.vS hS hE (runs_if hE rfl rfl rfl hg125) (Gives.p hE rfl) rfl fun a hE => ?_
    refine WL.vS hS hE (runs_if hE rfl rfl rfl hg125) (Gives.p hE rfl) rfl fun a hE => ?_
    refine WL.vS hS hE (runs_if hE rfl rfl rfl hg125) (Gives.p hE rfl) rfl fun a hE => ?_
    refine WL.vS hS hE (runs_if hE rfl rfl rfl hg125) (Gives.p hE rfl) rfl fun a hE => ?_
    refine WL.vS hS hE (runs_if hE rfl rfl rfl hg125) (Gives.p hE rfl) rfl fun a hE => ?_
    refine WL.vS hS hE (runs_if hE rfl rfl rfl hg125) (Gives.p hE rfl) rfl fun a hE => ?_
    refine vP hS hE (Gives.pickT hE rfl hg125 rfl) rfl fun a hE => WL.nil ?_
    subst hK124
    exact ⟨((w64 (q110.2.1 * q78)) == (w64 (q77 * q110.1))), hq119, hE.pick _ ⟨rfl, rfl, rfl, rfl, rfl, rfl, rfl, rfl, rfl, rfl, rfl, rfl, rfl, rfl, rfl, rfl, rfl, rfl, trivial⟩, hS⟩
   replace hq119 := iteF hg125 hq119
   refine nO hE rfl rfl rfl (by rw [hg125]; decide) rfl fun a hE => ?_
   refine nO hE rfl rfl rfl (by rw [hg125]; decide) rfl fun a hE => ?_
   refine nO hE rfl rfl rfl (by rw [hg125]; decide) rfl fun a hE => ?_
   refine nO hE rfl rfl rfl (by rw [hg125]; decide) rfl fun a hE => ?_
   refine nO hE rfl rfl rfl (by rw [hg125]; decide) rfl fun a hE => ?_
   refine nO hE rfl rfl rfl (by rw [hg125]; decide) rfl fun a hE => ?_
   refine nO hE rfl rfl rfl (by rw [hg125]; decide) rfl fun a hE => ?_
   refine vP hS hE (Gives.pickF hE rfl hg125 rfl) rfl fun a hE => WL.nil ?_
   subst hK124
   exact ⟨false, hq119, hE.pick _ ⟨rfl, rfl, rfl, rfl, rfl, rfl, rfl, rfl, rfl, rfl, rfl, rfl, rfl, rfl, rfl, rfl, rfl, rfl, trivial⟩, hS⟩
  clear hE hS a w; rintro a w ⟨q123, rfl, hE, hS⟩
  obtain ⟨q127, hq126, hq64⟩ := bindS hq64
  refine W.cut (fun a w => ∃ (q130 : Bool), ∃ (s128 : Sg), s73.Le s128 ∧ q130 = q127 ∧ Rep a 116 [(2, vi x2), (4, vi x4), (5, vi x5), (6, .slice a6 x6.length c6), (7, pp b51), (14, pp b52), (16, pp b53), (17, .bool q76), (18, vi q77), (19, vi q78), (21, pp b97), (22, vi q110.1), (23, vi q110.2.1), (25, .bool q130), (33, .slice a56 q54.length c57), (34, vi ((q54.length : Nat) : Int)), (35, vi ((k66 : Nat) : Int))] ∧ St w s128 (pc b97 #[.slice a94 x84.Rides.length c95] 29 :: vecC 29 1 a56 c57 q54.length cs59 :: pc b53 #[.slice a80 q79.length c81] 29 :: pc b52 #[.slice none 0 0] 29 :: pc b51 #[.slice a0_0 x0.Trains.length c0_0, .slice a0_1 x0.Turns.length c0_1] 25 :: R)) ?_ ?_
  ·refine W.gen fun K131 hK131 => ?_
   refine W.cond hE rfl (fun hc132 => ?_) (fun hc132 => ?_)
   ·replace hq126 := iteT hc132 hq126
    refine W.seq ?_
    refine W.gen fun K133 hK133 => ?_
    refine W.regionE (dup (fun w => St w s73 (pc b97 #[.slice a94 x84.Rides.length c95] 29 :: vecC 29 1 a56 c57 q54.length cs59 :: pc b53 #[.slice a80 q79.length c81] 29 :: pc b52 #[.slice none 0 0] 29 :: pc b51 #[.slice a0_0 x0.Trains.length c0_0, .slice a0_1 x0.Turns.length c0_1] 25 :: R))) (fun b i => cond b ([0, 1, 2, 3, 4, 5, 6, 7, 8, 9, 10, 11].contains i) ([0, 1, 2, 3, 4, 5, 6, 7, 8, 9, 10, 11].contains i)) mixed ?_
    replace hS := hS.drew
    refine tT (i := 0) true rfl hE rfl (by kernel_rfl) (Gives.loadBA hE 4 rfl rfl ty25) rfl hS hS fun a hE => ?_
    have hT := tw_sel (A := fun w => St w s73 _) (B := fun w => St w s73 _) (w := _) (x := true) (y := true) (fun _ => hS) (fun _ => hS)
    have hF := hS; replace hS := hS
    refine Rg.take (i := 1) true rfl hE rfl (by kernel_rfl) (runs_plain rfl) (Gives.loadBA hE 0 rfl rfl ty29) rfl hT fun a hE => ?_
    replace hS := hF; clear hF hT
    refine tP (i := 3) hE rfl (by kernel_rfl) (Gives.fld hE rfl fl29_0) rfl hS hS fun a hE => ?_
    refine tT (i := 4) true rfl hE rfl (by kernel_rfl) (Gives.loadB hE 0 rfl rfl rfl ty27) rfl hS hS fun a hE => ?_
    refine tP (i := 5) hE rfl (by kernel_rfl) (Gives.len hE rfl sl27) rfl hS hS fun a hE => ?_
    refine tT (i := 6) true rfl hE rfl (by kernel_rfl) (Gives.loadBA hE 4 rfl rfl ty25) rfl hS hS fun a hE => ?_
    have hT := tw_sel (A := fun w => St w s73 _) (B := fun w => St w s73 _) (w := _) (x := true) (y := true) (fun _ => hS) (fun _ => hS)
    have hF := hS; replace hS := hS
    refine Rg.take (i := 7) true rfl hE rfl (by kernel_rfl) (runs_plain rfl) (Gives.loadBA hE 0 rfl rfl ty29) rfl hT fun a hE => ?_
    replace hS := hF; clear hF hT
    refine Rg.one (i := 2) true true rfl (by kernel_rfl) (by kernel_rfl) (by kernel_rfl) ?_
    obtain ⟨q134, hq135, hq126⟩ := bindS hq126
    have hc_ := Fishref2Arrives_ok hS h0_0 h0_1 h96 hq135
    refine WL.fnq hE (hc_) (runs_plain rfl) bd57 rfl rfl rfl ?_
    clear hE hS hc_; rintro e w ⟨rfl, hS⟩; refine ⟨_, rfl, ?_⟩; clear a; intro a hE
    refine WL.nil ?_
    refine ⟨⟨fun _ => hS, fun _ => hS⟩, ?_⟩
    refine Rg.one (i := 8) true true rfl (by kernel_rfl) (by kernel_rfl) (by kernel_rfl) ?_
    obtain ⟨q136, hq137, hq126⟩ := bindS hq126
    have hc_ := Fishref2Leaves_ok hS h0_0 h0_1 h96 hq137
    refine WL.fnq hE (hc_) (runs_plain rfl) bd56 rfl rfl rfl ?_
    clear hE hS hc_; rintro e w ⟨rfl, hS⟩; refine ⟨_, rfl, ?_⟩; clear a; intro a hE
    refine WL.nil ?_
    refine ⟨⟨fun _ => hS, fun _ => hS⟩, ?_⟩
    refine tP (i := 9) hE rfl (by kernel_rfl) (Gives.p hE rfl) rfl hS hS fun a hE => ?_
    refine Rg.one (i := 10) true true rfl (by kernel_rfl) (by kernel_rfl) (by kernel_rfl) ?_
    refine WL.lit hE hS (e := 3) (es := 1) (vs := [(0, vi q134), (1, vi ((x84.Rides).length : Int)), (2, vi (w64 (0 - q136)))]) (cs := [vi q134, vi ((x84.Rides).length : Int), vi (w64 (0 - q136))]) (runs_plain rfl) rfl (by kernel_rfl) rfl ?_; clear hE hS a w; intro b138 a w hE hS
    replace hS := hS.ptVec (es := 1) (m := 3) rfl (by decide)
    have h140 : Ev 1 (RI .i64) s73 [vi q134, vi ((x84.Rides).length : Int), vi (w64 (0 - q136))] [q134, ((x84.Rides).length : Int), w64 (0 - q136)] := (Ev.cons (c1 := [vi q134]) rfl rfl (Ev.cons (c1 := [vi ((x84.Rides).length : Int)]) rfl rfl (Ev.cons (c1 := [vi (w64 (0 - q136))]) rfl rfl (Ev.nil))))
    have hF := hS.fixD RI.mono 0 rfl h140 (rfl); clear hS; obtain ⟨s141, hle142, hS, h143⟩ := hF
    replace h6 := Sl.mono RGuideOdds.mono hle142 h6
    replace h0_0 := Sl.mono RApiTrain.mono hle142 h0_0
    replace h0_1 := Sl.mono (RL.mono RI.mono) hle142 h0_1
    replace h96 := Sl.mono RGuideRide.mono hle142 h96
    replace h60 := Ev.mono RGuideJourney.mono hle142 h60
    replace h82 := Sl.mono RGuideRide.mono hle142 h82
    refine WL.nil ?_
    refine ⟨⟨fun _ => (St.down hle142 hS), fun _ => (St.down hle142 hS)⟩, ?_⟩
    refine tP (i := 11) hE rfl (by kernel_rfl) (Gives.p hE rfl) rfl (St.down hle142 hS) (St.down hle142 hS) fun a hE => ?_
    refine Rg.done (by kernel_rfl) ?_
    subst hK133
    refine W.seq ?_
    refine W.gen fun K144 hK144 => ?_
    refine W.regionE (dup (fun w => St w s141 (pc b97 #[.slice a94 x84.Rides.length c95] 29 :: vecC 29 1 a56 c57 q54.length cs59 :: pc b53 #[.slice a80 q79.length c81] 29 :: pc b52 #[.slice none 0 0] 29 :: pc b51 #[.slice a0_0 x0.Trains.length c0_0, .slice a0_1 x0.Turns.length c0_1] 25 :: R))) (fun b i => cond b ([0, 1, 2, 3, 4, 5, 6, 7, 8, 9, 10, 11].contains i) ([0, 1, 2, 3, 4, 5, 6, 7, 8, 9, 10, 11].contains i)) mixed ?_
    replace hS := hS.drew
    refine tT (i := 0) true rfl hE rfl (by kernel_rfl) (Gives.loadBA hE 4 rfl rfl ty25) rfl hS hS fun a hE => ?_
    have hT := tw_sel (A := fun w => St w s141 _) (B := fun w => St w s141 _) (w := _) (x := true) (y := true) (fun _ => hS) (fun _ => hS)
    have hF := hS; replace hS := hS
    refine Rg.take (i := 1) true rfl hE rfl (by kernel_rfl) (runs_plain rfl) (Gives.loadBA hE 2 rfl rfl ty29) rfl hT fun a hE => ?_
    replace hS := hF; clear hF hT
    refine tP (i := 3) hE rfl (by kernel_rfl) (Gives.fld hE rfl fl29_0) rfl hS hS fun a hE => ?_
    refine tT (i := 4) true rfl hE rfl (by kernel_rfl) (Gives.loadB hE 2 rfl rfl rfl ty27) rfl hS hS fun a hE => ?_
    refine tP (i := 5) hE rfl (by kernel_rfl) (Gives.len hE rfl sl27) rfl hS hS fun a hE => ?_
    refine tT (i := 6) true rfl hE rfl (by kernel_rfl) (Gives.loadBA hE 4 rfl rfl ty25) rfl hS hS fun a hE => ?_
    have hT := tw_sel (A := fun w => St w s141 _) (B := fun w => St w s141 _) (w := _) (x := true) (y := true) (fun _ => hS) (fun _ => hS)
    have hF := hS; replace hS := hS
    refine Rg.take (i := 7) true rfl hE rfl (by kernel_rfl) (runs_plain rfl) (Gives.loadBA hE 2 rfl rfl ty29) rfl hT fun a hE => ?_
    replace hS := hF; clear hF hT
    refine Rg.one (i := 2) true true rfl (by kernel_rfl) (by kernel_rfl) (by kernel_rfl) ?_
    obtain ⟨q145, hq146, hq126⟩ := bindS hq126
    have hc_ := Fishref2Arrives_ok hS h0_0 h0_1 h82 hq146
    refine WL.fnq hE (hc_) (runs_plain rfl) bd57 rfl rfl rfl ?_
    clear hE hS hc_; rintro e w ⟨rfl, hS⟩; refine ⟨_, rfl, ?_⟩; clear a; intro a hE
    refine WL.nil ?_
    refine ⟨⟨fun _ => hS, fun _ => hS⟩, ?_⟩
    refine Rg.one (i := 8) true true rfl (by kernel_rfl) (by kernel_rfl) (by kernel_rfl) ?_
    obtain ⟨q147, hq148, hq126⟩ := bindS hq126
    have hc_ := Fishref2Leaves_ok hS h0_0 h0_1 h82 hq148
    refine WL.fnq hE (hc_) (runs_plain rfl) bd56 rfl rfl rfl ?_
    clear hE hS hc_; rintro e w ⟨rfl, hS⟩; refine ⟨_, rfl, ?_⟩; clear a; intro a hE
    refine WL.nil ?_
    refine ⟨⟨fun _ => hS, fun _ => hS⟩, ?_⟩
    refine tP (i := 9) hE rfl (by kernel_rfl) (Gives.p hE rfl) rfl hS hS fun a hE => ?_
    refine Rg.one (i := 10) true true rfl (by kernel_rfl) (by kernel_rfl) (by kernel_rfl) ?_
    refine WL.lit hE hS (e := 3) (es := 1) (vs := [(0, vi q145), (1, vi ((q79).length : Int)), (2, vi (w64 (0 - q147)))]) (cs := [vi q145, vi ((q79).length : Int), vi (w64 (0 - q147))]) (runs_plain rfl) rfl (by kernel_rfl) rfl ?_; clear hE hS a w; intro b149 a w hE hS
    replace hS := hS.ptVec (es := 1) (m := 3) rfl (by decide)
    have h151 : Ev 1 (RI .i64) s141 [vi q145, vi ((q79).length : Int), vi (w64 (0 - q147))] [q145, ((q79).length : Int), w64 (0 - q147)] := (Ev.cons (c1 := [vi q145]) rfl rfl (Ev.cons (c1 := [vi ((q79).length : Int)]) rfl rfl (Ev.cons (c1 := [vi (w64 (0 - q147))]) rfl rfl (Ev.nil))))
    have hF := hS.fixD RI.mono 0 rfl h151 (rfl); clear hS; obtain ⟨s152, hle153, hS, h154⟩ := hF
    replace h6 := Sl.mono RGuideOdds.mono hle153 h6
    replace h0_0 := Sl.mono RApiTrain.mono hle153 h0_0
    replace h0_1 := Sl.mono (RL.mono RI.mono) hle153 h0_1
    replace h96 := Sl.mono RGuideRide.mono hle153 h96
    replace h143 := Sl.mono RI.mono hle153 h143
    replace h82 := Sl.mono RGuideRide.mono hle153 h82
    replace h60 := Ev.mono RGuideJourney.mono hle153 h60
    refine WL.nil ?_
    refine ⟨⟨fun _ => (St.down hle153 hS), fun _ => (St.down hle153 hS)⟩, ?_⟩
    refine tP (i := 11) hE rfl (by kernel_rfl) (Gives.p hE rfl) rfl (St.down hle153 hS) (St.down hle153 hS) fun a hE => ?_
    refine Rg.done (by kernel_rfl) ?_
    subst hK144
    refine W.region ?_
    refine v2 hS hE rfl rfl rfl rfl fun a hE => ?_
    obtain ⟨q155, hq156, hq126⟩ := bindS hq126
    have hc_ := SlicesCompareLint_ok hS h143 h154 hq156
    refine WL.fnq hE (hc_) (runs_plain rfl) bd59 rfl rfl rfl ?_
    clear hE hS hc_; rintro e w ⟨rfl, hS⟩; refine ⟨_, rfl, ?_⟩; clear a; intro a hE
    refine v2 hS hE rfl rfl rfl rfl fun a hE => WL.nil ?_
    subst hK131
    exact ⟨decide (q155 < 0), s152, (Sg.Le.trans hle142 hle153), Option.some.inj hq126, hE.pick _ ⟨rfl, rfl, rfl, rfl, rfl, rfl, rfl, rfl, rfl, rfl, rfl, rfl, rfl, rfl, rfl, rfl, rfl, trivial⟩, hS⟩
   replace hq126 := iteF hc132 hq126
   refine W.skip ?_
   subst hK131
   exact ⟨q116, s73, (Sg.Le.refl _), Option.some.inj hq126, hE.pick _ ⟨rfl, rfl, rfl, rfl, rfl, rfl, rfl, rfl, rfl, rfl, rfl, rfl, rfl, rfl, rfl, rfl, rfl, trivial⟩, hS⟩
  clear hE hS a w; rintro a w ⟨q130, s128, hle129, rfl, hE, hS⟩
  replace h6 := Sl.mono RGuideOdds.mono hle129 h6
  replace h96 := Sl.mono RGuideRide.mono hle129 h96
  replace h60 := Ev.mono RGuideJourney.mono hle129 h60
  replace h82 := Sl.mono RGuideRide.mono hle129 h82
  replace h0_0 := Sl.mono RApiTrain.mono hle129 h0_0
  replace h0_1 := Sl.mono (RL.mono RI.mono) hle129 h0_1
  refine W.seq (W.region (vp hS hE rfl rfl fun a hE => WL.nil ?_))
  obtain ⟨q158, hq157, hq64⟩ := bndS hq64
  refine W.cut (fun a w => ∃ (q161 : Bool), ∃ (q162 : Int), ∃ (q163 : Int), ∃ (q164 : List GuideRide), ∃ (a165 : Option Addr), ∃ (c166 : Nat), (q161, q162, q163, q164) = q158 ∧ Sl 3 RGuideRide s128 a165 c166 q164 ∧ Rep a 116 [(2, vi x2), (4, vi x4), (5, vi x5), (6, .slice a6 x6.length c6), (7, pp b51), (14, pp b52), (16, pp b53), (17, .bool q161), (18, vi q162), (19, vi q163), (33, .slice a56 q54.length c57), (34, vi ((q54.length : Nat) : Int)), (35, vi ((k66 : Nat) : Int))] ∧ St w s128 (pc b97 #[.slice a94 x84.Rides.length c95] 29 :: vecC 29 1 a56 c57 q54.length cs59 :: pc b53 #[.slice a165 q164.length c166] 29 :: pc b52 #[.slice none 0 0] 29 :: pc b51 #[.slice a0_0 x0.Trains.length c0_0, .slice a0_1 x0.Turns.length c0_1] 25 :: R)) ?_ ?_
  ·refine W.gen fun K168 hK168 => ?_
   refine W.cond hE rfl (fun hc169 => ?_) (fun hc169 => ?_)
   ·replace hq157 := iteT hc169 hq157
    refine W.region ?_
    refine vP hS hE (Gives.loadBA hE 0 rfl rfl ty29) rfl fun a hE => ?_
    refine v2 hS hE rfl rfl rfl rfl fun a hE => ?_
    refine WL.storeI hE hS 2 rfl [.slice a94 x84.Rides.length c95] (runs_plain rfl) rfl rfl rfl ty29 rfl rfl rfl rfl ?_; clear hE hS a w; intro a w hE hS
    refine v2 hS hE rfl rfl rfl rfl fun a hE => ?_
    refine vp hS hE rfl rfl fun a hE => WL.nil ?_
    subst hK168
    exact ⟨true, q110.2.1, q110.1, x84.Rides, a94, c95, hq157, h96, hE.pick _ ⟨rfl, rfl, rfl, rfl, rfl, rfl, rfl, rfl, rfl, rfl, rfl, rfl, rfl, trivial⟩, hS⟩
   replace hq157 := iteF hc169 hq157
   refine W.skip ?_
   subst hK168
   exact ⟨q76, q77, q78, q79, a80, c81, hq157, h82, hE.pick _ ⟨rfl, rfl, rfl, rfl, rfl, rfl, rfl, rfl, rfl, rfl, rfl, rfl, rfl, trivial⟩, hS⟩
  clear hE hS a w; rintro a w ⟨q161, q162, q163, q164, a165, c166, rfl, h167, hE, hS⟩
  dsimp only at hq64
  refine W.region ?_
  refine vP hS hE (Gives.inc hE rfl (by omega)) rfl fun a hE => ?_
  refine vp hS hE rfl rfl fun a hE => WL.nil ?_
  replace hS := hS.tail
  subst hK83
  exact ⟨rest68, Nat.lt_succ_self _, rest68, k66 + 1, q161, q162, q163, q164, a165, c166, s128, rfl, (by omega), (Sg.Le.trans hle74 hle129), hq64, h167, hE.pick _ ⟨rfl, rfl, rfl, rfl, rfl, rfl, rfl, rfl, rfl, rfl, rfl, rfl, rfl, trivial⟩, hS⟩
 clear hE hS a w; rintro a w ⟨q76, q77, q78, q79, a80, c81, s73, hle74, rfl, h82, hE, hS⟩
 dsimp only at hr
 replace h0_0 := Sl.mono RApiTrain.mono hle74 h0_0
 replace h0_1 := Sl.mono (RL.mono RI.mono) hle74 h0_1
 replace h6 := Sl.mono RGuideOdds.mono hle74 h6
 replace h60 := Ev.mono RGuideJourney.mono hle74 h60
 refine W.seq ?_
 refine W.seq (W.region (v2 hS hE rfl rfl rfl rfl fun a hE => WL.nil ?_))
 refine W.cond hE rfl (fun hc170 => ?_) (fun hc170 => ?_)
 ·replace hr := iteT hc170 hr
  refine W.seq (W.region (vP hS hE (Gives.build hE (vs := []) [.slice none 0 0] rfl (by kernel_rfl)) rfl fun a hE => ?_))
  refine WL.storeI hE hS 2 rfl [.slice none 0 0] (runs_plain rfl) rfl rfl rfl ty29 rfl rfl rfl rfl ?_; clear hE hS a w; intro a w hE hS
  refine vp hS hE rfl rfl fun a hE => WL.nil ?_
  refine W.ret ?_
  refine finG (fn := Tryz.f12) (rs := [.cell 14 29, .tmp 15]) (vs := [_, _]) hE rfl ⟨⟨_, rfl, .inl ⟨_, rfl, hS.seesAt 2 rfl, ty29⟩⟩, rfl, trivial⟩ ?_
  obtain rfl := Option.some.inj hr
  replace hS := hS.tail
  replace hS := hS.tail
  replace hS := hS.tail
  replace hS := hS.tail
  exact ⟨_, s73, rfl, (Sg.Le.trans hle63 hle74), ⟨_, _, rfl, Sl.nil⟩, hS⟩
 replace hr := iteF hc170 hr
 refine W.skip ?_
 refine W.seq (W.region (vP hS hE (Gives.loadBA hE 1 rfl rfl ty29) rfl fun a hE => ?_))
 refine WL.storeI hE hS 2 rfl [.slice a80 q79.length c81] (runs_plain rfl) rfl rfl rfl ty29 rfl rfl rfl rfl ?_; clear hE hS a w; intro a w hE hS
 refine vp hS hE rfl rfl fun a hE => WL.nil ?_
 refine W.ret ?_
 refine finG (fn := Tryz.f12) (rs := [.cell 14 29, .tmp 15]) (vs := [_, _]) hE rfl ⟨⟨_, rfl, .inl ⟨_, rfl, hS.seesAt 2 rfl, ty29⟩⟩, rfl, trivial⟩ ?_
 obtain rfl := Option.some.inj hr
 replace hS := hS.tail
 replace hS := hS.tail
 replace hS := hS.tail
 replace hS := hS.tail
 exact ⟨_, s73, rfl, (Sg.Le.trans hle63 hle74), ⟨_, _, rfl, h82⟩, hS⟩
set_option maxHeartbeats 8000000 in
theorem Fishlaw2sameJourney_ok  {w : World} {s : Sg} {R : List HP} {x0 : GuideJourney} {a0_0 : Option Addr} {c0_0 : Nat} {x1 : GuideJourney} {a1_0 : Option Addr} {c1_0 : Nat} (hS : St w s (R)) (h0_0 : Sl 3 RGuideRide s a0_0 c0_0 x0.Rides) (h1_0 : Sl 3 RGuideRide s a1_0 c1_0 x1.Rides) {r : Bool} (hr : Fishlaw2sameJourney x0 x1 = some r) :
  Calls Tryz.prog 13 [.agg [.slice a0_0 x0.Rides.length c0_0].toArray, .agg [.slice a1_0 x1.Rides.length c1_0].toArray].toArray w (fun e w => e = .returned (.bool r) ∧ St w s (R)) := by
 refine enter Tryz.func13 rfl rfl rfl fun a hE => ?_
 rw [Fishlaw2sameJourney] at hr
 refine W.seq (W.region ?_)
 refine WL.box hE hS (runs_plain rfl) rfl rfl rfl ?_; clear hE hS a w; intro b51 a w hE hS
 refine WL.box hE hS (runs_plain rfl) rfl rfl rfl ?_; clear hE hS a w; intro b52 a w hE hS
 refine vp hS hE rfl rfl fun a hE => WL.nil ?_
 refine W.seq (W.region (vP hS hE (Gives.fld hE rfl fl29_0) rfl fun a hE => ?_))
 refine vP hS hE (Gives.loadB hE 1 rfl rfl rfl ty27) rfl fun a hE => ?_
 refine vP hS hE (Gives.fld hE rfl fl29_0) rfl fun a hE => ?_
 refine vP hS hE (Gives.loadB hE 0 rfl rfl rfl ty27) rfl fun a hE => ?_
 obtain ⟨q53, hq54, hr⟩ := bindS hr
 have hc_ := SlicesEqualLguideRide_ok hS h0_0 h1_0 hq54
 refine WL.fnq hE (hc_) (runs_plain rfl) bd54 rfl rfl rfl ?_
 clear hE hS hc_; rintro e w ⟨rfl, hS⟩; refine ⟨_, rfl, ?_⟩; clear a; intro a hE
 refine vp hS hE rfl rfl fun a hE => WL.nil ?_
 refine W.ret ?_
 refine finG (fn := Tryz.f13) (rs := [.tmp 4]) (vs := [_]) hE rfl ⟨rfl, trivial⟩ ?_
 obtain rfl := Option.some.inj hr
 replace hS := hS.tail
 replace hS := hS.tail
 exact ⟨rfl, hS⟩
set_option maxHeartbeats 8000000 in
theorem Fishlaw2GuideSurest_ok {fu : Nat}  {w : World} {s : Sg} {R : List HP} {x0 : ApiDay} {a0_0 : Option Addr} {c0_0 : Nat} {a0_1 : Option Addr} {c0_1 : Nat} {x1 : Int} {x2 : Int} {x3 : Int} {x4 : Int} {x5 : Int} {x6 : List GuideOdds} {a6 : Option Addr} {c6 : Nat} (hS : St w s (R)) (hTab : TabS Tryz.prog s) (h0_0 : Sl 4 RApiTrain s a0_0 c0_0 x0.Trains) (h0_1 : Sl 1 (RL 1 (RI .i64)) s a0_1 c0_1 x0.Turns) (h6 : Sl 3 RGuideOdds s a6 c6 x6) {r : Bool} (hr : Fishlaw2GuideSurest fu x0 x1 x2 x3 x4 x5 x6 = some r) :
  Calls Tryz.prog 3 [.agg [.slice a0_0 x0.Trains.length c0_0, .slice a0_1 x0.Turns.length c0_1].toArray, vi x1, vi x2, vi x3, vi x4, vi x5, .slice a6 x6.length c6].toArray w (fun e w => e = .returned (.bool r) ∧ St w s (R)) := by
 refine enter Tryz.func3 rfl rfl rfl fun a hE => ?_
 rw [Fishlaw2GuideSurest] at hr
 refine W.seq (W.region ?_)
 refine WL.box hE hS (runs_plain rfl) rfl rfl rfl ?_; clear hE hS a w; intro b51 a w hE hS
 refine vp hS hE rfl rfl fun a hE => WL.nil ?_
 refine W.seq (W.region (vP hS hE (Gives.loadBA hE 0 rfl rfl ty25) rfl fun a hE => ?_))
 refine v2 hS hE rfl rfl rfl rfl fun a hE => ?_
 refine v2 hS hE rfl rfl rfl rfl fun a hE => ?_
 refine v2 hS hE rfl rfl rfl rfl fun a hE => ?_
 obtain ⟨q52, hq53, hr⟩ := bindS hr
 have hc_ := GuideSurest_ok hS (TabS.mono (Sg.Le.refl _) hTab) h0_0 h0_1 h6 hq53
 refine WL.fnq hE (hc_) (runs_plain rfl) bd7 rfl rfl rfl ?_
 clear hE hS hc_; rintro e w ⟨cs54, s56, rfl, hle57, h55, hS⟩; refine ⟨_, rfl, ?_⟩; clear a; intro a hE
 replace h0_0 := Sl.mono RApiTrain.mono hle57 h0_0
 replace h0_1 := Sl.mono (RL.mono RI.mono) hle57 h0_1
 replace h6 := Sl.mono RGuideOdds.mono hle57 h6
 obtain ⟨a58, c59, rfl, h60⟩ := h55
 refine v2 hS hE rfl rfl rfl rfl fun a hE => ?_
 refine vp hS hE rfl rfl fun a hE => ?_
 refine WL.alloc hE hS (runs_plain rfl) zr29 rfl ?_; clear hE hS a w; intro b61 a w hE hS
 refine WL.storeI hE hS 0 rfl [.slice a58 q52.1.Rides.length c59] (runs_plain rfl) rfl rfl rfl ty29 rfl rfl rfl rfl ?_; clear hE hS a w; intro a w hE hS
 refine vp hS hE rfl rfl fun a hE => WL.nil ?_
 refine W.seq (W.region (vP hS hE (Gives.loadBA hE 1 rfl rfl ty25) rfl fun a hE => ?_))
 obtain ⟨q62, hq63, hr⟩ := bindS hr
 have hc_ := Fishref2GuideFault_ok hS h0_0 h0_1 hq63
 refine WL.fnq hE (hc_) (runs_plain rfl) bd8 rfl rfl rfl ?_
 clear hE hS hc_; rintro e w ⟨rfl, hS⟩; refine ⟨_, rfl, ?_⟩; clear a; intro a hE
 refine vp hS hE rfl rfl fun a hE => WL.nil ?_
 refine W.seq ?_
 refine W.seq (W.region (v2 hS hE rfl rfl rfl rfl fun a hE => WL.nil ?_))
 obtain ⟨q65, hq64, hr⟩ := bndS hr
 refine W.cut (fun a w => ∃ (q68 : Int), q68 = q65 ∧ Rep a 88 [(1, vi x1), (2, vi x2), (3, vi x3), (4, vi x4), (5, vi x5), (6, .slice a6 x6.length c6), (7, pp b51), (15, pp b61), (16, vi q52.2), (17, vi q68)] ∧ St w s56 (pc b61 #[.slice a58 q52.1.Rides.length c59] 29 :: pc b51 #[.slice a0_0 x0.Trains.length c0_0, .slice a0_1 x0.Turns.length c0_1] 25 :: R)) ?_ ?_
 ·refine W.gen fun K69 hK69 => ?_
  refine W.cond hE rfl (fun hc70 => ?_) (fun hc70 => ?_)
  ·replace hq64 := iteT hc70 hq64
   refine W.region ?_
   refine v2 hS hE rfl rfl rfl rfl fun a hE => ?_
   refine v2 hS hE rfl rfl rfl rfl fun a hE => ?_
   refine WL.fnq hE (Fishref2SearchFault_ok hS  rfl (r := Fishref2SearchFault x5 x1 x3 x2 true true)) (runs_plain rfl) bd9 rfl rfl rfl ?_
   clear hE hS; rintro e w ⟨rfl, hS⟩; refine ⟨_, rfl, ?_⟩; clear a; intro a hE
   refine vp hS hE rfl rfl fun a hE => WL.nil ?_
   subst hK69
   exact ⟨(Fishref2SearchFault x5 x1 x3 x2 true true), hq64, hE.pick _ ⟨rfl, rfl, rfl, rfl, rfl, rfl, rfl, rfl, rfl, rfl, trivial⟩, hS⟩
  replace hq64 := iteF hc70 hq64
  refine W.skip ?_
  subst hK69
  exact ⟨q62, hq64, hE.pick _ ⟨rfl, rfl, rfl, rfl, rfl, rfl, rfl, rfl, rfl, rfl, trivial⟩, hS⟩
 clear hE hS a w; rintro a w ⟨q68, rfl, hE, hS⟩
 refine W.seq ?_
 refine W.seq (W.region (v2 hS hE rfl rfl rfl rfl fun a hE => WL.nil ?_))
 obtain ⟨q72, hq71, hr⟩ := bndS hr
 refine W.cut (fun a w => ∃ (q75 : Int), q75 = q72 ∧ Rep a 88 [(1, vi x1), (2, vi x2), (3, vi x3), (4, vi x4), (5, vi x5), (6, .slice a6 x6.length c6), (7, pp b51), (15, pp b61), (16, vi q52.2), (17, vi q75)] ∧ St w s56 (pc b61 #[.slice a58 q52.1.Rides.length c59] 29 :: pc b51 #[.slice a0_0 x0.Trains.length c0_0, .slice a0_1 x0.Turns.length c0_1] 25 :: R)) ?_ ?_
 ·refine W.gen fun K76 hK76 => ?_
  refine W.cond hE rfl (fun hc77 => ?_) (fun hc77 => ?_)
  ·replace hq71 := iteT hc77 hq71
   refine W.region ?_
   refine v2 hS hE rfl rfl rfl rfl fun a hE => ?_
   refine v2 hS hE rfl rfl rfl rfl fun a hE => ?_
   refine WL.fnq hE (Fishref2SearchFault_ok hS  rfl (r := Fishref2SearchFault x5 x1 x3 x4 true true)) (runs_plain rfl) bd9 rfl rfl rfl ?_
   clear hE hS; rintro e w ⟨rfl, hS⟩; refine ⟨_, rfl, ?_⟩; clear a; intro a hE
   refine vp hS hE rfl rfl fun a hE => WL.nil ?_
   subst hK76
   exact ⟨(Fishref2SearchFault x5 x1 x3 x4 true true), hq71, hE.pick _ ⟨rfl, rfl, rfl, rfl, rfl, rfl, rfl, rfl, rfl, rfl, trivial⟩, hS⟩
  replace hq71 := iteF hc77 hq71
  refine W.skip ?_
  subst hK76
  exact ⟨q68, hq71, hE.pick _ ⟨rfl, rfl, rfl, rfl, rfl, rfl, rfl, rfl, rfl, rfl, trivial⟩, hS⟩
 clear hE hS a w; rintro a w ⟨q75, rfl, hE, hS⟩
 refine W.seq ?_
 refine W.seq (W.region (v2 hS hE rfl rfl rfl rfl fun a hE => WL.nil ?_))
 obtain ⟨q79, hq78, hr⟩ := bindS hr
 refine W.cut (fun a w => ∃ (q82 : Int), q82 = q79 ∧ Rep a 88 [(1, vi x1), (2, vi x2), (3, vi x3), (4, vi x4), (5, vi x5), (6, .slice a6 x6.length c6), (7, pp b51), (15, pp b61), (16, vi q52.2), (17, vi q82)] ∧ St w s56 (pc b61 #[.slice a58 q52.1.Rides.length c59] 29 :: pc b51 #[.slice a0_0 x0.Trains.length c0_0, .slice a0_1 x0.Turns.length c0_1] 25 :: R)) ?_ ?_
 ·refine W.gen fun K83 hK83 => ?_
  refine W.cond hE rfl (fun hc84 => ?_) (fun hc84 => ?_)
  ·replace hq78 := iteT hc84 hq78
   refine W.region ?_
   refine vP hS hE (Gives.loadBA hE 1 rfl rfl ty25) rfl fun a hE => ?_
   refine vp hS hE rfl rfl fun a hE => ?_
   obtain ⟨q85, hq86, hq78⟩ := bindS hq78
   have hc_ := Fishref2OddsFault_ok hS h0_0 h0_1 h6 hq86
   refine WL.fnq hE (hc_) (runs_plain rfl) bd10 rfl rfl rfl ?_
   clear hE hS hc_; rintro e w ⟨rfl, hS⟩; refine ⟨_, rfl, ?_⟩; clear a; intro a hE
   refine vp hS hE rfl rfl fun a hE => WL.nil ?_
   subst hK83
   exact ⟨q85, Option.some.inj hq78, hE.pick _ ⟨rfl, rfl, rfl, rfl, rfl, rfl, rfl, rfl, rfl, rfl, trivial⟩, hS⟩
  replace hq78 := iteF hc84 hq78
  refine W.skip ?_
  subst hK83
  exact ⟨q75, Option.some.inj hq78, hE.pick _ ⟨rfl, rfl, rfl, rfl, rfl, rfl, rfl, rfl, rfl, rfl, trivial⟩, hS⟩
 clear hE hS a w; rintro a w ⟨q82, rfl, hE, hS⟩
 refine W.seq ?_
 refine W.seq (W.region (v2 hS hE rfl rfl rfl rfl fun a hE => WL.nil ?_))
 refine W.cond hE rfl (fun hc87 => ?_) (fun hc87 => ?_)
 ·replace hr := iteT hc87 hr
  refine W.seq ?_
  obtain ⟨q89, hq88, hr⟩ := bindS hr
  refine W.cut (fun a w => ∃ (q92 : Bool), q92 = q89 ∧ Rep a 88 [(14, .bool q92)] ∧ St w s56 (pc b61 #[.slice a58 q52.1.Rides.length c59] 29 :: pc b51 #[.slice a0_0 x0.Trains.length c0_0, .slice a0_1 x0.Turns.length c0_1] 25 :: R)) ?_ ?_
  ·refine W.gen fun K93 hK93 => ?_
   refine W.region ?_
   obtain ⟨q94, hq95, hq88⟩ := bindS hq88
   have hc_ := Fishlaw2guides_ok hS (TabS.mono hle57 hTab) hq95
   refine WL.fnq hE (hc_) (runs_plain rfl) bd11 rfl rfl rfl ?_
   clear hE hS hc_; rintro e w ⟨rfl, hS⟩; refine ⟨_, rfl, ?_⟩; clear a; intro a hE
   refine vp hS hE rfl rfl fun a hE => ?_
   rcases Bool.eq_false_or_eq_true q94 with hg96 | hg96
   ·replace hq88 := iteT hg96 hq88
    refine WL.vS hS hE (runs_if hE rfl rfl rfl hg96) (Gives.p hE rfl) rfl fun a hE => ?_
    refine WL.vS hS hE (runs_if hE rfl rfl rfl hg96) (Gives.p hE rfl) rfl fun a hE => ?_
    refine WL.vS hS hE (runs_if hE rfl rfl rfl hg96) (Gives.p hE rfl) rfl fun a hE => ?_
    refine vP hS hE (Gives.pickT hE rfl hg96 rfl) rfl fun a hE => ?_
    refine vp hS hE rfl rfl fun a hE => ?_
    rcases Bool.eq_false_or_eq_true (q52.2 == q82) with hg97 | hg97
    ·replace hq88 := iteT hg97 hq88
     refine WL.vS hS hE (runs_if hE rfl rfl rfl hg97) (Gives.fld hE rfl fl29_0) rfl fun a hE => ?_
     refine WL.vS hS hE (runs_if hE rfl rfl rfl hg97) (Gives.loadB hE 0 rfl rfl rfl ty27) rfl fun a hE => ?_
     refine WL.vS hS hE (runs_if hE rfl rfl rfl hg97) (Gives.len hE rfl sl27) rfl fun a hE => ?_
     refine WL.vS hS hE (runs_if hE rfl rfl rfl hg97) (Gives.p hE rfl) rfl fun a hE => ?_
     refine vP hS hE (Gives.pickT hE rfl hg97 rfl) rfl fun a hE => ?_
     refine vp hS hE rfl rfl fun a hE => WL.nil ?_
     subst hK93
     exact ⟨(((q52.1.Rides).length : Int) == 0), Option.some.inj hq88, hE.pick _ ⟨rfl, trivial⟩, hS⟩
    replace hq88 := iteF hg97 hq88
    refine nO hE rfl rfl rfl (by rw [hg97]; decide) rfl fun a hE => ?_
    refine nO hE rfl rfl rfl (by rw [hg97]; decide) rfl fun a hE => ?_
    refine nO hE rfl rfl rfl (by rw [hg97]; decide) rfl fun a hE => ?_
    refine nO hE rfl rfl rfl (by rw [hg97]; decide) rfl fun a hE => ?_
    refine vP hS hE (Gives.pickF hE rfl hg97 rfl) rfl fun a hE => ?_
    refine vp hS hE rfl rfl fun a hE => WL.nil ?_
    subst hK93
    exact ⟨false, Option.some.inj hq88, hE.pick _ ⟨rfl, trivial⟩, hS⟩
   replace hq88 := iteF hg96 hq88
   refine nO hE rfl rfl rfl (by rw [hg96]; decide) rfl fun a hE => ?_
   refine nO hE rfl rfl rfl (by rw [hg96]; decide) rfl fun a hE => ?_
   refine nO hE rfl rfl rfl (by rw [hg96]; decide) rfl fun a hE => ?_
   refine vP hS hE (Gives.pickF hE rfl hg96 rfl) rfl fun a hE => ?_
   refine vp hS hE rfl rfl fun a hE => ?_
   refine nO hE rfl rfl rfl (by decide) rfl fun a hE => ?_
   refine nO hE rfl rfl rfl (by decide) rfl fun a hE => ?_
   refine nO hE rfl rfl rfl (by decide) rfl fun a hE => ?_
   refine nO hE rfl rfl rfl (by decide) rfl fun a hE => ?_
   refine vP hS hE (Gives.pickF hE rfl rfl rfl) rfl fun a hE => ?_
   refine vp hS hE rfl rfl fun a hE => WL.nil ?_
   subst hK93
   exact ⟨false, Option.some.inj hq88, hE.pick _ ⟨rfl, trivial⟩, hS⟩
  clear hE hS a w; rintro a w ⟨q92, rfl, hE, hS⟩
  refine W.ret ?_
  refine finG (fn := Tryz.f3) (rs := [.tmp 14]) (vs := [_]) hE rfl ⟨rfl, trivial⟩ ?_
  obtain rfl := Option.some.inj hr
  replace hS := hS.tail
  replace hS := hS.tail
  exact ⟨rfl, (hS.down hle57)⟩
 replace hr := iteF hc87 hr
 refine W.skip ?_
 refine W.seq (W.region (vP hS hE (Gives.loadBA hE 1 rfl rfl ty25) rfl fun a hE => ?_))
 refine v2 hS hE rfl rfl rfl rfl fun a hE => ?_
 refine v2 hS hE rfl rfl rfl rfl fun a hE => ?_
 refine v2 hS hE rfl rfl rfl rfl fun a hE => ?_
 obtain ⟨q98, hq99, hr⟩ := bindS hr
 have hc_ := Fishref2SurestOf_ok hS h0_0 h0_1 h6 hq99
 refine WL.fnq hE (hc_) (runs_plain rfl) bd12 rfl rfl rfl ?_
 clear hE hS hc_; rintro e w ⟨cs100, s102, rfl, hle103, h101, hS⟩; refine ⟨_, rfl, ?_⟩; clear a; intro a hE
 replace h6 := Sl.mono RGuideOdds.mono hle103 h6
 replace h0_0 := Sl.mono RApiTrain.mono hle103 h0_0
 replace h0_1 := Sl.mono (RL.mono RI.mono) hle103 h0_1
 replace h60 := Sl.mono RGuideRide.mono hle103 h60
 obtain ⟨a104, c105, rfl, h106⟩ := h101
 refine v2 hS hE rfl rfl rfl rfl fun a hE => ?_
 refine vp hS hE rfl rfl fun a hE => ?_
 refine WL.alloc hE hS (runs_plain rfl) zr29 rfl ?_; clear hE hS a w; intro b107 a w hE hS
 refine WL.storeI hE hS 0 rfl [.slice a104 q98.1.Rides.length c105] (runs_plain rfl) rfl rfl rfl ty29 rfl rfl rfl rfl ?_; clear hE hS a w; intro a w hE hS
 refine vp hS hE rfl rfl fun a hE => WL.nil ?_
 refine W.seq ?_
 obtain ⟨q109, hq108, hr⟩ := bindS hr
 refine W.cut (fun a w => ∃ (q112 : Bool), q112 = q109 ∧ Rep a 88 [(14, .bool q112)] ∧ St w s102 (pc b107 #[.slice a104 q98.1.Rides.length c105] 29 :: pc b61 #[.slice a58 q52.1.Rides.length c59] 29 :: pc b51 #[.slice a0_0 x0.Trains.length c0_0, .slice a0_1 x0.Turns.length c0_1] 25 :: R)) ?_ ?_
 ·refine W.gen fun K113 hK113 => ?_
  refine W.region ?_
  obtain ⟨q114, hq115, hq108⟩ := bindS hq108
  have hc_ := Fishlaw2guides_ok hS (TabS.mono (Sg.Le.trans hle57 hle103) hTab) hq115
  refine WL.fnq hE (hc_) (runs_plain rfl) bd11 rfl rfl rfl ?_
  clear hE hS hc_; rintro e w ⟨rfl, hS⟩; refine ⟨_, rfl, ?_⟩; clear a; intro a hE
  refine vp hS hE rfl rfl fun a hE => ?_
  rcases Bool.eq_false_or_eq_true q114 with hg116 | hg116
  ·replace hq108 := iteT hg116 hq108
   refine WL.vS hS hE (runs_if hE rfl rfl rfl hg116) (Gives.p hE rfl) rfl fun a hE => ?_
   refine WL.vS hS hE (runs_if hE rfl rfl rfl hg116) (Gives.p hE rfl) rfl fun a hE => ?_
   refine WL.vS hS hE (runs_if hE rfl rfl rfl hg116) (Gives.p hE rfl) rfl fun a hE => ?_
   refine vP hS hE (Gives.pickT hE rfl hg116 rfl) rfl fun a hE => ?_
   refine vp hS hE rfl rfl fun a hE => ?_
   rcases Bool.eq_false_or_eq_true (q52.2 == q98.2) with hg117 | hg117
   ·replace hq108 := iteT hg117 hq108
    refine WL.vS hS hE (runs_if hE rfl rfl rfl hg117) (Gives.loadBA hE 1 rfl rfl ty29) rfl fun a hE => ?_
    refine WL.vS hS hE (runs_if hE rfl rfl rfl hg117) (Gives.loadBA hE 0 rfl rfl ty29) rfl fun a hE => ?_
    obtain ⟨q118, hq119, hq108⟩ := bindS hq108
    have hc_ := Fishlaw2sameJourney_ok hS h60 h106 hq119
    refine WL.fnq hE (hc_) (runs_if hE rfl rfl rfl hg117) bd13 rfl rfl rfl ?_
    clear hE hS hc_; rintro e w ⟨rfl, hS⟩; refine ⟨_, rfl, ?_⟩; clear a; intro a hE
    refine vP hS hE (Gives.pickT hE rfl hg117 rfl) rfl fun a hE => ?_
    refine vp hS hE rfl rfl fun a hE => WL.nil ?_
    subst hK113
    exact ⟨q118, Option.some.inj hq108, hE.pick _ ⟨rfl, trivial⟩, hS⟩
   replace hq108 := iteF hg117 hq108
   refine nO hE rfl rfl rfl (by rw [hg117]; decide) rfl fun a hE => ?_
   refine nO hE rfl rfl rfl (by rw [hg117]; decide) rfl fun a hE => ?_
   refine nO hE rfl rfl rfl (by rw [hg117]; decide) rfl fun a hE => ?_
   refine vP hS hE (Gives.pickF hE rfl hg117 rfl) rfl fun a hE => ?_
   refine vp hS hE rfl rfl fun a hE => WL.nil ?_
   subst hK113
   exact ⟨false, Option.some.inj hq108, hE.pick _ ⟨rfl, trivial⟩, hS⟩
  replace hq108 := iteF hg116 hq108
  refine nO hE rfl rfl rfl (by rw [hg116]; decide) rfl fun a hE => ?_
  refine nO hE rfl rfl rfl (by rw [hg116]; decide) rfl fun a hE => ?_
  refine nO hE rfl rfl rfl (by rw [hg116]; decide) rfl fun a hE => ?_
  refine vP hS hE (Gives.pickF hE rfl hg116 rfl) rfl fun a hE => ?_
  refine vp hS hE rfl rfl fun a hE => ?_
  refine nO hE rfl rfl rfl (by decide) rfl fun a hE => ?_
  refine nO hE rfl rfl rfl (by decide) rfl fun a hE => ?_
  refine nO hE rfl rfl rfl (by decide) rfl fun a hE => ?_
  refine vP hS hE (Gives.pickF hE rfl rfl rfl) rfl fun a hE => ?_
  refine vp hS hE rfl rfl fun a hE => WL.nil ?_
  subst hK113
  exact ⟨false, Option.some.inj hq108, hE.pick _ ⟨rfl, trivial⟩, hS⟩
 clear hE hS a w; rintro a w ⟨q112, rfl, hE, hS⟩
 refine W.ret ?_
 refine finG (fn := Tryz.f3) (rs := [.tmp 14]) (vs := [_]) hE rfl ⟨rfl, trivial⟩ ?_
 obtain rfl := Option.some.inj hr
 replace hS := hS.tail
 replace hS := hS.tail
 replace hS := hS.tail
 exact ⟨rfl, (hS.down (Sg.Le.trans hle57 hle103))⟩
end Go.Proofs.YtpcebngchmgckaaGreatDoor
