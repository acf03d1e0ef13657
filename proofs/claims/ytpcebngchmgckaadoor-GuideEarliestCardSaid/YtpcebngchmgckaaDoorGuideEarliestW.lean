/- The walks of the functions that GuideEarliest reaches: each call comes to what its mirror says. The conditions are those of each contract. -/
import Derived.Test.YtpcebngchmgckaaDoorProg
import Derived.Test.YtpcebngchmgckaaDoorGuideEarliestM
import Derived.Test.YtpcebngchmgckaaDoorFpAllX
import Derived.Test.YtpcebngchmgckaaDoorGuideEarliestS
import Derived.Test.YtpcebngchmgckaaDoorFpMapS
import Derived.Test.YtpcebngchmgckaaDoorFpFld
import Derived.Test.YtpcebngchmgckaaDoorFpMapG
import Derived.Test.YtpcebngchmgckaaDoorFpMapV
import Derived.Test.YtpcebngchmgckaaDoorFpMaps
import Derived.Test.YtpcebngchmgckaaDoorFpOrd
import Derived.Test.YtpcebngchmgckaaDoorFpRf
import Derived.Test.YtpcebngchmgckaaDoorFpRng
import Derived.Test.YtpcebngchmgckaaDoorGuideEarliestW3
set_option maxRecDepth 10000
namespace Go.Proofs.YtpcebngchmgckaaDoor
open Go Go.Fp
set_option maxHeartbeats 8000000 in
theorem Fishref2Choose_v1_ok  {w : World} {s : Sg} {R : List HP} {pb0 : Nat} {x0 : List GuideJourney} {a0 : Option Addr} {c0 : Nat} {y0 : ApiDay} {a_y0_0 : Option Addr} {c_y0_0 : Nat} {a_y0_1 : Option Addr} {c_y0_1 : Nat} (hS : St w s (pt pb0 (.cells #[.slice a_y0_0 y0.Trains.length c_y0_0, .slice a_y0_1 y0.Turns.length c_y0_1] 25 (0, 0)) :: R)) (h0 : Sl 1 RGuideJourney s a0 c0 x0) (h_y0_0 : Sl 4 RApiTrain s a_y0_0 c_y0_0 y0.Trains) (h_y0_1 : Sl 1 (RL 1 (RI .i64)) s a_y0_1 c_y0_1 y0.Turns) {r : GuideJourney × Bool} (hr : Fishref2Choose_v1 x0 y0 = some r) :
  Calls Tryd.prog 61 [.slice a0 x0.length c0, .func (.func 62) #[] #[.pointer (some ⟨pb0, 0, none⟩)]].toArray w (fun e w => ∃ (cs0 : List Value) (t : Sg), e = .returned (.tuple #[.agg cs0.toArray, .bool r.2]) ∧ s.Le t ∧ RGuideJourney t cs0 r.1 ∧ St w t (pt pb0 (.cells #[.slice a_y0_0 y0.Trains.length c_y0_0, .slice a_y0_1 y0.Turns.length c_y0_1] 25 (0, 0)) :: R)) := by
 refine enter Tryd.func61 rfl rfl rfl fun a hE => ?_
 rw [Fishref2Choose_v1] at hr
 refine W.seq (W.region ?_)
 refine WL.alloc hE hS (runs_plain rfl) zr28 rfl ?_; clear hE hS a w; intro b51 a w hE hS
 refine vP hS hE (Gives.p hE rfl) rfl ?_; clear hE a; intro a hE
 refine WL.nil ?_
 refine W.seq (W.region ?_)
 refine WL.alloc hE hS (runs_plain rfl) zr28 rfl ?_; clear hE hS a w; intro b52 a w hE hS
 refine WL.nil ?_
 refine W.seq (W.region ?_)
 refine vP hS hE (Gives.p hE rfl) rfl ?_; clear hE a; intro a hE
 refine WL.nil ?_
 refine W.seq ?_
 refine W.seq (W.region ?_)
 refine vP hS hE (Gives.p hE rfl) rfl ?_; clear hE a; intro a hE
 refine vP hS hE (Gives.len hE rfl sl39) rfl ?_; clear hE a; intro a hE
 refine vP hS hE (Gives.p hE rfl) rfl ?_; clear hE a; intro a hE
 refine WL.nil ?_
 obtain ⟨q54, hq53, hr⟩ := bindS hr
 refine W.cut (fun a w => ∃ (q64 : List Int), ∃ (q69 : List GuideRide), ∃ (a65 : Option Addr), ∃ (c66 : Nat), ∃ (a70 : Option Addr), ∃ (c71 : Nat), ∃ (s62 : Sg), s.Le s62 ∧ (q64, q69) = q54 ∧ Sl 1 (RI .i64) s62 a65 c66 q64 ∧ (q64 = [] → a65 = none) ∧ Sl 3 RGuideRide s62 a70 c71 q69 ∧ Rep a 34 [(4, .pointer (some ⟨b51, 0, none⟩)), (6, .pointer (some ⟨b52, 0, none⟩)), (7, .slice a65 q64.length c66)] ∧ St w s62 (pt b52 (.cells #[.slice a70 q69.length c71] 28 (0, 0)) :: pt b51 (.cells #[.slice none 0 0] 28 (0, 0)) :: pt pb0 (.cells #[.slice a_y0_0 y0.Trains.length c_y0_0, .slice a_y0_1 y0.Turns.length c_y0_1] 25 (0, 0)) :: R)) ?_ ?_
 ·refine W.block ?_
  refine W.loop (fun m a w => ∃ (rest57 : List GuideJourney) (k55 : Nat), ∃ (q64 : List Int), ∃ (q69 : List GuideRide), ∃ (a65 : Option Addr), ∃ (c66 : Nat), ∃ (a70 : Option Addr), ∃ (c71 : Nat), ∃ (s62 : Sg), rest57.length = m ∧ x0.drop k55 = rest57 ∧ s.Le s62 ∧ Fishref2Choose_v1.loop1 y0 rest57 q64 q69 = some q54 ∧ Sl 1 (RI .i64) s62 a65 c66 q64 ∧ (q64 = [] → a65 = none) ∧ Sl 3 RGuideRide s62 a70 c71 q69 ∧ Rep a 34 [(1, .func (.func 62) #[] #[.pointer (some ⟨pb0, 0, none⟩)]), (4, .pointer (some ⟨b51, 0, none⟩)), (6, .pointer (some ⟨b52, 0, none⟩)), (7, .slice a65 q64.length c66), (11, .slice a0 x0.length c0), (12, .int .i64 ((x0).length : Int)), (13, .int .i64 ((k55 : Nat) : Int))] ∧ St w s62 (pt b52 (.cells #[.slice a70 q69.length c71] 28 (0, 0)) :: pt b51 (.cells #[.slice none 0 0] 28 (0, 0)) :: pt pb0 (.cells #[.slice a_y0_0 y0.Trains.length c_y0_0, .slice a_y0_1 y0.Turns.length c_y0_1] 25 (0, 0)) :: R)) (m := x0.length) ⟨x0, 0, [], [], none, 0, none, 0, s, rfl, rfl, (Sg.Le.refl _), hq53, Sl.nil, (fun _ => rfl), Sl.nil, hE.pick _ ⟨rfl, rfl, rfl, rfl, rfl, rfl, rfl, trivial⟩, hS⟩ ?_
  clear hE hS a w hq53; rintro m61 a w ⟨rest57, k55, q64, q69, a65, c66, a70, c71, s62, rfl, hd58, hle63, hq53, h67, hz68, h72, hE, hS⟩
  refine W.gen fun K73 hK73 => ?_
  replace h0 := Sl.mono RGuideJourney.mono hle63 h0
  replace h_y0_0 := Sl.mono RApiTrain.mono hle63 h_y0_0
  replace h_y0_1 := Sl.mono (RL.mono RI.mono) hle63 h_y0_1
  rcases rest57 with _ | ⟨x56, rest57⟩
  ·have hlt59 := drop_nil hd58
   refine W.seq (W.region ?_)
   refine vP hS hE (Gives.p hE rfl) rfl ?_; clear hE a; intro a hE
   refine WL.nil ?_
   refine W.seq ?_
   refine W.condF hE rfl (decide_eq_false (by omega)) ?_
   subst hK73
   refine W.exit rfl ?_
   exact ⟨q64, q69, a65, c66, a70, c71, s62, hle63, Option.some.inj hq53, h67, hz68, h72, hE.pick _ ⟨rfl, rfl, rfl, trivial⟩, hS⟩
  ·obtain ⟨hlt59, hx60, hd58⟩ := drop_cons hd58
   rw [Fishref2Choose_v1.loop1] at hq53
   refine W.seq (W.region ?_)
   refine vP hS hE (Gives.p hE rfl) rfl ?_; clear hE a; intro a hE
   refine WL.nil ?_
   refine W.seq ?_
   refine W.condT hE rfl (decide_eq_true (by omega)) ?_
   refine W.skip ?_
   refine W.seq ?_
   refine W.block ?_
   refine W.seq (W.region ?_)
   obtain ⟨cs74, hl75, hR76, hat77⟩ := h0.at hx60
   obtain ⟨a78, c79, rfl, h80⟩ := hR76
   refine vP hS hE (Gives.idx hE k55 rfl rfl sl39 rfl hlt59 (h0.aok hlt59)) rfl ?_; clear hE a; intro a hE
   refine vP hS hE (Gives.loadA hE rfl (fun w h => hat77 w _ h) ty28) rfl ?_; clear hE a; intro a hE
   refine WL.alloc hE hS (runs_plain rfl) zr28 rfl ?_; clear hE hS a w; intro b81 a w hE hS
   refine WL.storeI hE hS 0 rfl [.slice a78 x56.Rides.length c79] (runs_plain rfl) rfl rfl rfl ty28 rfl rfl rfl rfl ?_; clear hE hS a w; intro a w hE hS
   refine WL.nil ?_
   refine W.seq (W.region ?_)
   refine vP hS hE (Gives.p hE rfl) rfl ?_; clear hE a; intro a hE
   refine vP hS hE (Gives.loadBA hE 0 rfl rfl ty28) rfl ?_; clear hE a; intro a hE
   obtain ⟨q82, hq83, hq53⟩ := bindS hq53
   replace hS := hS.front 3 rfl
   have hc_ := Fishref2EarliestOf_1_v1_ok (y0 := y0) hS h80 h_y0_0 h_y0_1 hq83
   refine WL.fnw hE (hc_) rfl (runs_plain rfl) bd62 rfl rfl rfl ?_
   clear hE hS hc_; rintro e w ⟨a84, c85, s87, rfl, hle88, h86, hS⟩; refine ⟨_, rfl, ?_⟩; clear a; intro a hE
   replace h67 := Sl.mono RI.mono hle88 h67
   replace h0 := Sl.mono RGuideJourney.mono hle88 h0
   replace h80 := Sl.mono RGuideRide.mono hle88 h80
   replace h_y0_0 := Sl.mono RApiTrain.mono hle88 h_y0_0
   replace h_y0_1 := Sl.mono (RL.mono RI.mono) hle88 h_y0_1
   replace h72 := Sl.mono RGuideRide.mono hle88 h72
   obtain ⟨_, hx89, hq53⟩ := bindS hq53
   refine vP hS hE (Gives.p hE rfl) rfl ?_; clear hE a; intro a hE
   refine WL.nil ?_
   refine W.seq ?_
   obtain ⟨q91, hq90, hq53⟩ := bindS hq53
   refine W.cut (fun a w => ∃ (q94 : Bool), q94 = q91 ∧ Rep a 34 [(1, .func (.func 62) #[] #[.pointer (some ⟨pb0, 0, none⟩)]), (4, .pointer (some ⟨b51, 0, none⟩)), (6, .pointer (some ⟨b52, 0, none⟩)), (7, .slice a65 q64.length c66), (9, .pointer (some ⟨b81, 0, none⟩)), (10, .slice a84 q82.length c85), (11, .slice a0 x0.length c0), (12, .int .i64 ((x0).length : Int)), (13, .int .i64 ((k55 : Nat) : Int)), (27, .bool q94)] ∧ St w s87 (pt pb0 (.cells #[.slice a_y0_0 y0.Trains.length c_y0_0, .slice a_y0_1 y0.Turns.length c_y0_1] 25 (0, 0)) :: pt b81 (.cells #[.slice a78 x56.Rides.length c79] 28 (0, 0)) :: pt b52 (.cells #[.slice a70 q69.length c71] 28 (0, 0)) :: pt b51 (.cells #[.slice none 0 0] 28 (0, 0)) :: R)) ?_ ?_
   ·refine W.gen fun K95 hK95 => ?_
    refine W.region ?_
    refine vP hS hE (Gives.p hE rfl) rfl ?_; clear hE a; intro a hE
    refine vP hS hE (Gives.isNilZ hE (isNone_eq h67 hz68) rfl rfl isl45) rfl ?_; clear hE a; intro a hE
    refine vP hS hE (Gives.p hE rfl) rfl ?_; clear hE a; intro a hE
    rcases Bool.eq_false_or_eq_true q64.isEmpty with hg96 | hg96
    ·replace hq90 := iteT hg96 hq90
     refine WL.no hE (runs_not hE rfl rfl rfl (by rw [hg96]; decide)) rfl ?_; clear hE a; intro a hE
     refine WL.no hE (runs_not hE rfl rfl rfl (by rw [hg96]; decide)) rfl ?_; clear hE a; intro a hE
     refine WL.no hE (runs_not hE rfl rfl rfl (by rw [hg96]; decide)) rfl ?_; clear hE a; intro a hE
     refine WL.no hE (runs_not hE rfl rfl rfl (by rw [hg96]; decide)) rfl ?_; clear hE a; intro a hE
     refine vP hS hE (Gives.pickT hE rfl hg96 rfl) rfl ?_; clear hE a; intro a hE
     refine WL.nil ?_
     subst hK95
     exact ⟨true, Option.some.inj hq90, hE.pick _ ⟨rfl, rfl, rfl, rfl, rfl, rfl, rfl, rfl, rfl, rfl, trivial⟩, hS⟩
    ·replace hq90 := iteF hg96 hq90
     refine WL.vS hS hE (runs_if hE rfl rfl rfl hg96) (Gives.p hE rfl) rfl ?_; clear hE a; intro a hE
     refine WL.vS hS hE (runs_if hE rfl rfl rfl hg96) (Gives.p hE rfl) rfl ?_; clear hE a; intro a hE
     obtain ⟨q97, hq98, hq90⟩ := bindS hq90
     have hc_ := SlicesCompareLint_ok hS h86 h67 hq98
     refine WL.fnq hE (hc_) (runs_if hE rfl rfl rfl hg96) bd82 rfl rfl rfl ?_
     clear hE hS hc_; rintro e w ⟨rfl, hS⟩; refine ⟨_, rfl, ?_⟩; clear a; intro a hE
     refine WL.vS hS hE (runs_if hE rfl rfl rfl hg96) (Gives.p hE rfl) rfl ?_; clear hE a; intro a hE
     refine vP hS hE (Gives.pickF hE rfl hg96 rfl) rfl ?_; clear hE a; intro a hE
     refine WL.nil ?_
     subst hK95
     exact ⟨decide (q97 < 0), Option.some.inj hq90, hE.pick _ ⟨rfl, rfl, rfl, rfl, rfl, rfl, rfl, rfl, rfl, rfl, trivial⟩, hS⟩
   ·clear hE hS a w; rintro a w ⟨q94, rfl, hE, hS⟩
    obtain ⟨q100, hq99, hq53⟩ := bndS hq53
    refine W.cut (fun a w => ∃ (q103 : List Int), ∃ (q108 : List GuideRide), ∃ (a104 : Option Addr), ∃ (c105 : Nat), ∃ (a109 : Option Addr), ∃ (c110 : Nat), (q103, q108) = q100 ∧ Sl 1 (RI .i64) s87 a104 c105 q103 ∧ (q103 = [] → a104 = none) ∧ Sl 3 RGuideRide s87 a109 c110 q108 ∧ Rep a 34 [(1, .func (.func 62) #[] #[.pointer (some ⟨pb0, 0, none⟩)]), (4, .pointer (some ⟨b51, 0, none⟩)), (6, .pointer (some ⟨b52, 0, none⟩)), (7, .slice a104 q103.length c105), (11, .slice a0 x0.length c0), (12, .int .i64 ((x0).length : Int)), (13, .int .i64 ((k55 : Nat) : Int))] ∧ St w s87 (pt pb0 (.cells #[.slice a_y0_0 y0.Trains.length c_y0_0, .slice a_y0_1 y0.Turns.length c_y0_1] 25 (0, 0)) :: pt b81 (.cells #[.slice a78 x56.Rides.length c79] 28 (0, 0)) :: pt b52 (.cells #[.slice a109 q108.length c110] 28 (0, 0)) :: pt b51 (.cells #[.slice none 0 0] 28 (0, 0)) :: R)) ?_ ?_
    ·refine W.gen fun K112 hK112 => ?_
     refine W.cond hE rfl (fun hc113 => ?_) (fun hc113 => ?_)
     ·replace hq99 := iteT hc113 hq99
      refine W.region ?_
      refine vP hS hE (Gives.loadBA hE 1 rfl rfl ty28) rfl ?_; clear hE a; intro a hE
      refine vP hS hE (Gives.p hE rfl) rfl ?_; clear hE a; intro a hE
      refine WL.storeI hE hS 2 rfl [.slice a78 x56.Rides.length c79] (runs_plain rfl) rfl rfl rfl ty28 rfl rfl rfl rfl ?_; clear hE hS a w; intro a w hE hS
      refine vP hS hE (Gives.p hE rfl) rfl ?_; clear hE a; intro a hE
      refine WL.nil ?_
      subst hK112
      exact ⟨q82, x56.Rides, a84, c85, a78, c79, hq99, h86, (nz_some hx89), h80, hE.pick _ ⟨rfl, rfl, rfl, rfl, rfl, rfl, rfl, trivial⟩, hS⟩
     ·replace hq99 := iteF hc113 hq99
      refine W.skip ?_
      subst hK112
      exact ⟨q64, q69, a65, c66, a70, c71, hq99, h67, hz68, h72, hE.pick _ ⟨rfl, rfl, rfl, rfl, rfl, rfl, rfl, trivial⟩, hS⟩
    ·clear hE hS a w; rintro a w ⟨q103, q108, a104, c105, a109, c110, rfl, h106, hz107, h111, hE, hS⟩
     dsimp only at hq53
     refine W.region ?_
     refine vP hS hE (Gives.inc hE rfl (by have := h0.small; omega)) rfl ?_; clear hE a; intro a hE
     refine vP hS hE (Gives.p hE rfl) rfl ?_; clear hE a; intro a hE
     refine WL.nil ?_
     replace hS := hS.dropAt 1
     replace hS := hS.front 2 rfl
     replace hS := hS.front 2 rfl
     subst hK73
     exact ⟨rest57.length, Nat.lt_succ_self _, rest57, k55 + 1, q103, q108, a104, c105, a109, c110, s87, rfl, hd58, (Sg.Le.trans hle63 hle88), hq53, h106, hz107, h111, hE.pick _ ⟨rfl, rfl, rfl, rfl, rfl, rfl, rfl, trivial⟩, hS⟩
 ·clear hE hS a w; rintro a w ⟨q64, q69, a65, c66, a70, c71, s62, hle63, rfl, h67, hz68, h72, hE, hS⟩
  dsimp only at hr
  replace h0 := Sl.mono RGuideJourney.mono hle63 h0
  replace h_y0_0 := Sl.mono RApiTrain.mono hle63 h_y0_0
  replace h_y0_1 := Sl.mono (RL.mono RI.mono) hle63 h_y0_1
  refine W.seq (W.region ?_)
  refine vP hS hE (Gives.loadBA hE 0 rfl rfl ty28) rfl ?_; clear hE a; intro a hE
  refine vP hS hE (Gives.p hE rfl) rfl ?_; clear hE a; intro a hE
  refine vP hS hE (Gives.notNilZ hE (isNone_eq h67 hz68) rfl rfl isl45) rfl ?_; clear hE a; intro a hE
  refine WL.storeI hE hS 1 rfl [.slice a70 q69.length c71] (runs_plain rfl) rfl rfl rfl ty28 rfl rfl rfl rfl ?_; clear hE hS a w; intro a w hE hS
  refine vP hS hE (Gives.p hE rfl) rfl ?_; clear hE a; intro a hE
  refine WL.nil ?_
  refine W.ret ?_
  refine finG (fn := Tryd.f61) (rs := [.cell 4 28, .tmp 5]) (vs := [_, _]) hE rfl ⟨⟨_, rfl, .inl ⟨_, rfl, hS.seesAt 1 rfl, ty28⟩⟩, rfl, trivial⟩ ?_
  obtain rfl := Option.some.inj hr
  replace hS := hS.tail
  replace hS := hS.tail
  exact ⟨_, s62, rfl, hle63, ⟨_, _, rfl, h72⟩, hS⟩
set_option maxHeartbeats 8000000 in
theorem Fishref2Choose_v2_ok  {w : World} {s : Sg} {R : List HP} {pb0 : Nat} {x0 : List GuideJourney} {a_v0 : Option Addr} {c_v0 n_v0 : Nat} {cs_v0 : List Value} {y0 : ApiDay} {a_y0_0 : Option Addr} {c_y0_0 : Nat} {a_y0_1 : Option Addr} {c_y0_1 : Nat} (hS : St w s (pt pb0 (.cells #[.slice a_y0_0 y0.Trains.length c_y0_0, .slice a_y0_1 y0.Turns.length c_y0_1] 25 (0, 0)) :: vecC 28 1 a_v0 c_v0 n_v0 cs_v0 :: R)) (h_v0 : Ev 1 RGuideJourney s cs_v0 x0) (hn_v0 : x0.length = n_v0) (h_y0_0 : Sl 4 RApiTrain s a_y0_0 c_y0_0 y0.Trains) (h_y0_1 : Sl 1 (RL 1 (RI .i64)) s a_y0_1 c_y0_1 y0.Turns) {r : GuideJourney × Bool} (hr : Fishref2Choose_v2 x0 y0 = some r) :
  Calls Tryd.prog 61 [.slice a_v0 n_v0 c_v0, .func (.func 62) #[] #[.pointer (some ⟨pb0, 0, none⟩)]].toArray w (fun e w => ∃ (cs0 : List Value) (t : Sg), e = .returned (.tuple #[.agg cs0.toArray, .bool r.2]) ∧ s.Le t ∧ RGuideJourney t cs0 r.1 ∧ St w t (pt pb0 (.cells #[.slice a_y0_0 y0.Trains.length c_y0_0, .slice a_y0_1 y0.Turns.length c_y0_1] 25 (0, 0)) :: vecC 28 1 a_v0 c_v0 n_v0 cs_v0 :: R)) := by
 refine enter Tryd.func61 rfl rfl rfl fun a hE => ?_
 rw [Fishref2Choose_v2] at hr
 subst hn_v0
 refine W.seq (W.region ?_)
 refine WL.alloc hE hS (runs_plain rfl) zr28 rfl ?_; clear hE hS a w; intro b51 a w hE hS
 refine vP hS hE (Gives.p hE rfl) rfl ?_; clear hE a; intro a hE
 refine WL.nil ?_
 refine W.seq (W.region ?_)
 refine WL.alloc hE hS (runs_plain rfl) zr28 rfl ?_; clear hE hS a w; intro b52 a w hE hS
 refine WL.nil ?_
 refine W.seq (W.region ?_)
 refine vP hS hE (Gives.p hE rfl) rfl ?_; clear hE a; intro a hE
 refine WL.nil ?_
 refine W.seq ?_
 refine W.seq (W.region ?_)
 refine vP hS hE (Gives.p hE rfl) rfl ?_; clear hE a; intro a hE
 refine vP hS hE (Gives.len hE rfl sl39) rfl ?_; clear hE a; intro a hE
 refine vP hS hE (Gives.p hE rfl) rfl ?_; clear hE a; intro a hE
 refine WL.nil ?_
 have hb64 : x0.length ≤ 9223372036854775807 := by have := hS.vecCap 3 rfl; unfold maxLen at this; omega
 obtain ⟨q54, hq53, hr⟩ := bindS hr
 refine W.cut (fun a w => ∃ (q65 : List Int), ∃ (q70 : List GuideRide), ∃ (a66 : Option Addr), ∃ (c67 : Nat), ∃ (a71 : Option Addr), ∃ (c72 : Nat), ∃ (s62 : Sg), s.Le s62 ∧ (q65, q70) = q54 ∧ Sl 1 (RI .i64) s62 a66 c67 q65 ∧ (q65 = [] → a66 = none) ∧ Sl 3 RGuideRide s62 a71 c72 q70 ∧ Rep a 34 [(4, .pointer (some ⟨b51, 0, none⟩)), (6, .pointer (some ⟨b52, 0, none⟩)), (7, .slice a66 q65.length c67)] ∧ St w s62 (pt b52 (.cells #[.slice a71 q70.length c72] 28 (0, 0)) :: pt b51 (.cells #[.slice none 0 0] 28 (0, 0)) :: pt pb0 (.cells #[.slice a_y0_0 y0.Trains.length c_y0_0, .slice a_y0_1 y0.Turns.length c_y0_1] 25 (0, 0)) :: vecC 28 1 a_v0 c_v0 x0.length cs_v0 :: R)) ?_ ?_
 ·refine W.block ?_
  refine W.loop (fun m a w => ∃ (rest57 : Nat) (k55 : Nat), ∃ (q65 : List Int), ∃ (q70 : List GuideRide), ∃ (a66 : Option Addr), ∃ (c67 : Nat), ∃ (a71 : Option Addr), ∃ (c72 : Nat), ∃ (s62 : Sg), rest57 = m ∧ k55 + rest57 = x0.length ∧ s.Le s62 ∧ Fishref2Choose_v2.loop1 x0 y0 rest57 k55 q65 q70 = some q54 ∧ Sl 1 (RI .i64) s62 a66 c67 q65 ∧ (q65 = [] → a66 = none) ∧ Sl 3 RGuideRide s62 a71 c72 q70 ∧ Rep a 34 [(1, .func (.func 62) #[] #[.pointer (some ⟨pb0, 0, none⟩)]), (4, .pointer (some ⟨b51, 0, none⟩)), (6, .pointer (some ⟨b52, 0, none⟩)), (7, .slice a66 q65.length c67), (11, .slice a_v0 x0.length c_v0), (12, .int .i64 ((x0.length : Nat) : Int)), (13, .int .i64 ((k55 : Nat) : Int))] ∧ St w s62 (pt b52 (.cells #[.slice a71 q70.length c72] 28 (0, 0)) :: pt b51 (.cells #[.slice none 0 0] 28 (0, 0)) :: pt pb0 (.cells #[.slice a_y0_0 y0.Trains.length c_y0_0, .slice a_y0_1 y0.Turns.length c_y0_1] 25 (0, 0)) :: vecC 28 1 a_v0 c_v0 x0.length cs_v0 :: R)) (m := x0.length) ⟨x0.length, 0, [], [], none, 0, none, 0, s, rfl, by omega, (Sg.Le.refl _), hq53, Sl.nil, (fun _ => rfl), Sl.nil, hE.pick _ ⟨rfl, rfl, rfl, rfl, rfl, rfl, rfl, trivial⟩, hS⟩ ?_
  clear hE hS a w hq53; rintro m61 a w ⟨rest57, k55, q65, q70, a66, c67, a71, c72, s62, rfl, hd58, hle63, hq53, h68, hz69, h73, hE, hS⟩
  refine W.gen fun K74 hK74 => ?_
  replace h_y0_0 := Sl.mono RApiTrain.mono hle63 h_y0_0
  replace h_y0_1 := Sl.mono (RL.mono RI.mono) hle63 h_y0_1
  replace h_v0 := Ev.mono RGuideJourney.mono hle63 h_v0
  rcases rest57 with _ | rest57
  ·skip
   refine W.seq (W.region ?_)
   refine vP hS hE (Gives.p hE rfl) rfl ?_; clear hE a; intro a hE
   refine WL.nil ?_
   refine W.seq ?_
   refine W.condF hE rfl (decide_eq_false (by omega)) ?_
   subst hK74
   refine W.exit rfl ?_
   exact ⟨q65, q70, a66, c67, a71, c72, s62, hle63, Option.some.inj hq53, h68, hz69, h73, hE.pick _ ⟨rfl, rfl, rfl, trivial⟩, hS⟩
  ·have hlt59 : k55 < x0.length := by omega
   rw [Fishref2Choose_v2.loop1] at hq53
   refine W.seq (W.region ?_)
   refine vP hS hE (Gives.p hE rfl) rfl ?_; clear hE a; intro a hE
   refine WL.nil ?_
   refine W.seq ?_
   refine W.condT hE rfl (decide_eq_true (by omega)) ?_
   refine W.skip ?_
   refine W.seq ?_
   refine W.block ?_
   refine W.seq (W.region ?_)
   obtain ⟨x75, hx76, hq53⟩ := bindS hq53
   obtain ⟨hi77, hlt78, hy79⟩ := gx_some hx76
   obtain ⟨vs80, hl81, hR82, hd83, hget84⟩ := h_v0.at hy79
   obtain ⟨a85, c86, rfl, h87⟩ := hR82
   refine vP hS hE (Gives.idx hE ((((k55 : Nat) : Int)).toNat) rfl rfl sl39 hi77 (by omega) (hS.vecAok 3 rfl (by omega : (((k55 : Nat) : Int)).toNat < x0.length))) rfl ?_; clear hE a; intro a hE
   refine vP hS hE (Gives.loadA hE rfl (fun w h => St.vecSees h 3 rfl ((((k55 : Nat) : Int)).toNat * 1) _ hget84) ty28) rfl ?_; clear hE a; intro a hE
   refine WL.alloc hE hS (runs_plain rfl) zr28 rfl ?_; clear hE hS a w; intro b88 a w hE hS
   refine WL.storeI hE hS 0 rfl [.slice a85 x75.Rides.length c86] (runs_plain rfl) rfl rfl rfl ty28 rfl rfl rfl rfl ?_; clear hE hS a w; intro a w hE hS
   refine WL.nil ?_
   refine W.seq (W.region ?_)
   refine vP hS hE (Gives.p hE rfl) rfl ?_; clear hE a; intro a hE
   refine vP hS hE (Gives.loadBA hE 0 rfl rfl ty28) rfl ?_; clear hE a; intro a hE
   obtain ⟨q89, hq90, hq53⟩ := bindS hq53
   replace hS := hS.front 3 rfl
   have hc_ := Fishref2EarliestOf_1_v1_ok (y0 := y0) hS h87 h_y0_0 h_y0_1 hq90
   refine WL.fnw hE (hc_) rfl (runs_plain rfl) bd62 rfl rfl rfl ?_
   clear hE hS hc_; rintro e w ⟨a91, c92, s94, rfl, hle95, h93, hS⟩; refine ⟨_, rfl, ?_⟩; clear a; intro a hE
   replace h68 := Sl.mono RI.mono hle95 h68
   replace h87 := Sl.mono RGuideRide.mono hle95 h87
   replace h_y0_0 := Sl.mono RApiTrain.mono hle95 h_y0_0
   replace h_y0_1 := Sl.mono (RL.mono RI.mono) hle95 h_y0_1
   replace h73 := Sl.mono RGuideRide.mono hle95 h73
   replace h_v0 := Ev.mono RGuideJourney.mono hle95 h_v0
   obtain ⟨_, hx96, hq53⟩ := bindS hq53
   refine vP hS hE (Gives.p hE rfl) rfl ?_; clear hE a; intro a hE
   refine WL.nil ?_
   refine W.seq ?_
   obtain ⟨q98, hq97, hq53⟩ := bindS hq53
   refine W.cut (fun a w => ∃ (q101 : Bool), q101 = q98 ∧ Rep a 34 [(1, .func (.func 62) #[] #[.pointer (some ⟨pb0, 0, none⟩)]), (4, .pointer (some ⟨b51, 0, none⟩)), (6, .pointer (some ⟨b52, 0, none⟩)), (7, .slice a66 q65.length c67), (9, .pointer (some ⟨b88, 0, none⟩)), (10, .slice a91 q89.length c92), (11, .slice a_v0 x0.length c_v0), (12, .int .i64 ((x0.length : Nat) : Int)), (13, .int .i64 ((k55 : Nat) : Int)), (27, .bool q101)] ∧ St w s94 (pt pb0 (.cells #[.slice a_y0_0 y0.Trains.length c_y0_0, .slice a_y0_1 y0.Turns.length c_y0_1] 25 (0, 0)) :: pt b88 (.cells #[.slice a85 x75.Rides.length c86] 28 (0, 0)) :: pt b52 (.cells #[.slice a71 q70.length c72] 28 (0, 0)) :: pt b51 (.cells #[.slice none 0 0] 28 (0, 0)) :: vecC 28 1 a_v0 c_v0 x0.length cs_v0 :: R)) ?_ ?_
   ·refine W.gen fun K102 hK102 => ?_
    refine W.region ?_
    refine vP hS hE (Gives.p hE rfl) rfl ?_; clear hE a; intro a hE
    refine vP hS hE (Gives.isNilZ hE (isNone_eq h68 hz69) rfl rfl isl45) rfl ?_; clear hE a; intro a hE
    refine vP hS hE (Gives.p hE rfl) rfl ?_; clear hE a; intro a hE
    rcases Bool.eq_false_or_eq_true q65.isEmpty with hg103 | hg103
    ·replace hq97 := iteT hg103 hq97
     refine WL.no hE (runs_not hE rfl rfl rfl (by rw [hg103]; decide)) rfl ?_; clear hE a; intro a hE
     refine WL.no hE (runs_not hE rfl rfl rfl (by rw [hg103]; decide)) rfl ?_; clear hE a; intro a hE
     refine WL.no hE (runs_not hE rfl rfl rfl (by rw [hg103]; decide)) rfl ?_; clear hE a; intro a hE
     refine WL.no hE (runs_not hE rfl rfl rfl (by rw [hg103]; decide)) rfl ?_; clear hE a; intro a hE
     refine vP hS hE (Gives.pickT hE rfl hg103 rfl) rfl ?_; clear hE a; intro a hE
     refine WL.nil ?_
     subst hK102
     exact ⟨true, Option.some.inj hq97, hE.pick _ ⟨rfl, rfl, rfl, rfl, rfl, rfl, rfl, rfl, rfl, rfl, trivial⟩, hS⟩
    ·replace hq97 := iteF hg103 hq97
     refine WL.vS hS hE (runs_if hE rfl rfl rfl hg103) (Gives.p hE rfl) rfl ?_; clear hE a; intro a hE
     refine WL.vS hS hE (runs_if hE rfl rfl rfl hg103) (Gives.p hE rfl) rfl ?_; clear hE a; intro a hE
     obtain ⟨q104, hq105, hq97⟩ := bindS hq97
     have hc_ := SlicesCompareLint_ok hS h93 h68 hq105
     refine WL.fnq hE (hc_) (runs_if hE rfl rfl rfl hg103) bd82 rfl rfl rfl ?_
     clear hE hS hc_; rintro e w ⟨rfl, hS⟩; refine ⟨_, rfl, ?_⟩; clear a; intro a hE
     refine WL.vS hS hE (runs_if hE rfl rfl rfl hg103) (Gives.p hE rfl) rfl ?_; clear hE a; intro a hE
     refine vP hS hE (Gives.pickF hE rfl hg103 rfl) rfl ?_; clear hE a; intro a hE
     refine WL.nil ?_
     subst hK102
     exact ⟨decide (q104 < 0), Option.some.inj hq97, hE.pick _ ⟨rfl, rfl, rfl, rfl, rfl, rfl, rfl, rfl, rfl, rfl, trivial⟩, hS⟩
   ·clear hE hS a w; rintro a w ⟨q101, rfl, hE, hS⟩
    obtain ⟨q107, hq106, hq53⟩ := bndS hq53
    refine W.cut (fun a w => ∃ (q110 : List Int), ∃ (q115 : List GuideRide), ∃ (a111 : Option Addr), ∃ (c112 : Nat), ∃ (a116 : Option Addr), ∃ (c117 : Nat), (q110, q115) = q107 ∧ Sl 1 (RI .i64) s94 a111 c112 q110 ∧ (q110 = [] → a111 = none) ∧ Sl 3 RGuideRide s94 a116 c117 q115 ∧ Rep a 34 [(1, .func (.func 62) #[] #[.pointer (some ⟨pb0, 0, none⟩)]), (4, .pointer (some ⟨b51, 0, none⟩)), (6, .pointer (some ⟨b52, 0, none⟩)), (7, .slice a111 q110.length c112), (11, .slice a_v0 x0.length c_v0), (12, .int .i64 ((x0.length : Nat) : Int)), (13, .int .i64 ((k55 : Nat) : Int))] ∧ St w s94 (pt pb0 (.cells #[.slice a_y0_0 y0.Trains.length c_y0_0, .slice a_y0_1 y0.Turns.length c_y0_1] 25 (0, 0)) :: pt b88 (.cells #[.slice a85 x75.Rides.length c86] 28 (0, 0)) :: pt b52 (.cells #[.slice a116 q115.length c117] 28 (0, 0)) :: pt b51 (.cells #[.slice none 0 0] 28 (0, 0)) :: vecC 28 1 a_v0 c_v0 x0.length cs_v0 :: R)) ?_ ?_
    ·refine W.gen fun K119 hK119 => ?_
     refine W.cond hE rfl (fun hc120 => ?_) (fun hc120 => ?_)
     ·replace hq106 := iteT hc120 hq106
      refine W.region ?_
      refine vP hS hE (Gives.loadBA hE 1 rfl rfl ty28) rfl ?_; clear hE a; intro a hE
      refine vP hS hE (Gives.p hE rfl) rfl ?_; clear hE a; intro a hE
      refine WL.storeI hE hS 2 rfl [.slice a85 x75.Rides.length c86] (runs_plain rfl) rfl rfl rfl ty28 rfl rfl rfl rfl ?_; clear hE hS a w; intro a w hE hS
      refine vP hS hE (Gives.p hE rfl) rfl ?_; clear hE a; intro a hE
      refine WL.nil ?_
      subst hK119
      exact ⟨q89, x75.Rides, a91, c92, a85, c86, hq106, h93, (nz_some hx96), h87, hE.pick _ ⟨rfl, rfl, rfl, rfl, rfl, rfl, rfl, trivial⟩, hS⟩
     ·replace hq106 := iteF hc120 hq106
      refine W.skip ?_
      subst hK119
      exact ⟨q65, q70, a66, c67, a71, c72, hq106, h68, hz69, h73, hE.pick _ ⟨rfl, rfl, rfl, rfl, rfl, rfl, rfl, trivial⟩, hS⟩
    ·clear hE hS a w; rintro a w ⟨q110, q115, a111, c112, a116, c117, rfl, h113, hz114, h118, hE, hS⟩
     dsimp only at hq53
     refine W.region ?_
     refine vP hS hE (Gives.inc hE rfl (by omega)) rfl ?_; clear hE a; intro a hE
     refine vP hS hE (Gives.p hE rfl) rfl ?_; clear hE a; intro a hE
     refine WL.nil ?_
     replace hS := hS.dropAt 1
     replace hS := hS.front 3 rfl
     replace hS := hS.front 1 rfl
     replace hS := hS.front 3 rfl
     replace hS := hS.front 3 rfl
     subst hK74
     exact ⟨rest57, Nat.lt_succ_self _, rest57, k55 + 1, q110, q115, a111, c112, a116, c117, s94, rfl, (by omega), (Sg.Le.trans hle63 hle95), hq53, h113, hz114, h118, hE.pick _ ⟨rfl, rfl, rfl, rfl, rfl, rfl, rfl, trivial⟩, hS⟩
 ·clear hE hS a w; rintro a w ⟨q65, q70, a66, c67, a71, c72, s62, hle63, rfl, h68, hz69, h73, hE, hS⟩
  dsimp only at hr
  replace h_y0_0 := Sl.mono RApiTrain.mono hle63 h_y0_0
  replace h_y0_1 := Sl.mono (RL.mono RI.mono) hle63 h_y0_1
  replace h_v0 := Ev.mono RGuideJourney.mono hle63 h_v0
  refine W.seq (W.region ?_)
  refine vP hS hE (Gives.loadBA hE 0 rfl rfl ty28) rfl ?_; clear hE a; intro a hE
  refine vP hS hE (Gives.p hE rfl) rfl ?_; clear hE a; intro a hE
  refine vP hS hE (Gives.notNilZ hE (isNone_eq h68 hz69) rfl rfl isl45) rfl ?_; clear hE a; intro a hE
  refine WL.storeI hE hS 1 rfl [.slice a71 q70.length c72] (runs_plain rfl) rfl rfl rfl ty28 rfl rfl rfl rfl ?_; clear hE hS a w; intro a w hE hS
  refine vP hS hE (Gives.p hE rfl) rfl ?_; clear hE a; intro a hE
  refine WL.nil ?_
  refine W.ret ?_
  refine finG (fn := Tryd.f61) (rs := [.cell 4 28, .tmp 5]) (vs := [_, _]) hE rfl ⟨⟨_, rfl, .inl ⟨_, rfl, hS.seesAt 1 rfl, ty28⟩⟩, rfl, trivial⟩ ?_
  obtain rfl := Option.some.inj hr
  replace hS := hS.tail
  replace hS := hS.tail
  exact ⟨_, s62, rfl, hle63, ⟨_, _, rfl, h73⟩, hS⟩
set_option maxHeartbeats 8000000 in
theorem Fishref2EarliestOf_ok {fu : Nat}  {w : World} {s : Sg} {R : List HP} {x0 : ApiDay} {a0_0 : Option Addr} {c0_0 : Nat} {a0_1 : Option Addr} {c0_1 : Nat} {x1 : Int} {x2 : Int} {x3 : Int} {x4 : Int} (hS : St w s (R)) (h0_0 : Sl 4 RApiTrain s a0_0 c0_0 x0.Trains) (h0_1 : Sl 1 (RL 1 (RI .i64)) s a0_1 c0_1 x0.Turns) {r : GuideJourney × Int} (hr : Fishref2EarliestOf fu x0 x1 x2 x3 x4 = some r) :
  Calls Tryd.prog 14 [.agg [.slice a0_0 x0.Trains.length c0_0, .slice a0_1 x0.Turns.length c0_1].toArray, .int .i64 x1, .int .i64 x2, .int .i64 x3, .int .i64 x4].toArray w (fun e w => ∃ (cs0 : List Value) (t : Sg), e = .returned (.tuple #[.agg cs0.toArray, .int .i64 r.2]) ∧ s.Le t ∧ RGuideJourney t cs0 r.1 ∧ St w t (R)) := by
 refine enter Tryd.func14 rfl rfl rfl fun a hE => ?_
 rw [Fishref2EarliestOf] at hr
 refine W.seq (W.region ?_)
 refine WL.box hE hS (runs_plain rfl) rfl rfl rfl ?_; clear hE hS a w; intro b51 a w hE hS
 refine WL.alloc hE hS (runs_plain rfl) zr28 rfl ?_; clear hE hS a w; intro b52 a w hE hS
 refine vP hS hE (Gives.p hE rfl) rfl ?_; clear hE a; intro a hE
 refine WL.nil ?_
 refine W.seq ?_
 refine W.seq (W.region ?_)
 refine vP hS hE (Gives.p hE rfl) rfl ?_; clear hE a; intro a hE
 refine vP hS hE (Gives.p hE rfl) rfl ?_; clear hE a; intro a hE
 refine vP hS hE (Gives.p hE rfl) rfl ?_; clear hE a; intro a hE
 refine vP hS hE (Gives.p hE rfl) rfl ?_; clear hE a; intro a hE
 refine WL.fnq hE (Fishref2SearchFault_ok hS  rfl (r := Fishref2SearchFault x4 x1 x3 x2 true true)) (runs_plain rfl) bd22 rfl rfl rfl ?_
 clear hE hS; rintro e w ⟨rfl, hS⟩; refine ⟨_, rfl, ?_⟩; clear a; intro a hE
 refine vP hS hE (Gives.p hE rfl) rfl ?_; clear hE a; intro a hE
 refine WL.nil ?_
 refine W.seq (W.region ?_)
 refine vP hS hE (Gives.p hE rfl) rfl ?_; clear hE a; intro a hE
 refine vP hS hE (Gives.p hE rfl) rfl ?_; clear hE a; intro a hE
 refine WL.nil ?_
 refine W.cond hE rfl (fun hc53 => ?_) (fun hc53 => ?_)
 ·replace hr := iteT hc53 hr
  refine W.seq (W.region ?_)
  refine vP hS hE (Gives.build hE (vs := []) [.slice none 0 0] rfl (by kernel_rfl)) rfl ?_; clear hE a; intro a hE
  refine vP hS hE (Gives.p hE rfl) rfl ?_; clear hE a; intro a hE
  refine WL.storeI hE hS 0 rfl [.slice none 0 0] (runs_plain rfl) rfl rfl rfl ty28 rfl rfl rfl rfl ?_; clear hE hS a w; intro a w hE hS
  refine vP hS hE (Gives.p hE rfl) rfl ?_; clear hE a; intro a hE
  refine WL.nil ?_
  refine W.ret ?_
  refine finG (fn := Tryd.f14) (rs := [.cell 10 28, .tmp 11]) (vs := [_, _]) hE rfl ⟨⟨_, rfl, .inl ⟨_, rfl, hS.seesAt 0 rfl, ty28⟩⟩, rfl, trivial⟩ ?_
  obtain rfl := Option.some.inj hr
  replace hS := hS.tail
  replace hS := hS.tail
  exact ⟨_, s, rfl, (Sg.Le.refl _), ⟨_, _, rfl, Sl.nil⟩, hS⟩
 ·replace hr := iteF hc53 hr
  refine W.skip ?_
  refine W.seq (W.region ?_)
  replace hS := hS.vecNil 28 1
  refine vP hS hE (Gives.p hE rfl) rfl ?_; clear hE a; intro a hE
  refine WL.nil ?_
  refine W.seq ?_
  refine W.seq (W.region ?_)
  refine vP hS hE (Gives.loadBA hE 2 rfl rfl ty25) rfl ?_; clear hE a; intro a hE
  refine vP hS hE (Gives.p hE rfl) rfl ?_; clear hE a; intro a hE
  refine vP hS hE (Gives.p hE rfl) rfl ?_; clear hE a; intro a hE
  refine vP hS hE (Gives.p hE rfl) rfl ?_; clear hE a; intro a hE
  obtain ⟨q55, hq56, hr⟩ := bindS hr
  have hc_ := Fishref2AllOf_ok hS h0_0 h0_1 hq56
  refine WL.fnq hE (hc_) (runs_plain rfl) bd29 rfl rfl rfl ?_
  clear hE hS hc_; rintro e w ⟨a57, c58, n59, cs60, s63, rfl, hle64, h61, rfl, hS⟩; refine ⟨_, rfl, ?_⟩; clear a; intro a hE
  replace h0_0 := Sl.mono RApiTrain.mono hle64 h0_0
  replace h0_1 := Sl.mono (RL.mono RI.mono) hle64 h0_1
  refine vP hS hE (Gives.len hE rfl sl39) rfl ?_; clear hE a; intro a hE
  refine vP hS hE (Gives.p hE rfl) rfl ?_; clear hE a; intro a hE
  refine WL.nil ?_
  have hb76 : q55.length ≤ 9223372036854775807 := by have := hS.vecCap 0 rfl; unfold maxLen at this; omega
  obtain ⟨q66, hq65, hr⟩ := bindS hr
  refine W.cut (fun a w => ∃ (q77 : List GuideJourney), ∃ (a78 : Option Addr), ∃ (c79 : Nat), ∃ (n81 : Nat), ∃ (cs82 : List Value), q77 = q66 ∧ Ev 1 RGuideJourney s63 cs82 q77 ∧ q77.length = n81 ∧ Rep a 57 [(5, .pointer (some ⟨b51, 0, none⟩)), (10, .pointer (some ⟨b52, 0, none⟩)), (13, .slice a78 n81 c79)] ∧ St w s63 (vecC 28 1 a57 c58 q55.length cs60 :: vecC 28 1 a78 c79 n81 cs82 :: pt b52 (.cells #[.slice none 0 0] 28 (0, 0)) :: pt b51 (.cells #[.slice a0_0 x0.Trains.length c0_0, .slice a0_1 x0.Turns.length c0_1] 25 (0, 0)) :: R)) ?_ ?_
  ·refine W.block ?_
   refine W.loop (fun m a w => ∃ (rest69 : Nat) (k67 : Nat), ∃ (q77 : List GuideJourney), ∃ (a78 : Option Addr), ∃ (c79 : Nat), ∃ (n81 : Nat), ∃ (cs82 : List Value), rest69 = m ∧ k67 + rest69 = q55.length ∧ Fishref2EarliestOf.loop1 x0 x2 q55 rest69 k67 q77 = some q66 ∧ Ev 1 RGuideJourney s63 cs82 q77 ∧ q77.length = n81 ∧ Rep a 57 [(2, .int .i64 x2), (5, .pointer (some ⟨b51, 0, none⟩)), (10, .pointer (some ⟨b52, 0, none⟩)), (13, .slice a78 n81 c79), (31, .slice a57 q55.length c58), (32, .int .i64 ((q55.length : Nat) : Int)), (33, .int .i64 ((k67 : Nat) : Int))] ∧ St w s63 (vecC 28 1 a57 c58 q55.length cs60 :: vecC 28 1 a78 c79 n81 cs82 :: pt b52 (.cells #[.slice none 0 0] 28 (0, 0)) :: pt b51 (.cells #[.slice a0_0 x0.Trains.length c0_0, .slice a0_1 x0.Turns.length c0_1] 25 (0, 0)) :: R)) (m := q55.length) ⟨q55.length, 0, [], none, 0, 0, [], rfl, by omega, hq65, (Ev.nil), (rfl), hE.pick _ ⟨rfl, rfl, rfl, rfl, rfl, rfl, rfl, trivial⟩, hS⟩ ?_
   clear hE hS a w hq65; rintro m73 a w ⟨rest69, k67, q77, a78, c79, n81, cs82, rfl, hd70, hq65, h80, rfl, hE, hS⟩
   refine W.gen fun K84 hK84 => ?_
   rcases rest69 with _ | rest69
   ·skip
    refine W.seq (W.region ?_)
    refine vP hS hE (Gives.p hE rfl) rfl ?_; clear hE a; intro a hE
    refine WL.nil ?_
    refine W.seq ?_
    refine W.condF hE rfl (decide_eq_false (by omega)) ?_
    subst hK84
    refine W.exit rfl ?_
    exact ⟨q77, a78, c79, q77.length, cs82, Option.some.inj hq65, h80, rfl, hE.pick _ ⟨rfl, rfl, rfl, trivial⟩, hS⟩
   ·have hlt71 : k67 < q55.length := by omega
    rw [Fishref2EarliestOf.loop1] at hq65
    refine W.seq (W.region ?_)
    refine vP hS hE (Gives.p hE rfl) rfl ?_; clear hE a; intro a hE
    refine WL.nil ?_
    refine W.seq ?_
    refine W.condT hE rfl (decide_eq_true (by omega)) ?_
    refine W.skip ?_
    refine W.seq ?_
    refine W.block ?_
    refine W.seq (W.region ?_)
    obtain ⟨x85, hx86, hq65⟩ := bindS hq65
    obtain ⟨hi87, hlt88, hy89⟩ := gx_some hx86
    obtain ⟨vs90, hl91, hR92, hd93, hget94⟩ := h61.at hy89
    obtain ⟨a95, c96, rfl, h97⟩ := hR92
    refine vP hS hE (Gives.idx hE ((((k67 : Nat) : Int)).toNat) rfl rfl sl39 hi87 (by omega) (hS.vecAok 0 rfl (by omega : (((k67 : Nat) : Int)).toNat < q55.length))) rfl ?_; clear hE a; intro a hE
    refine vP hS hE (Gives.loadA hE rfl (fun w h => St.vecSees h 0 rfl ((((k67 : Nat) : Int)).toNat * 1) _ hget94) ty28) rfl ?_; clear hE a; intro a hE
    refine WL.alloc hE hS (runs_plain rfl) zr28 rfl ?_; clear hE hS a w; intro b98 a w hE hS
    refine WL.storeI hE hS 0 rfl [.slice a95 x85.Rides.length c96] (runs_plain rfl) rfl rfl rfl ty28 rfl rfl rfl rfl ?_; clear hE hS a w; intro a w hE hS
    refine WL.nil ?_
    refine W.seq (W.region ?_)
    refine vP hS hE (Gives.loadBA hE 4 rfl rfl ty25) rfl ?_; clear hE a; intro a hE
    refine vP hS hE (Gives.loadBA hE 0 rfl rfl ty28) rfl ?_; clear hE a; intro a hE
    obtain ⟨q99, hq100, hq65⟩ := bindS hq65
    have hc_ := Fishref2Leaves_ok hS h0_0 h0_1 h97 hq100
    refine WL.fnq hE (hc_) (runs_plain rfl) bd60 rfl rfl rfl ?_
    clear hE hS hc_; rintro e w ⟨rfl, hS⟩; refine ⟨_, rfl, ?_⟩; clear a; intro a hE
    refine vP hS hE (Gives.p hE rfl) rfl ?_; clear hE a; intro a hE
    refine vP hS hE (Gives.p hE rfl) rfl ?_; clear hE a; intro a hE
    refine WL.nil ?_
    obtain ⟨q102, hq101, hq65⟩ := bindS hq65
    refine W.cut (fun a w => ∃ (q105 : List GuideJourney), ∃ (a106 : Option Addr), ∃ (c107 : Nat), ∃ (n109 : Nat), ∃ (cs110 : List Value), q105 = q102 ∧ Ev 1 RGuideJourney s63 cs110 q105 ∧ q105.length = n109 ∧ Rep a 57 [(2, .int .i64 x2), (5, .pointer (some ⟨b51, 0, none⟩)), (10, .pointer (some ⟨b52, 0, none⟩)), (13, .slice a106 n109 c107), (31, .slice a57 q55.length c58), (32, .int .i64 ((q55.length : Nat) : Int)), (33, .int .i64 ((k67 : Nat) : Int))] ∧ St w s63 (pt b98 (.cells #[.slice a95 x85.Rides.length c96] 28 (0, 0)) :: vecC 28 1 a57 c58 q55.length cs60 :: vecC 28 1 a106 c107 n109 cs110 :: pt b52 (.cells #[.slice none 0 0] 28 (0, 0)) :: pt b51 (.cells #[.slice a0_0 x0.Trains.length c0_0, .slice a0_1 x0.Turns.length c0_1] 25 (0, 0)) :: R)) ?_ ?_
    ·refine W.gen fun K112 hK112 => ?_
     refine W.cond hE rfl (fun hc113 => ?_) (fun hc113 => ?_)
     ·replace hq101 := iteT hc113 hq101
      refine W.region ?_
      refine vP hS hE (Gives.p hE rfl) rfl ?_; clear hE a; intro a hE
      refine vP hS hE (Gives.loadBA hE 0 rfl rfl ty28) rfl ?_; clear hE a; intro a hE
      refine WL.lit hE hS (e := 28) (es := 1) (vs := [(0, .agg [.slice a95 x85.Rides.length c96].toArray)]) (cs := [.slice a95 x85.Rides.length c96]) (runs_plain rfl) rfl (by kernel_rfl) rfl ?_; clear hE hS a w; intro b114 a w hE hS
      obtain ⟨x115, hx116, hq101⟩ := bindS hq101
      refine WL.appD hE hS 2 (m := 1) (runs_plain rfl) rfl rfl rfl ap39 rfl h80 rfl (xs := [x85]) (Ev.cons (c1 := [.slice a95 x85.Rides.length c96]) ⟨_, _, rfl, h97⟩ rfl (Ev.nil)) rfl rfl hx116 rfl ?_; clear hE hS a w; intro a117 c118 cs119 a w h120 hE hS
      refine vP hS hE (Gives.p hE rfl) rfl ?_; clear hE a; intro a hE
      refine WL.nil ?_
      subst hK112
      exact ⟨x115, a117, c118, x115.length, cs119, Option.some.inj hq101, h120, (rfl), hE.pick _ ⟨rfl, rfl, rfl, rfl, rfl, rfl, rfl, trivial⟩, hS⟩
     ·replace hq101 := iteF hc113 hq101
      refine W.skip ?_
      subst hK112
      exact ⟨q77, a78, c79, q77.length, cs82, Option.some.inj hq101, h80, rfl, hE.pick _ ⟨rfl, rfl, rfl, rfl, rfl, rfl, rfl, trivial⟩, hS⟩
    ·clear hE hS a w; rintro a w ⟨q105, a106, c107, n109, cs110, rfl, h108, rfl, hE, hS⟩
     refine W.region ?_
     refine vP hS hE (Gives.inc hE rfl (by omega)) rfl ?_; clear hE a; intro a hE
     refine vP hS hE (Gives.p hE rfl) rfl ?_; clear hE a; intro a hE
     refine WL.nil ?_
     replace hS := hS.tail
     subst hK84
     exact ⟨rest69, Nat.lt_succ_self _, rest69, k67 + 1, q105, a106, c107, q105.length, cs110, rfl, (by omega), hq65, h108, rfl, hE.pick _ ⟨rfl, rfl, rfl, rfl, rfl, rfl, rfl, trivial⟩, hS⟩
  ·clear hE hS a w; rintro a w ⟨q77, a78, c79, n81, cs82, rfl, h80, rfl, hE, hS⟩
   refine W.seq (W.region ?_)
   refine vP hS hE (Gives.p hE rfl) rfl ?_; clear hE a; intro a hE
   refine vP hS hE (Gives.mkfn hE (vs := [.pointer (some ⟨b51, 0, none⟩)]) rfl) rfl ?_; clear hE a; intro a hE
   obtain ⟨q121, hq122, hr⟩ := bindS hr
   replace hS := hS.front 1 rfl
   replace hS := hS.front 3 rfl
   have hc_ := Fishref2Choose_v2_ok (y0 := x0) hS h80 rfl h0_0 h0_1 hq122
   refine WL.fnq hE (hc_) (runs_plain rfl) bd61 rfl rfl rfl ?_
   clear hE hS hc_; rintro e w ⟨cs123, s125, rfl, hle126, h124, hS⟩; refine ⟨_, rfl, ?_⟩; clear a; intro a hE
   replace h0_0 := Sl.mono RApiTrain.mono hle126 h0_0
   replace h0_1 := Sl.mono (RL.mono RI.mono) hle126 h0_1
   replace h80 := Ev.mono RGuideJourney.mono hle126 h80
   replace h61 := Ev.mono RGuideJourney.mono hle126 h61
   obtain ⟨a127, c128, rfl, h129⟩ := h124
   refine vP hS hE (Gives.p hE rfl) rfl ?_; clear hE a; intro a hE
   refine vP hS hE (Gives.p hE rfl) rfl ?_; clear hE a; intro a hE
   refine vP hS hE (Gives.p hE rfl) rfl ?_; clear hE a; intro a hE
   refine WL.alloc hE hS (runs_plain rfl) zr28 rfl ?_; clear hE hS a w; intro b130 a w hE hS
   refine WL.storeI hE hS 0 rfl [.slice a127 q121.1.Rides.length c128] (runs_plain rfl) rfl rfl rfl ty28 rfl rfl rfl rfl ?_; clear hE hS a w; intro a w hE hS
   refine vP hS hE (Gives.p hE rfl) rfl ?_; clear hE a; intro a hE
   refine WL.nil ?_
   refine W.seq ?_
   refine W.seq (W.region ?_)
   refine vP hS hE (Gives.p hE rfl) rfl ?_; clear hE a; intro a hE
   refine vP hS hE (Gives.p hE rfl) rfl ?_; clear hE a; intro a hE
   refine WL.nil ?_
   refine W.cond hE rfl (fun hc131 => ?_) (fun hc131 => ?_)
   ·replace hr := iteT hc131 hr
    refine W.seq (W.region ?_)
    refine vP hS hE (Gives.build hE (vs := []) [.slice none 0 0] rfl (by kernel_rfl)) rfl ?_; clear hE a; intro a hE
    refine WL.storeI hE hS 4 rfl [.slice none 0 0] (runs_plain rfl) rfl rfl rfl ty28 rfl rfl rfl rfl ?_; clear hE hS a w; intro a w hE hS
    refine vP hS hE (Gives.p hE rfl) rfl ?_; clear hE a; intro a hE
    refine WL.nil ?_
    refine W.ret ?_
    refine finG (fn := Tryd.f14) (rs := [.cell 10 28, .tmp 11]) (vs := [_, _]) hE rfl ⟨⟨_, rfl, .inl ⟨_, rfl, hS.seesAt 4 rfl, ty28⟩⟩, rfl, trivial⟩ ?_
    obtain rfl := Option.some.inj hr
    replace hS := hS.tail
    replace hS := hS.tail
    replace hS := hS.tail
    replace hS := hS.tail
    replace hS := hS.tail
    exact ⟨_, s125, rfl, (Sg.Le.trans hle64 hle126), ⟨_, _, rfl, Sl.nil⟩, hS⟩
   ·replace hr := iteF hc131 hr
    refine W.skip ?_
    refine W.seq (W.region ?_)
    refine vP hS hE (Gives.loadBA hE 0 rfl rfl ty28) rfl ?_; clear hE a; intro a hE
    refine WL.storeI hE hS 4 rfl [.slice a127 q121.1.Rides.length c128] (runs_plain rfl) rfl rfl rfl ty28 rfl rfl rfl rfl ?_; clear hE hS a w; intro a w hE hS
    refine vP hS hE (Gives.p hE rfl) rfl ?_; clear hE a; intro a hE
    refine WL.nil ?_
    refine W.ret ?_
    refine finG (fn := Tryd.f14) (rs := [.cell 10 28, .tmp 11]) (vs := [_, _]) hE rfl ⟨⟨_, rfl, .inl ⟨_, rfl, hS.seesAt 4 rfl, ty28⟩⟩, rfl, trivial⟩ ?_
    obtain rfl := Option.some.inj hr
    replace hS := hS.tail
    replace hS := hS.tail
    replace hS := hS.tail
    replace hS := hS.tail
    replace hS := hS.tail
    exact ⟨_, s125, rfl, (Sg.Le.trans hle64 hle126), ⟨_, _, rfl, h129⟩, hS⟩
set_option maxHeartbeats 8000000 in
theorem Fishref2LatestOf_1_v1_ok  {w : World} {s : Sg} {R : List HP} {pb0 : Nat} {x0 : GuideJourney} {a0_0 : Option Addr} {c0_0 : Nat} {y0 : ApiDay} {a_y0_0 : Option Addr} {c_y0_0 : Nat} {a_y0_1 : Option Addr} {c_y0_1 : Nat} (hS : St w s (pt pb0 (.cells #[.slice a_y0_0 y0.Trains.length c_y0_0, .slice a_y0_1 y0.Turns.length c_y0_1] 25 (0, 0)) :: R)) (h0_0 : Sl 3 RGuideRide s a0_0 c0_0 x0.Rides) (h_y0_0 : Sl 4 RApiTrain s a_y0_0 c_y0_0 y0.Trains) (h_y0_1 : Sl 1 (RL 1 (RI .i64)) s a_y0_1 c_y0_1 y0.Turns) {r : (List Int)} (hr : Fishref2LatestOf_1_v1 x0 y0 = some r) :
  Calls Tryd.prog 64 [.agg [.slice a0_0 x0.Rides.length c0_0].toArray, .pointer (some ⟨pb0, 0, none⟩)].toArray w (fun e w => ∃ (a0 : Option Addr) (c0 : Nat) (t : Sg), e = .returned (.slice a0 r.length c0) ∧ s.Le t ∧ Sl 1 (RI .i64) t a0 c0 r ∧ St w t (pt pb0 (.cells #[.slice a_y0_0 y0.Trains.length c_y0_0, .slice a_y0_1 y0.Turns.length c_y0_1] 25 (0, 0)) :: R)) := by
 refine enter Tryd.func64 rfl rfl rfl fun a hE => ?_
 rw [Fishref2LatestOf_1_v1] at hr
 refine W.seq (W.region ?_)
 refine WL.box hE hS (runs_plain rfl) rfl rfl rfl ?_; clear hE hS a w; intro b51 a w hE hS
 refine vP hS hE (Gives.p hE rfl) rfl ?_; clear hE a; intro a hE
 refine WL.nil ?_
 refine W.seq ?_
 refine W.gen fun K52 hK52 => ?_
 refine W.regionE (sel (fun w => St w s (pt b51 (.cells #[.slice a0_0 x0.Rides.length c0_0] 28 (0, 0)) :: pt pb0 (.cells #[.slice a_y0_0 y0.Trains.length c_y0_0, .slice a_y0_1 y0.Turns.length c_y0_1] 25 (0, 0)) :: R)) (fun w => St w s (pt b51 (.cells #[.slice a0_0 x0.Rides.length c0_0] 28 (0, 0)) :: pt pb0 (.cells #[.slice a_y0_0 y0.Trains.length c_y0_0, .slice a_y0_1 y0.Turns.length c_y0_1] 25 (0, 0)) :: R))) (fun b i => cond b ([0, 1, 2, 3, 4, 5, 6, 7, 8, 9, 10, 11].contains i) ([0, 1, 2, 3, 4, 5, 6, 7, 8, 9, 10, 11].contains i)) mixed ?_
 replace hS := hS.drew
 have hT := tw_sel (A := fun w => St w s _) (B := fun w => St w s _) (w := _) (x := true) (y := true) (fun _ => hS) (fun _ => hS)
 have hF := hS; replace hS := hS
 refine Rg.take (i := 0) true rfl hE rfl (by kernel_rfl) (runs_plain rfl) (Gives.loadBA hE 1 rfl rfl ty25) rfl hT ?_; clear hE a; intro a hE
 replace hS := hF; clear hF hT
 have hT := tw_sel (A := fun w => St w s _) (B := fun w => St w s _) (w := _) (x := true) (y := true) (fun _ => hS) (fun _ => hS)
 have hF := hS; replace hS := hS
 refine Rg.take (i := 1) true rfl hE rfl (by kernel_rfl) (runs_plain rfl) (Gives.loadBA hE 0 rfl rfl ty28) rfl hT ?_; clear hE a; intro a hE
 replace hS := hF; clear hF hT
 refine Rg.takeP (i := 4) hE rfl (by kernel_rfl) (runs_plain rfl) (Gives.fld hE rfl fl28_0) rfl (tw_sel (fun _ => hS) (fun _ => hS)) ?_; clear hE a; intro a hE
 have hT := tw_sel (A := fun w => St w s _) (B := fun w => St w s _) (w := _) (x := true) (y := true) (fun _ => hS) (fun _ => hS)
 have hF := hS; replace hS := hS
 refine Rg.take (i := 5) true rfl hE rfl (by kernel_rfl) (runs_plain rfl) (Gives.loadB hE 0 rfl rfl rfl ty26) rfl hT ?_; clear hE a; intro a hE
 replace hS := hF; clear hF hT
 refine Rg.takeP (i := 6) hE rfl (by kernel_rfl) (runs_plain rfl) (Gives.len hE rfl sl26) rfl (tw_sel (fun _ => hS) (fun _ => hS)) ?_; clear hE a; intro a hE
 have hT := tw_sel (A := fun w => St w s _) (B := fun w => St w s _) (w := _) (x := true) (y := true) (fun _ => hS) (fun _ => hS)
 have hF := hS; replace hS := hS
 refine Rg.take (i := 7) true rfl hE rfl (by kernel_rfl) (runs_plain rfl) (Gives.loadBA hE 1 rfl rfl ty25) rfl hT ?_; clear hE a; intro a hE
 replace hS := hF; clear hF hT
 have hT := tw_sel (A := fun w => St w s _) (B := fun w => St w s _) (w := _) (x := true) (y := true) (fun _ => hS) (fun _ => hS)
 have hF := hS; replace hS := hS
 refine Rg.take (i := 8) true rfl hE rfl (by kernel_rfl) (runs_plain rfl) (Gives.loadBA hE 0 rfl rfl ty28) rfl hT ?_; clear hE a; intro a hE
 replace hS := hF; clear hF hT
 refine Rg.one (i := 2) true true rfl (by kernel_rfl) (by kernel_rfl) (by kernel_rfl) ?_
 obtain ⟨q53, hq54, hr⟩ := bindS hr
 have hc_ := Fishref2Leaves_ok hS h_y0_0 h_y0_1 h0_0 hq54
 refine WL.fnq hE (hc_) (runs_plain rfl) bd60 rfl rfl rfl ?_
 clear hE hS hc_; rintro e w ⟨rfl, hS⟩; refine ⟨_, rfl, ?_⟩; clear a; intro a hE
 refine WL.nil ?_
 refine ⟨⟨fun _ => hS, fun _ => hS⟩, ?_⟩
 refine Rg.takeP (i := 3) hE rfl (by kernel_rfl) (runs_plain rfl) (Gives.p hE rfl) rfl (tw_sel (fun _ => hS) (fun _ => hS)) ?_; clear hE a; intro a hE
 refine Rg.one (i := 9) true true rfl (by kernel_rfl) (by kernel_rfl) (by kernel_rfl) ?_
 obtain ⟨q55, hq56, hr⟩ := bindS hr
 have hc_ := Fishref2Arrives_ok hS h_y0_0 h_y0_1 h0_0 hq56
 refine WL.fnq hE (hc_) (runs_plain rfl) bd63 rfl rfl rfl ?_
 clear hE hS hc_; rintro e w ⟨rfl, hS⟩; refine ⟨_, rfl, ?_⟩; clear a; intro a hE
 refine WL.nil ?_
 refine ⟨⟨fun _ => hS, fun _ => hS⟩, ?_⟩
 refine Rg.one (i := 10) true true rfl (by kernel_rfl) (by kernel_rfl) (by kernel_rfl) ?_
 refine WL.lit hE hS (e := 3) (es := 1) (vs := [(0, .int .i64 (w64 (0 - q53))), (1, .int .i64 ((x0.Rides).length : Int)), (2, .int .i64 q55)]) (cs := [.int .i64 (w64 (0 - q53)), .int .i64 ((x0.Rides).length : Int), .int .i64 q55]) (runs_plain rfl) rfl (by kernel_rfl) rfl ?_; clear hE hS a w; intro b57 a w hE hS
 replace hS := hS.ptVec (es := 1) (m := 3) rfl (by decide)
 have h59 : Ev 1 (RI .i64) s [.int .i64 (w64 (0 - q53)), .int .i64 ((x0.Rides).length : Int), .int .i64 q55] [w64 (0 - q53), ((x0.Rides).length : Int), q55] := (Ev.cons (c1 := [.int .i64 (w64 (0 - q53))]) rfl rfl (Ev.cons (c1 := [.int .i64 ((x0.Rides).length : Int)]) rfl rfl (Ev.cons (c1 := [.int .i64 q55]) rfl rfl (Ev.nil))))
 have hF := hS.fixD RI.mono 0 rfl h59 (rfl); clear hS; obtain ⟨s60, hle61, hS, h62⟩ := hF
 replace h0_0 := Sl.mono RGuideRide.mono hle61 h0_0
 replace h_y0_0 := Sl.mono RApiTrain.mono hle61 h_y0_0
 replace h_y0_1 := Sl.mono (RL.mono RI.mono) hle61 h_y0_1
 refine WL.nil ?_
 refine ⟨⟨fun _ => (St.down hle61 hS), fun _ => (St.down hle61 hS)⟩, ?_⟩
 refine Rg.takeP (i := 11) hE rfl (by kernel_rfl) (runs_plain rfl) (Gives.p hE rfl) rfl (tw_sel (fun _ => (St.down hle61 hS)) (fun _ => (St.down hle61 hS))) ?_; clear hE a; intro a hE
 refine Rg.done (by kernel_rfl) ?_
 subst hK52
 refine W.ret ?_
 refine finG (fn := Tryd.f64) (rs := [.tmp 3]) (vs := [_]) hE rfl ⟨rfl, trivial⟩ ?_
 obtain rfl := Option.some.inj hr
 replace hS := hS.tail
 exact ⟨(some ⟨b57, 0, none⟩), 3, s60, rfl, hle61, h62, hS⟩
set_option maxHeartbeats 8000000 in
theorem Fishref2Choose_v3_ok  {w : World} {s : Sg} {R : List HP} {pb0 : Nat} {x0 : List GuideJourney} {a0 : Option Addr} {c0 : Nat} {y0 : ApiDay} {a_y0_0 : Option Addr} {c_y0_0 : Nat} {a_y0_1 : Option Addr} {c_y0_1 : Nat} (hS : St w s (pt pb0 (.cells #[.slice a_y0_0 y0.Trains.length c_y0_0, .slice a_y0_1 y0.Turns.length c_y0_1] 25 (0, 0)) :: R)) (h0 : Sl 1 RGuideJourney s a0 c0 x0) (h_y0_0 : Sl 4 RApiTrain s a_y0_0 c_y0_0 y0.Trains) (h_y0_1 : Sl 1 (RL 1 (RI .i64)) s a_y0_1 c_y0_1 y0.Turns) {r : GuideJourney × Bool} (hr : Fishref2Choose_v3 x0 y0 = some r) :
  Calls Tryd.prog 61 [.slice a0 x0.length c0, .func (.func 64) #[] #[.pointer (some ⟨pb0, 0, none⟩)]].toArray w (fun e w => ∃ (cs0 : List Value) (t : Sg), e = .returned (.tuple #[.agg cs0.toArray, .bool r.2]) ∧ s.Le t ∧ RGuideJourney t cs0 r.1 ∧ St w t (pt pb0 (.cells #[.slice a_y0_0 y0.Trains.length c_y0_0, .slice a_y0_1 y0.Turns.length c_y0_1] 25 (0, 0)) :: R)) := by
 refine enter Tryd.func61 rfl rfl rfl fun a hE => ?_
 rw [Fishref2Choose_v3] at hr
 refine W.seq (W.region ?_)
 refine WL.alloc hE hS (runs_plain rfl) zr28 rfl ?_; clear hE hS a w; intro b51 a w hE hS
 refine vP hS hE (Gives.p hE rfl) rfl ?_; clear hE a; intro a hE
 refine WL.nil ?_
 refine W.seq (W.region ?_)
 refine WL.alloc hE hS (runs_plain rfl) zr28 rfl ?_; clear hE hS a w; intro b52 a w hE hS
 refine WL.nil ?_
 refine W.seq (W.region ?_)
 refine vP hS hE (Gives.p hE rfl) rfl ?_; clear hE a; intro a hE
 refine WL.nil ?_
 refine W.seq ?_
 refine W.seq (W.region ?_)
 refine vP hS hE (Gives.p hE rfl) rfl ?_; clear hE a; intro a hE
 refine vP hS hE (Gives.len hE rfl sl39) rfl ?_; clear hE a; intro a hE
 refine vP hS hE (Gives.p hE rfl) rfl ?_; clear hE a; intro a hE
 refine WL.nil ?_
 obtain ⟨q54, hq53, hr⟩ := bindS hr
 refine W.cut (fun a w => ∃ (q64 : List Int), ∃ (q69 : List GuideRide), ∃ (a65 : Option Addr), ∃ (c66 : Nat), ∃ (a70 : Option Addr), ∃ (c71 : Nat), ∃ (s62 : Sg), s.Le s62 ∧ (q64, q69) = q54 ∧ Sl 1 (RI .i64) s62 a65 c66 q64 ∧ (q64 = [] → a65 = none) ∧ Sl 3 RGuideRide s62 a70 c71 q69 ∧ Rep a 34 [(4, .pointer (some ⟨b51, 0, none⟩)), (6, .pointer (some ⟨b52, 0, none⟩)), (7, .slice a65 q64.length c66)] ∧ St w s62 (pt b52 (.cells #[.slice a70 q69.length c71] 28 (0, 0)) :: pt b51 (.cells #[.slice none 0 0] 28 (0, 0)) :: pt pb0 (.cells #[.slice a_y0_0 y0.Trains.length c_y0_0, .slice a_y0_1 y0.Turns.length c_y0_1] 25 (0, 0)) :: R)) ?_ ?_
 ·refine W.block ?_
  refine W.loop (fun m a w => ∃ (rest57 : List GuideJourney) (k55 : Nat), ∃ (q64 : List Int), ∃ (q69 : List GuideRide), ∃ (a65 : Option Addr), ∃ (c66 : Nat), ∃ (a70 : Option Addr), ∃ (c71 : Nat), ∃ (s62 : Sg), rest57.length = m ∧ x0.drop k55 = rest57 ∧ s.Le s62 ∧ Fishref2Choose_v3.loop1 y0 rest57 q64 q69 = some q54 ∧ Sl 1 (RI .i64) s62 a65 c66 q64 ∧ (q64 = [] → a65 = none) ∧ Sl 3 RGuideRide s62 a70 c71 q69 ∧ Rep a 34 [(1, .func (.func 64) #[] #[.pointer (some ⟨pb0, 0, none⟩)]), (4, .pointer (some ⟨b51, 0, none⟩)), (6, .pointer (some ⟨b52, 0, none⟩)), (7, .slice a65 q64.length c66), (11, .slice a0 x0.length c0), (12, .int .i64 ((x0).length : Int)), (13, .int .i64 ((k55 : Nat) : Int))] ∧ St w s62 (pt b52 (.cells #[.slice a70 q69.length c71] 28 (0, 0)) :: pt b51 (.cells #[.slice none 0 0] 28 (0, 0)) :: pt pb0 (.cells #[.slice a_y0_0 y0.Trains.length c_y0_0, .slice a_y0_1 y0.Turns.length c_y0_1] 25 (0, 0)) :: R)) (m := x0.length) ⟨x0, 0, [], [], none, 0, none, 0, s, rfl, rfl, (Sg.Le.refl _), hq53, Sl.nil, (fun _ => rfl), Sl.nil, hE.pick _ ⟨rfl, rfl, rfl, rfl, rfl, rfl, rfl, trivial⟩, hS⟩ ?_
  clear hE hS a w hq53; rintro m61 a w ⟨rest57, k55, q64, q69, a65, c66, a70, c71, s62, rfl, hd58, hle63, hq53, h67, hz68, h72, hE, hS⟩
  refine W.gen fun K73 hK73 => ?_
  replace h0 := Sl.mono RGuideJourney.mono hle63 h0
  replace h_y0_0 := Sl.mono RApiTrain.mono hle63 h_y0_0
  replace h_y0_1 := Sl.mono (RL.mono RI.mono) hle63 h_y0_1
  rcases rest57 with _ | ⟨x56, rest57⟩
  ·have hlt59 := drop_nil hd58
   refine W.seq (W.region ?_)
   refine vP hS hE (Gives.p hE rfl) rfl ?_; clear hE a; intro a hE
   refine WL.nil ?_
   refine W.seq ?_
   refine W.condF hE rfl (decide_eq_false (by omega)) ?_
   subst hK73
   refine W.exit rfl ?_
   exact ⟨q64, q69, a65, c66, a70, c71, s62, hle63, Option.some.inj hq53, h67, hz68, h72, hE.pick _ ⟨rfl, rfl, rfl, trivial⟩, hS⟩
  ·obtain ⟨hlt59, hx60, hd58⟩ := drop_cons hd58
   rw [Fishref2Choose_v3.loop1] at hq53
   refine W.seq (W.region ?_)
   refine vP hS hE (Gives.p hE rfl) rfl ?_; clear hE a; intro a hE
   refine WL.nil ?_
   refine W.seq ?_
   refine W.condT hE rfl (decide_eq_true (by omega)) ?_
   refine W.skip ?_
   refine W.seq ?_
   refine W.block ?_
   refine W.seq (W.region ?_)
   obtain ⟨cs74, hl75, hR76, hat77⟩ := h0.at hx60
   obtain ⟨a78, c79, rfl, h80⟩ := hR76
   refine vP hS hE (Gives.idx hE k55 rfl rfl sl39 rfl hlt59 (h0.aok hlt59)) rfl ?_; clear hE a; intro a hE
   refine vP hS hE (Gives.loadA hE rfl (fun w h => hat77 w _ h) ty28) rfl ?_; clear hE a; intro a hE
   refine WL.alloc hE hS (runs_plain rfl) zr28 rfl ?_; clear hE hS a w; intro b81 a w hE hS
   refine WL.storeI hE hS 0 rfl [.slice a78 x56.Rides.length c79] (runs_plain rfl) rfl rfl rfl ty28 rfl rfl rfl rfl ?_; clear hE hS a w; intro a w hE hS
   refine WL.nil ?_
   refine W.seq (W.region ?_)
   refine vP hS hE (Gives.p hE rfl) rfl ?_; clear hE a; intro a hE
   refine vP hS hE (Gives.loadBA hE 0 rfl rfl ty28) rfl ?_; clear hE a; intro a hE
   obtain ⟨q82, hq83, hq53⟩ := bindS hq53
   replace hS := hS.front 3 rfl
   have hc_ := Fishref2LatestOf_1_v1_ok (y0 := y0) hS h80 h_y0_0 h_y0_1 hq83
   refine WL.fnw hE (hc_) rfl (runs_plain rfl) bd64 rfl rfl rfl ?_
   clear hE hS hc_; rintro e w ⟨a84, c85, s87, rfl, hle88, h86, hS⟩; refine ⟨_, rfl, ?_⟩; clear a; intro a hE
   replace h67 := Sl.mono RI.mono hle88 h67
   replace h0 := Sl.mono RGuideJourney.mono hle88 h0
   replace h80 := Sl.mono RGuideRide.mono hle88 h80
   replace h_y0_0 := Sl.mono RApiTrain.mono hle88 h_y0_0
   replace h_y0_1 := Sl.mono (RL.mono RI.mono) hle88 h_y0_1
   replace h72 := Sl.mono RGuideRide.mono hle88 h72
   obtain ⟨_, hx89, hq53⟩ := bindS hq53
   refine vP hS hE (Gives.p hE rfl) rfl ?_; clear hE a; intro a hE
   refine WL.nil ?_
   refine W.seq ?_
   obtain ⟨q91, hq90, hq53⟩ := bindS hq53
   refine W.cut (fun a w => ∃ (q94 : Bool), q94 = q91 ∧ Rep a 34 [(1, .func (.func 64) #[] #[.pointer (some ⟨pb0, 0, none⟩)]), (4, .pointer (some ⟨b51, 0, none⟩)), (6, .pointer (some ⟨b52, 0, none⟩)), (7, .slice a65 q64.length c66), (9, .pointer (some ⟨b81, 0, none⟩)), (10, .slice a84 q82.length c85), (11, .slice a0 x0.length c0), (12, .int .i64 ((x0).length : Int)), (13, .int .i64 ((k55 : Nat) : Int)), (27, .bool q94)] ∧ St w s87 (pt pb0 (.cells #[.slice a_y0_0 y0.Trains.length c_y0_0, .slice a_y0_1 y0.Turns.length c_y0_1] 25 (0, 0)) :: pt b81 (.cells #[.slice a78 x56.Rides.length c79] 28 (0, 0)) :: pt b52 (.cells #[.slice a70 q69.length c71] 28 (0, 0)) :: pt b51 (.cells #[.slice none 0 0] 28 (0, 0)) :: R)) ?_ ?_
   ·refine W.gen fun K95 hK95 => ?_
    refine W.region ?_
    refine vP hS hE (Gives.p hE rfl) rfl ?_; clear hE a; intro a hE
    refine vP hS hE (Gives.isNilZ hE (isNone_eq h67 hz68) rfl rfl isl45) rfl ?_; clear hE a; intro a hE
    refine vP hS hE (Gives.p hE rfl) rfl ?_; clear hE a; intro a hE
    rcases Bool.eq_false_or_eq_true q64.isEmpty with hg96 | hg96
    ·replace hq90 := iteT hg96 hq90
     refine WL.no hE (runs_not hE rfl rfl rfl (by rw [hg96]; decide)) rfl ?_; clear hE a; intro a hE
     refine WL.no hE (runs_not hE rfl rfl rfl (by rw [hg96]; decide)) rfl ?_; clear hE a; intro a hE
     refine WL.no hE (runs_not hE rfl rfl rfl (by rw [hg96]; decide)) rfl ?_; clear hE a; intro a hE
     refine WL.no hE (runs_not hE rfl rfl rfl (by rw [hg96]; decide)) rfl ?_; clear hE a; intro a hE
     refine vP hS hE (Gives.pickT hE rfl hg96 rfl) rfl ?_; clear hE a; intro a hE
     refine WL.nil ?_
     subst hK95
     exact ⟨true, Option.some.inj hq90, hE.pick _ ⟨rfl, rfl, rfl, rfl, rfl, rfl, rfl, rfl, rfl, rfl, trivial⟩, hS⟩
    ·replace hq90 := iteF hg96 hq90
     refine WL.vS hS hE (runs_if hE rfl rfl rfl hg96) (Gives.p hE rfl) rfl ?_; clear hE a; intro a hE
     refine WL.vS hS hE (runs_if hE rfl rfl rfl hg96) (Gives.p hE rfl) rfl ?_; clear hE a; intro a hE
     obtain ⟨q97, hq98, hq90⟩ := bindS hq90
     have hc_ := SlicesCompareLint_ok hS h86 h67 hq98
     refine WL.fnq hE (hc_) (runs_if hE rfl rfl rfl hg96) bd82 rfl rfl rfl ?_
     clear hE hS hc_; rintro e w ⟨rfl, hS⟩; refine ⟨_, rfl, ?_⟩; clear a; intro a hE
     refine WL.vS hS hE (runs_if hE rfl rfl rfl hg96) (Gives.p hE rfl) rfl ?_; clear hE a; intro a hE
     refine vP hS hE (Gives.pickF hE rfl hg96 rfl) rfl ?_; clear hE a; intro a hE
     refine WL.nil ?_
     subst hK95
     exact ⟨decide (q97 < 0), Option.some.inj hq90, hE.pick _ ⟨rfl, rfl, rfl, rfl, rfl, rfl, rfl, rfl, rfl, rfl, trivial⟩, hS⟩
   ·clear hE hS a w; rintro a w ⟨q94, rfl, hE, hS⟩
    obtain ⟨q100, hq99, hq53⟩ := bndS hq53
    refine W.cut (fun a w => ∃ (q103 : List Int), ∃ (q108 : List GuideRide), ∃ (a104 : Option Addr), ∃ (c105 : Nat), ∃ (a109 : Option Addr), ∃ (c110 : Nat), (q103, q108) = q100 ∧ Sl 1 (RI .i64) s87 a104 c105 q103 ∧ (q103 = [] → a104 = none) ∧ Sl 3 RGuideRide s87 a109 c110 q108 ∧ Rep a 34 [(1, .func (.func 64) #[] #[.pointer (some ⟨pb0, 0, none⟩)]), (4, .pointer (some ⟨b51, 0, none⟩)), (6, .pointer (some ⟨b52, 0, none⟩)), (7, .slice a104 q103.length c105), (11, .slice a0 x0.length c0), (12, .int .i64 ((x0).length : Int)), (13, .int .i64 ((k55 : Nat) : Int))] ∧ St w s87 (pt pb0 (.cells #[.slice a_y0_0 y0.Trains.length c_y0_0, .slice a_y0_1 y0.Turns.length c_y0_1] 25 (0, 0)) :: pt b81 (.cells #[.slice a78 x56.Rides.length c79] 28 (0, 0)) :: pt b52 (.cells #[.slice a109 q108.length c110] 28 (0, 0)) :: pt b51 (.cells #[.slice none 0 0] 28 (0, 0)) :: R)) ?_ ?_
    ·refine W.gen fun K112 hK112 => ?_
     refine W.cond hE rfl (fun hc113 => ?_) (fun hc113 => ?_)
     ·replace hq99 := iteT hc113 hq99
      refine W.region ?_
      refine vP hS hE (Gives.loadBA hE 1 rfl rfl ty28) rfl ?_; clear hE a; intro a hE
      refine vP hS hE (Gives.p hE rfl) rfl ?_; clear hE a; intro a hE
      refine WL.storeI hE hS 2 rfl [.slice a78 x56.Rides.length c79] (runs_plain rfl) rfl rfl rfl ty28 rfl rfl rfl rfl ?_; clear hE hS a w; intro a w hE hS
      refine vP hS hE (Gives.p hE rfl) rfl ?_; clear hE a; intro a hE
      refine WL.nil ?_
      subst hK112
      exact ⟨q82, x56.Rides, a84, c85, a78, c79, hq99, h86, (nz_some hx89), h80, hE.pick _ ⟨rfl, rfl, rfl, rfl, rfl, rfl, rfl, trivial⟩, hS⟩
     ·replace hq99 := iteF hc113 hq99
      refine W.skip ?_
      subst hK112
      exact ⟨q64, q69, a65, c66, a70, c71, hq99, h67, hz68, h72, hE.pick _ ⟨rfl, rfl, rfl, rfl, rfl, rfl, rfl, trivial⟩, hS⟩
    ·clear hE hS a w; rintro a w ⟨q103, q108, a104, c105, a109, c110, rfl, h106, hz107, h111, hE, hS⟩
     dsimp only at hq53
     refine W.region ?_
     refine vP hS hE (Gives.inc hE rfl (by have := h0.small; omega)) rfl ?_; clear hE a; intro a hE
     refine vP hS hE (Gives.p hE rfl) rfl ?_; clear hE a; intro a hE
     refine WL.nil ?_
     replace hS := hS.dropAt 1
     replace hS := hS.front 2 rfl
     replace hS := hS.front 2 rfl
     subst hK73
     exact ⟨rest57.length, Nat.lt_succ_self _, rest57, k55 + 1, q103, q108, a104, c105, a109, c110, s87, rfl, hd58, (Sg.Le.trans hle63 hle88), hq53, h106, hz107, h111, hE.pick _ ⟨rfl, rfl, rfl, rfl, rfl, rfl, rfl, trivial⟩, hS⟩
 ·clear hE hS a w; rintro a w ⟨q64, q69, a65, c66, a70, c71, s62, hle63, rfl, h67, hz68, h72, hE, hS⟩
  dsimp only at hr
  replace h0 := Sl.mono RGuideJourney.mono hle63 h0
  replace h_y0_0 := Sl.mono RApiTrain.mono hle63 h_y0_0
  replace h_y0_1 := Sl.mono (RL.mono RI.mono) hle63 h_y0_1
  refine W.seq (W.region ?_)
  refine vP hS hE (Gives.loadBA hE 0 rfl rfl ty28) rfl ?_; clear hE a; intro a hE
  refine vP hS hE (Gives.p hE rfl) rfl ?_; clear hE a; intro a hE
  refine vP hS hE (Gives.notNilZ hE (isNone_eq h67 hz68) rfl rfl isl45) rfl ?_; clear hE a; intro a hE
  refine WL.storeI hE hS 1 rfl [.slice a70 q69.length c71] (runs_plain rfl) rfl rfl rfl ty28 rfl rfl rfl rfl ?_; clear hE hS a w; intro a w hE hS
  refine vP hS hE (Gives.p hE rfl) rfl ?_; clear hE a; intro a hE
  refine WL.nil ?_
  refine W.ret ?_
  refine finG (fn := Tryd.f61) (rs := [.cell 4 28, .tmp 5]) (vs := [_, _]) hE rfl ⟨⟨_, rfl, .inl ⟨_, rfl, hS.seesAt 1 rfl, ty28⟩⟩, rfl, trivial⟩ ?_
  obtain rfl := Option.some.inj hr
  replace hS := hS.tail
  replace hS := hS.tail
  exact ⟨_, s62, rfl, hle63, ⟨_, _, rfl, h72⟩, hS⟩
set_option maxHeartbeats 8000000 in
theorem Fishref2Choose_v4_ok  {w : World} {s : Sg} {R : List HP} {pb0 : Nat} {x0 : List GuideJourney} {a_v0 : Option Addr} {c_v0 n_v0 : Nat} {cs_v0 : List Value} {y0 : ApiDay} {a_y0_0 : Option Addr} {c_y0_0 : Nat} {a_y0_1 : Option Addr} {c_y0_1 : Nat} (hS : St w s (pt pb0 (.cells #[.slice a_y0_0 y0.Trains.length c_y0_0, .slice a_y0_1 y0.Turns.length c_y0_1] 25 (0, 0)) :: vecC 28 1 a_v0 c_v0 n_v0 cs_v0 :: R)) (h_v0 : Ev 1 RGuideJourney s cs_v0 x0) (hn_v0 : x0.length = n_v0) (h_y0_0 : Sl 4 RApiTrain s a_y0_0 c_y0_0 y0.Trains) (h_y0_1 : Sl 1 (RL 1 (RI .i64)) s a_y0_1 c_y0_1 y0.Turns) {r : GuideJourney × Bool} (hr : Fishref2Choose_v4 x0 y0 = some r) :
  Calls Tryd.prog 61 [.slice a_v0 n_v0 c_v0, .func (.func 64) #[] #[.pointer (some ⟨pb0, 0, none⟩)]].toArray w (fun e w => ∃ (cs0 : List Value) (t : Sg), e = .returned (.tuple #[.agg cs0.toArray, .bool r.2]) ∧ s.Le t ∧ RGuideJourney t cs0 r.1 ∧ St w t (pt pb0 (.cells #[.slice a_y0_0 y0.Trains.length c_y0_0, .slice a_y0_1 y0.Turns.length c_y0_1] 25 (0, 0)) :: vecC 28 1 a_v0 c_v0 n_v0 cs_v0 :: R)) := by
 refine enter Tryd.func61 rfl rfl rfl fun a hE => ?_
 rw [Fishref2Choose_v4] at hr
 subst hn_v0
 refine W.seq (W.region ?_)
 refine WL.alloc hE hS (runs_plain rfl) zr28 rfl ?_; clear hE hS a w; intro b51 a w hE hS
 refine vP hS hE (Gives.p hE rfl) rfl ?_; clear hE a; intro a hE
 refine WL.nil ?_
 refine W.seq (W.region ?_)
 refine WL.alloc hE hS (runs_plain rfl) zr28 rfl ?_; clear hE hS a w; intro b52 a w hE hS
 refine WL.nil ?_
 refine W.seq (W.region ?_)
 refine vP hS hE (Gives.p hE rfl) rfl ?_; clear hE a; intro a hE
 refine WL.nil ?_
 refine W.seq ?_
 refine W.seq (W.region ?_)
 refine vP hS hE (Gives.p hE rfl) rfl ?_; clear hE a; intro a hE
 refine vP hS hE (Gives.len hE rfl sl39) rfl ?_; clear hE a; intro a hE
 refine vP hS hE (Gives.p hE rfl) rfl ?_; clear hE a; intro a hE
 refine WL.nil ?_
 have hb64 : x0.length ≤ 9223372036854775807 := by have := hS.vecCap 3 rfl; unfold maxLen at this; omega
 obtain ⟨q54, hq53, hr⟩ := bindS hr
 refine W.cut (fun a w => ∃ (q65 : List Int), ∃ (q70 : List GuideRide), ∃ (a66 : Option Addr), ∃ (c67 : Nat), ∃ (a71 : Option Addr), ∃ (c72 : Nat), ∃ (s62 : Sg), s.Le s62 ∧ (q65, q70) = q54 ∧ Sl 1 (RI .i64) s62 a66 c67 q65 ∧ (q65 = [] → a66 = none) ∧ Sl 3 RGuideRide s62 a71 c72 q70 ∧ Rep a 34 [(4, .pointer (some ⟨b51, 0, none⟩)), (6, .pointer (some ⟨b52, 0, none⟩)), (7, .slice a66 q65.length c67)] ∧ St w s62 (pt b52 (.cells #[.slice a71 q70.length c72] 28 (0, 0)) :: pt b51 (.cells #[.slice none 0 0] 28 (0, 0)) :: pt pb0 (.cells #[.slice a_y0_0 y0.Trains.length c_y0_0, .slice a_y0_1 y0.Turns.length c_y0_1] 25 (0, 0)) :: vecC 28 1 a_v0 c_v0 x0.length cs_v0 :: R)) ?_ ?_
 ·refine W.block ?_
  refine W.loop (fun m a w => ∃ (rest57 : Nat) (k55 : Nat), ∃ (q65 : List Int), ∃ (q70 : List GuideRide), ∃ (a66 : Option Addr), ∃ (c67 : Nat), ∃ (a71 : Option Addr), ∃ (c72 : Nat), ∃ (s62 : Sg), rest57 = m ∧ k55 + rest57 = x0.length ∧ s.Le s62 ∧ Fishref2Choose_v4.loop1 x0 y0 rest57 k55 q65 q70 = some q54 ∧ Sl 1 (RI .i64) s62 a66 c67 q65 ∧ (q65 = [] → a66 = none) ∧ Sl 3 RGuideRide s62 a71 c72 q70 ∧ Rep a 34 [(1, .func (.func 64) #[] #[.pointer (some ⟨pb0, 0, none⟩)]), (4, .pointer (some ⟨b51, 0, none⟩)), (6, .pointer (some ⟨b52, 0, none⟩)), (7, .slice a66 q65.length c67), (11, .slice a_v0 x0.length c_v0), (12, .int .i64 ((x0.length : Nat) : Int)), (13, .int .i64 ((k55 : Nat) : Int))] ∧ St w s62 (pt b52 (.cells #[.slice a71 q70.length c72] 28 (0, 0)) :: pt b51 (.cells #[.slice none 0 0] 28 (0, 0)) :: pt pb0 (.cells #[.slice a_y0_0 y0.Trains.length c_y0_0, .slice a_y0_1 y0.Turns.length c_y0_1] 25 (0, 0)) :: vecC 28 1 a_v0 c_v0 x0.length cs_v0 :: R)) (m := x0.length) ⟨x0.length, 0, [], [], none, 0, none, 0, s, rfl, by omega, (Sg.Le.refl _), hq53, Sl.nil, (fun _ => rfl), Sl.nil, hE.pick _ ⟨rfl, rfl, rfl, rfl, rfl, rfl, rfl, trivial⟩, hS⟩ ?_
  clear hE hS a w hq53; rintro m61 a w ⟨rest57, k55, q65, q70, a66, c67, a71, c72, s62, rfl, hd58, hle63, hq53, h68, hz69, h73, hE, hS⟩
  refine W.gen fun K74 hK74 => ?_
  replace h_y0_0 := Sl.mono RApiTrain.mono hle63 h_y0_0
  replace h_y0_1 := Sl.mono (RL.mono RI.mono) hle63 h_y0_1
  replace h_v0 := Ev.mono RGuideJourney.mono hle63 h_v0
  rcases rest57 with _ | rest57
  ·skip
   refine W.seq (W.region ?_)
   refine vP hS hE (Gives.p hE rfl) rfl ?_; clear hE a; intro a hE
   refine WL.nil ?_
   refine W.seq ?_
   refine W.condF hE rfl (decide_eq_false (by omega)) ?_
   subst hK74
   refine W.exit rfl ?_
   exact ⟨q65, q70, a66, c67, a71, c72, s62, hle63, Option.some.inj hq53, h68, hz69, h73, hE.pick _ ⟨rfl, rfl, rfl, trivial⟩, hS⟩
  ·have hlt59 : k55 < x0.length := by omega
   rw [Fishref2Choose_v4.loop1] at hq53
   refine W.seq (W.region ?_)
   refine vP hS hE (Gives.p hE rfl) rfl ?_; clear hE a; intro a hE
   refine WL.nil ?_
   refine W.seq ?_
   refine W.condT hE rfl (decide_eq_true (by omega)) ?_
   refine W.skip ?_
   refine W.seq ?_
   refine W.block ?_
   refine W.seq (W.region ?_)
   obtain ⟨x75, hx76, hq53⟩ := bindS hq53
   obtain ⟨hi77, hlt78, hy79⟩ := gx_some hx76
   obtain ⟨vs80, hl81, hR82, hd83, hget84⟩ := h_v0.at hy79
   obtain ⟨a85, c86, rfl, h87⟩ := hR82
   refine vP hS hE (Gives.idx hE ((((k55 : Nat) : Int)).toNat) rfl rfl sl39 hi77 (by omega) (hS.vecAok 3 rfl (by omega : (((k55 : Nat) : Int)).toNat < x0.length))) rfl ?_; clear hE a; intro a hE
   refine vP hS hE (Gives.loadA hE rfl (fun w h => St.vecSees h 3 rfl ((((k55 : Nat) : Int)).toNat * 1) _ hget84) ty28) rfl ?_; clear hE a; intro a hE
   refine WL.alloc hE hS (runs_plain rfl) zr28 rfl ?_; clear hE hS a w; intro b88 a w hE hS
   refine WL.storeI hE hS 0 rfl [.slice a85 x75.Rides.length c86] (runs_plain rfl) rfl rfl rfl ty28 rfl rfl rfl rfl ?_; clear hE hS a w; intro a w hE hS
   refine WL.nil ?_
   refine W.seq (W.region ?_)
   refine vP hS hE (Gives.p hE rfl) rfl ?_; clear hE a; intro a hE
   refine vP hS hE (Gives.loadBA hE 0 rfl rfl ty28) rfl ?_; clear hE a; intro a hE
   obtain ⟨q89, hq90, hq53⟩ := bindS hq53
   replace hS := hS.front 3 rfl
   have hc_ := Fishref2LatestOf_1_v1_ok (y0 := y0) hS h87 h_y0_0 h_y0_1 hq90
   refine WL.fnw hE (hc_) rfl (runs_plain rfl) bd64 rfl rfl rfl ?_
   clear hE hS hc_; rintro e w ⟨a91, c92, s94, rfl, hle95, h93, hS⟩; refine ⟨_, rfl, ?_⟩; clear a; intro a hE
   replace h68 := Sl.mono RI.mono hle95 h68
   replace h87 := Sl.mono RGuideRide.mono hle95 h87
   replace h_y0_0 := Sl.mono RApiTrain.mono hle95 h_y0_0
   replace h_y0_1 := Sl.mono (RL.mono RI.mono) hle95 h_y0_1
   replace h73 := Sl.mono RGuideRide.mono hle95 h73
   replace h_v0 := Ev.mono RGuideJourney.mono hle95 h_v0
   obtain ⟨_, hx96, hq53⟩ := bindS hq53
   refine vP hS hE (Gives.p hE rfl) rfl ?_; clear hE a; intro a hE
   refine WL.nil ?_
   refine W.seq ?_
   obtain ⟨q98, hq97, hq53⟩ := bindS hq53
   refine W.cut (fun a w => ∃ (q101 : Bool), q101 = q98 ∧ Rep a 34 [(1, .func (.func 64) #[] #[.pointer (some ⟨pb0, 0, none⟩)]), (4, .pointer (some ⟨b51, 0, none⟩)), (6, .pointer (some ⟨b52, 0, none⟩)), (7, .slice a66 q65.length c67), (9, .pointer (some ⟨b88, 0, none⟩)), (10, .slice a91 q89.length c92), (11, .slice a_v0 x0.length c_v0), (12, .int .i64 ((x0.length : Nat) : Int)), (13, .int .i64 ((k55 : Nat) : Int)), (27, .bool q101)] ∧ St w s94 (pt pb0 (.cells #[.slice a_y0_0 y0.Trains.length c_y0_0, .slice a_y0_1 y0.Turns.length c_y0_1] 25 (0, 0)) :: pt b88 (.cells #[.slice a85 x75.Rides.length c86] 28 (0, 0)) :: pt b52 (.cells #[.slice a71 q70.length c72] 28 (0, 0)) :: pt b51 (.cells #[.slice none 0 0] 28 (0, 0)) :: vecC 28 1 a_v0 c_v0 x0.length cs_v0 :: R)) ?_ ?_
   ·refine W.gen fun K102 hK102 => ?_
    refine W.region ?_
    refine vP hS hE (Gives.p hE rfl) rfl ?_; clear hE a; intro a hE
    refine vP hS hE (Gives.isNilZ hE (isNone_eq h68 hz69) rfl rfl isl45) rfl ?_; clear hE a; intro a hE
    refine vP hS hE (Gives.p hE rfl) rfl ?_; clear hE a; intro a hE
    rcases Bool.eq_false_or_eq_true q65.isEmpty with hg103 | hg103
    ·replace hq97 := iteT hg103 hq97
     refine WL.no hE (runs_not hE rfl rfl rfl (by rw [hg103]; decide)) rfl ?_; clear hE a; intro a hE
     refine WL.no hE (runs_not hE rfl rfl rfl (by rw [hg103]; decide)) rfl ?_; clear hE a; intro a hE
     refine WL.no hE (runs_not hE rfl rfl rfl (by rw [hg103]; decide)) rfl ?_; clear hE a; intro a hE
     refine WL.no hE (runs_not hE rfl rfl rfl (by rw [hg103]; decide)) rfl ?_; clear hE a; intro a hE
     refine vP hS hE (Gives.pickT hE rfl hg103 rfl) rfl ?_; clear hE a; intro a hE
     refine WL.nil ?_
     subst hK102
     exact ⟨true, Option.some.inj hq97, hE.pick _ ⟨rfl, rfl, rfl, rfl, rfl, rfl, rfl, rfl, rfl, rfl, trivial⟩, hS⟩
    ·replace hq97 := iteF hg103 hq97
     refine WL.vS hS hE (runs_if hE rfl rfl rfl hg103) (Gives.p hE rfl) rfl ?_; clear hE a; intro a hE
     refine WL.vS hS hE (runs_if hE rfl rfl rfl hg103) (Gives.p hE rfl) rfl ?_; clear hE a; intro a hE
     obtain ⟨q104, hq105, hq97⟩ := bindS hq97
     have hc_ := SlicesCompareLint_ok hS h93 h68 hq105
     refine WL.fnq hE (hc_) (runs_if hE rfl rfl rfl hg103) bd82 rfl rfl rfl ?_
     clear hE hS hc_; rintro e w ⟨rfl, hS⟩; refine ⟨_, rfl, ?_⟩; clear a; intro a hE
     refine WL.vS hS hE (runs_if hE rfl rfl rfl hg103) (Gives.p hE rfl) rfl ?_; clear hE a; intro a hE
     refine vP hS hE (Gives.pickF hE rfl hg103 rfl) rfl ?_; clear hE a; intro a hE
     refine WL.nil ?_
     subst hK102
     exact ⟨decide (q104 < 0), Option.some.inj hq97, hE.pick _ ⟨rfl, rfl, rfl, rfl, rfl, rfl, rfl, rfl, rfl, rfl, trivial⟩, hS⟩
   ·clear hE hS a w; rintro a w ⟨q101, rfl, hE, hS⟩
    obtain ⟨q107, hq106, hq53⟩ := bndS hq53
    refine W.cut (fun a w => ∃ (q110 : List Int), ∃ (q115 : List GuideRide), ∃ (a111 : Option Addr), ∃ (c112 : Nat), ∃ (a116 : Option Addr), ∃ (c117 : Nat), (q110, q115) = q107 ∧ Sl 1 (RI .i64) s94 a111 c112 q110 ∧ (q110 = [] → a111 = none) ∧ Sl 3 RGuideRide s94 a116 c117 q115 ∧ Rep a 34 [(1, .func (.func 64) #[] #[.pointer (some ⟨pb0, 0, none⟩)]), (4, .pointer (some ⟨b51, 0, none⟩)), (6, .pointer (some ⟨b52, 0, none⟩)), (7, .slice a111 q110.length c112), (11, .slice a_v0 x0.length c_v0), (12, .int .i64 ((x0.length : Nat) : Int)), (13, .int .i64 ((k55 : Nat) : Int))] ∧ St w s94 (pt pb0 (.cells #[.slice a_y0_0 y0.Trains.length c_y0_0, .slice a_y0_1 y0.Turns.length c_y0_1] 25 (0, 0)) :: pt b88 (.cells #[.slice a85 x75.Rides.length c86] 28 (0, 0)) :: pt b52 (.cells #[.slice a116 q115.length c117] 28 (0, 0)) :: pt b51 (.cells #[.slice none 0 0] 28 (0, 0)) :: vecC 28 1 a_v0 c_v0 x0.length cs_v0 :: R)) ?_ ?_
    ·refine W.gen fun K119 hK119 => ?_
     refine W.cond hE rfl (fun hc120 => ?_) (fun hc120 => ?_)
     ·replace hq106 := iteT hc120 hq106
      refine W.region ?_
      refine vP hS hE (Gives.loadBA hE 1 rfl rfl ty28) rfl ?_; clear hE a; intro a hE
      refine vP hS hE (Gives.p hE rfl) rfl ?_; clear hE a; intro a hE
      refine WL.storeI hE hS 2 rfl [.slice a85 x75.Rides.length c86] (runs_plain rfl) rfl rfl rfl ty28 rfl rfl rfl rfl ?_; clear hE hS a w; intro a w hE hS
      refine vP hS hE (Gives.p hE rfl) rfl ?_; clear hE a; intro a hE
      refine WL.nil ?_
      subst hK119
      exact ⟨q89, x75.Rides, a91, c92, a85, c86, hq106, h93, (nz_some hx96), h87, hE.pick _ ⟨rfl, rfl, rfl, rfl, rfl, rfl, rfl, trivial⟩, hS⟩
     ·replace hq106 := iteF hc120 hq106
      refine W.skip ?_
      subst hK119
      exact ⟨q65, q70, a66, c67, a71, c72, hq106, h68, hz69, h73, hE.pick _ ⟨rfl, rfl, rfl, rfl, rfl, rfl, rfl, trivial⟩, hS⟩
    ·clear hE hS a w; rintro a w ⟨q110, q115, a111, c112, a116, c117, rfl, h113, hz114, h118, hE, hS⟩
     dsimp only at hq53
     refine W.region ?_
     refine vP hS hE (Gives.inc hE rfl (by omega)) rfl ?_; clear hE a; intro a hE
     refine vP hS hE (Gives.p hE rfl) rfl ?_; clear hE a; intro a hE
     refine WL.nil ?_
     replace hS := hS.dropAt 1
     replace hS := hS.front 3 rfl
     replace hS := hS.front 1 rfl
     replace hS := hS.front 3 rfl
     replace hS := hS.front 3 rfl
     subst hK74
     exact ⟨rest57, Nat.lt_succ_self _, rest57, k55 + 1, q110, q115, a111, c112, a116, c117, s94, rfl, (by omega), (Sg.Le.trans hle63 hle95), hq53, h113, hz114, h118, hE.pick _ ⟨rfl, rfl, rfl, rfl, rfl, rfl, rfl, trivial⟩, hS⟩
 ·clear hE hS a w; rintro a w ⟨q65, q70, a66, c67, a71, c72, s62, hle63, rfl, h68, hz69, h73, hE, hS⟩
  dsimp only at hr
  replace h_y0_0 := Sl.mono RApiTrain.mono hle63 h_y0_0
  replace h_y0_1 := Sl.mono (RL.mono RI.mono) hle63 h_y0_1
  replace h_v0 := Ev.mono RGuideJourney.mono hle63 h_v0
  refine W.seq (W.region ?_)
  refine vP hS hE (Gives.loadBA hE 0 rfl rfl ty28) rfl ?_; clear hE a; intro a hE
  refine vP hS hE (Gives.p hE rfl) rfl ?_; clear hE a; intro a hE
  refine vP hS hE (Gives.notNilZ hE (isNone_eq h68 hz69) rfl rfl isl45) rfl ?_; clear hE a; intro a hE
  refine WL.storeI hE hS 1 rfl [.slice a71 q70.length c72] (runs_plain rfl) rfl rfl rfl ty28 rfl rfl rfl rfl ?_; clear hE hS a w; intro a w hE hS
  refine vP hS hE (Gives.p hE rfl) rfl ?_; clear hE a; intro a hE
  refine WL.nil ?_
  refine W.ret ?_
  refine finG (fn := Tryd.f61) (rs := [.cell 4 28, .tmp 5]) (vs := [_, _]) hE rfl ⟨⟨_, rfl, .inl ⟨_, rfl, hS.seesAt 1 rfl, ty28⟩⟩, rfl, trivial⟩ ?_
  obtain rfl := Option.some.inj hr
  replace hS := hS.tail
  replace hS := hS.tail
  exact ⟨_, s62, rfl, hle63, ⟨_, _, rfl, h73⟩, hS⟩
set_option maxHeartbeats 8000000 in
theorem Fishref2LatestOf_ok {fu : Nat}  {w : World} {s : Sg} {R : List HP} {x0 : ApiDay} {a0_0 : Option Addr} {c0_0 : Nat} {a0_1 : Option Addr} {c0_1 : Nat} {x1 : Int} {x2 : Int} {x3 : Int} {x4 : Int} (hS : St w s (R)) (h0_0 : Sl 4 RApiTrain s a0_0 c0_0 x0.Trains) (h0_1 : Sl 1 (RL 1 (RI .i64)) s a0_1 c0_1 x0.Turns) {r : GuideJourney × Int} (hr : Fishref2LatestOf fu x0 x1 x2 x3 x4 = some r) :
  Calls Tryd.prog 15 [.agg [.slice a0_0 x0.Trains.length c0_0, .slice a0_1 x0.Turns.length c0_1].toArray, .int .i64 x1, .int .i64 x2, .int .i64 x3, .int .i64 x4].toArray w (fun e w => ∃ (cs0 : List Value) (t : Sg), e = .returned (.tuple #[.agg cs0.toArray, .int .i64 r.2]) ∧ s.Le t ∧ RGuideJourney t cs0 r.1 ∧ St w t (R)) := by
 refine enter Tryd.func15 rfl rfl rfl fun a hE => ?_
 rw [Fishref2LatestOf] at hr
 refine W.seq (W.region ?_)
 refine WL.box hE hS (runs_plain rfl) rfl rfl rfl ?_; clear hE hS a w; intro b51 a w hE hS
 refine WL.alloc hE hS (runs_plain rfl) zr28 rfl ?_; clear hE hS a w; intro b52 a w hE hS
 refine vP hS hE (Gives.p hE rfl) rfl ?_; clear hE a; intro a hE
 refine WL.nil ?_
 refine W.seq ?_
 refine W.seq (W.region ?_)
 refine vP hS hE (Gives.p hE rfl) rfl ?_; clear hE a; intro a hE
 refine vP hS hE (Gives.p hE rfl) rfl ?_; clear hE a; intro a hE
 refine vP hS hE (Gives.p hE rfl) rfl ?_; clear hE a; intro a hE
 refine vP hS hE (Gives.p hE rfl) rfl ?_; clear hE a; intro a hE
 refine WL.fnq hE (Fishref2SearchFault_ok hS  rfl (r := Fishref2SearchFault x4 x1 x2 x3 true true)) (runs_plain rfl) bd22 rfl rfl rfl ?_
 clear hE hS; rintro e w ⟨rfl, hS⟩; refine ⟨_, rfl, ?_⟩; clear a; intro a hE
 refine vP hS hE (Gives.p hE rfl) rfl ?_; clear hE a; intro a hE
 refine WL.nil ?_
 refine W.seq (W.region ?_)
 refine vP hS hE (Gives.p hE rfl) rfl ?_; clear hE a; intro a hE
 refine vP hS hE (Gives.p hE rfl) rfl ?_; clear hE a; intro a hE
 refine WL.nil ?_
 refine W.cond hE rfl (fun hc53 => ?_) (fun hc53 => ?_)
 ·replace hr := iteT hc53 hr
  refine W.seq (W.region ?_)
  refine vP hS hE (Gives.build hE (vs := []) [.slice none 0 0] rfl (by kernel_rfl)) rfl ?_; clear hE a; intro a hE
  refine vP hS hE (Gives.p hE rfl) rfl ?_; clear hE a; intro a hE
  refine WL.storeI hE hS 0 rfl [.slice none 0 0] (runs_plain rfl) rfl rfl rfl ty28 rfl rfl rfl rfl ?_; clear hE hS a w; intro a w hE hS
  refine vP hS hE (Gives.p hE rfl) rfl ?_; clear hE a; intro a hE
  refine WL.nil ?_
  refine W.ret ?_
  refine finG (fn := Tryd.f15) (rs := [.cell 10 28, .tmp 11]) (vs := [_, _]) hE rfl ⟨⟨_, rfl, .inl ⟨_, rfl, hS.seesAt 0 rfl, ty28⟩⟩, rfl, trivial⟩ ?_
  obtain rfl := Option.some.inj hr
  replace hS := hS.tail
  replace hS := hS.tail
  exact ⟨_, s, rfl, (Sg.Le.refl _), ⟨_, _, rfl, Sl.nil⟩, hS⟩
 ·replace hr := iteF hc53 hr
  refine W.skip ?_
  refine W.seq (W.region ?_)
  replace hS := hS.vecNil 28 1
  refine vP hS hE (Gives.p hE rfl) rfl ?_; clear hE a; intro a hE
  refine WL.nil ?_
  refine W.seq ?_
  refine W.seq (W.region ?_)
  refine vP hS hE (Gives.loadBA hE 2 rfl rfl ty25) rfl ?_; clear hE a; intro a hE
  refine vP hS hE (Gives.p hE rfl) rfl ?_; clear hE a; intro a hE
  refine vP hS hE (Gives.p hE rfl) rfl ?_; clear hE a; intro a hE
  refine vP hS hE (Gives.p hE rfl) rfl ?_; clear hE a; intro a hE
  obtain ⟨q55, hq56, hr⟩ := bindS hr
  have hc_ := Fishref2AllOf_ok hS h0_0 h0_1 hq56
  refine WL.fnq hE (hc_) (runs_plain rfl) bd29 rfl rfl rfl ?_
  clear hE hS hc_; rintro e w ⟨a57, c58, n59, cs60, s63, rfl, hle64, h61, rfl, hS⟩; refine ⟨_, rfl, ?_⟩; clear a; intro a hE
  replace h0_0 := Sl.mono RApiTrain.mono hle64 h0_0
  replace h0_1 := Sl.mono (RL.mono RI.mono) hle64 h0_1
  refine vP hS hE (Gives.len hE rfl sl39) rfl ?_; clear hE a; intro a hE
  refine vP hS hE (Gives.p hE rfl) rfl ?_; clear hE a; intro a hE
  refine WL.nil ?_
  have hb76 : q55.length ≤ 9223372036854775807 := by have := hS.vecCap 0 rfl; unfold maxLen at this; omega
  obtain ⟨q66, hq65, hr⟩ := bindS hr
  refine W.cut (fun a w => ∃ (q77 : List GuideJourney), ∃ (a78 : Option Addr), ∃ (c79 : Nat), ∃ (n81 : Nat), ∃ (cs82 : List Value), q77 = q66 ∧ Ev 1 RGuideJourney s63 cs82 q77 ∧ q77.length = n81 ∧ Rep a 57 [(5, .pointer (some ⟨b51, 0, none⟩)), (10, .pointer (some ⟨b52, 0, none⟩)), (13, .slice a78 n81 c79)] ∧ St w s63 (vecC 28 1 a57 c58 q55.length cs60 :: vecC 28 1 a78 c79 n81 cs82 :: pt b52 (.cells #[.slice none 0 0] 28 (0, 0)) :: pt b51 (.cells #[.slice a0_0 x0.Trains.length c0_0, .slice a0_1 x0.Turns.length c0_1] 25 (0, 0)) :: R)) ?_ ?_
  ·refine W.block ?_
   refine W.loop (fun m a w => ∃ (rest69 : Nat) (k67 : Nat), ∃ (q77 : List GuideJourney), ∃ (a78 : Option Addr), ∃ (c79 : Nat), ∃ (n81 : Nat), ∃ (cs82 : List Value), rest69 = m ∧ k67 + rest69 = q55.length ∧ Fishref2LatestOf.loop1 x0 x3 q55 rest69 k67 q77 = some q66 ∧ Ev 1 RGuideJourney s63 cs82 q77 ∧ q77.length = n81 ∧ Rep a 57 [(3, .int .i64 x3), (5, .pointer (some ⟨b51, 0, none⟩)), (10, .pointer (some ⟨b52, 0, none⟩)), (13, .slice a78 n81 c79), (31, .slice a57 q55.length c58), (32, .int .i64 ((q55.length : Nat) : Int)), (33, .int .i64 ((k67 : Nat) : Int))] ∧ St w s63 (vecC 28 1 a57 c58 q55.length cs60 :: vecC 28 1 a78 c79 n81 cs82 :: pt b52 (.cells #[.slice none 0 0] 28 (0, 0)) :: pt b51 (.cells #[.slice a0_0 x0.Trains.length c0_0, .slice a0_1 x0.Turns.length c0_1] 25 (0, 0)) :: R)) (m := q55.length) ⟨q55.length, 0, [], none, 0, 0, [], rfl, by omega, hq65, (Ev.nil), (rfl), hE.pick _ ⟨rfl, rfl, rfl, rfl, rfl, rfl, rfl, trivial⟩, hS⟩ ?_
   clear hE hS a w hq65; rintro m73 a w ⟨rest69, k67, q77, a78, c79, n81, cs82, rfl, hd70, hq65, h80, rfl, hE, hS⟩
   refine W.gen fun K84 hK84 => ?_
   rcases rest69 with _ | rest69
   ·skip
    refine W.seq (W.region ?_)
    refine vP hS hE (Gives.p hE rfl) rfl ?_; clear hE a; intro a hE
    refine WL.nil ?_
    refine W.seq ?_
    refine W.condF hE rfl (decide_eq_false (by omega)) ?_
    subst hK84
    refine W.exit rfl ?_
    exact ⟨q77, a78, c79, q77.length, cs82, Option.some.inj hq65, h80, rfl, hE.pick _ ⟨rfl, rfl, rfl, trivial⟩, hS⟩
   ·have hlt71 : k67 < q55.length := by omega
    rw [Fishref2LatestOf.loop1] at hq65
    refine W.seq (W.region ?_)
    refine vP hS hE (Gives.p hE rfl) rfl ?_; clear hE a; intro a hE
    refine WL.nil ?_
    refine W.seq ?_
    refine W.condT hE rfl (decide_eq_true (by omega)) ?_
    refine W.skip ?_
    refine W.seq ?_
    refine W.block ?_
    refine W.seq (W.region ?_)
    obtain ⟨x85, hx86, hq65⟩ := bindS hq65
    obtain ⟨hi87, hlt88, hy89⟩ := gx_some hx86
    obtain ⟨vs90, hl91, hR92, hd93, hget94⟩ := h61.at hy89
    obtain ⟨a95, c96, rfl, h97⟩ := hR92
    refine vP hS hE (Gives.idx hE ((((k67 : Nat) : Int)).toNat) rfl rfl sl39 hi87 (by omega) (hS.vecAok 0 rfl (by omega : (((k67 : Nat) : Int)).toNat < q55.length))) rfl ?_; clear hE a; intro a hE
    refine vP hS hE (Gives.loadA hE rfl (fun w h => St.vecSees h 0 rfl ((((k67 : Nat) : Int)).toNat * 1) _ hget94) ty28) rfl ?_; clear hE a; intro a hE
    refine WL.alloc hE hS (runs_plain rfl) zr28 rfl ?_; clear hE hS a w; intro b98 a w hE hS
    refine WL.storeI hE hS 0 rfl [.slice a95 x85.Rides.length c96] (runs_plain rfl) rfl rfl rfl ty28 rfl rfl rfl rfl ?_; clear hE hS a w; intro a w hE hS
    refine WL.nil ?_
    refine W.seq (W.region ?_)
    refine vP hS hE (Gives.loadBA hE 4 rfl rfl ty25) rfl ?_; clear hE a; intro a hE
    refine vP hS hE (Gives.loadBA hE 0 rfl rfl ty28) rfl ?_; clear hE a; intro a hE
    obtain ⟨q99, hq100, hq65⟩ := bindS hq65
    have hc_ := Fishref2Arrives_ok hS h0_0 h0_1 h97 hq100
    refine WL.fnq hE (hc_) (runs_plain rfl) bd63 rfl rfl rfl ?_
    clear hE hS hc_; rintro e w ⟨rfl, hS⟩; refine ⟨_, rfl, ?_⟩; clear a; intro a hE
    refine vP hS hE (Gives.p hE rfl) rfl ?_; clear hE a; intro a hE
    refine vP hS hE (Gives.p hE rfl) rfl ?_; clear hE a; intro a hE
    refine WL.nil ?_
    obtain ⟨q102, hq101, hq65⟩ := bindS hq65
    refine W.cut (fun a w => ∃ (q105 : List GuideJourney), ∃ (a106 : Option Addr), ∃ (c107 : Nat), ∃ (n109 : Nat), ∃ (cs110 : List Value), q105 = q102 ∧ Ev 1 RGuideJourney s63 cs110 q105 ∧ q105.length = n109 ∧ Rep a 57 [(3, .int .i64 x3), (5, .pointer (some ⟨b51, 0, none⟩)), (10, .pointer (some ⟨b52, 0, none⟩)), (13, .slice a106 n109 c107), (31, .slice a57 q55.length c58), (32, .int .i64 ((q55.length : Nat) : Int)), (33, .int .i64 ((k67 : Nat) : Int))] ∧ St w s63 (pt b98 (.cells #[.slice a95 x85.Rides.length c96] 28 (0, 0)) :: vecC 28 1 a57 c58 q55.length cs60 :: vecC 28 1 a106 c107 n109 cs110 :: pt b52 (.cells #[.slice none 0 0] 28 (0, 0)) :: pt b51 (.cells #[.slice a0_0 x0.Trains.length c0_0, .slice a0_1 x0.Turns.length c0_1] 25 (0, 0)) :: R)) ?_ ?_
    ·refine W.gen fun K112 hK112 => ?_
     refine W.cond hE rfl (fun hc113 => ?_) (fun hc113 => ?_)
     ·replace hq101 := iteT hc113 hq101
      refine W.region ?_
      refine vP hS hE (Gives.p hE rfl) rfl ?_; clear hE a; intro a hE
      refine vP hS hE (Gives.loadBA hE 0 rfl rfl ty28) rfl ?_; clear hE a; intro a hE
      refine WL.lit hE hS (e := 28) (es := 1) (vs := [(0, .agg [.slice a95 x85.Rides.length c96].toArray)]) (cs := [.slice a95 x85.Rides.length c96]) (runs_plain rfl) rfl (by kernel_rfl) rfl ?_; clear hE hS a w; intro b114 a w hE hS
      obtain ⟨x115, hx116, hq101⟩ := bindS hq101
      refine WL.appD hE hS 2 (m := 1) (runs_plain rfl) rfl rfl rfl ap39 rfl h80 rfl (xs := [x85]) (Ev.cons (c1 := [.slice a95 x85.Rides.length c96]) ⟨_, _, rfl, h97⟩ rfl (Ev.nil)) rfl rfl hx116 rfl ?_; clear hE hS a w; intro a117 c118 cs119 a w h120 hE hS
      refine vP hS hE (Gives.p hE rfl) rfl ?_; clear hE a; intro a hE
      refine WL.nil ?_
      subst hK112
      exact ⟨x115, a117, c118, x115.length, cs119, Option.some.inj hq101, h120, (rfl), hE.pick _ ⟨rfl, rfl, rfl, rfl, rfl, rfl, rfl, trivial⟩, hS⟩
     ·replace hq101 := iteF hc113 hq101
      refine W.skip ?_
      subst hK112
      exact ⟨q77, a78, c79, q77.length, cs82, Option.some.inj hq101, h80, rfl, hE.pick _ ⟨rfl, rfl, rfl, rfl, rfl, rfl, rfl, trivial⟩, hS⟩
    ·clear hE hS a w; rintro a w ⟨q105, a106, c107, n109, cs110, rfl, h108, rfl, hE, hS⟩
     refine W.region ?_
     refine vP hS hE (Gives.inc hE rfl (by omega)) rfl ?_; clear hE a; intro a hE
     refine vP hS hE (Gives.p hE rfl) rfl ?_; clear hE a; intro a hE
     refine WL.nil ?_
     replace hS := hS.tail
     subst hK84
     exact ⟨rest69, Nat.lt_succ_self _, rest69, k67 + 1, q105, a106, c107, q105.length, cs110, rfl, (by omega), hq65, h108, rfl, hE.pick _ ⟨rfl, rfl, rfl, rfl, rfl, rfl, rfl, trivial⟩, hS⟩
  ·clear hE hS a w; rintro a w ⟨q77, a78, c79, n81, cs82, rfl, h80, rfl, hE, hS⟩
   refine W.seq (W.region ?_)
   refine vP hS hE (Gives.p hE rfl) rfl ?_; clear hE a; intro a hE
   refine vP hS hE (Gives.mkfn hE (vs := [.pointer (some ⟨b51, 0, none⟩)]) rfl) rfl ?_; clear hE a; intro a hE
   obtain ⟨q121, hq122, hr⟩ := bindS hr
   replace hS := hS.front 1 rfl
   replace hS := hS.front 3 rfl
   have hc_ := Fishref2Choose_v4_ok (y0 := x0) hS h80 rfl h0_0 h0_1 hq122
   refine WL.fnq hE (hc_) (runs_plain rfl) bd61 rfl rfl rfl ?_
   clear hE hS hc_; rintro e w ⟨cs123, s125, rfl, hle126, h124, hS⟩; refine ⟨_, rfl, ?_⟩; clear a; intro a hE
   replace h0_0 := Sl.mono RApiTrain.mono hle126 h0_0
   replace h0_1 := Sl.mono (RL.mono RI.mono) hle126 h0_1
   replace h80 := Ev.mono RGuideJourney.mono hle126 h80
   replace h61 := Ev.mono RGuideJourney.mono hle126 h61
   obtain ⟨a127, c128, rfl, h129⟩ := h124
   refine vP hS hE (Gives.p hE rfl) rfl ?_; clear hE a; intro a hE
   refine vP hS hE (Gives.p hE rfl) rfl ?_; clear hE a; intro a hE
   refine vP hS hE (Gives.p hE rfl) rfl ?_; clear hE a; intro a hE
   refine WL.alloc hE hS (runs_plain rfl) zr28 rfl ?_; clear hE hS a w; intro b130 a w hE hS
   refine WL.storeI hE hS 0 rfl [.slice a127 q121.1.Rides.length c128] (runs_plain rfl) rfl rfl rfl ty28 rfl rfl rfl rfl ?_; clear hE hS a w; intro a w hE hS
   refine vP hS hE (Gives.p hE rfl) rfl ?_; clear hE a; intro a hE
   refine WL.nil ?_
   refine W.seq ?_
   refine W.seq (W.region ?_)
   refine vP hS hE (Gives.p hE rfl) rfl ?_; clear hE a; intro a hE
   refine vP hS hE (Gives.p hE rfl) rfl ?_; clear hE a; intro a hE
   refine WL.nil ?_
   refine W.cond hE rfl (fun hc131 => ?_) (fun hc131 => ?_)
   ·replace hr := iteT hc131 hr
    refine W.seq (W.region ?_)
    refine vP hS hE (Gives.build hE (vs := []) [.slice none 0 0] rfl (by kernel_rfl)) rfl ?_; clear hE a; intro a hE
    refine WL.storeI hE hS 4 rfl [.slice none 0 0] (runs_plain rfl) rfl rfl rfl ty28 rfl rfl rfl rfl ?_; clear hE hS a w; intro a w hE hS
    refine vP hS hE (Gives.p hE rfl) rfl ?_; clear hE a; intro a hE
    refine WL.nil ?_
    refine W.ret ?_
    refine finG (fn := Tryd.f15) (rs := [.cell 10 28, .tmp 11]) (vs := [_, _]) hE rfl ⟨⟨_, rfl, .inl ⟨_, rfl, hS.seesAt 4 rfl, ty28⟩⟩, rfl, trivial⟩ ?_
    obtain rfl := Option.some.inj hr
    replace hS := hS.tail
    replace hS := hS.tail
    replace hS := hS.tail
    replace hS := hS.tail
    replace hS := hS.tail
    exact ⟨_, s125, rfl, (Sg.Le.trans hle64 hle126), ⟨_, _, rfl, Sl.nil⟩, hS⟩
   ·replace hr := iteF hc131 hr
    refine W.skip ?_
    refine W.seq (W.region ?_)
    refine vP hS hE (Gives.loadBA hE 0 rfl rfl ty28) rfl ?_; clear hE a; intro a hE
    refine WL.storeI hE hS 4 rfl [.slice a127 q121.1.Rides.length c128] (runs_plain rfl) rfl rfl rfl ty28 rfl rfl rfl rfl ?_; clear hE hS a w; intro a w hE hS
    refine vP hS hE (Gives.p hE rfl) rfl ?_; clear hE a; intro a hE
    refine WL.nil ?_
    refine W.ret ?_
    refine finG (fn := Tryd.f15) (rs := [.cell 10 28, .tmp 11]) (vs := [_, _]) hE rfl ⟨⟨_, rfl, .inl ⟨_, rfl, hS.seesAt 4 rfl, ty28⟩⟩, rfl, trivial⟩ ?_
    obtain rfl := Option.some.inj hr
    replace hS := hS.tail
    replace hS := hS.tail
    replace hS := hS.tail
    replace hS := hS.tail
    replace hS := hS.tail
    exact ⟨_, s125, rfl, (Sg.Le.trans hle64 hle126), ⟨_, _, rfl, h129⟩, hS⟩
set_option maxHeartbeats 8000000 in
theorem Fishlaw2sameJourney_ok  {w : World} {s : Sg} {R : List HP} {x0 : GuideJourney} {a0_0 : Option Addr} {c0_0 : Nat} {x1 : GuideJourney} {a1_0 : Option Addr} {c1_0 : Nat} (hS : St w s (R)) (h0_0 : Sl 3 RGuideRide s a0_0 c0_0 x0.Rides) (h1_0 : Sl 3 RGuideRide s a1_0 c1_0 x1.Rides) {r : Bool} (hr : Fishlaw2sameJourney x0 x1 = some r) :
  Calls Tryd.prog 16 [.agg [.slice a0_0 x0.Rides.length c0_0].toArray, .agg [.slice a1_0 x1.Rides.length c1_0].toArray].toArray w (fun e w => e = .returned (.bool r) ∧ St w s (R)) := by
 refine enter Tryd.func16 rfl rfl rfl fun a hE => ?_
 rw [Fishlaw2sameJourney] at hr
 refine W.seq (W.region ?_)
 refine WL.box hE hS (runs_plain rfl) rfl rfl rfl ?_; clear hE hS a w; intro b51 a w hE hS
 refine WL.box hE hS (runs_plain rfl) rfl rfl rfl ?_; clear hE hS a w; intro b52 a w hE hS
 refine vP hS hE (Gives.p hE rfl) rfl ?_; clear hE a; intro a hE
 refine WL.nil ?_
 refine W.seq (W.region ?_)
 refine vP hS hE (Gives.fld hE rfl fl28_0) rfl ?_; clear hE a; intro a hE
 refine vP hS hE (Gives.loadB hE 1 rfl rfl rfl ty26) rfl ?_; clear hE a; intro a hE
 refine vP hS hE (Gives.fld hE rfl fl28_0) rfl ?_; clear hE a; intro a hE
 refine vP hS hE (Gives.loadB hE 0 rfl rfl rfl ty26) rfl ?_; clear hE a; intro a hE
 obtain ⟨q53, hq54, hr⟩ := bindS hr
 have hc_ := SlicesEqualLguideRide_ok hS h0_0 h1_0 hq54
 refine WL.fnq hE (hc_) (runs_plain rfl) bd59 rfl rfl rfl ?_
 clear hE hS hc_; rintro e w ⟨rfl, hS⟩; refine ⟨_, rfl, ?_⟩; clear a; intro a hE
 refine vP hS hE (Gives.p hE rfl) rfl ?_; clear hE a; intro a hE
 refine WL.nil ?_
 refine W.ret ?_
 refine finG (fn := Tryd.f16) (rs := [.tmp 4]) (vs := [_]) hE rfl ⟨rfl, trivial⟩ ?_
 obtain rfl := Option.some.inj hr
 replace hS := hS.tail
 replace hS := hS.tail
 exact ⟨rfl, hS⟩
set_option maxHeartbeats 8000000 in
theorem Fishlaw2GuideEarliest_ok {fu : Nat}  {w : World} {s : Sg} {R : List HP} {x0 : ApiDay} {a0_0 : Option Addr} {c0_0 : Nat} {a0_1 : Option Addr} {c0_1 : Nat} {x1 : Int} {x2 : Int} {x3 : Int} {x4 : Int} (hS : St w s (R)) (hTab : TabS Tryd.prog s) (h0_0 : Sl 4 RApiTrain s a0_0 c0_0 x0.Trains) (h0_1 : Sl 1 (RL 1 (RI .i64)) s a0_1 c0_1 x0.Turns) {r : Bool} (hr : Fishlaw2GuideEarliest fu x0 x1 x2 x3 x4 = some r) :
  Calls Tryd.prog 3 [.agg [.slice a0_0 x0.Trains.length c0_0, .slice a0_1 x0.Turns.length c0_1].toArray, .int .i64 x1, .int .i64 x2, .int .i64 x3, .int .i64 x4].toArray w (fun e w => e = .returned (.bool r) ∧ St w s (R)) := by
 refine enter Tryd.func3 rfl rfl rfl fun a hE => ?_
 rw [Fishlaw2GuideEarliest] at hr
 refine W.seq (W.region ?_)
 refine WL.box hE hS (runs_plain rfl) rfl rfl rfl ?_; clear hE hS a w; intro b51 a w hE hS
 refine vP hS hE (Gives.p hE rfl) rfl ?_; clear hE a; intro a hE
 refine WL.nil ?_
 refine W.seq (W.region ?_)
 refine vP hS hE (Gives.loadBA hE 0 rfl rfl ty25) rfl ?_; clear hE a; intro a hE
 refine vP hS hE (Gives.p hE rfl) rfl ?_; clear hE a; intro a hE
 refine vP hS hE (Gives.p hE rfl) rfl ?_; clear hE a; intro a hE
 refine vP hS hE (Gives.p hE rfl) rfl ?_; clear hE a; intro a hE
 refine vP hS hE (Gives.p hE rfl) rfl ?_; clear hE a; intro a hE
 obtain ⟨q52, hq53, hr⟩ := bindS hr
 have hc_ := GuideEarliest_ok hS (TabS.mono (Sg.Le.refl _) hTab) h0_0 h0_1 hq53
 refine WL.fnq hE (hc_) (runs_plain rfl) bd10 rfl rfl rfl ?_
 clear hE hS hc_; rintro e w ⟨cs54, s56, rfl, hle57, h55, hS⟩; refine ⟨_, rfl, ?_⟩; clear a; intro a hE
 replace h0_0 := Sl.mono RApiTrain.mono hle57 h0_0
 replace h0_1 := Sl.mono (RL.mono RI.mono) hle57 h0_1
 obtain ⟨a58, c59, rfl, h60⟩ := h55
 refine vP hS hE (Gives.p hE rfl) rfl ?_; clear hE a; intro a hE
 refine vP hS hE (Gives.p hE rfl) rfl ?_; clear hE a; intro a hE
 refine vP hS hE (Gives.p hE rfl) rfl ?_; clear hE a; intro a hE
 refine WL.alloc hE hS (runs_plain rfl) zr28 rfl ?_; clear hE hS a w; intro b61 a w hE hS
 refine WL.storeI hE hS 0 rfl [.slice a58 q52.1.Rides.length c59] (runs_plain rfl) rfl rfl rfl ty28 rfl rfl rfl rfl ?_; clear hE hS a w; intro a w hE hS
 refine vP hS hE (Gives.p hE rfl) rfl ?_; clear hE a; intro a hE
 refine WL.nil ?_
 refine W.seq (W.region ?_)
 refine vP hS hE (Gives.loadBA hE 1 rfl rfl ty25) rfl ?_; clear hE a; intro a hE
 refine vP hS hE (Gives.p hE rfl) rfl ?_; clear hE a; intro a hE
 refine vP hS hE (Gives.p hE rfl) rfl ?_; clear hE a; intro a hE
 refine vP hS hE (Gives.p hE rfl) rfl ?_; clear hE a; intro a hE
 refine vP hS hE (Gives.p hE rfl) rfl ?_; clear hE a; intro a hE
 obtain ⟨q62, hq63, hr⟩ := bindS hr
 have hc_ := GuideLatest_ok hS (TabS.mono hle57 hTab) h0_0 h0_1 hq63
 refine WL.fnq hE (hc_) (runs_plain rfl) bd11 rfl rfl rfl ?_
 clear hE hS hc_; rintro e w ⟨cs64, s66, rfl, hle67, h65, hS⟩; refine ⟨_, rfl, ?_⟩; clear a; intro a hE
 replace h0_0 := Sl.mono RApiTrain.mono hle67 h0_0
 replace h0_1 := Sl.mono (RL.mono RI.mono) hle67 h0_1
 replace h60 := Sl.mono RGuideRide.mono hle67 h60
 obtain ⟨a68, c69, rfl, h70⟩ := h65
 refine vP hS hE (Gives.p hE rfl) rfl ?_; clear hE a; intro a hE
 refine vP hS hE (Gives.p hE rfl) rfl ?_; clear hE a; intro a hE
 refine vP hS hE (Gives.p hE rfl) rfl ?_; clear hE a; intro a hE
 refine WL.alloc hE hS (runs_plain rfl) zr28 rfl ?_; clear hE hS a w; intro b71 a w hE hS
 refine WL.storeI hE hS 0 rfl [.slice a68 q62.1.Rides.length c69] (runs_plain rfl) rfl rfl rfl ty28 rfl rfl rfl rfl ?_; clear hE hS a w; intro a w hE hS
 refine vP hS hE (Gives.p hE rfl) rfl ?_; clear hE a; intro a hE
 refine WL.nil ?_
 refine W.seq ?_
 refine W.seq (W.region ?_)
 refine vP hS hE (Gives.loadBA hE 2 rfl rfl ty25) rfl ?_; clear hE a; intro a hE
 obtain ⟨q72, hq73, hr⟩ := bindS hr
 have hc_ := Fishref2GuideFault_ok hS h0_0 h0_1 hq73
 refine WL.fnq hE (hc_) (runs_plain rfl) bd12 rfl rfl rfl ?_
 clear hE hS hc_; rintro e w ⟨rfl, hS⟩; refine ⟨_, rfl, ?_⟩; clear a; intro a hE
 refine vP hS hE (Gives.p hE rfl) rfl ?_; clear hE a; intro a hE
 refine WL.nil ?_
 refine W.seq (W.region ?_)
 refine vP hS hE (Gives.p hE rfl) rfl ?_; clear hE a; intro a hE
 refine vP hS hE (Gives.p hE rfl) rfl ?_; clear hE a; intro a hE
 refine WL.nil ?_
 refine W.cond hE rfl (fun hc74 => ?_) (fun hc74 => ?_)
 ·replace hr := iteT hc74 hr
  refine W.seq ?_
  obtain ⟨q76, hq75, hr⟩ := bindS hr
  refine W.cut (fun a w => ∃ (q79 : Bool), q79 = q76 ∧ Rep a 102 [(10, .bool q79)] ∧ St w s66 (pt b71 (.cells #[.slice a68 q62.1.Rides.length c69] 28 (0, 0)) :: pt b61 (.cells #[.slice a58 q52.1.Rides.length c59] 28 (0, 0)) :: pt b51 (.cells #[.slice a0_0 x0.Trains.length c0_0, .slice a0_1 x0.Turns.length c0_1] 25 (0, 0)) :: R)) ?_ ?_
  ·refine W.gen fun K80 hK80 => ?_
   refine W.region ?_
   obtain ⟨q81, hq82, hq75⟩ := bindS hq75
   have hc_ := Fishlaw2guides_ok hS (TabS.mono (Sg.Le.trans hle57 hle67) hTab) hq82
   refine WL.fnq hE (hc_) (runs_plain rfl) bd13 rfl rfl rfl ?_
   clear hE hS hc_; rintro e w ⟨rfl, hS⟩; refine ⟨_, rfl, ?_⟩; clear a; intro a hE
   refine vP hS hE (Gives.p hE rfl) rfl ?_; clear hE a; intro a hE
   rcases Bool.eq_false_or_eq_true q81 with hg83 | hg83
   ·replace hq75 := iteT hg83 hq75
    refine WL.vS hS hE (runs_if hE rfl rfl rfl hg83) (Gives.p hE rfl) rfl ?_; clear hE a; intro a hE
    refine WL.vS hS hE (runs_if hE rfl rfl rfl hg83) (Gives.p hE rfl) rfl ?_; clear hE a; intro a hE
    refine WL.vS hS hE (runs_if hE rfl rfl rfl hg83) (Gives.p hE rfl) rfl ?_; clear hE a; intro a hE
    refine vP hS hE (Gives.pickT hE rfl hg83 rfl) rfl ?_; clear hE a; intro a hE
    refine vP hS hE (Gives.p hE rfl) rfl ?_; clear hE a; intro a hE
    rcases Bool.eq_false_or_eq_true (q52.2 == q72) with hg84 | hg84
    ·replace hq75 := iteT hg84 hq75
     refine WL.vS hS hE (runs_if hE rfl rfl rfl hg84) (Gives.p hE rfl) rfl ?_; clear hE a; intro a hE
     refine WL.vS hS hE (runs_if hE rfl rfl rfl hg84) (Gives.p hE rfl) rfl ?_; clear hE a; intro a hE
     refine WL.vS hS hE (runs_if hE rfl rfl rfl hg84) (Gives.p hE rfl) rfl ?_; clear hE a; intro a hE
     refine vP hS hE (Gives.pickT hE rfl hg84 rfl) rfl ?_; clear hE a; intro a hE
     refine vP hS hE (Gives.p hE rfl) rfl ?_; clear hE a; intro a hE
     rcases Bool.eq_false_or_eq_true (q62.2 == q72) with hg85 | hg85
     ·replace hq75 := iteT hg85 hq75
      refine WL.vS hS hE (runs_if hE rfl rfl rfl hg85) (Gives.fld hE rfl fl28_0) rfl ?_; clear hE a; intro a hE
      refine WL.vS hS hE (runs_if hE rfl rfl rfl hg85) (Gives.loadB hE 1 rfl rfl rfl ty26) rfl ?_; clear hE a; intro a hE
      refine WL.vS hS hE (runs_if hE rfl rfl rfl hg85) (Gives.len hE rfl sl26) rfl ?_; clear hE a; intro a hE
      refine WL.vS hS hE (runs_if hE rfl rfl rfl hg85) (Gives.fld hE rfl fl28_0) rfl ?_; clear hE a; intro a hE
      refine WL.vS hS hE (runs_if hE rfl rfl rfl hg85) (Gives.loadB hE 0 rfl rfl rfl ty26) rfl ?_; clear hE a; intro a hE
      refine WL.vS hS hE (runs_if hE rfl rfl rfl hg85) (Gives.len hE rfl sl26) rfl ?_; clear hE a; intro a hE
      refine WL.vS hS hE (runs_if hE rfl rfl rfl hg85) (Gives.p hE rfl) rfl ?_; clear hE a; intro a hE
      refine WL.vS hS hE (runs_if hE rfl rfl rfl hg85) (Gives.p hE rfl) rfl ?_; clear hE a; intro a hE
      refine vP hS hE (Gives.pickT hE rfl hg85 rfl) rfl ?_; clear hE a; intro a hE
      refine vP hS hE (Gives.p hE rfl) rfl ?_; clear hE a; intro a hE
      refine WL.nil ?_
      subst hK80
      exact ⟨((w64 (((q52.1.Rides).length : Int) + ((q62.1.Rides).length : Int))) == 0), Option.some.inj hq75, hE.pick _ ⟨rfl, trivial⟩, hS⟩
     ·replace hq75 := iteF hg85 hq75
      refine WL.no hE (runs_not hE rfl rfl rfl (by rw [hg85]; decide)) rfl ?_; clear hE a; intro a hE
      refine WL.no hE (runs_not hE rfl rfl rfl (by rw [hg85]; decide)) rfl ?_; clear hE a; intro a hE
      refine WL.no hE (runs_not hE rfl rfl rfl (by rw [hg85]; decide)) rfl ?_; clear hE a; intro a hE
      refine WL.no hE (runs_not hE rfl rfl rfl (by rw [hg85]; decide)) rfl ?_; clear hE a; intro a hE
      refine WL.no hE (runs_not hE rfl rfl rfl (by rw [hg85]; decide)) rfl ?_; clear hE a; intro a hE
      refine WL.no hE (runs_not hE rfl rfl rfl (by rw [hg85]; decide)) rfl ?_; clear hE a; intro a hE
      refine WL.no hE (runs_not hE rfl rfl rfl (by rw [hg85]; decide)) rfl ?_; clear hE a; intro a hE
      refine WL.no hE (runs_not hE rfl rfl rfl (by rw [hg85]; decide)) rfl ?_; clear hE a; intro a hE
      refine vP hS hE (Gives.pickF hE rfl hg85 rfl) rfl ?_; clear hE a; intro a hE
      refine vP hS hE (Gives.p hE rfl) rfl ?_; clear hE a; intro a hE
      refine WL.nil ?_
      subst hK80
      exact ⟨false, Option.some.inj hq75, hE.pick _ ⟨rfl, trivial⟩, hS⟩
    ·replace hq75 := iteF hg84 hq75
     refine WL.no hE (runs_not hE rfl rfl rfl (by rw [hg84]; decide)) rfl ?_; clear hE a; intro a hE
     refine WL.no hE (runs_not hE rfl rfl rfl (by rw [hg84]; decide)) rfl ?_; clear hE a; intro a hE
     refine WL.no hE (runs_not hE rfl rfl rfl (by rw [hg84]; decide)) rfl ?_; clear hE a; intro a hE
     refine vP hS hE (Gives.pickF hE rfl hg84 rfl) rfl ?_; clear hE a; intro a hE
     refine vP hS hE (Gives.p hE rfl) rfl ?_; clear hE a; intro a hE
     refine WL.no hE (runs_not hE rfl rfl rfl (by decide)) rfl ?_; clear hE a; intro a hE
     refine WL.no hE (runs_not hE rfl rfl rfl (by decide)) rfl ?_; clear hE a; intro a hE
     refine WL.no hE (runs_not hE rfl rfl rfl (by decide)) rfl ?_; clear hE a; intro a hE
     refine WL.no hE (runs_not hE rfl rfl rfl (by decide)) rfl ?_; clear hE a; intro a hE
     refine WL.no hE (runs_not hE rfl rfl rfl (by decide)) rfl ?_; clear hE a; intro a hE
     refine WL.no hE (runs_not hE rfl rfl rfl (by decide)) rfl ?_; clear hE a; intro a hE
     refine WL.no hE (runs_not hE rfl rfl rfl (by decide)) rfl ?_; clear hE a; intro a hE
     refine WL.no hE (runs_not hE rfl rfl rfl (by decide)) rfl ?_; clear hE a; intro a hE
     refine vP hS hE (Gives.pickF hE rfl rfl rfl) rfl ?_; clear hE a; intro a hE
     refine vP hS hE (Gives.p hE rfl) rfl ?_; clear hE a; intro a hE
     refine WL.nil ?_
     subst hK80
     exact ⟨false, Option.some.inj hq75, hE.pick _ ⟨rfl, trivial⟩, hS⟩
   ·replace hq75 := iteF hg83 hq75
    refine WL.no hE (runs_not hE rfl rfl rfl (by rw [hg83]; decide)) rfl ?_; clear hE a; intro a hE
    refine WL.no hE (runs_not hE rfl rfl rfl (by rw [hg83]; decide)) rfl ?_; clear hE a; intro a hE
    refine WL.no hE (runs_not hE rfl rfl rfl (by rw [hg83]; decide)) rfl ?_; clear hE a; intro a hE
    refine vP hS hE (Gives.pickF hE rfl hg83 rfl) rfl ?_; clear hE a; intro a hE
    refine vP hS hE (Gives.p hE rfl) rfl ?_; clear hE a; intro a hE
    refine WL.no hE (runs_not hE rfl rfl rfl (by decide)) rfl ?_; clear hE a; intro a hE
    refine WL.no hE (runs_not hE rfl rfl rfl (by decide)) rfl ?_; clear hE a; intro a hE
    refine WL.no hE (runs_not hE rfl rfl rfl (by decide)) rfl ?_; clear hE a; intro a hE
    refine vP hS hE (Gives.pickF hE rfl rfl rfl) rfl ?_; clear hE a; intro a hE
    refine vP hS hE (Gives.p hE rfl) rfl ?_; clear hE a; intro a hE
    refine WL.no hE (runs_not hE rfl rfl rfl (by decide)) rfl ?_; clear hE a; intro a hE
    refine WL.no hE (runs_not hE rfl rfl rfl (by decide)) rfl ?_; clear hE a; intro a hE
    refine WL.no hE (runs_not hE rfl rfl rfl (by decide)) rfl ?_; clear hE a; intro a hE
    refine WL.no hE (runs_not hE rfl rfl rfl (by decide)) rfl ?_; clear hE a; intro a hE
    refine WL.no hE (runs_not hE rfl rfl rfl (by decide)) rfl ?_; clear hE a; intro a hE
    refine WL.no hE (runs_not hE rfl rfl rfl (by decide)) rfl ?_; clear hE a; intro a hE
    refine WL.no hE (runs_not hE rfl rfl rfl (by decide)) rfl ?_; clear hE a; intro a hE
    refine WL.no hE (runs_not hE rfl rfl rfl (by decide)) rfl ?_; clear hE a; intro a hE
    refine vP hS hE (Gives.pickF hE rfl rfl rfl) rfl ?_; clear hE a; intro a hE
    refine vP hS hE (Gives.p hE rfl) rfl ?_; clear hE a; intro a hE
    refine WL.nil ?_
    subst hK80
    exact ⟨false, Option.some.inj hq75, hE.pick _ ⟨rfl, trivial⟩, hS⟩
  ·clear hE hS a w; rintro a w ⟨q79, rfl, hE, hS⟩
   refine W.ret ?_
   refine finG (fn := Tryd.f3) (rs := [.tmp 10]) (vs := [_]) hE rfl ⟨rfl, trivial⟩ ?_
   obtain rfl := Option.some.inj hr
   replace hS := hS.tail
   replace hS := hS.tail
   replace hS := hS.tail
   exact ⟨rfl, (hS.down (Sg.Le.trans hle57 hle67))⟩
 ·replace hr := iteF hc74 hr
  refine W.skip ?_
  refine W.seq (W.region ?_)
  refine vP hS hE (Gives.loadBA hE 2 rfl rfl ty25) rfl ?_; clear hE a; intro a hE
  refine vP hS hE (Gives.p hE rfl) rfl ?_; clear hE a; intro a hE
  refine vP hS hE (Gives.p hE rfl) rfl ?_; clear hE a; intro a hE
  refine vP hS hE (Gives.p hE rfl) rfl ?_; clear hE a; intro a hE
  refine vP hS hE (Gives.p hE rfl) rfl ?_; clear hE a; intro a hE
  obtain ⟨q86, hq87, hr⟩ := bindS hr
  have hc_ := Fishref2EarliestOf_ok hS h0_0 h0_1 hq87
  refine WL.fnq hE (hc_) (runs_plain rfl) bd14 rfl rfl rfl ?_
  clear hE hS hc_; rintro e w ⟨cs88, s90, rfl, hle91, h89, hS⟩; refine ⟨_, rfl, ?_⟩; clear a; intro a hE
  replace h0_0 := Sl.mono RApiTrain.mono hle91 h0_0
  replace h0_1 := Sl.mono (RL.mono RI.mono) hle91 h0_1
  replace h60 := Sl.mono RGuideRide.mono hle91 h60
  replace h70 := Sl.mono RGuideRide.mono hle91 h70
  obtain ⟨a92, c93, rfl, h94⟩ := h89
  refine vP hS hE (Gives.p hE rfl) rfl ?_; clear hE a; intro a hE
  refine vP hS hE (Gives.p hE rfl) rfl ?_; clear hE a; intro a hE
  refine vP hS hE (Gives.p hE rfl) rfl ?_; clear hE a; intro a hE
  refine WL.alloc hE hS (runs_plain rfl) zr28 rfl ?_; clear hE hS a w; intro b95 a w hE hS
  refine WL.storeI hE hS 0 rfl [.slice a92 q86.1.Rides.length c93] (runs_plain rfl) rfl rfl rfl ty28 rfl rfl rfl rfl ?_; clear hE hS a w; intro a w hE hS
  refine vP hS hE (Gives.p hE rfl) rfl ?_; clear hE a; intro a hE
  refine WL.nil ?_
  refine W.seq (W.region ?_)
  refine vP hS hE (Gives.loadBA hE 3 rfl rfl ty25) rfl ?_; clear hE a; intro a hE
  refine vP hS hE (Gives.p hE rfl) rfl ?_; clear hE a; intro a hE
  refine vP hS hE (Gives.p hE rfl) rfl ?_; clear hE a; intro a hE
  refine vP hS hE (Gives.p hE rfl) rfl ?_; clear hE a; intro a hE
  refine vP hS hE (Gives.p hE rfl) rfl ?_; clear hE a; intro a hE
  obtain ⟨q96, hq97, hr⟩ := bindS hr
  have hc_ := Fishref2LatestOf_ok hS h0_0 h0_1 hq97
  refine WL.fnq hE (hc_) (runs_plain rfl) bd15 rfl rfl rfl ?_
  clear hE hS hc_; rintro e w ⟨cs98, s100, rfl, hle101, h99, hS⟩; refine ⟨_, rfl, ?_⟩; clear a; intro a hE
  replace h0_0 := Sl.mono RApiTrain.mono hle101 h0_0
  replace h0_1 := Sl.mono (RL.mono RI.mono) hle101 h0_1
  replace h60 := Sl.mono RGuideRide.mono hle101 h60
  replace h70 := Sl.mono RGuideRide.mono hle101 h70
  replace h94 := Sl.mono RGuideRide.mono hle101 h94
  obtain ⟨a102, c103, rfl, h104⟩ := h99
  refine vP hS hE (Gives.p hE rfl) rfl ?_; clear hE a; intro a hE
  refine vP hS hE (Gives.p hE rfl) rfl ?_; clear hE a; intro a hE
  refine vP hS hE (Gives.p hE rfl) rfl ?_; clear hE a; intro a hE
  refine WL.alloc hE hS (runs_plain rfl) zr28 rfl ?_; clear hE hS a w; intro b105 a w hE hS
  refine WL.storeI hE hS 0 rfl [.slice a102 q96.1.Rides.length c103] (runs_plain rfl) rfl rfl rfl ty28 rfl rfl rfl rfl ?_; clear hE hS a w; intro a w hE hS
  refine vP hS hE (Gives.p hE rfl) rfl ?_; clear hE a; intro a hE
  refine WL.nil ?_
  refine W.seq ?_
  obtain ⟨q107, hq106, hr⟩ := bindS hr
  refine W.cut (fun a w => ∃ (q110 : Bool), q110 = q107 ∧ Rep a 102 [(10, .bool q110)] ∧ St w s100 (pt b105 (.cells #[.slice a102 q96.1.Rides.length c103] 28 (0, 0)) :: pt b95 (.cells #[.slice a92 q86.1.Rides.length c93] 28 (0, 0)) :: pt b71 (.cells #[.slice a68 q62.1.Rides.length c69] 28 (0, 0)) :: pt b61 (.cells #[.slice a58 q52.1.Rides.length c59] 28 (0, 0)) :: pt b51 (.cells #[.slice a0_0 x0.Trains.length c0_0, .slice a0_1 x0.Turns.length c0_1] 25 (0, 0)) :: R)) ?_ ?_
  ·refine W.gen fun K111 hK111 => ?_
   refine W.region ?_
   obtain ⟨q112, hq113, hq106⟩ := bindS hq106
   have hc_ := Fishlaw2guides_ok hS (TabS.mono (Sg.Le.trans (Sg.Le.trans (Sg.Le.trans hle57 hle67) hle91) hle101) hTab) hq113
   refine WL.fnq hE (hc_) (runs_plain rfl) bd13 rfl rfl rfl ?_
   clear hE hS hc_; rintro e w ⟨rfl, hS⟩; refine ⟨_, rfl, ?_⟩; clear a; intro a hE
   refine vP hS hE (Gives.p hE rfl) rfl ?_; clear hE a; intro a hE
   rcases Bool.eq_false_or_eq_true q112 with hg114 | hg114
   ·replace hq106 := iteT hg114 hq106
    refine WL.vS hS hE (runs_if hE rfl rfl rfl hg114) (Gives.p hE rfl) rfl ?_; clear hE a; intro a hE
    refine WL.vS hS hE (runs_if hE rfl rfl rfl hg114) (Gives.p hE rfl) rfl ?_; clear hE a; intro a hE
    refine WL.vS hS hE (runs_if hE rfl rfl rfl hg114) (Gives.p hE rfl) rfl ?_; clear hE a; intro a hE
    refine vP hS hE (Gives.pickT hE rfl hg114 rfl) rfl ?_; clear hE a; intro a hE
    refine vP hS hE (Gives.p hE rfl) rfl ?_; clear hE a; intro a hE
    rcases Bool.eq_false_or_eq_true (q52.2 == q86.2) with hg115 | hg115
    ·replace hq106 := iteT hg115 hq106
     refine WL.vS hS hE (runs_if hE rfl rfl rfl hg115) (Gives.p hE rfl) rfl ?_; clear hE a; intro a hE
     refine WL.vS hS hE (runs_if hE rfl rfl rfl hg115) (Gives.p hE rfl) rfl ?_; clear hE a; intro a hE
     refine WL.vS hS hE (runs_if hE rfl rfl rfl hg115) (Gives.p hE rfl) rfl ?_; clear hE a; intro a hE
     refine vP hS hE (Gives.pickT hE rfl hg115 rfl) rfl ?_; clear hE a; intro a hE
     refine vP hS hE (Gives.p hE rfl) rfl ?_; clear hE a; intro a hE
     rcases Bool.eq_false_or_eq_true (q62.2 == q96.2) with hg116 | hg116
     ·replace hq106 := iteT hg116 hq106
      refine WL.vS hS hE (runs_if hE rfl rfl rfl hg116) (Gives.loadBA hE 3 rfl rfl ty28) rfl ?_; clear hE a; intro a hE
      refine WL.vS hS hE (runs_if hE rfl rfl rfl hg116) (Gives.loadBA hE 1 rfl rfl ty28) rfl ?_; clear hE a; intro a hE
      obtain ⟨q117, hq118, hq106⟩ := bindS hq106
      have hc_ := Fishlaw2sameJourney_ok hS h60 h94 hq118
      refine WL.fnq hE (hc_) (runs_if hE rfl rfl rfl hg116) bd16 rfl rfl rfl ?_
      clear hE hS hc_; rintro e w ⟨rfl, hS⟩; refine ⟨_, rfl, ?_⟩; clear a; intro a hE
      refine vP hS hE (Gives.pickT hE rfl hg116 rfl) rfl ?_; clear hE a; intro a hE
      refine vP hS hE (Gives.p hE rfl) rfl ?_; clear hE a; intro a hE
      rcases Bool.eq_false_or_eq_true q117 with hg119 | hg119
      ·replace hq106 := iteT hg119 hq106
       refine WL.vS hS hE (runs_if hE rfl rfl rfl hg119) (Gives.loadBA hE 2 rfl rfl ty28) rfl ?_; clear hE a; intro a hE
       refine WL.vS hS hE (runs_if hE rfl rfl rfl hg119) (Gives.loadBA hE 0 rfl rfl ty28) rfl ?_; clear hE a; intro a hE
       obtain ⟨q120, hq121, hq106⟩ := bindS hq106
       have hc_ := Fishlaw2sameJourney_ok hS h70 h104 hq121
       refine WL.fnq hE (hc_) (runs_if hE rfl rfl rfl hg119) bd16 rfl rfl rfl ?_
       clear hE hS hc_; rintro e w ⟨rfl, hS⟩; refine ⟨_, rfl, ?_⟩; clear a; intro a hE
       refine vP hS hE (Gives.pickT hE rfl hg119 rfl) rfl ?_; clear hE a; intro a hE
       refine vP hS hE (Gives.p hE rfl) rfl ?_; clear hE a; intro a hE
       refine WL.nil ?_
       subst hK111
       exact ⟨q120, Option.some.inj hq106, hE.pick _ ⟨rfl, trivial⟩, hS⟩
      ·replace hq106 := iteF hg119 hq106
       refine WL.no hE (runs_not hE rfl rfl rfl (by rw [hg119]; decide)) rfl ?_; clear hE a; intro a hE
       refine WL.no hE (runs_not hE rfl rfl rfl (by rw [hg119]; decide)) rfl ?_; clear hE a; intro a hE
       refine WL.no hE (runs_not hE rfl rfl rfl (by rw [hg119]; decide)) rfl ?_; clear hE a; intro a hE
       refine vP hS hE (Gives.pickF hE rfl hg119 rfl) rfl ?_; clear hE a; intro a hE
       refine vP hS hE (Gives.p hE rfl) rfl ?_; clear hE a; intro a hE
       refine WL.nil ?_
       subst hK111
       exact ⟨false, Option.some.inj hq106, hE.pick _ ⟨rfl, trivial⟩, hS⟩
     ·replace hq106 := iteF hg116 hq106
      refine WL.no hE (runs_not hE rfl rfl rfl (by rw [hg116]; decide)) rfl ?_; clear hE a; intro a hE
      refine WL.no hE (runs_not hE rfl rfl rfl (by rw [hg116]; decide)) rfl ?_; clear hE a; intro a hE
      refine WL.no hE (runs_not hE rfl rfl rfl (by rw [hg116]; decide)) rfl ?_; clear hE a; intro a hE
      refine vP hS hE (Gives.pickF hE rfl hg116 rfl) rfl ?_; clear hE a; intro a hE
      refine vP hS hE (Gives.p hE rfl) rfl ?_; clear hE a; intro a hE
      refine WL.no hE (runs_not hE rfl rfl rfl (by decide)) rfl ?_; clear hE a; intro a hE
      refine WL.no hE (runs_not hE rfl rfl rfl (by decide)) rfl ?_; clear hE a; intro a hE
      refine WL.no hE (runs_not hE rfl rfl rfl (by decide)) rfl ?_; clear hE a; intro a hE
      refine vP hS hE (Gives.pickF hE rfl rfl rfl) rfl ?_; clear hE a; intro a hE
      refine vP hS hE (Gives.p hE rfl) rfl ?_; clear hE a; intro a hE
      refine WL.nil ?_
      subst hK111
      exact ⟨false, Option.some.inj hq106, hE.pick _ ⟨rfl, trivial⟩, hS⟩
    ·replace hq106 := iteF hg115 hq106
     refine WL.no hE (runs_not hE rfl rfl rfl (by rw [hg115]; decide)) rfl ?_; clear hE a; intro a hE
     refine WL.no hE (runs_not hE rfl rfl rfl (by rw [hg115]; decide)) rfl ?_; clear hE a; intro a hE
     refine WL.no hE (runs_not hE rfl rfl rfl (by rw [hg115]; decide)) rfl ?_; clear hE a; intro a hE
     refine vP hS hE (Gives.pickF hE rfl hg115 rfl) rfl ?_; clear hE a; intro a hE
     refine vP hS hE (Gives.p hE rfl) rfl ?_; clear hE a; intro a hE
     refine WL.no hE (runs_not hE rfl rfl rfl (by decide)) rfl ?_; clear hE a; intro a hE
     refine WL.no hE (runs_not hE rfl rfl rfl (by decide)) rfl ?_; clear hE a; intro a hE
     refine WL.no hE (runs_not hE rfl rfl rfl (by decide)) rfl ?_; clear hE a; intro a hE
     refine vP hS hE (Gives.pickF hE rfl rfl rfl) rfl ?_; clear hE a; intro a hE
     refine vP hS hE (Gives.p hE rfl) rfl ?_; clear hE a; intro a hE
     refine WL.no hE (runs_not hE rfl rfl rfl (by decide)) rfl ?_; clear hE a; intro a hE
     refine WL.no hE (runs_not hE rfl rfl rfl (by decide)) rfl ?_; clear hE a; intro a hE
     refine WL.no hE (runs_not hE rfl rfl rfl (by decide)) rfl ?_; clear hE a; intro a hE
     refine vP hS hE (Gives.pickF hE rfl rfl rfl) rfl ?_; clear hE a; intro a hE
     refine vP hS hE (Gives.p hE rfl) rfl ?_; clear hE a; intro a hE
     refine WL.nil ?_
     subst hK111
     exact ⟨false, Option.some.inj hq106, hE.pick _ ⟨rfl, trivial⟩, hS⟩
   ·replace hq106 := iteF hg114 hq106
    refine WL.no hE (runs_not hE rfl rfl rfl (by rw [hg114]; decide)) rfl ?_; clear hE a; intro a hE
    refine WL.no hE (runs_not hE rfl rfl rfl (by rw [hg114]; decide)) rfl ?_; clear hE a; intro a hE
    refine WL.no hE (runs_not hE rfl rfl rfl (by rw [hg114]; decide)) rfl ?_; clear hE a; intro a hE
    refine vP hS hE (Gives.pickF hE rfl hg114 rfl) rfl ?_; clear hE a; intro a hE
    refine vP hS hE (Gives.p hE rfl) rfl ?_; clear hE a; intro a hE
    refine WL.no hE (runs_not hE rfl rfl rfl (by decide)) rfl ?_; clear hE a; intro a hE
    refine WL.no hE (runs_not hE rfl rfl rfl (by decide)) rfl ?_; clear hE a; intro a hE
    refine WL.no hE (runs_not hE rfl rfl rfl (by decide)) rfl ?_; clear hE a; intro a hE
    refine vP hS hE (Gives.pickF hE rfl rfl rfl) rfl ?_; clear hE a; intro a hE
    refine vP hS hE (Gives.p hE rfl) rfl ?_; clear hE a; intro a hE
    refine WL.no hE (runs_not hE rfl rfl rfl (by decide)) rfl ?_; clear hE a; intro a hE
    refine WL.no hE (runs_not hE rfl rfl rfl (by decide)) rfl ?_; clear hE a; intro a hE
    refine WL.no hE (runs_not hE rfl rfl rfl (by decide)) rfl ?_; clear hE a; intro a hE
    refine vP hS hE (Gives.pickF hE rfl rfl rfl) rfl ?_; clear hE a; intro a hE
    refine vP hS hE (Gives.p hE rfl) rfl ?_; clear hE a; intro a hE
    refine WL.no hE (runs_not hE rfl rfl rfl (by decide)) rfl ?_; clear hE a; intro a hE
    refine WL.no hE (runs_not hE rfl rfl rfl (by decide)) rfl ?_; clear hE a; intro a hE
    refine WL.no hE (runs_not hE rfl rfl rfl (by decide)) rfl ?_; clear hE a; intro a hE
    refine vP hS hE (Gives.pickF hE rfl rfl rfl) rfl ?_; clear hE a; intro a hE
    refine vP hS hE (Gives.p hE rfl) rfl ?_; clear hE a; intro a hE
    refine WL.nil ?_
    subst hK111
    exact ⟨false, Option.some.inj hq106, hE.pick _ ⟨rfl, trivial⟩, hS⟩
  ·clear hE hS a w; rintro a w ⟨q110, rfl, hE, hS⟩
   refine W.ret ?_
   refine finG (fn := Tryd.f3) (rs := [.tmp 10]) (vs := [_]) hE rfl ⟨rfl, trivial⟩ ?_
   obtain rfl := Option.some.inj hr
   replace hS := hS.tail
   replace hS := hS.tail
   replace hS := hS.tail
   replace hS := hS.tail
   replace hS := hS.tail
   exact ⟨rfl, (hS.down (Sg.Le.trans (Sg.Le.trans (Sg.Le.trans hle57 hle67) hle91) hle101))⟩
end Go.Proofs.YtpcebngchmgckaaDoor
