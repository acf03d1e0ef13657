/- The walks of the functions that GuideProfiles reaches: each call comes to what its mirror says. The conditions are those of each contract. -/
import Derived.Test.YtpcebngchmgckaaDoorProg
import Derived.Test.YtpcebngchmgckaaDoorFpTight
import Derived.Test.YtpcebngchmgckaaDoorGuideProfilesM
import Derived.Test.YtpcebngchmgckaaDoorFpAllX
import Derived.Test.YtpcebngchmgckaaDoorGuideProfilesS
import Derived.Test.YtpcebngchmgckaaDoorFpMapS
import Derived.Test.YtpcebngchmgckaaDoorFpFld
import Derived.Test.YtpcebngchmgckaaDoorFpMapG
import Derived.Test.YtpcebngchmgckaaDoorFpMapV
import Derived.Test.YtpcebngchmgckaaDoorFpMaps
import Derived.Test.YtpcebngchmgckaaDoorFpOrd
import Derived.Test.YtpcebngchmgckaaDoorFpRf
import Derived.Test.YtpcebngchmgckaaDoorFpRng
import Derived.Test.YtpcebngchmgckaaDoorGuideProfilesW2
set_option maxRecDepth 10000
namespace Go.Proofs.YtpcebngchmgckaaDoor
open Go Go.Fp
set_option maxHeartbeats 8000000 in
theorem Fishref2GuideFault_ok  {w : World} {s : Sg} {R : List HP} {x0 : ApiDay} {a0_0 : Option Addr} {c0_0 : Nat} {a0_1 : Option Addr} {c0_1 : Nat} (hS : St w s (R)) (h0_0 : Sl 4 RApiTrain s a0_0 c0_0 x0.Trains) (h0_1 : Sl 1 (RL 1 (RI .i64)) s a0_1 c0_1 x0.Turns) {r : Int} (hr : Fishref2GuideFault x0 = some r) :
  Calls Tryd.prog 12 [.agg [.slice a0_0 x0.Trains.length c0_0, .slice a0_1 x0.Turns.length c0_1].toArray].toArray w (fun e w => e = .returned (vi r) ∧ St w s (R)) := by
 refine enter Tryd.func12 rfl rfl rfl fun a hE => ?_
 rw [Fishref2GuideFault] at hr
 refine W.seq (W.region ?_)
 refine WL.box hE hS (runs_plain rfl) rfl rfl rfl ?_; clear hE hS a w; intro b51 a w hE hS
 refine vp hS hE rfl rfl fun a hE => WL.nil ?_
 refine W.seq ?_
 refine W.seq (W.region (vP hS hE (Gives.loadBA hE 0 rfl rfl ty25) rfl fun a hE => ?_))
 obtain ⟨q52, hq53, hr⟩ := bindS hr
 have hc_ := Fishref2TextFault_ok hS h0_0 h0_1 hq53
 refine WL.fnq hE (hc_) (runs_plain rfl) bd56 rfl rfl rfl ?_
 clear hE hS hc_; rintro e w ⟨rfl, hS⟩; refine ⟨_, rfl, ?_⟩; clear a; intro a hE
 refine vp hS hE rfl rfl fun a hE => WL.nil ?_
 refine W.seq (W.region (v2 hS hE rfl rfl rfl rfl fun a hE => WL.nil ?_))
 refine W.cond hE rfl (fun hc54 => ?_) (fun hc54 => ?_)
 ·replace hr := iteT hc54 hr
  refine W.seq (W.region (v2 hS hE rfl rfl rfl rfl fun a hE => WL.nil ?_))
  refine W.ret ?_
  refine finG (fn := Tryd.f12) (rs := [.tmp 2]) (vs := [_]) hE rfl ⟨rfl, trivial⟩ ?_
  obtain rfl := Option.some.inj hr
  replace hS := hS.tail
  exact ⟨rfl, hS⟩
 replace hr := iteF hc54 hr
 refine W.skip ?_
 refine W.seq ?_
 refine W.seq (W.region (vP hS hE (Gives.fld hE rfl fl25_0) rfl fun a hE => ?_))
 refine vP hS hE (Gives.loadB hE 0 rfl rfl rfl ty22) rfl fun a hE => ?_
 refine vP hS hE (Gives.len hE rfl sl22) rfl fun a hE => ?_
 refine vp hS hE rfl rfl fun a hE => WL.nil ?_
 obtain ⟨q56, hq55, hr⟩ := bindS hr
 refine W.cut (fun a w => (.next ()) = q56 ∧ Rep a 93 [] ∧ St w s (pc b51 #[.slice a0_0 x0.Trains.length c0_0, .slice a0_1 x0.Turns.length c0_1] 25 :: R)) ?_ ?_
 ·refine W.block ?_
  refine W.loop (fun m a w => ∃ (rest59 : List ApiTrain) (k57 : Nat), rest59.length = m ∧ x0.Trains.drop k57 = rest59 ∧ Fishref2GuideFault.loop1 x0 rest59 k57 = some q56 ∧ Rep a 93 [(1, pp b51), (16, .slice a0_0 x0.Trains.length c0_0), (17, vi ((x0.Trains).length : Int)), (18, vi ((k57 : Nat) : Int))] ∧ St w s (pc b51 #[.slice a0_0 x0.Trains.length c0_0, .slice a0_1 x0.Turns.length c0_1] 25 :: R)) (m := x0.Trains.length) ⟨x0.Trains, 0, rfl, rfl, hq55, hE.pick _ ⟨rfl, rfl, rfl, rfl, trivial⟩, hS⟩ ?_
  clear hE hS a w hq55; rintro m63 a w ⟨rest59, k57, rfl, hd60, hq55, hE, hS⟩
  refine W.gen fun K66 hK66 => ?_
  rcases rest59 with _ | ⟨x58, rest59⟩
  ·have hlt61 := drop_nil hd60
   refine W.seq (W.region (vp hS hE rfl rfl fun a hE => WL.nil ?_))
   refine W.seq ?_
   refine W.condF hE rfl (decide_eq_false (by omega)) ?_
   subst hK66
   refine W.exit rfl ?_
   exact ⟨Option.some.inj hq55, hE.pick _ trivial, hS⟩
  obtain ⟨hlt61, hx62, hd60⟩ := drop_cons hd60
  rw [Fishref2GuideFault.loop1] at hq55
  refine W.seq (W.region (vp hS hE rfl rfl fun a hE => WL.nil ?_))
  refine W.seq ?_
  refine W.condT hE rfl (decide_eq_true (by omega)) ?_
  refine W.skip ?_
  refine W.seq ?_
  refine W.block ?_
  refine W.seq (W.region (vp hS hE rfl rfl fun a hE => ?_))
  obtain ⟨cs67, hl68, hR69, hat70⟩ := h0_0.at hx62
  obtain ⟨a71, c72, a74, c75, rfl, h73, h76⟩ := hR69
  refine vP hS hE (Gives.idx hE k57 rfl rfl sl22 rfl hlt61 (h0_0.aok hlt61)) rfl fun a hE => ?_
  refine vP hS hE (Gives.loadA hE rfl (fun w h => hat70 w _ h) ty44) rfl fun a hE => ?_
  refine WL.alloc hE hS (runs_plain rfl) zr44 rfl ?_; clear hE hS a w; intro b77 a w hE hS
  refine vp hS hE rfl rfl fun a hE => ?_
  refine WL.storeI hE hS 0 rfl [vi x58.No, vi x58.Stock, .slice a71 x58.Stops.length c72, .slice a74 x58.Legs.length c75] (runs_plain rfl) rfl rfl rfl ty44 rfl rfl rfl rfl ?_; clear hE hS a w; intro a w hE hS
  refine WL.nil ?_
  refine W.seq ?_
  refine W.seq (W.region (vP hS hE (Gives.fld hE rfl fl44_0) rfl fun a hE => ?_))
  refine vP hS hE (Gives.loadB hE 0 rfl rfl rfl ty3) rfl fun a hE => ?_
  refine WL.fnq hE (Fishref2within_ok hS  rfl (r := Fishref2within x58.No 1 9999)) (runs_plain rfl) bd57 rfl rfl rfl ?_
  clear hE hS; rintro e w ⟨rfl, hS⟩; refine ⟨_, rfl, ?_⟩; clear a; intro a hE
  refine vp hS hE rfl rfl fun a hE => WL.nil ?_
  refine W.cond hE rfl (fun hc78 => ?_) (fun hc78 => ?_)
  ·replace hq55 := iteT hc78 hq55
   refine W.seq (W.region (vp hS hE rfl rfl fun a hE => WL.nil ?_))
   refine W.ret ?_
   subst hK66
   rw [← Option.some.inj hq55] at hr
   dsimp only at hr
   refine finG (fn := Tryd.f12) (rs := [.tmp 2]) (vs := [_]) hE rfl ⟨rfl, trivial⟩ ?_
   obtain rfl := Option.some.inj hr
   replace hS := hS.tail
   replace hS := hS.tail
   exact ⟨rfl, hS⟩
  replace hq55 := iteF hc78 hq55
  refine W.skip ?_
  refine W.seq ?_
  refine W.seq (W.region (vP hS hE (Gives.fld hE rfl fl25_0) rfl fun a hE => ?_))
  refine vP hS hE (Gives.loadB hE 1 rfl rfl rfl ty22) rfl fun a hE => ?_
  refine vp hS hE rfl rfl fun a hE => ?_
  obtain ⟨x79, hx80, hq55⟩ := bindS hq55
  obtain ⟨a81, c82, heq83, h84⟩ := h0_0.cut hx80
  obtain ⟨h85, h86, h87, _⟩ := cutl_some hx80
  refine vP hS hE (Gives.slH hE sl22 rfl rfl (by omega) (by have := h0_0.len; omega) heq83) rfl fun a hE => ?_
  refine vP hS hE (Gives.len hE rfl sl22) rfl fun a hE => ?_
  refine vp hS hE rfl rfl fun a hE => WL.nil ?_
  obtain ⟨q89, hq88, hq55⟩ := bndS hq55
  refine W.cut (fun a w => (.next ()) = q89 ∧ Rep a 93 [(1, pp b51), (5, pp b77), (16, .slice a0_0 x0.Trains.length c0_0), (17, vi ((x0.Trains).length : Int)), (18, vi ((k57 : Nat) : Int))] ∧ St w s (pc b77 #[vi x58.No, vi x58.Stock, .slice a71 x58.Stops.length c72, .slice a74 x58.Legs.length c75] 44 :: pc b51 #[.slice a0_0 x0.Trains.length c0_0, .slice a0_1 x0.Turns.length c0_1] 25 :: R)) ?_ ?_
  ·refine W.block ?_
   refine W.loop (fun m a w => ∃ (rest92 : List ApiTrain) (k90 : Nat), rest92.length = m ∧ x79.drop k90 = rest92 ∧ Fishref2GuideFault.loop2 x58 rest92 = q89 ∧ Rep a 93 [(1, pp b51), (5, pp b77), (16, .slice a0_0 x0.Trains.length c0_0), (17, vi ((x0.Trains).length : Int)), (18, vi ((k57 : Nat) : Int)), (30, .slice a81 x79.length c82), (31, vi ((x79).length : Int)), (32, vi ((k90 : Nat) : Int))] ∧ St w s (pc b77 #[vi x58.No, vi x58.Stock, .slice a71 x58.Stops.length c72, .slice a74 x58.Legs.length c75] 44 :: pc b51 #[.slice a0_0 x0.Trains.length c0_0, .slice a0_1 x0.Turns.length c0_1] 25 :: R)) (m := x79.length) ⟨x79, 0, rfl, rfl, hq88, hE.pick _ ⟨rfl, rfl, rfl, rfl, rfl, rfl, rfl, rfl, trivial⟩, hS⟩ ?_
   clear hE hS a w hq88; rintro m96 a w ⟨rest92, k90, rfl, hd93, hq88, hE, hS⟩
   refine W.gen fun K99 hK99 => ?_
   rcases rest92 with _ | ⟨x91, rest92⟩
   ·have hlt94 := drop_nil hd93
    refine W.seq (W.region (vp hS hE rfl rfl fun a hE => WL.nil ?_))
    refine W.seq ?_
    refine W.condF hE rfl (decide_eq_false (by omega)) ?_
    subst hK99
    refine W.exit rfl ?_
    exact ⟨hq88, hE.pick _ ⟨rfl, rfl, rfl, rfl, rfl, trivial⟩, hS⟩
   obtain ⟨hlt94, hx95, hd93⟩ := drop_cons hd93
   rw [Fishref2GuideFault.loop2] at hq88
   refine W.seq (W.region (vp hS hE rfl rfl fun a hE => WL.nil ?_))
   refine W.seq ?_
   refine W.condT hE rfl (decide_eq_true (by omega)) ?_
   refine W.skip ?_
   refine W.seq ?_
   refine W.block ?_
   refine W.seq (W.region ?_)
   obtain ⟨cs100, hl101, hR102, hat103⟩ := h84.at hx95
   obtain ⟨a104, c105, a107, c108, rfl, h106, h109⟩ := hR102
   refine vP hS hE (Gives.idx hE k90 rfl rfl sl22 rfl hlt94 (h84.aok hlt94)) rfl fun a hE => ?_
   refine vP hS hE (Gives.loadA hE rfl (fun w h => hat103 w _ h) ty44) rfl fun a hE => ?_
   refine WL.alloc hE hS (runs_plain rfl) zr44 rfl ?_; clear hE hS a w; intro b110 a w hE hS
   refine WL.storeI hE hS 0 rfl [vi x91.No, vi x91.Stock, .slice a104 x91.Stops.length c105, .slice a107 x91.Legs.length c108] (runs_plain rfl) rfl rfl rfl ty44 rfl rfl rfl rfl ?_; clear hE hS a w; intro a w hE hS
   refine WL.nil ?_
   refine W.seq (W.region (vP hS hE (Gives.fld hE rfl fl44_0) rfl fun a hE => ?_))
   refine vP hS hE (Gives.loadB hE 0 rfl rfl rfl ty3) rfl fun a hE => ?_
   refine vP hS hE (Gives.fld hE rfl fl44_0) rfl fun a hE => ?_
   refine vP hS hE (Gives.loadB hE 1 rfl rfl rfl ty3) rfl fun a hE => ?_
   refine vp hS hE rfl rfl fun a hE => WL.nil ?_
   refine W.cond hE rfl (fun hc111 => ?_) (fun hc111 => ?_)
   ·replace hq88 := iteT hc111 hq88
    refine W.seq (W.region (vp hS hE rfl rfl fun a hE => WL.nil ?_))
    refine W.ret ?_
    subst hK99
    subst hK66
    rw [← hq88] at hq55
    dsimp only at hq55
    rw [← Option.some.inj hq55] at hr
    dsimp only at hr
    refine finG (fn := Tryd.f12) (rs := [.tmp 2]) (vs := [_]) hE rfl ⟨rfl, trivial⟩ ?_
    obtain rfl := Option.some.inj hr
    replace hS := hS.tail
    replace hS := hS.tail
    replace hS := hS.tail
    exact ⟨rfl, hS⟩
   replace hq88 := iteF hc111 hq88
   refine W.skip ?_
   refine W.region ?_
   refine vP hS hE (Gives.inc hE rfl (by have := h84.small; omega)) rfl fun a hE => ?_
   refine vp hS hE rfl rfl fun a hE => WL.nil ?_
   replace hS := hS.tail
   subst hK99
   exact ⟨rest92.length, Nat.lt_succ_self _, rest92, k90 + 1, rfl, hd93, hq88, hE.pick _ ⟨rfl, rfl, rfl, rfl, rfl, rfl, rfl, rfl, trivial⟩, hS⟩
  clear hE hS a w; rintro a w ⟨rfl, hE, hS⟩
  dsimp only at hq55
  refine W.seq ?_
  refine W.seq (W.region (vP hS hE (Gives.fld hE rfl fl44_2) rfl fun a hE => ?_))
  refine vP hS hE (Gives.loadB hE 0 rfl rfl rfl ty42) rfl fun a hE => ?_
  refine vP hS hE (Gives.len hE rfl sl42) rfl fun a hE => ?_
  refine vp hS hE rfl rfl fun a hE => WL.nil ?_
  refine W.cond hE rfl (fun hc112 => ?_) (fun hc112 => ?_)
  ·replace hq55 := iteT hc112 hq55
   refine W.seq (W.region (vp hS hE rfl rfl fun a hE => WL.nil ?_))
   refine W.ret ?_
   subst hK66
   rw [← Option.some.inj hq55] at hr
   dsimp only at hr
   refine finG (fn := Tryd.f12) (rs := [.tmp 2]) (vs := [_]) hE rfl ⟨rfl, trivial⟩ ?_
   obtain rfl := Option.some.inj hr
   replace hS := hS.tail
   replace hS := hS.tail
   exact ⟨rfl, hS⟩
  replace hq55 := iteF hc112 hq55
  refine W.skip ?_
  refine W.seq (W.region (vP hS hE (Gives.fld hE rfl fl44_2) rfl fun a hE => ?_))
  refine vP hS hE (Gives.loadB hE 0 rfl rfl rfl ty42) rfl fun a hE => ?_
  refine vP hS hE (Gives.len hE rfl sl42) rfl fun a hE => ?_
  refine vp hS hE rfl rfl fun a hE => WL.nil ?_
  obtain ⟨q114, hq113, hq55⟩ := bindS hq55
  refine W.cut (fun a w => (.next ()) = q114 ∧ Rep a 93 [(1, pp b51), (16, .slice a0_0 x0.Trains.length c0_0), (17, vi ((x0.Trains).length : Int)), (18, vi ((k57 : Nat) : Int))] ∧ St w s (pc b77 #[vi x58.No, vi x58.Stock, .slice a71 x58.Stops.length c72, .slice a74 x58.Legs.length c75] 44 :: pc b51 #[.slice a0_0 x0.Trains.length c0_0, .slice a0_1 x0.Turns.length c0_1] 25 :: R)) ?_ ?_
  ·refine W.block ?_
   refine W.loop (fun m a w => ∃ (rest117 : List ApiStop) (k115 : Nat), rest117.length = m ∧ x58.Stops.drop k115 = rest117 ∧ Fishref2GuideFault.loop3 x58 rest117 k115 = some q114 ∧ Rep a 93 [(1, pp b51), (5, pp b77), (16, .slice a0_0 x0.Trains.length c0_0), (17, vi ((x0.Trains).length : Int)), (18, vi ((k57 : Nat) : Int)), (47, .slice a71 x58.Stops.length c72), (48, vi ((x58.Stops).length : Int)), (49, vi ((k115 : Nat) : Int))] ∧ St w s (pc b77 #[vi x58.No, vi x58.Stock, .slice a71 x58.Stops.length c72, .slice a74 x58.Legs.length c75] 44 :: pc b51 #[.slice a0_0 x0.Trains.length c0_0, .slice a0_1 x0.Turns.length c0_1] 25 :: R)) (m := x58.Stops.length) ⟨x58.Stops, 0, rfl, rfl, hq113, hE.pick _ ⟨rfl, rfl, rfl, rfl, rfl, rfl, rfl, rfl, trivial⟩, hS⟩ ?_
   clear hE hS a w hq113; rintro m121 a w ⟨rest117, k115, rfl, hd118, hq113, hE, hS⟩
   refine W.gen fun K124 hK124 => ?_
   rcases rest117 with _ | ⟨x116, rest117⟩
   ·have hlt119 := drop_nil hd118
    refine W.seq (W.region (vp hS hE rfl rfl fun a hE => WL.nil ?_))
    refine W.seq ?_
    refine W.condF hE rfl (decide_eq_false (by omega)) ?_
    subst hK124
    refine W.exit rfl ?_
    exact ⟨Option.some.inj hq113, hE.pick _ ⟨rfl, rfl, rfl, rfl, trivial⟩, hS⟩
   obtain ⟨hlt119, hx120, hd118⟩ := drop_cons hd118
   rw [Fishref2GuideFault.loop3] at hq113
   refine W.seq (W.region (vp hS hE rfl rfl fun a hE => WL.nil ?_))
   refine W.seq ?_
   refine W.condT hE rfl (decide_eq_true (by omega)) ?_
   refine W.skip ?_
   refine W.seq ?_
   refine W.block ?_
   refine W.seq (W.region (vp hS hE rfl rfl fun a hE => ?_))
   obtain ⟨cs125, hl126, hR127, hat128⟩ := h73.at hx120
   subst hR127
   refine vP hS hE (Gives.idx hE k115 rfl rfl sl42 rfl hlt119 (h73.aok hlt119)) rfl fun a hE => ?_
   refine vP hS hE (Gives.loadA hE rfl (fun w h => hat128 w _ h) ty106) rfl fun a hE => ?_
   refine WL.alloc hE hS (runs_plain rfl) zr106 rfl ?_; clear hE hS a w; intro b129 a w hE hS
   refine vp hS hE rfl rfl fun a hE => ?_
   refine WL.storeI hE hS 0 rfl (ApiStop.cells x116) (runs_plain rfl) rfl rfl rfl ty106 rfl rfl rfl rfl ?_; clear hE hS a w; intro a w hE hS
   refine WL.nil ?_
   refine W.seq ?_
   refine W.seq ?_
   obtain ⟨q131, hq130, hq113⟩ := bndS hq113
   refine W.cut (fun a w => ∃ (q134 : Bool), q134 = q131 ∧ Rep a 93 [(1, pp b51), (5, pp b77), (8, vi ((k115 : Nat) : Int)), (9, pp b129), (16, .slice a0_0 x0.Trains.length c0_0), (17, vi ((x0.Trains).length : Int)), (18, vi ((k57 : Nat) : Int)), (47, .slice a71 x58.Stops.length c72), (48, vi ((x58.Stops).length : Int)), (49, vi ((k115 : Nat) : Int)), (69, .bool q134)] ∧ St w s (pc b129 (ApiStop.cells x116).toArray 106 :: pc b77 #[vi x58.No, vi x58.Stock, .slice a71 x58.Stops.length c72, .slice a74 x58.Legs.length c75] 44 :: pc b51 #[.slice a0_0 x0.Trains.length c0_0, .slice a0_1 x0.Turns.length c0_1] 25 :: R)) ?_ ?_
   ·refine W.gen fun K135 hK135 => ?_
    refine W.region ?_
    refine vP hS hE (Gives.fld hE rfl fl106_0) rfl fun a hE => ?_
    refine vP hS hE (Gives.loadB hE 0 rfl rfl rfl ty3) rfl fun a hE => ?_
    refine WL.fnq hE (Fishref2within_ok hS  rfl (r := Fishref2within x116.Station 0 11)) (runs_plain rfl) bd57 rfl rfl rfl ?_
    clear hE hS; rintro e w ⟨rfl, hS⟩; refine ⟨_, rfl, ?_⟩; clear a; intro a hE
    refine v2 hS hE rfl rfl rfl rfl fun a hE => ?_
    rcases Bool.eq_false_or_eq_true (!(Fishref2within x116.Station 0 11)) with hg136 | hg136
    ·replace hq130 := iteT hg136 hq130
     refine nO hE rfl rfl rfl (by rw [hg136]; decide) rfl fun a hE => ?_
     refine nO hE rfl rfl rfl (by rw [hg136]; decide) rfl fun a hE => ?_
     refine nO hE rfl rfl rfl (by rw [hg136]; decide) rfl fun a hE => ?_
     refine nO hE rfl rfl rfl (by rw [hg136]; decide) rfl fun a hE => ?_
     refine vP hS hE (Gives.pickT hE rfl hg136 rfl) rfl fun a hE => ?_
     refine vp hS hE rfl rfl fun a hE => ?_
     refine nO hE rfl rfl rfl (by decide) rfl fun a hE => ?_
     refine nO hE rfl rfl rfl (by decide) rfl fun a hE => ?_
     refine nO hE rfl rfl rfl (by decide) rfl fun a hE => ?_
     refine nO hE rfl rfl rfl (by decide) rfl fun a hE => ?_
     refine vP hS hE (Gives.pickT hE rfl rfl rfl) rfl fun a hE => WL.nil ?_
     subst hK135
     exact ⟨true, hq130, hE.pick _ ⟨rfl, rfl, rfl, rfl, rfl, rfl, rfl, rfl, rfl, rfl, rfl, trivial⟩, hS⟩
    replace hq130 := iteF hg136 hq130
    refine WL.vS hS hE (runs_if hE rfl rfl rfl hg136) (Gives.fld hE rfl fl106_2) rfl fun a hE => ?_
    refine WL.vS hS hE (runs_if hE rfl rfl rfl hg136) (Gives.loadB hE 0 rfl rfl rfl ty3) rfl fun a hE => ?_
    refine WL.fnq hE (Fishref2within_ok hS  rfl (r := Fishref2within x116.Arr 0 28800)) (runs_if hE rfl rfl rfl hg136) bd57 rfl rfl rfl ?_
    clear hE hS; rintro e w ⟨rfl, hS⟩; refine ⟨_, rfl, ?_⟩; clear a; intro a hE
    refine WL.vS hS hE (runs_if hE rfl rfl rfl hg136) (Gives.p hE rfl) rfl fun a hE => ?_
    refine vP hS hE (Gives.pickF hE rfl hg136 rfl) rfl fun a hE => ?_
    refine vp hS hE rfl rfl fun a hE => ?_
    rcases Bool.eq_false_or_eq_true (!(Fishref2within x116.Arr 0 28800)) with hg137 | hg137
    ·replace hq130 := iteT hg137 hq130
     refine nO hE rfl rfl rfl (by rw [hg137]; decide) rfl fun a hE => ?_
     refine nO hE rfl rfl rfl (by rw [hg137]; decide) rfl fun a hE => ?_
     refine nO hE rfl rfl rfl (by rw [hg137]; decide) rfl fun a hE => ?_
     refine nO hE rfl rfl rfl (by rw [hg137]; decide) rfl fun a hE => ?_
     refine vP hS hE (Gives.pickT hE rfl hg137 rfl) rfl fun a hE => WL.nil ?_
     subst hK135
     exact ⟨true, hq130, hE.pick _ ⟨rfl, rfl, rfl, rfl, rfl, rfl, rfl, rfl, rfl, rfl, rfl, trivial⟩, hS⟩
    replace hq130 := iteF hg137 hq130
    refine WL.vS hS hE (runs_if hE rfl rfl rfl hg137) (Gives.fld hE rfl fl106_3) rfl fun a hE => ?_
    refine WL.vS hS hE (runs_if hE rfl rfl rfl hg137) (Gives.loadB hE 0 rfl rfl rfl ty3) rfl fun a hE => ?_
    refine WL.fnq hE (Fishref2within_ok hS  rfl (r := Fishref2within x116.Dep 0 28800)) (runs_if hE rfl rfl rfl hg137) bd57 rfl rfl rfl ?_
    clear hE hS; rintro e w ⟨rfl, hS⟩; refine ⟨_, rfl, ?_⟩; clear a; intro a hE
    refine WL.vS hS hE (runs_if hE rfl rfl rfl hg137) (Gives.p hE rfl) rfl fun a hE => ?_
    refine vP hS hE (Gives.pickF hE rfl hg137 rfl) rfl fun a hE => WL.nil ?_
    subst hK135
    exact ⟨!(Fishref2within x116.Dep 0 28800), hq130, hE.pick _ ⟨rfl, rfl, rfl, rfl, rfl, rfl, rfl, rfl, rfl, rfl, rfl, trivial⟩, hS⟩
   clear hE hS a w; rintro a w ⟨q134, rfl, hE, hS⟩
   refine W.cond hE rfl (fun hc138 => ?_) (fun hc138 => ?_)
   ·replace hq113 := iteT hc138 hq113
    refine W.seq (W.region (vp hS hE rfl rfl fun a hE => WL.nil ?_))
    refine W.ret ?_
    subst hK124
    subst hK66
    rw [← Option.some.inj hq113] at hq55
    dsimp only at hq55
    rw [← Option.some.inj hq55] at hr
    dsimp only at hr
    refine finG (fn := Tryd.f12) (rs := [.tmp 2]) (vs := [_]) hE rfl ⟨rfl, trivial⟩ ?_
    obtain rfl := Option.some.inj hr
    replace hS := hS.tail
    replace hS := hS.tail
    replace hS := hS.tail
    exact ⟨rfl, hS⟩
   replace hq113 := iteF hc138 hq113
   refine W.skip ?_
   refine W.seq ?_
   obtain ⟨q140, hq139, hq113⟩ := bindS hq113
   refine W.cut (fun a w => ∃ (q143 : Bool), q143 = q140 ∧ Rep a 93 [(1, pp b51), (5, pp b77), (16, .slice a0_0 x0.Trains.length c0_0), (17, vi ((x0.Trains).length : Int)), (18, vi ((k57 : Nat) : Int)), (47, .slice a71 x58.Stops.length c72), (48, vi ((x58.Stops).length : Int)), (49, vi ((k115 : Nat) : Int)), (90, .bool q143)] ∧ St w s (pc b129 (ApiStop.cells x116).toArray 106 :: pc b77 #[vi x58.No, vi x58.Stock, .slice a71 x58.Stops.length c72, .slice a74 x58.Legs.length c75] 44 :: pc b51 #[.slice a0_0 x0.Trains.length c0_0, .slice a0_1 x0.Turns.length c0_1] 25 :: R)) ?_ ?_
   ·refine W.gen fun K144 hK144 => ?_
    refine W.regionQ (C := fun w => St w s (pc b129 (ApiStop.cells x116).toArray 106 :: pc b77 #[vi x58.No, vi x58.Stock, .slice a71 x58.Stops.length c72, .slice a74 x58.Legs.length c75] 44 :: pc b51 #[.slice a0_0 x0.Trains.length c0_0, .slice a0_1 x0.Turns.length c0_1] 25 :: R)) mixed (by kernel_rfl) hS.drew ?_
    refine qP hE (Gives.fld hE rfl fl106_3) rfl fun a hE => ?_
    refine qP hE (Gives.loadB hE 0 rfl rfl rfl ty3) rfl fun a hE => ?_
    refine qP hE (Gives.fld hE rfl fl106_2) rfl fun a hE => ?_
    refine qP hE (Gives.loadB hE 0 rfl rfl rfl ty3) rfl fun a hE => ?_
    refine qP hE (Gives.p hE rfl) rfl fun a hE => ?_
    refine qP hE (Gives.p hE rfl) rfl fun a hE => ?_
    rcases Bool.eq_false_or_eq_true (decide (x116.Dep < x116.Arr)) with hg145 | hg145
    ·replace hq139 := iteT hg145 hq139
     refine QL.no hE (runs_not hE rfl rfl rfl (by rw [hg145]; decide)) rfl fun a hE => ?_
     refine QL.no hE (runs_not hE rfl rfl rfl (by rw [hg145]; decide)) rfl fun a hE => ?_
     refine QL.no hE (runs_not hE rfl rfl rfl (by rw [hg145]; decide)) rfl fun a hE => ?_
     refine QL.no hE (runs_undef hE rfl rfl rfl) rfl fun a hE => ?_
     refine QL.no hE (runs_undef hE rfl rfl rfl) rfl fun a hE => ?_
     refine QL.no hE (runs_undef hE rfl rfl rfl) rfl fun a hE => ?_
     refine QL.no hE (runs_undef hE rfl rfl rfl) rfl fun a hE => ?_
     refine QL.no hE (runs_undef hE rfl rfl rfl) rfl fun a hE => ?_
     refine QL.no hE (runs_undef hE rfl rfl rfl) rfl fun a hE => ?_
     refine QL.no hE (runs_undef hE rfl rfl rfl) rfl fun a hE => ?_
     refine QL.no hE (runs_undef hE rfl rfl rfl) rfl fun a hE => ?_
     refine QL.no hE (runs_undef hE rfl rfl rfl) rfl fun a hE => ?_
     refine QL.no hE (runs_undef hE rfl rfl rfl) rfl fun a hE => ?_
     refine QL.no hE (runs_not hE rfl rfl rfl (by rw [hg145]; decide)) rfl fun a hE => ?_
     refine qP hE (Gives.pickT hE rfl hg145 rfl) rfl fun a hE => ?_
     refine QL.nil ?_; clear hS w; intro w hS
     subst hK144
     exact ⟨true, Option.some.inj hq139, hE.pick _ ⟨rfl, rfl, rfl, rfl, rfl, rfl, rfl, rfl, rfl, trivial⟩, hS⟩
    replace hq139 := iteF hg145 hq139
    refine QL.v hE (runs_if hE rfl rfl rfl hg145) (Gives.p hE rfl) rfl fun a hE => ?_
    refine QL.v hE (runs_if hE rfl rfl rfl hg145) (Gives.p hE rfl) rfl fun a hE => ?_
    refine QL.v hE (runs_if hE rfl rfl rfl hg145) (Gives.p hE rfl) rfl fun a hE => ?_
    rcases Bool.eq_false_or_eq_true (decide (((k115 : Nat) : Int) > 0)) with hg146 | hg146
    ·replace hq139 := iteT hg146 hq139
     refine QL.v hE (runs_if hE rfl rfl rfl hg146) (Gives.fld hE rfl fl106_2) rfl fun a hE => ?_
     refine QL.v hE (runs_if hE rfl rfl rfl hg146) (Gives.loadB hE 0 rfl rfl rfl ty3) rfl fun a hE => ?_
     refine QL.v hE (runs_if hE rfl rfl rfl hg146) (Gives.fld hE rfl fl44_2) rfl fun a hE => ?_
     refine QL.v hE (runs_if hE rfl rfl rfl hg146) (Gives.loadB hE 1 rfl rfl rfl ty42) rfl fun a hE => ?_
     refine QL.v hE (runs_if hE rfl rfl rfl hg146) (Gives.p hE rfl) rfl fun a hE => ?_
     refine QL.v hE (runs_if hE rfl rfl rfl hg146) (Gives.p hE rfl) rfl fun a hE => ?_
     obtain ⟨x147, hx148, hq139⟩ := bindS hq139
     obtain ⟨hi149, hlt150, hy151⟩ := gx_some hx148
     obtain ⟨cs152, hl153, hR154, hat155⟩ := h73.at hy151
     subst hR154
     refine QL.v hE (runs_if hE rfl rfl rfl hg146) (Gives.idx hE (w64 (((k115 : Nat) : Int) - 1)).toNat rfl rfl sl42 hi149 hlt150 (h73.aok hlt150)) rfl fun a hE => ?_
     refine QL.v hE (runs_if hE rfl rfl rfl hg146) (Gives.fld hE rfl fl106_3) rfl fun a hE => ?_
     refine QL.v hE (runs_if hE rfl rfl rfl hg146) (Gives.load1 hE rfl (fun w h => (hat155 w _ h).one rfl) ty3) rfl fun a hE => ?_
     refine QL.v hE (runs_if hE rfl rfl rfl hg146) (Gives.p hE rfl) rfl fun a hE => ?_
     refine QL.v hE (runs_if hE rfl rfl rfl hg145) (Gives.pickT hE rfl hg146 rfl) rfl fun a hE => ?_
     refine qP hE (Gives.pickF hE rfl hg145 rfl) rfl fun a hE => ?_
     refine QL.nil ?_; clear hS w; intro w hS
     subst hK144
     exact ⟨decide (x116.Arr ≤ x147.Dep), Option.some.inj hq139, hE.pick _ ⟨rfl, rfl, rfl, rfl, rfl, rfl, rfl, rfl, rfl, trivial⟩, hS⟩
    replace hq139 := iteF hg146 hq139
    refine QL.no hE (runs_not hE rfl rfl rfl (by rw [hg146]; decide)) rfl fun a hE => ?_
    refine QL.no hE (runs_not hE rfl rfl rfl (by rw [hg146]; decide)) rfl fun a hE => ?_
    refine QL.no hE (runs_not hE rfl rfl rfl (by rw [hg146]; decide)) rfl fun a hE => ?_
    refine QL.no hE (runs_not hE rfl rfl rfl (by rw [hg146]; decide)) rfl fun a hE => ?_
    refine QL.no hE (runs_not hE rfl rfl rfl (by rw [hg146]; decide)) rfl fun a hE => ?_
    refine QL.no hE (runs_not hE rfl rfl rfl (by rw [hg146]; decide)) rfl fun a hE => ?_
    refine QL.no hE (runs_not hE rfl rfl rfl (by rw [hg146]; decide)) rfl fun a hE => ?_
    refine QL.no hE (runs_not hE rfl rfl rfl (by rw [hg146]; decide)) rfl fun a hE => ?_
    refine QL.no hE (runs_not hE rfl rfl rfl (by rw [hg146]; decide)) rfl fun a hE => ?_
    refine QL.no hE (runs_not hE rfl rfl rfl (by rw [hg146]; decide)) rfl fun a hE => ?_
    refine QL.v hE (runs_if hE rfl rfl rfl hg145) (Gives.pickF hE rfl hg146 rfl) rfl fun a hE => ?_
    refine qP hE (Gives.pickF hE rfl hg145 rfl) rfl fun a hE => ?_
    refine QL.nil ?_; clear hS w; intro w hS
    subst hK144
    exact ⟨false, Option.some.inj hq139, hE.pick _ ⟨rfl, rfl, rfl, rfl, rfl, rfl, rfl, rfl, rfl, trivial⟩, hS⟩
   clear hE hS a w; rintro a w ⟨q143, rfl, hE, hS⟩
   refine W.cond hE rfl (fun hc156 => ?_) (fun hc156 => ?_)
   ·replace hq113 := iteT hc156 hq113
    refine W.seq (W.region (vp hS hE rfl rfl fun a hE => WL.nil ?_))
    refine W.ret ?_
    subst hK124
    subst hK66
    rw [← Option.some.inj hq113] at hq55
    dsimp only at hq55
    rw [← Option.some.inj hq55] at hr
    dsimp only at hr
    refine finG (fn := Tryd.f12) (rs := [.tmp 2]) (vs := [_]) hE rfl ⟨rfl, trivial⟩ ?_
    obtain rfl := Option.some.inj hr
    replace hS := hS.tail
    replace hS := hS.tail
    replace hS := hS.tail
    exact ⟨rfl, hS⟩
   replace hq113 := iteF hc156 hq113
   refine W.skip ?_
   refine W.region ?_
   refine vP hS hE (Gives.inc hE rfl (by have := h73.small; omega)) rfl fun a hE => ?_
   refine vp hS hE rfl rfl fun a hE => WL.nil ?_
   replace hS := hS.tail
   subst hK124
   exact ⟨rest117.length, Nat.lt_succ_self _, rest117, k115 + 1, rfl, hd118, hq113, hE.pick _ ⟨rfl, rfl, rfl, rfl, rfl, rfl, rfl, rfl, trivial⟩, hS⟩
  clear hE hS a w; rintro a w ⟨rfl, hE, hS⟩
  dsimp only at hq55
  refine W.region ?_
  refine vP hS hE (Gives.inc hE rfl (by have := h0_0.small; omega)) rfl fun a hE => ?_
  refine vp hS hE rfl rfl fun a hE => WL.nil ?_
  replace hS := hS.tail
  subst hK66
  exact ⟨rest59.length, Nat.lt_succ_self _, rest59, k57 + 1, rfl, hd60, hq55, hE.pick _ ⟨rfl, rfl, rfl, rfl, trivial⟩, hS⟩
 clear hE hS a w; rintro a w ⟨rfl, hE, hS⟩
 dsimp only at hr
 refine W.seq (W.region (vp hS hE rfl rfl fun a hE => WL.nil ?_))
 refine W.ret ?_
 refine finG (fn := Tryd.f12) (rs := [.tmp 2]) (vs := [_]) hE rfl ⟨rfl, trivial⟩ ?_
 obtain rfl := Option.some.inj hr
 replace hS := hS.tail
 exact ⟨rfl, hS⟩
set_option maxHeartbeats 8000000 in
theorem Fishref2SearchFault_ok  {w : World} {s : Sg} {R : List HP} {x0 : Int} {x1 : Int} {x2 : Int} {x3 : Int} {x4 : Bool} {x5 : Bool} (hS : St w s (R))  {r : Int} (hr : Fishref2SearchFault x0 x1 x2 x3 x4 x5 = r) :
  Calls Tryd.prog 22 [vi x0, vi x1, vi x2, vi x3, .bool x4, .bool x5].toArray w (fun e w => e = .returned (vi r) ∧ St w s (R)) := by
 refine enter Tryd.func22 rfl rfl rfl fun a hE => ?_
 rw [Fishref2SearchFault] at hr
 refine W.seq (W.region (vp hS hE rfl rfl fun a hE => WL.nil ?_))
 refine W.seq ?_
 refine W.block ?_
 refine W.seq (W.region (vp hS hE rfl rfl fun a hE => ?_))
 refine WL.fnq hE (Fishref2within_ok hS  rfl (r := Fishref2within x0 0 28800)) (runs_plain rfl) bd57 rfl rfl rfl ?_
 clear hE hS; rintro e w ⟨rfl, hS⟩; refine ⟨_, rfl, ?_⟩; clear a; intro a hE
 refine v2 hS hE rfl rfl rfl rfl fun a hE => WL.nil ?_
 refine W.cond hE rfl (fun hc51 => ?_) (fun hc51 => ?_)
 ·replace hr := iteT hc51 hr
  refine W.seq (W.region (vp hS hE rfl rfl fun a hE => WL.nil ?_))
  refine W.ret ?_
  refine finG (fn := Tryd.f22) (rs := [.tmp 12]) (vs := [_]) hE rfl ⟨rfl, trivial⟩ ?_
  subst hr
  exact ⟨rfl, hS⟩
 replace hr := iteF hc51 hr
 refine W.seq ?_
 obtain ⟨q53, hq52, hr⟩ := bndS hr
 refine W.cut (fun a w => ∃ (q56 : Bool), q56 = q53 ∧ Rep a 43 [(1, vi x1), (2, vi x2), (3, vi x3), (4, .bool x4), (5, .bool x5), (17, .bool q56)] ∧ St w s (R)) ?_ ?_
 ·refine W.gen fun K57 hK57 => ?_
  refine W.region ?_
  refine vp hS hE rfl rfl fun a hE => ?_
  refine WL.fnq hE (Fishref2within_ok hS  rfl (r := Fishref2within x1 0 11)) (runs_plain rfl) bd57 rfl rfl rfl ?_
  clear hE hS; rintro e w ⟨rfl, hS⟩; refine ⟨_, rfl, ?_⟩; clear a; intro a hE
  refine v2 hS hE rfl rfl rfl rfl fun a hE => ?_
  rcases Bool.eq_false_or_eq_true (!(Fishref2within x1 0 11)) with hg58 | hg58
  ·replace hq52 := iteT hg58 hq52
   refine nO hE rfl rfl rfl (by rw [hg58]; decide) rfl fun a hE => ?_
   refine nO hE rfl rfl rfl (by rw [hg58]; decide) rfl fun a hE => ?_
   refine WL.no hE (runs_undef hE rfl rfl rfl) rfl fun a hE => ?_
   refine WL.no hE (runs_undef hE rfl rfl rfl) rfl fun a hE => ?_
   refine WL.no hE (runs_undef hE rfl rfl rfl) rfl fun a hE => ?_
   refine nO hE rfl rfl rfl (by rw [hg58]; decide) rfl fun a hE => ?_
   refine vP hS hE (Gives.pickT hE rfl hg58 rfl) rfl fun a hE => ?_
   refine vp hS hE rfl rfl fun a hE => WL.nil ?_
   subst hK57
   exact ⟨true, hq52, hE.pick _ ⟨rfl, rfl, rfl, rfl, rfl, rfl, trivial⟩, hS⟩
  replace hq52 := iteF hg58 hq52
  refine WL.vS hS hE (runs_if hE rfl rfl rfl hg58) (Gives.p hE rfl) rfl fun a hE => ?_
  refine WL.vS hS hE (runs_if hE rfl rfl rfl hg58) (Gives.p hE rfl) rfl fun a hE => ?_
  rcases Bool.eq_false_or_eq_true x4 with hg59 | hg59
  ·replace hq52 := iteT hg59 hq52
   refine WL.vS hS hE (runs_if hE rfl rfl rfl hg59) (Gives.p hE rfl) rfl fun a hE => ?_
   refine WL.fnq hE (Fishref2within_ok hS  rfl (r := Fishref2within x2 0 11)) (runs_if hE rfl rfl rfl hg59) bd57 rfl rfl rfl ?_
   clear hE hS; rintro e w ⟨rfl, hS⟩; refine ⟨_, rfl, ?_⟩; clear a; intro a hE
   refine WL.vS hS hE (runs_if hE rfl rfl rfl hg59) (Gives.p hE rfl) rfl fun a hE => ?_
   refine WL.vS hS hE (runs_if hE rfl rfl rfl hg58) (Gives.pickT hE rfl hg59 rfl) rfl fun a hE => ?_
   refine vP hS hE (Gives.pickF hE rfl hg58 rfl) rfl fun a hE => ?_
   refine vp hS hE rfl rfl fun a hE => WL.nil ?_
   subst hK57
   exact ⟨!(Fishref2within x2 0 11), hq52, hE.pick _ ⟨rfl, rfl, rfl, rfl, rfl, rfl, trivial⟩, hS⟩
  replace hq52 := iteF hg59 hq52
  refine nO hE rfl rfl rfl (by rw [hg59]; decide) rfl fun a hE => ?_
  refine nO hE rfl rfl rfl (by rw [hg59]; decide) rfl fun a hE => ?_
  refine nO hE rfl rfl rfl (by rw [hg59]; decide) rfl fun a hE => ?_
  refine WL.vS hS hE (runs_if hE rfl rfl rfl hg58) (Gives.pickF hE rfl hg59 rfl) rfl fun a hE => ?_
  refine vP hS hE (Gives.pickF hE rfl hg58 rfl) rfl fun a hE => ?_
  refine vp hS hE rfl rfl fun a hE => WL.nil ?_
  subst hK57
  exact ⟨false, hq52, hE.pick _ ⟨rfl, rfl, rfl, rfl, rfl, rfl, trivial⟩, hS⟩
 clear hE hS a w; rintro a w ⟨q56, rfl, hE, hS⟩
 refine W.cond hE rfl (fun hc60 => ?_) (fun hc60 => ?_)
 ·replace hr := iteT hc60 hr
  refine W.seq (W.region (vp hS hE rfl rfl fun a hE => WL.nil ?_))
  refine W.ret ?_
  refine finG (fn := Tryd.f22) (rs := [.tmp 12]) (vs := [_]) hE rfl ⟨rfl, trivial⟩ ?_
  subst hr
  exact ⟨rfl, hS⟩
 replace hr := iteF hc60 hr
 refine W.seq ?_
 obtain ⟨q62, hq61, hr⟩ := bndS hr
 refine W.cut (fun a w => ∃ (q65 : Bool), q65 = q62 ∧ Rep a 43 [(3, vi x3), (5, .bool x5), (29, .bool q65)] ∧ St w s (R)) ?_ ?_
 ·refine W.gen fun K66 hK66 => ?_
  refine W.region ?_
  refine v2 hS hE rfl rfl rfl rfl fun a hE => ?_
  rcases Bool.eq_false_or_eq_true x4 with hg67 | hg67
  ·replace hq61 := iteT hg67 hq61
   refine WL.vS hS hE (runs_if hE rfl rfl rfl hg67) (Gives.p hE rfl) rfl fun a hE => ?_
   refine WL.vS hS hE (runs_if hE rfl rfl rfl hg67) (Gives.p hE rfl) rfl fun a hE => ?_
   refine WL.vS hS hE (runs_if hE rfl rfl rfl hg67) (Gives.p hE rfl) rfl fun a hE => ?_
   refine vP hS hE (Gives.pickT hE rfl hg67 rfl) rfl fun a hE => ?_
   refine vp hS hE rfl rfl fun a hE => WL.nil ?_
   subst hK66
   exact ⟨(x1 == x2), hq61, hE.pick _ ⟨rfl, rfl, rfl, trivial⟩, hS⟩
  replace hq61 := iteF hg67 hq61
  refine nO hE rfl rfl rfl (by rw [hg67]; decide) rfl fun a hE => ?_
  refine nO hE rfl rfl rfl (by rw [hg67]; decide) rfl fun a hE => ?_
  refine nO hE rfl rfl rfl (by rw [hg67]; decide) rfl fun a hE => ?_
  refine vP hS hE (Gives.pickF hE rfl hg67 rfl) rfl fun a hE => ?_
  refine vp hS hE rfl rfl fun a hE => WL.nil ?_
  subst hK66
  exact ⟨false, hq61, hE.pick _ ⟨rfl, rfl, rfl, trivial⟩, hS⟩
 clear hE hS a w; rintro a w ⟨q65, rfl, hE, hS⟩
 refine W.cond hE rfl (fun hc68 => ?_) (fun hc68 => ?_)
 ·replace hr := iteT hc68 hr
  refine W.seq (W.region (vp hS hE rfl rfl fun a hE => WL.nil ?_))
  refine W.ret ?_
  refine finG (fn := Tryd.f22) (rs := [.tmp 12]) (vs := [_]) hE rfl ⟨rfl, trivial⟩ ?_
  subst hr
  exact ⟨rfl, hS⟩
 replace hr := iteF hc68 hr
 refine W.seq ?_
 obtain ⟨q70, hq69, hr⟩ := bndS hr
 refine W.cut (fun a w => ∃ (q73 : Bool), q73 = q70 ∧ Rep a 43 [(36, .bool q73)] ∧ St w s (R)) ?_ ?_
 ·refine W.gen fun K74 hK74 => ?_
  refine W.region ?_
  refine v2 hS hE rfl rfl rfl rfl fun a hE => ?_
  rcases Bool.eq_false_or_eq_true x5 with hg75 | hg75
  ·replace hq69 := iteT hg75 hq69
   refine WL.vS hS hE (runs_if hE rfl rfl rfl hg75) (Gives.p hE rfl) rfl fun a hE => ?_
   refine WL.fnq hE (Fishref2within_ok hS  rfl (r := Fishref2within x3 0 28800)) (runs_if hE rfl rfl rfl hg75) bd57 rfl rfl rfl ?_
   clear hE hS; rintro e w ⟨rfl, hS⟩; refine ⟨_, rfl, ?_⟩; clear a; intro a hE
   refine WL.vS hS hE (runs_if hE rfl rfl rfl hg75) (Gives.p hE rfl) rfl fun a hE => ?_
   refine vP hS hE (Gives.pickT hE rfl hg75 rfl) rfl fun a hE => ?_
   refine vp hS hE rfl rfl fun a hE => WL.nil ?_
   subst hK74
   exact ⟨!(Fishref2within x3 0 28800), hq69, hE.pick _ ⟨rfl, trivial⟩, hS⟩
  replace hq69 := iteF hg75 hq69
  refine nO hE rfl rfl rfl (by rw [hg75]; decide) rfl fun a hE => ?_
  refine nO hE rfl rfl rfl (by rw [hg75]; decide) rfl fun a hE => ?_
  refine nO hE rfl rfl rfl (by rw [hg75]; decide) rfl fun a hE => ?_
  refine vP hS hE (Gives.pickF hE rfl hg75 rfl) rfl fun a hE => ?_
  refine vp hS hE rfl rfl fun a hE => WL.nil ?_
  subst hK74
  exact ⟨false, hq69, hE.pick _ ⟨rfl, trivial⟩, hS⟩
 clear hE hS a w; rintro a w ⟨q73, rfl, hE, hS⟩
 refine W.cond hE rfl (fun hc76 => ?_) (fun hc76 => ?_)
 ·replace hr := iteT hc76 hr
  refine W.seq (W.region (vp hS hE rfl rfl fun a hE => WL.nil ?_))
  refine W.ret ?_
  refine finG (fn := Tryd.f22) (rs := [.tmp 12]) (vs := [_]) hE rfl ⟨rfl, trivial⟩ ?_
  subst hr
  exact ⟨rfl, hS⟩
 replace hr := iteF hc76 hr
 refine W.skip ?_
 refine W.seq (W.region (vp hS hE rfl rfl fun a hE => WL.nil ?_))
 refine W.ret ?_
 refine finG (fn := Tryd.f22) (rs := [.tmp 12]) (vs := [_]) hE rfl ⟨rfl, trivial⟩ ?_
 subst hr
 exact ⟨rfl, hS⟩
set_option maxHeartbeats 8000000 in
theorem Fishlaw2small_1_ok  {w : World} {s : Sg} {R : List HP} {x0 : Int} {x1 : Int} {x2 : Int} (hS : St w s (R))  {r : ApiStop} (hr : Fishlaw2small_1 x0 x1 x2 = r) :
  Calls Tryd.prog 104 [vi x0, vi x1, vi x2].toArray w (fun e w => ∃ (cs0 : List Value) (t : Sg), e = .returned (.agg cs0.toArray) ∧ s.Le t ∧ RApiStop t cs0 r ∧ St w t (R)) := by
 refine enter Tryd.func104 rfl rfl rfl fun a hE => ?_
 rw [Fishlaw2small_1] at hr
 refine W.seq (W.region ?_)
 refine WL.alloc hE hS (runs_plain rfl) zr106 rfl ?_; clear hE hS a w; intro b51 a w hE hS
 refine WL.nil ?_
 refine W.seq (W.region (v2 hS hE rfl rfl rfl rfl fun a hE => ?_))
 refine vp hS hE rfl rfl fun a hE => ?_
 refine vP hS hE (Gives.build hE (vs := [(0, vi x0), (2, vi x1), (3, vi x2)]) [vi x0, vi 0, vi x1, vi x2] rfl (by kernel_rfl)) rfl fun a hE => ?_
 refine WL.storeI hE hS 0 rfl [vi x0, vi 0, vi x1, vi x2] (runs_plain rfl) rfl rfl rfl ty106 rfl rfl rfl rfl ?_; clear hE hS a w; intro a w hE hS
 refine WL.nil ?_
 refine W.ret ?_
 refine finG (fn := Tryd.f104) (rs := [.cell 6 106]) (vs := [_]) hE rfl ⟨⟨_, rfl, .inl ⟨_, rfl, hS.seesAt 0 rfl, ty106⟩⟩, trivial⟩ ?_
 subst hr
 replace hS := hS.tail
 exact ⟨_, s, rfl, (Sg.Le.refl _), rfl, hS⟩
set_option maxHeartbeats 8000000 in
theorem Fishlaw2small_ok  {w : World} {s : Sg} {R : List HP}  (hS : St w s (R))  {r : ApiDay} (hr : Fishlaw2small = r) :
  Calls Tryd.prog 58 [].toArray w (fun e w => ∃ (cs0 : List Value) (t : Sg), e = .returned (.agg cs0.toArray) ∧ s.Le t ∧ RApiDay t cs0 r ∧ St w t (R)) := by
 refine enter Tryd.func58 rfl rfl rfl fun a hE => ?_
 rw [Fishlaw2small] at hr
 refine W.seq (W.region ?_)
 refine WL.alloc hE hS (runs_plain rfl) zr25 rfl ?_; clear hE hS a w; intro b51 a w hE hS
 refine WL.nil ?_
 refine W.seq (W.region (vp hS hE rfl rfl fun a hE => WL.nil ?_))
 refine W.seq (W.region (vp hS hE rfl rfl fun a hE => ?_))
 obtain ⟨q52, hq53, hr⟩ := bndS hr
 have hc_ := Fishlaw2small_1_ok hS  hq53
 refine WL.fnw hE (hc_) rfl (runs_plain rfl) bd104 rfl rfl rfl ?_
 clear hE hS hc_; rintro e w ⟨cs54, s56, rfl, hle57, h55, hS⟩; refine ⟨_, rfl, ?_⟩; clear a; intro a hE
 subst h55
 refine vp hS hE rfl rfl fun a hE => ?_
 obtain ⟨q58, hq59, hr⟩ := bndS hr
 have hc_ := Fishlaw2small_1_ok hS  hq59
 refine WL.fnw hE (hc_) rfl (runs_plain rfl) bd104 rfl rfl rfl ?_
 clear hE hS hc_; rintro e w ⟨cs60, s62, rfl, hle63, h61, hS⟩; refine ⟨_, rfl, ?_⟩; clear a; intro a hE
 subst h61
 refine vp hS hE rfl rfl fun a hE => ?_
 obtain ⟨q64, hq65, hr⟩ := bndS hr
 have hc_ := Fishlaw2small_1_ok hS  hq65
 refine WL.fnw hE (hc_) rfl (runs_plain rfl) bd104 rfl rfl rfl ?_
 clear hE hS hc_; rintro e w ⟨cs66, s68, rfl, hle69, h67, hS⟩; refine ⟨_, rfl, ?_⟩; clear a; intro a hE
 subst h67
 refine WL.lit hE hS (e := 106) (es := 4) (vs := [(0, .agg (ApiStop.cells q52).toArray), (1, .agg (ApiStop.cells q58).toArray), (2, .agg (ApiStop.cells q64).toArray)]) (cs := [vi q52.Station, vi q52.Track, vi q52.Arr, vi q52.Dep, vi q58.Station, vi q58.Track, vi q58.Arr, vi q58.Dep, vi q64.Station, vi q64.Track, vi q64.Arr, vi q64.Dep]) (runs_plain rfl) rfl (by kernel_rfl) rfl ?_; clear hE hS a w; intro b70 a w hE hS
 replace hS := hS.ptVec (es := 4) (m := 3) rfl (by decide)
 have h72 : Ev 4 RApiStop s68 [vi q52.Station, vi q52.Track, vi q52.Arr, vi q52.Dep, vi q58.Station, vi q58.Track, vi q58.Arr, vi q58.Dep, vi q64.Station, vi q64.Track, vi q64.Arr, vi q64.Dep] [q52, q58, q64] := (Ev.cons (c1 := [vi q52.Station, vi q52.Track, vi q52.Arr, vi q52.Dep]) rfl rfl (Ev.cons (c1 := [vi q58.Station, vi q58.Track, vi q58.Arr, vi q58.Dep]) rfl rfl (Ev.cons (c1 := [vi q64.Station, vi q64.Track, vi q64.Arr, vi q64.Dep]) rfl rfl (Ev.nil))))
 have hF := hS.fixD RApiStop.mono 0 rfl h72 (rfl); clear hS; obtain ⟨s73, hle74, hS, h75⟩ := hF
 refine WL.lit hE hS (e := 3) (es := 1) (vs := [(0, vi 0)]) (cs := [vi 0]) (runs_plain rfl) rfl (by kernel_rfl) rfl ?_; clear hE hS a w; intro b76 a w hE hS
 replace hS := hS.ptVec (es := 1) (m := 1) rfl (by decide)
 have h78 : Ev 1 (RI .i64) s73 [vi 0] [0] := (Ev.cons (c1 := [vi 0]) rfl rfl (Ev.nil))
 have hF := hS.fixD RI.mono 0 rfl h78 (rfl); clear hS; obtain ⟨s79, hle80, hS, h81⟩ := hF
 replace h75 := Sl.mono RApiStop.mono hle80 h75
 refine WL.lit hE hS (e := 3) (es := 1) (vs := [(0, vi 1)]) (cs := [vi 1]) (runs_plain rfl) rfl (by kernel_rfl) rfl ?_; clear hE hS a w; intro b82 a w hE hS
 replace hS := hS.ptVec (es := 1) (m := 1) rfl (by decide)
 have h84 : Ev 1 (RI .i64) s79 [vi 1] [1] := (Ev.cons (c1 := [vi 1]) rfl rfl (Ev.nil))
 have hF := hS.fixD RI.mono 0 rfl h84 (rfl); clear hS; obtain ⟨s85, hle86, hS, h87⟩ := hF
 replace h75 := Sl.mono RApiStop.mono hle86 h75
 replace h81 := Sl.mono RI.mono hle86 h81
 refine WL.lit hE hS (e := 45) (es := 1) (vs := [(0, .slice (some ⟨b76, 0, none⟩) 1 1), (1, .slice (some ⟨b82, 0, none⟩) 1 1)]) (cs := [.slice (some ⟨b76, 0, none⟩) 1 1, .slice (some ⟨b82, 0, none⟩) 1 1]) (runs_plain rfl) rfl (by kernel_rfl) rfl ?_; clear hE hS a w; intro b88 a w hE hS
 replace hS := hS.ptVec (es := 1) (m := 2) rfl (by decide)
 have h90 : Ev 1 (RL 1 (RI .i64)) s85 [.slice (some ⟨b76, 0, none⟩) 1 1, .slice (some ⟨b82, 0, none⟩) 1 1] [[0], [1]] := (Ev.cons (c1 := [.slice (some ⟨b76, 0, none⟩) 1 1]) ⟨_, _, rfl, h81⟩ rfl (Ev.cons (c1 := [.slice (some ⟨b82, 0, none⟩) 1 1]) ⟨_, _, rfl, h87⟩ rfl (Ev.nil)))
 have hF := hS.fixD (RL.mono RI.mono) 0 rfl h90 (rfl); clear hS; obtain ⟨s91, hle92, hS, h93⟩ := hF
 replace h75 := Sl.mono RApiStop.mono hle92 h75
 replace h81 := Sl.mono RI.mono hle92 h81
 replace h87 := Sl.mono RI.mono hle92 h87
 refine vP hS hE (Gives.build hE (vs := [(0, vi 1), (2, .slice (some ⟨b70, 0, none⟩) 3 3), (3, .slice (some ⟨b88, 0, none⟩) 2 2)]) [vi 1, vi 0, .slice (some ⟨b70, 0, none⟩) 3 3, .slice (some ⟨b88, 0, none⟩) 2 2] rfl (by kernel_rfl)) rfl fun a hE => ?_
 refine vp hS hE rfl rfl fun a hE => ?_
 obtain ⟨q94, hq95, hr⟩ := bndS hr
 have hc_ := Fishlaw2small_1_ok hS  hq95
 refine WL.fnw hE (hc_) rfl (runs_plain rfl) bd104 rfl rfl rfl ?_
 clear hE hS hc_; rintro e w ⟨cs96, s98, rfl, hle99, h97, hS⟩; refine ⟨_, rfl, ?_⟩; clear a; intro a hE
 replace h75 := Sl.mono RApiStop.mono hle99 h75
 replace h81 := Sl.mono RI.mono hle99 h81
 replace h87 := Sl.mono RI.mono hle99 h87
 replace h93 := Sl.mono (RL.mono RI.mono) hle99 h93
 subst h97
 refine vp hS hE rfl rfl fun a hE => ?_
 obtain ⟨q100, hq101, hr⟩ := bndS hr
 have hc_ := Fishlaw2small_1_ok hS  hq101
 refine WL.fnw hE (hc_) rfl (runs_plain rfl) bd104 rfl rfl rfl ?_
 clear hE hS hc_; rintro e w ⟨cs102, s104, rfl, hle105, h103, hS⟩; refine ⟨_, rfl, ?_⟩; clear a; intro a hE
 replace h75 := Sl.mono RApiStop.mono hle105 h75
 replace h81 := Sl.mono RI.mono hle105 h81
 replace h87 := Sl.mono RI.mono hle105 h87
 replace h93 := Sl.mono (RL.mono RI.mono) hle105 h93
 subst h103
 refine WL.lit hE hS (e := 106) (es := 4) (vs := [(0, .agg (ApiStop.cells q94).toArray), (1, .agg (ApiStop.cells q100).toArray)]) (cs := [vi q94.Station, vi q94.Track, vi q94.Arr, vi q94.Dep, vi q100.Station, vi q100.Track, vi q100.Arr, vi q100.Dep]) (runs_plain rfl) rfl (by kernel_rfl) rfl ?_; clear hE hS a w; intro b106 a w hE hS
 replace hS := hS.ptVec (es := 4) (m := 2) rfl (by decide)
 have h108 : Ev 4 RApiStop s104 [vi q94.Station, vi q94.Track, vi q94.Arr, vi q94.Dep, vi q100.Station, vi q100.Track, vi q100.Arr, vi q100.Dep] [q94, q100] := (Ev.cons (c1 := [vi q94.Station, vi q94.Track, vi q94.Arr, vi q94.Dep]) rfl rfl (Ev.cons (c1 := [vi q100.Station, vi q100.Track, vi q100.Arr, vi q100.Dep]) rfl rfl (Ev.nil)))
 have hF := hS.fixD RApiStop.mono 0 rfl h108 (rfl); clear hS; obtain ⟨s109, hle110, hS, h111⟩ := hF
 replace h75 := Sl.mono RApiStop.mono hle110 h75
 replace h81 := Sl.mono RI.mono hle110 h81
 replace h87 := Sl.mono RI.mono hle110 h87
 replace h93 := Sl.mono (RL.mono RI.mono) hle110 h93
 refine WL.lit hE hS (e := 3) (es := 1) (vs := [(0, vi 2)]) (cs := [vi 2]) (runs_plain rfl) rfl (by kernel_rfl) rfl ?_; clear hE hS a w; intro b112 a w hE hS
 replace hS := hS.ptVec (es := 1) (m := 1) rfl (by decide)
 have h114 : Ev 1 (RI .i64) s109 [vi 2] [2] := (Ev.cons (c1 := [vi 2]) rfl rfl (Ev.nil))
 have hF := hS.fixD RI.mono 0 rfl h114 (rfl); clear hS; obtain ⟨s115, hle116, hS, h117⟩ := hF
 replace h75 := Sl.mono RApiStop.mono hle116 h75
 replace h81 := Sl.mono RI.mono hle116 h81
 replace h87 := Sl.mono RI.mono hle116 h87
 replace h93 := Sl.mono (RL.mono RI.mono) hle116 h93
 replace h111 := Sl.mono RApiStop.mono hle116 h111
 refine WL.lit hE hS (e := 45) (es := 1) (vs := [(0, .slice (some ⟨b112, 0, none⟩) 1 1)]) (cs := [.slice (some ⟨b112, 0, none⟩) 1 1]) (runs_plain rfl) rfl (by kernel_rfl) rfl ?_; clear hE hS a w; intro b118 a w hE hS
 replace hS := hS.ptVec (es := 1) (m := 1) rfl (by decide)
 have h120 : Ev 1 (RL 1 (RI .i64)) s115 [.slice (some ⟨b112, 0, none⟩) 1 1] [[2]] := (Ev.cons (c1 := [.slice (some ⟨b112, 0, none⟩) 1 1]) ⟨_, _, rfl, h117⟩ rfl (Ev.nil))
 have hF := hS.fixD (RL.mono RI.mono) 0 rfl h120 (rfl); clear hS; obtain ⟨s121, hle122, hS, h123⟩ := hF
 replace h75 := Sl.mono RApiStop.mono hle122 h75
 replace h81 := Sl.mono RI.mono hle122 h81
 replace h87 := Sl.mono RI.mono hle122 h87
 replace h93 := Sl.mono (RL.mono RI.mono) hle122 h93
 replace h111 := Sl.mono RApiStop.mono hle122 h111
 replace h117 := Sl.mono RI.mono hle122 h117
 refine vP hS hE (Gives.build hE (vs := [(0, vi 2), (2, .slice (some ⟨b106, 0, none⟩) 2 2), (3, .slice (some ⟨b118, 0, none⟩) 1 1)]) [vi 2, vi 0, .slice (some ⟨b106, 0, none⟩) 2 2, .slice (some ⟨b118, 0, none⟩) 1 1] rfl (by kernel_rfl)) rfl fun a hE => ?_
 refine WL.lit hE hS (e := 44) (es := 4) (vs := [(0, .agg [vi 1, vi 0, .slice (some ⟨b70, 0, none⟩) 3 3, .slice (some ⟨b88, 0, none⟩) 2 2].toArray), (1, .agg [vi 2, vi 0, .slice (some ⟨b106, 0, none⟩) 2 2, .slice (some ⟨b118, 0, none⟩) 1 1].toArray)]) (cs := [vi 1, vi 0, .slice (some ⟨b70, 0, none⟩) 3 3, .slice (some ⟨b88, 0, none⟩) 2 2, vi 2, vi 0, .slice (some ⟨b106, 0, none⟩) 2 2, .slice (some ⟨b118, 0, none⟩) 1 1]) (runs_plain rfl) rfl (by kernel_rfl) rfl ?_; clear hE hS a w; intro b124 a w hE hS
 replace hS := hS.ptVec (es := 4) (m := 2) rfl (by decide)
 have h126 : Ev 4 RApiTrain s121 [vi 1, vi 0, .slice (some ⟨b70, 0, none⟩) 3 3, .slice (some ⟨b88, 0, none⟩) 2 2, vi 2, vi 0, .slice (some ⟨b106, 0, none⟩) 2 2, .slice (some ⟨b118, 0, none⟩) 1 1] [(ApiTrain.mk 1 0 [q52, q58, q64] [[0], [1]]), (ApiTrain.mk 2 0 [q94, q100] [[2]])] := (Ev.cons (c1 := [vi 1, vi 0, .slice (some ⟨b70, 0, none⟩) 3 3, .slice (some ⟨b88, 0, none⟩) 2 2]) ⟨_, _, _, _, rfl, h75, h93⟩ rfl (Ev.cons (c1 := [vi 2, vi 0, .slice (some ⟨b106, 0, none⟩) 2 2, .slice (some ⟨b118, 0, none⟩) 1 1]) ⟨_, _, _, _, rfl, h111, h123⟩ rfl (Ev.nil)))
 have hF := hS.fixD RApiTrain.mono 0 rfl h126 (rfl); clear hS; obtain ⟨s127, hle128, hS, h129⟩ := hF
 replace h75 := Sl.mono RApiStop.mono hle128 h75
 replace h81 := Sl.mono RI.mono hle128 h81
 replace h87 := Sl.mono RI.mono hle128 h87
 replace h93 := Sl.mono (RL.mono RI.mono) hle128 h93
 replace h111 := Sl.mono RApiStop.mono hle128 h111
 replace h117 := Sl.mono RI.mono hle128 h117
 replace h123 := Sl.mono (RL.mono RI.mono) hle128 h123
 refine vP hS hE (Gives.build hE (vs := [(0, .slice (some ⟨b124, 0, none⟩) 2 2)]) [.slice (some ⟨b124, 0, none⟩) 2 2, .slice none 0 0] rfl (by kernel_rfl)) rfl fun a hE => ?_
 refine WL.storeI hE hS 0 rfl [.slice (some ⟨b124, 0, none⟩) 2 2, .slice none 0 0] (runs_plain rfl) rfl rfl rfl ty25 rfl rfl rfl rfl ?_; clear hE hS a w; intro a w hE hS
 refine WL.nil ?_
 refine W.ret ?_
 refine finG (fn := Tryd.f58) (rs := [.cell 0 25]) (vs := [_]) hE rfl ⟨⟨_, rfl, .inl ⟨_, rfl, hS.seesAt 0 rfl, ty25⟩⟩, trivial⟩ ?_
 subst hr
 replace hS := hS.tail
 exact ⟨_, s127, rfl, (Sg.Le.trans (Sg.Le.trans (Sg.Le.trans (Sg.Le.trans (Sg.Le.trans (Sg.Le.trans (Sg.Le.trans (Sg.Le.trans (Sg.Le.trans (Sg.Le.trans (Sg.Le.trans (Sg.Le.trans hle57 hle63) hle69) hle74) hle80) hle86) hle92) hle99) hle105) hle110) hle116) hle122) hle128), ⟨_, _, _, _, rfl, h129, Sl.nil⟩, hS⟩
set_option maxHeartbeats 8000000 in
theorem GuideNetearliest_1_v1_ok  {w : World} {s : Sg} {R : List HP} {pb0 : Nat} {x0 : GuidePoint} {y0 : Int} (hS : St w s (pc pb0 #[vi y0] 3 :: R))  {r : Bool} (hr : GuideNetearliest_1_v1 x0 y0 = r) :
  Calls Tryd.prog 96 [.agg (GuidePoint.cells x0).toArray, pp pb0].toArray w (fun e w => e = .returned (.bool r) ∧ St w s (pc pb0 #[vi y0] 3 :: R)) := by
 refine enter Tryd.func96 rfl rfl rfl fun a hE => ?_
 rw [GuideNetearliest_1_v1] at hr
 refine W.seq (W.region ?_)
 refine WL.box hE hS (runs_plain rfl) rfl rfl rfl ?_; clear hE hS a w; intro b51 a w hE hS
 refine vp hS hE rfl rfl fun a hE => WL.nil ?_
 refine W.seq (W.region (vP hS hE (Gives.fld hE rfl fl62_0) rfl fun a hE => ?_))
 refine vP hS hE (Gives.loadB hE 0 rfl rfl rfl ty3) rfl fun a hE => ?_
 refine vP hS hE (Gives.loadB hE 1 rfl rfl rfl ty3) rfl fun a hE => ?_
 refine v2 hS hE rfl rfl rfl rfl fun a hE => WL.nil ?_
 refine W.ret ?_
 refine finG (fn := Tryd.f96) (rs := [.tmp 3]) (vs := [_]) hE rfl ⟨rfl, trivial⟩ ?_
 subst hr
 replace hS := hS.tail
 exact ⟨rfl, hS⟩
set_option maxHeartbeats 8000000 in
theorem SlicesIndexFuncLguidePoint_v2_ok  {w : World} {s : Sg} {R : List HP} {pb0 : Nat} {x0 : List GuidePoint} {a0 : Option Addr} {c0 : Nat} {y0 : Int} (hS : St w s (pc pb0 #[vi y0] 3 :: R)) (h0 : Sl 3 RGuidePoint s a0 c0 x0) {r : Int} (hr : SlicesIndexFuncLguidePoint_v2 x0 y0 = r) :
  Calls Tryd.prog 98 [.slice a0 x0.length c0, .func (.func 96) #[] #[pp pb0]].toArray w (fun e w => e = .returned (vi r) ∧ St w s (pc pb0 #[vi y0] 3 :: R)) := by
 refine enter Tryd.func98 rfl rfl rfl fun a hE => ?_
 rw [SlicesIndexFuncLguidePoint_v2] at hr
 refine W.seq (W.region (vp hS hE rfl rfl fun a hE => WL.nil ?_))
 refine W.seq ?_
 refine W.seq (W.region (vp hS hE rfl rfl fun a hE => ?_))
 refine vP hS hE (Gives.len hE rfl sl55) rfl fun a hE => ?_
 refine vp hS hE rfl rfl fun a hE => WL.nil ?_
 obtain ⟨q52, hq51, hr⟩ := bndS hr
 refine W.cut (fun a w => (.next ()) = q52 ∧ Rep a 19 [] ∧ St w s (pc pb0 #[vi y0] 3 :: R)) ?_ ?_
 ·refine W.block ?_
  refine W.loop (fun m a w => ∃ (rest55 : List GuidePoint) (k53 : Nat), rest55.length = m ∧ x0.drop k53 = rest55 ∧ SlicesIndexFuncLguidePoint_v2.loop1 y0 rest55 k53 = q52 ∧ Rep a 19 [(0, .slice a0 x0.length c0), (1, .func (.func 96) #[] #[pp pb0]), (7, vi ((x0).length : Int)), (8, vi ((k53 : Nat) : Int))] ∧ St w s (pc pb0 #[vi y0] 3 :: R)) (m := x0.length) ⟨x0, 0, rfl, rfl, hq51, hE.pick _ ⟨rfl, rfl, rfl, rfl, trivial⟩, hS⟩ ?_
  clear hE hS a w hq51; rintro m59 a w ⟨rest55, k53, rfl, hd56, hq51, hE, hS⟩
  refine W.gen fun K62 hK62 => ?_
  rcases rest55 with _ | ⟨x54, rest55⟩
  ·have hlt57 := drop_nil hd56
   refine W.seq (W.region (vp hS hE rfl rfl fun a hE => WL.nil ?_))
   refine W.seq ?_
   refine W.condF hE rfl (decide_eq_false (by omega)) ?_
   subst hK62
   refine W.exit rfl ?_
   exact ⟨hq51, hE.pick _ trivial, hS⟩
  obtain ⟨hlt57, hx58, hd56⟩ := drop_cons hd56
  rw [SlicesIndexFuncLguidePoint_v2.loop1] at hq51
  refine W.seq (W.region (vp hS hE rfl rfl fun a hE => WL.nil ?_))
  refine W.seq ?_
  refine W.condT hE rfl (decide_eq_true (by omega)) ?_
  refine W.skip ?_
  refine W.seq ?_
  refine W.block ?_
  refine W.seq (W.region (v2 hS hE rfl rfl rfl rfl fun a hE => WL.nil ?_))
  refine W.seq (W.region (v2 hS hE rfl rfl rfl rfl fun a hE => ?_))
  refine vp hS hE rfl rfl fun a hE => ?_
  obtain ⟨cs63, hl64, hR65, hat66⟩ := h0.at hx58
  subst hR65
  refine vP hS hE (Gives.idx hE k53 rfl rfl sl55 rfl hlt57 (h0.aok hlt57)) rfl fun a hE => ?_
  refine vP hS hE (Gives.loadA hE rfl (fun w h => hat66 w _ h) ty62) rfl fun a hE => ?_
  refine WL.fnw hE (GuideNetearliest_1_v1_ok hS  rfl (r := GuideNetearliest_1_v1 x54 y0)) rfl (runs_plain rfl) bd96 rfl rfl rfl ?_
  clear hE hS; rintro e w ⟨rfl, hS⟩; refine ⟨_, rfl, ?_⟩; clear a; intro a hE
  refine WL.nil ?_
  refine W.cond hE rfl (fun hc67 => ?_) (fun hc67 => ?_)
  ·replace hq51 := iteT hc67 hq51
   refine W.seq (W.region (v2 hS hE rfl rfl rfl rfl fun a hE => WL.nil ?_))
   refine W.ret ?_
   subst hK62
   rw [← hq51] at hr
   dsimp only at hr
   refine finG (fn := Tryd.f98) (rs := [.tmp 4]) (vs := [_]) hE rfl ⟨rfl, trivial⟩ ?_
   subst hr
   exact ⟨rfl, hS⟩
  replace hq51 := iteF hc67 hq51
  refine W.skip ?_
  refine W.region ?_
  refine vP hS hE (Gives.inc hE rfl (by have := h0.small; omega)) rfl fun a hE => ?_
  refine vp hS hE rfl rfl fun a hE => WL.nil ?_
  subst hK62
  exact ⟨rest55.length, Nat.lt_succ_self _, rest55, k53 + 1, rfl, hd56, hq51, hE.pick _ ⟨rfl, rfl, rfl, rfl, trivial⟩, hS⟩
 clear hE hS a w; rintro a w ⟨rfl, hE, hS⟩
 dsimp only at hr
 refine W.seq (W.region (vp hS hE rfl rfl fun a hE => WL.nil ?_))
 refine W.ret ?_
 refine finG (fn := Tryd.f98) (rs := [.tmp 4]) (vs := [_]) hE rfl ⟨rfl, trivial⟩ ?_
 subst hr
 exact ⟨rfl, hS⟩
set_option maxHeartbeats 8000000 in
theorem SlicesDeleteFuncLguidePoint_v1_ok {fu : Nat}  {w : World} {s : Sg} {R : List HP} {pb0 : Nat} {x0 : List GuidePoint} {a_v0 : Option Addr} {c_v0 n_v0 : Nat} {cs_v0 : List Value} {y0 : Int} (hS : St w s (pc pb0 #[vi y0] 3 :: vecC 62 3 a_v0 c_v0 n_v0 cs_v0 :: R)) (h_v0 : Ev 3 RGuidePoint s cs_v0 x0) (hn_v0 : x0.length = n_v0) {r : (List GuidePoint)} (hr : SlicesDeleteFuncLguidePoint_v1 fu x0 y0 = some r) :
  Calls Tryd.prog 48 [.slice a_v0 n_v0 c_v0, .func (.func 96) #[] #[pp pb0]].toArray w (fun e w => ∃ (a0 : Option Addr) (c0 n0 : Nat) (cs0 : List Value), e = .returned (.slice a0 n0 c0) ∧ Ev 3 RGuidePoint s cs0 r ∧ r.length = n0 ∧ St w s (vecC 62 3 a0 c0 n0 cs0 :: pc pb0 #[vi y0] 3 :: R)) := by
 refine enter Tryd.func48 rfl rfl rfl fun a hE => ?_
 rw [SlicesDeleteFuncLguidePoint_v1] at hr
 subst hn_v0
 refine W.seq (W.region (vp hS hE rfl rfl fun a hE => WL.nil ?_))
 refine W.seq (W.region (v2 hS hE rfl rfl rfl rfl fun a hE => ?_))
 have hF := hS.lendV RGuidePoint.mono 1 rfl h_v0 (rfl); clear hS; obtain ⟨t51, hle52, hS, hs53, bk54⟩ := hF
 refine WL.fnq hE (SlicesIndexFuncLguidePoint_v2_ok hS hs53 rfl (r := SlicesIndexFuncLguidePoint_v2 x0 y0)) (runs_plain rfl) bd98 rfl rfl rfl ?_
 clear hE hS; rintro e w ⟨rfl, hS⟩; refine ⟨_, rfl, ?_⟩; clear a; intro a hE
 replace hS := bk54 _ _ hS
 refine vp hS hE rfl rfl fun a hE => WL.nil ?_
 refine W.seq ?_
 refine W.seq (W.region (v2 hS hE rfl rfl rfl rfl fun a hE => WL.nil ?_))
 refine W.cond hE rfl (fun hc55 => ?_) (fun hc55 => ?_)
 ·replace hr := iteT hc55 hr
  refine W.seq (W.region (v2 hS hE rfl rfl rfl rfl fun a hE => WL.nil ?_))
  refine W.ret ?_
  refine finG (fn := Tryd.f48) (rs := [.tmp 4]) (vs := [_]) hE rfl ⟨rfl, trivial⟩ ?_
  obtain rfl := Option.some.inj hr
  exact ⟨a_v0, c_v0, x0.length, cs_v0, rfl, h_v0, (rfl), hS⟩
 replace hr := iteF hc55 hr
 refine W.skip ?_
 refine W.seq ?_
 refine W.seq (W.region (v2 hS hE rfl rfl rfl rfl fun a hE => ?_))
 refine vp hS hE rfl rfl fun a hE => WL.nil ?_
 obtain ⟨q57, hq56, hr⟩ := bindS hr
 refine W.cut (fun a w => ∃ (q62 : Int), ∃ (q63 : Int), ∃ (q64 : List GuidePoint), ∃ (cs68 : List Value), (q62, q63, q64) = q57 ∧ Ev 3 RGuidePoint s cs68 q64 ∧ q64.length = x0.length ∧ Rep a 42 [(0, .slice a_v0 x0.length c_v0), (5, vi q62)] ∧ St w s (vecC 62 3 a_v0 c_v0 x0.length cs68 :: pc pb0 #[vi y0] 3 :: R)) ?_ ?_
 ·refine W.block ?_
  refine W.loop (fun m a w => ∃ (n58 : Nat), ∃ (q62 : Int), ∃ (q63 : Int), ∃ (q64 : List GuidePoint), ∃ (cs68 : List Value), n58 = m ∧ SlicesDeleteFuncLguidePoint_v1.loop1 x0 y0 n58 q62 q63 q64 = some q57 ∧ Ev 3 RGuidePoint s cs68 q64 ∧ q64.length = x0.length ∧ Rep a 42 [(0, .slice a_v0 x0.length c_v0), (1, .func (.func 96) #[] #[pp pb0]), (5, vi q62), (6, vi q63)] ∧ St w s (vecC 62 3 a_v0 c_v0 x0.length cs68 :: pc pb0 #[vi y0] 3 :: R)) (m := fu) ⟨fu, (SlicesIndexFuncLguidePoint_v2 x0 y0), (w64 ((SlicesIndexFuncLguidePoint_v2 x0 y0) + 1)), x0, cs_v0, rfl, hq56, h_v0, (rfl), hE.pick _ ⟨rfl, rfl, rfl, rfl, trivial⟩, hS⟩ ?_
  clear hE hS a w hq56; rintro m59 a w ⟨n58, q62, q63, q64, cs68, rfl, hq56, h67, hn69, hE, hS⟩
  refine W.gen fun K70 hK70 => ?_
  rcases n58 with _ | n58
  ·rw [SlicesDeleteFuncLguidePoint_v1.loop1] at hq56; exact absurd hq56 (by simp)
  rw [SlicesDeleteFuncLguidePoint_v1.loop1] at hq56
  refine W.seq ?_
  refine W.seq (W.region (v2 hS hE rfl rfl rfl rfl fun a hE => ?_))
  refine vP hS hE (Gives.len hE rfl sl55) rfl fun a hE => ?_
  refine vp hS hE rfl rfl fun a hE => WL.nil ?_
  refine W.cond hE rfl (fun hc71 => ?_) (fun hc71 => ?_)
  ·replace hq56 := iteT hc71 hq56
   refine W.skip ?_
   refine W.seq ?_
   refine W.block ?_
   refine W.seq (W.region (v2 hS hE rfl rfl rfl rfl fun a hE => ?_))
   obtain ⟨x72, hx73, hq56⟩ := bindS hq56
   obtain ⟨hi74, hlt75, hy76⟩ := gx_some hx73
   obtain ⟨vs77, hl78, hR79, hd80, hget81⟩ := h67.at hy76
   subst hR79
   refine vP hS hE (Gives.idx hE ((q63).toNat) rfl rfl sl55 hi74 (by have := hn69; omega) (hS.vecAok 0 rfl (by have := hn69; omega : (q63).toNat < x0.length))) rfl fun a hE => ?_
   refine vP hS hE (Gives.loadA hE rfl (fun w h => St.vecSees h 0 rfl ((q63).toNat * 3) _ hget81) ty62) rfl fun a hE => ?_
   refine WL.alloc hE hS (runs_plain rfl) zr62 rfl ?_; clear hE hS a w; intro b82 a w hE hS
   refine WL.storeI hE hS 0 rfl (GuidePoint.cells x72) (runs_plain rfl) rfl rfl rfl ty62 rfl rfl rfl rfl ?_; clear hE hS a w; intro a w hE hS
   refine WL.nil ?_
   refine W.seq (W.region (vp hS hE rfl rfl fun a hE => ?_))
   refine vP hS hE (Gives.loadBA hE 0 rfl rfl ty62) rfl fun a hE => ?_
   replace hS := hS.front 2 rfl
   refine WL.fnw hE (GuideNetearliest_1_v1_ok hS  rfl (r := GuideNetearliest_1_v1 x72 y0)) rfl (runs_plain rfl) bd96 rfl rfl rfl ?_
   clear hE hS; rintro e w ⟨rfl, hS⟩; refine ⟨_, rfl, ?_⟩; clear a; intro a hE
   refine vp hS hE rfl rfl fun a hE => WL.nil ?_
   obtain ⟨q84, hq83, hq56⟩ := bindS hq56
   refine W.cut (fun a w => ∃ (q87 : Int), ∃ (q88 : List GuidePoint), ∃ (cs92 : List Value), (q87, q88) = q84 ∧ Ev 3 RGuidePoint s cs92 q88 ∧ q88.length = x0.length ∧ Rep a 42 [(0, .slice a_v0 x0.length c_v0), (1, .func (.func 96) #[] #[pp pb0]), (5, vi q87), (6, vi q63)] ∧ St w s (pc pb0 #[vi y0] 3 :: pc b82 (GuidePoint.cells x72).toArray 62 :: vecC 62 3 a_v0 c_v0 x0.length cs92 :: R)) ?_ ?_
   ·refine W.gen fun K94 hK94 => ?_
    refine W.cond hE rfl (fun hc95 => ?_) (fun hc95 => ?_)
    ·replace hq83 := iteT hc95 hq83
     refine W.seq (W.region (v2 hS hE rfl rfl rfl rfl fun a hE => ?_))
     refine vP hS hE (Gives.loadBA hE 1 rfl rfl ty62) rfl fun a hE => ?_
     obtain ⟨_, hx97, hq83⟩ := bindS hq83
     obtain ⟨h98, h99⟩ := ix_some hx97
     refine vP hS hE (Gives.idx hE ((q62).toNat) rfl rfl sl55 h98 (by have := hn69; omega) (hS.vecAok 2 rfl (by have := hn69; omega : (q62).toNat < x0.length))) rfl fun a hE => ?_
     obtain ⟨x101, hx102, hq83⟩ := bindS hq83
     refine WL.setD hE hS 2 rfl (runs_plain rfl) rfl rfl (vs := [vi x72.Dep, vi x72.Arr, vi x72.Rides]) rfl ty62 rfl rfl rfl h67 hn69 (sx_some hx102).1 hx102 rfl rfl ?_; clear hE hS a w; intro cs103 a w h104 hn105 hE hS
     refine WL.nil ?_
     refine W.region ?_
     refine v2 hS hE rfl rfl rfl rfl fun a hE => ?_
     refine vp hS hE rfl rfl fun a hE => WL.nil ?_
     subst hK94
     exact ⟨w64 (q62 + 1), x101, cs103, Option.some.inj hq83, h104, hn105, hE.pick _ ⟨rfl, rfl, rfl, rfl, trivial⟩, hS⟩
    replace hq83 := iteF hc95 hq83
    refine W.skip ?_
    subst hK94
    exact ⟨q62, q64, cs68, Option.some.inj hq83, h67, hn69, hE.pick _ ⟨rfl, rfl, rfl, rfl, trivial⟩, hS⟩
   clear hE hS a w; rintro a w ⟨q87, q88, cs92, rfl, h91, hn93, hE, hS⟩
   dsimp only at hq56
   refine W.region ?_
   refine v2 hS hE rfl rfl rfl rfl fun a hE => ?_
   refine vp hS hE rfl rfl fun a hE => WL.nil ?_
   replace hS := hS.dropAt 1
   replace hS := hS.front 1 rfl
   subst hK70
   exact ⟨n58, Nat.lt_succ_self _, n58, q87, (w64 (q63 + 1)), q88, cs92, rfl, hq56, h91, hn93, hE.pick _ ⟨rfl, rfl, rfl, rfl, trivial⟩, hS⟩
  replace hq56 := iteF hc71 hq56
  subst hK70
  refine W.exit rfl ?_
  exact ⟨q62, q63, q64, cs68, Option.some.inj hq56, h67, hn69, hE.pick _ ⟨rfl, rfl, trivial⟩, hS⟩
 clear hE hS a w; rintro a w ⟨q62, q63, q64, cs68, rfl, h67, hn69, hE, hS⟩
 dsimp only at hr
 refine W.seq (W.region (v2 hS hE rfl rfl rfl rfl fun a hE => ?_))
 obtain ⟨x106, hx107, hr⟩ := bindS hr
 obtain ⟨_, h108, h109, h110, h111, _⟩ := cutl_some hx107
 have h112 := (hS.vecCap 0 rfl).1
 have h113 : (q62).toNat ≤ x0.length := by have := hn69; omega
 have h114 : Ev 3 RGuidePoint s (cs68.take ((q62).toNat * 3)) x106 := by rw [h110]; exact h67.take _
 have hn115 : x106.length = (q62).toNat := by rw [h110]; simp; omega
 replace hS := hS.vecTake 0 rfl (by have := hn69; omega)
 refine vP hS hE (Gives.slL hE sl55 rfl rfl h108 (by omega) rfl) rfl fun a hE => ?_
 refine WL.clrS hE hS 0 (lo := (q62).toNat) (hi := x0.length) (runs_plain rfl) cl55 rfl rfl (by omega) (by omega) (by omega) rfl ?_; clear hE hS a w; intro a w hE hS
 refine WL.nil ?_
 refine W.seq (W.region (v2 hS hE rfl rfl rfl rfl fun a hE => ?_))
 refine vP hS hE (Gives.slH hE sl55 rfl rfl (by omega) (by omega) (sliced_zero _ _ _ _)) rfl fun a hE => ?_
 refine vp hS hE rfl rfl fun a hE => WL.nil ?_
 refine W.ret ?_
 refine finG (fn := Tryd.f48) (rs := [.tmp 4]) (vs := [_]) hE rfl ⟨rfl, trivial⟩ ?_
 obtain rfl := Option.some.inj hr
 exact ⟨a_v0, c_v0, (q62).toNat, (cs68.take ((q62).toNat * 3)), rfl, h114, hn115, hS⟩
set_option maxHeartbeats 8000000 in
theorem GuideNetearliest_2_ok  {w : World} {s : Sg} {R : List HP} {x0 : GuidePoint} {x1 : GuidePoint} (hS : St w s (R))  {r : Int} (hr : GuideNetearliest_2 x0 x1 = r) :
  Calls Tryd.prog 97 [.agg (GuidePoint.cells x0).toArray, .agg (GuidePoint.cells x1).toArray].toArray w (fun e w => e = .returned (vi r) ∧ St w s (R)) := by
 refine enter Tryd.func97 rfl rfl rfl fun a hE => ?_
 rw [GuideNetearliest_2] at hr
 refine W.seq (W.region ?_)
 refine WL.box hE hS (runs_plain rfl) rfl rfl rfl ?_; clear hE hS a w; intro b51 a w hE hS
 refine WL.box hE hS (runs_plain rfl) rfl rfl rfl ?_; clear hE hS a w; intro b52 a w hE hS
 refine vp hS hE rfl rfl fun a hE => WL.nil ?_
 refine W.seq ?_
 refine W.gen fun K53 hK53 => ?_
 refine W.regionE (dup (fun w => St w s (pc b52 (GuidePoint.cells x1).toArray 62 :: pc b51 (GuidePoint.cells x0).toArray 62 :: R))) (fun b i => cond b ([0, 1, 2, 3, 4, 5, 6, 7, 8, 9, 10, 11, 12, 13, 14, 15, 16, 17].contains i) ([0, 1, 2, 3, 4, 5, 6, 7, 8, 9, 10, 11, 12, 13, 14, 15, 16, 17].contains i)) mixed ?_
 replace hS := hS.drew
 refine tP (i := 0) hE rfl (by kernel_rfl) (Gives.fld hE rfl fl62_1) rfl hS hS fun a hE => ?_
 refine tT (i := 1) true rfl hE rfl (by kernel_rfl) (Gives.loadB hE 1 rfl rfl rfl ty3) rfl hS hS fun a hE => ?_
 refine tP (i := 2) hE rfl (by kernel_rfl) (Gives.fld hE rfl fl62_1) rfl hS hS fun a hE => ?_
 refine tT (i := 3) true rfl hE rfl (by kernel_rfl) (Gives.loadB hE 0 rfl rfl rfl ty3) rfl hS hS fun a hE => ?_
 refine tP (i := 5) hE rfl (by kernel_rfl) (Gives.fld hE rfl fl62_2) rfl hS hS fun a hE => ?_
 refine tT (i := 6) true rfl hE rfl (by kernel_rfl) (Gives.loadB hE 1 rfl rfl rfl ty3) rfl hS hS fun a hE => ?_
 refine tP (i := 7) hE rfl (by kernel_rfl) (Gives.fld hE rfl fl62_2) rfl hS hS fun a hE => ?_
 refine tT (i := 8) true rfl hE rfl (by kernel_rfl) (Gives.loadB hE 0 rfl rfl rfl ty3) rfl hS hS fun a hE => ?_
 refine tP (i := 10) hE rfl (by kernel_rfl) (Gives.fld hE rfl fl62_0) rfl hS hS fun a hE => ?_
 refine tT (i := 11) true rfl hE rfl (by kernel_rfl) (Gives.loadB hE 0 rfl rfl rfl ty3) rfl hS hS fun a hE => ?_
 refine tP (i := 12) hE rfl (by kernel_rfl) (Gives.fld hE rfl fl62_0) rfl hS hS fun a hE => ?_
 refine tT (i := 13) true rfl hE rfl (by kernel_rfl) (Gives.loadB hE 1 rfl rfl rfl ty3) rfl hS hS fun a hE => ?_
 refine Rg.one (i := 4) true true rfl (by kernel_rfl) (by kernel_rfl) (by kernel_rfl) ?_
 refine WL.fnq hE (CmpCompareint_ok hS  rfl (r := CmpCompareint x0.Arr x1.Arr)) (runs_plain rfl) bd54 rfl rfl rfl ?_
 clear hE hS; rintro e w ⟨rfl, hS⟩; refine ⟨_, rfl, ?_⟩; clear a; intro a hE
 refine WL.nil ?_
 refine ⟨⟨fun _ => hS, fun _ => hS⟩, ?_⟩
 refine Rg.one (i := 9) true true rfl (by kernel_rfl) (by kernel_rfl) (by kernel_rfl) ?_
 refine WL.fnq hE (CmpCompareint_ok hS  rfl (r := CmpCompareint x0.Rides x1.Rides)) (runs_plain rfl) bd54 rfl rfl rfl ?_
 clear hE hS; rintro e w ⟨rfl, hS⟩; refine ⟨_, rfl, ?_⟩; clear a; intro a hE
 refine WL.nil ?_
 refine ⟨⟨fun _ => hS, fun _ => hS⟩, ?_⟩
 refine Rg.one (i := 14) true true rfl (by kernel_rfl) (by kernel_rfl) (by kernel_rfl) ?_
 refine WL.fnq hE (CmpCompareint_ok hS  rfl (r := CmpCompareint x1.Dep x0.Dep)) (runs_plain rfl) bd54 rfl rfl rfl ?_
 clear hE hS; rintro e w ⟨rfl, hS⟩; refine ⟨_, rfl, ?_⟩; clear a; intro a hE
 refine WL.nil ?_
 refine ⟨⟨fun _ => hS, fun _ => hS⟩, ?_⟩
 refine Rg.one (i := 15) true true rfl (by kernel_rfl) (by kernel_rfl) (by kernel_rfl) ?_
 refine WL.lit hE hS (e := 3) (es := 1) (vs := [(0, vi (CmpCompareint x0.Arr x1.Arr)), (1, vi (CmpCompareint x0.Rides x1.Rides)), (2, vi (CmpCompareint x1.Dep x0.Dep))]) (cs := [vi (CmpCompareint x0.Arr x1.Arr), vi (CmpCompareint x0.Rides x1.Rides), vi (CmpCompareint x1.Dep x0.Dep)]) (runs_plain rfl) rfl (by kernel_rfl) rfl ?_; clear hE hS a w; intro b54 a w hE hS
 replace hS := hS.ptVec (es := 1) (m := 3) rfl (by decide)
 have h56 : Ev 1 (RI .i64) s [vi (CmpCompareint x0.Arr x1.Arr), vi (CmpCompareint x0.Rides x1.Rides), vi (CmpCompareint x1.Dep x0.Dep)] [(CmpCompareint x0.Arr x1.Arr), (CmpCompareint x0.Rides x1.Rides), (CmpCompareint x1.Dep x0.Dep)] := (Ev.cons (c1 := [vi (CmpCompareint x0.Arr x1.Arr)]) rfl rfl (Ev.cons (c1 := [vi (CmpCompareint x0.Rides x1.Rides)]) rfl rfl (Ev.cons (c1 := [vi (CmpCompareint x1.Dep x0.Dep)]) rfl rfl (Ev.nil))))
 have hF := hS.fixD RI.mono 0 rfl h56 (rfl); clear hS; obtain ⟨s57, hle58, hS, h59⟩ := hF
 refine WL.nil ?_
 refine ⟨⟨fun _ => (St.down hle58 hS), fun _ => (St.down hle58 hS)⟩, ?_⟩
 refine Rg.one (i := 16) true true rfl (by kernel_rfl) (by kernel_rfl) (by kernel_rfl) ?_
 refine WL.fnq hE (CmpOrint_ok hS h59 rfl (r := CmpOrint [(CmpCompareint x0.Arr x1.Arr), (CmpCompareint x0.Rides x1.Rides), (CmpCompareint x1.Dep x0.Dep)])) (runs_plain rfl) bd53 rfl rfl rfl ?_
 clear hE hS; rintro e w ⟨rfl, hS⟩; refine ⟨_, rfl, ?_⟩; clear a; intro a hE
 refine WL.nil ?_
 refine ⟨⟨fun _ => (St.down hle58 hS), fun _ => (St.down hle58 hS)⟩, ?_⟩
 refine tP (i := 17) hE rfl (by kernel_rfl) (Gives.p hE rfl) rfl (St.down hle58 hS) (St.down hle58 hS) fun a hE => ?_
 refine Rg.done (by kernel_rfl) ?_
 subst hK53
 refine W.ret ?_
 refine finG (fn := Tryd.f97) (rs := [.tmp 4]) (vs := [_]) hE rfl ⟨rfl, trivial⟩ ?_
 subst hr
 replace hS := hS.tail
 replace hS := hS.tail
 exact ⟨rfl, (hS.down hle58)⟩
set_option maxHeartbeats 8000000 in
theorem SlicesMinFuncLguidePoint_v1_ok {fu : Nat}  {w : World} {s : Sg} {R : List HP} {x0 : List GuidePoint} {a0 : Option Addr} {c0 : Nat} (hS : St w s (R)) (h0 : Sl 3 RGuidePoint s a0 c0 x0) {r : GuidePoint} (hr : SlicesMinFuncLguidePoint_v1 fu x0 = some r) :
  Calls Tryd.prog 51 [.slice a0 x0.length c0, .func (.func 97) #[] #[]].toArray w (fun e w => ∃ (cs0 : List Value) (t : Sg), e = .returned (.agg cs0.toArray) ∧ s.Le t ∧ RGuidePoint t cs0 r ∧ St w t (R)) := by
 refine enter Tryd.func51 rfl rfl rfl fun a hE => ?_
 rw [SlicesMinFuncLguidePoint_v1] at hr
 refine W.seq (W.region ?_)
 refine WL.alloc hE hS (runs_plain rfl) zr62 rfl ?_; clear hE hS a w; intro b51 a w hE hS
 refine WL.nil ?_
 refine W.seq ?_
 refine W.seq (W.region (vp hS hE rfl rfl fun a hE => ?_))
 refine vP hS hE (Gives.len hE rfl sl55) rfl fun a hE => ?_
 refine vp hS hE rfl rfl fun a hE => WL.nil ?_
 refine W.cond hE rfl (fun hc52 => ?_) (fun hc52 => ?_)
 ·replace hr := iteT hc52 hr
  refine W.region ?_
  exact absurd hr (by simp)
 replace hr := iteF hc52 hr
 refine W.skip ?_
 refine W.seq (W.region (vp hS hE rfl rfl fun a hE => ?_))
 obtain ⟨x53, hx54, hr⟩ := bindS hr
 obtain ⟨hi55, hlt56, hy57⟩ := gx_some hx54
 obtain ⟨cs58, hl59, hR60, hat61⟩ := h0.at hy57
 subst hR60
 refine vP hS hE (Gives.idx hE ((0 : Int)).toNat rfl rfl sl55 hi55 hlt56 (h0.aok hlt56)) rfl fun a hE => ?_
 refine vP hS hE (Gives.loadA hE rfl (fun w h => hat61 w _ h) ty62) rfl fun a hE => ?_
 refine WL.alloc hE hS (runs_plain rfl) zr62 rfl ?_; clear hE hS a w; intro b62 a w hE hS
 refine WL.storeI hE hS 0 rfl (GuidePoint.cells x53) (runs_plain rfl) rfl rfl rfl ty62 rfl rfl rfl rfl ?_; clear hE hS a w; intro a w hE hS
 refine WL.nil ?_
 refine W.seq ?_
 refine W.seq (W.region (vp hS hE rfl rfl fun a hE => WL.nil ?_))
 obtain ⟨q64, hq63, hr⟩ := bindS hr
 refine W.cut (fun a w => ∃ (q69 : Int), ∃ (q70 : Int), ∃ (q71 : Int), ∃ (q72 : Int), (q69, q70, q71, q72) = q64 ∧ Rep a 33 [(4, pp b51), (5, pp b62)] ∧ St w s (pc b62 #[vi q70, vi q71, vi q72] 62 :: pc b51 #[vi 0, vi 0, vi 0] 62 :: R)) ?_ ?_
 ·refine W.block ?_
  refine W.loop (fun m a w => ∃ (n65 : Nat), ∃ (q69 : Int), ∃ (q70 : Int), ∃ (q71 : Int), ∃ (q72 : Int), n65 = m ∧ SlicesMinFuncLguidePoint_v1.loop1 x0 n65 q69 q70 q71 q72 = some q64 ∧ Rep a 33 [(0, .slice a0 x0.length c0), (1, .func (.func 97) #[] #[]), (4, pp b51), (5, pp b62), (6, vi q69)] ∧ St w s (pc b62 #[vi q70, vi q71, vi q72] 62 :: pc b51 #[vi 0, vi 0, vi 0] 62 :: R)) (m := fu) ⟨fu, 1, x53.Dep, x53.Arr, x53.Rides, rfl, hq63, hE.pick _ ⟨rfl, rfl, rfl, rfl, rfl, trivial⟩, hS⟩ ?_
  clear hE hS a w hq63; rintro m66 a w ⟨n65, q69, q70, q71, q72, rfl, hq63, hE, hS⟩
  refine W.gen fun K73 hK73 => ?_
  rcases n65 with _ | n65
  ·rw [SlicesMinFuncLguidePoint_v1.loop1] at hq63; exact absurd hq63 (by simp)
  rw [SlicesMinFuncLguidePoint_v1.loop1] at hq63
  refine W.seq ?_
  refine W.seq (W.region (v2 hS hE rfl rfl rfl rfl fun a hE => ?_))
  refine vP hS hE (Gives.len hE rfl sl55) rfl fun a hE => ?_
  refine vp hS hE rfl rfl fun a hE => WL.nil ?_
  refine W.cond hE rfl (fun hc74 => ?_) (fun hc74 => ?_)
  ·replace hq63 := iteT hc74 hq63
   refine W.skip ?_
   refine W.seq ?_
   refine W.block ?_
   refine W.seq ?_
   refine W.regionQ (C := fun w => St w s (pc b62 #[vi q70, vi q71, vi q72] 62 :: pc b51 #[vi 0, vi 0, vi 0] 62 :: R)) mixed (by kernel_rfl) hS.drew ?_
   refine qP hE (Gives.p hE rfl) rfl fun a hE => ?_
   refine qP hE (Gives.p hE rfl) rfl fun a hE => ?_
   refine qP hE (Gives.p hE rfl) rfl fun a hE => ?_
   obtain ⟨x75, hx76, hq63⟩ := bindS hq63
   obtain ⟨hi77, hlt78, hy79⟩ := gx_some hx76
   obtain ⟨cs80, hl81, hR82, hat83⟩ := h0.at hy79
   subst hR82
   refine qP hE (Gives.idx hE (q69).toNat rfl rfl sl55 hi77 hlt78 (h0.aok hlt78)) rfl fun a hE => ?_
   refine qP hE (Gives.loadA hE rfl (fun w h => hat83 w _ h) ty62) rfl fun a hE => ?_
   refine qP hE (Gives.loadBA hE 0 rfl rfl ty62) rfl fun a hE => ?_
   refine QL.fnw hE (fun w hS => GuideNetearliest_2_ok hS  rfl (r := GuideNetearliest_2 x75 (GuidePoint.mk q70 q71 q72))) rfl (runs_plain rfl) bd97 rfl rfl rfl fun a hE => ?_
   refine qP hE (Gives.p hE rfl) rfl fun a hE => ?_
   refine QL.nil ?_; clear hS w; intro w hS
   obtain ⟨q85, hq84, hq63⟩ := bindS hq63
   refine W.cut (fun a w => ∃ (q88 : Int), ∃ (q89 : Int), ∃ (q90 : Int), (q88, q89, q90) = q85 ∧ Rep a 33 [(0, .slice a0 x0.length c0), (1, .func (.func 97) #[] #[]), (4, pp b51), (5, pp b62), (6, vi q69)] ∧ St w s (pc b62 #[vi q88, vi q89, vi q90] 62 :: pc b51 #[vi 0, vi 0, vi 0] 62 :: R)) ?_ ?_
   ·refine W.gen fun K91 hK91 => ?_
    refine W.cond hE rfl (fun hc92 => ?_) (fun hc92 => ?_)
    ·replace hq84 := iteT hc92 hq84
     refine W.region ?_
     refine v2 hS hE rfl rfl rfl rfl fun a hE => ?_
     obtain ⟨x93, hx94, hq84⟩ := bindS hq84
     obtain ⟨hi95, hlt96, hy97⟩ := gx_some hx94
     obtain ⟨cs98, hl99, hR100, hat101⟩ := h0.at hy97
     subst hR100
     refine vP hS hE (Gives.idx hE (q69).toNat rfl rfl sl55 hi95 hlt96 (h0.aok hlt96)) rfl fun a hE => ?_
     refine vP hS hE (Gives.loadA hE rfl (fun w h => hat101 w _ h) ty62) rfl fun a hE => ?_
     refine WL.storeI hE hS 0 rfl (GuidePoint.cells x93) (runs_plain rfl) rfl rfl rfl ty62 rfl rfl rfl rfl ?_; clear hE hS a w; intro a w hE hS
     refine WL.nil ?_
     subst hK91
     exact ⟨x93.Dep, x93.Arr, x93.Rides, Option.some.inj hq84, hE.pick _ ⟨rfl, rfl, rfl, rfl, rfl, trivial⟩, hS⟩
    replace hq84 := iteF hc92 hq84
    refine W.skip ?_
    subst hK91
    exact ⟨q70, q71, q72, Option.some.inj hq84, hE.pick _ ⟨rfl, rfl, rfl, rfl, rfl, trivial⟩, hS⟩
   clear hE hS a w; rintro a w ⟨q88, q89, q90, rfl, hE, hS⟩
   dsimp only at hq63
   refine W.region ?_
   refine v2 hS hE rfl rfl rfl rfl fun a hE => ?_
   refine vp hS hE rfl rfl fun a hE => WL.nil ?_
   subst hK73
   exact ⟨n65, Nat.lt_succ_self _, n65, (w64 (q69 + 1)), q88, q89, q90, rfl, hq63, hE.pick _ ⟨rfl, rfl, rfl, rfl, rfl, trivial⟩, hS⟩
  replace hq63 := iteF hc74 hq63
  subst hK73
  refine W.exit rfl ?_
  exact ⟨q69, q70, q71, q72, Option.some.inj hq63, hE.pick _ ⟨rfl, rfl, trivial⟩, hS⟩
 clear hE hS a w; rintro a w ⟨q69, q70, q71, q72, rfl, hE, hS⟩
 dsimp only at hr
 refine W.seq (W.region (vP hS hE (Gives.loadBA hE 0 rfl rfl ty62) rfl fun a hE => ?_))
 refine WL.storeI hE hS 1 rfl [vi q70, vi q71, vi q72] (runs_plain rfl) rfl rfl rfl ty62 rfl rfl rfl rfl ?_; clear hE hS a w; intro a w hE hS
 refine WL.nil ?_
 refine W.ret ?_
 refine finG (fn := Tryd.f51) (rs := [.cell 4 62]) (vs := [_]) hE rfl ⟨⟨_, rfl, .inl ⟨_, rfl, hS.seesAt 1 rfl, ty62⟩⟩, trivial⟩ ?_
 obtain rfl := Option.some.inj hr
 replace hS := hS.tail
 replace hS := hS.tail
 exact ⟨_, s, rfl, (Sg.Le.refl _), rfl, hS⟩
set_option maxHeartbeats 8000000 in
theorem GuideNetleastOf_1_v1_ok : ∀ {fu : Nat} {w : World} {s : Sg} {R : List HP} {pb0 : Nat} {pb1 : Nat} {pb2 : Nat} {pb3 : Nat} {pb4 : Nat} {x0 : List GuideRide} {a0 : Option Addr} {c0 : Nat} {y0 : GuideNet} {a_y0_0 : Option Addr} {c_y0_0 : Nat} {a_y0_1 : Option Addr} {c_y0_1 : Nat} {y1 : GuidePoint} {y2 : Int} {y3_0 : List (Ar3i64 × Bool)} {b_v0 : Nat} (_hS : St w s (pc pb0 #[.slice a_y0_0 y0.Day.Trains.length c_y0_0, .slice a_y0_1 y0.Day.Turns.length c_y0_1, vi y0.least] 94 :: pc pb1 #[vi y1.Dep, vi y1.Arr, vi y1.Rides] 62 :: pc pb2 #[vi y2] 3 :: pc pb3 #[.map (some b_v0)] 128 :: pc pb4 #[.func (.func 102) #[] #[pp pb0, pp pb1, pp pb2, pp pb3, pp pb4]] 130 :: mapC keyAr3i64.f Value.bool b_v0 y3_0 :: R)) (_h0 : Sl 3 RGuideRide s a0 c0 x0) (_h_y0_0 : Sl 4 RApiTrain s a_y0_0 c_y0_0 y0.Day.Trains) (_h_y0_1 : Sl 1 (RL 1 (RI .i64)) s a_y0_1 c_y0_1 y0.Day.Turns) {r : (List GuideRide) × (List (Ar3i64 × Bool))} (_hr : GuideNetleastOf_1_v1 fu x0 y0 y1 y2 y3_0 = some r),
  Calls Tryd.prog 102 [.slice a0 x0.length c0, pp pb0, pp pb1, pp pb2, pp pb3, pp pb4].toArray w (fun e w => ∃ (a0 : Option Addr) (c0 : Nat) (t : Sg), e = .returned (.slice a0 r.1.length c0) ∧ s.Le t ∧ Sl 3 RGuideRide t a0 c0 r.1 ∧ (r.1 = [] → a0 = none) ∧ St w t (pc pb0 #[.slice a_y0_0 y0.Day.Trains.length c_y0_0, .slice a_y0_1 y0.Day.Turns.length c_y0_1, vi y0.least] 94 :: pc pb1 #[vi y1.Dep, vi y1.Arr, vi y1.Rides] 62 :: pc pb2 #[vi y2] 3 :: pc pb3 #[.map (some b_v0)] 128 :: pc pb4 #[.func (.func 102) #[] #[pp pb0, pp pb1, pp pb2, pp pb3, pp pb4]] 130 :: mapC keyAr3i64.f Value.bool b_v0 r.2 :: R)) := by
 intro fu
 induction fu with
 | zero => intro w s R pb0 pb1 pb2 pb3 pb4 x0 a0 c0 y0 a_y0_0 c_y0_0 a_y0_1 c_y0_1 y1 y2 y3_0 b_v0 hS h0 h_y0_0 h_y0_1 r hr; rw [GuideNetleastOf_1_v1] at hr; exact absurd hr (by simp)
 | succ fu ih_GuideNetleastOf_1_v1 =>
  intro w s R pb0 pb1 pb2 pb3 pb4 x0 a0 c0 y0 a_y0_0 c_y0_0 a_y0_1 c_y0_1 y1 y2 y3_0 b_v0 hS h0 h_y0_0 h_y0_1 r hr
  rw [GuideNetleastOf_1_v1] at hr
  generalize GuideNetleastOf_1_v1 fu = self_GuideNetleastOf_1_v1 at hr ih_GuideNetleastOf_1_v1
  refine enter Tryd.func102 rfl rfl rfl fun a hE => ?_
  refine W.seq (W.region ?_)
  refine WL.box hE hS (runs_plain rfl) rfl rfl rfl ?_; clear hE hS a w; intro b53 a w hE hS
  refine WL.alloc hE hS (runs_plain rfl) zr26 rfl ?_; clear hE hS a w; intro b54 a w hE hS
  refine WL.nil ?_
  refine W.seq (W.region (vP hS hE (Gives.loadB hE 1 rfl rfl rfl ty26) rfl fun a hE => ?_))
  refine vP hS hE (Gives.loadB hE 1 rfl rfl rfl ty26) rfl fun a hE => ?_
  refine vP hS hE (Gives.len hE rfl sl26) rfl fun a hE => ?_
  refine vp hS hE rfl rfl fun a hE => ?_
  obtain ⟨x55, hx56, hr⟩ := bindS hr
  obtain ⟨hi57, hlt58, hy59⟩ := gx_some hx56
  obtain ⟨cs60, hl61, hR62, hat63⟩ := h0.at hy59
  subst hR62
  refine vP hS hE (Gives.idx hE (w64 (((x0).length : Int) - 1)).toNat rfl rfl sl26 hi57 hlt58 (h0.aok hlt58)) rfl fun a hE => ?_
  refine vP hS hE (Gives.loadA hE rfl (fun w h => hat63 w _ h) ty47) rfl fun a hE => ?_
  refine WL.alloc hE hS (runs_plain rfl) zr47 rfl ?_; clear hE hS a w; intro b64 a w hE hS
  refine WL.storeI hE hS 0 rfl (GuideRide.cells x55) (runs_plain rfl) rfl rfl rfl ty47 rfl rfl rfl rfl ?_; clear hE hS a w; intro a w hE hS
  refine WL.nil ?_
  refine W.seq (W.region (vP hS hE (Gives.loadBA hE 3 rfl rfl ty94) rfl fun a hE => ?_))
  refine vP hS hE (Gives.loadBA hE 0 rfl rfl ty47) rfl fun a hE => ?_
  obtain ⟨q65, hq66, hr⟩ := bindS hr
  have hc_ := GuideNetoff_ok hS h_y0_0 h_y0_1 hq66
  refine WL.fnq hE (hc_) (runs_plain rfl) bd77 rfl rfl rfl ?_
  clear hE hS hc_; rintro e w ⟨cs67, s69, rfl, hle70, h68, hS⟩; refine ⟨_, rfl, ?_⟩; clear a; intro a hE
  replace h0 := Sl.mono RGuideRide.mono hle70 h0
  replace h_y0_0 := Sl.mono RApiTrain.mono hle70 h_y0_0
  replace h_y0_1 := Sl.mono (RL.mono RI.mono) hle70 h_y0_1
  subst h68
  refine WL.alloc hE hS (runs_plain rfl) zr106 rfl ?_; clear hE hS a w; intro b71 a w hE hS
  refine WL.storeI hE hS 0 rfl (ApiStop.cells q65) (runs_plain rfl) rfl rfl rfl ty106 rfl rfl rfl rfl ?_; clear hE hS a w; intro a w hE hS
  refine WL.nil ?_
  refine W.seq (W.region (vP hS hE (Gives.fld hE rfl fl62_2) rfl fun a hE => ?_))
  refine vP hS hE (Gives.loadB hE 5 rfl rfl rfl ty3) rfl fun a hE => ?_
  refine vP hS hE (Gives.loadB hE 3 rfl rfl rfl ty26) rfl fun a hE => ?_
  refine vP hS hE (Gives.len hE rfl sl26) rfl fun a hE => ?_
  refine v2 hS hE rfl rfl rfl rfl fun a hE => WL.nil ?_
  refine W.seq ?_
  refine W.seq (W.region (v2 hS hE rfl rfl rfl rfl fun a hE => WL.nil ?_))
  refine W.cond hE rfl (fun hc72 => ?_) (fun hc72 => ?_)
  ·replace hr := iteT hc72 hr
   refine W.seq ?_
   refine W.seq ?_
   obtain ⟨q74, hq73, hr⟩ := bndS hr
   refine W.cut (fun a w => ∃ (q77 : Bool), q77 = q74 ∧ Rep a 74 [(6, pp b53), (7, pp b54), (40, .bool q77)] ∧ St w s69 (pc b71 (ApiStop.cells q65).toArray 106 :: pc b64 (GuideRide.cells x55).toArray 47 :: pc b54 #[.slice none 0 0] 26 :: pc b53 #[.slice a0 x0.length c0] 26 :: pc pb0 #[.slice a_y0_0 y0.Day.Trains.length c_y0_0, .slice a_y0_1 y0.Day.Turns.length c_y0_1, vi y0.least] 94 :: pc pb1 #[vi y1.Dep, vi y1.Arr, vi y1.Rides] 62 :: pc pb2 #[vi y2] 3 :: pc pb3 #[.map (some b_v0)] 128 :: pc pb4 #[.func (.func 102) #[] #[pp pb0, pp pb1, pp pb2, pp pb3, pp pb4]] 130 :: mapC keyAr3i64.f Value.bool b_v0 y3_0 :: R)) ?_ ?_
   ·refine W.gen fun K78 hK78 => ?_
    refine W.region ?_
    refine vP hS hE (Gives.fld hE rfl fl106_0) rfl fun a hE => ?_
    refine vP hS hE (Gives.loadB hE 0 rfl rfl rfl ty3) rfl fun a hE => ?_
    refine vP hS hE (Gives.loadB hE 6 rfl rfl rfl ty3) rfl fun a hE => ?_
    refine v2 hS hE rfl rfl rfl rfl fun a hE => ?_
    rcases Bool.eq_false_or_eq_true (q65.Station == y2) with hg79 | hg79
    ·replace hq73 := iteT hg79 hq73
     refine WL.vS hS hE (runs_if hE rfl rfl rfl hg79) (Gives.fld hE rfl fl106_2) rfl fun a hE => ?_
     refine WL.vS hS hE (runs_if hE rfl rfl rfl hg79) (Gives.loadB hE 0 rfl rfl rfl ty3) rfl fun a hE => ?_
     refine WL.vS hS hE (runs_if hE rfl rfl rfl hg79) (Gives.fld hE rfl fl62_1) rfl fun a hE => ?_
     refine WL.vS hS hE (runs_if hE rfl rfl rfl hg79) (Gives.loadB hE 5 rfl rfl rfl ty3) rfl fun a hE => ?_
     refine WL.vS hS hE (runs_if hE rfl rfl rfl hg79) (Gives.p hE rfl) rfl fun a hE => ?_
     refine vP hS hE (Gives.pickT hE rfl hg79 rfl) rfl fun a hE => WL.nil ?_
     subst hK78
     exact ⟨(q65.Arr == y1.Arr), hq73, hE.pick _ ⟨rfl, rfl, rfl, trivial⟩, hS⟩
    replace hq73 := iteF hg79 hq73
    refine nO hE rfl rfl rfl (by rw [hg79]; decide) rfl fun a hE => ?_
    refine nO hE rfl rfl rfl (by rw [hg79]; decide) rfl fun a hE => ?_
    refine nO hE rfl rfl rfl (by rw [hg79]; decide) rfl fun a hE => ?_
    refine nO hE rfl rfl rfl (by rw [hg79]; decide) rfl fun a hE => ?_
    refine nO hE rfl rfl rfl (by rw [hg79]; decide) rfl fun a hE => ?_
    refine vP hS hE (Gives.pickF hE rfl hg79 rfl) rfl fun a hE => WL.nil ?_
    subst hK78
    exact ⟨false, hq73, hE.pick _ ⟨rfl, rfl, rfl, trivial⟩, hS⟩
   clear hE hS a w; rintro a w ⟨q77, rfl, hE, hS⟩
   refine W.cond hE rfl (fun hc80 => ?_) (fun hc80 => ?_)
   ·replace hr := iteT hc80 hr
    refine W.seq (W.region (vP hS hE (Gives.loadB hE 3 rfl rfl rfl ty26) rfl fun a hE => ?_))
    obtain ⟨_, hx81, hr⟩ := bindS hr
    refine WL.storeI hE hS 2 rfl [.slice a0 x0.length c0] (runs_plain rfl) rfl rfl rfl ty26 rfl rfl rfl rfl ?_; clear hE hS a w; intro a w hE hS
    refine WL.nil ?_
    refine W.ret ?_
    refine finG (fn := Tryd.f102) (rs := [.cell 7 26]) (vs := [_]) hE rfl ⟨⟨_, rfl, .inr ⟨hS.seesAt 2 rfl, ty26⟩⟩, trivial⟩ ?_
    obtain rfl := Option.some.inj hr
    replace hS := hS.tail
    replace hS := hS.tail
    replace hS := hS.tail
    replace hS := hS.tail
    exact ⟨a0, c0, s69, rfl, hle70, h0, (nz_some hx81), hS⟩
   replace hr := iteF hc80 hr
   refine W.skip ?_
   refine W.seq (W.region ?_)
   refine WL.storeI hE hS 2 rfl [.slice none 0 0] (runs_plain rfl) rfl rfl rfl ty26 rfl rfl rfl rfl ?_; clear hE hS a w; intro a w hE hS
   refine WL.nil ?_
   refine W.ret ?_
   refine finG (fn := Tryd.f102) (rs := [.cell 7 26]) (vs := [_]) hE rfl ⟨⟨_, rfl, .inr ⟨hS.seesAt 2 rfl, ty26⟩⟩, trivial⟩ ?_
   obtain rfl := Option.some.inj hr
   replace hS := hS.tail
   replace hS := hS.tail
   replace hS := hS.tail
   replace hS := hS.tail
   exact ⟨none, 0, s69, rfl, hle70, Sl.nil, (fun _ => rfl), hS⟩
  replace hr := iteF hc72 hr
  refine W.skip ?_
  refine W.seq (W.region (vP hS hE (Gives.fld hE rfl fl47_0) rfl fun a hE => ?_))
  refine vP hS hE (Gives.loadB hE 1 rfl rfl rfl ty3) rfl fun a hE => ?_
  refine vP hS hE (Gives.fld hE rfl fl47_2) rfl fun a hE => ?_
  refine vP hS hE (Gives.loadB hE 1 rfl rfl rfl ty3) rfl fun a hE => ?_
  refine vp hS hE rfl rfl fun a hE => ?_
  refine vP hS hE (Gives.build hE (vs := [(0, vi x55.Train), (1, vi x55.Off), (2, vi (w64 (y1.Rides - ((x0).length : Int))))]) [vi x55.Train, vi x55.Off, vi (w64 (y1.Rides - ((x0).length : Int)))] rfl (by kernel_rfl)) rfl fun a hE => ?_
  refine WL.alloc hE hS (runs_plain rfl) zr132 rfl ?_; clear hE hS a w; intro b82 a w hE hS
  refine WL.storeI hE hS 0 rfl [vi x55.Train, vi x55.Off, vi (w64 (y1.Rides - ((x0).length : Int)))] (runs_plain rfl) rfl rfl rfl ty132 rfl rfl rfl rfl ?_; clear hE hS a w; intro a w hE hS
  refine WL.nil ?_
  refine W.seq ?_
  refine W.seq ?_
  obtain ⟨q84, hq83, hr⟩ := bndS hr
  refine W.cut (fun a w => ∃ (q87 : Bool), q87 = q84 ∧ Rep a 74 [(1, pp pb0), (4, pp pb3), (5, pp pb4), (6, pp b53), (7, pp b54), (8, pp b64), (11, pp b82), (57, .bool q87)] ∧ St w s69 (pc b82 #[vi x55.Train, vi x55.Off, vi (w64 (y1.Rides - ((x0).length : Int)))] 132 :: pc b71 (ApiStop.cells q65).toArray 106 :: pc b64 (GuideRide.cells x55).toArray 47 :: pc b54 #[.slice none 0 0] 26 :: pc b53 #[.slice a0 x0.length c0] 26 :: pc pb0 #[.slice a_y0_0 y0.Day.Trains.length c_y0_0, .slice a_y0_1 y0.Day.Turns.length c_y0_1, vi y0.least] 94 :: pc pb1 #[vi y1.Dep, vi y1.Arr, vi y1.Rides] 62 :: pc pb2 #[vi y2] 3 :: pc pb3 #[.map (some b_v0)] 128 :: pc pb4 #[.func (.func 102) #[] #[pp pb0, pp pb1, pp pb2, pp pb3, pp pb4]] 130 :: mapC keyAr3i64.f Value.bool b_v0 y3_0 :: R)) ?_ ?_
  ·refine W.gen fun K88 hK88 => ?_
   refine W.region ?_
   refine vP hS hE (Gives.loadB hE 8 rfl rfl rfl ty128) rfl fun a hE => ?_
   refine vP hS hE (Gives.loadBA hE 0 rfl rfl ty132) rfl fun a hE => ?_
   refine vP hS hE (Gives.mapGetG (KeyS.arr keyAr3i64 rfl arS_132) hE 10 (k := (Ar3i64.mk x55.Train x55.Off (w64 (y1.Rides - ((x0).length : Int))))) (z := false) rfl rfl rfl um128 zm4) rfl fun a hE => ?_
   refine vp hS hE rfl rfl fun a hE => ?_
   rcases Bool.eq_false_or_eq_true ((mget y3_0 (Ar3i64.mk x55.Train x55.Off (w64 (y1.Rides - ((x0).length : Int))))).getD false) with hg89 | hg89
   ·replace hq83 := iteT hg89 hq83
    refine nO hE rfl rfl rfl (by rw [hg89]; decide) rfl fun a hE => ?_
    refine nO hE rfl rfl rfl (by rw [hg89]; decide) rfl fun a hE => ?_
    refine nO hE rfl rfl rfl (by rw [hg89]; decide) rfl fun a hE => ?_
    refine nO hE rfl rfl rfl (by rw [hg89]; decide) rfl fun a hE => ?_
    refine nO hE rfl rfl rfl (by rw [hg89]; decide) rfl fun a hE => ?_
    refine vP hS hE (Gives.pickT hE rfl hg89 rfl) rfl fun a hE => WL.nil ?_
    subst hK88
    exact ⟨true, hq83, hE.pick _ ⟨rfl, rfl, rfl, rfl, rfl, rfl, rfl, rfl, trivial⟩, hS⟩
   replace hq83 := iteF hg89 hq83
   refine WL.vS hS hE (runs_if hE rfl rfl rfl hg89) (Gives.fld hE rfl fl106_2) rfl fun a hE => ?_
   refine WL.vS hS hE (runs_if hE rfl rfl rfl hg89) (Gives.loadB hE 1 rfl rfl rfl ty3) rfl fun a hE => ?_
   refine WL.vS hS hE (runs_if hE rfl rfl rfl hg89) (Gives.fld hE rfl fl62_1) rfl fun a hE => ?_
   refine WL.vS hS hE (runs_if hE rfl rfl rfl hg89) (Gives.loadB hE 6 rfl rfl rfl ty3) rfl fun a hE => ?_
   refine WL.vS hS hE (runs_if hE rfl rfl rfl hg89) (Gives.p hE rfl) rfl fun a hE => ?_
   refine vP hS hE (Gives.pickF hE rfl hg89 rfl) rfl fun a hE => WL.nil ?_
   subst hK88
   exact ⟨decide (q65.Arr > y1.Arr), hq83, hE.pick _ ⟨rfl, rfl, rfl, rfl, rfl, rfl, rfl, rfl, trivial⟩, hS⟩
  clear hE hS a w; rintro a w ⟨q87, rfl, hE, hS⟩
  refine W.cond hE rfl (fun hc90 => ?_) (fun hc90 => ?_)
  ·replace hr := iteT hc90 hr
   refine W.seq (W.region ?_)
   refine WL.storeI hE hS 3 rfl [.slice none 0 0] (runs_plain rfl) rfl rfl rfl ty26 rfl rfl rfl rfl ?_; clear hE hS a w; intro a w hE hS
   refine WL.nil ?_
   refine W.ret ?_
   refine finG (fn := Tryd.f102) (rs := [.cell 7 26]) (vs := [_]) hE rfl ⟨⟨_, rfl, .inr ⟨hS.seesAt 3 rfl, ty26⟩⟩, trivial⟩ ?_
   obtain rfl := Option.some.inj hr
   replace hS := hS.tail
   replace hS := hS.tail
   replace hS := hS.tail
   replace hS := hS.tail
   replace hS := hS.tail
   exact ⟨none, 0, s69, rfl, hle70, Sl.nil, (fun _ => rfl), hS⟩
  replace hr := iteF hc90 hr
  refine W.skip ?_
  refine W.seq ?_
  refine W.seq (W.region (vP hS hE (Gives.loadBA hE 5 rfl rfl ty94) rfl fun a hE => ?_))
  refine vP hS hE (Gives.loadBA hE 2 rfl rfl ty47) rfl fun a hE => ?_
  obtain ⟨q91, hq92, hr⟩ := bindS hr
  have hc_ := GuideNetbehind_ok hS h_y0_0 h_y0_1 hq92
  refine WL.fnq hE (hc_) (runs_plain rfl) bd78 rfl rfl rfl ?_
  clear hE hS hc_; rintro e w ⟨lb93, s95, rfl, hle96, h94, hS⟩; refine ⟨_, rfl, ?_⟩; clear a; intro a hE
  replace h_y0_0 := Sl.mono RApiTrain.mono hle96 h_y0_0
  replace h_y0_1 := Sl.mono (RL.mono RI.mono) hle96 h_y0_1
  replace h0 := Sl.mono RGuideRide.mono hle96 h0
  refine WL.nil ?_
  refine W.block ?_
  obtain ⟨q98, hq97, hr⟩ := bindS hr
  refine W.cut (fun a w => ∃ (q110 : List GuideRide), ∃ (q115 : List (Ar3i64 × Bool)), ∃ (a111 : Option Addr), ∃ (c112 : Nat), ∃ (D104 : Nat) (s108 : Sg), s95.Le s108 ∧ (.next (q110, q115)) = q98 ∧ Sl 3 RGuideRide s108 a111 c112 q110 ∧ (q110 = [] → a111 = none) ∧ Rep a 74 [(4, pp pb3), (7, pp b54), (11, pp b82), (4294967295, vi (D104 : Nat))] ∧ St w s108 (pt D104 (.deferred (some [])) :: pc b82 #[vi x55.Train, vi x55.Off, vi (w64 (y1.Rides - ((x0).length : Int)))] 132 :: pc b71 (ApiStop.cells q65).toArray 106 :: pc b64 (GuideRide.cells x55).toArray 47 :: pc b54 #[.slice a111 q110.length c112] 26 :: pc b53 #[.slice a0 x0.length c0] 26 :: pc pb0 #[.slice a_y0_0 y0.Day.Trains.length c_y0_0, .slice a_y0_1 y0.Day.Turns.length c_y0_1, vi y0.least] 94 :: pc pb1 #[vi y1.Dep, vi y1.Arr, vi y1.Rides] 62 :: pc pb2 #[vi y2] 3 :: pc pb3 #[.map (some b_v0)] 128 :: pc pb4 #[.func (.func 102) #[] #[pp pb0, pp pb1, pp pb2, pp pb3, pp pb4]] 130 :: mapC keyAr3i64.f Value.bool b_v0 q115 :: R)) ?_ ?_
  ·refine W.rangeFunc (l := q91) (ps := [61]) [] rfl hE rfl hS rfl h94 bd113 (fun _ => rfl) rfl (fun pre101 s108 Q_ => ∃ (rest100 : List GuideRide), ∃ (q110 : List GuideRide), ∃ (q115 : List (Ar3i64 × Bool)), ∃ (a111 : Option Addr), ∃ (c112 : Nat), q91 = pre101 ++ rest100 ∧ GuideNetleastOf_1_v1.loop1 x0 y0 y1 y2 self_GuideNetleastOf_1_v1 rest100 q110 q115 = some q98 ∧ s95.Le s108 ∧ Sl 3 RGuideRide s108 a111 c112 q110 ∧ (q110 = [] → a111 = none) ∧ Q_ = pc b82 #[vi x55.Train, vi x55.Off, vi (w64 (y1.Rides - ((x0).length : Int)))] 132 :: pc b71 (ApiStop.cells q65).toArray 106 :: pc b64 (GuideRide.cells x55).toArray 47 :: pc b54 #[.slice a111 q110.length c112] 26 :: pc b53 #[.slice a0 x0.length c0] 26 :: pc pb0 #[.slice a_y0_0 y0.Day.Trains.length c_y0_0, .slice a_y0_1 y0.Day.Turns.length c_y0_1, vi y0.least] 94 :: pc pb1 #[vi y1.Dep, vi y1.Arr, vi y1.Rides] 62 :: pc pb2 #[vi y2] 3 :: pc pb3 #[.map (some b_v0)] 128 :: pc pb4 #[.func (.func 102) #[] #[pp pb0, pp pb1, pp pb2, pp pb3, pp pb4]] 130 :: mapC keyAr3i64.f Value.bool b_v0 q115 :: R) (fun _ s108 Q_ => ∃ (q110 : List GuideRide), ∃ (q115 : List (Ar3i64 × Bool)), ∃ (a111 : Option Addr), ∃ (c112 : Nat), (.ret (q110, q115)) = q98 ∧ s95.Le s108 ∧ Sl 3 RGuideRide s108 a111 c112 q110 ∧ (q110 = [] → a111 = none) ∧ Q_ = pc b82 #[vi x55.Train, vi x55.Off, vi (w64 (y1.Rides - ((x0).length : Int)))] 132 :: pc b71 (ApiStop.cells q65).toArray 106 :: pc b64 (GuideRide.cells x55).toArray 47 :: pc b54 #[.slice a111 q110.length c112] 26 :: pc b53 #[.slice a0 x0.length c0] 26 :: pc pb0 #[.slice a_y0_0 y0.Day.Trains.length c_y0_0, .slice a_y0_1 y0.Day.Turns.length c_y0_1, vi y0.least] 94 :: pc pb1 #[vi y1.Dep, vi y1.Arr, vi y1.Rides] 62 :: pc pb2 #[vi y2] 3 :: pc pb3 #[.map (some b_v0)] 128 :: pc pb4 #[.func (.func 102) #[] #[pp pb0, pp pb1, pp pb2, pp pb3, pp pb4]] 130 :: mapC keyAr3i64.f Value.bool b_v0 q115 :: R) (fun _ _ _ h => (by obtain ⟨rest100, q110, q115, a111, c112, _, _, hle_, _⟩ := h; exact hle_)) ⟨q91, [], y3_0, none, 0, rfl, hq97, Sg.Le.refl _, Sl.nil, (fun _ => rfl), rfl⟩ (fun x99 (b116 : Nat) => [(5, pp pb4), (6, pp b53), (7, pp b54), (12, pp b116)]) (fun x99 (b116 : Nat) => [pc b116 (GuideRide.cells x99).toArray 47]) ?_ ?_ ?_ ?_
   ·intro x99 a w t107 R L105 hE hS
    refine W.region ?_
    refine WL.alloc hE hS (runs_plain rfl) zr47 rfl ?_; clear hE hS a w; intro b116 a w hE hS
    refine WL.storeI hE hS 0 rfl (GuideRide.cells x99) (runs_plain rfl) rfl rfl rfl ty47 rfl rfl rfl rfl ?_; clear hE hS a w; intro a w hE hS
    refine WL.nil ?_
    exact ⟨b116, hE.pick _ ⟨rfl, rfl, rfl, rfl, trivial⟩, hS⟩
   ·intro pre101 x99 b116 s108 Q_ T_ L105 a w hpre_ hI_ hE hS
    obtain ⟨rest100, q110, q115, a111, c112, hl102, hq97, hle109, h113, hz114, rfl⟩ := hI_
    obtain ⟨rest100, rfl⟩ := pre_next hl102 hpre_
    rw [GuideNetleastOf_1_v1.loop1] at hq97
    replace hS : St w s108 (pc b116 (GuideRide.cells x99).toArray 47 :: pc b82 #[vi x55.Train, vi x55.Off, vi (w64 (y1.Rides - ((x0).length : Int)))] 132 :: pc b71 (ApiStop.cells q65).toArray 106 :: pc b64 (GuideRide.cells x55).toArray 47 :: pc b54 #[.slice a111 q110.length c112] 26 :: pc b53 #[.slice a0 x0.length c0] 26 :: pc pb0 #[.slice a_y0_0 y0.Day.Trains.length c_y0_0, .slice a_y0_1 y0.Day.Turns.length c_y0_1, vi y0.least] 94 :: pc pb1 #[vi y1.Dep, vi y1.Arr, vi y1.Rides] 62 :: pc pb2 #[vi y2] 3 :: pc pb3 #[.map (some b_v0)] 128 :: pc pb4 #[.func (.func 102) #[] #[pp pb0, pp pb1, pp pb2, pp pb3, pp pb4]] 130 :: mapC keyAr3i64.f Value.bool b_v0 q115 :: (R ++ T_)) := hS
    generalize hT117 : R ++ T_ = R at hS
    refine W.gen fun K118 hK118 => ?_
    replace h_y0_0 := Sl.mono RApiTrain.mono hle109 h_y0_0
    replace h_y0_1 := Sl.mono (RL.mono RI.mono) hle109 h_y0_1
    replace h94 := Iter.mono hle109 h94
    replace h0 := Sl.mono RGuideRide.mono hle109 h0
    refine W.block ?_
    refine W.seq ?_
    refine W.gen fun K119 hK119 => ?_
    refine W.regionE (sel (fun w => St w s108 (pc b116 (GuideRide.cells x99).toArray 47 :: pc b82 #[vi x55.Train, vi x55.Off, vi (w64 (y1.Rides - ((x0).length : Int)))] 132 :: pc b71 (ApiStop.cells q65).toArray 106 :: pc b64 (GuideRide.cells x55).toArray 47 :: pc b54 #[.slice a111 q110.length c112] 26 :: pc b53 #[.slice a0 x0.length c0] 26 :: pc pb0 #[.slice a_y0_0 y0.Day.Trains.length c_y0_0, .slice a_y0_1 y0.Day.Turns.length c_y0_1, vi y0.least] 94 :: pc pb1 #[vi y1.Dep, vi y1.Arr, vi y1.Rides] 62 :: pc pb2 #[vi y2] 3 :: pc pb3 #[.map (some b_v0)] 128 :: pc pb4 #[.func (.func 102) #[] #[pp pb0, pp pb1, pp pb2, pp pb3, pp pb4]] 130 :: mapC keyAr3i64.f Value.bool b_v0 q115 :: R)) (fun w => St w s108 (pc b116 (GuideRide.cells x99).toArray 47 :: pc b82 #[vi x55.Train, vi x55.Off, vi (w64 (y1.Rides - ((x0).length : Int)))] 132 :: pc b71 (ApiStop.cells q65).toArray 106 :: pc b64 (GuideRide.cells x55).toArray 47 :: pc b54 #[.slice a111 q110.length c112] 26 :: pc b53 #[.slice a0 x0.length c0] 26 :: pc pb0 #[.slice a_y0_0 y0.Day.Trains.length c_y0_0, .slice a_y0_1 y0.Day.Turns.length c_y0_1, vi y0.least] 94 :: pc pb1 #[vi y1.Dep, vi y1.Arr, vi y1.Rides] 62 :: pc pb2 #[vi y2] 3 :: pc pb3 #[.map (some b_v0)] 128 :: pc pb4 #[.func (.func 102) #[] #[pp pb0, pp pb1, pp pb2, pp pb3, pp pb4]] 130 :: R))) (fun b i => cond b ([0, 1, 2, 3, 4, 5, 7].contains i) ([0, 1, 2, 3, 4, 5, 6, 7].contains i)) mixed ?_
    replace hS := hS.drew
    refine tT (i := 0) true rfl hE rfl (by kernel_rfl) (Gives.loadB hE 10 rfl rfl rfl ty130) rfl hS (hS.dropAt 11) fun a hE => ?_
    have hT := tw_sel (A := fun w => St w s108 _) (B := fun w => St w s108 _) (w := _) (x := true) (y := true) (fun _ => hS) (fun _ => (hS.dropAt 11))
    have hF := hS; replace hS := (hS.dropAt 11)
    refine Rg.take (i := 1) false rfl hE rfl (by kernel_rfl) (runs_plain rfl) (Gives.loadB hE 5 rfl rfl rfl ty26) rfl hT fun a hE => ?_
    replace hS := hF; clear hF hT
    have hT := tw_sel (A := fun w => St w s108 _) (B := fun w => St w s108 _) (w := _) (x := true) (y := true) (fun _ => hS) (fun _ => (hS.dropAt 11))
    have hF := hS; replace hS := (hS.dropAt 11)
    refine Rg.take (i := 3) false rfl hE rfl (by kernel_rfl) (runs_plain rfl) (Gives.loadBA hE 0 rfl rfl ty47) rfl hT fun a hE => ?_
    replace hS := hF; clear hF hT
    obtain ⟨q120, hq121, hq97⟩ := bindS hq97
    obtain ⟨x129, hx130, hq97⟩ := bindS hq97
    obtain ⟨q141, hq142, hq97⟩ := bindS hq97
    suffices key : ∀ s147 a143 c144 F135 (a : Act) (w : World), s108.Le s147 → Sl 3 RGuideRide s147 a143 c144 q141.1 → (q141.1 = [] → a143 = none) → Sl 4 RApiTrain s147 a_y0_0 c_y0_0 y0.Day.Trains → Sl 1 (RL 1 (RI .i64)) s147 a_y0_1 c_y0_1 y0.Day.Turns → Sl 3 RGuideRide s147 a111 c112 q110 → (q110 = [] → a111 = none) → Sl 3 RGuideRide s147 a0 c0 x0 → Rep a 74 [(7, pp b54), (13, .slice a143 q141.1.length c144)] → St w s147 (pc pb0 #[.slice a_y0_0 y0.Day.Trains.length c_y0_0, .slice a_y0_1 y0.Day.Turns.length c_y0_1, vi y0.least] 94 :: pc pb1 #[vi y1.Dep, vi y1.Arr, vi y1.Rides] 62 :: pc pb2 #[vi y2] 3 :: pc pb3 #[.map (some b_v0)] 128 :: pc pb4 #[.func (.func 102) #[] #[pp pb0, pp pb1, pp pb2, pp pb3, pp pb4]] 130 :: mapC keyAr3i64.f Value.bool b_v0 q141.2 :: F135 :: pc b116 (GuideRide.cells x99).toArray 47 :: pc b82 #[vi x55.Train, vi x55.Off, vi (w64 (y1.Rides - ((x0).length : Int)))] 132 :: pc b71 (ApiStop.cells q65).toArray 106 :: pc b64 (GuideRide.cells x55).toArray 47 :: pc b54 #[.slice a111 q110.length c112] 26 :: pc b53 #[.slice a0 x0.length c0] 26 :: R) → K119.nor a w by
     refine Rg.many 2 [4] (by kernel_rfl) ⟨?_, ?_, trivial⟩
     ·refine Br.mk (i := 2) true true rfl (by kernel_rfl) (by kernel_rfl) ?_
      have hc_ := SlicesCloneLguideRide_ok hS h0 hq121
      refine WL.fnq hE (hc_) (runs_plain rfl) bd76 rfl rfl rfl ?_
      clear hE hS hc_; rintro e w ⟨a122, c123, n124, cs125, rfl, h126, rfl, hS⟩; refine ⟨_, rfl, ?_⟩; clear a; intro a hE
      refine WL.nil ?_
      refine ⟨⟨fun _ => (hS.tail), fun _ => ((hS.tail).dropAt 11)⟩, ?_⟩
      refine Rg.one (i := 4) true true rfl (by kernel_rfl) (by kernel_rfl) (by kernel_rfl) ?_
      refine WL.lit hE hS (e := 47) (es := 3) (vs := [(0, .agg (GuideRide.cells x99).toArray)]) (cs := [vi x99.Train, vi x99.On, vi x99.Off]) (runs_plain rfl) rfl (by kernel_rfl) rfl ?_; clear hE hS a w; intro b128 a w hE hS
      refine WL.nil ?_
      refine ⟨⟨fun _ => ((hS.tail).tail), fun _ => (((hS.tail).tail).dropAt 11)⟩, ?_⟩
      refine Rg.one (i := 5) true true rfl (by kernel_rfl) (by kernel_rfl) (by kernel_rfl) ?_
      refine WL.appB hE hS 0 (m := 1) (runs_plain rfl) rfl rfl rfl ap26 rfl h126 rfl (xs := [x99]) (Ev.cons (c1 := [vi x99.Train, vi x99.On, vi x99.Off]) rfl rfl (Ev.nil)) rfl rfl hx130 rfl ?_; clear hE hS a w; intro a131 c132 cs133 F135 a w h134 hb136 hE hS
      refine WL.nil ?_
      refine ⟨⟨fun _ => ((hS.tail).tail), fun _ => (((hS.tail).tail).dropAt 11)⟩, ?_⟩
      refine Rg.one (i := 6) false true rfl (by kernel_rfl) (by kernel_rfl) (by kernel_rfl) ?_
      have hF := hS.fixD RGuideRide.mono 0 rfl h134 (rfl); clear hS; obtain ⟨s138, hle139, hS, h140⟩ := hF
      replace h0 := Sl.mono RGuideRide.mono hle139 h0
      replace h113 := Sl.mono RGuideRide.mono hle139 h113
      replace h_y0_0 := Sl.mono RApiTrain.mono hle139 h_y0_0
      replace h_y0_1 := Sl.mono (RL.mono RI.mono) hle139 h_y0_1
      replace hS := hS.front 12 rfl
      replace hS := hS.front 12 rfl
      replace hS := hS.front 12 rfl
      replace hS := hS.front 12 rfl
      replace hS := hS.front 12 rfl
      replace hS := hS.front 12 rfl
      have hc_ := ih_GuideNetleastOf_1_v1 (y0 := y0) (y1 := y1) hS h140 h_y0_0 h_y0_1 hq142
      refine WL.fnw hE (hc_) rfl (runs_plain rfl) bd102 rfl rfl rfl ?_
      clear hE hS hc_; rintro e w ⟨a143, c144, s147, rfl, hle148, h145, hz146, hS⟩; refine ⟨_, rfl, ?_⟩; clear a; intro a hE
      replace h0 := Sl.mono RGuideRide.mono hle148 h0
      replace h140 := Sl.mono RGuideRide.mono hle148 h140
      replace h_y0_0 := Sl.mono RApiTrain.mono hle148 h_y0_0
      replace h_y0_1 := Sl.mono (RL.mono RI.mono) hle148 h_y0_1
      replace h113 := Sl.mono RGuideRide.mono hle148 h113
      refine WL.nil ?_
      refine ⟨⟨fun h => absurd h (by decide), fun _ => (St.down (Sg.Le.trans hle139 hle148) (St.order ((hS.dropAt 5).dropAt 5) [5, 5, 5, 5, 5, 5, 0, 0, 0, 0, 0] (by kernel_rfl)))⟩, ?_⟩
      refine Rg.takeP (i := 7) hE rfl (by kernel_rfl) (runs_plain rfl) (Gives.p hE rfl) rfl (tw_sel (fun h => absurd h (by decide)) (fun _ => (St.down (Sg.Le.trans hle139 hle148) (St.order ((hS.dropAt 5).dropAt 5) [5, 5, 5, 5, 5, 5, 0, 0, 0, 0, 0] (by kernel_rfl))))) fun a hE => ?_
      refine Rg.done (by kernel_rfl) ?_
      exact key _ _ _ _ _ _ (Sg.Le.trans hle139 hle148) h145 hz146 h_y0_0 h_y0_1 h113 hz114 h0 (hE.pick _ ⟨rfl, rfl, trivial⟩) hS
     refine Br.mk (i := 4) true true rfl (by kernel_rfl) (by kernel_rfl) ?_
     refine WL.lit hE hS (e := 47) (es := 3) (vs := [(0, .agg (GuideRide.cells x99).toArray)]) (cs := [vi x99.Train, vi x99.On, vi x99.Off]) (runs_plain rfl) rfl (by kernel_rfl) rfl ?_; clear hE hS a w; intro b128 a w hE hS
     refine WL.nil ?_
     refine ⟨⟨fun _ => (hS.tail), fun _ => ((hS.tail).dropAt 11)⟩, ?_⟩
     refine Rg.one (i := 2) true true rfl (by kernel_rfl) (by kernel_rfl) (by kernel_rfl) ?_
     have hc_ := SlicesCloneLguideRide_ok hS h0 hq121
     refine WL.fnq hE (hc_) (runs_plain rfl) bd76 rfl rfl rfl ?_
     clear hE hS hc_; rintro e w ⟨a122, c123, n124, cs125, rfl, h126, rfl, hS⟩; refine ⟨_, rfl, ?_⟩; clear a; intro a hE
     refine WL.nil ?_
     refine ⟨⟨fun _ => ((hS.tail).tail), fun _ => (((hS.tail).tail).dropAt 11)⟩, ?_⟩
     refine Rg.one (i := 5) true true rfl (by kernel_rfl) (by kernel_rfl) (by kernel_rfl) ?_
     replace hS := hS.front 1 rfl
     refine WL.appB hE hS 0 (m := 1) (runs_plain rfl) rfl rfl rfl ap26 rfl h126 rfl (xs := [x99]) (Ev.cons (c1 := [vi x99.Train, vi x99.On, vi x99.Off]) rfl rfl (Ev.nil)) rfl rfl hx130 rfl ?_; clear hE hS a w; intro a131 c132 cs133 F135 a w h134 hb136 hE hS
     refine WL.nil ?_
     refine ⟨⟨fun _ => ((hS.tail).tail), fun _ => (((hS.tail).tail).dropAt 11)⟩, ?_⟩
     refine Rg.one (i := 6) false true rfl (by kernel_rfl) (by kernel_rfl) (by kernel_rfl) ?_
     have hF := hS.fixD RGuideRide.mono 0 rfl h134 (rfl); clear hS; obtain ⟨s138, hle139, hS, h140⟩ := hF
     replace h0 := Sl.mono RGuideRide.mono hle139 h0
     replace h113 := Sl.mono RGuideRide.mono hle139 h113
     replace h_y0_0 := Sl.mono RApiTrain.mono hle139 h_y0_0
     replace h_y0_1 := Sl.mono (RL.mono RI.mono) hle139 h_y0_1
     replace hS := hS.front 12 rfl
     replace hS := hS.front 12 rfl
     replace hS := hS.front 12 rfl
     replace hS := hS.front 12 rfl
     replace hS := hS.front 12 rfl
     replace hS := hS.front 12 rfl
     have hc_ := ih_GuideNetleastOf_1_v1 (y0 := y0) (y1 := y1) hS h140 h_y0_0 h_y0_1 hq142
     refine WL.fnw hE (hc_) rfl (runs_plain rfl) bd102 rfl rfl rfl ?_
     clear hE hS hc_; rintro e w ⟨a143, c144, s147, rfl, hle148, h145, hz146, hS⟩; refine ⟨_, rfl, ?_⟩; clear a; intro a hE
     replace h0 := Sl.mono RGuideRide.mono hle148 h0
     replace h140 := Sl.mono RGuideRide.mono hle148 h140
     replace h_y0_0 := Sl.mono RApiTrain.mono hle148 h_y0_0
     replace h_y0_1 := Sl.mono (RL.mono RI.mono) hle148 h_y0_1
     replace h113 := Sl.mono RGuideRide.mono hle148 h113
     refine WL.nil ?_
     refine ⟨⟨fun h => absurd h (by decide), fun _ => (St.down (Sg.Le.trans hle139 hle148) (St.order ((hS.dropAt 5).dropAt 5) [5, 5, 5, 5, 5, 5, 0, 0, 0, 0, 0] (by kernel_rfl)))⟩, ?_⟩
     refine Rg.takeP (i := 7) hE rfl (by kernel_rfl) (runs_plain rfl) (Gives.p hE rfl) rfl (tw_sel (fun h => absurd h (by decide)) (fun _ => (St.down (Sg.Le.trans hle139 hle148) (St.order ((hS.dropAt 5).dropAt 5) [5, 5, 5, 5, 5, 5, 0, 0, 0, 0, 0] (by kernel_rfl))))) fun a hE => ?_
     refine Rg.done (by kernel_rfl) ?_
     exact key _ _ _ _ _ _ (Sg.Le.trans hle139 hle148) h145 hz146 h_y0_0 h_y0_1 h113 hz114 h0 (hE.pick _ ⟨rfl, rfl, trivial⟩) hS
    clear hE hS a w; intro s147 a143 c144 F135 a w hle149 h145 hz146 h_y0_0 h_y0_1 h113 hz114 h0 hE hS
    subst hK119
    refine W.seq (W.region (vp hS hE rfl rfl fun a hE => ?_))
    refine vP hS hE (Gives.notNilZ hE (isNone_eq h145 hz146) rfl rfl isl26) rfl fun a hE => WL.nil ?_
    refine W.cond hE rfl (fun hc150 => ?_) (fun hc150 => ?_)
    ·replace hq97 := iteT hc150 hq97
     refine W.seq (W.region (vp hS hE rfl rfl fun a hE => ?_))
     refine WL.storeI hE hS 11 rfl [.slice a143 q141.1.length c144] (runs_plain rfl) rfl rfl rfl ty26 rfl rfl rfl rfl ?_; clear hE hS a w; intro a w hE hS
     refine WL.nil ?_
     refine W.ret ?_
     subst hK118
     replace hS := hS.dropAt 6
     replace hS := hS.dropAt 6
     replace hS := hS.order [6, 6, 6, 6, 6, 0, 0, 0, 0, 0, 0] rfl
     subst hT117
     exact ⟨s147, _, ⟨q141.1, q141.2, a143, c144, Option.some.inj hq97, (Sg.Le.trans hle109 hle149), h145, hz146, rfl⟩, hS⟩
    replace hq97 := iteF hc150 hq97
    refine W.skip ?_
    replace hS := hS.dropAt 6
    replace hS := hS.dropAt 6
    replace hS := hS.order [6, 6, 6, 6, 6, 0, 0, 0, 0, 0, 0] rfl
    subst hK118
    subst hT117
    exact ⟨s147, _, ⟨rest100, q110, q141.2, a111, c112, hl102.trans (by simp), hq97, (Sg.Le.trans hle109 hle149), h113, hz114, rfl⟩, hS⟩
   ·intro s108 Q_ D104 a w hI_ hE hS
    obtain ⟨rest100, q110, q115, a111, c112, hl102, hq97, hle109, h113, hz114, rfl⟩ := hI_
    obtain rfl := pre_end hl102
    rw [GuideNetleastOf_1_v1.loop1] at hq97
    exact ⟨q110, q115, _, _, D104, s108, hle109, Option.some.inj hq97, h113, hz114, hE.pick _ ⟨rfl, rfl, rfl, rfl, trivial⟩, hS⟩
   intro c_ s108 Q_ D104 a w hc_ hX_ hE hS
   obtain rfl : c_ = .ret := hc_.elim id (fun h => (by obtain ⟨_, h, _⟩ := h; cases h))
   obtain ⟨q110, q115, a111, c112, rfl, hle109, h113, hz114, rfl⟩ := hX_
   dsimp only at hr
   replace h_y0_0 := Sl.mono RApiTrain.mono hle109 h_y0_0
   replace h_y0_1 := Sl.mono (RL.mono RI.mono) hle109 h_y0_1
   replace h94 := Iter.mono hle109 h94
   replace h0 := Sl.mono RGuideRide.mono hle109 h0
   refine W.ret ?_
   refine finGM (fn := Tryd.f102) (rs := [.cell 7 26]) (vs := [.slice a111 q110.length c112]) hE hS 0 rfl rfl ?_
   clear hS; intro w hS
   refine ⟨⟨⟨_, rfl, .inr ⟨hS.seesAt 3 rfl, ty26⟩⟩, trivial⟩, ?_⟩
   obtain rfl := Option.some.inj hr
   replace hS := hS.tail
   replace hS := hS.tail
   replace hS := hS.tail
   replace hS := hS.tail
   replace hS := hS.tail
   exact ⟨a111, c112, s108, rfl, (Sg.Le.trans (Sg.Le.trans hle70 hle96) hle109), h113, hz114, hS⟩
  clear hE hS a w; rintro a w ⟨q110, q115, a111, c112, D104, s108, hle109, rfl, h113, hz114, hE, hS⟩
  dsimp only at hr
  replace h_y0_0 := Sl.mono RApiTrain.mono hle109 h_y0_0
  replace h_y0_1 := Sl.mono (RL.mono RI.mono) hle109 h_y0_1
  replace h94 := Iter.mono hle109 h94
  replace h0 := Sl.mono RGuideRide.mono hle109 h0
  refine W.seq (W.region (vP hS hE (Gives.loadB hE 9 rfl rfl rfl ty128) rfl fun a hE => ?_))
  refine vP hS hE (Gives.loadBA hE 1 rfl rfl ty132) rfl fun a hE => ?_
  refine WL.mapSetG (KeyS.arr keyAr3i64 rfl arS_132) hE hS 11 (k := (Ar3i64.mk x55.Train x55.Off (w64 (y1.Rides - ((x0).length : Int))))) (v := true) (.inl rfl) (runs_plain rfl) rfl rfl rfl rfl um128 rfl ?_; clear hE hS a w; intro a w hE hS
  refine WL.nil ?_
  refine W.seq (W.region ?_)
  refine WL.storeI hE hS 4 rfl [.slice none 0 0] (runs_plain rfl) rfl rfl rfl ty26 rfl rfl rfl rfl ?_; clear hE hS a w; intro a w hE hS
  refine WL.nil ?_
  refine W.ret ?_
  refine finGM (fn := Tryd.f102) (rs := [.cell 7 26]) (vs := [.slice none 0 0]) hE hS 0 rfl rfl ?_
  clear hS; intro w hS
  refine ⟨⟨⟨_, rfl, .inr ⟨hS.seesAt 3 rfl, ty26⟩⟩, trivial⟩, ?_⟩
  obtain rfl := Option.some.inj hr
  replace hS := hS.tail
  replace hS := hS.tail
  replace hS := hS.tail
  replace hS := hS.tail
  replace hS := hS.tail
  exact ⟨none, 0, s108, rfl, (Sg.Le.trans (Sg.Le.trans hle70 hle96) hle109), Sl.nil, (fun _ => rfl), hS⟩
set_option maxHeartbeats 8000000 in
theorem GuideNetleastOf_ok {fu : Nat}  {w : World} {s : Sg} {R : List HP} {x0 : GuideNet} {a0_0 : Option Addr} {c0_0 : Nat} {a0_1 : Option Addr} {c0_1 : Nat} {x1 : Int} {x2 : Int} {x3 : GuidePoint} (hS : St w s (R)) (h0_0 : Sl 4 RApiTrain s a0_0 c0_0 x0.Day.Trains) (h0_1 : Sl 1 (RL 1 (RI .i64)) s a0_1 c0_1 x0.Day.Turns) {r : GuideJourney} (hr : GuideNetleastOf fu x0 x1 x2 x3 = some r) :
  Calls Tryd.prog 55 [.agg [.slice a0_0 x0.Day.Trains.length c0_0, .slice a0_1 x0.Day.Turns.length c0_1, vi x0.least].toArray, vi x1, vi x2, .agg (GuidePoint.cells x3).toArray].toArray w (fun e w => ∃ (cs0 : List Value) (t : Sg), e = .returned (.agg cs0.toArray) ∧ s.Le t ∧ RGuideJourney t cs0 r ∧ St w t (R)) := by
 refine enter Tryd.func55 rfl rfl rfl fun a hE => ?_
 rw [GuideNetleastOf] at hr
 refine W.seq (W.region ?_)
 refine WL.box hE hS (runs_plain rfl) rfl rfl rfl ?_; clear hE hS a w; intro b51 a w hE hS
 refine WL.box hE hS (runs_plain rfl) rfl rfl rfl ?_; clear hE hS a w; intro b52 a w hE hS
 refine WL.box hE hS (runs_plain rfl) rfl rfl rfl ?_; clear hE hS a w; intro b53 a w hE hS
 refine WL.alloc hE hS (runs_plain rfl) zr28 rfl ?_; clear hE hS a w; intro b54 a w hE hS
 refine WL.nil ?_
 refine W.seq (W.region ?_)
 refine WL.mkMap (fk := keyAr3i64.f) (fv := Value.bool) hE hS (runs_plain rfl) rfl ?_; clear hE hS a w; intro b55 a w hE hS
 refine WL.alloc hE hS (runs_plain rfl) zr128 rfl ?_; clear hE hS a w; intro b56 a w hE hS
 refine WL.storeI hE hS 0 rfl [.map (some b55)] (runs_plain rfl) rfl rfl rfl ty128 rfl rfl rfl rfl ?_; clear hE hS a w; intro a w hE hS
 refine WL.nil ?_
 refine W.seq (W.region ?_)
 refine WL.alloc hE hS (runs_plain rfl) zr130 rfl ?_; clear hE hS a w; intro b57 a w hE hS
 refine WL.nil ?_
 refine W.seq (W.region (vP hS hE (Gives.mkfn hE (vs := [pp b51, pp b53, pp b52, pp b56, pp b57]) rfl) rfl fun a hE => ?_))
 refine WL.storeI hE hS 0 rfl [.func (.func 102) #[] #[pp b51, pp b53, pp b52, pp b56, pp b57]] (runs_plain rfl) rfl rfl rfl ty130 rfl rfl rfl rfl ?_; clear hE hS a w; intro a w hE hS
 refine WL.nil ?_
 refine W.seq ?_
 refine W.seq (W.region (vP hS hE (Gives.loadBA hE 6 rfl rfl ty94) rfl fun a hE => ?_))
 refine vp hS hE rfl rfl fun a hE => ?_
 refine vP hS hE (Gives.fld hE rfl fl62_0) rfl fun a hE => ?_
 refine vP hS hE (Gives.loadB hE 4 rfl rfl rfl ty3) rfl fun a hE => ?_
 obtain ⟨q58, hq59, hr⟩ := bndS hr
 have hc_ := GuideNetrides_ok hS h0_0 h0_1 hq59
 refine WL.fnq hE (hc_) (runs_plain rfl) bd72 rfl rfl rfl ?_
 clear hE hS hc_; rintro e w ⟨lb60, s62, rfl, hle63, h61, hS⟩; refine ⟨_, rfl, ?_⟩; clear a; intro a hE
 replace h0_0 := Sl.mono RApiTrain.mono hle63 h0_0
 replace h0_1 := Sl.mono (RL.mono RI.mono) hle63 h0_1
 refine WL.nil ?_
 refine W.block ?_
 obtain ⟨q65, hq64, hr⟩ := bindS hr
 refine W.cut (fun a w => ∃ (q77 : List GuideRide), ∃ (q81 : List (Ar3i64 × Bool)), ∃ (a78 : Option Addr), ∃ (c79 : Nat), ∃ (D71 : Nat) (s75 : Sg), s62.Le s75 ∧ (.next (q77, q81)) = q65 ∧ Sl 3 RGuideRide s75 a78 c79 q77 ∧ Rep a 37 [(8, pp b54), (4294967295, vi (D71 : Nat))] ∧ St w s75 (pt D71 (.deferred (some [])) :: pc b57 #[.func (.func 102) #[] #[pp b51, pp b53, pp b52, pp b56, pp b57]] 130 :: pc b56 #[.map (some b55)] 128 :: mapC keyAr3i64.f Value.bool b55 q81 :: pc b54 #[.slice a78 q77.length c79] 28 :: pc b53 (GuidePoint.cells x3).toArray 62 :: pc b52 #[vi x2] 3 :: pc b51 #[.slice a0_0 x0.Day.Trains.length c0_0, .slice a0_1 x0.Day.Turns.length c0_1, vi x0.least] 94 :: R)) ?_ ?_
 ·refine W.rangeFunc (l := q58) (ps := [20]) [] rfl hE rfl hS rfl h61 bd113 (fun _ => rfl) rfl (fun pre68 s75 Q_ => ∃ (rest67 : List GuideRide), ∃ (q77 : List GuideRide), ∃ (q81 : List (Ar3i64 × Bool)), ∃ (a78 : Option Addr), ∃ (c79 : Nat), q58 = pre68 ++ rest67 ∧ GuideNetleastOf.loop1 x0 x2 x3 fu rest67 q77 q81 = some q65 ∧ s62.Le s75 ∧ Sl 3 RGuideRide s75 a78 c79 q77 ∧ Q_ = pc b57 #[.func (.func 102) #[] #[pp b51, pp b53, pp b52, pp b56, pp b57]] 130 :: pc b56 #[.map (some b55)] 128 :: mapC keyAr3i64.f Value.bool b55 q81 :: pc b54 #[.slice a78 q77.length c79] 28 :: pc b53 (GuidePoint.cells x3).toArray 62 :: pc b52 #[vi x2] 3 :: pc b51 #[.slice a0_0 x0.Day.Trains.length c0_0, .slice a0_1 x0.Day.Turns.length c0_1, vi x0.least] 94 :: R) (fun _ s75 Q_ => ∃ (q77 : List GuideRide), ∃ (q81 : List (Ar3i64 × Bool)), ∃ (a78 : Option Addr), ∃ (c79 : Nat), (.ret (q77, q81)) = q65 ∧ s62.Le s75 ∧ Sl 3 RGuideRide s75 a78 c79 q77 ∧ Q_ = pc b57 #[.func (.func 102) #[] #[pp b51, pp b53, pp b52, pp b56, pp b57]] 130 :: pc b56 #[.map (some b55)] 128 :: mapC keyAr3i64.f Value.bool b55 q81 :: pc b54 #[.slice a78 q77.length c79] 28 :: pc b53 (GuidePoint.cells x3).toArray 62 :: pc b52 #[vi x2] 3 :: pc b51 #[.slice a0_0 x0.Day.Trains.length c0_0, .slice a0_1 x0.Day.Turns.length c0_1, vi x0.least] 94 :: R) (fun _ _ _ h => (by obtain ⟨rest67, q77, q81, a78, c79, _, _, hle_, _⟩ := h; exact hle_)) ⟨q58, [], [], none, 0, rfl, hq64, Sg.Le.refl _, Sl.nil, rfl⟩ (fun x66 (b82 : Nat) => [(4, pp b51), (7, pp b53), (8, pp b54), (10, pp b57), (11, pp b82)]) (fun x66 (b82 : Nat) => [pc b82 (GuideRide.cells x66).toArray 47]) ?_ ?_ ?_ ?_
  ·intro x66 a w t74 R L72 hE hS
   refine W.region ?_
   refine WL.alloc hE hS (runs_plain rfl) zr47 rfl ?_; clear hE hS a w; intro b82 a w hE hS
   refine WL.storeI hE hS 0 rfl (GuideRide.cells x66) (runs_plain rfl) rfl rfl rfl ty47 rfl rfl rfl rfl ?_; clear hE hS a w; intro a w hE hS
   refine WL.nil ?_
   exact ⟨b82, hE.pick _ ⟨rfl, rfl, rfl, rfl, rfl, trivial⟩, hS⟩
  ·intro pre68 x66 b82 s75 Q_ T_ L72 a w hpre_ hI_ hE hS
   obtain ⟨rest67, q77, q81, a78, c79, hl69, hq64, hle76, h80, rfl⟩ := hI_
   obtain ⟨rest67, rfl⟩ := pre_next hl69 hpre_
   rw [GuideNetleastOf.loop1] at hq64
   replace hS : St w s75 (pc b82 (GuideRide.cells x66).toArray 47 :: pc b57 #[.func (.func 102) #[] #[pp b51, pp b53, pp b52, pp b56, pp b57]] 130 :: pc b56 #[.map (some b55)] 128 :: mapC keyAr3i64.f Value.bool b55 q81 :: pc b54 #[.slice a78 q77.length c79] 28 :: pc b53 (GuidePoint.cells x3).toArray 62 :: pc b52 #[vi x2] 3 :: pc b51 #[.slice a0_0 x0.Day.Trains.length c0_0, .slice a0_1 x0.Day.Turns.length c0_1, vi x0.least] 94 :: (R ++ T_)) := hS
   generalize hT83 : R ++ T_ = R at hS
   refine W.gen fun K84 hK84 => ?_
   replace h0_0 := Sl.mono RApiTrain.mono hle76 h0_0
   replace h0_1 := Sl.mono (RL.mono RI.mono) hle76 h0_1
   replace h61 := Iter.mono hle76 h61
   refine W.block ?_
   refine W.seq ?_
   refine W.seq ?_
   refine W.gen fun K85 hK85 => ?_
   refine W.regionE (dup (fun w => St w s75 (pc b82 (GuideRide.cells x66).toArray 47 :: pc b57 #[.func (.func 102) #[] #[pp b51, pp b53, pp b52, pp b56, pp b57]] 130 :: pc b56 #[.map (some b55)] 128 :: mapC keyAr3i64.f Value.bool b55 q81 :: pc b54 #[.slice a78 q77.length c79] 28 :: pc b53 (GuidePoint.cells x3).toArray 62 :: pc b52 #[vi x2] 3 :: pc b51 #[.slice a0_0 x0.Day.Trains.length c0_0, .slice a0_1 x0.Day.Turns.length c0_1, vi x0.least] 94 :: R))) (fun b i => cond b ([0, 1, 2, 3, 4, 5, 6].contains i) ([0, 1, 2, 3, 4, 5, 6].contains i)) mixed ?_
   replace hS := hS.drew
   refine tT (i := 0) true rfl hE rfl (by kernel_rfl) (Gives.loadBA hE 7 rfl rfl ty94) rfl hS hS fun a hE => ?_
   have hT := tw_sel (A := fun w => St w s75 _) (B := fun w => St w s75 _) (w := _) (x := true) (y := true) (fun _ => hS) (fun _ => hS)
   have hF := hS; replace hS := hS
   refine Rg.take (i := 1) true rfl hE rfl (by kernel_rfl) (runs_plain rfl) (Gives.loadBA hE 0 rfl rfl ty47) rfl hT fun a hE => ?_
   replace hS := hF; clear hF hT
   refine tP (i := 4) hE rfl (by kernel_rfl) (Gives.fld hE rfl fl62_0) rfl hS hS fun a hE => ?_
   refine tT (i := 5) true rfl hE rfl (by kernel_rfl) (Gives.loadB hE 5 rfl rfl rfl ty3) rfl hS hS fun a hE => ?_
   refine Rg.one (i := 2) true true rfl (by kernel_rfl) (by kernel_rfl) (by kernel_rfl) ?_
   obtain ⟨q86, hq87, hq64⟩ := bindS hq64
   have hc_ := GuideNeton_ok hS h0_0 h0_1 hq87
   refine WL.fnq hE (hc_) (runs_plain rfl) bd99 rfl rfl rfl ?_
   clear hE hS hc_; rintro e w ⟨cs88, s90, rfl, hle91, h89, hS⟩; refine ⟨_, rfl, ?_⟩; clear a; intro a hE
   replace h0_0 := Sl.mono RApiTrain.mono hle91 h0_0
   replace h0_1 := Sl.mono (RL.mono RI.mono) hle91 h0_1
   replace h80 := Sl.mono RGuideRide.mono hle91 h80
   subst h89
   refine WL.nil ?_
   refine ⟨⟨fun _ => (St.down hle91 hS), fun _ => (St.down hle91 hS)⟩, ?_⟩
   refine tP (i := 3) hE rfl (by kernel_rfl) (Gives.field1 hE rfl fd106_3 ty3 rfl) rfl (St.down hle91 hS) (St.down hle91 hS) fun a hE => ?_
   refine tP (i := 6) hE rfl (by kernel_rfl) (Gives.p hE rfl) rfl (St.down hle91 hS) (St.down hle91 hS) fun a hE => ?_
   refine Rg.done (by kernel_rfl) ?_
   subst hK85
   refine W.cond hE rfl (fun hc92 => ?_) (fun hc92 => ?_)
   ·replace hq64 := iteT hc92 hq64
    refine W.exit rfl ?_
    replace hS := hS.tail
    subst hK84
    subst hT83
    exact ⟨s90, _, ⟨rest67, q77, q81, a78, c79, hl69.trans (by simp), hq64, (Sg.Le.trans hle76 hle91), h80, rfl⟩, hS⟩
   replace hq64 := iteF hc92 hq64
   refine W.skip ?_
   refine W.seq (W.region (vP hS hE (Gives.loadB hE 1 rfl rfl rfl ty130) rfl fun a hE => ?_))
   refine vP hS hE (Gives.loadBA hE 0 rfl rfl ty47) rfl fun a hE => ?_
   refine WL.lit hE hS (e := 47) (es := 3) (vs := [(0, .agg (GuideRide.cells x66).toArray)]) (cs := [vi x66.Train, vi x66.On, vi x66.Off]) (runs_plain rfl) rfl (by kernel_rfl) rfl ?_; clear hE hS a w; intro b93 a w hE hS
   replace hS := hS.ptVec (es := 3) (m := 1) rfl (by decide)
   have h95 : Ev 3 RGuideRide s90 [vi x66.Train, vi x66.On, vi x66.Off] [x66] := (Ev.cons (c1 := [vi x66.Train, vi x66.On, vi x66.Off]) rfl rfl (Ev.nil))
   have hF := hS.fixD RGuideRide.mono 0 rfl h95 (rfl); clear hS; obtain ⟨s96, hle97, hS, h98⟩ := hF
   replace h0_0 := Sl.mono RApiTrain.mono hle97 h0_0
   replace h0_1 := Sl.mono (RL.mono RI.mono) hle97 h0_1
   replace h80 := Sl.mono RGuideRide.mono hle97 h80
   obtain ⟨q99, hq100, hq64⟩ := bindS hq64
   replace hS := hS.front 3 rfl
   replace hS := hS.front 2 rfl
   replace hS := hS.front 3 rfl
   replace hS := hS.front 6 rfl
   replace hS := hS.front 6 rfl
   replace hS := hS.front 7 rfl
   have hc_ := GuideNetleastOf_1_v1_ok (y0 := x0) (y1 := x3) hS h98 h0_0 h0_1 hq100
   refine WL.fnw hE (hc_) rfl (runs_plain rfl) bd102 rfl rfl rfl ?_
   clear hE hS hc_; rintro e w ⟨a101, c102, s105, rfl, hle106, h103, hz104, hS⟩; refine ⟨_, rfl, ?_⟩; clear a; intro a hE
   replace h0_0 := Sl.mono RApiTrain.mono hle106 h0_0
   replace h0_1 := Sl.mono (RL.mono RI.mono) hle106 h0_1
   replace h98 := Sl.mono RGuideRide.mono hle106 h98
   replace h80 := Sl.mono RGuideRide.mono hle106 h80
   refine vp hS hE rfl rfl fun a hE => WL.nil ?_
   refine W.seq (W.region (vp hS hE rfl rfl fun a hE => ?_))
   refine vP hS hE (Gives.notNilZ hE (isNone_eq h103 hz104) rfl rfl isl26) rfl fun a hE => WL.nil ?_
   refine W.cond hE rfl (fun hc107 => ?_) (fun hc107 => ?_)
   ·replace hq64 := iteT hc107 hq64
    refine W.seq (W.region (vp hS hE rfl rfl fun a hE => ?_))
    refine vP hS hE (Gives.build hE (vs := [(0, .slice a101 q99.1.length c102)]) [.slice a101 q99.1.length c102] rfl (by kernel_rfl)) rfl fun a hE => ?_
    refine WL.storeI hE hS 7 rfl [.slice a101 q99.1.length c102] (runs_plain rfl) rfl rfl rfl ty28 rfl rfl rfl rfl ?_; clear hE hS a w; intro a w hE hS
    refine WL.nil ?_
    refine W.ret ?_
    subst hK84
    replace hS := hS.dropAt 6
    replace hS := hS.front 2 rfl
    replace hS := hS.front 2 rfl
    replace hS := hS.front 6 rfl
    replace hS := hS.front 6 rfl
    replace hS := hS.front 5 rfl
    replace hS := hS.front 6 rfl
    subst hT83
    exact ⟨s105, _, ⟨q99.1, q99.2, a101, c102, Option.some.inj hq64, (Sg.Le.trans (Sg.Le.trans (Sg.Le.trans hle76 hle91) hle97) hle106), h103, rfl⟩, hS⟩
   replace hq64 := iteF hc107 hq64
   refine W.skip ?_
   replace hS := hS.dropAt 6
   replace hS := hS.front 2 rfl
   replace hS := hS.front 2 rfl
   replace hS := hS.front 6 rfl
   replace hS := hS.front 6 rfl
   replace hS := hS.front 5 rfl
   replace hS := hS.front 6 rfl
   subst hK84
   subst hT83
   exact ⟨s105, _, ⟨rest67, q77, q99.2, a78, c79, hl69.trans (by simp), hq64, (Sg.Le.trans (Sg.Le.trans (Sg.Le.trans hle76 hle91) hle97) hle106), h80, rfl⟩, hS⟩
  ·intro s75 Q_ D71 a w hI_ hE hS
   obtain ⟨rest67, q77, q81, a78, c79, hl69, hq64, hle76, h80, rfl⟩ := hI_
   obtain rfl := pre_end hl69
   rw [GuideNetleastOf.loop1] at hq64
   exact ⟨q77, q81, _, _, D71, s75, hle76, Option.some.inj hq64, h80, hE.pick _ ⟨rfl, rfl, trivial⟩, hS⟩
  intro c_ s75 Q_ D71 a w hc_ hX_ hE hS
  obtain rfl : c_ = .ret := hc_.elim id (fun h => (by obtain ⟨_, h, _⟩ := h; cases h))
  obtain ⟨q77, q81, a78, c79, rfl, hle76, h80, rfl⟩ := hX_
  dsimp only at hr
  replace h0_0 := Sl.mono RApiTrain.mono hle76 h0_0
  replace h0_1 := Sl.mono (RL.mono RI.mono) hle76 h0_1
  replace h61 := Iter.mono hle76 h61
  refine W.ret ?_
  refine finGM (fn := Tryd.f55) (rs := [.cell 8 28]) (vs := [.agg #[.slice a78 q77.length c79]]) hE hS 0 rfl rfl ?_
  clear hS; intro w hS
  refine ⟨⟨⟨_, rfl, .inl ⟨_, rfl, hS.seesAt 3 rfl, ty28⟩⟩, trivial⟩, ?_⟩
  obtain rfl := Option.some.inj hr
  replace hS := hS.tail
  replace hS := hS.tail
  replace hS := hS.tail
  replace hS := hS.tail
  replace hS := hS.tail
  replace hS := hS.tail
  replace hS := hS.tail
  exact ⟨_, s75, rfl, (Sg.Le.trans hle63 hle76), ⟨_, _, rfl, h80⟩, hS⟩
 clear hE hS a w; rintro a w ⟨q77, q81, a78, c79, D71, s75, hle76, rfl, h80, hE, hS⟩
 dsimp only at hr
 replace h0_0 := Sl.mono RApiTrain.mono hle76 h0_0
 replace h0_1 := Sl.mono (RL.mono RI.mono) hle76 h0_1
 replace h61 := Iter.mono hle76 h61
 refine W.seq (W.region (vP hS hE (Gives.build hE (vs := []) [.slice none 0 0] rfl (by kernel_rfl)) rfl fun a hE => ?_))
 refine WL.storeI hE hS 4 rfl [.slice none 0 0] (runs_plain rfl) rfl rfl rfl ty28 rfl rfl rfl rfl ?_; clear hE hS a w; intro a w hE hS
 refine WL.nil ?_
 refine W.ret ?_
 refine finGM (fn := Tryd.f55) (rs := [.cell 8 28]) (vs := [.agg #[.slice none 0 0]]) hE hS 0 rfl rfl ?_
 clear hS; intro w hS
 refine ⟨⟨⟨_, rfl, .inl ⟨_, rfl, hS.seesAt 3 rfl, ty28⟩⟩, trivial⟩, ?_⟩
 obtain rfl := Option.some.inj hr
 replace hS := hS.tail
 replace hS := hS.tail
 replace hS := hS.tail
 replace hS := hS.tail
 replace hS := hS.tail
 replace hS := hS.tail
 replace hS := hS.tail
 exact ⟨_, s75, rfl, (Sg.Le.trans hle63 hle76), ⟨_, _, rfl, Sl.nil⟩, hS⟩
set_option maxHeartbeats 8000000 in
theorem GuideNetearliest_ok {fu : Nat}  {w : World} {s : Sg} {R : List HP} {x0 : GuideNet} {a0_0 : Option Addr} {c0_0 : Nat} {a0_1 : Option Addr} {c0_1 : Nat} {x1 : Int} {x2 : Int} {x3 : Int} (hS : St w s (R)) (h0_0 : Sl 4 RApiTrain s a0_0 c0_0 x0.Day.Trains) (h0_1 : Sl 1 (RL 1 (RI .i64)) s a0_1 c0_1 x0.Day.Turns) {r : GuideJourney × Bool} (hr : GuideNetearliest fu x0 x1 x2 x3 = some r) :
  Calls Tryd.prog 47 [.agg [.slice a0_0 x0.Day.Trains.length c0_0, .slice a0_1 x0.Day.Turns.length c0_1, vi x0.least].toArray, vi x1, vi x2, vi x3].toArray w (fun e w => ∃ (cs0 : List Value) (t : Sg), e = .returned (.tuple #[.agg cs0.toArray, .bool r.2]) ∧ s.Le t ∧ RGuideJourney t cs0 r.1 ∧ St w t (R)) := by
 refine enter Tryd.func47 rfl rfl rfl fun a hE => ?_
 rw [GuideNetearliest] at hr
 refine W.seq (W.region ?_)
 refine WL.box hE hS (runs_plain rfl) rfl rfl rfl ?_; clear hE hS a w; intro b51 a w hE hS
 refine WL.box hE hS (runs_plain rfl) rfl rfl rfl ?_; clear hE hS a w; intro b52 a w hE hS
 refine WL.alloc hE hS (runs_plain rfl) zr28 rfl ?_; clear hE hS a w; intro b53 a w hE hS
 refine vp hS hE rfl rfl fun a hE => WL.nil ?_
 refine W.seq (W.region (vP hS hE (Gives.loadBA hE 2 rfl rfl ty94) rfl fun a hE => ?_))
 refine v2 hS hE rfl rfl rfl rfl fun a hE => ?_
 obtain ⟨q54, hq55, hr⟩ := bindS hr
 have hc_ := GuideNetpoints_ok hS h0_0 h0_1 hq55
 refine WL.fnq hE (hc_) (runs_plain rfl) bd49 rfl rfl rfl ?_
 clear hE hS hc_; rintro e w ⟨a56, c57, n58, cs59, s62, rfl, hle63, h60, rfl, hS⟩; refine ⟨_, rfl, ?_⟩; clear a; intro a hE
 replace h0_0 := Sl.mono RApiTrain.mono hle63 h0_0
 replace h0_1 := Sl.mono (RL.mono RI.mono) hle63 h0_1
 refine vP hS hE (Gives.mkfn hE (vs := [pp b52]) rfl) rfl fun a hE => ?_
 obtain ⟨q64, hq65, hr⟩ := bindS hr
 replace hS := hS.front 0 rfl
 replace hS := hS.front 2 rfl
 have hc_ := SlicesDeleteFuncLguidePoint_v1_ok hS h60 rfl hq65
 refine WL.fnq hE (hc_) (runs_plain rfl) bd48 rfl rfl rfl ?_
 clear hE hS hc_; rintro e w ⟨a66, c67, n68, cs69, rfl, h70, rfl, hS⟩; refine ⟨_, rfl, ?_⟩; clear a; intro a hE
 refine vp hS hE rfl rfl fun a hE => WL.nil ?_
 refine W.seq ?_
 refine W.seq (W.region (vp hS hE rfl rfl fun a hE => ?_))
 refine vP hS hE (Gives.len hE rfl sl55) rfl fun a hE => ?_
 refine vp hS hE rfl rfl fun a hE => WL.nil ?_
 refine W.cond hE rfl (fun hc72 => ?_) (fun hc72 => ?_)
 ·replace hr := iteT hc72 hr
  refine W.seq (W.region (vP hS hE (Gives.build hE (vs := []) [.slice none 0 0] rfl (by kernel_rfl)) rfl fun a hE => ?_))
  refine WL.storeI hE hS 2 rfl [.slice none 0 0] (runs_plain rfl) rfl rfl rfl ty28 rfl rfl rfl rfl ?_; clear hE hS a w; intro a w hE hS
  refine vp hS hE rfl rfl fun a hE => WL.nil ?_
  refine W.ret ?_
  refine finG (fn := Tryd.f47) (rs := [.cell 8 28, .tmp 9]) (vs := [_, _]) hE rfl ⟨⟨_, rfl, .inl ⟨_, rfl, hS.seesAt 2 rfl, ty28⟩⟩, rfl, trivial⟩ ?_
  obtain rfl := Option.some.inj hr
  replace hS := hS.tail
  replace hS := hS.tail
  replace hS := hS.tail
  replace hS := hS.tail
  exact ⟨_, s62, rfl, hle63, ⟨_, _, rfl, Sl.nil⟩, hS⟩
 replace hr := iteF hc72 hr
 refine W.skip ?_
 refine W.seq (W.region (vp hS hE rfl rfl fun a hE => ?_))
 have hF := hS.fixD RGuidePoint.mono 0 rfl h70 rfl; clear hS; obtain ⟨s73, hle74, hS, h75⟩ := hF
 replace h0_0 := Sl.mono RApiTrain.mono hle74 h0_0
 replace h0_1 := Sl.mono (RL.mono RI.mono) hle74 h0_1
 obtain ⟨q76, hq77, hr⟩ := bindS hr
 have hc_ := SlicesMinFuncLguidePoint_v1_ok hS h75 hq77
 refine WL.fnq hE (hc_) (runs_plain rfl) bd51 rfl rfl rfl ?_
 clear hE hS hc_; rintro e w ⟨cs78, s80, rfl, hle81, h79, hS⟩; refine ⟨_, rfl, ?_⟩; clear a; intro a hE
 replace h0_0 := Sl.mono RApiTrain.mono hle81 h0_0
 replace h0_1 := Sl.mono (RL.mono RI.mono) hle81 h0_1
 replace h75 := Sl.mono RGuidePoint.mono hle81 h75
 subst h79
 refine WL.alloc hE hS (runs_plain rfl) zr62 rfl ?_; clear hE hS a w; intro b82 a w hE hS
 refine WL.storeI hE hS 0 rfl (GuidePoint.cells q76) (runs_plain rfl) rfl rfl rfl ty62 rfl rfl rfl rfl ?_; clear hE hS a w; intro a w hE hS
 refine WL.nil ?_
 refine W.seq (W.region (vP hS hE (Gives.loadBA hE 3 rfl rfl ty94) rfl fun a hE => ?_))
 refine v2 hS hE rfl rfl rfl rfl fun a hE => ?_
 refine vP hS hE (Gives.loadBA hE 0 rfl rfl ty62) rfl fun a hE => ?_
 obtain ⟨q83, hq84, hr⟩ := bindS hr
 have hc_ := GuideNetleastOf_ok hS h0_0 h0_1 hq84
 refine WL.fnq hE (hc_) (runs_plain rfl) bd55 rfl rfl rfl ?_
 clear hE hS hc_; rintro e w ⟨cs85, s87, rfl, hle88, h86, hS⟩; refine ⟨_, rfl, ?_⟩; clear a; intro a hE
 replace h0_0 := Sl.mono RApiTrain.mono hle88 h0_0
 replace h0_1 := Sl.mono (RL.mono RI.mono) hle88 h0_1
 replace h75 := Sl.mono RGuidePoint.mono hle88 h75
 obtain ⟨a89, c90, rfl, h91⟩ := h86
 refine WL.storeI hE hS 2 rfl [.slice a89 q83.Rides.length c90] (runs_plain rfl) rfl rfl rfl ty28 rfl rfl rfl rfl ?_; clear hE hS a w; intro a w hE hS
 refine vp hS hE rfl rfl fun a hE => WL.nil ?_
 refine W.ret ?_
 refine finG (fn := Tryd.f47) (rs := [.cell 8 28, .tmp 9]) (vs := [_, _]) hE rfl ⟨⟨_, rfl, .inl ⟨_, rfl, hS.seesAt 2 rfl, ty28⟩⟩, rfl, trivial⟩ ?_
 obtain rfl := Option.some.inj hr
 replace hS := hS.tail
 replace hS := hS.tail
 replace hS := hS.tail
 replace hS := hS.tail
 exact ⟨_, s87, rfl, (Sg.Le.trans (Sg.Le.trans (Sg.Le.trans hle63 hle74) hle81) hle88), ⟨_, _, rfl, h91⟩, hS⟩
set_option maxHeartbeats 8000000 in
theorem GuideEarliest_ok {fu : Nat}  {w : World} {s : Sg} {R : List HP} {x0 : ApiDay} {a0_0 : Option Addr} {c0_0 : Nat} {a0_1 : Option Addr} {c0_1 : Nat} {x1 : Int} {x2 : Int} {x3 : Int} {x4 : Int} (hS : St w s (R)) (hTab : TabS Tryd.prog s) (h0_0 : Sl 4 RApiTrain s a0_0 c0_0 x0.Trains) (h0_1 : Sl 1 (RL 1 (RI .i64)) s a0_1 c0_1 x0.Turns) {r : GuideJourney × Int} (hr : GuideEarliest fu x0 x1 x2 x3 x4 = some r) :
  Calls Tryd.prog 10 [.agg [.slice a0_0 x0.Trains.length c0_0, .slice a0_1 x0.Turns.length c0_1].toArray, vi x1, vi x2, vi x3, vi x4].toArray w (fun e w => ∃ (cs0 : List Value) (t : Sg), e = .returned (.tuple #[.agg cs0.toArray, vi r.2]) ∧ s.Le t ∧ RGuideJourney t cs0 r.1 ∧ St w t (R)) := by
 refine enter Tryd.func10 rfl rfl rfl fun a hE => ?_
 rw [GuideEarliest] at hr
 refine W.seq (W.region ?_)
 refine WL.box hE hS (runs_plain rfl) rfl rfl rfl ?_; clear hE hS a w; intro b51 a w hE hS
 refine WL.alloc hE hS (runs_plain rfl) zr28 rfl ?_; clear hE hS a w; intro b52 a w hE hS
 refine vp hS hE rfl rfl fun a hE => WL.nil ?_
 refine W.seq ?_
 refine W.seq (W.region (vP hS hE (Gives.loadBA hE 1 rfl rfl ty25) rfl fun a hE => ?_))
 refine v2 hS hE rfl rfl rfl rfl fun a hE => ?_
 refine v2 hS hE rfl rfl rfl rfl fun a hE => ?_
 refine WL.lit hE hS (e := 3) (es := 1) (vs := [(0, vi x2)]) (cs := [vi x2]) (runs_plain rfl) rfl (by kernel_rfl) rfl ?_; clear hE hS a w; intro b53 a w hE hS
 replace hS := hS.ptVec (es := 1) (m := 1) rfl (by decide)
 have h55 : Ev 1 (RI .i64) s [vi x2] [x2] := (Ev.cons (c1 := [vi x2]) rfl rfl (Ev.nil))
 have hF := hS.fixD RI.mono 0 rfl h55 (rfl); clear hS; obtain ⟨s56, hle57, hS, h58⟩ := hF
 replace h0_0 := Sl.mono RApiTrain.mono hle57 h0_0
 replace h0_1 := Sl.mono (RL.mono RI.mono) hle57 h0_1
 obtain ⟨q59, hq60, hr⟩ := bindS hr
 have hc_ := Guidecheck_ok hS (TabS.mono hle57 hTab) h0_0 h0_1 h58 hq60
 refine WL.fnq hE (hc_) (runs_plain rfl) bd46 rfl rfl rfl ?_
 clear hE hS hc_; rintro e w ⟨rfl, hS⟩; refine ⟨_, rfl, ?_⟩; clear a; intro a hE
 refine vp hS hE rfl rfl fun a hE => WL.nil ?_
 refine W.seq (W.region (v2 hS hE rfl rfl rfl rfl fun a hE => WL.nil ?_))
 refine W.cond hE rfl (fun hc61 => ?_) (fun hc61 => ?_)
 ·replace hr := iteT hc61 hr
  refine W.seq (W.region (vP hS hE (Gives.build hE (vs := []) [.slice none 0 0] rfl (by kernel_rfl)) rfl fun a hE => ?_))
  refine vp hS hE rfl rfl fun a hE => ?_
  refine WL.storeI hE hS 0 rfl [.slice none 0 0] (runs_plain rfl) rfl rfl rfl ty28 rfl rfl rfl rfl ?_; clear hE hS a w; intro a w hE hS
  refine vp hS hE rfl rfl fun a hE => WL.nil ?_
  refine W.ret ?_
  refine finG (fn := Tryd.f10) (rs := [.cell 10 28, .tmp 11]) (vs := [_, _]) hE rfl ⟨⟨_, rfl, .inl ⟨_, rfl, hS.seesAt 0 rfl, ty28⟩⟩, rfl, trivial⟩ ?_
  obtain rfl := Option.some.inj hr
  replace hS := hS.tail
  replace hS := hS.tail
  exact ⟨_, s56, rfl, hle57, ⟨_, _, rfl, Sl.nil⟩, hS⟩
 replace hr := iteF hc61 hr
 refine W.skip ?_
 refine W.seq (W.region (vP hS hE (Gives.loadBA hE 1 rfl rfl ty25) rfl fun a hE => ?_))
 refine vp hS hE rfl rfl fun a hE => ?_
 refine vP hS hE (Gives.build hE (vs := [(0, .agg [.slice a0_0 x0.Trains.length c0_0, .slice a0_1 x0.Turns.length c0_1].toArray), (1, vi x4)]) [.slice a0_0 x0.Trains.length c0_0, .slice a0_1 x0.Turns.length c0_1, vi x4] rfl (by kernel_rfl)) rfl fun a hE => ?_
 refine v2 hS hE rfl rfl rfl rfl fun a hE => ?_
 refine vp hS hE rfl rfl fun a hE => ?_
 obtain ⟨q62, hq63, hr⟩ := bindS hr
 have hc_ := GuideNetearliest_ok hS h0_0 h0_1 hq63
 refine WL.fnq hE (hc_) (runs_plain rfl) bd47 rfl rfl rfl ?_
 clear hE hS hc_; rintro e w ⟨cs64, s66, rfl, hle67, h65, hS⟩; refine ⟨_, rfl, ?_⟩; clear a; intro a hE
 replace h0_0 := Sl.mono RApiTrain.mono hle67 h0_0
 replace h0_1 := Sl.mono (RL.mono RI.mono) hle67 h0_1
 replace h58 := Sl.mono RI.mono hle67 h58
 obtain ⟨a68, c69, rfl, h70⟩ := h65
 refine v2 hS hE rfl rfl rfl rfl fun a hE => ?_
 refine vp hS hE rfl rfl fun a hE => ?_
 refine WL.alloc hE hS (runs_plain rfl) zr28 rfl ?_; clear hE hS a w; intro b71 a w hE hS
 refine WL.storeI hE hS 0 rfl [.slice a68 q62.1.Rides.length c69] (runs_plain rfl) rfl rfl rfl ty28 rfl rfl rfl rfl ?_; clear hE hS a w; intro a w hE hS
 refine vp hS hE rfl rfl fun a hE => WL.nil ?_
 refine W.seq ?_
 refine W.seq (W.region (v2 hS hE rfl rfl rfl rfl fun a hE => WL.nil ?_))
 refine W.cond hE rfl (fun hc72 => ?_) (fun hc72 => ?_)
 ·replace hr := iteT hc72 hr
  refine W.seq (W.region (vP hS hE (Gives.build hE (vs := []) [.slice none 0 0] rfl (by kernel_rfl)) rfl fun a hE => ?_))
  refine WL.storeI hE hS 1 rfl [.slice none 0 0] (runs_plain rfl) rfl rfl rfl ty28 rfl rfl rfl rfl ?_; clear hE hS a w; intro a w hE hS
  refine vp hS hE rfl rfl fun a hE => WL.nil ?_
  refine W.ret ?_
  refine finG (fn := Tryd.f10) (rs := [.cell 10 28, .tmp 11]) (vs := [_, _]) hE rfl ⟨⟨_, rfl, .inl ⟨_, rfl, hS.seesAt 1 rfl, ty28⟩⟩, rfl, trivial⟩ ?_
  obtain rfl := Option.some.inj hr
  replace hS := hS.tail
  replace hS := hS.tail
  replace hS := hS.tail
  exact ⟨_, s66, rfl, (Sg.Le.trans hle57 hle67), ⟨_, _, rfl, Sl.nil⟩, hS⟩
 replace hr := iteF hc72 hr
 refine W.skip ?_
 refine W.seq (W.region (vP hS hE (Gives.loadBA hE 0 rfl rfl ty28) rfl fun a hE => ?_))
 refine WL.storeI hE hS 1 rfl [.slice a68 q62.1.Rides.length c69] (runs_plain rfl) rfl rfl rfl ty28 rfl rfl rfl rfl ?_; clear hE hS a w; intro a w hE hS
 refine vp hS hE rfl rfl fun a hE => WL.nil ?_
 refine W.ret ?_
 refine finG (fn := Tryd.f10) (rs := [.cell 10 28, .tmp 11]) (vs := [_, _]) hE rfl ⟨⟨_, rfl, .inl ⟨_, rfl, hS.seesAt 1 rfl, ty28⟩⟩, rfl, trivial⟩ ?_
 obtain rfl := Option.some.inj hr
 replace hS := hS.tail
 replace hS := hS.tail
 replace hS := hS.tail
 exact ⟨_, s66, rfl, (Sg.Le.trans hle57 hle67), ⟨_, _, rfl, h70⟩, hS⟩
set_option maxHeartbeats 8000000 in
theorem SlicesEqualLguideRide_ok  {w : World} {s : Sg} {R : List HP} {x0 : List GuideRide} {a0 : Option Addr} {c0 : Nat} {x1 : List GuideRide} {a1 : Option Addr} {c1 : Nat} (hS : St w s (R)) (h0 : Sl 3 RGuideRide s a0 c0 x0) (h1 : Sl 3 RGuideRide s a1 c1 x1) {r : Bool} (hr : SlicesEqualLguideRide x0 x1 = some r) :
  Calls Tryd.prog 59 [.slice a0 x0.length c0, .slice a1 x1.length c1].toArray w (fun e w => e = .returned (.bool r) ∧ St w s (R)) := by
 refine enter Tryd.func59 rfl rfl rfl fun a hE => ?_
 rw [SlicesEqualLguideRide] at hr
 refine W.seq (W.region (vp hS hE rfl rfl fun a hE => WL.nil ?_))
 refine W.seq ?_
 refine W.seq (W.region (vp hS hE rfl rfl fun a hE => ?_))
 refine vP hS hE (Gives.len hE rfl sl26) rfl fun a hE => ?_
 refine vp hS hE rfl rfl fun a hE => ?_
 refine vP hS hE (Gives.len hE rfl sl26) rfl fun a hE => ?_
 refine vp hS hE rfl rfl fun a hE => WL.nil ?_
 refine W.cond hE rfl (fun hc51 => ?_) (fun hc51 => ?_)
 ·replace hr := iteT hc51 hr
  refine W.seq (W.region (vp hS hE rfl rfl fun a hE => WL.nil ?_))
  refine W.ret ?_
  refine finG (fn := Tryd.f59) (rs := [.tmp 4]) (vs := [_]) hE rfl ⟨rfl, trivial⟩ ?_
  obtain rfl := Option.some.inj hr
  exact ⟨rfl, hS⟩
 replace hr := iteF hc51 hr
 refine W.skip ?_
 refine W.seq ?_
 refine W.seq (W.region (vp hS hE rfl rfl fun a hE => ?_))
 refine vP hS hE (Gives.len hE rfl sl26) rfl fun a hE => ?_
 refine vp hS hE rfl rfl fun a hE => WL.nil ?_
 obtain ⟨q53, hq52, hr⟩ := bindS hr
 refine W.cut (fun a w => (.next ()) = q53 ∧ Rep a 26 [] ∧ St w s (R)) ?_ ?_
 ·refine W.block ?_
  refine W.loop (fun m a w => ∃ (rest56 : List GuideRide) (k54 : Nat), rest56.length = m ∧ x0.drop k54 = rest56 ∧ SlicesEqualLguideRide.loop1 x1 rest56 k54 = some q53 ∧ Rep a 26 [(0, .slice a0 x0.length c0), (1, .slice a1 x1.length c1), (12, vi ((x0).length : Int)), (13, vi ((k54 : Nat) : Int))] ∧ St w s (R)) (m := x0.length) ⟨x0, 0, rfl, rfl, hq52, hE.pick _ ⟨rfl, rfl, rfl, rfl, trivial⟩, hS⟩ ?_
  clear hE hS a w hq52; rintro m60 a w ⟨rest56, k54, rfl, hd57, hq52, hE, hS⟩
  refine W.gen fun K63 hK63 => ?_
  rcases rest56 with _ | ⟨x55, rest56⟩
  ·have hlt58 := drop_nil hd57
   refine W.seq (W.region (vp hS hE rfl rfl fun a hE => WL.nil ?_))
   refine W.seq ?_
   refine W.condF hE rfl (decide_eq_false (by omega)) ?_
   subst hK63
   refine W.exit rfl ?_
   exact ⟨Option.some.inj hq52, hE.pick _ trivial, hS⟩
  obtain ⟨hlt58, hx59, hd57⟩ := drop_cons hd57
  rw [SlicesEqualLguideRide.loop1] at hq52
  refine W.seq (W.region (vp hS hE rfl rfl fun a hE => WL.nil ?_))
  refine W.seq ?_
  refine W.condT hE rfl (decide_eq_true (by omega)) ?_
  refine W.skip ?_
  refine W.seq ?_
  refine W.block ?_
  refine W.seq (W.region (v2 hS hE rfl rfl rfl rfl fun a hE => WL.nil ?_))
  refine W.seq ?_
  refine W.regionQ (C := fun w => St w s (R)) mixed (by kernel_rfl) hS.drew ?_
  refine qP hE (Gives.p hE rfl) rfl fun a hE => ?_
  refine qP hE (Gives.p hE rfl) rfl fun a hE => ?_
  obtain ⟨cs64, hl65, hR66, hat67⟩ := h0.at hx59
  subst hR66
  refine qP hE (Gives.idx hE k54 rfl rfl sl26 rfl hlt58 (h0.aok hlt58)) rfl fun a hE => ?_
  refine qP hE (Gives.loadA hE rfl (fun w h => hat67 w _ h) ty47) rfl fun a hE => ?_
  refine qP hE (Gives.p hE rfl) rfl fun a hE => ?_
  refine qP hE (Gives.p hE rfl) rfl fun a hE => ?_
  obtain ⟨x68, hx69, hq52⟩ := bindS hq52
  obtain ⟨hi70, hlt71, hy72⟩ := gx_some hx69
  obtain ⟨cs73, hl74, hR75, hat76⟩ := h1.at hy72
  subst hR75
  refine qP hE (Gives.idx hE (((k54 : Nat) : Int)).toNat rfl rfl sl26 hi70 hlt71 (h1.aok hlt71)) rfl fun a hE => ?_
  refine qP hE (Gives.loadA hE rfl (fun w h => hat76 w _ h) ty47) rfl fun a hE => ?_
  refine qP hE (show Gives _ _ _ _ (Value.bool (!((x55.Train == x68.Train) && ((x55.On == x68.On) && (x55.Off == x68.Off))))) from Gives.neS hE [.i .i64, .i .i64, .i .i64] [.i .i64 x55.Train, .i .i64 x55.On, .i .i64 x55.Off] [.i .i64 x68.Train, .i .i64 x68.On, .i .i64 x68.Off] rfl rfl se47 rfl rfl rfl rfl) rfl fun a hE => ?_
  refine QL.nil ?_; clear hS w; intro w hS
  refine W.cond hE rfl (fun hc77 => ?_) (fun hc77 => ?_)
  ·replace hq52 := iteT hc77 hq52
   refine W.seq (W.region (vp hS hE rfl rfl fun a hE => WL.nil ?_))
   refine W.ret ?_
   subst hK63
   rw [← Option.some.inj hq52] at hr
   dsimp only at hr
   refine finG (fn := Tryd.f59) (rs := [.tmp 4]) (vs := [_]) hE rfl ⟨rfl, trivial⟩ ?_
   obtain rfl := Option.some.inj hr
   exact ⟨rfl, hS⟩
  replace hq52 := iteF hc77 hq52
  refine W.skip ?_
  refine W.region ?_
  refine vP hS hE (Gives.inc hE rfl (by have := h0.small; omega)) rfl fun a hE => ?_
  refine vp hS hE rfl rfl fun a hE => WL.nil ?_
  subst hK63
  exact ⟨rest56.length, Nat.lt_succ_self _, rest56, k54 + 1, rfl, hd57, hq52, hE.pick _ ⟨rfl, rfl, rfl, rfl, trivial⟩, hS⟩
 clear hE hS a w; rintro a w ⟨rfl, hE, hS⟩
 dsimp only at hr
 refine W.seq (W.region (vp hS hE rfl rfl fun a hE => WL.nil ?_))
 refine W.ret ?_
 refine finG (fn := Tryd.f59) (rs := [.tmp 4]) (vs := [_]) hE rfl ⟨rfl, trivial⟩ ?_
 obtain rfl := Option.some.inj hr
 exact ⟨rfl, hS⟩
set_option maxHeartbeats 8000000 in
theorem Fishlaw2guides_ok {fu : Nat}  {w : World} {s : Sg} {R : List HP}  (hS : St w s (R)) (hTab : TabS Tryd.prog s) {r : Bool} (hr : Fishlaw2guides fu = some r) :
  Calls Tryd.prog 13 [].toArray w (fun e w => e = .returned (.bool r) ∧ St w s (R)) := by
 refine enter Tryd.func13 rfl rfl rfl fun a hE => ?_
 rw [Fishlaw2guides] at hr
 refine W.seq (W.region (vp hS hE rfl rfl fun a hE => WL.nil ?_))
 refine W.seq (W.region ?_)
 obtain ⟨q51, hq52, hr⟩ := bndS hr
 have hc_ := Fishlaw2small_ok hS  hq52
 refine WL.fnq hE (hc_) (runs_plain rfl) bd58 rfl rfl rfl ?_
 clear hE hS hc_; rintro e w ⟨cs53, s55, rfl, hle56, h54, hS⟩; refine ⟨_, rfl, ?_⟩; clear a; intro a hE
 obtain ⟨a57, c58, a60, c61, rfl, h59, h62⟩ := h54
 obtain ⟨q63, hq64, hr⟩ := bindS hr
 have hc_ := GuideEarliest_ok hS (TabS.mono hle56 hTab) h59 h62 hq64
 refine WL.fnq hE (hc_) (runs_plain rfl) bd10 rfl rfl rfl ?_
 clear hE hS hc_; rintro e w ⟨cs65, s67, rfl, hle68, h66, hS⟩; refine ⟨_, rfl, ?_⟩; clear a; intro a hE
 replace h59 := Sl.mono RApiTrain.mono hle68 h59
 replace h62 := Sl.mono (RL.mono RI.mono) hle68 h62
 obtain ⟨a69, c70, rfl, h71⟩ := h66
 refine v2 hS hE rfl rfl rfl rfl fun a hE => ?_
 refine vp hS hE rfl rfl fun a hE => ?_
 refine WL.alloc hE hS (runs_plain rfl) zr28 rfl ?_; clear hE hS a w; intro b72 a w hE hS
 refine WL.storeI hE hS 0 rfl [.slice a69 q63.1.Rides.length c70] (runs_plain rfl) rfl rfl rfl ty28 rfl rfl rfl rfl ?_; clear hE hS a w; intro a w hE hS
 refine vp hS hE rfl rfl fun a hE => WL.nil ?_
 refine W.seq ?_
 obtain ⟨q74, hq73, hr⟩ := bindS hr
 refine W.cut (fun a w => ∃ (q77 : Bool), ∃ (s75 : Sg), s67.Le s75 ∧ q77 = q74 ∧ Rep a 18 [(0, .bool q77)] ∧ St w s75 (pc b72 #[.slice a69 q63.1.Rides.length c70] 28 :: R)) ?_ ?_
 ·refine W.gen fun K78 hK78 => ?_
  refine W.region ?_
  refine v2 hS hE rfl rfl rfl rfl fun a hE => ?_
  refine vp hS hE rfl rfl fun a hE => ?_
  rcases Bool.eq_false_or_eq_true (q63.2 == 0) with hg79 | hg79
  ·replace hq73 := iteT hg79 hq73
   refine WL.vS hS hE (runs_if hE rfl rfl rfl hg79) (Gives.fld hE rfl fl28_0) rfl fun a hE => ?_
   refine WL.vS hS hE (runs_if hE rfl rfl rfl hg79) (Gives.loadB hE 0 rfl rfl rfl ty26) rfl fun a hE => ?_
   refine WL.vS hS hE (runs_if hE rfl rfl rfl hg79) (Gives.build hE (vs := [(0, vi 0), (1, vi 0), (2, vi 1)]) [vi 0, vi 0, vi 1] rfl (by kernel_rfl)) rfl fun a hE => ?_
   refine WL.vS hS hE (runs_if hE rfl rfl rfl hg79) (Gives.build hE (vs := [(0, vi 1), (1, vi 0), (2, vi 1)]) [vi 1, vi 0, vi 1] rfl (by kernel_rfl)) rfl fun a hE => ?_
   refine WL.lit hE hS (e := 47) (es := 3) (vs := [(0, .agg [vi 0, vi 0, vi 1].toArray), (1, .agg [vi 1, vi 0, vi 1].toArray)]) (cs := [vi 0, vi 0, vi 1, vi 1, vi 0, vi 1]) (runs_if hE rfl rfl rfl hg79) rfl (by kernel_rfl) rfl ?_; clear hE hS a w; intro b80 a w hE hS
   replace hS := hS.ptVec (es := 3) (m := 2) rfl (by decide)
   have h82 : Ev 3 RGuideRide s67 [vi 0, vi 0, vi 1, vi 1, vi 0, vi 1] [(GuideRide.mk 0 0 1), (GuideRide.mk 1 0 1)] := (Ev.cons (c1 := [vi 0, vi 0, vi 1]) rfl rfl (Ev.cons (c1 := [vi 1, vi 0, vi 1]) rfl rfl (Ev.nil)))
   have hF := hS.fixD RGuideRide.mono 0 rfl h82 (rfl); clear hS; obtain ⟨s83, hle84, hS, h85⟩ := hF
   replace h59 := Sl.mono RApiTrain.mono hle84 h59
   replace h62 := Sl.mono (RL.mono RI.mono) hle84 h62
   replace h71 := Sl.mono RGuideRide.mono hle84 h71
   obtain ⟨q86, hq87, hq73⟩ := bindS hq73
   have hc_ := SlicesEqualLguideRide_ok hS h71 h85 hq87
   refine WL.fnq hE (hc_) (runs_if hE rfl rfl rfl hg79) bd59 rfl rfl rfl ?_
   clear hE hS hc_; rintro e w ⟨rfl, hS⟩; refine ⟨_, rfl, ?_⟩; clear a; intro a hE
   refine vP hS hE (Gives.pickT hE rfl hg79 rfl) rfl fun a hE => ?_
   refine vp hS hE rfl rfl fun a hE => WL.nil ?_
   subst hK78
   exact ⟨q86, s83, hle84, Option.some.inj hq73, hE.pick _ ⟨rfl, trivial⟩, hS⟩
  replace hq73 := iteF hg79 hq73
  refine nO hE rfl rfl rfl (by rw [hg79]; decide) rfl fun a hE => ?_
  refine nO hE rfl rfl rfl (by rw [hg79]; decide) rfl fun a hE => ?_
  refine nO hE rfl rfl rfl (by rw [hg79]; decide) rfl fun a hE => ?_
  refine nO hE rfl rfl rfl (by rw [hg79]; decide) rfl fun a hE => ?_
  refine nO hE rfl rfl rfl (by rw [hg79]; decide) rfl fun a hE => ?_
  refine nO hE rfl rfl rfl (by rw [hg79]; decide) rfl fun a hE => ?_
  refine vP hS hE (Gives.pickF hE rfl hg79 rfl) rfl fun a hE => ?_
  refine vp hS hE rfl rfl fun a hE => WL.nil ?_
  subst hK78
  exact ⟨false, s67, (Sg.Le.refl _), Option.some.inj hq73, hE.pick _ ⟨rfl, trivial⟩, hS⟩
 clear hE hS a w; rintro a w ⟨q77, s75, hle76, rfl, hE, hS⟩
 replace h71 := Sl.mono RGuideRide.mono hle76 h71
 refine W.ret ?_
 refine finG (fn := Tryd.f13) (rs := [.tmp 0]) (vs := [_]) hE rfl ⟨rfl, trivial⟩ ?_
 obtain rfl := Option.some.inj hr
 replace hS := hS.tail
 exact ⟨rfl, (hS.down (Sg.Le.trans (Sg.Le.trans hle56 hle68) hle76))⟩
set_option maxHeartbeats 8000000 in
theorem Fishref2JourneyFault_ok  {w : World} {s : Sg} {R : List HP} {x0 : ApiDay} {a0_0 : Option Addr} {c0_0 : Nat} {a0_1 : Option Addr} {c0_1 : Nat} {x1 : GuideJourney} {a1_0 : Option Addr} {c1_0 : Nat} {x2 : Int} {x3 : Bool} (hS : St w s (R)) (h0_0 : Sl 4 RApiTrain s a0_0 c0_0 x0.Trains) (_h0_1 : Sl 1 (RL 1 (RI .i64)) s a0_1 c0_1 x0.Turns) (h1_0 : Sl 3 RGuideRide s a1_0 c1_0 x1.Rides) {r : Int} (hr : Fishref2JourneyFault x0 x1 x2 x3 = some r) :
  Calls Tryd.prog 18 [.agg [.slice a0_0 x0.Trains.length c0_0, .slice a0_1 x0.Turns.length c0_1].toArray, .agg [.slice a1_0 x1.Rides.length c1_0].toArray, vi x2, .bool x3].toArray w (fun e w => e = .returned (vi r) ∧ St w s (R)) := by
 refine enter Tryd.func18 rfl rfl rfl fun a hE => ?_
 rw [Fishref2JourneyFault] at hr
 refine W.seq (W.region ?_)
 refine WL.box hE hS (runs_plain rfl) rfl rfl rfl ?_; clear hE hS a w; intro b51 a w hE hS
 refine WL.box hE hS (runs_plain rfl) rfl rfl rfl ?_; clear hE hS a w; intro b52 a w hE hS
 refine vp hS hE rfl rfl fun a hE => WL.nil ?_
 refine W.seq ?_
 refine W.seq (W.region (vp hS hE rfl rfl fun a hE => ?_))
 refine WL.fnq hE (Fishref2within_ok hS  rfl (r := Fishref2within x2 0 28800)) (runs_plain rfl) bd57 rfl rfl rfl ?_
 clear hE hS; rintro e w ⟨rfl, hS⟩; refine ⟨_, rfl, ?_⟩; clear a; intro a hE
 refine vp hS hE rfl rfl fun a hE => WL.nil ?_
 refine W.cond hE rfl (fun hc53 => ?_) (fun hc53 => ?_)
 ·replace hr := iteT hc53 hr
  refine W.seq (W.region (vp hS hE rfl rfl fun a hE => WL.nil ?_))
  refine W.ret ?_
  refine finG (fn := Tryd.f18) (rs := [.tmp 8]) (vs := [_]) hE rfl ⟨rfl, trivial⟩ ?_
  obtain rfl := Option.some.inj hr
  replace hS := hS.tail
  replace hS := hS.tail
  exact ⟨rfl, hS⟩
 replace hr := iteF hc53 hr
 refine W.skip ?_
 refine W.seq ?_
 refine W.seq (W.region (vP hS hE (Gives.fld hE rfl fl28_0) rfl fun a hE => ?_))
 refine vP hS hE (Gives.loadB hE 0 rfl rfl rfl ty26) rfl fun a hE => ?_
 refine vP hS hE (Gives.len hE rfl sl26) rfl fun a hE => ?_
 refine WL.fnq hE (Fishref2within_ok hS  rfl (r := Fishref2within ((x1.Rides).length : Int) 1 4)) (runs_plain rfl) bd57 rfl rfl rfl ?_
 clear hE hS; rintro e w ⟨rfl, hS⟩; refine ⟨_, rfl, ?_⟩; clear a; intro a hE
 refine vp hS hE rfl rfl fun a hE => WL.nil ?_
 refine W.cond hE rfl (fun hc54 => ?_) (fun hc54 => ?_)
 ·replace hr := iteT hc54 hr
  refine W.seq (W.region (vp hS hE rfl rfl fun a hE => WL.nil ?_))
  refine W.ret ?_
  refine finG (fn := Tryd.f18) (rs := [.tmp 8]) (vs := [_]) hE rfl ⟨rfl, trivial⟩ ?_
  obtain rfl := Option.some.inj hr
  replace hS := hS.tail
  replace hS := hS.tail
  exact ⟨rfl, hS⟩
 replace hr := iteF hc54 hr
 refine W.skip ?_
 refine W.seq ?_
 refine W.seq (W.region (vP hS hE (Gives.fld hE rfl fl28_0) rfl fun a hE => ?_))
 refine vP hS hE (Gives.loadB hE 0 rfl rfl rfl ty26) rfl fun a hE => ?_
 refine vP hS hE (Gives.len hE rfl sl26) rfl fun a hE => ?_
 refine vp hS hE rfl rfl fun a hE => WL.nil ?_
 obtain ⟨q56, hq55, hr⟩ := bindS hr
 refine W.cut (fun a w => (.next ()) = q56 ∧ Rep a 125 [] ∧ St w s (pc b52 #[.slice a1_0 x1.Rides.length c1_0] 28 :: pc b51 #[.slice a0_0 x0.Trains.length c0_0, .slice a0_1 x0.Turns.length c0_1] 25 :: R)) ?_ ?_
 ·refine W.block ?_
  refine W.loop (fun m a w => ∃ (rest59 : List GuideRide) (k57 : Nat), rest59.length = m ∧ x1.Rides.drop k57 = rest59 ∧ Fishref2JourneyFault.loop1 x0 x1 x2 x3 rest59 k57 = some q56 ∧ Rep a 125 [(2, vi x2), (3, .bool x3), (4, pp b51), (5, pp b52), (23, .slice a1_0 x1.Rides.length c1_0), (24, vi ((x1.Rides).length : Int)), (25, vi ((k57 : Nat) : Int))] ∧ St w s (pc b52 #[.slice a1_0 x1.Rides.length c1_0] 28 :: pc b51 #[.slice a0_0 x0.Trains.length c0_0, .slice a0_1 x0.Turns.length c0_1] 25 :: R)) (m := x1.Rides.length) ⟨x1.Rides, 0, rfl, rfl, hq55, hE.pick _ ⟨rfl, rfl, rfl, rfl, rfl, rfl, rfl, trivial⟩, hS⟩ ?_
  clear hE hS a w hq55; rintro m63 a w ⟨rest59, k57, rfl, hd60, hq55, hE, hS⟩
  refine W.gen fun K66 hK66 => ?_
  rcases rest59 with _ | ⟨x58, rest59⟩
  ·have hlt61 := drop_nil hd60
   refine W.seq (W.region (vp hS hE rfl rfl fun a hE => WL.nil ?_))
   refine W.seq ?_
   refine W.condF hE rfl (decide_eq_false (by omega)) ?_
   subst hK66
   refine W.exit rfl ?_
   exact ⟨Option.some.inj hq55, hE.pick _ trivial, hS⟩
  obtain ⟨hlt61, hx62, hd60⟩ := drop_cons hd60
  rw [Fishref2JourneyFault.loop1] at hq55
  refine W.seq (W.region (vp hS hE rfl rfl fun a hE => WL.nil ?_))
  refine W.seq ?_
  refine W.condT hE rfl (decide_eq_true (by omega)) ?_
  refine W.skip ?_
  refine W.seq ?_
  refine W.block ?_
  refine W.seq (W.region (vp hS hE rfl rfl fun a hE => ?_))
  obtain ⟨cs67, hl68, hR69, hat70⟩ := h1_0.at hx62
  subst hR69
  refine vP hS hE (Gives.idx hE k57 rfl rfl sl26 rfl hlt61 (h1_0.aok hlt61)) rfl fun a hE => ?_
  refine vP hS hE (Gives.loadA hE rfl (fun w h => hat70 w _ h) ty47) rfl fun a hE => ?_
  refine WL.alloc hE hS (runs_plain rfl) zr47 rfl ?_; clear hE hS a w; intro b71 a w hE hS
  refine vp hS hE rfl rfl fun a hE => ?_
  refine WL.storeI hE hS 0 rfl (GuideRide.cells x58) (runs_plain rfl) rfl rfl rfl ty47 rfl rfl rfl rfl ?_; clear hE hS a w; intro a w hE hS
  refine WL.nil ?_
  refine W.seq ?_
  refine W.seq ?_
  obtain ⟨q73, hq72, hq55⟩ := bndS hq55
  refine W.cut (fun a w => ∃ (q76 : Bool), q76 = q73 ∧ Rep a 125 [(2, vi x2), (3, .bool x3), (4, pp b51), (5, pp b52), (9, vi ((k57 : Nat) : Int)), (10, pp b71), (23, .slice a1_0 x1.Rides.length c1_0), (24, vi ((x1.Rides).length : Int)), (25, vi ((k57 : Nat) : Int)), (40, .bool q76)] ∧ St w s (pc b71 (GuideRide.cells x58).toArray 47 :: pc b52 #[.slice a1_0 x1.Rides.length c1_0] 28 :: pc b51 #[.slice a0_0 x0.Trains.length c0_0, .slice a0_1 x0.Turns.length c0_1] 25 :: R)) ?_ ?_
  ·refine W.gen fun K77 hK77 => ?_
   refine W.region ?_
   refine vP hS hE (Gives.fld hE rfl fl47_0) rfl fun a hE => ?_
   refine vP hS hE (Gives.loadB hE 0 rfl rfl rfl ty3) rfl fun a hE => ?_
   refine v2 hS hE rfl rfl rfl rfl fun a hE => ?_
   rcases Bool.eq_false_or_eq_true (decide (x58.Train < 0)) with hg78 | hg78
   ·replace hq72 := iteT hg78 hq72
    refine nO hE rfl rfl rfl (by rw [hg78]; decide) rfl fun a hE => ?_
    refine nO hE rfl rfl rfl (by rw [hg78]; decide) rfl fun a hE => ?_
    refine nO hE rfl rfl rfl (by rw [hg78]; decide) rfl fun a hE => ?_
    refine nO hE rfl rfl rfl (by rw [hg78]; decide) rfl fun a hE => ?_
    refine nO hE rfl rfl rfl (by rw [hg78]; decide) rfl fun a hE => ?_
    refine nO hE rfl rfl rfl (by rw [hg78]; decide) rfl fun a hE => ?_
    refine vP hS hE (Gives.pickT hE rfl hg78 rfl) rfl fun a hE => WL.nil ?_
    subst hK77
    exact ⟨true, hq72, hE.pick _ ⟨rfl, rfl, rfl, rfl, rfl, rfl, rfl, rfl, rfl, rfl, trivial⟩, hS⟩
   replace hq72 := iteF hg78 hq72
   refine WL.vS hS hE (runs_if hE rfl rfl rfl hg78) (Gives.fld hE rfl fl47_0) rfl fun a hE => ?_
   refine WL.vS hS hE (runs_if hE rfl rfl rfl hg78) (Gives.loadB hE 0 rfl rfl rfl ty3) rfl fun a hE => ?_
   refine WL.vS hS hE (runs_if hE rfl rfl rfl hg78) (Gives.fld hE rfl fl25_0) rfl fun a hE => ?_
   refine WL.vS hS hE (runs_if hE rfl rfl rfl hg78) (Gives.loadB hE 2 rfl rfl rfl ty22) rfl fun a hE => ?_
   refine WL.vS hS hE (runs_if hE rfl rfl rfl hg78) (Gives.len hE rfl sl22) rfl fun a hE => ?_
   refine WL.vS hS hE (runs_if hE rfl rfl rfl hg78) (Gives.p hE rfl) rfl fun a hE => ?_
   refine vP hS hE (Gives.pickF hE rfl hg78 rfl) rfl fun a hE => WL.nil ?_
   subst hK77
   exact ⟨decide (x58.Train ≥ ((x0.Trains).length : Int)), hq72, hE.pick _ ⟨rfl, rfl, rfl, rfl, rfl, rfl, rfl, rfl, rfl, rfl, trivial⟩, hS⟩
  clear hE hS a w; rintro a w ⟨q76, rfl, hE, hS⟩
  refine W.cond hE rfl (fun hc79 => ?_) (fun hc79 => ?_)
  ·replace hq55 := iteT hc79 hq55
   refine W.seq (W.region (vp hS hE rfl rfl fun a hE => WL.nil ?_))
   refine W.ret ?_
   subst hK66
   rw [← Option.some.inj hq55] at hr
   dsimp only at hr
   refine finG (fn := Tryd.f18) (rs := [.tmp 8]) (vs := [_]) hE rfl ⟨rfl, trivial⟩ ?_
   obtain rfl := Option.some.inj hr
   replace hS := hS.tail
   replace hS := hS.tail
   replace hS := hS.tail
   exact ⟨rfl, hS⟩
  replace hq55 := iteF hc79 hq55
  refine W.skip ?_
  refine W.seq (W.region (vP hS hE (Gives.fld hE rfl fl25_0) rfl fun a hE => ?_))
  refine vP hS hE (Gives.loadB hE 2 rfl rfl rfl ty22) rfl fun a hE => ?_
  refine vP hS hE (Gives.fld hE rfl fl47_0) rfl fun a hE => ?_
  refine vP hS hE (Gives.loadB hE 0 rfl rfl rfl ty3) rfl fun a hE => ?_
  obtain ⟨x80, hx81, hq55⟩ := bindS hq55
  obtain ⟨hi82, hlt83, hy84⟩ := gx_some hx81
  obtain ⟨cs85, hl86, hR87, hat88⟩ := h0_0.at hy84
  obtain ⟨a89, c90, a92, c93, rfl, h91, h94⟩ := hR87
  refine vP hS hE (Gives.idx hE (x58.Train).toNat rfl rfl sl22 hi82 hlt83 (h0_0.aok hlt83)) rfl fun a hE => ?_
  refine vP hS hE (Gives.fld hE rfl fl44_2) rfl fun a hE => ?_
  refine vP hS hE (Gives.load1 hE rfl (fun w h => (hat88 w _ h).one rfl) ty42) rfl fun a hE => ?_
  refine vp hS hE rfl rfl fun a hE => WL.nil ?_
  refine W.seq ?_
  refine W.seq ?_
  obtain ⟨q96, hq95, hq55⟩ := bndS hq55
  refine W.cut (fun a w => ∃ (q99 : Bool), q99 = q96 ∧ Rep a 125 [(2, vi x2), (3, .bool x3), (4, pp b51), (5, pp b52), (9, vi ((k57 : Nat) : Int)), (10, pp b71), (11, .slice a89 x80.Stops.length c90), (23, .slice a1_0 x1.Rides.length c1_0), (24, vi ((x1.Rides).length : Int)), (25, vi ((k57 : Nat) : Int)), (69, .bool q99)] ∧ St w s (pc b71 (GuideRide.cells x58).toArray 47 :: pc b52 #[.slice a1_0 x1.Rides.length c1_0] 28 :: pc b51 #[.slice a0_0 x0.Trains.length c0_0, .slice a0_1 x0.Turns.length c0_1] 25 :: R)) ?_ ?_
  ·refine W.gen fun K100 hK100 => ?_
   refine W.region ?_
   refine vP hS hE (Gives.fld hE rfl fl47_1) rfl fun a hE => ?_
   refine vP hS hE (Gives.loadB hE 0 rfl rfl rfl ty3) rfl fun a hE => ?_
   refine v2 hS hE rfl rfl rfl rfl fun a hE => ?_
   rcases Bool.eq_false_or_eq_true (decide (x58.On < 0)) with hg101 | hg101
   ·replace hq95 := iteT hg101 hq95
    refine nO hE rfl rfl rfl (by rw [hg101]; decide) rfl fun a hE => ?_
    refine nO hE rfl rfl rfl (by rw [hg101]; decide) rfl fun a hE => ?_
    refine nO hE rfl rfl rfl (by rw [hg101]; decide) rfl fun a hE => ?_
    refine nO hE rfl rfl rfl (by rw [hg101]; decide) rfl fun a hE => ?_
    refine nO hE rfl rfl rfl (by rw [hg101]; decide) rfl fun a hE => ?_
    refine vP hS hE (Gives.pickT hE rfl hg101 rfl) rfl fun a hE => ?_
    refine vp hS hE rfl rfl fun a hE => ?_
    refine nO hE rfl rfl rfl (by decide) rfl fun a hE => ?_
    refine nO hE rfl rfl rfl (by decide) rfl fun a hE => ?_
    refine nO hE rfl rfl rfl (by decide) rfl fun a hE => ?_
    refine vP hS hE (Gives.pickT hE rfl rfl rfl) rfl fun a hE => ?_
    refine vp hS hE rfl rfl fun a hE => ?_
    refine nO hE rfl rfl rfl (by decide) rfl fun a hE => ?_
    refine nO hE rfl rfl rfl (by decide) rfl fun a hE => ?_
    refine nO hE rfl rfl rfl (by decide) rfl fun a hE => ?_
    refine nO hE rfl rfl rfl (by decide) rfl fun a hE => ?_
    refine nO hE rfl rfl rfl (by decide) rfl fun a hE => ?_
    refine vP hS hE (Gives.pickT hE rfl rfl rfl) rfl fun a hE => WL.nil ?_
    subst hK100
    exact ⟨true, hq95, hE.pick _ ⟨rfl, rfl, rfl, rfl, rfl, rfl, rfl, rfl, rfl, rfl, rfl, trivial⟩, hS⟩
   replace hq95 := iteF hg101 hq95
   refine WL.vS hS hE (runs_if hE rfl rfl rfl hg101) (Gives.fld hE rfl fl47_1) rfl fun a hE => ?_
   refine WL.vS hS hE (runs_if hE rfl rfl rfl hg101) (Gives.loadB hE 0 rfl rfl rfl ty3) rfl fun a hE => ?_
   refine WL.vS hS hE (runs_if hE rfl rfl rfl hg101) (Gives.p hE rfl) rfl fun a hE => ?_
   refine WL.vS hS hE (runs_if hE rfl rfl rfl hg101) (Gives.len hE rfl sl42) rfl fun a hE => ?_
   refine WL.vS hS hE (runs_if hE rfl rfl rfl hg101) (Gives.p hE rfl) rfl fun a hE => ?_
   refine vP hS hE (Gives.pickF hE rfl hg101 rfl) rfl fun a hE => ?_
   refine vp hS hE rfl rfl fun a hE => ?_
   rcases Bool.eq_false_or_eq_true (decide (x58.On ≥ ((x80.Stops).length : Int))) with hg102 | hg102
   ·replace hq95 := iteT hg102 hq95
    refine nO hE rfl rfl rfl (by rw [hg102]; decide) rfl fun a hE => ?_
    refine nO hE rfl rfl rfl (by rw [hg102]; decide) rfl fun a hE => ?_
    refine nO hE rfl rfl rfl (by rw [hg102]; decide) rfl fun a hE => ?_
    refine vP hS hE (Gives.pickT hE rfl hg102 rfl) rfl fun a hE => ?_
    refine vp hS hE rfl rfl fun a hE => ?_
    refine nO hE rfl rfl rfl (by decide) rfl fun a hE => ?_
    refine nO hE rfl rfl rfl (by decide) rfl fun a hE => ?_
    refine nO hE rfl rfl rfl (by decide) rfl fun a hE => ?_
    refine nO hE rfl rfl rfl (by decide) rfl fun a hE => ?_
    refine nO hE rfl rfl rfl (by decide) rfl fun a hE => ?_
    refine vP hS hE (Gives.pickT hE rfl rfl rfl) rfl fun a hE => WL.nil ?_
    subst hK100
    exact ⟨true, hq95, hE.pick _ ⟨rfl, rfl, rfl, rfl, rfl, rfl, rfl, rfl, rfl, rfl, rfl, trivial⟩, hS⟩
   replace hq95 := iteF hg102 hq95
   refine WL.vS hS hE (runs_if hE rfl rfl rfl hg102) (Gives.fld hE rfl fl47_2) rfl fun a hE => ?_
   refine WL.vS hS hE (runs_if hE rfl rfl rfl hg102) (Gives.loadB hE 0 rfl rfl rfl ty3) rfl fun a hE => ?_
   refine WL.vS hS hE (runs_if hE rfl rfl rfl hg102) (Gives.p hE rfl) rfl fun a hE => ?_
   refine vP hS hE (Gives.pickF hE rfl hg102 rfl) rfl fun a hE => ?_
   refine vp hS hE rfl rfl fun a hE => ?_
   rcases Bool.eq_false_or_eq_true (decide (x58.Off < 0)) with hg103 | hg103
   ·replace hq95 := iteT hg103 hq95
    refine nO hE rfl rfl rfl (by rw [hg103]; decide) rfl fun a hE => ?_
    refine nO hE rfl rfl rfl (by rw [hg103]; decide) rfl fun a hE => ?_
    refine nO hE rfl rfl rfl (by rw [hg103]; decide) rfl fun a hE => ?_
    refine nO hE rfl rfl rfl (by rw [hg103]; decide) rfl fun a hE => ?_
    refine nO hE rfl rfl rfl (by rw [hg103]; decide) rfl fun a hE => ?_
    refine vP hS hE (Gives.pickT hE rfl hg103 rfl) rfl fun a hE => WL.nil ?_
    subst hK100
    exact ⟨true, hq95, hE.pick _ ⟨rfl, rfl, rfl, rfl, rfl, rfl, rfl, rfl, rfl, rfl, rfl, trivial⟩, hS⟩
   replace hq95 := iteF hg103 hq95
   refine WL.vS hS hE (runs_if hE rfl rfl rfl hg103) (Gives.fld hE rfl fl47_2) rfl fun a hE => ?_
   refine WL.vS hS hE (runs_if hE rfl rfl rfl hg103) (Gives.loadB hE 0 rfl rfl rfl ty3) rfl fun a hE => ?_
   refine WL.vS hS hE (runs_if hE rfl rfl rfl hg103) (Gives.p hE rfl) rfl fun a hE => ?_
   refine WL.vS hS hE (runs_if hE rfl rfl rfl hg103) (Gives.len hE rfl sl42) rfl fun a hE => ?_
   refine WL.vS hS hE (runs_if hE rfl rfl rfl hg103) (Gives.p hE rfl) rfl fun a hE => ?_
   refine vP hS hE (Gives.pickF hE rfl hg103 rfl) rfl fun a hE => WL.nil ?_
   subst hK100
   exact ⟨decide (x58.Off ≥ ((x80.Stops).length : Int)), hq95, hE.pick _ ⟨rfl, rfl, rfl, rfl, rfl, rfl, rfl, rfl, rfl, rfl, rfl, trivial⟩, hS⟩
  clear hE hS a w; rintro a w ⟨q99, rfl, hE, hS⟩
  refine W.cond hE rfl (fun hc104 => ?_) (fun hc104 => ?_)
  ·replace hq55 := iteT hc104 hq55
   refine W.seq (W.region (vp hS hE rfl rfl fun a hE => WL.nil ?_))
   refine W.ret ?_
   subst hK66
   rw [← Option.some.inj hq55] at hr
   dsimp only at hr
   refine finG (fn := Tryd.f18) (rs := [.tmp 8]) (vs := [_]) hE rfl ⟨rfl, trivial⟩ ?_
   obtain rfl := Option.some.inj hr
   replace hS := hS.tail
   replace hS := hS.tail
   replace hS := hS.tail
   exact ⟨rfl, hS⟩
  replace hq55 := iteF hc104 hq55
  refine W.skip ?_
  refine W.seq ?_
  refine W.seq (W.region (vP hS hE (Gives.fld hE rfl fl47_1) rfl fun a hE => ?_))
  refine vP hS hE (Gives.loadB hE 0 rfl rfl rfl ty3) rfl fun a hE => ?_
  refine vP hS hE (Gives.fld hE rfl fl47_2) rfl fun a hE => ?_
  refine vP hS hE (Gives.loadB hE 0 rfl rfl rfl ty3) rfl fun a hE => ?_
  refine vp hS hE rfl rfl fun a hE => WL.nil ?_
  refine W.cond hE rfl (fun hc105 => ?_) (fun hc105 => ?_)
  ·replace hq55 := iteT hc105 hq55
   refine W.seq (W.region (vp hS hE rfl rfl fun a hE => WL.nil ?_))
   refine W.ret ?_
   subst hK66
   rw [← Option.some.inj hq55] at hr
   dsimp only at hr
   refine finG (fn := Tryd.f18) (rs := [.tmp 8]) (vs := [_]) hE rfl ⟨rfl, trivial⟩ ?_
   obtain rfl := Option.some.inj hr
   replace hS := hS.tail
   replace hS := hS.tail
   replace hS := hS.tail
   exact ⟨rfl, hS⟩
  replace hq55 := iteF hc105 hq55
  refine W.skip ?_
  refine W.seq ?_
  refine W.seq (W.region (v2 hS hE rfl rfl rfl rfl fun a hE => WL.nil ?_))
  refine W.cond hE rfl (fun hc106 => ?_) (fun hc106 => ?_)
  ·replace hq55 := iteT hc106 hq55
   refine W.exit rfl ?_
   refine W.region ?_
   refine vP hS hE (Gives.inc hE rfl (by have := h1_0.small; omega)) rfl fun a hE => ?_
   refine vp hS hE rfl rfl fun a hE => WL.nil ?_
   replace hS := hS.tail
   subst hK66
   exact ⟨rest59.length, Nat.lt_succ_self _, rest59, k57 + 1, rfl, hd60, hq55, hE.pick _ ⟨rfl, rfl, rfl, rfl, rfl, rfl, rfl, trivial⟩, hS⟩
  replace hq55 := iteF hc106 hq55
  refine W.skip ?_
  refine W.seq (W.region (vP hS hE (Gives.fld hE rfl fl28_0) rfl fun a hE => ?_))
  refine vP hS hE (Gives.loadB hE 1 rfl rfl rfl ty26) rfl fun a hE => ?_
  refine v2 hS hE rfl rfl rfl rfl fun a hE => ?_
  obtain ⟨x107, hx108, hq55⟩ := bindS hq55
  obtain ⟨hi109, hlt110, hy111⟩ := gx_some hx108
  obtain ⟨cs112, hl113, hR114, hat115⟩ := h1_0.at hy111
  subst hR114
  refine vP hS hE (Gives.idx hE (w64 (((k57 : Nat) : Int) - 1)).toNat rfl rfl sl26 hi109 hlt110 (h1_0.aok hlt110)) rfl fun a hE => ?_
  refine vP hS hE (Gives.loadA hE rfl (fun w h => hat115 w _ h) ty47) rfl fun a hE => ?_
  refine WL.alloc hE hS (runs_plain rfl) zr47 rfl ?_; clear hE hS a w; intro b116 a w hE hS
  refine WL.storeI hE hS 0 rfl (GuideRide.cells x107) (runs_plain rfl) rfl rfl rfl ty47 rfl rfl rfl rfl ?_; clear hE hS a w; intro a w hE hS
  refine WL.nil ?_
  refine W.seq ?_
  refine W.gen fun K117 hK117 => ?_
  refine W.regionE (dup (fun w => St w s (pc b116 (GuideRide.cells x107).toArray 47 :: pc b71 (GuideRide.cells x58).toArray 47 :: pc b52 #[.slice a1_0 x1.Rides.length c1_0] 28 :: pc b51 #[.slice a0_0 x0.Trains.length c0_0, .slice a0_1 x0.Turns.length c0_1] 25 :: R))) (fun b i => cond b ([0, 1, 2, 3, 4, 5, 6, 7, 8, 9, 10, 11, 12].contains i) ([0, 1, 2, 3, 4, 5, 6, 7, 8, 9, 10, 11, 12].contains i)) mixed ?_
  replace hS := hS.drew
  refine tP (i := 0) hE rfl (by kernel_rfl) (Gives.fld hE rfl fl25_0) rfl hS hS fun a hE => ?_
  refine tT (i := 1) true rfl hE rfl (by kernel_rfl) (Gives.loadB hE 3 rfl rfl rfl ty22) rfl hS hS fun a hE => ?_
  refine tP (i := 2) hE rfl (by kernel_rfl) (Gives.fld hE rfl fl47_0) rfl hS hS fun a hE => ?_
  refine tT (i := 3) true rfl hE rfl (by kernel_rfl) (Gives.loadB hE 0 rfl rfl rfl ty3) rfl hS hS fun a hE => ?_
  obtain ⟨x118, hx119, hq55⟩ := bindS hq55
  obtain ⟨hi120, hlt121, hy122⟩ := gx_some hx119
  obtain ⟨cs123, hl124, hR125, hat126⟩ := h0_0.at hy122
  obtain ⟨a127, c128, a130, c131, rfl, h129, h132⟩ := hR125
  refine tP (i := 4) hE rfl (by kernel_rfl) (Gives.idx hE (x107.Train).toNat rfl rfl sl22 hi120 hlt121 (h0_0.aok hlt121)) rfl hS hS fun a hE => ?_
  refine tP (i := 5) hE rfl (by kernel_rfl) (Gives.fld hE rfl fl44_2) rfl hS hS fun a hE => ?_
  refine tT (i := 6) true rfl hE rfl (by kernel_rfl) (Gives.load1 hE rfl (fun w h => (hat126 w _ h).one rfl) ty42) rfl hS hS fun a hE => ?_
  refine tP (i := 7) hE rfl (by kernel_rfl) (Gives.fld hE rfl fl47_2) rfl hS hS fun a hE => ?_
  refine tT (i := 8) true rfl hE rfl (by kernel_rfl) (Gives.loadB hE 0 rfl rfl rfl ty3) rfl hS hS fun a hE => ?_
  obtain ⟨x133, hx134, hq55⟩ := bindS hq55
  obtain ⟨hi135, hlt136, hy137⟩ := gx_some hx134
  obtain ⟨cs138, hl139, hR140, hat141⟩ := h129.at hy137
  subst hR140
  refine tP (i := 9) hE rfl (by kernel_rfl) (Gives.idx hE (x107.Off).toNat rfl rfl sl42 hi135 hlt136 (h129.aok hlt136)) rfl hS hS fun a hE => ?_
  refine tT (i := 10) true rfl hE rfl (by kernel_rfl) (Gives.loadA hE rfl (fun w h => hat141 w _ h) ty106) rfl hS hS fun a hE => ?_
  refine Rg.one (i := 11) true true rfl (by kernel_rfl) (by kernel_rfl) (by kernel_rfl) ?_
  refine WL.alloc hE hS (runs_plain rfl) zr106 rfl ?_; clear hE hS a w; intro b142 a w hE hS
  refine WL.nil ?_
  refine ⟨⟨fun _ => (hS.tail), fun _ => (hS.tail)⟩, ?_⟩
  refine Rg.one (i := 12) true true rfl (by kernel_rfl) (by kernel_rfl) (by kernel_rfl) ?_
  refine WL.storeI hE hS 0 rfl (ApiStop.cells x133) (runs_plain rfl) rfl rfl rfl ty106 rfl rfl rfl rfl ?_; clear hE hS a w; intro a w hE hS
  refine WL.nil ?_
  refine ⟨⟨fun _ => (hS.tail), fun _ => (hS.tail)⟩, ?_⟩
  refine Rg.done (by kernel_rfl) ?_
  subst hK117
  refine W.seq ?_
  refine W.seq ?_
  obtain ⟨q144, hq143, hq55⟩ := bindS hq55
  refine W.cut (fun a w => ∃ (q147 : Bool), q147 = q144 ∧ Rep a 125 [(2, vi x2), (3, .bool x3), (4, pp b51), (5, pp b52), (10, pp b71), (11, .slice a89 x80.Stops.length c90), (13, pp b142), (23, .slice a1_0 x1.Rides.length c1_0), (24, vi ((x1.Rides).length : Int)), (25, vi ((k57 : Nat) : Int)), (109, .bool q147)] ∧ St w s (pc b142 (ApiStop.cells x133).toArray 106 :: pc b116 (GuideRide.cells x107).toArray 47 :: pc b71 (GuideRide.cells x58).toArray 47 :: pc b52 #[.slice a1_0 x1.Rides.length c1_0] 28 :: pc b51 #[.slice a0_0 x0.Trains.length c0_0, .slice a0_1 x0.Turns.length c0_1] 25 :: R)) ?_ ?_
  ·refine W.gen fun K148 hK148 => ?_
   refine W.regionQ (C := fun w => St w s (pc b142 (ApiStop.cells x133).toArray 106 :: pc b116 (GuideRide.cells x107).toArray 47 :: pc b71 (GuideRide.cells x58).toArray 47 :: pc b52 #[.slice a1_0 x1.Rides.length c1_0] 28 :: pc b51 #[.slice a0_0 x0.Trains.length c0_0, .slice a0_1 x0.Turns.length c0_1] 25 :: R)) mixed (by kernel_rfl) hS.drew ?_
   refine qP hE (Gives.fld hE rfl fl47_0) rfl fun a hE => ?_
   refine qP hE (Gives.loadB hE 1 rfl rfl rfl ty3) rfl fun a hE => ?_
   refine qP hE (Gives.fld hE rfl fl47_0) rfl fun a hE => ?_
   refine qP hE (Gives.loadB hE 2 rfl rfl rfl ty3) rfl fun a hE => ?_
   refine qP hE (Gives.p hE rfl) rfl fun a hE => ?_
   refine qP hE (Gives.p hE rfl) rfl fun a hE => ?_
   rcases Bool.eq_false_or_eq_true (x107.Train == x58.Train) with hg149 | hg149
   ·replace hq143 := iteT hg149 hq143
    refine QL.no hE (runs_not hE rfl rfl rfl (by rw [hg149]; decide)) rfl fun a hE => ?_
    refine QL.no hE (runs_not hE rfl rfl rfl (by rw [hg149]; decide)) rfl fun a hE => ?_
    refine QL.no hE (runs_not hE rfl rfl rfl (by rw [hg149]; decide)) rfl fun a hE => ?_
    refine QL.no hE (runs_not hE rfl rfl rfl (by rw [hg149]; decide)) rfl fun a hE => ?_
    refine QL.no hE (runs_not hE rfl rfl rfl (by rw [hg149]; decide)) rfl fun a hE => ?_
    refine QL.no hE (runs_not hE rfl rfl rfl (by rw [hg149]; decide)) rfl fun a hE => ?_
    refine QL.no hE (runs_not hE rfl rfl rfl (by rw [hg149]; decide)) rfl fun a hE => ?_
    refine QL.no hE (runs_not hE rfl rfl rfl (by rw [hg149]; decide)) rfl fun a hE => ?_
    refine QL.no hE (runs_not hE rfl rfl rfl (by rw [hg149]; decide)) rfl fun a hE => ?_
    refine qP hE (Gives.pickT hE rfl hg149 rfl) rfl fun a hE => ?_
    refine QL.nil ?_; clear hS w; intro w hS
    subst hK148
    exact ⟨true, Option.some.inj hq143, hE.pick _ ⟨rfl, rfl, rfl, rfl, rfl, rfl, rfl, rfl, rfl, rfl, rfl, trivial⟩, hS⟩
   replace hq143 := iteF hg149 hq143
   refine QL.v hE (runs_if hE rfl rfl rfl hg149) (Gives.p hE rfl) rfl fun a hE => ?_
   refine QL.v hE (runs_if hE rfl rfl rfl hg149) (Gives.fld hE rfl fl47_1) rfl fun a hE => ?_
   refine QL.v hE (runs_if hE rfl rfl rfl hg149) (Gives.loadB hE 2 rfl rfl rfl ty3) rfl fun a hE => ?_
   obtain ⟨x150, hx151, hq143⟩ := bindS hq143
   obtain ⟨hi152, hlt153, hy154⟩ := gx_some hx151
   obtain ⟨cs155, hl156, hR157, hat158⟩ := h91.at hy154
   subst hR157
   refine QL.v hE (runs_if hE rfl rfl rfl hg149) (Gives.idx hE (x58.On).toNat rfl rfl sl42 hi152 hlt153 (h91.aok hlt153)) rfl fun a hE => ?_
   refine QL.v hE (runs_if hE rfl rfl rfl hg149) (Gives.fld hE rfl fl106_0) rfl fun a hE => ?_
   refine QL.v hE (runs_if hE rfl rfl rfl hg149) (Gives.load1 hE rfl (fun w h => (hat158 w _ h).one rfl) ty3) rfl fun a hE => ?_
   refine QL.v hE (runs_if hE rfl rfl rfl hg149) (Gives.fld hE rfl fl106_0) rfl fun a hE => ?_
   refine QL.v hE (runs_if hE rfl rfl rfl hg149) (Gives.loadB hE 0 rfl rfl rfl ty3) rfl fun a hE => ?_
   refine QL.v hE (runs_if hE rfl rfl rfl hg149) (Gives.p hE rfl) rfl fun a hE => ?_
   refine qP hE (Gives.pickF hE rfl hg149 rfl) rfl fun a hE => ?_
   refine QL.nil ?_; clear hS w; intro w hS
   subst hK148
   exact ⟨(x150.Station != x133.Station), Option.some.inj hq143, hE.pick _ ⟨rfl, rfl, rfl, rfl, rfl, rfl, rfl, rfl, rfl, rfl, rfl, trivial⟩, hS⟩
  clear hE hS a w; rintro a w ⟨q147, rfl, hE, hS⟩
  refine W.cond hE rfl (fun hc159 => ?_) (fun hc159 => ?_)
  ·replace hq55 := iteT hc159 hq55
   refine W.seq (W.region (vp hS hE rfl rfl fun a hE => WL.nil ?_))
   refine W.ret ?_
   subst hK66
   rw [← Option.some.inj hq55] at hr
   dsimp only at hr
   refine finG (fn := Tryd.f18) (rs := [.tmp 8]) (vs := [_]) hE rfl ⟨rfl, trivial⟩ ?_
   obtain rfl := Option.some.inj hr
   replace hS := hS.tail
   replace hS := hS.tail
   replace hS := hS.tail
   replace hS := hS.tail
   replace hS := hS.tail
   exact ⟨rfl, hS⟩
  replace hq55 := iteF hc159 hq55
  refine W.skip ?_
  refine W.seq ?_
  obtain ⟨q161, hq160, hq55⟩ := bindS hq55
  refine W.cut (fun a w => ∃ (q164 : Bool), q164 = q161 ∧ Rep a 125 [(2, vi x2), (3, .bool x3), (4, pp b51), (5, pp b52), (23, .slice a1_0 x1.Rides.length c1_0), (24, vi ((x1.Rides).length : Int)), (25, vi ((k57 : Nat) : Int)), (123, .bool q164)] ∧ St w s (pc b142 (ApiStop.cells x133).toArray 106 :: pc b116 (GuideRide.cells x107).toArray 47 :: pc b71 (GuideRide.cells x58).toArray 47 :: pc b52 #[.slice a1_0 x1.Rides.length c1_0] 28 :: pc b51 #[.slice a0_0 x0.Trains.length c0_0, .slice a0_1 x0.Turns.length c0_1] 25 :: R)) ?_ ?_
  ·refine W.gen fun K165 hK165 => ?_
   refine W.regionQ (C := fun w => St w s (pc b142 (ApiStop.cells x133).toArray 106 :: pc b116 (GuideRide.cells x107).toArray 47 :: pc b71 (GuideRide.cells x58).toArray 47 :: pc b52 #[.slice a1_0 x1.Rides.length c1_0] 28 :: pc b51 #[.slice a0_0 x0.Trains.length c0_0, .slice a0_1 x0.Turns.length c0_1] 25 :: R)) mixed (by kernel_rfl) hS.drew ?_
   refine qP hE (Gives.p hE rfl) rfl fun a hE => ?_
   refine qP hE (Gives.p hE rfl) rfl fun a hE => ?_
   rcases Bool.eq_false_or_eq_true x3 with hg166 | hg166
   ·replace hq160 := iteT hg166 hq160
    refine QL.v hE (runs_if hE rfl rfl rfl hg166) (Gives.p hE rfl) rfl fun a hE => ?_
    refine QL.v hE (runs_if hE rfl rfl rfl hg166) (Gives.fld hE rfl fl47_1) rfl fun a hE => ?_
    refine QL.v hE (runs_if hE rfl rfl rfl hg166) (Gives.loadB hE 2 rfl rfl rfl ty3) rfl fun a hE => ?_
    obtain ⟨x167, hx168, hq160⟩ := bindS hq160
    obtain ⟨hi169, hlt170, hy171⟩ := gx_some hx168
    obtain ⟨cs172, hl173, hR174, hat175⟩ := h91.at hy171
    subst hR174
    refine QL.v hE (runs_if hE rfl rfl rfl hg166) (Gives.idx hE (x58.On).toNat rfl rfl sl42 hi169 hlt170 (h91.aok hlt170)) rfl fun a hE => ?_
    refine QL.v hE (runs_if hE rfl rfl rfl hg166) (Gives.fld hE rfl fl106_3) rfl fun a hE => ?_
    refine QL.v hE (runs_if hE rfl rfl rfl hg166) (Gives.load1 hE rfl (fun w h => (hat175 w _ h).one rfl) ty3) rfl fun a hE => ?_
    refine QL.v hE (runs_if hE rfl rfl rfl hg166) (Gives.fld hE rfl fl106_2) rfl fun a hE => ?_
    refine QL.v hE (runs_if hE rfl rfl rfl hg166) (Gives.loadB hE 0 rfl rfl rfl ty3) rfl fun a hE => ?_
    refine QL.v hE (runs_if hE rfl rfl rfl hg166) (Gives.p hE rfl) rfl fun a hE => ?_
    refine QL.v hE (runs_if hE rfl rfl rfl hg166) (Gives.p hE rfl) rfl fun a hE => ?_
    refine QL.v hE (runs_if hE rfl rfl rfl hg166) (Gives.p hE rfl) rfl fun a hE => ?_
    refine qP hE (Gives.pickT hE rfl hg166 rfl) rfl fun a hE => ?_
    refine QL.nil ?_; clear hS w; intro w hS
    subst hK165
    exact ⟨decide (x167.Dep < (w64 (x133.Arr + x2))), Option.some.inj hq160, hE.pick _ ⟨rfl, rfl, rfl, rfl, rfl, rfl, rfl, rfl, trivial⟩, hS⟩
   replace hq160 := iteF hg166 hq160
   refine QL.no hE (runs_not hE rfl rfl rfl (by rw [hg166]; decide)) rfl fun a hE => ?_
   refine QL.no hE (runs_not hE rfl rfl rfl (by rw [hg166]; decide)) rfl fun a hE => ?_
   refine QL.no hE (runs_not hE rfl rfl rfl (by rw [hg166]; decide)) rfl fun a hE => ?_
   refine QL.no hE (runs_not hE rfl rfl rfl (by rw [hg166]; decide)) rfl fun a hE => ?_
   refine QL.no hE (runs_not hE rfl rfl rfl (by rw [hg166]; decide)) rfl fun a hE => ?_
   refine QL.no hE (runs_not hE rfl rfl rfl (by rw [hg166]; decide)) rfl fun a hE => ?_
   refine QL.no hE (runs_not hE rfl rfl rfl (by rw [hg166]; decide)) rfl fun a hE => ?_
   refine QL.no hE (runs_not hE rfl rfl rfl (by rw [hg166]; decide)) rfl fun a hE => ?_
   refine QL.no hE (runs_not hE rfl rfl rfl (by rw [hg166]; decide)) rfl fun a hE => ?_
   refine QL.no hE (runs_not hE rfl rfl rfl (by rw [hg166]; decide)) rfl fun a hE => ?_
   refine QL.no hE (runs_not hE rfl rfl rfl (by rw [hg166]; decide)) rfl fun a hE => ?_
   refine qP hE (Gives.pickF hE rfl hg166 rfl) rfl fun a hE => ?_
   refine QL.nil ?_; clear hS w; intro w hS
   subst hK165
   exact ⟨false, Option.some.inj hq160, hE.pick _ ⟨rfl, rfl, rfl, rfl, rfl, rfl, rfl, rfl, trivial⟩, hS⟩
  clear hE hS a w; rintro a w ⟨q164, rfl, hE, hS⟩
  refine W.cond hE rfl (fun hc176 => ?_) (fun hc176 => ?_)
  ·replace hq55 := iteT hc176 hq55
   refine W.seq (W.region (vp hS hE rfl rfl fun a hE => WL.nil ?_))
   refine W.ret ?_
   subst hK66
   rw [← Option.some.inj hq55] at hr
   dsimp only at hr
   refine finG (fn := Tryd.f18) (rs := [.tmp 8]) (vs := [_]) hE rfl ⟨rfl, trivial⟩ ?_
   obtain rfl := Option.some.inj hr
   replace hS := hS.tail
   replace hS := hS.tail
   replace hS := hS.tail
   replace hS := hS.tail
   replace hS := hS.tail
   exact ⟨rfl, hS⟩
  replace hq55 := iteF hc176 hq55
  refine W.skip ?_
  refine W.region ?_
  refine vP hS hE (Gives.inc hE rfl (by have := h1_0.small; omega)) rfl fun a hE => ?_
  refine vp hS hE rfl rfl fun a hE => WL.nil ?_
  replace hS := hS.tail
  replace hS := hS.tail
  replace hS := hS.tail
  subst hK66
  exact ⟨rest59.length, Nat.lt_succ_self _, rest59, k57 + 1, rfl, hd60, hq55, hE.pick _ ⟨rfl, rfl, rfl, rfl, rfl, rfl, rfl, trivial⟩, hS⟩
 clear hE hS a w; rintro a w ⟨rfl, hE, hS⟩
 dsimp only at hr
 refine W.seq (W.region (vp hS hE rfl rfl fun a hE => WL.nil ?_))
 refine W.ret ?_
 refine finG (fn := Tryd.f18) (rs := [.tmp 8]) (vs := [_]) hE rfl ⟨rfl, trivial⟩ ?_
 obtain rfl := Option.some.inj hr
 replace hS := hS.tail
 replace hS := hS.tail
 exact ⟨rfl, hS⟩
end Go.Proofs.YtpcebngchmgckaaDoor
