/- The walks of the functions that TopSeated reaches: each call comes to what its mirror says. The conditions are those of each contract. -/
import Derived.Test.YtpcebngchmgckaaDoorProg
import Derived.Test.YtpcebngchmgckaaDoorTopSeatedM
import Derived.Test.YtpcebngchmgckaaDoorFpAllT
import Derived.Test.YtpcebngchmgckaaDoorTopSeatedS
import Derived.Test.YtpcebngchmgckaaDoorFpMapS
import Derived.Test.YtpcebngchmgckaaDoorFpCut
import Derived.Test.YtpcebngchmgckaaDoorFpFld
import Derived.Test.YtpcebngchmgckaaDoorFpObj
import Derived.Test.YtpcebngchmgckaaDoorTopSeatedW3
set_option maxRecDepth 10000
namespace Go.Proofs.YtpcebngchmgckaaDoor
open Go Go.Fp
set_option maxHeartbeats 8000000 in
theorem GuideCrowd_v1_ok {fu : Nat}  {w : World} {s : Sg} {R : List HP} {x0 : ApiDay} {a0_0 : Option Addr} {c0_0 : Nat} {a0_1 : Option Addr} {c0_1 : Nat} {x1 : List GuideJourney} {a_v0 : Option Addr} {c_v0 n_v0 : Nat} {cs_v0 : List Value} (hS : St w s (vecC 28 1 a_v0 c_v0 n_v0 cs_v0 :: R)) (hTab : TabS Tryd.prog s) (h0_0 : Sl 4 RApiTrain s a0_0 c0_0 x0.Trains) (h0_1 : Sl 1 (RL 1 (RI .i64)) s a0_1 c0_1 x0.Turns) (h_v0 : Ev 1 RGuideJourney s cs_v0 x1) (hn_v0 : x1.length = n_v0) {r : (List (List Int)) × Int} (hr : GuideCrowd_v1 fu x0 x1 = some r) :
  Calls Tryd.prog 20 [.agg (List.toArray [.slice a0_0 x0.Trains.length c0_0, .slice a0_1 x0.Turns.length c0_1]), .slice a_v0 n_v0 c_v0].toArray w (fun e w => ∃ (a0 : Option Addr) (c0 : Nat) (t : Sg), e = .returned (.tuple #[.slice a0 r.1.length c0, .int .i64 r.2]) ∧ s.Le t ∧ Sl 1 (RL 1 (RI .i64)) t a0 c0 r.1 ∧ St w t (vecC 28 1 a_v0 c_v0 n_v0 cs_v0 :: R)) := by
 refine enter Tryd.func20 rfl rfl rfl fun a hE => ?_
 rw [GuideCrowd_v1] at hr
 subst hn_v0
 refine W.seq (W.region ?_)
 refine WL.box hE hS (runs_plain rfl) rfl rfl rfl ?_; clear hE hS a w; intro b51 a w hE hS
 refine vP hS hE (Gives.p hE rfl) rfl ?_; clear hE a; intro a hE
 refine vP hS hE (Gives.p hE rfl) rfl ?_; clear hE a; intro a hE
 refine WL.nil ?_
 refine W.seq ?_
 refine W.seq (W.region ?_)
 refine vP hS hE (Gives.loadBA hE 0 rfl rfl ty25) rfl ?_; clear hE a; intro a hE
 obtain ⟨q52, hq53, hr⟩ := bindS hr
 have hc_ := GuideCheck_ok hS (TabS.mono (Sg.Le.refl _) hTab) h0_0 h0_1 hq53
 refine WL.fnq hE (hc_) (runs_plain rfl) bd17 rfl rfl rfl ?_
 clear hE hS hc_; rintro e w ⟨rfl, hS⟩; refine ⟨_, rfl, ?_⟩; clear a; intro a hE
 refine vP hS hE (Gives.p hE rfl) rfl ?_; clear hE a; intro a hE
 refine WL.nil ?_
 refine W.seq (W.region ?_)
 refine vP hS hE (Gives.p hE rfl) rfl ?_; clear hE a; intro a hE
 refine vP hS hE (Gives.p hE rfl) rfl ?_; clear hE a; intro a hE
 refine WL.nil ?_
 refine W.cond hE rfl (fun hc54 => ?_) (fun hc54 => ?_)
 ·replace hr := iteT hc54 hr
  refine W.seq (W.region ?_)
  refine vP hS hE (Gives.p hE rfl) rfl ?_; clear hE a; intro a hE
  refine vP hS hE (Gives.p hE rfl) rfl ?_; clear hE a; intro a hE
  refine vP hS hE (Gives.p hE rfl) rfl ?_; clear hE a; intro a hE
  refine WL.nil ?_
  refine W.ret ?_
  refine finG (fn := Tryd.f20) (rs := [.tmp 4, .tmp 5]) (vs := [_, _]) hE rfl ⟨rfl, rfl, trivial⟩ ?_
  obtain rfl := Option.some.inj hr
  replace hS := hS.tail
  exact ⟨none, 0, s, rfl, (Sg.Le.refl _), Sl.nil, hS⟩
 ·replace hr := iteF hc54 hr
  refine W.skip ?_
  refine W.seq ?_
  refine W.seq (W.region ?_)
  refine vP hS hE (Gives.p hE rfl) rfl ?_; clear hE a; intro a hE
  refine vP hS hE (Gives.len hE rfl sl39) rfl ?_; clear hE a; intro a hE
  refine vP hS hE (Gives.p hE rfl) rfl ?_; clear hE a; intro a hE
  refine WL.nil ?_
  refine W.cond hE rfl (fun hc55 => ?_) (fun hc55 => ?_)
  ·replace hr := iteT hc55 hr
   refine W.seq (W.region ?_)
   refine vP hS hE (Gives.p hE rfl) rfl ?_; clear hE a; intro a hE
   refine vP hS hE (Gives.p hE rfl) rfl ?_; clear hE a; intro a hE
   refine WL.nil ?_
   refine W.ret ?_
   refine finG (fn := Tryd.f20) (rs := [.tmp 4, .tmp 5]) (vs := [_, _]) hE rfl ⟨rfl, rfl, trivial⟩ ?_
   obtain rfl := Option.some.inj hr
   replace hS := hS.tail
   exact ⟨none, 0, s, rfl, (Sg.Le.refl _), Sl.nil, hS⟩
  ·replace hr := iteF hc55 hr
   refine W.skip ?_
   refine W.seq (W.region ?_)
   refine vP hS hE (Gives.loadBA hE 0 rfl rfl ty25) rfl ?_; clear hE a; intro a hE
   refine vP hS hE (Gives.build hE (vs := [(0, .agg (List.toArray [.slice a0_0 x0.Trains.length c0_0, .slice a0_1 x0.Turns.length c0_1]))]) [.slice a0_0 x0.Trains.length c0_0, .slice a0_1 x0.Turns.length c0_1, .int .i64 0] rfl (by kernel_rfl)) rfl ?_; clear hE a; intro a hE
   refine WL.alloc hE hS (runs_plain rfl) zr94 rfl ?_; clear hE hS a w; intro b56 a w hE hS
   refine WL.storeI hE hS 0 rfl [.slice a0_0 x0.Trains.length c0_0, .slice a0_1 x0.Turns.length c0_1, .int .i64 0] (runs_plain rfl) rfl rfl rfl ty94 rfl rfl rfl rfl ?_; clear hE hS a w; intro a w hE hS
   refine WL.nil ?_
   refine W.seq ?_
   refine W.seq (W.region ?_)
   refine vP hS hE (Gives.p hE rfl) rfl ?_; clear hE a; intro a hE
   refine vP hS hE (Gives.len hE rfl sl39) rfl ?_; clear hE a; intro a hE
   refine vP hS hE (Gives.p hE rfl) rfl ?_; clear hE a; intro a hE
   refine WL.nil ?_
   have hb68 : x1.length ≤ 9223372036854775807 := by have := hS.vecCap 2 rfl; unfold maxLen at this; omega
   obtain ⟨q58, hq57, hr⟩ := bindS hr
   refine W.cut (fun a w => (.next ()) = q58 ∧ Rep a 92 [(1, .slice a_v0 x1.length c_v0), (2, .pointer (some ⟨b51, 0, none⟩))] ∧ St w s (pt b56 (.cells #[.slice a0_0 x0.Trains.length c0_0, .slice a0_1 x0.Turns.length c0_1, .int .i64 0] 94 (0, 0)) :: pt b51 (.cells #[.slice a0_0 x0.Trains.length c0_0, .slice a0_1 x0.Turns.length c0_1] 25 (0, 0)) :: vecC 28 1 a_v0 c_v0 x1.length cs_v0 :: R)) ?_ ?_
   ·refine W.block ?_
    refine W.loop (fun m a w => ∃ (rest61 : Nat) (k59 : Nat), rest61 = m ∧ k59 + rest61 = x1.length ∧ GuideCrowd_v1.loop1 x0 x1 rest61 k59 = some q58 ∧ Rep a 92 [(1, .slice a_v0 x1.length c_v0), (2, .pointer (some ⟨b51, 0, none⟩)), (7, .pointer (some ⟨b56, 0, none⟩)), (29, .slice a_v0 x1.length c_v0), (30, .int .i64 ((x1.length : Nat) : Int)), (31, .int .i64 ((k59 : Nat) : Int))] ∧ St w s (pt b56 (.cells #[.slice a0_0 x0.Trains.length c0_0, .slice a0_1 x0.Turns.length c0_1, .int .i64 0] 94 (0, 0)) :: pt b51 (.cells #[.slice a0_0 x0.Trains.length c0_0, .slice a0_1 x0.Turns.length c0_1] 25 (0, 0)) :: vecC 28 1 a_v0 c_v0 x1.length cs_v0 :: R)) (m := x1.length) ⟨x1.length, 0, rfl, by omega, hq57, hE.pick _ ⟨rfl, rfl, rfl, rfl, rfl, rfl, trivial⟩, hS⟩ ?_
    clear hE hS a w hq57; rintro m65 a w ⟨rest61, k59, rfl, hd62, hq57, hE, hS⟩
    refine W.gen fun K69 hK69 => ?_
    rcases rest61 with _ | rest61
    ·skip
     refine W.seq (W.region ?_)
     refine vP hS hE (Gives.p hE rfl) rfl ?_; clear hE a; intro a hE
     refine WL.nil ?_
     refine W.seq ?_
     refine W.condF hE rfl (decide_eq_false (by omega)) ?_
     subst hK69
     refine W.exit rfl ?_
     exact ⟨Option.some.inj hq57, hE.pick _ ⟨rfl, rfl, trivial⟩, hS⟩
    ·have hlt63 : k59 < x1.length := by omega
     rw [GuideCrowd_v1.loop1] at hq57
     refine W.seq (W.region ?_)
     refine vP hS hE (Gives.p hE rfl) rfl ?_; clear hE a; intro a hE
     refine WL.nil ?_
     refine W.seq ?_
     refine W.condT hE rfl (decide_eq_true (by omega)) ?_
     refine W.skip ?_
     refine W.seq ?_
     refine W.block ?_
     refine W.seq (W.region ?_)
     obtain ⟨x70, hx71, hq57⟩ := bindS hq57
     obtain ⟨hi72, hlt73, hy74⟩ := gx_some hx71
     obtain ⟨vs75, hl76, hR77, hd78, hget79⟩ := h_v0.at hy74
     obtain ⟨a80, c81, rfl, h82⟩ := hR77
     refine vP hS hE (Gives.idx hE ((((k59 : Nat) : Int)).toNat) rfl rfl sl39 hi72 (by omega) (hS.vecAok 2 rfl (by omega : (((k59 : Nat) : Int)).toNat < x1.length))) rfl ?_; clear hE a; intro a hE
     refine vP hS hE (Gives.loadA hE rfl (fun w h => St.vecSees h 2 rfl ((((k59 : Nat) : Int)).toNat * 1) _ hget79) ty28) rfl ?_; clear hE a; intro a hE
     refine WL.alloc hE hS (runs_plain rfl) zr28 rfl ?_; clear hE hS a w; intro b83 a w hE hS
     refine WL.storeI hE hS 0 rfl [.slice a80 x70.Rides.length c81] (runs_plain rfl) rfl rfl rfl ty28 rfl rfl rfl rfl ?_; clear hE hS a w; intro a w hE hS
     refine WL.nil ?_
     refine W.seq (W.region ?_)
     refine vP hS hE (Gives.loadBA hE 1 rfl rfl ty94) rfl ?_; clear hE a; intro a hE
     refine vP hS hE (Gives.loadBA hE 0 rfl rfl ty28) rfl ?_; clear hE a; intro a hE
     obtain ⟨q84, hq85, hq57⟩ := bindS hq57
     have hc_ := GuideNetjourney_ok hS h0_0 h0_1 h82 hq85
     refine WL.fnq hE (hc_) (runs_plain rfl) bd68 rfl rfl rfl ?_
     clear hE hS hc_; rintro e w ⟨rfl, hS⟩; refine ⟨_, rfl, ?_⟩; clear a; intro a hE
     refine vP hS hE (Gives.p hE rfl) rfl ?_; clear hE a; intro a hE
     refine WL.nil ?_
     refine W.seq (W.region ?_)
     refine vP hS hE (Gives.p hE rfl) rfl ?_; clear hE a; intro a hE
     refine vP hS hE (Gives.p hE rfl) rfl ?_; clear hE a; intro a hE
     refine WL.nil ?_
     refine W.cond hE rfl (fun hc86 => ?_) (fun hc86 => ?_)
     ·replace hq57 := iteT hc86 hq57
      refine W.seq (W.region ?_)
      refine vP hS hE (Gives.p hE rfl) rfl ?_; clear hE a; intro a hE
      refine vP hS hE (Gives.p hE rfl) rfl ?_; clear hE a; intro a hE
      refine vP hS hE (Gives.p hE rfl) rfl ?_; clear hE a; intro a hE
      refine WL.nil ?_
      refine W.ret ?_
      subst hK69
      rw [← Option.some.inj hq57] at hr
      dsimp only at hr
      refine finG (fn := Tryd.f20) (rs := [.tmp 4, .tmp 5]) (vs := [_, _]) hE rfl ⟨rfl, rfl, trivial⟩ ?_
      obtain rfl := Option.some.inj hr
      replace hS := hS.tail
      replace hS := hS.tail
      replace hS := hS.tail
      exact ⟨none, 0, s, rfl, (Sg.Le.refl _), Sl.nil, hS⟩
     ·replace hq57 := iteF hc86 hq57
      refine W.skip ?_
      refine W.region ?_
      refine vP hS hE (Gives.inc hE rfl (by omega)) rfl ?_; clear hE a; intro a hE
      refine vP hS hE (Gives.p hE rfl) rfl ?_; clear hE a; intro a hE
      refine WL.nil ?_
      replace hS := hS.tail
      subst hK69
      exact ⟨rest61, Nat.lt_succ_self _, rest61, k59 + 1, rfl, (by omega), hq57, hE.pick _ ⟨rfl, rfl, rfl, rfl, rfl, rfl, trivial⟩, hS⟩
   ·clear hE hS a w; rintro a w ⟨rfl, hE, hS⟩
    dsimp only at hr
    refine W.seq (W.region ?_)
    replace hS := hS.nestNil 45 3 1
    refine vP hS hE (Gives.p hE rfl) rfl ?_; clear hE a; intro a hE
    refine WL.nil ?_
    refine W.seq ?_
    refine W.seq (W.region ?_)
    refine vP hS hE (Gives.fld hE rfl fl25_0) rfl ?_; clear hE a; intro a hE
    refine vP hS hE (Gives.loadB hE 2 rfl rfl rfl ty22) rfl ?_; clear hE a; intro a hE
    refine vP hS hE (Gives.len hE rfl sl22) rfl ?_; clear hE a; intro a hE
    refine vP hS hE (Gives.p hE rfl) rfl ?_; clear hE a; intro a hE
    refine WL.nil ?_
    obtain ⟨q89, hq88, hr⟩ := bindS hr
    refine W.cut (fun a w => ∃ (q99 : List (List Int)), ∃ (a100 : Option Addr), ∃ (c101 : Nat), ∃ (n102 : Nat), ∃ (ds103 : List In), q99 = q89 ∧ NEv 1 (RI .i64) s ds103 q99 ∧ q99.length = n102 ∧ Rep a 92 [(1, .slice a_v0 x1.length c_v0), (11, .slice a100 n102 c101)] ∧ St w s (nestC 45 3 1 a100 c101 n102 ds103 :: pt b56 (.cells #[.slice a0_0 x0.Trains.length c0_0, .slice a0_1 x0.Turns.length c0_1, .int .i64 0] 94 (0, 0)) :: pt b51 (.cells #[.slice a0_0 x0.Trains.length c0_0, .slice a0_1 x0.Turns.length c0_1] 25 (0, 0)) :: vecC 28 1 a_v0 c_v0 x1.length cs_v0 :: R)) ?_ ?_
    ·refine W.block ?_
     refine W.loop (fun m a w => ∃ (rest92 : List ApiTrain) (k90 : Nat), ∃ (q99 : List (List Int)), ∃ (a100 : Option Addr), ∃ (c101 : Nat), ∃ (n102 : Nat), ∃ (ds103 : List In), rest92.length = m ∧ x0.Trains.drop k90 = rest92 ∧ GuideCrowd_v1.loop2 rest92 q99 = some q89 ∧ NEv 1 (RI .i64) s ds103 q99 ∧ q99.length = n102 ∧ Rep a 92 [(1, .slice a_v0 x1.length c_v0), (11, .slice a100 n102 c101), (43, .slice a0_0 x0.Trains.length c0_0), (44, .int .i64 ((x0.Trains).length : Int)), (45, .int .i64 ((k90 : Nat) : Int))] ∧ St w s (nestC 45 3 1 a100 c101 n102 ds103 :: pt b56 (.cells #[.slice a0_0 x0.Trains.length c0_0, .slice a0_1 x0.Turns.length c0_1, .int .i64 0] 94 (0, 0)) :: pt b51 (.cells #[.slice a0_0 x0.Trains.length c0_0, .slice a0_1 x0.Turns.length c0_1] 25 (0, 0)) :: vecC 28 1 a_v0 c_v0 x1.length cs_v0 :: R)) (m := x0.Trains.length) ⟨x0.Trains, 0, [], none, 0, 0, [], rfl, rfl, hq88, (NEv.nil), (rfl), hE.pick _ ⟨rfl, rfl, rfl, rfl, rfl, trivial⟩, hS⟩ ?_
     clear hE hS a w hq88; rintro m96 a w ⟨rest92, k90, q99, a100, c101, n102, ds103, rfl, hd93, hq88, h104, rfl, hE, hS⟩
     refine W.gen fun K106 hK106 => ?_
     rcases rest92 with _ | ⟨x91, rest92⟩
     ·have hlt94 := drop_nil hd93
      refine W.seq (W.region ?_)
      refine vP hS hE (Gives.p hE rfl) rfl ?_; clear hE a; intro a hE
      refine WL.nil ?_
      refine W.seq ?_
      refine W.condF hE rfl (decide_eq_false (by omega)) ?_
      subst hK106
      refine W.exit rfl ?_
      exact ⟨q99, a100, c101, q99.length, ds103, Option.some.inj hq88, h104, rfl, hE.pick _ ⟨rfl, rfl, trivial⟩, hS⟩
     ·obtain ⟨hlt94, hx95, hd93⟩ := drop_cons hd93
      rw [GuideCrowd_v1.loop2] at hq88
      refine W.seq (W.region ?_)
      refine vP hS hE (Gives.p hE rfl) rfl ?_; clear hE a; intro a hE
      refine WL.nil ?_
      refine W.seq ?_
      refine W.condT hE rfl (decide_eq_true (by omega)) ?_
      refine W.skip ?_
      refine W.seq ?_
      refine W.block ?_
      refine W.seq (W.region ?_)
      obtain ⟨cs107, hl108, hR109, hat110⟩ := h0_0.at hx95
      obtain ⟨a111, c112, a114, c115, rfl, h113, h116⟩ := hR109
      refine vP hS hE (Gives.idx hE k90 rfl rfl sl22 rfl hlt94 (h0_0.aok hlt94)) rfl ?_; clear hE a; intro a hE
      refine vP hS hE (Gives.loadA hE rfl (fun w h => hat110 w _ h) ty44) rfl ?_; clear hE a; intro a hE
      refine WL.alloc hE hS (runs_plain rfl) zr44 rfl ?_; clear hE hS a w; intro b117 a w hE hS
      refine WL.storeI hE hS 0 rfl [.int .i64 x91.No, .int .i64 x91.Stock, .slice a111 x91.Stops.length c112, .slice a114 x91.Legs.length c115] (runs_plain rfl) rfl rfl rfl ty44 rfl rfl rfl rfl ?_; clear hE hS a w; intro a w hE hS
      refine WL.nil ?_
      refine W.region ?_
      refine vP hS hE (Gives.p hE rfl) rfl ?_; clear hE a; intro a hE
      refine vP hS hE (Gives.fld hE rfl fl44_2) rfl ?_; clear hE a; intro a hE
      refine vP hS hE (Gives.loadB hE 0 rfl rfl rfl ty42) rfl ?_; clear hE a; intro a hE
      refine vP hS hE (Gives.len hE rfl sl42) rfl ?_; clear hE a; intro a hE
      refine vP hS hE (Gives.p hE rfl) rfl ?_; clear hE a; intro a hE
      obtain ⟨x118, hx119, hq88⟩ := bindS hq88
      refine WL.mkD (Rr := RI .i64) hE hS (runs_plain rfl) rfl rfl ap45 zr3 rfl hx119 rfl ?_; clear hE hS a w; intro b120 cs121 a w h122 hE hS
      refine WL.lit hE hS (e := 45) (es := 1) (vs := [(0, .slice (some ⟨b120, 0, none⟩) x118.length x118.length)]) (cs := [.slice (some ⟨b120, 0, none⟩) x118.length x118.length]) (runs_plain rfl) rfl (by kernel_rfl) rfl ?_; clear hE hS a w; intro b124 a w hE hS
      obtain ⟨x125, hx126, hq88⟩ := bindS hq88
      replace hS := hS.front 1 rfl
      replace hS := hS.front 1 rfl
      refine WL.appND hE hS 1 rfl (runs_plain rfl) rfl rfl ap23 h104 rfl h122 (rfl) hx126 rfl ?_; clear hE hS a w; intro a127 c128 ds129 a w h130 hE hS
      refine vP hS hE (Gives.p hE rfl) rfl ?_; clear hE a; intro a hE
      refine WL.nil ?_
      refine W.region ?_
      refine vP hS hE (Gives.inc hE rfl (by have := h0_0.small; omega)) rfl ?_; clear hE a; intro a hE
      refine vP hS hE (Gives.p hE rfl) rfl ?_; clear hE a; intro a hE
      refine WL.nil ?_
      replace hS := hS.tail
      subst hK106
      exact ⟨rest92.length, Nat.lt_succ_self _, rest92, k90 + 1, x125, a127, c128, x125.length, ds129, rfl, hd93, hq88, h130, (rfl), hE.pick _ ⟨rfl, rfl, rfl, rfl, rfl, trivial⟩, hS⟩
    ·clear hE hS a w; rintro a w ⟨q99, a100, c101, n102, ds103, rfl, h104, rfl, hE, hS⟩
     refine W.seq ?_
     refine W.seq (W.region ?_)
     refine vP hS hE (Gives.p hE rfl) rfl ?_; clear hE a; intro a hE
     refine vP hS hE (Gives.len hE rfl sl39) rfl ?_; clear hE a; intro a hE
     refine vP hS hE (Gives.p hE rfl) rfl ?_; clear hE a; intro a hE
     refine WL.nil ?_
     have hb142 : x1.length ≤ 9223372036854775807 := by have := hS.vecCap 3 rfl; unfold maxLen at this; omega
     obtain ⟨q132, hq131, hr⟩ := bindS hr
     refine W.cut (fun a w => ∃ (q143 : List (List Int)), ∃ (ds147 : List In), q143 = q132 ∧ NEv 1 (RI .i64) s ds147 q143 ∧ q143.length = q99.length ∧ Rep a 92 [(11, .slice a100 q99.length c101)] ∧ St w s (nestC 45 3 1 a100 c101 q99.length ds147 :: pt b56 (.cells #[.slice a0_0 x0.Trains.length c0_0, .slice a0_1 x0.Turns.length c0_1, .int .i64 0] 94 (0, 0)) :: pt b51 (.cells #[.slice a0_0 x0.Trains.length c0_0, .slice a0_1 x0.Turns.length c0_1] 25 (0, 0)) :: vecC 28 1 a_v0 c_v0 x1.length cs_v0 :: R)) ?_ ?_
     ·refine W.block ?_
      refine W.loop (fun m a w => ∃ (rest135 : Nat) (k133 : Nat), ∃ (q143 : List (List Int)), ∃ (ds147 : List In), rest135 = m ∧ k133 + rest135 = x1.length ∧ GuideCrowd_v1.loop3 x1 fu rest135 k133 q143 = some q132 ∧ NEv 1 (RI .i64) s ds147 q143 ∧ q143.length = q99.length ∧ Rep a 92 [(11, .slice a100 q99.length c101), (58, .slice a_v0 x1.length c_v0), (59, .int .i64 ((x1.length : Nat) : Int)), (60, .int .i64 ((k133 : Nat) : Int))] ∧ St w s (nestC 45 3 1 a100 c101 q99.length ds147 :: pt b56 (.cells #[.slice a0_0 x0.Trains.length c0_0, .slice a0_1 x0.Turns.length c0_1, .int .i64 0] 94 (0, 0)) :: pt b51 (.cells #[.slice a0_0 x0.Trains.length c0_0, .slice a0_1 x0.Turns.length c0_1] 25 (0, 0)) :: vecC 28 1 a_v0 c_v0 x1.length cs_v0 :: R)) (m := x1.length) ⟨x1.length, 0, q99, ds103, rfl, by omega, hq131, h104, rfl, hE.pick _ ⟨rfl, rfl, rfl, rfl, trivial⟩, hS⟩ ?_
      clear hE hS a w hq131; rintro m139 a w ⟨rest135, k133, q143, ds147, rfl, hd136, hq131, h148, hn149, hE, hS⟩
      refine W.gen fun K150 hK150 => ?_
      rcases rest135 with _ | rest135
      ·skip
       refine W.seq (W.region ?_)
       refine vP hS hE (Gives.p hE rfl) rfl ?_; clear hE a; intro a hE
       refine WL.nil ?_
       refine W.seq ?_
       refine W.condF hE rfl (decide_eq_false (by omega)) ?_
       subst hK150
       refine W.exit rfl ?_
       exact ⟨q143, ds147, Option.some.inj hq131, h148, hn149, hE.pick _ ⟨rfl, trivial⟩, hS⟩
      ·have hlt137 : k133 < x1.length := by omega
       rw [GuideCrowd_v1.loop3] at hq131
       refine W.seq (W.region ?_)
       refine vP hS hE (Gives.p hE rfl) rfl ?_; clear hE a; intro a hE
       refine WL.nil ?_
       refine W.seq ?_
       refine W.condT hE rfl (decide_eq_true (by omega)) ?_
       refine W.skip ?_
       refine W.seq ?_
       refine W.block ?_
       refine W.seq (W.region ?_)
       obtain ⟨x151, hx152, hq131⟩ := bindS hq131
       obtain ⟨hi153, hlt154, hy155⟩ := gx_some hx152
       obtain ⟨vs156, hl157, hR158, hd159, hget160⟩ := h_v0.at hy155
       obtain ⟨a161, c162, rfl, h163⟩ := hR158
       refine vP hS hE (Gives.idx hE ((((k133 : Nat) : Int)).toNat) rfl rfl sl39 hi153 (by omega) (hS.vecAok 3 rfl (by omega : (((k133 : Nat) : Int)).toNat < x1.length))) rfl ?_; clear hE a; intro a hE
       refine vP hS hE (Gives.loadA hE rfl (fun w h => St.vecSees h 3 rfl ((((k133 : Nat) : Int)).toNat * 1) _ hget160) ty28) rfl ?_; clear hE a; intro a hE
       refine WL.alloc hE hS (runs_plain rfl) zr28 rfl ?_; clear hE hS a w; intro b164 a w hE hS
       refine WL.storeI hE hS 0 rfl [.slice a161 x151.Rides.length c162] (runs_plain rfl) rfl rfl rfl ty28 rfl rfl rfl rfl ?_; clear hE hS a w; intro a w hE hS
       refine WL.nil ?_
       refine W.seq (W.region ?_)
       refine vP hS hE (Gives.fld hE rfl fl28_0) rfl ?_; clear hE a; intro a hE
       refine vP hS hE (Gives.loadB hE 0 rfl rfl rfl ty26) rfl ?_; clear hE a; intro a hE
       refine vP hS hE (Gives.len hE rfl sl26) rfl ?_; clear hE a; intro a hE
       refine vP hS hE (Gives.p hE rfl) rfl ?_; clear hE a; intro a hE
       refine WL.nil ?_
       obtain ⟨q166, hq165, hq131⟩ := bindS hq131
       refine W.cut (fun a w => ∃ (q176 : List (List Int)), ∃ (ds180 : List In), q176 = q166 ∧ NEv 1 (RI .i64) s ds180 q176 ∧ q176.length = q99.length ∧ Rep a 92 [(11, .slice a100 q99.length c101), (58, .slice a_v0 x1.length c_v0), (59, .int .i64 ((x1.length : Nat) : Int)), (60, .int .i64 ((k133 : Nat) : Int))] ∧ St w s (pt b164 (.cells #[.slice a161 x151.Rides.length c162] 28 (0, 0)) :: nestC 45 3 1 a100 c101 q99.length ds180 :: pt b56 (.cells #[.slice a0_0 x0.Trains.length c0_0, .slice a0_1 x0.Turns.length c0_1, .int .i64 0] 94 (0, 0)) :: pt b51 (.cells #[.slice a0_0 x0.Trains.length c0_0, .slice a0_1 x0.Turns.length c0_1] 25 (0, 0)) :: vecC 28 1 a_v0 c_v0 x1.length cs_v0 :: R)) ?_ ?_
       ·refine W.block ?_
        refine W.loop (fun m a w => ∃ (rest169 : List GuideRide) (k167 : Nat), ∃ (q176 : List (List Int)), ∃ (ds180 : List In), rest169.length = m ∧ x151.Rides.drop k167 = rest169 ∧ GuideCrowd_v1.loop4 fu rest169 q176 = some q166 ∧ NEv 1 (RI .i64) s ds180 q176 ∧ q176.length = q99.length ∧ Rep a 92 [(11, .slice a100 q99.length c101), (58, .slice a_v0 x1.length c_v0), (59, .int .i64 ((x1.length : Nat) : Int)), (60, .int .i64 ((k133 : Nat) : Int)), (65, .slice a161 x151.Rides.length c162), (66, .int .i64 ((x151.Rides).length : Int)), (67, .int .i64 ((k167 : Nat) : Int))] ∧ St w s (pt b164 (.cells #[.slice a161 x151.Rides.length c162] 28 (0, 0)) :: nestC 45 3 1 a100 c101 q99.length ds180 :: pt b56 (.cells #[.slice a0_0 x0.Trains.length c0_0, .slice a0_1 x0.Turns.length c0_1, .int .i64 0] 94 (0, 0)) :: pt b51 (.cells #[.slice a0_0 x0.Trains.length c0_0, .slice a0_1 x0.Turns.length c0_1] 25 (0, 0)) :: vecC 28 1 a_v0 c_v0 x1.length cs_v0 :: R)) (m := x151.Rides.length) ⟨x151.Rides, 0, q143, ds147, rfl, rfl, hq165, h148, hn149, hE.pick _ ⟨rfl, rfl, rfl, rfl, rfl, rfl, rfl, trivial⟩, hS⟩ ?_
        clear hE hS a w hq165; rintro m173 a w ⟨rest169, k167, q176, ds180, rfl, hd170, hq165, h181, hn182, hE, hS⟩
        refine W.gen fun K183 hK183 => ?_
        rcases rest169 with _ | ⟨x168, rest169⟩
        ·have hlt171 := drop_nil hd170
         refine W.seq (W.region ?_)
         refine vP hS hE (Gives.p hE rfl) rfl ?_; clear hE a; intro a hE
         refine WL.nil ?_
         refine W.seq ?_
         refine W.condF hE rfl (decide_eq_false (by omega)) ?_
         subst hK183
         refine W.exit rfl ?_
         exact ⟨q176, ds180, Option.some.inj hq165, h181, hn182, hE.pick _ ⟨rfl, rfl, rfl, rfl, trivial⟩, hS⟩
        ·obtain ⟨hlt171, hx172, hd170⟩ := drop_cons hd170
         rw [GuideCrowd_v1.loop4] at hq165
         refine W.seq (W.region ?_)
         refine vP hS hE (Gives.p hE rfl) rfl ?_; clear hE a; intro a hE
         refine WL.nil ?_
         refine W.seq ?_
         refine W.condT hE rfl (decide_eq_true (by omega)) ?_
         refine W.skip ?_
         refine W.seq ?_
         refine W.block ?_
         refine W.seq (W.region ?_)
         obtain ⟨cs184, hl185, hR186, hat187⟩ := h163.at hx172
         subst hR186
         refine vP hS hE (Gives.idx hE k167 rfl rfl sl26 rfl hlt171 (h163.aok hlt171)) rfl ?_; clear hE a; intro a hE
         refine vP hS hE (Gives.loadA hE rfl (fun w h => hat187 w _ h) ty47) rfl ?_; clear hE a; intro a hE
         refine WL.alloc hE hS (runs_plain rfl) zr47 rfl ?_; clear hE hS a w; intro b188 a w hE hS
         refine WL.storeI hE hS 0 rfl (GuideRide.cells x168) (runs_plain rfl) rfl rfl rfl ty47 rfl rfl rfl rfl ?_; clear hE hS a w; intro a w hE hS
         refine WL.nil ?_
         refine W.seq (W.region ?_)
         refine vP hS hE (Gives.fld hE rfl fl47_1) rfl ?_; clear hE a; intro a hE
         refine vP hS hE (Gives.loadB hE 0 rfl rfl rfl ty3) rfl ?_; clear hE a; intro a hE
         refine vP hS hE (Gives.p hE rfl) rfl ?_; clear hE a; intro a hE
         refine WL.nil ?_
         obtain ⟨q190, hq189, hq165⟩ := bindS hq165
         refine W.cut (fun a w => ∃ (q195 : Int), ∃ (q196 : List (List Int)), ∃ (ds200 : List In), (q195, q196) = q190 ∧ NEv 1 (RI .i64) s ds200 q196 ∧ q196.length = q99.length ∧ Rep a 92 [(11, .slice a100 q99.length c101), (58, .slice a_v0 x1.length c_v0), (59, .int .i64 ((x1.length : Nat) : Int)), (60, .int .i64 ((k133 : Nat) : Int)), (65, .slice a161 x151.Rides.length c162), (66, .int .i64 ((x151.Rides).length : Int)), (67, .int .i64 ((k167 : Nat) : Int))] ∧ St w s (pt b188 (.cells (GuideRide.cells x168).toArray 47 (0, 0)) :: pt b164 (.cells #[.slice a161 x151.Rides.length c162] 28 (0, 0)) :: nestC 45 3 1 a100 c101 q99.length ds200 :: pt b56 (.cells #[.slice a0_0 x0.Trains.length c0_0, .slice a0_1 x0.Turns.length c0_1, .int .i64 0] 94 (0, 0)) :: pt b51 (.cells #[.slice a0_0 x0.Trains.length c0_0, .slice a0_1 x0.Turns.length c0_1] 25 (0, 0)) :: vecC 28 1 a_v0 c_v0 x1.length cs_v0 :: R)) ?_ ?_
         ·refine W.block ?_
          refine W.loop (fun m a w => ∃ (n191 : Nat), ∃ (q195 : Int), ∃ (q196 : List (List Int)), ∃ (ds200 : List In), n191 = m ∧ GuideCrowd_v1.loop5 x168 n191 q195 q196 = some q190 ∧ NEv 1 (RI .i64) s ds200 q196 ∧ q196.length = q99.length ∧ Rep a 92 [(11, .slice a100 q99.length c101), (17, .pointer (some ⟨b188, 0, none⟩)), (18, .int .i64 q195), (58, .slice a_v0 x1.length c_v0), (59, .int .i64 ((x1.length : Nat) : Int)), (60, .int .i64 ((k133 : Nat) : Int)), (65, .slice a161 x151.Rides.length c162), (66, .int .i64 ((x151.Rides).length : Int)), (67, .int .i64 ((k167 : Nat) : Int))] ∧ St w s (pt b188 (.cells (GuideRide.cells x168).toArray 47 (0, 0)) :: pt b164 (.cells #[.slice a161 x151.Rides.length c162] 28 (0, 0)) :: nestC 45 3 1 a100 c101 q99.length ds200 :: pt b56 (.cells #[.slice a0_0 x0.Trains.length c0_0, .slice a0_1 x0.Turns.length c0_1, .int .i64 0] 94 (0, 0)) :: pt b51 (.cells #[.slice a0_0 x0.Trains.length c0_0, .slice a0_1 x0.Turns.length c0_1] 25 (0, 0)) :: vecC 28 1 a_v0 c_v0 x1.length cs_v0 :: R)) (m := fu) ⟨fu, x168.On, q176, ds180, rfl, hq189, h181, hn182, hE.pick _ ⟨rfl, rfl, rfl, rfl, rfl, rfl, rfl, rfl, rfl, trivial⟩, hS⟩ ?_
          clear hE hS a w hq189; rintro m192 a w ⟨n191, q195, q196, ds200, rfl, hq189, h201, hn202, hE, hS⟩
          refine W.gen fun K203 hK203 => ?_
          rcases n191 with _ | n191
          ·rw [GuideCrowd_v1.loop5] at hq189; exact absurd hq189 (by simp)
          rw [GuideCrowd_v1.loop5] at hq189
          refine W.seq ?_
          refine W.seq (W.region ?_)
          refine vP hS hE (Gives.p hE rfl) rfl ?_; clear hE a; intro a hE
          refine vP hS hE (Gives.fld hE rfl fl47_2) rfl ?_; clear hE a; intro a hE
          refine vP hS hE (Gives.loadB hE 0 rfl rfl rfl ty3) rfl ?_; clear hE a; intro a hE
          refine vP hS hE (Gives.p hE rfl) rfl ?_; clear hE a; intro a hE
          refine WL.nil ?_
          refine W.cond hE rfl (fun hc204 => ?_) (fun hc204 => ?_)
          ·replace hq189 := iteT hc204 hq189
           refine W.skip ?_
           refine W.seq ?_
           refine W.block ?_
           refine W.region ?_
           refine vP hS hE (Gives.p hE rfl) rfl ?_; clear hE a; intro a hE
           refine vP hS hE (Gives.fld hE rfl fl47_0) rfl ?_; clear hE a; intro a hE
           refine vP hS hE (Gives.loadB hE 0 rfl rfl rfl ty3) rfl ?_; clear hE a; intro a hE
           obtain ⟨x205, hx206, hq189⟩ := bindS hq189
           obtain ⟨hi207, hlt208, hy209⟩ := gx_some hx206
           obtain ⟨a210, c211, cs212, hd213, hev214⟩ := h201.at hy209
           refine vP hS hE (Gives.idx hE ((x168.Train).toNat) rfl rfl sl23 hi207 (by have := hn202; omega) (hS.nAok 2 rfl (by have := hn202; omega : (x168.Train).toNat < q99.length))) rfl ?_; clear hE a; intro a hE
           refine vP hS hE (Gives.load1 (v := .slice a210 x205.length c211) hE rfl (fun w h => St.nSees h 2 rfl hd213) ty45) rfl ?_; clear hE a; intro a hE
           refine vP hS hE (Gives.p hE rfl) rfl ?_; clear hE a; intro a hE
           obtain ⟨x215, hx216, hq189⟩ := bindS hq189
           obtain ⟨hi217, hlt218, hy219⟩ := gx_some hx216
           obtain ⟨vs220, hl221, hR222, hd223, hget224⟩ := hev214.at hy219
           subst hR222
           refine vP hS hE (Gives.idx hE ((q195).toNat) rfl rfl sl45 hi217 hlt218 (hS.nnAok 2 rfl hd213 hlt218)) rfl ?_; clear hE a; intro a hE
           refine vP hS hE (Gives.load1 hE rfl (fun w h => St.nnSees h 2 rfl hd213 ((q195).toNat * 1) _ hget224) ty3) rfl ?_; clear hE a; intro a hE
           refine vP hS hE (Gives.p hE rfl) rfl ?_; clear hE a; intro a hE
           replace hS := hS.borrowM 2 rfl hd213
           obtain ⟨_, hx227, hq189⟩ := bindS hq189
           obtain ⟨h228, h229⟩ := ix_some hx227
           refine vP hS hE (Gives.idx hE ((q195).toNat) rfl rfl sl45 h228 (by omega) (hS.vecAok 0 rfl (by omega : (q195).toNat < x205.length))) rfl ?_; clear hE a; intro a hE
           obtain ⟨x231, hx232, hq189⟩ := bindS hq189
           refine WL.setD hE hS 0 rfl (runs_plain rfl) rfl rfl (vs := [.int .i64 (w64 (x215 + 1))]) rfl ty3 rfl rfl rfl hev214 (rfl) (sx_some hx232).1 hx232 rfl rfl ?_; clear hE hS a w; intro cs233 a w h234 hn235 hE hS
           refine WL.nil ?_
           refine W.region ?_
           refine vP hS hE (Gives.p hE rfl) rfl ?_; clear hE a; intro a hE
           refine vP hS hE (Gives.p hE rfl) rfl ?_; clear hE a; intro a hE
           refine vP hS hE (Gives.p hE rfl) rfl ?_; clear hE a; intro a hE
           refine WL.nil ?_
           replace hS := hS.giveBack 2 rfl hd213
           have h237 := h201.set (k := (x168.Train).toNat) (d := ⟨a210, c211, x205.length, cs233⟩) h234 hn235
           have hn238 : (q196.set ((x168.Train).toNat) x231).length = q99.length := by simp; exact hn202
           generalize List.set ds200 ((x168.Train).toNat) _ = ds236 at hS h237
           subst hK203
           exact ⟨n191, Nat.lt_succ_self _, n191, (w64 (q195 + 1)), (q196.set ((x168.Train).toNat) x231), ds236, rfl, hq189, h237, hn238, hE.pick _ ⟨rfl, rfl, rfl, rfl, rfl, rfl, rfl, rfl, rfl, trivial⟩, hS⟩
          ·replace hq189 := iteF hc204 hq189
           subst hK203
           refine W.exit rfl ?_
           exact ⟨q195, q196, ds200, Option.some.inj hq189, h201, hn202, hE.pick _ ⟨rfl, rfl, rfl, rfl, rfl, rfl, rfl, trivial⟩, hS⟩
         ·clear hE hS a w; rintro a w ⟨q195, q196, ds200, rfl, h201, hn202, hE, hS⟩
          dsimp only at hq165
          refine W.region ?_
          refine vP hS hE (Gives.inc hE rfl (by have := h163.small; omega)) rfl ?_; clear hE a; intro a hE
          refine vP hS hE (Gives.p hE rfl) rfl ?_; clear hE a; intro a hE
          refine WL.nil ?_
          replace hS := hS.tail
          subst hK183
          exact ⟨rest169.length, Nat.lt_succ_self _, rest169, k167 + 1, q196, ds200, rfl, hd170, hq165, h201, hn202, hE.pick _ ⟨rfl, rfl, rfl, rfl, rfl, rfl, rfl, trivial⟩, hS⟩
       ·clear hE hS a w; rintro a w ⟨q176, ds180, rfl, h181, hn182, hE, hS⟩
        refine W.region ?_
        refine vP hS hE (Gives.inc hE rfl (by omega)) rfl ?_; clear hE a; intro a hE
        refine vP hS hE (Gives.p hE rfl) rfl ?_; clear hE a; intro a hE
        refine WL.nil ?_
        replace hS := hS.tail
        subst hK150
        exact ⟨rest135, Nat.lt_succ_self _, rest135, k133 + 1, q176, ds180, rfl, (by omega), hq131, h181, hn182, hE.pick _ ⟨rfl, rfl, rfl, rfl, trivial⟩, hS⟩
     ·clear hE hS a w; rintro a w ⟨q143, ds147, rfl, h148, hn149, hE, hS⟩
      refine W.seq (W.region ?_)
      refine vP hS hE (Gives.p hE rfl) rfl ?_; clear hE a; intro a hE
      refine vP hS hE (Gives.p hE rfl) rfl ?_; clear hE a; intro a hE
      refine vP hS hE (Gives.p hE rfl) rfl ?_; clear hE a; intro a hE
      refine WL.nil ?_
      refine W.ret ?_
      have hF := hS.fixN RI.mono 0 rfl h148 hn149; clear hS; obtain ⟨s239, hle240, hS, h241⟩ := hF
      (try rw [← hn149] at hE)
      (try rw [← hn149] at hS)
      replace h0_0 := Sl.mono RApiTrain.mono hle240 h0_0
      replace h0_1 := Sl.mono (RL.mono RI.mono) hle240 h0_1
      replace h_v0 := Ev.mono RGuideJourney.mono hle240 h_v0
      refine finG (fn := Tryd.f20) (rs := [.tmp 4, .tmp 5]) (vs := [_, _]) hE rfl ⟨rfl, rfl, trivial⟩ ?_
      obtain rfl := Option.some.inj hr
      replace hS := hS.tail
      replace hS := hS.tail
      exact ⟨a100, c101, s239, rfl, hle240, h241, hS⟩
set_option maxHeartbeats 8000000 in
theorem FareCarBookings_v1_ok  {w : World} {s : Sg} {R : List HP} {pb0 : Nat} {y0 : FareCar} {a_v0 : Option Addr} {c_v0 n_v0 : Nat} {cs_v0 : List Value} {a_v1 : Option Addr} {c_v1 n_v1 : Nat} {cs_v1 : List Value} (hS : St w s (pt pb0 (.cells #[.int .i64 y0.rows, .int .i64 y0.across, .int .i64 y0.stops, .slice a_v0 n_v0 c_v0, .slice a_v1 n_v1 c_v1] 148 (0, 0)) :: vecC 80 4 a_v0 c_v0 n_v0 cs_v0 :: vecC 4 1 a_v1 c_v1 n_v1 cs_v1 :: R)) (h_v0 : Ev 4 RFareBooking s cs_v0 y0.bookings) (hn_v0 : y0.bookings.length = n_v0) (h_v1 : Ev 1 RB s cs_v1 y0.cancelled) (hn_v1 : y0.cancelled.length = n_v1) {r : (List FareBooking)} (hr : FareCarBookings_v1 y0 = some r) :
  Calls Tryd.prog 41 [.pointer (some ⟨pb0, 0, none⟩)].toArray w (fun e w => ∃ (a0 : Option Addr) (c0 n0 : Nat) (cs0 : List Value) (t : Sg), e = .returned (.slice a0 n0 c0) ∧ s.Le t ∧ Ev 4 RFareBooking t cs0 r ∧ r.length = n0 ∧ St w t (vecC 80 4 a0 c0 n0 cs0 :: pt pb0 (.cells #[.int .i64 y0.rows, .int .i64 y0.across, .int .i64 y0.stops, .slice a_v0 n_v0 c_v0, .slice a_v1 n_v1 c_v1] 148 (0, 0)) :: vecC 80 4 a_v0 c_v0 n_v0 cs_v0 :: vecC 4 1 a_v1 c_v1 n_v1 cs_v1 :: R)) := by
 refine enter Tryd.func41 rfl rfl rfl fun a hE => ?_
 rw [FareCarBookings_v1] at hr
 subst hn_v0
 subst hn_v1
 refine W.seq (W.region ?_)
 refine vP hS hE (Gives.p hE rfl) rfl ?_; clear hE a; intro a hE
 refine WL.nil ?_
 refine W.seq (W.region ?_)
 replace hS := hS.vecNil 80 4
 refine vP hS hE (Gives.p hE rfl) rfl ?_; clear hE a; intro a hE
 refine WL.nil ?_
 refine W.seq ?_
 refine W.seq (W.region ?_)
 refine vP hS hE (Gives.p hE rfl) rfl ?_; clear hE a; intro a hE
 refine vP hS hE (Gives.nilOk hE rfl) rfl ?_; clear hE a; intro a hE
 refine vP hS hE (Gives.fld hE rfl fl148_3) rfl ?_; clear hE a; intro a hE
 refine vP hS hE (Gives.loadB hE 1 rfl rfl rfl ty85) rfl ?_; clear hE a; intro a hE
 refine vP hS hE (Gives.len hE rfl sl85) rfl ?_; clear hE a; intro a hE
 refine vP hS hE (Gives.p hE rfl) rfl ?_; clear hE a; intro a hE
 refine WL.nil ?_
 have hb63 : y0.bookings.length ≤ 9223372036854775807 := by have := hS.vecCap 2 rfl; unfold maxLen at this; omega
 obtain ⟨q53, hq52, hr⟩ := bindS hr
 refine W.cut (fun a w => ∃ (q64 : List FareBooking), ∃ (a65 : Option Addr), ∃ (c66 : Nat), ∃ (n68 : Nat), ∃ (cs69 : List Value), ∃ (s61 : Sg), s.Le s61 ∧ q64 = q53 ∧ Ev 4 RFareBooking s61 cs69 q64 ∧ q64.length = n68 ∧ Rep a 34 [(3, .slice a65 n68 c66)] ∧ St w s61 (vecC 80 4 a65 c66 n68 cs69 :: pt pb0 (.cells #[.int .i64 y0.rows, .int .i64 y0.across, .int .i64 y0.stops, .slice a_v0 y0.bookings.length c_v0, .slice a_v1 y0.cancelled.length c_v1] 148 (0, 0)) :: vecC 80 4 a_v0 c_v0 y0.bookings.length cs_v0 :: vecC 4 1 a_v1 c_v1 y0.cancelled.length cs_v1 :: R)) ?_ ?_
 ·refine W.block ?_
  refine W.loop (fun m a w => ∃ (rest56 : Nat) (k54 : Nat), ∃ (q64 : List FareBooking), ∃ (a65 : Option Addr), ∃ (c66 : Nat), ∃ (n68 : Nat), ∃ (cs69 : List Value), ∃ (s61 : Sg), rest56 = m ∧ k54 + rest56 = y0.bookings.length ∧ s.Le s61 ∧ FareCarBookings_v1.loop1 y0 rest56 k54 q64 = some q53 ∧ Ev 4 RFareBooking s61 cs69 q64 ∧ q64.length = n68 ∧ Rep a 34 [(0, .pointer (some ⟨pb0, 0, none⟩)), (3, .slice a65 n68 c66), (9, .slice a_v0 y0.bookings.length c_v0), (10, .int .i64 ((y0.bookings.length : Nat) : Int)), (11, .int .i64 ((k54 : Nat) : Int))] ∧ St w s61 (vecC 80 4 a65 c66 n68 cs69 :: pt pb0 (.cells #[.int .i64 y0.rows, .int .i64 y0.across, .int .i64 y0.stops, .slice a_v0 y0.bookings.length c_v0, .slice a_v1 y0.cancelled.length c_v1] 148 (0, 0)) :: vecC 80 4 a_v0 c_v0 y0.bookings.length cs_v0 :: vecC 4 1 a_v1 c_v1 y0.cancelled.length cs_v1 :: R)) (m := y0.bookings.length) ⟨y0.bookings.length, 0, [], none, 0, 0, [], s, rfl, by omega, (Sg.Le.refl _), hq52, (Ev.nil), (rfl), hE.pick _ ⟨rfl, rfl, rfl, rfl, rfl, trivial⟩, hS⟩ ?_
  clear hE hS a w hq52; rintro m60 a w ⟨rest56, k54, q64, a65, c66, n68, cs69, s61, rfl, hd57, hle62, hq52, h67, rfl, hE, hS⟩
  refine W.gen fun K71 hK71 => ?_
  replace h_v0 := Ev.mono RFareBooking.mono hle62 h_v0
  replace h_v1 := Ev.mono RB.mono hle62 h_v1
  rcases rest56 with _ | rest56
  ·skip
   refine W.seq (W.region ?_)
   refine vP hS hE (Gives.p hE rfl) rfl ?_; clear hE a; intro a hE
   refine WL.nil ?_
   refine W.seq ?_
   refine W.condF hE rfl (decide_eq_false (by omega)) ?_
   subst hK71
   refine W.exit rfl ?_
   exact ⟨q64, a65, c66, q64.length, cs69, s61, hle62, Option.some.inj hq52, h67, rfl, hE.pick _ ⟨rfl, trivial⟩, hS⟩
  ·have hlt58 : k54 < y0.bookings.length := by omega
   rw [FareCarBookings_v1.loop1] at hq52
   refine W.seq (W.region ?_)
   refine vP hS hE (Gives.p hE rfl) rfl ?_; clear hE a; intro a hE
   refine WL.nil ?_
   refine W.seq ?_
   refine W.condT hE rfl (decide_eq_true (by omega)) ?_
   refine W.skip ?_
   refine W.seq ?_
   refine W.block ?_
   refine W.seq (W.region ?_)
   refine vP hS hE (Gives.p hE rfl) rfl ?_; clear hE a; intro a hE
   obtain ⟨x72, hx73, hq52⟩ := bindS hq52
   obtain ⟨hi74, hlt75, hy76⟩ := gx_some hx73
   obtain ⟨vs77, hl78, hR79, hd80, hget81⟩ := h_v0.at hy76
   obtain ⟨a82, c83, rfl, h84⟩ := hR79
   refine vP hS hE (Gives.idx hE ((((k54 : Nat) : Int)).toNat) rfl rfl sl85 hi74 (by omega) (hS.vecAok 2 rfl (by omega : (((k54 : Nat) : Int)).toNat < y0.bookings.length))) rfl ?_; clear hE a; intro a hE
   refine vP hS hE (Gives.loadA hE rfl (fun w h => St.vecSees h 2 rfl ((((k54 : Nat) : Int)).toNat * 4) _ hget81) ty80) rfl ?_; clear hE a; intro a hE
   refine WL.alloc hE hS (runs_plain rfl) zr80 rfl ?_; clear hE hS a w; intro b85 a w hE hS
   refine vP hS hE (Gives.p hE rfl) rfl ?_; clear hE a; intro a hE
   refine WL.storeI hE hS 0 rfl [.int .i64 x72.No, .int .i64 x72.From, .int .i64 x72.To, .slice a82 x72.Seats.length c83] (runs_plain rfl) rfl rfl rfl ty80 rfl rfl rfl rfl ?_; clear hE hS a w; intro a w hE hS
   refine WL.nil ?_
   refine W.seq (W.region ?_)
   refine vP hS hE (Gives.p hE rfl) rfl ?_; clear hE a; intro a hE
   refine vP hS hE (Gives.nilOk hE rfl) rfl ?_; clear hE a; intro a hE
   refine vP hS hE (Gives.fld hE rfl fl148_4) rfl ?_; clear hE a; intro a hE
   refine vP hS hE (Gives.loadB hE 2 rfl rfl rfl ty146) rfl ?_; clear hE a; intro a hE
   refine vP hS hE (Gives.p hE rfl) rfl ?_; clear hE a; intro a hE
   obtain ⟨x86, hx87, hq52⟩ := bindS hq52
   obtain ⟨hi88, hlt89, hy90⟩ := gx_some hx87
   obtain ⟨vs91, hl92, hR93, hd94, hget95⟩ := h_v1.at hy90
   subst hR93
   refine vP hS hE (Gives.idx hE ((((k54 : Nat) : Int)).toNat) rfl rfl sl146 hi88 (by omega) (hS.vecAok 4 rfl (by omega : (((k54 : Nat) : Int)).toNat < y0.cancelled.length))) rfl ?_; clear hE a; intro a hE
   refine vP hS hE (Gives.load1 hE rfl (fun w h => St.vecSees h 4 rfl ((((k54 : Nat) : Int)).toNat * 1) _ hget95) ty4) rfl ?_; clear hE a; intro a hE
   refine vP hS hE (Gives.p hE rfl) rfl ?_; clear hE a; intro a hE
   refine WL.nil ?_
   obtain ⟨q97, hq96, hq52⟩ := bindS hq52
   refine W.cut (fun a w => ∃ (q100 : List FareBooking), ∃ (q107 : List Int), ∃ (a101 : Option Addr), ∃ (c102 : Nat), ∃ (n104 : Nat), ∃ (cs105 : List Value), ∃ (a108 : Option Addr), ∃ (c109 : Nat), ∃ (s98 : Sg), s61.Le s98 ∧ (q100, q107) = q97 ∧ Ev 4 RFareBooking s98 cs105 q100 ∧ q100.length = n104 ∧ Sl 1 (RI .i64) s98 a108 c109 q107 ∧ Rep a 34 [(0, .pointer (some ⟨pb0, 0, none⟩)), (3, .slice a101 n104 c102), (9, .slice a_v0 y0.bookings.length c_v0), (10, .int .i64 ((y0.bookings.length : Nat) : Int)), (11, .int .i64 ((k54 : Nat) : Int))] ∧ St w s98 (pt b85 (.cells #[.int .i64 x72.No, .int .i64 x72.From, .int .i64 x72.To, .slice a108 q107.length c109] 80 (0, 0)) :: vecC 80 4 a101 c102 n104 cs105 :: pt pb0 (.cells #[.int .i64 y0.rows, .int .i64 y0.across, .int .i64 y0.stops, .slice a_v0 y0.bookings.length c_v0, .slice a_v1 y0.cancelled.length c_v1] 148 (0, 0)) :: vecC 80 4 a_v0 c_v0 y0.bookings.length cs_v0 :: vecC 4 1 a_v1 c_v1 y0.cancelled.length cs_v1 :: R)) ?_ ?_
   ·refine W.gen fun K111 hK111 => ?_
    refine W.cond hE rfl (fun hc112 => ?_) (fun hc112 => ?_)
    ·replace hq96 := iteT hc112 hq96
     refine W.seq (W.region ?_)
     refine vP hS hE (Gives.fld hE rfl fl80_3) rfl ?_; clear hE a; intro a hE
     refine vP hS hE (Gives.loadB hE 0 rfl rfl rfl ty45) rfl ?_; clear hE a; intro a hE
     obtain ⟨q113, hq114, hq96⟩ := bindS hq96
     have hc_ := SlicesCloneLint_ok hS h84 hq114
     refine WL.fnq hE (hc_) (runs_plain rfl) bd45 rfl rfl rfl ?_
     clear hE hS hc_; rintro e w ⟨a115, c116, n117, cs118, rfl, h119, rfl, hS⟩; refine ⟨_, rfl, ?_⟩; clear a; intro a hE
     refine vP hS hE (Gives.fld hE rfl fl80_3) rfl ?_; clear hE a; intro a hE
     refine WL.storeI hE hS 1 rfl [.int .i64 x72.No, .int .i64 x72.From, .int .i64 x72.To, .slice a115 q113.length c116] (runs_plain rfl) rfl rfl rfl ty45 rfl rfl rfl rfl ?_; clear hE hS a w; intro a w hE hS
     refine WL.nil ?_
     refine W.region ?_
     refine vP hS hE (Gives.p hE rfl) rfl ?_; clear hE a; intro a hE
     refine vP hS hE (Gives.loadBA hE 1 rfl rfl ty80) rfl ?_; clear hE a; intro a hE
     have hF := hS.fixD RI.mono 0 rfl h119 rfl; clear hS; obtain ⟨s121, hle122, hS, h123⟩ := hF
     replace h84 := Sl.mono RI.mono hle122 h84
     replace h67 := Ev.mono RFareBooking.mono hle122 h67
     replace h_v0 := Ev.mono RFareBooking.mono hle122 h_v0
     replace h_v1 := Ev.mono RB.mono hle122 h_v1
     refine WL.lit hE hS (e := 80) (es := 4) (vs := [(0, .agg (List.toArray [.int .i64 x72.No, .int .i64 x72.From, .int .i64 x72.To, .slice a115 q113.length c116]))]) (cs := [.int .i64 x72.No, .int .i64 x72.From, .int .i64 x72.To, .slice a115 q113.length c116]) (runs_plain rfl) rfl (by kernel_rfl) rfl ?_; clear hE hS a w; intro b124 a w hE hS
     obtain ⟨x125, hx126, hq96⟩ := bindS hq96
     refine WL.appD hE hS 1 (m := 1) (runs_plain rfl) rfl rfl rfl ap85 rfl h67 rfl (xs := [(FareBooking.mk x72.No x72.From x72.To q113)]) (Ev.cons (c1 := [.int .i64 x72.No, .int .i64 x72.From, .int .i64 x72.To, .slice a115 q113.length c116]) ⟨_, _, rfl, h123⟩ rfl (Ev.nil)) rfl rfl hx126 rfl ?_; clear hE hS a w; intro a127 c128 cs129 a w h130 hE hS
     refine vP hS hE (Gives.p hE rfl) rfl ?_; clear hE a; intro a hE
     refine WL.nil ?_
     subst hK111
     exact ⟨x125, q113, a127, c128, x125.length, cs129, a115, c116, s121, hle122, Option.some.inj hq96, h130, (rfl), h123, hE.pick _ ⟨rfl, rfl, rfl, rfl, rfl, trivial⟩, hS⟩
    ·replace hq96 := iteF hc112 hq96
     refine W.skip ?_
     subst hK111
     exact ⟨q64, x72.Seats, a65, c66, q64.length, cs69, a82, c83, s61, (Sg.Le.refl _), Option.some.inj hq96, h67, rfl, h84, hE.pick _ ⟨rfl, rfl, rfl, rfl, rfl, trivial⟩, hS⟩
   ·clear hE hS a w; rintro a w ⟨q100, q107, a101, c102, n104, cs105, a108, c109, s98, hle99, rfl, h103, rfl, h110, hE, hS⟩
    dsimp only at hq52
    replace h84 := Sl.mono RI.mono hle99 h84
    replace h67 := Ev.mono RFareBooking.mono hle99 h67
    replace h_v0 := Ev.mono RFareBooking.mono hle99 h_v0
    replace h_v1 := Ev.mono RB.mono hle99 h_v1
    refine W.region ?_
    refine vP hS hE (Gives.inc hE rfl (by omega)) rfl ?_; clear hE a; intro a hE
    refine vP hS hE (Gives.p hE rfl) rfl ?_; clear hE a; intro a hE
    refine WL.nil ?_
    replace hS := hS.tail
    subst hK71
    exact ⟨rest56, Nat.lt_succ_self _, rest56, k54 + 1, q100, a101, c102, q100.length, cs105, s98, rfl, (by omega), (Sg.Le.trans hle62 hle99), hq52, h103, rfl, hE.pick _ ⟨rfl, rfl, rfl, rfl, rfl, trivial⟩, hS⟩
 ·clear hE hS a w; rintro a w ⟨q64, a65, c66, n68, cs69, s61, hle62, rfl, h67, rfl, hE, hS⟩
  replace h_v0 := Ev.mono RFareBooking.mono hle62 h_v0
  replace h_v1 := Ev.mono RB.mono hle62 h_v1
  refine W.seq (W.region ?_)
  refine vP hS hE (Gives.p hE rfl) rfl ?_; clear hE a; intro a hE
  refine vP hS hE (Gives.p hE rfl) rfl ?_; clear hE a; intro a hE
  refine WL.nil ?_
  refine W.ret ?_
  refine finG (fn := Tryd.f41) (rs := [.tmp 2]) (vs := [_]) hE rfl ⟨rfl, trivial⟩ ?_
  obtain rfl := Option.some.inj hr
  exact ⟨a65, c66, q64.length, cs69, s61, rfl, hle62, h67, rfl, hS⟩
set_option maxHeartbeats 8000000 in
theorem FareCarFree_v1_ok {fu : Nat}  {w : World} {s : Sg} {R : List HP} {pb0 : Nat} {x1 : Int} {x2 : Int} {y0 : FareCar} {a_v0 : Option Addr} {c_v0 n_v0 : Nat} {cs_v0 : List Value} {a_v1 : Option Addr} {c_v1 n_v1 : Nat} {cs_v1 : List Value} (hS : St w s (pt pb0 (.cells #[.int .i64 y0.rows, .int .i64 y0.across, .int .i64 y0.stops, .slice a_v0 n_v0 c_v0, .slice a_v1 n_v1 c_v1] 148 (0, 0)) :: vecC 80 4 a_v0 c_v0 n_v0 cs_v0 :: vecC 4 1 a_v1 c_v1 n_v1 cs_v1 :: R)) (h_v0 : Ev 4 RFareBooking s cs_v0 y0.bookings) (hn_v0 : y0.bookings.length = n_v0) (h_v1 : Ev 1 RB s cs_v1 y0.cancelled) (hn_v1 : y0.cancelled.length = n_v1) {r : (List Int) × Int} (hr : FareCarFree_v1 fu x1 x2 y0 = some r) :
  Calls Tryd.prog 42 [.pointer (some ⟨pb0, 0, none⟩), .int .i64 x1, .int .i64 x2].toArray w (fun e w => ∃ (a0 : Option Addr) (c0 n0 : Nat) (cs0 : List Value), e = .returned (.tuple #[.slice a0 n0 c0, .int .i64 r.2]) ∧ Ev 1 (RI .i64) s cs0 r.1 ∧ r.1.length = n0 ∧ St w s (vecC 3 1 a0 c0 n0 cs0 :: pt pb0 (.cells #[.int .i64 y0.rows, .int .i64 y0.across, .int .i64 y0.stops, .slice a_v0 n_v0 c_v0, .slice a_v1 n_v1 c_v1] 148 (0, 0)) :: vecC 80 4 a_v0 c_v0 n_v0 cs_v0 :: vecC 4 1 a_v1 c_v1 n_v1 cs_v1 :: R)) := by
 refine enter Tryd.func42 rfl rfl rfl fun a hE => ?_
 rw [FareCarFree_v1] at hr
 subst hn_v0
 subst hn_v1
 refine W.seq (W.region ?_)
 refine vP hS hE (Gives.p hE rfl) rfl ?_; clear hE a; intro a hE
 refine vP hS hE (Gives.p hE rfl) rfl ?_; clear hE a; intro a hE
 refine WL.nil ?_
 refine W.seq ?_
 refine W.seq (W.region ?_)
 refine vP hS hE (Gives.p hE rfl) rfl ?_; clear hE a; intro a hE
 refine vP hS hE (Gives.p hE rfl) rfl ?_; clear hE a; intro a hE
 refine vP hS hE (Gives.p hE rfl) rfl ?_; clear hE a; intro a hE
 refine vP hS hE (Gives.nilOk hE rfl) rfl ?_; clear hE a; intro a hE
 refine vP hS hE (Gives.fld hE rfl fl148_2) rfl ?_; clear hE a; intro a hE
 refine vP hS hE (Gives.loadB hE 0 rfl rfl rfl ty3) rfl ?_; clear hE a; intro a hE
 refine WL.fnq hE (Farespan_ok hS  rfl (r := Farespan x1 x2 y0.stops)) (runs_plain rfl) bd90 rfl rfl rfl ?_
 clear hE hS; rintro e w ⟨rfl, hS⟩; refine ⟨_, rfl, ?_⟩; clear a; intro a hE
 refine vP hS hE (Gives.p hE rfl) rfl ?_; clear hE a; intro a hE
 refine WL.nil ?_
 refine W.cond hE rfl (fun hc51 => ?_) (fun hc51 => ?_)
 ·replace hr := iteT hc51 hr
  refine W.seq (W.region ?_)
  refine vP hS hE (Gives.p hE rfl) rfl ?_; clear hE a; intro a hE
  refine vP hS hE (Gives.p hE rfl) rfl ?_; clear hE a; intro a hE
  refine WL.nil ?_
  refine W.ret ?_
  replace hS := hS.vecNil 3 1
  refine finG (fn := Tryd.f42) (rs := [.tmp 6, .tmp 7]) (vs := [_, _]) hE rfl ⟨rfl, rfl, trivial⟩ ?_
  obtain rfl := Option.some.inj hr
  exact ⟨none, 0, 0, [], rfl, (Ev.nil), (rfl), hS⟩
 ·replace hr := iteF hc51 hr
  refine W.skip ?_
  refine W.seq (W.region ?_)
  refine vP hS hE (Gives.p hE rfl) rfl ?_; clear hE a; intro a hE
  refine vP hS hE (Gives.p hE rfl) rfl ?_; clear hE a; intro a hE
  refine vP hS hE (Gives.p hE rfl) rfl ?_; clear hE a; intro a hE
  obtain ⟨q53, hq54, hr⟩ := bindS hr
  have hc_ := FareCarfree_v1_ok (y0 := y0) hS h_v0 (rfl) h_v1 (rfl) hq54
  refine WL.fnq hE (hc_) (runs_plain rfl) bd91 rfl rfl rfl ?_
  clear hE hS hc_; rintro e w ⟨a55, c56, n57, cs58, rfl, h59, rfl, hS⟩; refine ⟨_, rfl, ?_⟩; clear a; intro a hE
  refine vP hS hE (Gives.p hE rfl) rfl ?_; clear hE a; intro a hE
  refine vP hS hE (Gives.p hE rfl) rfl ?_; clear hE a; intro a hE
  refine WL.nil ?_
  refine W.ret ?_
  refine finG (fn := Tryd.f42) (rs := [.tmp 6, .tmp 7]) (vs := [_, _]) hE rfl ⟨rfl, rfl, trivial⟩ ?_
  obtain rfl := Option.some.inj hr
  exact ⟨a55, c56, q53.length, cs58, rfl, h59, rfl, hS⟩
set_option maxHeartbeats 8000000 in
theorem FishtopTopSeated_ok {fu : Nat}  {w : World} {s : Sg} {R : List HP} {x0 : ApiDay} {a0_0 : Option Addr} {c0_0 : Nat} {a0_1 : Option Addr} {c0_1 : Nat} {x1 : List GuideJourney} {a1 : Option Addr} {c1 : Nat} {x2 : Int} {x3 : Int} {x4 : List Int} {a4 : Option Addr} {c4 : Nat} (hS : St w s (R)) (hTab : TabS Tryd.prog s) (h0_0 : Sl 4 RApiTrain s a0_0 c0_0 x0.Trains) (h0_1 : Sl 1 (RL 1 (RI .i64)) s a0_1 c0_1 x0.Turns) (h1 : Sl 1 RGuideJourney s a1 c1 x1) (h4 : Sl 1 (RI .i64) s a4 c4 x4) {r : Bool} (hr : FishtopTopSeated fu x0 x1 x2 x3 x4 = some r) :
  Calls Tryd.prog 9 [.agg (List.toArray [.slice a0_0 x0.Trains.length c0_0, .slice a0_1 x0.Turns.length c0_1]), .slice a1 x1.length c1, .int .i64 x2, .int .i64 x3, .slice a4 x4.length c4].toArray w (fun e w => e = .returned (.bool r) ∧ St w s (R)) := by
 refine enter Tryd.func9 rfl rfl rfl fun a hE => ?_
 rw [FishtopTopSeated] at hr
 refine W.seq (W.region ?_)
 refine WL.box hE hS (runs_plain rfl) rfl rfl rfl ?_; clear hE hS a w; intro b51 a w hE hS
 refine vP hS hE (Gives.p hE rfl) rfl ?_; clear hE a; intro a hE
 refine WL.nil ?_
 refine W.seq ?_
 refine W.seq (W.region ?_)
 obtain ⟨q52, hq53, hr⟩ := bindS hr
 have hc_ := FishtopawakeGuide_ok hS (TabS.mono (Sg.Le.refl _) hTab) hq53
 refine WL.fnq hE (hc_) (runs_plain rfl) bd36 rfl rfl rfl ?_
 clear hE hS hc_; rintro e w ⟨rfl, hS⟩; refine ⟨_, rfl, ?_⟩; clear a; intro a hE
 refine vP hS hE (Gives.p hE rfl) rfl ?_; clear hE a; intro a hE
 refine WL.nil ?_
 refine W.cond hE rfl (fun hc54 => ?_) (fun hc54 => ?_)
 ·replace hr := iteT hc54 hr
  refine W.seq (W.region ?_)
  refine vP hS hE (Gives.p hE rfl) rfl ?_; clear hE a; intro a hE
  refine WL.nil ?_
  refine W.ret ?_
  refine finG (fn := Tryd.f9) (rs := [.tmp 10]) (vs := [_]) hE rfl ⟨rfl, trivial⟩ ?_
  obtain rfl := Option.some.inj hr
  replace hS := hS.tail
  exact ⟨rfl, hS⟩
 ·replace hr := iteF hc54 hr
  refine W.skip ?_
  refine W.seq ?_
  refine W.seq ?_
  obtain ⟨q56, hq55, hr⟩ := bindS hr
  refine W.cut (fun a w => ∃ (q59 : Bool), q59 = q56 ∧ Rep a 266 [(1, .slice a1 x1.length c1), (2, .int .i64 x2), (3, .int .i64 x3), (4, .slice a4 x4.length c4), (5, .pointer (some ⟨b51, 0, none⟩)), (45, .bool q59)] ∧ St w s (pt b51 (.cells #[.slice a0_0 x0.Trains.length c0_0, .slice a0_1 x0.Turns.length c0_1] 25 (0, 0)) :: R)) ?_ ?_
  ·refine W.gen fun K60 hK60 => ?_
   refine W.region ?_
   refine vP hS hE (Gives.loadBA hE 0 rfl rfl ty25) rfl ?_; clear hE a; intro a hE
   obtain ⟨q61, hq62, hq55⟩ := bindS hq55
   have hc_ := Fishref2GuideFault_ok hS h0_0 h0_1 hq62
   refine WL.fnq hE (hc_) (runs_plain rfl) bd12 rfl rfl rfl ?_
   clear hE hS hc_; rintro e w ⟨rfl, hS⟩; refine ⟨_, rfl, ?_⟩; clear a; intro a hE
   refine vP hS hE (Gives.p hE rfl) rfl ?_; clear hE a; intro a hE
   refine vP hS hE (Gives.p hE rfl) rfl ?_; clear hE a; intro a hE
   rcases Bool.eq_false_or_eq_true (q61 != 0) with hg63 | hg63
   ·replace hq55 := iteT hg63 hq55
    refine WL.no hE (runs_not hE rfl rfl rfl (by rw [hg63]; decide)) rfl ?_; clear hE a; intro a hE
    refine WL.no hE (runs_not hE rfl rfl rfl (by rw [hg63]; decide)) rfl ?_; clear hE a; intro a hE
    refine WL.no hE (runs_not hE rfl rfl rfl (by rw [hg63]; decide)) rfl ?_; clear hE a; intro a hE
    refine vP hS hE (Gives.pickT hE rfl hg63 rfl) rfl ?_; clear hE a; intro a hE
    refine WL.nil ?_
    subst hK60
    exact ⟨true, Option.some.inj hq55, hE.pick _ ⟨rfl, rfl, rfl, rfl, rfl, rfl, trivial⟩, hS⟩
   ·replace hq55 := iteF hg63 hq55
    refine WL.vS hS hE (runs_if hE rfl rfl rfl hg63) (Gives.p hE rfl) rfl ?_; clear hE a; intro a hE
    refine WL.vS hS hE (runs_if hE rfl rfl rfl hg63) (Gives.len hE rfl sl39) rfl ?_; clear hE a; intro a hE
    refine WL.vS hS hE (runs_if hE rfl rfl rfl hg63) (Gives.p hE rfl) rfl ?_; clear hE a; intro a hE
    refine vP hS hE (Gives.pickF hE rfl hg63 rfl) rfl ?_; clear hE a; intro a hE
    refine WL.nil ?_
    subst hK60
    exact ⟨decide (((x1).length : Int) > 100), Option.some.inj hq55, hE.pick _ ⟨rfl, rfl, rfl, rfl, rfl, rfl, trivial⟩, hS⟩
  ·clear hE hS a w; rintro a w ⟨q59, rfl, hE, hS⟩
   refine W.cond hE rfl (fun hc64 => ?_) (fun hc64 => ?_)
   ·replace hr := iteT hc64 hr
    refine W.seq (W.region ?_)
    refine vP hS hE (Gives.p hE rfl) rfl ?_; clear hE a; intro a hE
    refine WL.nil ?_
    refine W.ret ?_
    refine finG (fn := Tryd.f9) (rs := [.tmp 10]) (vs := [_]) hE rfl ⟨rfl, trivial⟩ ?_
    obtain rfl := Option.some.inj hr
    replace hS := hS.tail
    exact ⟨rfl, hS⟩
   ·replace hr := iteF hc64 hr
    refine W.skip ?_
    refine W.seq (W.region ?_)
    replace hS := hS.vecNil 76 1
    replace hS := hS.oNil
    have hl66 : OLink 1 ObFareCar s [] [] ([] : List FareCar) := OLink.nil
    refine vP hS hE (Gives.p hE rfl) rfl ?_; clear hE a; intro a hE
    refine WL.nil ?_
    refine W.seq ?_
    refine W.seq (W.region ?_)
    refine vP hS hE (Gives.fld hE rfl fl25_0) rfl ?_; clear hE a; intro a hE
    refine vP hS hE (Gives.loadB hE 2 rfl rfl rfl ty22) rfl ?_; clear hE a; intro a hE
    refine vP hS hE (Gives.len hE rfl sl22) rfl ?_; clear hE a; intro a hE
    refine vP hS hE (Gives.p hE rfl) rfl ?_; clear hE a; intro a hE
    refine WL.nil ?_
    obtain ⟨q69, hq68, hr⟩ := bindS hr
    refine W.cut (fun a w => ∃ (q79 : List FareCar), ∃ (a80 : Option Addr), ∃ (c81 : Nat), ∃ (n83 : Nat), ∃ (cs84 : List Value), ∃ (hs86 : List HP), ∃ (s77 : Sg), s.Le s77 ∧ (.next q79) = q69 ∧ Ev 1 (RO : Rd FareCar) s77 cs84 q79 ∧ q79.length = n83 ∧ OLink 1 ObFareCar s77 cs84 hs86 q79 ∧ Rep a 266 [(1, .slice a1 x1.length c1), (2, .int .i64 x2), (3, .int .i64 x3), (4, .slice a4 x4.length c4), (5, .pointer (some ⟨b51, 0, none⟩)), (11, .slice a80 n83 c81)] ∧ St w s77 (allC hs86 :: vecC 76 1 a80 c81 n83 cs84 :: pt b51 (.cells #[.slice a0_0 x0.Trains.length c0_0, .slice a0_1 x0.Turns.length c0_1] 25 (0, 0)) :: R)) ?_ ?_
    ·refine W.block ?_
     refine W.loop (fun m a w => ∃ (rest72 : List ApiTrain) (k70 : Nat), ∃ (q79 : List FareCar), ∃ (a80 : Option Addr), ∃ (c81 : Nat), ∃ (n83 : Nat), ∃ (cs84 : List Value), ∃ (hs86 : List HP), ∃ (s77 : Sg), rest72.length = m ∧ x0.Trains.drop k70 = rest72 ∧ s.Le s77 ∧ FishtopTopSeated.loop1 x2 x3 rest72 q79 = some q69 ∧ Ev 1 (RO : Rd FareCar) s77 cs84 q79 ∧ q79.length = n83 ∧ OLink 1 ObFareCar s77 cs84 hs86 q79 ∧ Rep a 266 [(1, .slice a1 x1.length c1), (2, .int .i64 x2), (3, .int .i64 x3), (4, .slice a4 x4.length c4), (5, .pointer (some ⟨b51, 0, none⟩)), (11, .slice a80 n83 c81), (47, .slice a0_0 x0.Trains.length c0_0), (48, .int .i64 ((x0.Trains).length : Int)), (49, .int .i64 ((k70 : Nat) : Int))] ∧ St w s77 (allC hs86 :: vecC 76 1 a80 c81 n83 cs84 :: pt b51 (.cells #[.slice a0_0 x0.Trains.length c0_0, .slice a0_1 x0.Turns.length c0_1] 25 (0, 0)) :: R)) (m := x0.Trains.length) ⟨x0.Trains, 0, [], none, 0, 0, [], [], s, rfl, rfl, (Sg.Le.refl _), hq68, (Ev.nil), (rfl), hl66, hE.pick _ ⟨rfl, rfl, rfl, rfl, rfl, rfl, rfl, rfl, rfl, trivial⟩, hS⟩ ?_
     clear hE hS a w hq68; rintro m76 a w ⟨rest72, k70, q79, a80, c81, n83, cs84, hs86, s77, rfl, hd73, hle78, hq68, h82, rfl, hl87, hE, hS⟩
     refine W.gen fun K88 hK88 => ?_
     replace h1 := Sl.mono RGuideJourney.mono hle78 h1
     replace h4 := Sl.mono RI.mono hle78 h4
     replace h0_0 := Sl.mono RApiTrain.mono hle78 h0_0
     replace hl66 := OLink.mono ObFareCar.mono hle78 hl66
     replace h0_1 := Sl.mono (RL.mono RI.mono) hle78 h0_1
     rcases rest72 with _ | ⟨x71, rest72⟩
     ·have hlt74 := drop_nil hd73
      refine W.seq (W.region ?_)
      refine vP hS hE (Gives.p hE rfl) rfl ?_; clear hE a; intro a hE
      refine WL.nil ?_
      refine W.seq ?_
      refine W.condF hE rfl (decide_eq_false (by omega)) ?_
      subst hK88
      refine W.exit rfl ?_
      exact ⟨q79, a80, c81, q79.length, cs84, hs86, s77, hle78, Option.some.inj hq68, h82, rfl, hl87, hE.pick _ ⟨rfl, rfl, rfl, rfl, rfl, rfl, trivial⟩, hS⟩
     ·obtain ⟨hlt74, hx75, hd73⟩ := drop_cons hd73
      rw [FishtopTopSeated.loop1] at hq68
      refine W.seq (W.region ?_)
      refine vP hS hE (Gives.p hE rfl) rfl ?_; clear hE a; intro a hE
      refine WL.nil ?_
      refine W.seq ?_
      refine W.condT hE rfl (decide_eq_true (by omega)) ?_
      refine W.skip ?_
      refine W.seq ?_
      refine W.block ?_
      refine W.seq (W.region ?_)
      obtain ⟨cs89, hl90, hR91, hat92⟩ := h0_0.at hx75
      obtain ⟨a93, c94, a96, c97, rfl, h95, h98⟩ := hR91
      refine vP hS hE (Gives.idx hE k70 rfl rfl sl22 rfl hlt74 (h0_0.aok hlt74)) rfl ?_; clear hE a; intro a hE
      refine vP hS hE (Gives.loadA hE rfl (fun w h => hat92 w _ h) ty44) rfl ?_; clear hE a; intro a hE
      refine WL.alloc hE hS (runs_plain rfl) zr44 rfl ?_; clear hE hS a w; intro b99 a w hE hS
      refine WL.storeI hE hS 0 rfl [.int .i64 x71.No, .int .i64 x71.Stock, .slice a93 x71.Stops.length c94, .slice a96 x71.Legs.length c97] (runs_plain rfl) rfl rfl rfl ty44 rfl rfl rfl rfl ?_; clear hE hS a w; intro a w hE hS
      refine WL.nil ?_
      refine W.seq (W.region ?_)
      refine vP hS hE (Gives.p hE rfl) rfl ?_; clear hE a; intro a hE
      refine vP hS hE (Gives.p hE rfl) rfl ?_; clear hE a; intro a hE
      refine vP hS hE (Gives.fld hE rfl fl44_2) rfl ?_; clear hE a; intro a hE
      refine vP hS hE (Gives.loadB hE 0 rfl rfl rfl ty42) rfl ?_; clear hE a; intro a hE
      refine vP hS hE (Gives.len hE rfl sl42) rfl ?_; clear hE a; intro a hE
      obtain ⟨q100, hq101, hq68⟩ := bndS hq68
      have hc_ := FareNewCar_ok hS  hq101
      refine WL.fnq hE (hc_) (runs_plain rfl) bd37 rfl rfl rfl ?_
      clear hE hS hc_; rintro e w (⟨s104, hz102, rfl, hle105, hS⟩ | ⟨d106, b107, a108, c109, n110, cs111, a114, c115, n116, cs117, s104, hz103, rfl, hle105, h112, rfl, h118, rfl, hS⟩)
      ·refine ⟨_, rfl, ?_⟩; clear a; intro a hE
       replace h1 := Sl.mono RGuideJourney.mono hle105 h1
       replace h4 := Sl.mono RI.mono hle105 h4
       replace h0_0 := Sl.mono RApiTrain.mono hle105 h0_0
       replace h95 := Sl.mono RApiStop.mono hle105 h95
       replace h98 := Sl.mono (RL.mono RI.mono) hle105 h98
       replace h82 := Ev.mono RO.mono hle105 h82
       replace hl87 := OLink.mono ObFareCar.mono hle105 hl87
       replace h0_1 := Sl.mono (RL.mono RI.mono) hle105 h0_1
       rw [hz102] at hq68; dsimp only at hq68
       refine vP hS hE (Gives.p hE rfl) rfl ?_; clear hE a; intro a hE
       refine vP hS hE (Gives.p hE rfl) rfl ?_; clear hE a; intro a hE
       refine vP hS hE (Gives.p hE rfl) rfl ?_; clear hE a; intro a hE
       refine vP hS hE (Gives.p hE rfl) rfl ?_; clear hE a; intro a hE
       refine vP hS hE (Gives.p hE rfl) rfl ?_; clear hE a; intro a hE
       refine WL.nil ?_
       refine W.seq ?_
       refine W.seq (W.region ?_)
       refine vP hS hE (Gives.p hE rfl) rfl ?_; clear hE a; intro a hE
       refine vP hS hE (Gives.p hE rfl) rfl ?_; clear hE a; intro a hE
       refine WL.nil ?_
       refine W.cond hE rfl (fun hc120 => ?_) (fun hc120 => ?_)
       ·replace hq68 := iteT hc120 hq68
        refine W.seq ?_
        obtain ⟨q122, hq121, hq68⟩ := bndS hq68
        refine W.cut (fun a w => ∃ (q125 : Bool), q125 = q122 ∧ Rep a 266 [(10, .bool q125)] ∧ St w s104 (pt b99 (.cells #[.int .i64 x71.No, .int .i64 x71.Stock, .slice a93 x71.Stops.length c94, .slice a96 x71.Legs.length c97] 44 (0, 0)) :: allC hs86 :: pt b51 (.cells #[.slice a0_0 x0.Trains.length c0_0, .slice a0_1 x0.Turns.length c0_1] 25 (0, 0)) :: R)) ?_ ?_
        ·refine W.gen fun K126 hK126 => ?_
         refine W.region ?_
         refine vP hS hE (Gives.p hE rfl) rfl ?_; clear hE a; intro a hE
         refine vP hS hE (Gives.p hE rfl) rfl ?_; clear hE a; intro a hE
         refine vP hS hE (Gives.p hE rfl) rfl ?_; clear hE a; intro a hE
         rcases Bool.eq_false_or_eq_true (q100.2 == 2) with hg127 | hg127
         ·replace hq121 := iteT hg127 hq121
          refine WL.vS hS hE (runs_if hE rfl rfl rfl hg127) (Gives.p hE rfl) rfl ?_; clear hE a; intro a hE
          refine WL.vS hS hE (runs_if hE rfl rfl rfl hg127) (Gives.isNilP hE rfl rfl pk76) rfl ?_; clear hE a; intro a hE
          refine vP hS hE (Gives.pickT hE rfl hg127 rfl) rfl ?_; clear hE a; intro a hE
          refine vP hS hE (Gives.p hE rfl) rfl ?_; clear hE a; intro a hE
          refine WL.nil ?_
          replace hS := hS.dropAt 2
          subst hK126
          exact ⟨true, hq121, hE.pick _ ⟨rfl, trivial⟩, hS⟩
         ·replace hq121 := iteF hg127 hq121
          refine WL.no hE (runs_not hE rfl rfl rfl (by rw [hg127]; decide)) rfl ?_; clear hE a; intro a hE
          refine WL.no hE (runs_not hE rfl rfl rfl (by rw [hg127]; decide)) rfl ?_; clear hE a; intro a hE
          refine vP hS hE (Gives.pickF hE rfl hg127 rfl) rfl ?_; clear hE a; intro a hE
          refine vP hS hE (Gives.p hE rfl) rfl ?_; clear hE a; intro a hE
          refine WL.nil ?_
          replace hS := hS.dropAt 2
          subst hK126
          exact ⟨false, hq121, hE.pick _ ⟨rfl, trivial⟩, hS⟩
        ·clear hE hS a w; rintro a w ⟨q125, rfl, hE, hS⟩
         refine W.ret ?_
         subst hK88
         rw [← Option.some.inj hq68] at hr
         dsimp only at hr
         refine finG (fn := Tryd.f9) (rs := [.tmp 10]) (vs := [_]) hE rfl ⟨rfl, trivial⟩ ?_
         obtain rfl := Option.some.inj hr
         replace hS := hS.tail
         replace hS := hS.tail
         replace hS := hS.tail
         exact ⟨rfl, (hS.down (Sg.Le.trans hle78 hle105))⟩
       ·replace hq68 := iteF hc120 hq68
        refine W.skip ?_
        refine W.seq ?_
        refine W.seq (W.region ?_)
        refine vP hS hE (Gives.p hE rfl) rfl ?_; clear hE a; intro a hE
        refine vP hS hE (Gives.isNilP hE rfl rfl pk76) rfl ?_; clear hE a; intro a hE
        refine WL.nil ?_
        refine W.condT hE rfl rfl ?_
        refine W.seq (W.region ?_)
        refine vP hS hE (Gives.p hE rfl) rfl ?_; clear hE a; intro a hE
        refine WL.nil ?_
        refine W.ret ?_
        subst hK88
        rw [← Option.some.inj hq68] at hr
        dsimp only at hr
        refine finG (fn := Tryd.f9) (rs := [.tmp 10]) (vs := [_]) hE rfl ⟨rfl, trivial⟩ ?_
        obtain rfl := Option.some.inj hr
        replace hS := hS.tail
        replace hS := hS.tail
        replace hS := hS.tail
        replace hS := hS.tail
        exact ⟨rfl, (hS.down (Sg.Le.trans hle78 hle105))⟩
      ·refine ⟨_, rfl, ?_⟩; clear a; intro a hE
       replace h1 := Sl.mono RGuideJourney.mono hle105 h1
       replace h4 := Sl.mono RI.mono hle105 h4
       replace h0_0 := Sl.mono RApiTrain.mono hle105 h0_0
       replace h95 := Sl.mono RApiStop.mono hle105 h95
       replace h98 := Sl.mono (RL.mono RI.mono) hle105 h98
       replace h82 := Ev.mono RO.mono hle105 h82
       replace hl87 := OLink.mono ObFareCar.mono hle105 hl87
       replace h0_1 := Sl.mono (RL.mono RI.mono) hle105 h0_1
       rw [hz103] at hq68; dsimp only at hq68
       refine vP hS hE (Gives.p hE rfl) rfl ?_; clear hE a; intro a hE
       refine vP hS hE (Gives.p hE rfl) rfl ?_; clear hE a; intro a hE
       refine vP hS hE (Gives.p hE rfl) rfl ?_; clear hE a; intro a hE
       refine vP hS hE (Gives.p hE rfl) rfl ?_; clear hE a; intro a hE
       refine vP hS hE (Gives.p hE rfl) rfl ?_; clear hE a; intro a hE
       refine WL.nil ?_
       refine W.seq ?_
       refine W.seq (W.region ?_)
       refine vP hS hE (Gives.p hE rfl) rfl ?_; clear hE a; intro a hE
       refine vP hS hE (Gives.p hE rfl) rfl ?_; clear hE a; intro a hE
       refine WL.nil ?_
       refine W.cond hE rfl (fun hc128 => ?_) (fun hc128 => ?_)
       ·replace hq68 := iteT hc128 hq68
        refine W.seq ?_
        obtain ⟨q130, hq129, hq68⟩ := bndS hq68
        refine W.cut (fun a w => ∃ (q133 : Bool), q133 = q130 ∧ Rep a 266 [(10, .bool q133)] ∧ St w s104 (pt b107 (.cells #[.int .i64 d106.1, .int .i64 d106.2.1, .int .i64 d106.2.2.1, .slice a108 d106.2.2.2.1.length c109, .slice a114 d106.2.2.2.2.length c115] 148 (0, 0)) :: vecC 80 4 a108 c109 d106.2.2.2.1.length cs111 :: vecC 4 1 a114 c115 d106.2.2.2.2.length cs117 :: pt b99 (.cells #[.int .i64 x71.No, .int .i64 x71.Stock, .slice a93 x71.Stops.length c94, .slice a96 x71.Legs.length c97] 44 (0, 0)) :: allC hs86 :: pt b51 (.cells #[.slice a0_0 x0.Trains.length c0_0, .slice a0_1 x0.Turns.length c0_1] 25 (0, 0)) :: R)) ?_ ?_
        ·refine W.gen fun K134 hK134 => ?_
         refine W.region ?_
         refine vP hS hE (Gives.p hE rfl) rfl ?_; clear hE a; intro a hE
         refine vP hS hE (Gives.p hE rfl) rfl ?_; clear hE a; intro a hE
         refine vP hS hE (Gives.p hE rfl) rfl ?_; clear hE a; intro a hE
         rcases Bool.eq_false_or_eq_true (q100.2 == 2) with hg135 | hg135
         ·replace hq129 := iteT hg135 hq129
          refine WL.vS hS hE (runs_if hE rfl rfl rfl hg135) (Gives.p hE rfl) rfl ?_; clear hE a; intro a hE
          refine WL.vS hS hE (runs_if hE rfl rfl rfl hg135) (Gives.isNilP hE rfl rfl pk76) rfl ?_; clear hE a; intro a hE
          refine vP hS hE (Gives.pickT hE rfl hg135 rfl) rfl ?_; clear hE a; intro a hE
          refine vP hS hE (Gives.p hE rfl) rfl ?_; clear hE a; intro a hE
          refine WL.nil ?_
          replace hS := hS.dropAt 5
          subst hK134
          exact ⟨false, hq129, hE.pick _ ⟨rfl, trivial⟩, hS⟩
         ·replace hq129 := iteF hg135 hq129
          refine WL.no hE (runs_not hE rfl rfl rfl (by rw [hg135]; decide)) rfl ?_; clear hE a; intro a hE
          refine WL.no hE (runs_not hE rfl rfl rfl (by rw [hg135]; decide)) rfl ?_; clear hE a; intro a hE
          refine vP hS hE (Gives.pickF hE rfl hg135 rfl) rfl ?_; clear hE a; intro a hE
          refine vP hS hE (Gives.p hE rfl) rfl ?_; clear hE a; intro a hE
          refine WL.nil ?_
          replace hS := hS.dropAt 5
          subst hK134
          exact ⟨false, hq129, hE.pick _ ⟨rfl, trivial⟩, hS⟩
        ·clear hE hS a w; rintro a w ⟨q133, rfl, hE, hS⟩
         refine W.ret ?_
         subst hK88
         rw [← Option.some.inj hq68] at hr
         dsimp only at hr
         refine finG (fn := Tryd.f9) (rs := [.tmp 10]) (vs := [_]) hE rfl ⟨rfl, trivial⟩ ?_
         obtain rfl := Option.some.inj hr
         replace hS := hS.tail
         replace hS := hS.tail
         replace hS := hS.tail
         replace hS := hS.tail
         replace hS := hS.tail
         replace hS := hS.tail
         exact ⟨rfl, (hS.down (Sg.Le.trans hle78 hle105))⟩
       ·replace hq68 := iteF hc128 hq68
        refine W.skip ?_
        refine W.seq ?_
        refine W.seq (W.region ?_)
        refine vP hS hE (Gives.p hE rfl) rfl ?_; clear hE a; intro a hE
        refine vP hS hE (Gives.isNilP hE rfl rfl pk76) rfl ?_; clear hE a; intro a hE
        refine WL.nil ?_
        refine W.condF hE rfl rfl ?_
        refine W.skip ?_
        refine W.region ?_
        refine vP hS hE (Gives.p hE rfl) rfl ?_; clear hE a; intro a hE
        refine vP hS hE (Gives.p hE rfl) rfl ?_; clear hE a; intro a hE
        refine WL.lit hE hS (e := 76) (es := 1) (vs := [(0, .pointer (some ⟨b107, 0, none⟩))]) (cs := [.pointer (some ⟨b107, 0, none⟩)]) (runs_plain rfl) rfl (by kernel_rfl) rfl ?_; clear hE hS a w; intro b136 a w hE hS
        obtain ⟨x137, hx138, hq68⟩ := bindS hq68
        refine WL.appDx hE hS 5 (m := 1) (runs_plain rfl) rfl rfl rfl ap75 rfl h82 rfl (xs := [(FareCar.mk d106.1 d106.2.1 d106.2.2.1 d106.2.2.2.1 d106.2.2.2.2)]) (Ev.cons (c1 := [.pointer (some ⟨b107, 0, none⟩)]) ⟨_, rfl⟩ rfl (Ev.nil)) rfl rfl hx138 rfl ?_; clear hE hS a w; intro a139 c140 a w h142 hE hS
        replace hS := hS.front 4 rfl
        replace hS := hS.front 3 rfl
        replace hS := hS.front 3 rfl
        replace hS := hS.front 3 rfl
        have hl143 : OLink 1 ObFareCar s104 (cs84 ++ [(.pointer (some ⟨b107, 0, none⟩) : Value)]) (hs86 ++ [allC [pt b107 (.cells #[.int .i64 d106.1, .int .i64 d106.2.1, .int .i64 d106.2.2.1, .slice a108 d106.2.2.2.1.length c109, .slice a114 d106.2.2.2.2.length c115] 148 (0, 0)), vecC 80 4 a108 c109 d106.2.2.2.1.length cs111, vecC 4 1 a114 c115 d106.2.2.2.2.length cs117]]) x137 := by rw [(apd_some hx138).2]; exact OLink.snoc hl87 h82.len rfl ⟨_, _, _, _, _, _, _, _, _, rfl, rfl, h112, rfl, h118, rfl⟩
        replace hS : St _ s104 (allC (hs86 ++ [allC [pt b107 (.cells #[.int .i64 d106.1, .int .i64 d106.2.1, .int .i64 d106.2.2.1, .slice a108 d106.2.2.2.1.length c109, .slice a114 d106.2.2.2.2.length c115] 148 (0, 0)), vecC 80 4 a108 c109 d106.2.2.2.1.length cs111, vecC 4 1 a114 c115 d106.2.2.2.2.length cs117]]) :: pt b99 (.cells #[.int .i64 x71.No, .int .i64 x71.Stock, .slice a93 x71.Stops.length c94, .slice a96 x71.Legs.length c97] 44 (0, 0)) :: vecC 76 1 a139 c140 x137.length (cs84 ++ [(.pointer (some ⟨b107, 0, none⟩) : Value)]) :: pt b51 (.cells #[.slice a0_0 x0.Trains.length c0_0, .slice a0_1 x0.Turns.length c0_1] 25 (0, 0)) :: R) := St.oPush (ps := [pt b107 (.cells #[.int .i64 d106.1, .int .i64 d106.2.1, .int .i64 d106.2.2.1, .slice a108 d106.2.2.2.1.length c109, .slice a114 d106.2.2.2.2.length c115] 148 (0, 0)), vecC 80 4 a108 c109 d106.2.2.2.1.length cs111, vecC 4 1 a114 c115 d106.2.2.2.2.length cs117]) (hs := hs86) hS
        refine vP hS hE (Gives.p hE rfl) rfl ?_; clear hE a; intro a hE
        refine WL.nil ?_
        refine W.region ?_
        refine vP hS hE (Gives.inc hE rfl (by have := h0_0.small; omega)) rfl ?_; clear hE a; intro a hE
        refine vP hS hE (Gives.p hE rfl) rfl ?_; clear hE a; intro a hE
        refine WL.nil ?_
        replace hS := hS.dropAt 1
        subst hK88
        exact ⟨rest72.length, Nat.lt_succ_self _, rest72, k70 + 1, x137, a139, c140, x137.length, (cs84 ++ [(.pointer (some ⟨b107, 0, none⟩) : Value)]), (hs86 ++ [allC [pt b107 (.cells #[.int .i64 d106.1, .int .i64 d106.2.1, .int .i64 d106.2.2.1, .slice a108 d106.2.2.2.1.length c109, .slice a114 d106.2.2.2.2.length c115] 148 (0, 0)), vecC 80 4 a108 c109 d106.2.2.2.1.length cs111, vecC 4 1 a114 c115 d106.2.2.2.2.length cs117]]), s104, rfl, hd73, (Sg.Le.trans hle78 hle105), hq68, h142, (rfl), hl143, hE.pick _ ⟨rfl, rfl, rfl, rfl, rfl, rfl, rfl, rfl, rfl, trivial⟩, hS⟩
    ·clear hE hS a w; rintro a w ⟨q79, a80, c81, n83, cs84, hs86, s77, hle78, rfl, h82, rfl, hl87, hE, hS⟩
     dsimp only at hr
     replace h1 := Sl.mono RGuideJourney.mono hle78 h1
     replace h4 := Sl.mono RI.mono hle78 h4
     replace h0_0 := Sl.mono RApiTrain.mono hle78 h0_0
     replace hl66 := OLink.mono ObFareCar.mono hle78 hl66
     replace h0_1 := Sl.mono (RL.mono RI.mono) hle78 h0_1
     refine W.seq (W.region ?_)
     replace hS := hS.vecNil 28 1
     refine vP hS hE (Gives.p hE rfl) rfl ?_; clear hE a; intro a hE
     refine WL.nil ?_
     refine W.seq ?_
     refine W.seq (W.region ?_)
     refine vP hS hE (Gives.p hE rfl) rfl ?_; clear hE a; intro a hE
     refine vP hS hE (Gives.len hE rfl sl39) rfl ?_; clear hE a; intro a hE
     refine vP hS hE (Gives.p hE rfl) rfl ?_; clear hE a; intro a hE
     refine WL.nil ?_
     obtain ⟨q146, hq145, hr⟩ := bindS hr
     refine W.cut (fun a w => ∃ (q156 : List GuideJourney), ∃ (q163 : List FareCar), ∃ (a157 : Option Addr), ∃ (c158 : Nat), ∃ (n160 : Nat), ∃ (cs161 : List Value), ∃ (cs167 : List Value), ∃ (hs169 : List HP), ∃ (s154 : Sg), s77.Le s154 ∧ (.next (q156, q163)) = q146 ∧ Ev 1 RGuideJourney s154 cs161 q156 ∧ q156.length = n160 ∧ Ev 1 (RO : Rd FareCar) s154 cs167 q163 ∧ q163.length = q79.length ∧ OLink 1 ObFareCar s154 cs167 hs169 q163 ∧ Rep a 266 [(2, .int .i64 x2), (3, .int .i64 x3), (5, .pointer (some ⟨b51, 0, none⟩)), (11, .slice a80 q79.length c81), (16, .slice a157 n160 c158)] ∧ St w s154 (vecC 28 1 a157 c158 n160 cs161 :: allC hs169 :: vecC 76 1 a80 c81 q79.length cs167 :: pt b51 (.cells #[.slice a0_0 x0.Trains.length c0_0, .slice a0_1 x0.Turns.length c0_1] 25 (0, 0)) :: R)) ?_ ?_
     ·refine W.block ?_
      refine W.loop (fun m a w => ∃ (rest149 : List GuideJourney) (k147 : Nat), ∃ (q156 : List GuideJourney), ∃ (q163 : List FareCar), ∃ (a157 : Option Addr), ∃ (c158 : Nat), ∃ (n160 : Nat), ∃ (cs161 : List Value), ∃ (cs167 : List Value), ∃ (hs169 : List HP), ∃ (s154 : Sg), rest149.length = m ∧ x1.drop k147 = rest149 ∧ s77.Le s154 ∧ FishtopTopSeated.loop2 x0 x4 fu rest149 k147 q156 q163 = some q146 ∧ Ev 1 RGuideJourney s154 cs161 q156 ∧ q156.length = n160 ∧ Ev 1 (RO : Rd FareCar) s154 cs167 q163 ∧ q163.length = q79.length ∧ OLink 1 ObFareCar s154 cs167 hs169 q163 ∧ Rep a 266 [(2, .int .i64 x2), (3, .int .i64 x3), (4, .slice a4 x4.length c4), (5, .pointer (some ⟨b51, 0, none⟩)), (11, .slice a80 q79.length c81), (16, .slice a157 n160 c158), (77, .slice a1 x1.length c1), (78, .int .i64 ((x1).length : Int)), (79, .int .i64 ((k147 : Nat) : Int))] ∧ St w s154 (vecC 28 1 a157 c158 n160 cs161 :: allC hs169 :: vecC 76 1 a80 c81 q79.length cs167 :: pt b51 (.cells #[.slice a0_0 x0.Trains.length c0_0, .slice a0_1 x0.Turns.length c0_1] 25 (0, 0)) :: R)) (m := x1.length) ⟨x1, 0, [], q79, none, 0, 0, [], cs84, hs86, s77, rfl, rfl, (Sg.Le.refl _), hq145, (Ev.nil), (rfl), h82, rfl, hl87, hE.pick _ ⟨rfl, rfl, rfl, rfl, rfl, rfl, rfl, rfl, rfl, trivial⟩, hS⟩ ?_
      clear hE hS a w hq145; rintro m153 a w ⟨rest149, k147, q156, q163, a157, c158, n160, cs161, cs167, hs169, s154, rfl, hd150, hle155, hq145, h159, rfl, h166, hn168, hl170, hE, hS⟩
      refine W.gen fun K171 hK171 => ?_
      replace h1 := Sl.mono RGuideJourney.mono hle155 h1
      replace h4 := Sl.mono RI.mono hle155 h4
      replace h82 := Ev.mono RO.mono hle155 h82
      replace hl87 := OLink.mono ObFareCar.mono hle155 hl87
      replace h0_0 := Sl.mono RApiTrain.mono hle155 h0_0
      replace h0_1 := Sl.mono (RL.mono RI.mono) hle155 h0_1
      rcases rest149 with _ | ⟨x148, rest149⟩
      ·have hlt151 := drop_nil hd150
       refine W.seq (W.region ?_)
       refine vP hS hE (Gives.p hE rfl) rfl ?_; clear hE a; intro a hE
       refine WL.nil ?_
       refine W.seq ?_
       refine W.condF hE rfl (decide_eq_false (by omega)) ?_
       subst hK171
       refine W.exit rfl ?_
       exact ⟨q156, q163, a157, c158, q156.length, cs161, cs167, hs169, s154, hle155, Option.some.inj hq145, h159, rfl, h166, hn168, hl170, hE.pick _ ⟨rfl, rfl, rfl, rfl, rfl, trivial⟩, hS⟩
      ·obtain ⟨hlt151, hx152, hd150⟩ := drop_cons hd150
       rw [FishtopTopSeated.loop2] at hq145
       refine W.seq (W.region ?_)
       refine vP hS hE (Gives.p hE rfl) rfl ?_; clear hE a; intro a hE
       refine WL.nil ?_
       refine W.seq ?_
       refine W.condT hE rfl (decide_eq_true (by omega)) ?_
       refine W.skip ?_
       refine W.seq ?_
       refine W.block ?_
       refine W.seq (W.region ?_)
       refine vP hS hE (Gives.p hE rfl) rfl ?_; clear hE a; intro a hE
       obtain ⟨cs172, hl173, hR174, hat175⟩ := h1.at hx152
       obtain ⟨a176, c177, rfl, h178⟩ := hR174
       refine vP hS hE (Gives.idx hE k147 rfl rfl sl39 rfl hlt151 (h1.aok hlt151)) rfl ?_; clear hE a; intro a hE
       refine vP hS hE (Gives.loadA hE rfl (fun w h => hat175 w _ h) ty28) rfl ?_; clear hE a; intro a hE
       refine WL.alloc hE hS (runs_plain rfl) zr28 rfl ?_; clear hE hS a w; intro b179 a w hE hS
       refine vP hS hE (Gives.p hE rfl) rfl ?_; clear hE a; intro a hE
       refine WL.storeI hE hS 0 rfl [.slice a176 x148.Rides.length c177] (runs_plain rfl) rfl rfl rfl ty28 rfl rfl rfl rfl ?_; clear hE hS a w; intro a w hE hS
       refine WL.nil ?_
       refine W.seq ?_
       refine W.seq (W.region ?_)
       refine vP hS hE (Gives.loadBA hE 4 rfl rfl ty25) rfl ?_; clear hE a; intro a hE
       refine vP hS hE (Gives.loadBA hE 0 rfl rfl ty28) rfl ?_; clear hE a; intro a hE
       obtain ⟨q180, hq181, hq145⟩ := bindS hq145
       have hc_ := Fishref2JourneyFault_ok hS h0_0 h0_1 h178 hq181
       refine WL.fnq hE (hc_) (runs_plain rfl) bd18 rfl rfl rfl ?_
       clear hE hS hc_; rintro e w ⟨rfl, hS⟩; refine ⟨_, rfl, ?_⟩; clear a; intro a hE
       refine vP hS hE (Gives.p hE rfl) rfl ?_; clear hE a; intro a hE
       refine WL.nil ?_
       refine W.cond hE rfl (fun hc182 => ?_) (fun hc182 => ?_)
       ·replace hq145 := iteT hc182 hq145
        refine W.exit rfl ?_
        refine W.region ?_
        refine vP hS hE (Gives.inc hE rfl (by have := h1.small; omega)) rfl ?_; clear hE a; intro a hE
        refine vP hS hE (Gives.p hE rfl) rfl ?_; clear hE a; intro a hE
        refine WL.nil ?_
        replace hS := hS.tail
        subst hK171
        exact ⟨rest149.length, Nat.lt_succ_self _, rest149, k147 + 1, q156, q163, a157, c158, q156.length, cs161, cs167, hs169, s154, rfl, hd150, hle155, hq145, h159, rfl, h166, hn168, hl170, hE.pick _ ⟨rfl, rfl, rfl, rfl, rfl, rfl, rfl, rfl, rfl, trivial⟩, hS⟩
       ·replace hq145 := iteF hc182 hq145
        refine W.skip ?_
        refine W.seq (W.region ?_)
        replace hS := hS.vecNil 3 1
        refine vP hS hE (Gives.p hE rfl) rfl ?_; clear hE a; intro a hE
        refine WL.nil ?_
        refine W.seq ?_
        refine W.seq (W.region ?_)
        refine vP hS hE (Gives.fld hE rfl fl28_0) rfl ?_; clear hE a; intro a hE
        refine vP hS hE (Gives.loadB hE 1 rfl rfl rfl ty26) rfl ?_; clear hE a; intro a hE
        refine vP hS hE (Gives.len hE rfl sl26) rfl ?_; clear hE a; intro a hE
        refine vP hS hE (Gives.p hE rfl) rfl ?_; clear hE a; intro a hE
        refine WL.nil ?_
        obtain ⟨q185, hq184, hq145⟩ := bindS hq145
        refine W.cut (fun a w => ∃ (q195 : List Int), ∃ (q202 : List FareCar), ∃ (a196 : Option Addr), ∃ (c197 : Nat), ∃ (n199 : Nat), ∃ (cs200 : List Value), ∃ (cs206 : List Value), ∃ (hs208 : List HP), ∃ (s193 : Sg), s154.Le s193 ∧ (q195, q202) = q185 ∧ Ev 1 (RI .i64) s193 cs200 q195 ∧ q195.length = n199 ∧ Ev 1 (RO : Rd FareCar) s193 cs206 q202 ∧ q202.length = q79.length ∧ OLink 1 ObFareCar s193 cs206 hs208 q202 ∧ Rep a 266 [(2, .int .i64 x2), (3, .int .i64 x3), (4, .slice a4 x4.length c4), (5, .pointer (some ⟨b51, 0, none⟩)), (11, .slice a80 q79.length c81), (16, .slice a157 q156.length c158), (17, .int .i64 ((k147 : Nat) : Int)), (18, .pointer (some ⟨b179, 0, none⟩)), (19, .slice a196 n199 c197), (77, .slice a1 x1.length c1), (78, .int .i64 ((x1).length : Int)), (79, .int .i64 ((k147 : Nat) : Int))] ∧ St w s193 (vecC 3 1 a196 c197 n199 cs200 :: pt b179 (.cells #[.slice a176 x148.Rides.length c177] 28 (0, 0)) :: vecC 28 1 a157 c158 q156.length cs161 :: allC hs208 :: vecC 76 1 a80 c81 q79.length cs206 :: pt b51 (.cells #[.slice a0_0 x0.Trains.length c0_0, .slice a0_1 x0.Turns.length c0_1] 25 (0, 0)) :: R)) ?_ ?_
        ·refine W.block ?_
         refine W.loop (fun m a w => ∃ (rest188 : List GuideRide) (k186 : Nat), ∃ (q195 : List Int), ∃ (q202 : List FareCar), ∃ (a196 : Option Addr), ∃ (c197 : Nat), ∃ (n199 : Nat), ∃ (cs200 : List Value), ∃ (cs206 : List Value), ∃ (hs208 : List HP), ∃ (s193 : Sg), rest188.length = m ∧ x148.Rides.drop k186 = rest188 ∧ s154.Le s193 ∧ FishtopTopSeated.loop3 fu rest188 q195 q202 = some q185 ∧ Ev 1 (RI .i64) s193 cs200 q195 ∧ q195.length = n199 ∧ Ev 1 (RO : Rd FareCar) s193 cs206 q202 ∧ q202.length = q79.length ∧ OLink 1 ObFareCar s193 cs206 hs208 q202 ∧ Rep a 266 [(2, .int .i64 x2), (3, .int .i64 x3), (4, .slice a4 x4.length c4), (5, .pointer (some ⟨b51, 0, none⟩)), (11, .slice a80 q79.length c81), (16, .slice a157 q156.length c158), (17, .int .i64 ((k147 : Nat) : Int)), (18, .pointer (some ⟨b179, 0, none⟩)), (19, .slice a196 n199 c197), (77, .slice a1 x1.length c1), (78, .int .i64 ((x1).length : Int)), (79, .int .i64 ((k147 : Nat) : Int)), (89, .slice a176 x148.Rides.length c177), (90, .int .i64 ((x148.Rides).length : Int)), (91, .int .i64 ((k186 : Nat) : Int))] ∧ St w s193 (vecC 3 1 a196 c197 n199 cs200 :: pt b179 (.cells #[.slice a176 x148.Rides.length c177] 28 (0, 0)) :: vecC 28 1 a157 c158 q156.length cs161 :: allC hs208 :: vecC 76 1 a80 c81 q79.length cs206 :: pt b51 (.cells #[.slice a0_0 x0.Trains.length c0_0, .slice a0_1 x0.Turns.length c0_1] 25 (0, 0)) :: R)) (m := x148.Rides.length) ⟨x148.Rides, 0, [], q163, none, 0, 0, [], cs167, hs169, s154, rfl, rfl, (Sg.Le.refl _), hq184, (Ev.nil), (rfl), h166, hn168, hl170, hE.pick _ ⟨rfl, rfl, rfl, rfl, rfl, rfl, rfl, rfl, rfl, rfl, rfl, rfl, rfl, rfl, rfl, trivial⟩, hS⟩ ?_
         clear hE hS a w hq184; rintro m192 a w ⟨rest188, k186, q195, q202, a196, c197, n199, cs200, cs206, hs208, s193, rfl, hd189, hle194, hq184, h198, rfl, h205, hn207, hl209, hE, hS⟩
         refine W.gen fun K210 hK210 => ?_
         replace h4 := Sl.mono RI.mono hle194 h4
         replace h1 := Sl.mono RGuideJourney.mono hle194 h1
         replace h178 := Sl.mono RGuideRide.mono hle194 h178
         replace h0_0 := Sl.mono RApiTrain.mono hle194 h0_0
         replace h0_1 := Sl.mono (RL.mono RI.mono) hle194 h0_1
         replace h159 := Ev.mono RGuideJourney.mono hle194 h159
         replace h166 := Ev.mono RO.mono hle194 h166
         replace hl170 := OLink.mono ObFareCar.mono hle194 hl170
         rcases rest188 with _ | ⟨x187, rest188⟩
         ·have hlt190 := drop_nil hd189
          refine W.seq (W.region ?_)
          refine vP hS hE (Gives.p hE rfl) rfl ?_; clear hE a; intro a hE
          refine WL.nil ?_
          refine W.seq ?_
          refine W.condF hE rfl (decide_eq_false (by omega)) ?_
          subst hK210
          refine W.exit rfl ?_
          exact ⟨q195, q202, a196, c197, q195.length, cs200, cs206, hs208, s193, hle194, Option.some.inj hq184, h198, rfl, h205, hn207, hl209, hE.pick _ ⟨rfl, rfl, rfl, rfl, rfl, rfl, rfl, rfl, rfl, rfl, rfl, rfl, trivial⟩, hS⟩
         ·obtain ⟨hlt190, hx191, hd189⟩ := drop_cons hd189
          rw [FishtopTopSeated.loop3] at hq184
          refine W.seq (W.region ?_)
          refine vP hS hE (Gives.p hE rfl) rfl ?_; clear hE a; intro a hE
          refine WL.nil ?_
          refine W.seq ?_
          refine W.condT hE rfl (decide_eq_true (by omega)) ?_
          refine W.skip ?_
          refine W.seq ?_
          refine W.block ?_
          refine W.seq (W.region ?_)
          obtain ⟨cs211, hl212, hR213, hat214⟩ := h178.at hx191
          subst hR213
          refine vP hS hE (Gives.idx hE k186 rfl rfl sl26 rfl hlt190 (h178.aok hlt190)) rfl ?_; clear hE a; intro a hE
          refine vP hS hE (Gives.loadA hE rfl (fun w h => hat214 w _ h) ty47) rfl ?_; clear hE a; intro a hE
          refine WL.alloc hE hS (runs_plain rfl) zr47 rfl ?_; clear hE hS a w; intro b215 a w hE hS
          refine WL.storeI hE hS 0 rfl (GuideRide.cells x187) (runs_plain rfl) rfl rfl rfl ty47 rfl rfl rfl rfl ?_; clear hE hS a w; intro a w hE hS
          refine WL.nil ?_
          refine W.seq ?_
          refine W.gen fun K216 hK216 => ?_
          refine W.regionE (sel (fun w => St w s193 (pt b215 (.cells (GuideRide.cells x187).toArray 47 (0, 0)) :: vecC 3 1 a196 c197 q195.length cs200 :: pt b179 (.cells #[.slice a176 x148.Rides.length c177] 28 (0, 0)) :: vecC 28 1 a157 c158 q156.length cs161 :: allC hs208 :: vecC 76 1 a80 c81 q79.length cs206 :: pt b51 (.cells #[.slice a0_0 x0.Trains.length c0_0, .slice a0_1 x0.Turns.length c0_1] 25 (0, 0)) :: R)) (fun w => St w s193 (pt b215 (.cells (GuideRide.cells x187).toArray 47 (0, 0)) :: vecC 3 1 a196 c197 q195.length cs200 :: pt b179 (.cells #[.slice a176 x148.Rides.length c177] 28 (0, 0)) :: vecC 28 1 a157 c158 q156.length cs161 :: pt b51 (.cells #[.slice a0_0 x0.Trains.length c0_0, .slice a0_1 x0.Turns.length c0_1] 25 (0, 0)) :: R))) (fun b i => cond b ([0, 1, 2, 3, 4, 5, 6, 7, 8, 10, 11, 12, 13, 14, 15].contains i) ([0, 1, 2, 3, 4, 5, 6, 7, 8, 9, 10, 11, 12, 13, 14, 15].contains i)) mixed ?_
          replace hS := hS.drew
          refine Rg.takeP (i := 0) hE rfl (by kernel_rfl) (runs_plain rfl) (Gives.p hE rfl) rfl (tw_sel (fun _ => hS) (fun _ => ((hS.dropAt 4).dropAt 4))) ?_; clear hE a; intro a hE
          refine Rg.takeP (i := 1) hE rfl (by kernel_rfl) (runs_plain rfl) (Gives.fld hE rfl fl47_0) rfl (tw_sel (fun _ => hS) (fun _ => ((hS.dropAt 4).dropAt 4))) ?_; clear hE a; intro a hE
          have hT := tw_sel (A := fun w => St w s193 (pt b215 (.cells (GuideRide.cells x187).toArray 47 (0, 0)) :: vecC 3 1 a196 c197 q195.length cs200 :: pt b179 (.cells #[.slice a176 x148.Rides.length c177] 28 (0, 0)) :: vecC 28 1 a157 c158 q156.length cs161 :: allC hs208 :: vecC 76 1 a80 c81 q79.length cs206 :: pt b51 (.cells #[.slice a0_0 x0.Trains.length c0_0, .slice a0_1 x0.Turns.length c0_1] 25 (0, 0)) :: R)) (B := fun w => St w s193 (pt b215 (.cells (GuideRide.cells x187).toArray 47 (0, 0)) :: vecC 3 1 a196 c197 q195.length cs200 :: pt b179 (.cells #[.slice a176 x148.Rides.length c177] 28 (0, 0)) :: vecC 28 1 a157 c158 q156.length cs161 :: pt b51 (.cells #[.slice a0_0 x0.Trains.length c0_0, .slice a0_1 x0.Turns.length c0_1] 25 (0, 0)) :: R)) (w := _) (x := true) (y := true) (fun _ => hS) (fun _ => ((hS.dropAt 4).dropAt 4))
          have hF := hS; replace hS := ((hS.dropAt 4).dropAt 4)
          refine Rg.take (i := 2) false rfl hE rfl (by kernel_rfl) (runs_plain rfl) (Gives.loadB hE 0 rfl rfl rfl ty3) rfl hT ?_; clear hE a; intro a hE
          replace hS := hF; clear hF hT
          obtain ⟨x217, hx218, hq184⟩ := bindS hq184
          obtain ⟨hi219, hlt220, hy221⟩ := gx_some hx218
          obtain ⟨vs222, hl223, hR224, hd225, hget226⟩ := h205.at hy221
          obtain ⟨b227, rfl⟩ := hR224
          refine Rg.takeP (i := 3) hE rfl (by kernel_rfl) (runs_plain rfl) (Gives.idx hE ((x187.Train).toNat) rfl rfl sl75 hi219 (by have := hn207; omega) (hS.vecAok 5 rfl (by have := hn207; omega : (x187.Train).toNat < q79.length))) rfl (tw_sel (fun _ => hS) (fun _ => ((hS.dropAt 4).dropAt 4))) ?_; clear hE a; intro a hE
          have hT := tw_sel (A := fun w => St w s193 (pt b215 (.cells (GuideRide.cells x187).toArray 47 (0, 0)) :: vecC 3 1 a196 c197 q195.length cs200 :: pt b179 (.cells #[.slice a176 x148.Rides.length c177] 28 (0, 0)) :: vecC 28 1 a157 c158 q156.length cs161 :: allC hs208 :: vecC 76 1 a80 c81 q79.length cs206 :: pt b51 (.cells #[.slice a0_0 x0.Trains.length c0_0, .slice a0_1 x0.Turns.length c0_1] 25 (0, 0)) :: R)) (B := fun w => St w s193 (pt b215 (.cells (GuideRide.cells x187).toArray 47 (0, 0)) :: vecC 3 1 a196 c197 q195.length cs200 :: pt b179 (.cells #[.slice a176 x148.Rides.length c177] 28 (0, 0)) :: vecC 28 1 a157 c158 q156.length cs161 :: pt b51 (.cells #[.slice a0_0 x0.Trains.length c0_0, .slice a0_1 x0.Turns.length c0_1] 25 (0, 0)) :: R)) (w := _) (x := true) (y := true) (fun _ => hS) (fun _ => ((hS.dropAt 4).dropAt 4))
          have hF := hS; replace hS := hS
          refine Rg.take (i := 4) true rfl hE rfl (by kernel_rfl) (runs_plain rfl) (Gives.load1 hE rfl (fun w h => St.vecSees h 5 rfl ((x187.Train).toNat * 1) _ hget226) ty76) rfl hT ?_; clear hE a; intro a hE
          replace hS := hF; clear hF hT
          refine Rg.takeP (i := 5) hE rfl (by kernel_rfl) (runs_plain rfl) (Gives.fld hE rfl fl47_1) rfl (tw_sel (fun _ => hS) (fun _ => ((hS.dropAt 4).dropAt 4))) ?_; clear hE a; intro a hE
          have hT := tw_sel (A := fun w => St w s193 (pt b215 (.cells (GuideRide.cells x187).toArray 47 (0, 0)) :: vecC 3 1 a196 c197 q195.length cs200 :: pt b179 (.cells #[.slice a176 x148.Rides.length c177] 28 (0, 0)) :: vecC 28 1 a157 c158 q156.length cs161 :: allC hs208 :: vecC 76 1 a80 c81 q79.length cs206 :: pt b51 (.cells #[.slice a0_0 x0.Trains.length c0_0, .slice a0_1 x0.Turns.length c0_1] 25 (0, 0)) :: R)) (B := fun w => St w s193 (pt b215 (.cells (GuideRide.cells x187).toArray 47 (0, 0)) :: vecC 3 1 a196 c197 q195.length cs200 :: pt b179 (.cells #[.slice a176 x148.Rides.length c177] 28 (0, 0)) :: vecC 28 1 a157 c158 q156.length cs161 :: pt b51 (.cells #[.slice a0_0 x0.Trains.length c0_0, .slice a0_1 x0.Turns.length c0_1] 25 (0, 0)) :: R)) (w := _) (x := true) (y := true) (fun _ => hS) (fun _ => ((hS.dropAt 4).dropAt 4))
          have hF := hS; replace hS := hS
          refine Rg.take (i := 6) true rfl hE rfl (by kernel_rfl) (runs_plain rfl) (Gives.loadB hE 0 rfl rfl rfl ty3) rfl hT ?_; clear hE a; intro a hE
          replace hS := hF; clear hF hT
          refine Rg.takeP (i := 7) hE rfl (by kernel_rfl) (runs_plain rfl) (Gives.fld hE rfl fl47_2) rfl (tw_sel (fun _ => hS) (fun _ => ((hS.dropAt 4).dropAt 4))) ?_; clear hE a; intro a hE
          have hT := tw_sel (A := fun w => St w s193 (pt b215 (.cells (GuideRide.cells x187).toArray 47 (0, 0)) :: vecC 3 1 a196 c197 q195.length cs200 :: pt b179 (.cells #[.slice a176 x148.Rides.length c177] 28 (0, 0)) :: vecC 28 1 a157 c158 q156.length cs161 :: allC hs208 :: vecC 76 1 a80 c81 q79.length cs206 :: pt b51 (.cells #[.slice a0_0 x0.Trains.length c0_0, .slice a0_1 x0.Turns.length c0_1] 25 (0, 0)) :: R)) (B := fun w => St w s193 (pt b215 (.cells (GuideRide.cells x187).toArray 47 (0, 0)) :: vecC 3 1 a196 c197 q195.length cs200 :: pt b179 (.cells #[.slice a176 x148.Rides.length c177] 28 (0, 0)) :: vecC 28 1 a157 c158 q156.length cs161 :: pt b51 (.cells #[.slice a0_0 x0.Trains.length c0_0, .slice a0_1 x0.Turns.length c0_1] 25 (0, 0)) :: R)) (w := _) (x := true) (y := true) (fun _ => hS) (fun _ => ((hS.dropAt 4).dropAt 4))
          have hF := hS; replace hS := hS
          refine Rg.take (i := 8) true rfl hE rfl (by kernel_rfl) (runs_plain rfl) (Gives.loadB hE 0 rfl rfl rfl ty3) rfl hT ?_; clear hE a; intro a hE
          replace hS := hF; clear hF hT
          obtain ⟨q248, hq249, hq184⟩ := bindS hq184
          suffices key : ∀ s262 a264 c265 a252 c253 a257 c258 cs255 cs260 b270 (a : Act) (w : World), s193.Le s262 → Sl 1 (RI .i64) s262 a4 c4 x4 → Sl 1 RGuideJourney s262 a1 c1 x1 → Sl 3 RGuideRide s262 a176 c177 x148.Rides → Sl 1 (RI .i64) s262 a264 c265 q248.1.Seats → Ev 1 (RI .i64) s262 cs200 q195 → Ev 1 RGuideJourney s262 cs161 q156 → Ev 1 (RO : Rd FareCar) s262 cs206 (List.set q202 ((x187.Train).toNat) (FareCar.mk x217.rows x217.across x217.stops q248.2.2.1 q248.2.2.2)) → ((List.set q202 ((x187.Train).toNat) (FareCar.mk x217.rows x217.across x217.stops q248.2.2.1 q248.2.2.2))).length = q79.length → OLink 1 ObFareCar s262 cs206 (List.set hs208 ((x187.Train).toNat) (allC [pt b227 (.cells #[.int .i64 x217.rows, .int .i64 x217.across, .int .i64 x217.stops, .slice a252 q248.2.2.1.length c253, .slice a257 q248.2.2.2.length c258] 148 (0, 0)), vecC 80 4 a252 c253 q248.2.2.1.length cs255, vecC 4 1 a257 c258 q248.2.2.2.length cs260])) (List.set q202 ((x187.Train).toNat) (FareCar.mk x217.rows x217.across x217.stops q248.2.2.1 q248.2.2.2)) → Sl 4 RApiTrain s262 a0_0 c0_0 x0.Trains → Sl 1 (RL 1 (RI .i64)) s262 a0_1 c0_1 x0.Turns → Rep a 266 [(2, .int .i64 x2), (3, .int .i64 x3), (4, .slice a4 x4.length c4), (5, .pointer (some ⟨b51, 0, none⟩)), (11, .slice a80 q79.length c81), (16, .slice a157 q156.length c158), (17, .int .i64 ((k147 : Nat) : Int)), (18, .pointer (some ⟨b179, 0, none⟩)), (19, .slice a196 q195.length c197), (22, .pointer (some ⟨b270, 0, none⟩)), (23, .int .i64 q248.2.1), (77, .slice a1 x1.length c1), (78, .int .i64 ((x1).length : Int)), (79, .int .i64 ((k147 : Nat) : Int)), (89, .slice a176 x148.Rides.length c177), (90, .int .i64 ((x148.Rides).length : Int)), (91, .int .i64 ((k186 : Nat) : Int))] → St w s262 (pt b270 (.cells #[.int .i64 q248.1.No, .int .i64 q248.1.From, .int .i64 q248.1.To, .slice a264 q248.1.Seats.length c265] 80 (0, 0)) :: pt b215 (.cells (GuideRide.cells x187).toArray 47 (0, 0)) :: vecC 3 1 a196 c197 q195.length cs200 :: pt b179 (.cells #[.slice a176 x148.Rides.length c177] 28 (0, 0)) :: vecC 28 1 a157 c158 q156.length cs161 :: allC (List.set hs208 ((x187.Train).toNat) (allC [pt b227 (.cells #[.int .i64 x217.rows, .int .i64 x217.across, .int .i64 x217.stops, .slice a252 q248.2.2.1.length c253, .slice a257 q248.2.2.2.length c258] 148 (0, 0)), vecC 80 4 a252 c253 q248.2.2.1.length cs255, vecC 4 1 a257 c258 q248.2.2.2.length cs260])) :: vecC 76 1 a80 c81 q79.length cs206 :: pt b51 (.cells #[.slice a0_0 x0.Trains.length c0_0, .slice a0_1 x0.Turns.length c0_1] 25 (0, 0)) :: R) → K216.nor a w by
           refine Rg.many 9 [13] (by kernel_rfl) ⟨?_, ?_, trivial⟩
           ·refine Br.mk (i := 9) false true rfl (by kernel_rfl) (by kernel_rfl) ?_
            obtain ⟨H228, hH229, hO230⟩ := OLink.at hl209 hy221 hd225
            obtain ⟨b233, a234, c235, n236, cs237, a241, c242, n243, cs244, e231, e232, h238, hn239, h245, hn246⟩ := hO230
            have hO230 := obj_eq e231; subst hO230; subst e232
            replace hS : St _ s193 (pt b227 (.cells #[.int .i64 x217.rows, .int .i64 x217.across, .int .i64 x217.stops, .slice a234 n236 c235, .slice a241 n243 c242] 148 (0, 0)) :: vecC 80 4 a234 c235 n236 cs237 :: vecC 4 1 a241 c242 n243 cs244 :: pt b215 (.cells (GuideRide.cells x187).toArray 47 (0, 0)) :: vecC 3 1 a196 c197 q195.length cs200 :: pt b179 (.cells #[.slice a176 x148.Rides.length c177] 28 (0, 0)) :: vecC 28 1 a157 c158 q156.length cs161 :: allC (List.eraseIdx hs208 ((x187.Train).toNat)) :: vecC 76 1 a80 c81 q79.length cs206 :: pt b51 (.cells #[.slice a0_0 x0.Trains.length c0_0, .slice a0_1 x0.Turns.length c0_1] 25 (0, 0)) :: R) := St.oOpen hS 4 rfl hH229
            have hc_ := FareCarBook_v1_ok (y0 := x217) hS h238 hn239 h245 hn246 hq249
            refine WL.fnq hE (hc_) (runs_plain rfl) bd38 rfl rfl rfl ?_
            clear hE hS hc_; rintro e w ⟨cs250, a252, c253, n254, cs255, a257, c258, n259, cs260, s262, rfl, hle263, h251, h256, rfl, h261, rfl, hS⟩; refine ⟨_, rfl, ?_⟩; clear a; intro a hE
            replace h4 := Sl.mono RI.mono hle263 h4
            replace h1 := Sl.mono RGuideJourney.mono hle263 h1
            replace h178 := Sl.mono RGuideRide.mono hle263 h178
            replace h238 := Ev.mono RFareBooking.mono hle263 h238
            replace h245 := Ev.mono RB.mono hle263 h245
            replace h198 := Ev.mono RI.mono hle263 h198
            replace h159 := Ev.mono RGuideJourney.mono hle263 h159
            replace h205 := Ev.mono RO.mono hle263 h205
            replace hl209 := OLink.mono ObFareCar.mono hle263 hl209
            replace h0_0 := Sl.mono RApiTrain.mono hle263 h0_0
            replace h0_1 := Sl.mono (RL.mono RI.mono) hle263 h0_1
            obtain ⟨a264, c265, rfl, h266⟩ := h251
            replace hS := hS.front 2 rfl
            replace hS := hS.front 2 rfl
            replace hS := hS.front 2 rfl
            have hl267 : OLink 1 ObFareCar s262 cs206 (List.set hs208 ((x187.Train).toNat) (allC [pt b227 (.cells #[.int .i64 x217.rows, .int .i64 x217.across, .int .i64 x217.stops, .slice a252 q248.2.2.1.length c253, .slice a257 q248.2.2.2.length c258] 148 (0, 0)), vecC 80 4 a252 c253 q248.2.2.1.length cs255, vecC 4 1 a257 c258 q248.2.2.2.length cs260])) (List.set q202 ((x187.Train).toNat) (FareCar.mk x217.rows x217.across x217.stops q248.2.2.1 q248.2.2.2)) := OLink.set hl209 hd225 ⟨_, _, _, _, _, _, _, _, _, rfl, rfl, h256, rfl, h261, rfl⟩
            have h268 : Ev 1 (RO : Rd FareCar) s262 cs206 (List.set q202 ((x187.Train).toNat) (FareCar.mk x217.rows x217.across x217.stops q248.2.2.1 q248.2.2.2)) := Ev.setO h205
            have hn269 : (List.set q202 ((x187.Train).toNat) (FareCar.mk x217.rows x217.across x217.stops q248.2.2.1 q248.2.2.2)).length = q79.length := by rw [List.length_set]; exact hn207
            replace hS : St _ s262 (pt b215 (.cells (GuideRide.cells x187).toArray 47 (0, 0)) :: vecC 3 1 a196 c197 q195.length cs200 :: pt b179 (.cells #[.slice a176 x148.Rides.length c177] 28 (0, 0)) :: vecC 28 1 a157 c158 q156.length cs161 :: allC (List.set hs208 ((x187.Train).toNat) (allC [pt b227 (.cells #[.int .i64 x217.rows, .int .i64 x217.across, .int .i64 x217.stops, .slice a252 q248.2.2.1.length c253, .slice a257 q248.2.2.2.length c258] 148 (0, 0)), vecC 80 4 a252 c253 q248.2.2.1.length cs255, vecC 4 1 a257 c258 q248.2.2.2.length cs260])) :: vecC 76 1 a80 c81 q79.length cs206 :: pt b51 (.cells #[.slice a0_0 x0.Trains.length c0_0, .slice a0_1 x0.Turns.length c0_1] 25 (0, 0)) :: R) := St.oClose (ps := [pt b227 (.cells #[.int .i64 x217.rows, .int .i64 x217.across, .int .i64 x217.stops, .slice a252 q248.2.2.1.length c253, .slice a257 q248.2.2.2.length c258] 148 (0, 0)), vecC 80 4 a252 c253 q248.2.2.1.length cs255, vecC 4 1 a257 c258 q248.2.2.2.length cs260]) (hs := hs208) (k := (x187.Train).toNat) hS 4 rfl (List.getElem?_eq_some_iff.1 hH229).1
            refine WL.nil ?_
            refine ⟨⟨fun h => absurd h (by decide), fun _ => (St.down hle263 ((hS.dropAt 4).dropAt 4))⟩, ?_⟩
            refine Rg.takeP (i := 10) hE rfl (by kernel_rfl) (runs_plain rfl) (Gives.p hE rfl) rfl (tw_sel (fun h => absurd h (by decide)) (fun _ => (St.down hle263 ((hS.dropAt 4).dropAt 4)))) ?_; clear hE a; intro a hE
            refine Rg.takeP (i := 11) hE rfl (by kernel_rfl) (runs_plain rfl) (Gives.p hE rfl) rfl (tw_sel (fun h => absurd h (by decide)) (fun _ => (St.down hle263 ((hS.dropAt 4).dropAt 4)))) ?_; clear hE a; intro a hE
            refine Rg.takeP (i := 12) hE rfl (by kernel_rfl) (runs_plain rfl) (Gives.p hE rfl) rfl (tw_sel (fun h => absurd h (by decide)) (fun _ => (St.down hle263 ((hS.dropAt 4).dropAt 4)))) ?_; clear hE a; intro a hE
            refine Rg.one (i := 13) false true rfl (by kernel_rfl) (by kernel_rfl) (by kernel_rfl) ?_
            refine WL.alloc hE hS (runs_plain rfl) zr80 rfl ?_; clear hE hS a w; intro b270 a w hE hS
            refine WL.nil ?_
            refine ⟨⟨fun h => absurd h (by decide), fun _ => (St.down hle263 (((hS.tail).dropAt 4).dropAt 4))⟩, ?_⟩
            refine Rg.one (i := 14) false true rfl (by kernel_rfl) (by kernel_rfl) (by kernel_rfl) ?_
            refine WL.storeI hE hS 0 rfl [.int .i64 q248.1.No, .int .i64 q248.1.From, .int .i64 q248.1.To, .slice a264 q248.1.Seats.length c265] (runs_plain rfl) rfl rfl rfl ty80 rfl rfl rfl rfl ?_; clear hE hS a w; intro a w hE hS
            refine WL.nil ?_
            refine ⟨⟨fun h => absurd h (by decide), fun _ => (St.down hle263 (((hS.tail).dropAt 4).dropAt 4))⟩, ?_⟩
            refine Rg.takeP (i := 15) hE rfl (by kernel_rfl) (runs_plain rfl) (Gives.p hE rfl) rfl (tw_sel (fun h => absurd h (by decide)) (fun _ => (St.down hle263 (((hS.tail).dropAt 4).dropAt 4)))) ?_; clear hE a; intro a hE
            refine Rg.done (by kernel_rfl) ?_
            exact key _ _ _ _ _ _ _ _ _ _ _ _ hle263 h4 h1 h178 h266 h198 h159 h268 hn269 hl267 h0_0 h0_1 (hE.pick _ ⟨rfl, rfl, rfl, rfl, rfl, rfl, rfl, rfl, rfl, rfl, rfl, rfl, rfl, rfl, rfl, rfl, rfl, trivial⟩) hS
           ·refine Br.mk (i := 13) true true rfl (by kernel_rfl) (by kernel_rfl) ?_
            refine WL.alloc hE hS (runs_plain rfl) zr80 rfl ?_; clear hE hS a w; intro b270 a w hE hS
            refine WL.nil ?_
            refine ⟨⟨fun _ => (hS.tail), fun _ => (((hS.tail).dropAt 4).dropAt 4)⟩, ?_⟩
            refine Rg.one (i := 9) false true rfl (by kernel_rfl) (by kernel_rfl) (by kernel_rfl) ?_
            obtain ⟨H228, hH229, hO230⟩ := OLink.at hl209 hy221 hd225
            obtain ⟨b233, a234, c235, n236, cs237, a241, c242, n243, cs244, e231, e232, h238, hn239, h245, hn246⟩ := hO230
            have hO230 := obj_eq e231; subst hO230; subst e232
            replace hS : St _ s193 (pt b227 (.cells #[.int .i64 x217.rows, .int .i64 x217.across, .int .i64 x217.stops, .slice a234 n236 c235, .slice a241 n243 c242] 148 (0, 0)) :: vecC 80 4 a234 c235 n236 cs237 :: vecC 4 1 a241 c242 n243 cs244 :: pt b270 (.cells #[.int .i64 0, .int .i64 0, .int .i64 0, .slice none 0 0] 80 (0, 0)) :: pt b215 (.cells (GuideRide.cells x187).toArray 47 (0, 0)) :: vecC 3 1 a196 c197 q195.length cs200 :: pt b179 (.cells #[.slice a176 x148.Rides.length c177] 28 (0, 0)) :: vecC 28 1 a157 c158 q156.length cs161 :: allC (List.eraseIdx hs208 ((x187.Train).toNat)) :: vecC 76 1 a80 c81 q79.length cs206 :: pt b51 (.cells #[.slice a0_0 x0.Trains.length c0_0, .slice a0_1 x0.Turns.length c0_1] 25 (0, 0)) :: R) := St.oOpen hS 5 rfl hH229
            have hc_ := FareCarBook_v1_ok (y0 := x217) hS h238 hn239 h245 hn246 hq249
            refine WL.fnq hE (hc_) (runs_plain rfl) bd38 rfl rfl rfl ?_
            clear hE hS hc_; rintro e w ⟨cs250, a252, c253, n254, cs255, a257, c258, n259, cs260, s262, rfl, hle263, h251, h256, rfl, h261, rfl, hS⟩; refine ⟨_, rfl, ?_⟩; clear a; intro a hE
            replace h4 := Sl.mono RI.mono hle263 h4
            replace h1 := Sl.mono RGuideJourney.mono hle263 h1
            replace h178 := Sl.mono RGuideRide.mono hle263 h178
            replace h238 := Ev.mono RFareBooking.mono hle263 h238
            replace h245 := Ev.mono RB.mono hle263 h245
            replace h198 := Ev.mono RI.mono hle263 h198
            replace h159 := Ev.mono RGuideJourney.mono hle263 h159
            replace h205 := Ev.mono RO.mono hle263 h205
            replace hl209 := OLink.mono ObFareCar.mono hle263 hl209
            replace h0_0 := Sl.mono RApiTrain.mono hle263 h0_0
            replace h0_1 := Sl.mono (RL.mono RI.mono) hle263 h0_1
            obtain ⟨a264, c265, rfl, h266⟩ := h251
            replace hS := hS.front 2 rfl
            replace hS := hS.front 2 rfl
            replace hS := hS.front 2 rfl
            have hl267 : OLink 1 ObFareCar s262 cs206 (List.set hs208 ((x187.Train).toNat) (allC [pt b227 (.cells #[.int .i64 x217.rows, .int .i64 x217.across, .int .i64 x217.stops, .slice a252 q248.2.2.1.length c253, .slice a257 q248.2.2.2.length c258] 148 (0, 0)), vecC 80 4 a252 c253 q248.2.2.1.length cs255, vecC 4 1 a257 c258 q248.2.2.2.length cs260])) (List.set q202 ((x187.Train).toNat) (FareCar.mk x217.rows x217.across x217.stops q248.2.2.1 q248.2.2.2)) := OLink.set hl209 hd225 ⟨_, _, _, _, _, _, _, _, _, rfl, rfl, h256, rfl, h261, rfl⟩
            have h268 : Ev 1 (RO : Rd FareCar) s262 cs206 (List.set q202 ((x187.Train).toNat) (FareCar.mk x217.rows x217.across x217.stops q248.2.2.1 q248.2.2.2)) := Ev.setO h205
            have hn269 : (List.set q202 ((x187.Train).toNat) (FareCar.mk x217.rows x217.across x217.stops q248.2.2.1 q248.2.2.2)).length = q79.length := by rw [List.length_set]; exact hn207
            replace hS : St _ s262 (pt b270 (.cells #[.int .i64 0, .int .i64 0, .int .i64 0, .slice none 0 0] 80 (0, 0)) :: pt b215 (.cells (GuideRide.cells x187).toArray 47 (0, 0)) :: vecC 3 1 a196 c197 q195.length cs200 :: pt b179 (.cells #[.slice a176 x148.Rides.length c177] 28 (0, 0)) :: vecC 28 1 a157 c158 q156.length cs161 :: allC (List.set hs208 ((x187.Train).toNat) (allC [pt b227 (.cells #[.int .i64 x217.rows, .int .i64 x217.across, .int .i64 x217.stops, .slice a252 q248.2.2.1.length c253, .slice a257 q248.2.2.2.length c258] 148 (0, 0)), vecC 80 4 a252 c253 q248.2.2.1.length cs255, vecC 4 1 a257 c258 q248.2.2.2.length cs260])) :: vecC 76 1 a80 c81 q79.length cs206 :: pt b51 (.cells #[.slice a0_0 x0.Trains.length c0_0, .slice a0_1 x0.Turns.length c0_1] 25 (0, 0)) :: R) := St.oClose (ps := [pt b227 (.cells #[.int .i64 x217.rows, .int .i64 x217.across, .int .i64 x217.stops, .slice a252 q248.2.2.1.length c253, .slice a257 q248.2.2.2.length c258] 148 (0, 0)), vecC 80 4 a252 c253 q248.2.2.1.length cs255, vecC 4 1 a257 c258 q248.2.2.2.length cs260]) (hs := hs208) (k := (x187.Train).toNat) hS 5 rfl (List.getElem?_eq_some_iff.1 hH229).1
            refine WL.nil ?_
            refine ⟨⟨fun h => absurd h (by decide), fun _ => (St.down hle263 (((hS.tail).dropAt 4).dropAt 4))⟩, ?_⟩
            refine Rg.takeP (i := 10) hE rfl (by kernel_rfl) (runs_plain rfl) (Gives.p hE rfl) rfl (tw_sel (fun h => absurd h (by decide)) (fun _ => (St.down hle263 (((hS.tail).dropAt 4).dropAt 4)))) ?_; clear hE a; intro a hE
            refine Rg.takeP (i := 11) hE rfl (by kernel_rfl) (runs_plain rfl) (Gives.p hE rfl) rfl (tw_sel (fun h => absurd h (by decide)) (fun _ => (St.down hle263 (((hS.tail).dropAt 4).dropAt 4)))) ?_; clear hE a; intro a hE
            refine Rg.takeP (i := 12) hE rfl (by kernel_rfl) (runs_plain rfl) (Gives.p hE rfl) rfl (tw_sel (fun h => absurd h (by decide)) (fun _ => (St.down hle263 (((hS.tail).dropAt 4).dropAt 4)))) ?_; clear hE a; intro a hE
            refine Rg.one (i := 14) false true rfl (by kernel_rfl) (by kernel_rfl) (by kernel_rfl) ?_
            refine WL.storeI hE hS 0 rfl [.int .i64 q248.1.No, .int .i64 q248.1.From, .int .i64 q248.1.To, .slice a264 q248.1.Seats.length c265] (runs_plain rfl) rfl rfl rfl ty80 rfl rfl rfl rfl ?_; clear hE hS a w; intro a w hE hS
            refine WL.nil ?_
            refine ⟨⟨fun h => absurd h (by decide), fun _ => (St.down hle263 (((hS.tail).dropAt 4).dropAt 4))⟩, ?_⟩
            refine Rg.takeP (i := 15) hE rfl (by kernel_rfl) (runs_plain rfl) (Gives.p hE rfl) rfl (tw_sel (fun h => absurd h (by decide)) (fun _ => (St.down hle263 (((hS.tail).dropAt 4).dropAt 4)))) ?_; clear hE a; intro a hE
            refine Rg.done (by kernel_rfl) ?_
            exact key _ _ _ _ _ _ _ _ _ _ _ _ hle263 h4 h1 h178 h266 h198 h159 h268 hn269 hl267 h0_0 h0_1 (hE.pick _ ⟨rfl, rfl, rfl, rfl, rfl, rfl, rfl, rfl, rfl, rfl, rfl, rfl, rfl, rfl, rfl, rfl, rfl, trivial⟩) hS
          clear hE hS a w; intro s262 a264 c265 a252 c253 a257 c258 cs255 cs260 b270 a w hle271 h4 h1 h178 h266 h198 h159 h268 hn269 hl267 h0_0 h0_1 hE hS
          subst hK216
          refine W.seq ?_
          refine W.seq (W.region ?_)
          refine vP hS hE (Gives.p hE rfl) rfl ?_; clear hE a; intro a hE
          refine vP hS hE (Gives.p hE rfl) rfl ?_; clear hE a; intro a hE
          refine WL.nil ?_
          refine W.cond hE rfl (fun hc272 => ?_) (fun hc272 => ?_)
          ·replace hq184 := iteT hc272 hq184
           subst hK210
           refine W.exit rfl ?_
           replace hS := hS.tail
           replace hS := hS.tail
           exact ⟨q195, (List.set q202 ((x187.Train).toNat) (FareCar.mk x217.rows x217.across x217.stops q248.2.2.1 q248.2.2.2)), a196, c197, q195.length, cs200, cs206, (List.set hs208 ((x187.Train).toNat) (allC [pt b227 (.cells #[.int .i64 x217.rows, .int .i64 x217.across, .int .i64 x217.stops, .slice a252 q248.2.2.1.length c253, .slice a257 q248.2.2.2.length c258] 148 (0, 0)), vecC 80 4 a252 c253 q248.2.2.1.length cs255, vecC 4 1 a257 c258 q248.2.2.2.length cs260])), s262, (Sg.Le.trans hle194 hle271), Option.some.inj hq184, h198, rfl, h268, hn269, hl267, hE.pick _ ⟨rfl, rfl, rfl, rfl, rfl, rfl, rfl, rfl, rfl, rfl, rfl, rfl, trivial⟩, hS⟩
          ·replace hq184 := iteF hc272 hq184
           refine W.skip ?_
           refine W.region ?_
           refine vP hS hE (Gives.p hE rfl) rfl ?_; clear hE a; intro a hE
           refine vP hS hE (Gives.fld hE rfl fl80_0) rfl ?_; clear hE a; intro a hE
           refine vP hS hE (Gives.loadB hE 0 rfl rfl rfl ty3) rfl ?_; clear hE a; intro a hE
           refine WL.lit hE hS (e := 3) (es := 1) (vs := [(0, .int .i64 q248.1.No)]) (cs := [.int .i64 q248.1.No]) (runs_plain rfl) rfl (by kernel_rfl) rfl ?_; clear hE hS a w; intro b273 a w hE hS
           obtain ⟨x274, hx275, hq184⟩ := bindS hq184
           refine WL.appD hE hS 2 (m := 1) (runs_plain rfl) rfl rfl rfl ap45 rfl h198 rfl (xs := [q248.1.No]) (Ev.cons (c1 := [.int .i64 q248.1.No]) rfl rfl (Ev.nil)) rfl rfl hx275 rfl ?_; clear hE hS a w; intro a276 c277 cs278 a w h279 hE hS
           refine vP hS hE (Gives.p hE rfl) rfl ?_; clear hE a; intro a hE
           refine WL.nil ?_
           refine W.region ?_
           refine vP hS hE (Gives.inc hE rfl (by have := h178.small; omega)) rfl ?_; clear hE a; intro a hE
           refine vP hS hE (Gives.p hE rfl) rfl ?_; clear hE a; intro a hE
           refine WL.nil ?_
           replace hS := hS.tail
           replace hS := hS.tail
           subst hK210
           exact ⟨rest188.length, Nat.lt_succ_self _, rest188, k186 + 1, x274, (List.set q202 ((x187.Train).toNat) (FareCar.mk x217.rows x217.across x217.stops q248.2.2.1 q248.2.2.2)), a276, c277, x274.length, cs278, cs206, (List.set hs208 ((x187.Train).toNat) (allC [pt b227 (.cells #[.int .i64 x217.rows, .int .i64 x217.across, .int .i64 x217.stops, .slice a252 q248.2.2.1.length c253, .slice a257 q248.2.2.2.length c258] 148 (0, 0)), vecC 80 4 a252 c253 q248.2.2.1.length cs255, vecC 4 1 a257 c258 q248.2.2.2.length cs260])), s262, rfl, hd189, (Sg.Le.trans hle194 hle271), hq184, h279, (rfl), h268, hn269, hl267, hE.pick _ ⟨rfl, rfl, rfl, rfl, rfl, rfl, rfl, rfl, rfl, rfl, rfl, rfl, rfl, rfl, rfl, trivial⟩, hS⟩
        ·clear hE hS a w; rintro a w ⟨q195, q202, a196, c197, n199, cs200, cs206, hs208, s193, hle194, rfl, h198, rfl, h205, hn207, hl209, hE, hS⟩
         dsimp only at hq145
         replace h4 := Sl.mono RI.mono hle194 h4
         replace h1 := Sl.mono RGuideJourney.mono hle194 h1
         replace h178 := Sl.mono RGuideRide.mono hle194 h178
         replace h0_0 := Sl.mono RApiTrain.mono hle194 h0_0
         replace h0_1 := Sl.mono (RL.mono RI.mono) hle194 h0_1
         replace h159 := Ev.mono RGuideJourney.mono hle194 h159
         replace h166 := Ev.mono RO.mono hle194 h166
         replace hl170 := OLink.mono ObFareCar.mono hle194 hl170
         refine W.seq ?_
         refine W.seq ?_
         obtain ⟨q281, hq280, hq145⟩ := bndS hq145
         refine W.cut (fun a w => ∃ (q284 : Bool), q284 = q281 ∧ Rep a 266 [(2, .int .i64 x2), (3, .int .i64 x3), (4, .slice a4 x4.length c4), (5, .pointer (some ⟨b51, 0, none⟩)), (11, .slice a80 q79.length c81), (16, .slice a157 q156.length c158), (18, .pointer (some ⟨b179, 0, none⟩)), (19, .slice a196 q195.length c197), (77, .slice a1 x1.length c1), (78, .int .i64 ((x1).length : Int)), (79, .int .i64 ((k147 : Nat) : Int)), (127, .bool q284)] ∧ St w s193 (vecC 3 1 a196 c197 q195.length cs200 :: pt b179 (.cells #[.slice a176 x148.Rides.length c177] 28 (0, 0)) :: vecC 28 1 a157 c158 q156.length cs161 :: allC hs208 :: vecC 76 1 a80 c81 q79.length cs206 :: pt b51 (.cells #[.slice a0_0 x0.Trains.length c0_0, .slice a0_1 x0.Turns.length c0_1] 25 (0, 0)) :: R)) ?_ ?_
         ·refine W.gen fun K285 hK285 => ?_
          refine W.region ?_
          refine vP hS hE (Gives.p hE rfl) rfl ?_; clear hE a; intro a hE
          refine vP hS hE (Gives.len hE rfl sl45) rfl ?_; clear hE a; intro a hE
          refine vP hS hE (Gives.fld hE rfl fl28_0) rfl ?_; clear hE a; intro a hE
          refine vP hS hE (Gives.loadB hE 1 rfl rfl rfl ty26) rfl ?_; clear hE a; intro a hE
          refine vP hS hE (Gives.len hE rfl sl26) rfl ?_; clear hE a; intro a hE
          refine vP hS hE (Gives.p hE rfl) rfl ?_; clear hE a; intro a hE
          refine vP hS hE (Gives.p hE rfl) rfl ?_; clear hE a; intro a hE
          rcases Bool.eq_false_or_eq_true (((q195.length : Nat) : Int) == ((x148.Rides).length : Int)) with hg286 | hg286
          ·replace hq280 := iteT hg286 hq280
           refine WL.vS hS hE (runs_if hE rfl rfl rfl hg286) (Gives.p hE rfl) rfl ?_; clear hE a; intro a hE
           refine WL.vS hS hE (runs_if hE rfl rfl rfl hg286) (Gives.p hE rfl) rfl ?_; clear hE a; intro a hE
           refine WL.fnq hE (SlicesContainsLint_ok hS h4 rfl (r := SlicesContainsLint x4 ((k147 : Nat) : Int))) (runs_if hE rfl rfl rfl hg286) bd39 rfl rfl rfl ?_
           clear hE hS; rintro e w ⟨rfl, hS⟩; refine ⟨_, rfl, ?_⟩; clear a; intro a hE
           refine WL.vS hS hE (runs_if hE rfl rfl rfl hg286) (Gives.p hE rfl) rfl ?_; clear hE a; intro a hE
           refine vP hS hE (Gives.pickT hE rfl hg286 rfl) rfl ?_; clear hE a; intro a hE
           refine WL.nil ?_
           subst hK285
           exact ⟨!(SlicesContainsLint x4 ((k147 : Nat) : Int)), hq280, hE.pick _ ⟨rfl, rfl, rfl, rfl, rfl, rfl, rfl, rfl, rfl, rfl, rfl, rfl, trivial⟩, hS⟩
          ·replace hq280 := iteF hg286 hq280
           refine WL.no hE (runs_not hE rfl rfl rfl (by rw [hg286]; decide)) rfl ?_; clear hE a; intro a hE
           refine WL.no hE (runs_not hE rfl rfl rfl (by rw [hg286]; decide)) rfl ?_; clear hE a; intro a hE
           refine WL.no hE (runs_not hE rfl rfl rfl (by rw [hg286]; decide)) rfl ?_; clear hE a; intro a hE
           refine WL.no hE (runs_not hE rfl rfl rfl (by rw [hg286]; decide)) rfl ?_; clear hE a; intro a hE
           refine vP hS hE (Gives.pickF hE rfl hg286 rfl) rfl ?_; clear hE a; intro a hE
           refine WL.nil ?_
           subst hK285
           exact ⟨false, hq280, hE.pick _ ⟨rfl, rfl, rfl, rfl, rfl, rfl, rfl, rfl, rfl, rfl, rfl, rfl, trivial⟩, hS⟩
         ·clear hE hS a w; rintro a w ⟨q284, rfl, hE, hS⟩
          refine W.cond hE rfl (fun hc287 => ?_) (fun hc287 => ?_)
          ·replace hq145 := iteT hc287 hq145
           refine W.seq (W.region ?_)
           refine vP hS hE (Gives.p hE rfl) rfl ?_; clear hE a; intro a hE
           refine vP hS hE (Gives.loadBA hE 1 rfl rfl ty28) rfl ?_; clear hE a; intro a hE
           refine WL.lit hE hS (e := 28) (es := 1) (vs := [(0, .agg (List.toArray [.slice a176 x148.Rides.length c177]))]) (cs := [.slice a176 x148.Rides.length c177]) (runs_plain rfl) rfl (by kernel_rfl) rfl ?_; clear hE hS a w; intro b288 a w hE hS
           obtain ⟨x289, hx290, hq145⟩ := bindS hq145
           refine WL.appD hE hS 2 (m := 1) (runs_plain rfl) rfl rfl rfl ap39 rfl h159 rfl (xs := [x148]) (Ev.cons (c1 := [.slice a176 x148.Rides.length c177]) ⟨_, _, rfl, h178⟩ rfl (Ev.nil)) rfl rfl hx290 rfl ?_; clear hE hS a w; intro a291 c292 cs293 a w h294 hE hS
           refine vP hS hE (Gives.p hE rfl) rfl ?_; clear hE a; intro a hE
           refine WL.nil ?_
           refine W.exit rfl ?_
           refine W.region ?_
           refine vP hS hE (Gives.inc hE rfl (by have := h1.small; omega)) rfl ?_; clear hE a; intro a hE
           refine vP hS hE (Gives.p hE rfl) rfl ?_; clear hE a; intro a hE
           refine WL.nil ?_
           replace hS := hS.tail
           replace hS := hS.tail
           subst hK171
           exact ⟨rest149.length, Nat.lt_succ_self _, rest149, k147 + 1, x289, q202, a291, c292, x289.length, cs293, cs206, hs208, s193, rfl, hd150, (Sg.Le.trans hle155 hle194), hq145, h294, (rfl), h205, hn207, hl209, hE.pick _ ⟨rfl, rfl, rfl, rfl, rfl, rfl, rfl, rfl, rfl, trivial⟩, hS⟩
          ·replace hq145 := iteF hc287 hq145
           refine W.skip ?_
           refine W.seq (W.region ?_)
           refine vP hS hE (Gives.p hE rfl) rfl ?_; clear hE a; intro a hE
           refine vP hS hE (Gives.len hE rfl sl45) rfl ?_; clear hE a; intro a hE
           refine vP hS hE (Gives.p hE rfl) rfl ?_; clear hE a; intro a hE
           refine WL.nil ?_
           have hb306 : q195.length ≤ 9223372036854775807 := by have := hS.vecCap 0 rfl; unfold maxLen at this; omega
           obtain ⟨q296, hq295, hq145⟩ := bindS hq145
           refine W.cut (fun a w => ∃ (q307 : List FareCar), ∃ (cs311 : List Value), ∃ (hs313 : List HP), (.next q307) = q296 ∧ Ev 1 (RO : Rd FareCar) s193 cs311 q307 ∧ q307.length = q79.length ∧ OLink 1 ObFareCar s193 cs311 hs313 q307 ∧ Rep a 266 [(2, .int .i64 x2), (3, .int .i64 x3), (4, .slice a4 x4.length c4), (5, .pointer (some ⟨b51, 0, none⟩)), (11, .slice a80 q79.length c81), (16, .slice a157 q156.length c158), (77, .slice a1 x1.length c1), (78, .int .i64 ((x1).length : Int)), (79, .int .i64 ((k147 : Nat) : Int))] ∧ St w s193 (vecC 3 1 a196 c197 q195.length cs200 :: pt b179 (.cells #[.slice a176 x148.Rides.length c177] 28 (0, 0)) :: vecC 28 1 a157 c158 q156.length cs161 :: allC hs313 :: vecC 76 1 a80 c81 q79.length cs311 :: pt b51 (.cells #[.slice a0_0 x0.Trains.length c0_0, .slice a0_1 x0.Turns.length c0_1] 25 (0, 0)) :: R)) ?_ ?_
           ·refine W.block ?_
            refine W.loop (fun m a w => ∃ (rest299 : Nat) (k297 : Nat), ∃ (q307 : List FareCar), ∃ (cs311 : List Value), ∃ (hs313 : List HP), rest299 = m ∧ k297 + rest299 = q195.length ∧ FishtopTopSeated.loop4 x148 q195 rest299 k297 q307 = some q296 ∧ Ev 1 (RO : Rd FareCar) s193 cs311 q307 ∧ q307.length = q79.length ∧ OLink 1 ObFareCar s193 cs311 hs313 q307 ∧ Rep a 266 [(2, .int .i64 x2), (3, .int .i64 x3), (4, .slice a4 x4.length c4), (5, .pointer (some ⟨b51, 0, none⟩)), (11, .slice a80 q79.length c81), (16, .slice a157 q156.length c158), (18, .pointer (some ⟨b179, 0, none⟩)), (77, .slice a1 x1.length c1), (78, .int .i64 ((x1).length : Int)), (79, .int .i64 ((k147 : Nat) : Int)), (132, .slice a196 q195.length c197), (133, .int .i64 ((q195.length : Nat) : Int)), (134, .int .i64 ((k297 : Nat) : Int))] ∧ St w s193 (vecC 3 1 a196 c197 q195.length cs200 :: pt b179 (.cells #[.slice a176 x148.Rides.length c177] 28 (0, 0)) :: vecC 28 1 a157 c158 q156.length cs161 :: allC hs313 :: vecC 76 1 a80 c81 q79.length cs311 :: pt b51 (.cells #[.slice a0_0 x0.Trains.length c0_0, .slice a0_1 x0.Turns.length c0_1] 25 (0, 0)) :: R)) (m := q195.length) ⟨q195.length, 0, q202, cs206, hs208, rfl, by omega, hq295, h205, hn207, hl209, hE.pick _ ⟨rfl, rfl, rfl, rfl, rfl, rfl, rfl, rfl, rfl, rfl, rfl, rfl, rfl, trivial⟩, hS⟩ ?_
            clear hE hS a w hq295; rintro m303 a w ⟨rest299, k297, q307, cs311, hs313, rfl, hd300, hq295, h310, hn312, hl314, hE, hS⟩
            refine W.gen fun K315 hK315 => ?_
            rcases rest299 with _ | rest299
            ·skip
             refine W.seq (W.region ?_)
             refine vP hS hE (Gives.p hE rfl) rfl ?_; clear hE a; intro a hE
             refine WL.nil ?_
             refine W.seq ?_
             refine W.condF hE rfl (decide_eq_false (by omega)) ?_
             subst hK315
             refine W.exit rfl ?_
             exact ⟨q307, cs311, hs313, Option.some.inj hq295, h310, hn312, hl314, hE.pick _ ⟨rfl, rfl, rfl, rfl, rfl, rfl, rfl, rfl, rfl, trivial⟩, hS⟩
            ·have hlt301 : k297 < q195.length := by omega
             rw [FishtopTopSeated.loop4] at hq295
             refine W.seq (W.region ?_)
             refine vP hS hE (Gives.p hE rfl) rfl ?_; clear hE a; intro a hE
             refine WL.nil ?_
             refine W.seq ?_
             refine W.condT hE rfl (decide_eq_true (by omega)) ?_
             refine W.skip ?_
             refine W.seq ?_
             refine W.block ?_
             refine W.seq (W.region ?_)
             refine vP hS hE (Gives.p hE rfl) rfl ?_; clear hE a; intro a hE
             obtain ⟨x316, hx317, hq295⟩ := bindS hq295
             obtain ⟨hi318, hlt319, hy320⟩ := gx_some hx317
             obtain ⟨vs321, hl322, hR323, hd324, hget325⟩ := h198.at hy320
             subst hR323
             refine vP hS hE (Gives.idx hE ((((k297 : Nat) : Int)).toNat) rfl rfl sl45 hi318 (by omega) (hS.vecAok 0 rfl (by omega : (((k297 : Nat) : Int)).toNat < q195.length))) rfl ?_; clear hE a; intro a hE
             refine vP hS hE (Gives.load1 hE rfl (fun w h => St.vecSees h 0 rfl ((((k297 : Nat) : Int)).toNat * 1) _ hget325) ty3) rfl ?_; clear hE a; intro a hE
             refine vP hS hE (Gives.p hE rfl) rfl ?_; clear hE a; intro a hE
             refine vP hS hE (Gives.p hE rfl) rfl ?_; clear hE a; intro a hE
             refine WL.nil ?_
             refine W.seq (W.region ?_)
             refine vP hS hE (Gives.p hE rfl) rfl ?_; clear hE a; intro a hE
             refine vP hS hE (Gives.fld hE rfl fl28_0) rfl ?_; clear hE a; intro a hE
             refine vP hS hE (Gives.loadB hE 1 rfl rfl rfl ty26) rfl ?_; clear hE a; intro a hE
             refine vP hS hE (Gives.p hE rfl) rfl ?_; clear hE a; intro a hE
             obtain ⟨x326, hx327, hq295⟩ := bindS hq295
             obtain ⟨hi328, hlt329, hy330⟩ := gx_some hx327
             obtain ⟨cs331, hl332, hR333, hat334⟩ := h178.at hy330
             subst hR333
             refine vP hS hE (Gives.idx hE (((k297 : Nat) : Int)).toNat rfl rfl sl26 hi328 hlt329 (h178.aok hlt329)) rfl ?_; clear hE a; intro a hE
             refine vP hS hE (Gives.fld hE rfl fl47_0) rfl ?_; clear hE a; intro a hE
             refine vP hS hE (Gives.load1 hE rfl (fun w h => (hat334 w _ h).one rfl) ty3) rfl ?_; clear hE a; intro a hE
             obtain ⟨x335, hx336, hq295⟩ := bindS hq295
             obtain ⟨hi337, hlt338, hy339⟩ := gx_some hx336
             obtain ⟨vs340, hl341, hR342, hd343, hget344⟩ := h310.at hy339
             obtain ⟨b345, rfl⟩ := hR342
             refine vP hS hE (Gives.idx hE ((x326.Train).toNat) rfl rfl sl75 hi337 (by have := hn312; omega) (hS.vecAok 4 rfl (by have := hn312; omega : (x326.Train).toNat < q79.length))) rfl ?_; clear hE a; intro a hE
             refine vP hS hE (Gives.load1 hE rfl (fun w h => St.vecSees h 4 rfl ((x326.Train).toNat * 1) _ hget344) ty76) rfl ?_; clear hE a; intro a hE
             refine vP hS hE (Gives.p hE rfl) rfl ?_; clear hE a; intro a hE
             obtain ⟨H346, hH347, hO348⟩ := OLink.at hl314 hy339 hd343
             obtain ⟨b351, a352, c353, n354, cs355, a359, c360, n361, cs362, e349, e350, h356, hn357, h363, hn364⟩ := hO348
             have hO348 := obj_eq e349; subst hO348; subst e350
             replace hS : St _ s193 (pt b345 (.cells #[.int .i64 x335.rows, .int .i64 x335.across, .int .i64 x335.stops, .slice a352 n354 c353, .slice a359 n361 c360] 148 (0, 0)) :: vecC 80 4 a352 c353 n354 cs355 :: vecC 4 1 a359 c360 n361 cs362 :: vecC 3 1 a196 c197 q195.length cs200 :: pt b179 (.cells #[.slice a176 x148.Rides.length c177] 28 (0, 0)) :: vecC 28 1 a157 c158 q156.length cs161 :: allC (List.eraseIdx hs313 ((x326.Train).toNat)) :: vecC 76 1 a80 c81 q79.length cs311 :: pt b51 (.cells #[.slice a0_0 x0.Trains.length c0_0, .slice a0_1 x0.Turns.length c0_1] 25 (0, 0)) :: R) := St.oOpen hS 3 rfl hH347
             obtain ⟨q366, hq367, hq295⟩ := bindS hq295
             have hc_ := FareCarCancel_v1_ok (y0 := x335) hS h356 hn357 h363 hn364 hq367
             refine WL.fnq hE (hc_) (runs_plain rfl) bd40 rfl rfl rfl ?_
             clear hE hS hc_; rintro e w ⟨cs368, rfl, h369, hn370, hS⟩; refine ⟨_, rfl, ?_⟩; clear a; intro a hE
             replace hS := hS.front 2 rfl
             replace hS := hS.front 2 rfl
             replace hS := hS.front 2 rfl
             have hl371 : OLink 1 ObFareCar s193 cs311 (List.set hs313 ((x326.Train).toNat) (allC [pt b345 (.cells #[.int .i64 x335.rows, .int .i64 x335.across, .int .i64 x335.stops, .slice a352 n354 c353, .slice a359 n361 c360] 148 (0, 0)), vecC 80 4 a352 c353 n354 cs355, vecC 4 1 a359 c360 n361 cs368])) (List.set q307 ((x326.Train).toNat) (FareCar.mk x335.rows x335.across x335.stops x335.bookings q366.2)) := OLink.set hl314 hd343 ⟨_, _, _, _, _, _, _, _, _, rfl, rfl, h356, hn357, h369, hn370⟩
             have h372 : Ev 1 (RO : Rd FareCar) s193 cs311 (List.set q307 ((x326.Train).toNat) (FareCar.mk x335.rows x335.across x335.stops x335.bookings q366.2)) := Ev.setO h310
             have hn373 : (List.set q307 ((x326.Train).toNat) (FareCar.mk x335.rows x335.across x335.stops x335.bookings q366.2)).length = q79.length := by rw [List.length_set]; exact hn312
             replace hS : St _ s193 (vecC 3 1 a196 c197 q195.length cs200 :: pt b179 (.cells #[.slice a176 x148.Rides.length c177] 28 (0, 0)) :: vecC 28 1 a157 c158 q156.length cs161 :: allC (List.set hs313 ((x326.Train).toNat) (allC [pt b345 (.cells #[.int .i64 x335.rows, .int .i64 x335.across, .int .i64 x335.stops, .slice a352 n354 c353, .slice a359 n361 c360] 148 (0, 0)), vecC 80 4 a352 c353 n354 cs355, vecC 4 1 a359 c360 n361 cs368])) :: vecC 76 1 a80 c81 q79.length cs311 :: pt b51 (.cells #[.slice a0_0 x0.Trains.length c0_0, .slice a0_1 x0.Turns.length c0_1] 25 (0, 0)) :: R) := St.oClose (ps := [pt b345 (.cells #[.int .i64 x335.rows, .int .i64 x335.across, .int .i64 x335.stops, .slice a352 n354 c353, .slice a359 n361 c360] 148 (0, 0)), vecC 80 4 a352 c353 n354 cs355, vecC 4 1 a359 c360 n361 cs368]) (hs := hs313) (k := (x326.Train).toNat) hS 3 rfl (List.getElem?_eq_some_iff.1 hH347).1
             refine vP hS hE (Gives.p hE rfl) rfl ?_; clear hE a; intro a hE
             refine WL.nil ?_
             refine W.cond hE rfl (fun hc374 => ?_) (fun hc374 => ?_)
             ·replace hq295 := iteT hc374 hq295
              refine W.seq (W.region ?_)
              refine vP hS hE (Gives.p hE rfl) rfl ?_; clear hE a; intro a hE
              refine WL.nil ?_
              refine W.ret ?_
              subst hK315
              subst hK171
              rw [← Option.some.inj hq295] at hq145
              dsimp only at hq145
              rw [← Option.some.inj hq145] at hr
              dsimp only at hr
              refine finG (fn := Tryd.f9) (rs := [.tmp 10]) (vs := [_]) hE rfl ⟨rfl, trivial⟩ ?_
              obtain rfl := Option.some.inj hr
              replace hS := hS.tail
              replace hS := hS.tail
              replace hS := hS.tail
              replace hS := hS.tail
              replace hS := hS.tail
              replace hS := hS.tail
              exact ⟨rfl, (hS.down (Sg.Le.trans (Sg.Le.trans hle78 hle155) hle194))⟩
             ·replace hq295 := iteF hc374 hq295
              refine W.skip ?_
              refine W.region ?_
              refine vP hS hE (Gives.inc hE rfl (by omega)) rfl ?_; clear hE a; intro a hE
              refine vP hS hE (Gives.p hE rfl) rfl ?_; clear hE a; intro a hE
              refine WL.nil ?_
              subst hK315
              exact ⟨rest299, Nat.lt_succ_self _, rest299, k297 + 1, (List.set q307 ((x326.Train).toNat) (FareCar.mk x335.rows x335.across x335.stops x335.bookings q366.2)), cs311, (List.set hs313 ((x326.Train).toNat) (allC [pt b345 (.cells #[.int .i64 x335.rows, .int .i64 x335.across, .int .i64 x335.stops, .slice a352 n354 c353, .slice a359 n361 c360] 148 (0, 0)), vecC 80 4 a352 c353 n354 cs355, vecC 4 1 a359 c360 n361 cs368])), rfl, (by omega), hq295, h372, hn373, hl371, hE.pick _ ⟨rfl, rfl, rfl, rfl, rfl, rfl, rfl, rfl, rfl, rfl, rfl, rfl, rfl, trivial⟩, hS⟩
           ·clear hE hS a w; rintro a w ⟨q307, cs311, hs313, rfl, h310, hn312, hl314, hE, hS⟩
            dsimp only at hq145
            refine W.region ?_
            refine vP hS hE (Gives.inc hE rfl (by have := h1.small; omega)) rfl ?_; clear hE a; intro a hE
            refine vP hS hE (Gives.p hE rfl) rfl ?_; clear hE a; intro a hE
            refine WL.nil ?_
            replace hS := hS.tail
            replace hS := hS.tail
            subst hK171
            exact ⟨rest149.length, Nat.lt_succ_self _, rest149, k147 + 1, q156, q307, a157, c158, q156.length, cs161, cs311, hs313, s193, rfl, hd150, (Sg.Le.trans hle155 hle194), hq145, h159, rfl, h310, hn312, hl314, hE.pick _ ⟨rfl, rfl, rfl, rfl, rfl, rfl, rfl, rfl, rfl, trivial⟩, hS⟩
     ·clear hE hS a w; rintro a w ⟨q156, q163, a157, c158, n160, cs161, cs167, hs169, s154, hle155, rfl, h159, rfl, h166, hn168, hl170, hE, hS⟩
      dsimp only at hr
      replace h1 := Sl.mono RGuideJourney.mono hle155 h1
      replace h4 := Sl.mono RI.mono hle155 h4
      replace h82 := Ev.mono RO.mono hle155 h82
      replace hl87 := OLink.mono ObFareCar.mono hle155 hl87
      replace h0_0 := Sl.mono RApiTrain.mono hle155 h0_0
      replace h0_1 := Sl.mono (RL.mono RI.mono) hle155 h0_1
      refine W.seq (W.region ?_)
      refine vP hS hE (Gives.loadBA hE 3 rfl rfl ty25) rfl ?_; clear hE a; intro a hE
      refine vP hS hE (Gives.p hE rfl) rfl ?_; clear hE a; intro a hE
      obtain ⟨q375, hq376, hr⟩ := bindS hr
      have hc_ := GuideCrowd_v1_ok hS (TabS.mono (Sg.Le.trans hle78 hle155) hTab) h0_0 h0_1 h159 rfl hq376
      refine WL.fnq hE (hc_) (runs_plain rfl) bd20 rfl rfl rfl ?_
      clear hE hS hc_; rintro e w ⟨a377, c378, s380, rfl, hle381, h379, hS⟩; refine ⟨_, rfl, ?_⟩; clear a; intro a hE
      replace h0_0 := Sl.mono RApiTrain.mono hle381 h0_0
      replace h0_1 := Sl.mono (RL.mono RI.mono) hle381 h0_1
      replace h159 := Ev.mono RGuideJourney.mono hle381 h159
      replace h166 := Ev.mono RO.mono hle381 h166
      replace hl170 := OLink.mono ObFareCar.mono hle381 hl170
      refine vP hS hE (Gives.p hE rfl) rfl ?_; clear hE a; intro a hE
      refine vP hS hE (Gives.p hE rfl) rfl ?_; clear hE a; intro a hE
      refine vP hS hE (Gives.p hE rfl) rfl ?_; clear hE a; intro a hE
      refine vP hS hE (Gives.p hE rfl) rfl ?_; clear hE a; intro a hE
      refine vP hS hE (Gives.p hE rfl) rfl ?_; clear hE a; intro a hE
      refine WL.nil ?_
      refine W.seq ?_
      refine W.seq ?_
      obtain ⟨q383, hq382, hr⟩ := bndS hr
      refine W.cut (fun a w => ∃ (q386 : Bool), q386 = q383 ∧ Rep a 266 [(2, .int .i64 x2), (3, .int .i64 x3), (5, .pointer (some ⟨b51, 0, none⟩)), (11, .slice a80 q79.length c81), (26, .slice a377 q375.1.length c378), (167, .bool q386)] ∧ St w s380 (allC hs169 :: vecC 76 1 a80 c81 q79.length cs167 :: pt b51 (.cells #[.slice a0_0 x0.Trains.length c0_0, .slice a0_1 x0.Turns.length c0_1] 25 (0, 0)) :: R)) ?_ ?_
      ·refine W.gen fun K387 hK387 => ?_
       refine W.region ?_
       refine vP hS hE (Gives.p hE rfl) rfl ?_; clear hE a; intro a hE
       refine vP hS hE (Gives.p hE rfl) rfl ?_; clear hE a; intro a hE
       refine vP hS hE (Gives.p hE rfl) rfl ?_; clear hE a; intro a hE
       rcases Bool.eq_false_or_eq_true (q375.2 != 0) with hg388 | hg388
       ·replace hq382 := iteT hg388 hq382
        refine WL.no hE (runs_not hE rfl rfl rfl (by rw [hg388]; decide)) rfl ?_; clear hE a; intro a hE
        refine WL.no hE (runs_not hE rfl rfl rfl (by rw [hg388]; decide)) rfl ?_; clear hE a; intro a hE
        refine WL.no hE (runs_not hE rfl rfl rfl (by rw [hg388]; decide)) rfl ?_; clear hE a; intro a hE
        refine WL.no hE (runs_not hE rfl rfl rfl (by rw [hg388]; decide)) rfl ?_; clear hE a; intro a hE
        refine WL.no hE (runs_not hE rfl rfl rfl (by rw [hg388]; decide)) rfl ?_; clear hE a; intro a hE
        refine vP hS hE (Gives.pickT hE rfl hg388 rfl) rfl ?_; clear hE a; intro a hE
        refine WL.nil ?_
        replace hS := hS.tail
        subst hK387
        exact ⟨true, hq382, hE.pick _ ⟨rfl, rfl, rfl, rfl, rfl, rfl, trivial⟩, hS⟩
       ·replace hq382 := iteF hg388 hq382
        refine WL.vS hS hE (runs_if hE rfl rfl rfl hg388) (Gives.p hE rfl) rfl ?_; clear hE a; intro a hE
        refine WL.vS hS hE (runs_if hE rfl rfl rfl hg388) (Gives.len hE rfl sl23) rfl ?_; clear hE a; intro a hE
        refine WL.vS hS hE (runs_if hE rfl rfl rfl hg388) (Gives.p hE rfl) rfl ?_; clear hE a; intro a hE
        refine WL.vS hS hE (runs_if hE rfl rfl rfl hg388) (Gives.len hE rfl sl75) rfl ?_; clear hE a; intro a hE
        refine WL.vS hS hE (runs_if hE rfl rfl rfl hg388) (Gives.p hE rfl) rfl ?_; clear hE a; intro a hE
        refine vP hS hE (Gives.pickF hE rfl hg388 rfl) rfl ?_; clear hE a; intro a hE
        refine WL.nil ?_
        replace hS := hS.tail
        subst hK387
        exact ⟨(((q375.1).length : Int) != ((q79.length : Nat) : Int)), hq382, hE.pick _ ⟨rfl, rfl, rfl, rfl, rfl, rfl, trivial⟩, hS⟩
      ·clear hE hS a w; rintro a w ⟨q386, rfl, hE, hS⟩
       refine W.cond hE rfl (fun hc389 => ?_) (fun hc389 => ?_)
       ·replace hr := iteT hc389 hr
        refine W.seq (W.region ?_)
        refine vP hS hE (Gives.p hE rfl) rfl ?_; clear hE a; intro a hE
        refine WL.nil ?_
        refine W.ret ?_
        refine finG (fn := Tryd.f9) (rs := [.tmp 10]) (vs := [_]) hE rfl ⟨rfl, trivial⟩ ?_
        obtain rfl := Option.some.inj hr
        replace hS := hS.tail
        replace hS := hS.tail
        replace hS := hS.tail
        exact ⟨rfl, (hS.down (Sg.Le.trans (Sg.Le.trans hle78 hle155) hle381))⟩
       ·replace hr := iteF hc389 hr
        refine W.skip ?_
        refine W.seq ?_
        refine W.seq (W.region ?_)
        refine vP hS hE (Gives.p hE rfl) rfl ?_; clear hE a; intro a hE
        refine vP hS hE (Gives.len hE rfl sl75) rfl ?_; clear hE a; intro a hE
        refine vP hS hE (Gives.p hE rfl) rfl ?_; clear hE a; intro a hE
        refine WL.nil ?_
        have hb401 : q79.length ≤ 9223372036854775807 := by have := hS.vecCap 1 rfl; unfold maxLen at this; omega
        obtain ⟨q391, hq390, hr⟩ := bindS hr
        refine W.cut (fun a w => ∃ (s399 : Sg), s380.Le s399 ∧ (.next ()) = q391 ∧ Rep a 266 [] ∧ St w s399 (allC hs169 :: vecC 76 1 a80 c81 q79.length cs167 :: pt b51 (.cells #[.slice a0_0 x0.Trains.length c0_0, .slice a0_1 x0.Turns.length c0_1] 25 (0, 0)) :: R)) ?_ ?_
        ·refine W.block ?_
         refine W.loop (fun m a w => ∃ (rest394 : Nat) (k392 : Nat), ∃ (s399 : Sg), rest394 = m ∧ k392 + rest394 = q79.length ∧ s380.Le s399 ∧ FishtopTopSeated.loop5 x0 x2 x3 fu q163 q375 rest394 k392 = some q391 ∧ Rep a 266 [(2, .int .i64 x2), (3, .int .i64 x3), (5, .pointer (some ⟨b51, 0, none⟩)), (26, .slice a377 q375.1.length c378), (168, .slice a80 q79.length c81), (169, .int .i64 ((q79.length : Nat) : Int)), (170, .int .i64 ((k392 : Nat) : Int))] ∧ St w s399 (allC hs169 :: vecC 76 1 a80 c81 q79.length cs167 :: pt b51 (.cells #[.slice a0_0 x0.Trains.length c0_0, .slice a0_1 x0.Turns.length c0_1] 25 (0, 0)) :: R)) (m := q79.length) ⟨q79.length, 0, s380, rfl, by omega, (Sg.Le.refl _), hq390, hE.pick _ ⟨rfl, rfl, rfl, rfl, rfl, rfl, rfl, trivial⟩, hS⟩ ?_
         clear hE hS a w hq390; rintro m398 a w ⟨rest394, k392, s399, rfl, hd395, hle400, hq390, hE, hS⟩
         refine W.gen fun K402 hK402 => ?_
         replace h379 := Sl.mono (RL.mono RI.mono) hle400 h379
         replace h166 := Ev.mono RO.mono hle400 h166
         replace hl170 := OLink.mono ObFareCar.mono hle400 hl170
         replace h0_0 := Sl.mono RApiTrain.mono hle400 h0_0
         replace h0_1 := Sl.mono (RL.mono RI.mono) hle400 h0_1
         rcases rest394 with _ | rest394
         ·skip
          refine W.seq (W.region ?_)
          refine vP hS hE (Gives.p hE rfl) rfl ?_; clear hE a; intro a hE
          refine WL.nil ?_
          refine W.seq ?_
          refine W.condF hE rfl (decide_eq_false (by omega)) ?_
          subst hK402
          refine W.exit rfl ?_
          exact ⟨s399, hle400, Option.some.inj hq390, hE.pick _ trivial, hS⟩
         ·have hlt396 : k392 < q79.length := by omega
          rw [FishtopTopSeated.loop5] at hq390
          refine W.seq (W.region ?_)
          refine vP hS hE (Gives.p hE rfl) rfl ?_; clear hE a; intro a hE
          refine WL.nil ?_
          refine W.seq ?_
          refine W.condT hE rfl (decide_eq_true (by omega)) ?_
          refine W.skip ?_
          refine W.seq ?_
          refine W.block ?_
          refine W.seq (W.region ?_)
          refine vP hS hE (Gives.p hE rfl) rfl ?_; clear hE a; intro a hE
          obtain ⟨x403, hx404, hq390⟩ := bindS hq390
          obtain ⟨hi405, hlt406, hy407⟩ := gx_some hx404
          obtain ⟨vs408, hl409, hR410, hd411, hget412⟩ := h166.at hy407
          obtain ⟨b413, rfl⟩ := hR410
          refine vP hS hE (Gives.idx hE ((((k392 : Nat) : Int)).toNat) rfl rfl sl75 hi405 (by have := hn168; omega) (hS.vecAok 1 rfl (by have := hn168; omega : (((k392 : Nat) : Int)).toNat < q79.length))) rfl ?_; clear hE a; intro a hE
          refine vP hS hE (Gives.load1 hE rfl (fun w h => St.vecSees h 1 rfl ((((k392 : Nat) : Int)).toNat * 1) _ hget412) ty76) rfl ?_; clear hE a; intro a hE
          refine vP hS hE (Gives.p hE rfl) rfl ?_; clear hE a; intro a hE
          refine vP hS hE (Gives.p hE rfl) rfl ?_; clear hE a; intro a hE
          refine WL.nil ?_
          refine W.seq ?_
          refine W.seq ?_
          refine W.regionQ (C := fun w => St w s399 (allC hs169 :: vecC 76 1 a80 c81 q79.length cs167 :: pt b51 (.cells #[.slice a0_0 x0.Trains.length c0_0, .slice a0_1 x0.Turns.length c0_1] 25 (0, 0)) :: R)) mixed (by kernel_rfl) hS.drew ?_
          refine qP hE (Gives.p hE rfl) rfl ?_; clear hE a; intro a hE
          refine qP hE (Gives.p hE rfl) rfl ?_; clear hE a; intro a hE
          obtain ⟨x414, hx415, hq390⟩ := bindS hq390
          obtain ⟨hi416, hlt417, hy418⟩ := gx_some hx415
          obtain ⟨cs419, hl420, hR421, hat422⟩ := h379.at hy418
          obtain ⟨a423, c424, rfl, h425⟩ := hR421
          refine qP hE (Gives.idx hE (((k392 : Nat) : Int)).toNat rfl rfl sl23 hi416 hlt417 (h379.aok hlt417)) rfl ?_; clear hE a; intro a hE
          refine qP hE (Gives.load1 hE rfl (fun w h => hat422 w _ h) ty45) rfl ?_; clear hE a; intro a hE
          refine qP hE (Gives.len hE rfl sl45) rfl ?_; clear hE a; intro a hE
          refine qP hE (Gives.fld hE rfl fl25_0) rfl ?_; clear hE a; intro a hE
          refine qP hE (Gives.loadB hE 2 rfl rfl rfl ty22) rfl ?_; clear hE a; intro a hE
          refine qP hE (Gives.p hE rfl) rfl ?_; clear hE a; intro a hE
          obtain ⟨x426, hx427, hq390⟩ := bindS hq390
          obtain ⟨hi428, hlt429, hy430⟩ := gx_some hx427
          obtain ⟨cs431, hl432, hR433, hat434⟩ := h0_0.at hy430
          obtain ⟨a435, c436, a438, c439, rfl, h437, h440⟩ := hR433
          refine qP hE (Gives.idx hE (((k392 : Nat) : Int)).toNat rfl rfl sl22 hi428 hlt429 (h0_0.aok hlt429)) rfl ?_; clear hE a; intro a hE
          refine qP hE (Gives.fld hE rfl fl44_3) rfl ?_; clear hE a; intro a hE
          refine qP hE (Gives.load1 hE rfl (fun w h => (hat434 w _ h).one rfl) ty23) rfl ?_; clear hE a; intro a hE
          refine qP hE (Gives.len hE rfl sl23) rfl ?_; clear hE a; intro a hE
          refine qP hE (Gives.p hE rfl) rfl ?_; clear hE a; intro a hE
          refine QL.nil ?_; clear hS w; intro w hS
          refine W.cond hE rfl (fun hc441 => ?_) (fun hc441 => ?_)
          ·replace hq390 := iteT hc441 hq390
           refine W.seq (W.region ?_)
           refine vP hS hE (Gives.p hE rfl) rfl ?_; clear hE a; intro a hE
           refine WL.nil ?_
           refine W.ret ?_
           subst hK402
           rw [← Option.some.inj hq390] at hr
           dsimp only at hr
           refine finG (fn := Tryd.f9) (rs := [.tmp 10]) (vs := [_]) hE rfl ⟨rfl, trivial⟩ ?_
           obtain rfl := Option.some.inj hr
           replace hS := hS.tail
           replace hS := hS.tail
           replace hS := hS.tail
           exact ⟨rfl, (hS.down (Sg.Le.trans (Sg.Le.trans (Sg.Le.trans hle78 hle155) hle381) hle400))⟩
          ·replace hq390 := iteF hc441 hq390
           refine W.skip ?_
           refine W.seq (W.region ?_)
           refine vP hS hE (Gives.fld hE rfl fl25_0) rfl ?_; clear hE a; intro a hE
           refine vP hS hE (Gives.loadB hE 2 rfl rfl rfl ty22) rfl ?_; clear hE a; intro a hE
           refine vP hS hE (Gives.p hE rfl) rfl ?_; clear hE a; intro a hE
           obtain ⟨x442, hx443, hq390⟩ := bindS hq390
           obtain ⟨hi444, hlt445, hy446⟩ := gx_some hx443
           obtain ⟨cs447, hl448, hR449, hat450⟩ := h0_0.at hy446
           obtain ⟨a451, c452, a454, c455, rfl, h453, h456⟩ := hR449
           refine vP hS hE (Gives.idx hE (((k392 : Nat) : Int)).toNat rfl rfl sl22 hi444 hlt445 (h0_0.aok hlt445)) rfl ?_; clear hE a; intro a hE
           refine vP hS hE (Gives.fld hE rfl fl44_3) rfl ?_; clear hE a; intro a hE
           refine vP hS hE (Gives.load1 hE rfl (fun w h => (hat450 w _ h).one rfl) ty23) rfl ?_; clear hE a; intro a hE
           refine vP hS hE (Gives.len hE rfl sl23) rfl ?_; clear hE a; intro a hE
           refine vP hS hE (Gives.p hE rfl) rfl ?_; clear hE a; intro a hE
           refine WL.nil ?_
           obtain ⟨q458, hq457, hq390⟩ := bindS hq390
           refine W.cut (fun a w => ∃ (s466 : Sg), s399.Le s466 ∧ (.next ()) = q458 ∧ Rep a 266 [(2, .int .i64 x2), (3, .int .i64 x3), (5, .pointer (some ⟨b51, 0, none⟩)), (26, .slice a377 q375.1.length c378), (168, .slice a80 q79.length c81), (169, .int .i64 ((q79.length : Nat) : Int)), (170, .int .i64 ((k392 : Nat) : Int))] ∧ St w s466 (allC hs169 :: vecC 76 1 a80 c81 q79.length cs167 :: pt b51 (.cells #[.slice a0_0 x0.Trains.length c0_0, .slice a0_1 x0.Turns.length c0_1] 25 (0, 0)) :: R)) ?_ ?_
           ·refine W.block ?_
            refine W.loop (fun m a w => ∃ (rest461 : List (List Int)) (k459 : Nat), ∃ (s466 : Sg), rest461.length = m ∧ x442.Legs.drop k459 = rest461 ∧ s399.Le s466 ∧ FishtopTopSeated.loop6 x2 x3 fu q375 k392 x403 rest461 k459 = some q458 ∧ Rep a 266 [(2, .int .i64 x2), (3, .int .i64 x3), (5, .pointer (some ⟨b51, 0, none⟩)), (26, .slice a377 q375.1.length c378), (28, .int .i64 ((k392 : Nat) : Int)), (29, .pointer (some ⟨b413, 0, none⟩)), (168, .slice a80 q79.length c81), (169, .int .i64 ((q79.length : Nat) : Int)), (170, .int .i64 ((k392 : Nat) : Int)), (194, .int .i64 ((x442.Legs).length : Int)), (195, .int .i64 ((k459 : Nat) : Int))] ∧ St w s466 (allC hs169 :: vecC 76 1 a80 c81 q79.length cs167 :: pt b51 (.cells #[.slice a0_0 x0.Trains.length c0_0, .slice a0_1 x0.Turns.length c0_1] 25 (0, 0)) :: R)) (m := x442.Legs.length) ⟨x442.Legs, 0, s399, rfl, rfl, (Sg.Le.refl _), hq457, hE.pick _ ⟨rfl, rfl, rfl, rfl, rfl, rfl, rfl, rfl, rfl, rfl, rfl, trivial⟩, hS⟩ ?_
            clear hE hS a w hq457; rintro m465 a w ⟨rest461, k459, s466, rfl, hd462, hle467, hq457, hE, hS⟩
            refine W.gen fun K468 hK468 => ?_
            replace h379 := Sl.mono (RL.mono RI.mono) hle467 h379
            replace h425 := Sl.mono RI.mono hle467 h425
            replace h0_0 := Sl.mono RApiTrain.mono hle467 h0_0
            replace h440 := Sl.mono (RL.mono RI.mono) hle467 h440
            replace h456 := Sl.mono (RL.mono RI.mono) hle467 h456
            replace h166 := Ev.mono RO.mono hle467 h166
            replace hl170 := OLink.mono ObFareCar.mono hle467 hl170
            replace h0_1 := Sl.mono (RL.mono RI.mono) hle467 h0_1
            rcases rest461 with _ | ⟨x460, rest461⟩
            ·have hlt463 := drop_nil hd462
             refine W.seq (W.region ?_)
             refine vP hS hE (Gives.p hE rfl) rfl ?_; clear hE a; intro a hE
             refine WL.nil ?_
             refine W.seq ?_
             refine W.condF hE rfl (decide_eq_false (by omega)) ?_
             subst hK468
             refine W.exit rfl ?_
             exact ⟨s466, hle467, Option.some.inj hq457, hE.pick _ ⟨rfl, rfl, rfl, rfl, rfl, rfl, rfl, trivial⟩, hS⟩
            ·obtain ⟨hlt463, hx464, hd462⟩ := drop_cons hd462
             rw [FishtopTopSeated.loop6] at hq457
             refine W.seq (W.region ?_)
             refine vP hS hE (Gives.p hE rfl) rfl ?_; clear hE a; intro a hE
             refine WL.nil ?_
             refine W.seq ?_
             refine W.condT hE rfl (decide_eq_true (by omega)) ?_
             refine W.skip ?_
             refine W.seq ?_
             refine W.block ?_
             refine W.seq (W.region ?_)
             refine vP hS hE (Gives.p hE rfl) rfl ?_; clear hE a; intro a hE
             refine vP hS hE (Gives.p hE rfl) rfl ?_; clear hE a; intro a hE
             refine WL.nil ?_
             refine W.seq (W.region ?_)
             replace hS := hS.vecNil 3 1
             refine vP hS hE (Gives.p hE rfl) rfl ?_; clear hE a; intro a hE
             refine WL.nil ?_
             refine W.seq ?_
             refine W.seq (W.region ?_)
             refine vP hS hE (Gives.p hE rfl) rfl ?_; clear hE a; intro a hE
             obtain ⟨H470, hH471, hO472⟩ := OLink.at hl170 hy407 hd411
             obtain ⟨b475, a476, c477, n478, cs479, a483, c484, n485, cs486, e473, e474, h480, hn481, h487, hn488⟩ := hO472
             have hO472 := obj_eq e473; subst hO472; subst e474
             replace hS : St _ s466 (pt b413 (.cells #[.int .i64 x403.rows, .int .i64 x403.across, .int .i64 x403.stops, .slice a476 n478 c477, .slice a483 n485 c484] 148 (0, 0)) :: vecC 80 4 a476 c477 n478 cs479 :: vecC 4 1 a483 c484 n485 cs486 :: vecC 3 1 none 0 0 [] :: allC (List.eraseIdx hs169 ((((k392 : Nat) : Int)).toNat)) :: vecC 76 1 a80 c81 q79.length cs167 :: pt b51 (.cells #[.slice a0_0 x0.Trains.length c0_0, .slice a0_1 x0.Turns.length c0_1] 25 (0, 0)) :: R) := St.oOpen hS 1 rfl hH471
             obtain ⟨q490, hq491, hq457⟩ := bindS hq457
             have hc_ := FareCarBookings_v1_ok (y0 := x403) hS h480 hn481 h487 hn488 hq491
             refine WL.fnq hE (hc_) (runs_plain rfl) bd41 rfl rfl rfl ?_
             clear hE hS hc_; rintro e w ⟨a492, c493, n494, cs495, s498, rfl, hle499, h496, rfl, hS⟩; refine ⟨_, rfl, ?_⟩; clear a; intro a hE
             replace h379 := Sl.mono (RL.mono RI.mono) hle499 h379
             replace h480 := Ev.mono RFareBooking.mono hle499 h480
             replace h487 := Ev.mono RB.mono hle499 h487
             replace h166 := Ev.mono RO.mono hle499 h166
             replace hl170 := OLink.mono ObFareCar.mono hle499 hl170
             replace h0_0 := Sl.mono RApiTrain.mono hle499 h0_0
             replace h0_1 := Sl.mono (RL.mono RI.mono) hle499 h0_1
             replace hS := hS.front 3 rfl
             replace hS := hS.front 3 rfl
             replace hS := hS.front 3 rfl
             replace hS : St _ s498 (vecC 80 4 a492 c493 q490.length cs495 :: vecC 3 1 none 0 0 [] :: allC hs169 :: vecC 76 1 a80 c81 q79.length cs167 :: pt b51 (.cells #[.slice a0_0 x0.Trains.length c0_0, .slice a0_1 x0.Turns.length c0_1] 25 (0, 0)) :: R) := St.oClose0 (ps := [pt b413 (.cells #[.int .i64 x403.rows, .int .i64 x403.across, .int .i64 x403.stops, .slice a476 n478 c477, .slice a483 n485 c484] 148 (0, 0)), vecC 80 4 a476 c477 n478 cs479, vecC 4 1 a483 c484 n485 cs486]) (hs := hs169) (k := (((k392 : Nat) : Int)).toNat) hS 2 rfl hH471
             refine vP hS hE (Gives.len hE rfl sl85) rfl ?_; clear hE a; intro a hE
             refine vP hS hE (Gives.p hE rfl) rfl ?_; clear hE a; intro a hE
             refine WL.nil ?_
             have hb511 : q490.length ≤ 9223372036854775807 := by have := hS.vecCap 0 rfl; unfold maxLen at this; omega
             obtain ⟨q501, hq500, hq457⟩ := bindS hq457
             refine W.cut (fun a w => ∃ (q512 : List Int), ∃ (a513 : Option Addr), ∃ (c514 : Nat), ∃ (n516 : Nat), ∃ (cs517 : List Value), q512 = q501 ∧ Ev 1 (RI .i64) s498 cs517 q512 ∧ q512.length = n516 ∧ Rep a 266 [(2, .int .i64 x2), (3, .int .i64 x3), (5, .pointer (some ⟨b51, 0, none⟩)), (26, .slice a377 q375.1.length c378), (28, .int .i64 ((k392 : Nat) : Int)), (29, .pointer (some ⟨b413, 0, none⟩)), (30, .int .i64 ((k459 : Nat) : Int)), (31, .slice a513 n516 c514), (168, .slice a80 q79.length c81), (169, .int .i64 ((q79.length : Nat) : Int)), (170, .int .i64 ((k392 : Nat) : Int)), (194, .int .i64 ((x442.Legs).length : Int)), (195, .int .i64 ((k459 : Nat) : Int))] ∧ St w s498 (vecC 80 4 a492 c493 q490.length cs495 :: vecC 3 1 a513 c514 n516 cs517 :: allC hs169 :: vecC 76 1 a80 c81 q79.length cs167 :: pt b51 (.cells #[.slice a0_0 x0.Trains.length c0_0, .slice a0_1 x0.Turns.length c0_1] 25 (0, 0)) :: R)) ?_ ?_
             ·refine W.block ?_
              refine W.loop (fun m a w => ∃ (rest504 : Nat) (k502 : Nat), ∃ (q512 : List Int), ∃ (a513 : Option Addr), ∃ (c514 : Nat), ∃ (n516 : Nat), ∃ (cs517 : List Value), rest504 = m ∧ k502 + rest504 = q490.length ∧ FishtopTopSeated.loop7 k459 q490 rest504 k502 q512 = some q501 ∧ Ev 1 (RI .i64) s498 cs517 q512 ∧ q512.length = n516 ∧ Rep a 266 [(2, .int .i64 x2), (3, .int .i64 x3), (5, .pointer (some ⟨b51, 0, none⟩)), (26, .slice a377 q375.1.length c378), (28, .int .i64 ((k392 : Nat) : Int)), (29, .pointer (some ⟨b413, 0, none⟩)), (30, .int .i64 ((k459 : Nat) : Int)), (31, .slice a513 n516 c514), (168, .slice a80 q79.length c81), (169, .int .i64 ((q79.length : Nat) : Int)), (170, .int .i64 ((k392 : Nat) : Int)), (194, .int .i64 ((x442.Legs).length : Int)), (195, .int .i64 ((k459 : Nat) : Int)), (199, .slice a492 q490.length c493), (200, .int .i64 ((q490.length : Nat) : Int)), (201, .int .i64 ((k502 : Nat) : Int))] ∧ St w s498 (vecC 80 4 a492 c493 q490.length cs495 :: vecC 3 1 a513 c514 n516 cs517 :: allC hs169 :: vecC 76 1 a80 c81 q79.length cs167 :: pt b51 (.cells #[.slice a0_0 x0.Trains.length c0_0, .slice a0_1 x0.Turns.length c0_1] 25 (0, 0)) :: R)) (m := q490.length) ⟨q490.length, 0, [], none, 0, 0, [], rfl, by omega, hq500, (Ev.nil), (rfl), hE.pick _ ⟨rfl, rfl, rfl, rfl, rfl, rfl, rfl, rfl, rfl, rfl, rfl, rfl, rfl, rfl, rfl, rfl, trivial⟩, hS⟩ ?_
              clear hE hS a w hq500; rintro m508 a w ⟨rest504, k502, q512, a513, c514, n516, cs517, rfl, hd505, hq500, h515, rfl, hE, hS⟩
              refine W.gen fun K519 hK519 => ?_
              rcases rest504 with _ | rest504
              ·skip
               refine W.seq (W.region ?_)
               refine vP hS hE (Gives.p hE rfl) rfl ?_; clear hE a; intro a hE
               refine WL.nil ?_
               refine W.seq ?_
               refine W.condF hE rfl (decide_eq_false (by omega)) ?_
               subst hK519
               refine W.exit rfl ?_
               exact ⟨q512, a513, c514, q512.length, cs517, Option.some.inj hq500, h515, rfl, hE.pick _ ⟨rfl, rfl, rfl, rfl, rfl, rfl, rfl, rfl, rfl, rfl, rfl, rfl, rfl, trivial⟩, hS⟩
              ·have hlt506 : k502 < q490.length := by omega
               rw [FishtopTopSeated.loop7] at hq500
               refine W.seq (W.region ?_)
               refine vP hS hE (Gives.p hE rfl) rfl ?_; clear hE a; intro a hE
               refine WL.nil ?_
               refine W.seq ?_
               refine W.condT hE rfl (decide_eq_true (by omega)) ?_
               refine W.skip ?_
               refine W.seq ?_
               refine W.block ?_
               refine W.seq (W.region ?_)
               obtain ⟨x520, hx521, hq500⟩ := bindS hq500
               obtain ⟨hi522, hlt523, hy524⟩ := gx_some hx521
               obtain ⟨vs525, hl526, hR527, hd528, hget529⟩ := h496.at hy524
               obtain ⟨a530, c531, rfl, h532⟩ := hR527
               refine vP hS hE (Gives.idx hE ((((k502 : Nat) : Int)).toNat) rfl rfl sl85 hi522 (by omega) (hS.vecAok 0 rfl (by omega : (((k502 : Nat) : Int)).toNat < q490.length))) rfl ?_; clear hE a; intro a hE
               refine vP hS hE (Gives.loadA hE rfl (fun w h => St.vecSees h 0 rfl ((((k502 : Nat) : Int)).toNat * 4) _ hget529) ty80) rfl ?_; clear hE a; intro a hE
               refine WL.alloc hE hS (runs_plain rfl) zr80 rfl ?_; clear hE hS a w; intro b533 a w hE hS
               refine WL.storeI hE hS 0 rfl [.int .i64 x520.No, .int .i64 x520.From, .int .i64 x520.To, .slice a530 x520.Seats.length c531] (runs_plain rfl) rfl rfl rfl ty80 rfl rfl rfl rfl ?_; clear hE hS a w; intro a w hE hS
               refine WL.nil ?_
               refine W.seq ?_
               obtain ⟨q535, hq534, hq500⟩ := bndS hq500
               refine W.cut (fun a w => ∃ (q538 : Bool), q538 = q535 ∧ Rep a 266 [(2, .int .i64 x2), (3, .int .i64 x3), (5, .pointer (some ⟨b51, 0, none⟩)), (26, .slice a377 q375.1.length c378), (28, .int .i64 ((k392 : Nat) : Int)), (29, .pointer (some ⟨b413, 0, none⟩)), (30, .int .i64 ((k459 : Nat) : Int)), (31, .slice a513 q512.length c514), (33, .pointer (some ⟨b533, 0, none⟩)), (168, .slice a80 q79.length c81), (169, .int .i64 ((q79.length : Nat) : Int)), (170, .int .i64 ((k392 : Nat) : Int)), (194, .int .i64 ((x442.Legs).length : Int)), (195, .int .i64 ((k459 : Nat) : Int)), (199, .slice a492 q490.length c493), (200, .int .i64 ((q490.length : Nat) : Int)), (201, .int .i64 ((k502 : Nat) : Int)), (214, .bool q538)] ∧ St w s498 (pt b533 (.cells #[.int .i64 x520.No, .int .i64 x520.From, .int .i64 x520.To, .slice a530 x520.Seats.length c531] 80 (0, 0)) :: vecC 80 4 a492 c493 q490.length cs495 :: vecC 3 1 a513 c514 q512.length cs517 :: allC hs169 :: vecC 76 1 a80 c81 q79.length cs167 :: pt b51 (.cells #[.slice a0_0 x0.Trains.length c0_0, .slice a0_1 x0.Turns.length c0_1] 25 (0, 0)) :: R)) ?_ ?_
               ·refine W.gen fun K539 hK539 => ?_
                refine W.region ?_
                refine vP hS hE (Gives.fld hE rfl fl80_1) rfl ?_; clear hE a; intro a hE
                refine vP hS hE (Gives.loadB hE 0 rfl rfl rfl ty3) rfl ?_; clear hE a; intro a hE
                refine vP hS hE (Gives.p hE rfl) rfl ?_; clear hE a; intro a hE
                refine vP hS hE (Gives.p hE rfl) rfl ?_; clear hE a; intro a hE
                refine vP hS hE (Gives.p hE rfl) rfl ?_; clear hE a; intro a hE
                rcases Bool.eq_false_or_eq_true (decide (x520.From ≤ ((k459 : Nat) : Int))) with hg540 | hg540
                ·replace hq534 := iteT hg540 hq534
                 refine WL.vS hS hE (runs_if hE rfl rfl rfl hg540) (Gives.p hE rfl) rfl ?_; clear hE a; intro a hE
                 refine WL.vS hS hE (runs_if hE rfl rfl rfl hg540) (Gives.fld hE rfl fl80_2) rfl ?_; clear hE a; intro a hE
                 refine WL.vS hS hE (runs_if hE rfl rfl rfl hg540) (Gives.loadB hE 0 rfl rfl rfl ty3) rfl ?_; clear hE a; intro a hE
                 refine WL.vS hS hE (runs_if hE rfl rfl rfl hg540) (Gives.p hE rfl) rfl ?_; clear hE a; intro a hE
                 refine vP hS hE (Gives.pickT hE rfl hg540 rfl) rfl ?_; clear hE a; intro a hE
                 refine WL.nil ?_
                 subst hK539
                 exact ⟨decide (((k459 : Nat) : Int) < x520.To), hq534, hE.pick _ ⟨rfl, rfl, rfl, rfl, rfl, rfl, rfl, rfl, rfl, rfl, rfl, rfl, rfl, rfl, rfl, rfl, rfl, rfl, trivial⟩, hS⟩
                ·replace hq534 := iteF hg540 hq534
                 refine WL.no hE (runs_not hE rfl rfl rfl (by rw [hg540]; decide)) rfl ?_; clear hE a; intro a hE
                 refine WL.no hE (runs_not hE rfl rfl rfl (by rw [hg540]; decide)) rfl ?_; clear hE a; intro a hE
                 refine WL.no hE (runs_not hE rfl rfl rfl (by rw [hg540]; decide)) rfl ?_; clear hE a; intro a hE
                 refine WL.no hE (runs_not hE rfl rfl rfl (by rw [hg540]; decide)) rfl ?_; clear hE a; intro a hE
                 refine vP hS hE (Gives.pickF hE rfl hg540 rfl) rfl ?_; clear hE a; intro a hE
                 refine WL.nil ?_
                 subst hK539
                 exact ⟨false, hq534, hE.pick _ ⟨rfl, rfl, rfl, rfl, rfl, rfl, rfl, rfl, rfl, rfl, rfl, rfl, rfl, rfl, rfl, rfl, rfl, rfl, trivial⟩, hS⟩
               ·clear hE hS a w; rintro a w ⟨q538, rfl, hE, hS⟩
                obtain ⟨q542, hq541, hq500⟩ := bindS hq500
                refine W.cut (fun a w => ∃ (q545 : List Int), ∃ (a546 : Option Addr), ∃ (c547 : Nat), ∃ (n549 : Nat), ∃ (cs550 : List Value), q545 = q542 ∧ Ev 1 (RI .i64) s498 cs550 q545 ∧ q545.length = n549 ∧ Rep a 266 [(2, .int .i64 x2), (3, .int .i64 x3), (5, .pointer (some ⟨b51, 0, none⟩)), (26, .slice a377 q375.1.length c378), (28, .int .i64 ((k392 : Nat) : Int)), (29, .pointer (some ⟨b413, 0, none⟩)), (30, .int .i64 ((k459 : Nat) : Int)), (31, .slice a546 n549 c547), (168, .slice a80 q79.length c81), (169, .int .i64 ((q79.length : Nat) : Int)), (170, .int .i64 ((k392 : Nat) : Int)), (194, .int .i64 ((x442.Legs).length : Int)), (195, .int .i64 ((k459 : Nat) : Int)), (199, .slice a492 q490.length c493), (200, .int .i64 ((q490.length : Nat) : Int)), (201, .int .i64 ((k502 : Nat) : Int))] ∧ St w s498 (pt b533 (.cells #[.int .i64 x520.No, .int .i64 x520.From, .int .i64 x520.To, .slice a530 x520.Seats.length c531] 80 (0, 0)) :: vecC 80 4 a492 c493 q490.length cs495 :: vecC 3 1 a546 c547 n549 cs550 :: allC hs169 :: vecC 76 1 a80 c81 q79.length cs167 :: pt b51 (.cells #[.slice a0_0 x0.Trains.length c0_0, .slice a0_1 x0.Turns.length c0_1] 25 (0, 0)) :: R)) ?_ ?_
                ·refine W.gen fun K552 hK552 => ?_
                 refine W.cond hE rfl (fun hc553 => ?_) (fun hc553 => ?_)
                 ·replace hq541 := iteT hc553 hq541
                  refine W.region ?_
                  refine vP hS hE (Gives.p hE rfl) rfl ?_; clear hE a; intro a hE
                  refine vP hS hE (Gives.fld hE rfl fl80_3) rfl ?_; clear hE a; intro a hE
                  refine vP hS hE (Gives.loadB hE 0 rfl rfl rfl ty45) rfl ?_; clear hE a; intro a hE
                  obtain ⟨x554, hx555, hq541⟩ := bindS hq541
                  refine WL.appS hE hS 2 (runs_plain rfl) rfl rfl (xs := x520.Seats) rfl rfl ap45 RI.one h515 rfl h532 hx555 rfl ?_; clear hE hS a w; intro a556 c557 cs558 a w h559 hE hS
                  refine vP hS hE (Gives.p hE rfl) rfl ?_; clear hE a; intro a hE
                  refine WL.nil ?_
                  subst hK552
                  exact ⟨x554, a556, c557, x554.length, cs558, Option.some.inj hq541, h559, (rfl), hE.pick _ ⟨rfl, rfl, rfl, rfl, rfl, rfl, rfl, rfl, rfl, rfl, rfl, rfl, rfl, rfl, rfl, rfl, trivial⟩, hS⟩
                 ·replace hq541 := iteF hc553 hq541
                  refine W.skip ?_
                  subst hK552
                  exact ⟨q512, a513, c514, q512.length, cs517, Option.some.inj hq541, h515, rfl, hE.pick _ ⟨rfl, rfl, rfl, rfl, rfl, rfl, rfl, rfl, rfl, rfl, rfl, rfl, rfl, rfl, rfl, rfl, trivial⟩, hS⟩
                ·clear hE hS a w; rintro a w ⟨q545, a546, c547, n549, cs550, rfl, h548, rfl, hE, hS⟩
                 refine W.region ?_
                 refine vP hS hE (Gives.inc hE rfl (by omega)) rfl ?_; clear hE a; intro a hE
                 refine vP hS hE (Gives.p hE rfl) rfl ?_; clear hE a; intro a hE
                 refine WL.nil ?_
                 replace hS := hS.tail
                 subst hK519
                 exact ⟨rest504, Nat.lt_succ_self _, rest504, k502 + 1, q545, a546, c547, q545.length, cs550, rfl, (by omega), hq500, h548, rfl, hE.pick _ ⟨rfl, rfl, rfl, rfl, rfl, rfl, rfl, rfl, rfl, rfl, rfl, rfl, rfl, rfl, rfl, rfl, trivial⟩, hS⟩
             ·clear hE hS a w; rintro a w ⟨q512, a513, c514, n516, cs517, rfl, h515, rfl, hE, hS⟩
              refine W.seq (W.region ?_)
              refine vP hS hE (Gives.p hE rfl) rfl ?_; clear hE a; intro a hE
              refine vP hS hE (Gives.p hE rfl) rfl ?_; clear hE a; intro a hE
              refine vP hS hE (Gives.p hE rfl) rfl ?_; clear hE a; intro a hE
              refine vP hS hE (Gives.inc hE rfl (by have := h456.small; omega)) rfl ?_; clear hE a; intro a hE
              obtain ⟨H560, hH561, hO562⟩ := OLink.at hl170 hy407 hd411
              obtain ⟨b565, a566, c567, n568, cs569, a573, c574, n575, cs576, e563, e564, h570, hn571, h577, hn578⟩ := hO562
              have hO562 := obj_eq e563; subst hO562; subst e564
              replace hS : St _ s498 (pt b413 (.cells #[.int .i64 x403.rows, .int .i64 x403.across, .int .i64 x403.stops, .slice a566 n568 c567, .slice a573 n575 c574] 148 (0, 0)) :: vecC 80 4 a566 c567 n568 cs569 :: vecC 4 1 a573 c574 n575 cs576 :: vecC 80 4 a492 c493 q490.length cs495 :: vecC 3 1 a513 c514 q512.length cs517 :: allC (List.eraseIdx hs169 ((((k392 : Nat) : Int)).toNat)) :: vecC 76 1 a80 c81 q79.length cs167 :: pt b51 (.cells #[.slice a0_0 x0.Trains.length c0_0, .slice a0_1 x0.Turns.length c0_1] 25 (0, 0)) :: R) := St.oOpen hS 2 rfl hH561
              obtain ⟨q580, hq581, hq457⟩ := bindS hq457
              have hc_ := FareCarFree_v1_ok (y0 := x403) hS h570 hn571 h577 hn578 hq581
              refine WL.fnq hE (hc_) (runs_plain rfl) bd42 rfl rfl rfl ?_
              clear hE hS hc_; rintro e w ⟨a582, c583, n584, cs585, rfl, h586, rfl, hS⟩; refine ⟨_, rfl, ?_⟩; clear a; intro a hE
              replace hS := hS.front 3 rfl
              replace hS := hS.front 3 rfl
              replace hS := hS.front 3 rfl
              replace hS : St _ s498 (vecC 3 1 a582 c583 q580.1.length cs585 :: vecC 80 4 a492 c493 q490.length cs495 :: vecC 3 1 a513 c514 q512.length cs517 :: allC hs169 :: vecC 76 1 a80 c81 q79.length cs167 :: pt b51 (.cells #[.slice a0_0 x0.Trains.length c0_0, .slice a0_1 x0.Turns.length c0_1] 25 (0, 0)) :: R) := St.oClose0 (ps := [pt b413 (.cells #[.int .i64 x403.rows, .int .i64 x403.across, .int .i64 x403.stops, .slice a566 n568 c567, .slice a573 n575 c574] 148 (0, 0)), vecC 80 4 a566 c567 n568 cs569, vecC 4 1 a573 c574 n575 cs576]) (hs := hs169) (k := (((k392 : Nat) : Int)).toNat) hS 3 rfl hH561
              refine vP hS hE (Gives.p hE rfl) rfl ?_; clear hE a; intro a hE
              refine vP hS hE (Gives.p hE rfl) rfl ?_; clear hE a; intro a hE
              refine vP hS hE (Gives.p hE rfl) rfl ?_; clear hE a; intro a hE
              refine vP hS hE (Gives.p hE rfl) rfl ?_; clear hE a; intro a hE
              refine vP hS hE (Gives.p hE rfl) rfl ?_; clear hE a; intro a hE
              refine WL.nil ?_
              refine W.seq (W.region ?_)
              refine vP hS hE (Gives.p hE rfl) rfl ?_; clear hE a; intro a hE
              replace hS := hS.front 2 rfl
              obtain ⟨q591, hq592, hq457⟩ := bindS hq457
              refine WL.fnq hE (itSort_ok hS h515 rfl hq592) (runs_plain rfl) bd43 rfl rfl rfl ?_
              clear hE hS; rintro e w ⟨cs589, rfl, h590, hn593, hS⟩; refine ⟨_, rfl, ?_⟩; clear a; intro a hE
              refine WL.nil ?_
              refine W.seq ?_
              obtain ⟨q595, hq594, hq457⟩ := bindS hq457
              refine W.cut (fun a w => ∃ (q598 : Bool), q598 = q595 ∧ Rep a 266 [(2, .int .i64 x2), (3, .int .i64 x3), (5, .pointer (some ⟨b51, 0, none⟩)), (26, .slice a377 q375.1.length c378), (28, .int .i64 ((k392 : Nat) : Int)), (29, .pointer (some ⟨b413, 0, none⟩)), (168, .slice a80 q79.length c81), (169, .int .i64 ((q79.length : Nat) : Int)), (170, .int .i64 ((k392 : Nat) : Int)), (194, .int .i64 ((x442.Legs).length : Int)), (195, .int .i64 ((k459 : Nat) : Int)), (263, .bool q598)] ∧ St w s498 (allC hs169 :: vecC 76 1 a80 c81 q79.length cs167 :: pt b51 (.cells #[.slice a0_0 x0.Trains.length c0_0, .slice a0_1 x0.Turns.length c0_1] 25 (0, 0)) :: R)) ?_ ?_
              ·refine W.gen fun K599 hK599 => ?_
               refine W.region ?_
               refine vP hS hE (Gives.p hE rfl) rfl ?_; clear hE a; intro a hE
               refine vP hS hE (Gives.p hE rfl) rfl ?_; clear hE a; intro a hE
               refine vP hS hE (Gives.p hE rfl) rfl ?_; clear hE a; intro a hE
               rcases Bool.eq_false_or_eq_true (q580.2 != 0) with hg600 | hg600
               ·replace hq594 := iteT hg600 hq594
                refine WL.no hE (runs_not hE rfl rfl rfl (by rw [hg600]; decide)) rfl ?_; clear hE a; intro a hE
                refine WL.no hE (runs_not hE rfl rfl rfl (by rw [hg600]; decide)) rfl ?_; clear hE a; intro a hE
                refine WL.no hE (runs_not hE rfl rfl rfl (by rw [hg600]; decide)) rfl ?_; clear hE a; intro a hE
                refine WL.no hE (runs_not hE rfl rfl rfl (by rw [hg600]; decide)) rfl ?_; clear hE a; intro a hE
                refine WL.no hE (runs_not hE rfl rfl rfl (by rw [hg600]; decide)) rfl ?_; clear hE a; intro a hE
                refine WL.no hE (runs_not hE rfl rfl rfl (by rw [hg600]; decide)) rfl ?_; clear hE a; intro a hE
                refine WL.no hE (runs_not hE rfl rfl rfl (by rw [hg600]; decide)) rfl ?_; clear hE a; intro a hE
                refine vP hS hE (Gives.pickT hE rfl hg600 rfl) rfl ?_; clear hE a; intro a hE
                refine vP hS hE (Gives.p hE rfl) rfl ?_; clear hE a; intro a hE
                refine WL.no hE (runs_not hE rfl rfl rfl (by decide)) rfl ?_; clear hE a; intro a hE
                refine WL.no hE (runs_not hE rfl rfl rfl (by decide)) rfl ?_; clear hE a; intro a hE
                refine WL.no hE (runs_not hE rfl rfl rfl (by decide)) rfl ?_; clear hE a; intro a hE
                refine WL.no hE (runs_not hE rfl rfl rfl (by decide)) rfl ?_; clear hE a; intro a hE
                refine WL.no hE (runs_not hE rfl rfl rfl (by decide)) rfl ?_; clear hE a; intro a hE
                refine WL.no hE (runs_not hE rfl rfl rfl (by decide)) rfl ?_; clear hE a; intro a hE
                refine WL.no hE (runs_not hE rfl rfl rfl (by decide)) rfl ?_; clear hE a; intro a hE
                refine WL.no hE (runs_not hE rfl rfl rfl (by decide)) rfl ?_; clear hE a; intro a hE
                refine WL.no hE (runs_not hE rfl rfl rfl (by decide)) rfl ?_; clear hE a; intro a hE
                refine WL.no hE (runs_not hE rfl rfl rfl (by decide)) rfl ?_; clear hE a; intro a hE
                refine vP hS hE (Gives.pickT hE rfl rfl rfl) rfl ?_; clear hE a; intro a hE
                refine vP hS hE (Gives.p hE rfl) rfl ?_; clear hE a; intro a hE
                refine WL.no hE (runs_not hE rfl rfl rfl (by decide)) rfl ?_; clear hE a; intro a hE
                refine WL.no hE (runs_not hE rfl rfl rfl (by decide)) rfl ?_; clear hE a; intro a hE
                refine WL.no hE (runs_not hE rfl rfl rfl (by decide)) rfl ?_; clear hE a; intro a hE
                refine WL.no hE (runs_not hE rfl rfl rfl (by decide)) rfl ?_; clear hE a; intro a hE
                refine WL.no hE (runs_not hE rfl rfl rfl (by decide)) rfl ?_; clear hE a; intro a hE
                refine WL.no hE (runs_not hE rfl rfl rfl (by decide)) rfl ?_; clear hE a; intro a hE
                refine WL.no hE (runs_not hE rfl rfl rfl (by decide)) rfl ?_; clear hE a; intro a hE
                refine WL.no hE (runs_not hE rfl rfl rfl (by decide)) rfl ?_; clear hE a; intro a hE
                refine WL.no hE (runs_not hE rfl rfl rfl (by decide)) rfl ?_; clear hE a; intro a hE
                refine vP hS hE (Gives.pickT hE rfl rfl rfl) rfl ?_; clear hE a; intro a hE
                refine WL.nil ?_
                replace hS := hS.tail
                replace hS := hS.tail
                replace hS := hS.tail
                subst hK599
                exact ⟨true, Option.some.inj hq594, hE.pick _ ⟨rfl, rfl, rfl, rfl, rfl, rfl, rfl, rfl, rfl, rfl, rfl, rfl, trivial⟩, hS⟩
               ·replace hq594 := iteF hg600 hq594
                refine WL.vS hS hE (runs_if hE rfl rfl rfl hg600) (Gives.p hE rfl) rfl ?_; clear hE a; intro a hE
                obtain ⟨q601, hq602, hq594⟩ := bindS hq594
                have hF := hS.lendV RI.mono 0 rfl h590 hn593; clear hS; obtain ⟨t609, hle610, hS, hs611, bk612⟩ := hF
                have hc_ := (by have hc_ := SlicesCloneLint_ok hS hs611 hq602; rw [hn593] at hc_; exact hc_)
                refine WL.fnq hE (hc_) (runs_if hE rfl rfl rfl hg600) bd45 rfl rfl rfl ?_
                clear hE hS hc_; rintro e w ⟨a603, c604, n605, cs606, rfl, h607, rfl, hS⟩; refine ⟨_, rfl, ?_⟩; clear a; intro a hE
                replace hS := bk612 _ _ hS
                replace h607 := Ev.flat (s2 := s498) (fun _ _ _ _ h => h) h607
                replace hS := hS.front 1 rfl
                refine WL.fnq hE (itCompact_ok hS h607 rfl) (runs_if hE rfl rfl rfl hg600) bd44 rfl rfl rfl ?_
                clear hE hS; rintro e w ⟨_, cs614, rfl, h615, rfl, hS⟩; refine ⟨_, rfl, ?_⟩; clear a; intro a hE
                obtain ⟨q616, hq617, hq594⟩ := bndS hq594
                rw [hq617] at h615 hS hE
                refine WL.vS hS hE (runs_if hE rfl rfl rfl hg600) (Gives.len hE rfl sl45) rfl ?_; clear hE a; intro a hE
                refine WL.vS hS hE (runs_if hE rfl rfl rfl hg600) (Gives.p hE rfl) rfl ?_; clear hE a; intro a hE
                refine WL.vS hS hE (runs_if hE rfl rfl rfl hg600) (Gives.len hE rfl sl45) rfl ?_; clear hE a; intro a hE
                refine WL.vS hS hE (runs_if hE rfl rfl rfl hg600) (Gives.p hE rfl) rfl ?_; clear hE a; intro a hE
                refine vP hS hE (Gives.pickF hE rfl hg600 rfl) rfl ?_; clear hE a; intro a hE
                refine vP hS hE (Gives.p hE rfl) rfl ?_; clear hE a; intro a hE
                rcases Bool.eq_false_or_eq_true (((q616.length : Nat) : Int) != ((q512.length : Nat) : Int)) with hg620 | hg620
                ·replace hq594 := iteT hg620 hq594
                 refine WL.no hE (runs_not hE rfl rfl rfl (by rw [hg620]; decide)) rfl ?_; clear hE a; intro a hE
                 refine WL.no hE (runs_not hE rfl rfl rfl (by rw [hg620]; decide)) rfl ?_; clear hE a; intro a hE
                 refine WL.no hE (runs_not hE rfl rfl rfl (by rw [hg620]; decide)) rfl ?_; clear hE a; intro a hE
                 refine WL.no hE (runs_not hE rfl rfl rfl (by rw [hg620]; decide)) rfl ?_; clear hE a; intro a hE
                 refine WL.no hE (runs_not hE rfl rfl rfl (by rw [hg620]; decide)) rfl ?_; clear hE a; intro a hE
                 refine WL.no hE (runs_not hE rfl rfl rfl (by rw [hg620]; decide)) rfl ?_; clear hE a; intro a hE
                 refine WL.no hE (runs_not hE rfl rfl rfl (by rw [hg620]; decide)) rfl ?_; clear hE a; intro a hE
                 refine WL.no hE (runs_not hE rfl rfl rfl (by rw [hg620]; decide)) rfl ?_; clear hE a; intro a hE
                 refine WL.no hE (runs_not hE rfl rfl rfl (by rw [hg620]; decide)) rfl ?_; clear hE a; intro a hE
                 refine WL.no hE (runs_not hE rfl rfl rfl (by rw [hg620]; decide)) rfl ?_; clear hE a; intro a hE
                 refine vP hS hE (Gives.pickT hE rfl hg620 rfl) rfl ?_; clear hE a; intro a hE
                 refine vP hS hE (Gives.p hE rfl) rfl ?_; clear hE a; intro a hE
                 refine WL.no hE (runs_not hE rfl rfl rfl (by decide)) rfl ?_; clear hE a; intro a hE
                 refine WL.no hE (runs_not hE rfl rfl rfl (by decide)) rfl ?_; clear hE a; intro a hE
                 refine WL.no hE (runs_not hE rfl rfl rfl (by decide)) rfl ?_; clear hE a; intro a hE
                 refine WL.no hE (runs_not hE rfl rfl rfl (by decide)) rfl ?_; clear hE a; intro a hE
                 refine WL.no hE (runs_not hE rfl rfl rfl (by decide)) rfl ?_; clear hE a; intro a hE
                 refine WL.no hE (runs_not hE rfl rfl rfl (by decide)) rfl ?_; clear hE a; intro a hE
                 refine WL.no hE (runs_not hE rfl rfl rfl (by decide)) rfl ?_; clear hE a; intro a hE
                 refine WL.no hE (runs_not hE rfl rfl rfl (by decide)) rfl ?_; clear hE a; intro a hE
                 refine WL.no hE (runs_not hE rfl rfl rfl (by decide)) rfl ?_; clear hE a; intro a hE
                 refine vP hS hE (Gives.pickT hE rfl rfl rfl) rfl ?_; clear hE a; intro a hE
                 refine WL.nil ?_
                 replace hS := hS.tail
                 replace hS := hS.tail
                 replace hS := hS.tail
                 replace hS := hS.tail
                 subst hK599
                 exact ⟨true, Option.some.inj hq594, hE.pick _ ⟨rfl, rfl, rfl, rfl, rfl, rfl, rfl, rfl, rfl, rfl, rfl, rfl, trivial⟩, hS⟩
                ·replace hq594 := iteF hg620 hq594
                 refine WL.vS hS hE (runs_if hE rfl rfl rfl hg620) (Gives.p hE rfl) rfl ?_; clear hE a; intro a hE
                 refine WL.vS hS hE (runs_if hE rfl rfl rfl hg620) (Gives.len hE rfl sl45) rfl ?_; clear hE a; intro a hE
                 refine WL.vS hS hE (runs_if hE rfl rfl rfl hg620) (Gives.p hE rfl) rfl ?_; clear hE a; intro a hE
                 refine WL.vS hS hE (runs_if hE rfl rfl rfl hg620) (Gives.p hE rfl) rfl ?_; clear hE a; intro a hE
                 obtain ⟨x621, hx622, hq594⟩ := bindS hq594
                 obtain ⟨hi623, hlt624, hy625⟩ := gx_some hx622
                 obtain ⟨cs626, hl627, hR628, hat629⟩ := h379.at hy625
                 obtain ⟨a630, c631, rfl, h632⟩ := hR628
                 refine WL.vS hS hE (runs_if hE rfl rfl rfl hg620) (Gives.idx hE (((k392 : Nat) : Int)).toNat rfl rfl sl23 hi623 hlt624 (h379.aok hlt624)) rfl ?_; clear hE a; intro a hE
                 refine WL.vS hS hE (runs_if hE rfl rfl rfl hg620) (Gives.load1 hE rfl (fun w h => hat629 w _ h) ty45) rfl ?_; clear hE a; intro a hE
                 refine WL.vS hS hE (runs_if hE rfl rfl rfl hg620) (Gives.p hE rfl) rfl ?_; clear hE a; intro a hE
                 obtain ⟨x633, hx634, hq594⟩ := bindS hq594
                 obtain ⟨hi635, hlt636, hy637⟩ := gx_some hx634
                 obtain ⟨cs638, hl639, hR640, hat641⟩ := h632.at hy637
                 subst hR640
                 refine WL.vS hS hE (runs_if hE rfl rfl rfl hg620) (Gives.idx hE (((k459 : Nat) : Int)).toNat rfl rfl sl45 hi635 hlt636 (h632.aok hlt636)) rfl ?_; clear hE a; intro a hE
                 refine WL.vS hS hE (runs_if hE rfl rfl rfl hg620) (Gives.load1 hE rfl (fun w h => hat641 w _ h) ty3) rfl ?_; clear hE a; intro a hE
                 refine WL.vS hS hE (runs_if hE rfl rfl rfl hg620) (Gives.p hE rfl) rfl ?_; clear hE a; intro a hE
                 refine vP hS hE (Gives.pickF hE rfl hg620 rfl) rfl ?_; clear hE a; intro a hE
                 refine vP hS hE (Gives.p hE rfl) rfl ?_; clear hE a; intro a hE
                 rcases Bool.eq_false_or_eq_true (((q512.length : Nat) : Int) != x633) with hg642 | hg642
                 ·replace hq594 := iteT hg642 hq594
                  refine WL.no hE (runs_not hE rfl rfl rfl (by rw [hg642]; decide)) rfl ?_; clear hE a; intro a hE
                  refine WL.no hE (runs_not hE rfl rfl rfl (by rw [hg642]; decide)) rfl ?_; clear hE a; intro a hE
                  refine WL.no hE (runs_not hE rfl rfl rfl (by rw [hg642]; decide)) rfl ?_; clear hE a; intro a hE
                  refine WL.no hE (runs_not hE rfl rfl rfl (by rw [hg642]; decide)) rfl ?_; clear hE a; intro a hE
                  refine WL.no hE (runs_not hE rfl rfl rfl (by rw [hg642]; decide)) rfl ?_; clear hE a; intro a hE
                  refine WL.no hE (runs_not hE rfl rfl rfl (by rw [hg642]; decide)) rfl ?_; clear hE a; intro a hE
                  refine WL.no hE (runs_not hE rfl rfl rfl (by rw [hg642]; decide)) rfl ?_; clear hE a; intro a hE
                  refine WL.no hE (runs_not hE rfl rfl rfl (by rw [hg642]; decide)) rfl ?_; clear hE a; intro a hE
                  refine WL.no hE (runs_not hE rfl rfl rfl (by rw [hg642]; decide)) rfl ?_; clear hE a; intro a hE
                  refine vP hS hE (Gives.pickT hE rfl hg642 rfl) rfl ?_; clear hE a; intro a hE
                  refine WL.nil ?_
                  replace hS := hS.tail
                  replace hS := hS.tail
                  replace hS := hS.tail
                  replace hS := hS.tail
                  subst hK599
                  exact ⟨true, Option.some.inj hq594, hE.pick _ ⟨rfl, rfl, rfl, rfl, rfl, rfl, rfl, rfl, rfl, rfl, rfl, rfl, trivial⟩, hS⟩
                 ·replace hq594 := iteF hg642 hq594
                  refine WL.vS hS hE (runs_if hE rfl rfl rfl hg642) (Gives.p hE rfl) rfl ?_; clear hE a; intro a hE
                  refine WL.vS hS hE (runs_if hE rfl rfl rfl hg642) (Gives.len hE rfl sl45) rfl ?_; clear hE a; intro a hE
                  refine WL.vS hS hE (runs_if hE rfl rfl rfl hg642) (Gives.p hE rfl) rfl ?_; clear hE a; intro a hE
                  refine WL.vS hS hE (runs_if hE rfl rfl rfl hg642) (Gives.len hE rfl sl45) rfl ?_; clear hE a; intro a hE
                  refine WL.vS hS hE (runs_if hE rfl rfl rfl hg642) (Gives.p hE rfl) rfl ?_; clear hE a; intro a hE
                  refine WL.vS hS hE (runs_if hE rfl rfl rfl hg642) (Gives.p hE rfl) rfl ?_; clear hE a; intro a hE
                  refine WL.vS hS hE (runs_if hE rfl rfl rfl hg642) (Gives.p hE rfl) rfl ?_; clear hE a; intro a hE
                  refine WL.vS hS hE (runs_if hE rfl rfl rfl hg642) (Gives.p hE rfl) rfl ?_; clear hE a; intro a hE
                  refine WL.vS hS hE (runs_if hE rfl rfl rfl hg642) (Gives.p hE rfl) rfl ?_; clear hE a; intro a hE
                  refine vP hS hE (Gives.pickF hE rfl hg642 rfl) rfl ?_; clear hE a; intro a hE
                  refine WL.nil ?_
                  replace hS := hS.tail
                  replace hS := hS.tail
                  replace hS := hS.tail
                  replace hS := hS.tail
                  subst hK599
                  exact ⟨((w64 (((q512.length : Nat) : Int) + ((q580.1.length : Nat) : Int))) != (w64 (x2 * x3))), Option.some.inj hq594, hE.pick _ ⟨rfl, rfl, rfl, rfl, rfl, rfl, rfl, rfl, rfl, rfl, rfl, rfl, trivial⟩, hS⟩
              ·clear hE hS a w; rintro a w ⟨q598, rfl, hE, hS⟩
               refine W.cond hE rfl (fun hc643 => ?_) (fun hc643 => ?_)
               ·replace hq457 := iteT hc643 hq457
                refine W.seq (W.region ?_)
                refine vP hS hE (Gives.p hE rfl) rfl ?_; clear hE a; intro a hE
                refine WL.nil ?_
                refine W.ret ?_
                subst hK468
                subst hK402
                rw [← Option.some.inj hq457] at hq390
                dsimp only at hq390
                rw [← Option.some.inj hq390] at hr
                dsimp only at hr
                refine finG (fn := Tryd.f9) (rs := [.tmp 10]) (vs := [_]) hE rfl ⟨rfl, trivial⟩ ?_
                obtain rfl := Option.some.inj hr
                replace hS := hS.tail
                replace hS := hS.tail
                replace hS := hS.tail
                exact ⟨rfl, (hS.down (Sg.Le.trans (Sg.Le.trans (Sg.Le.trans (Sg.Le.trans (Sg.Le.trans hle78 hle155) hle381) hle400) hle467) hle499))⟩
               ·replace hq457 := iteF hc643 hq457
                refine W.skip ?_
                refine W.region ?_
                refine vP hS hE (Gives.inc hE rfl (by have := h456.small; omega)) rfl ?_; clear hE a; intro a hE
                refine vP hS hE (Gives.p hE rfl) rfl ?_; clear hE a; intro a hE
                refine WL.nil ?_
                subst hK468
                exact ⟨rest461.length, Nat.lt_succ_self _, rest461, k459 + 1, s498, rfl, hd462, (Sg.Le.trans hle467 hle499), hq457, hE.pick _ ⟨rfl, rfl, rfl, rfl, rfl, rfl, rfl, rfl, rfl, rfl, rfl, trivial⟩, hS⟩
           ·clear hE hS a w; rintro a w ⟨s466, hle467, rfl, hE, hS⟩
            dsimp only at hq390
            replace h379 := Sl.mono (RL.mono RI.mono) hle467 h379
            replace h425 := Sl.mono RI.mono hle467 h425
            replace h0_0 := Sl.mono RApiTrain.mono hle467 h0_0
            replace h440 := Sl.mono (RL.mono RI.mono) hle467 h440
            replace h456 := Sl.mono (RL.mono RI.mono) hle467 h456
            replace h166 := Ev.mono RO.mono hle467 h166
            replace hl170 := OLink.mono ObFareCar.mono hle467 hl170
            replace h0_1 := Sl.mono (RL.mono RI.mono) hle467 h0_1
            refine W.region ?_
            refine vP hS hE (Gives.inc hE rfl (by omega)) rfl ?_; clear hE a; intro a hE
            refine vP hS hE (Gives.p hE rfl) rfl ?_; clear hE a; intro a hE
            refine WL.nil ?_
            subst hK402
            exact ⟨rest394, Nat.lt_succ_self _, rest394, k392 + 1, s466, rfl, (by omega), (Sg.Le.trans hle400 hle467), hq390, hE.pick _ ⟨rfl, rfl, rfl, rfl, rfl, rfl, rfl, trivial⟩, hS⟩
        ·clear hE hS a w; rintro a w ⟨s399, hle400, rfl, hE, hS⟩
         dsimp only at hr
         replace h379 := Sl.mono (RL.mono RI.mono) hle400 h379
         replace h166 := Ev.mono RO.mono hle400 h166
         replace hl170 := OLink.mono ObFareCar.mono hle400 hl170
         replace h0_0 := Sl.mono RApiTrain.mono hle400 h0_0
         replace h0_1 := Sl.mono (RL.mono RI.mono) hle400 h0_1
         refine W.seq (W.region ?_)
         refine vP hS hE (Gives.p hE rfl) rfl ?_; clear hE a; intro a hE
         refine WL.nil ?_
         refine W.ret ?_
         refine finG (fn := Tryd.f9) (rs := [.tmp 10]) (vs := [_]) hE rfl ⟨rfl, trivial⟩ ?_
         obtain rfl := Option.some.inj hr
         replace hS := hS.tail
         replace hS := hS.tail
         replace hS := hS.tail
         exact ⟨rfl, (hS.down (Sg.Le.trans (Sg.Le.trans (Sg.Le.trans hle78 hle155) hle381) hle400))⟩
end Go.Proofs.YtpcebngchmgckaaDoor
