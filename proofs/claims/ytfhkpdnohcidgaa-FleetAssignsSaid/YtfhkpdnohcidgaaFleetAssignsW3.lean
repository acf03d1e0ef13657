/- The walks of the functions that FleetAssigns reaches: each call comes to what its mirror says. The conditions are those of each contract. -/
import Derived.Test.YtfhkpdnohcidgaaProg
import Derived.Test.YtfhkpdnohcidgaaFleetAssignsM
import Derived.Test.YtfhkpdnohcidgaaFpMore
import Derived.Test.YtfhkpdnohcidgaaFleetAssignsW2
namespace Go.Proofs.Ytfhkpdnohcidgaa
open Go Go.Fp
set_option maxHeartbeats 8000000 in
theorem Fishref2canInspect_ok  {w : World} {s : Sg} {R : List HP} {x0 : List FleetTask} {a0 : Option Addr} {c0 : Nat} {x1 : List Int} {a1 : Option Addr} {c1 : Nat} {x2 : FleetSet} {x3 : FleetShop} {x4 : Int} (hS : St w s (R)) (h0 : Sl 6 RFleetTask s a0 c0 x0) (h1 : Sl 1 (RI .i64) s a1 c1 x1) {r : Bool} (hr : Fishref2canInspect x0 x1 x2 x3 x4 = some r) :
  Calls Try.prog 100 [.slice a0 x0.length c0, .slice a1 x1.length c1, .agg (FleetSet.cells x2).toArray, .agg (FleetShop.cells x3).toArray, .int .i64 x4].toArray w (fun e w => e = .returned (.bool r) ∧ St w s (R)) := by
 refine enter Try.func100 rfl rfl rfl fun a hE => ?_
 rw [Fishref2canInspect] at hr
 refine W.seq (W.region ?_)
 refine WL.box hE hS (runs_plain rfl) rfl rfl rfl ?_; clear hE hS a w; intro b51 a w hE hS
 refine WL.box hE hS (runs_plain rfl) rfl rfl rfl ?_; clear hE hS a w; intro b52 a w hE hS
 refine WL.vS hS hE (runs_plain rfl) (Gives.p hE rfl) rfl ?_; clear hE a; intro a hE
 refine WL.nil ?_
 refine W.seq (W.region ?_)
 refine WL.vS hS hE (runs_plain rfl) (Gives.fld hE rfl fl84_0) rfl ?_; clear hE a; intro a hE
 refine WL.vS hS hE (runs_plain rfl) (Gives.loadB hE 1 rfl rfl rfl ty3) rfl ?_; clear hE a; intro a hE
 refine WL.vS hS hE (runs_plain rfl) (Gives.p hE rfl) rfl ?_; clear hE a; intro a hE
 refine WL.vS hS hE (runs_plain rfl) (Gives.p hE rfl) rfl ?_; clear hE a; intro a hE
 refine WL.nil ?_
 refine W.seq ?_
 refine W.seq (W.region ?_)
 refine WL.vS hS hE (runs_plain rfl) (Gives.p hE rfl) rfl ?_; clear hE a; intro a hE
 refine WL.vS hS hE (runs_plain rfl) (Gives.p hE rfl) rfl ?_; clear hE a; intro a hE
 refine WL.nil ?_
 obtain ⟨q54, hq53, hr⟩ := bindS hr
 refine W.cut (fun a w => ∃ (q57 : Int), ∃ (q58 : Int), (q57, q58) = q54 ∧ Rep a 60 [(0, .slice a0 x0.length c0), (1, .slice a1 x1.length c1), (4, .int .i64 x4), (8, .pointer (some ⟨b52, 0, none⟩)), (11, .int .i64 q57), (12, .int .i64 q58)] ∧ St w s (pt b52 (.cells (FleetShop.cells x3).toArray 35 (0, 0)) :: pt b51 (.cells (FleetSet.cells x2).toArray 84 (0, 0)) :: R)) ?_ ?_
 ·refine W.gen fun K59 hK59 => ?_
  refine W.cond hE rfl (fun hc60 => ?_) (fun hc60 => ?_)
  ·replace hq53 := iteT hc60 hq53
   refine W.regionQ (C := fun w => St w s (pt b52 (.cells (FleetShop.cells x3).toArray 35 (0, 0)) :: pt b51 (.cells (FleetSet.cells x2).toArray 84 (0, 0)) :: R)) mixed (by kernel_rfl) hS.drew ?_
   refine QL.v hE (runs_plain rfl) (Gives.p hE rfl) rfl ?_; clear hE a; intro a hE
   refine QL.v hE (runs_plain rfl) (Gives.p hE rfl) rfl ?_; clear hE a; intro a hE
   refine QL.v hE (runs_plain rfl) (Gives.p hE rfl) rfl ?_; clear hE a; intro a hE
   refine QL.v hE (runs_plain rfl) (Gives.p hE rfl) rfl ?_; clear hE a; intro a hE
   obtain ⟨x61, hx62, hq53⟩ := bindS hq53
   obtain ⟨hi63, hlt64, hy65⟩ := gx_some hx62
   obtain ⟨cs66, hl67, hR68, hat69⟩ := h1.at hy65
   subst hR68
   refine QL.v hE (runs_plain rfl) (Gives.idx hE (w64 (x4 - 1)).toNat rfl rfl sl44 hi63 hlt64 (h1.aok hlt64)) rfl ?_; clear hE a; intro a hE
   refine QL.v hE (runs_plain rfl) (Gives.load1 hE rfl (fun w h => hat69 w _ h) ty3) rfl ?_; clear hE a; intro a hE
   obtain ⟨x70, hx71, hq53⟩ := bindS hq53
   obtain ⟨hi72, hlt73, hy74⟩ := gx_some hx71
   obtain ⟨cs75, hl76, hR77, hat78⟩ := h0.at hy74
   subst hR77
   refine QL.v hE (runs_plain rfl) (Gives.idx hE (x61).toNat rfl rfl sl32 hi72 hlt73 (h0.aok hlt73)) rfl ?_; clear hE a; intro a hE
   refine QL.v hE (runs_plain rfl) (Gives.fld hE rfl fl78_1) rfl ?_; clear hE a; intro a hE
   refine QL.v hE (runs_plain rfl) (Gives.load1 hE rfl (fun w h => (hat78 w _ h).one rfl) ty3) rfl ?_; clear hE a; intro a hE
   refine QL.v hE (runs_plain rfl) (Gives.p hE rfl) rfl ?_; clear hE a; intro a hE
   refine QL.v hE (runs_plain rfl) (Gives.p hE rfl) rfl ?_; clear hE a; intro a hE
   refine QL.v hE (runs_plain rfl) (Gives.p hE rfl) rfl ?_; clear hE a; intro a hE
   refine QL.v hE (runs_plain rfl) (Gives.p hE rfl) rfl ?_; clear hE a; intro a hE
   obtain ⟨x79, hx80, hq53⟩ := bindS hq53
   obtain ⟨hi81, hlt82, hy83⟩ := gx_some hx80
   obtain ⟨cs84, hl85, hR86, hat87⟩ := h1.at hy83
   subst hR86
   refine QL.v hE (runs_plain rfl) (Gives.idx hE (w64 (x4 - 1)).toNat rfl rfl sl44 hi81 hlt82 (h1.aok hlt82)) rfl ?_; clear hE a; intro a hE
   refine QL.v hE (runs_plain rfl) (Gives.load1 hE rfl (fun w h => hat87 w _ h) ty3) rfl ?_; clear hE a; intro a hE
   obtain ⟨x88, hx89, hq53⟩ := bindS hq53
   obtain ⟨hi90, hlt91, hy92⟩ := gx_some hx89
   obtain ⟨cs93, hl94, hR95, hat96⟩ := h0.at hy92
   subst hR95
   refine QL.v hE (runs_plain rfl) (Gives.idx hE (x79).toNat rfl rfl sl32 hi90 hlt91 (h0.aok hlt91)) rfl ?_; clear hE a; intro a hE
   refine QL.v hE (runs_plain rfl) (Gives.fld hE rfl fl78_3) rfl ?_; clear hE a; intro a hE
   refine QL.v hE (runs_plain rfl) (Gives.load1 hE rfl (fun w h => (hat96 w _ h).one rfl) ty3) rfl ?_; clear hE a; intro a hE
   refine QL.v hE (runs_plain rfl) (Gives.p hE rfl) rfl ?_; clear hE a; intro a hE
   refine QL.v hE (runs_plain rfl) (Gives.p hE rfl) rfl ?_; clear hE a; intro a hE
   refine QL.nil ?_; clear hS w; intro w hS
   subst hK59
   exact ⟨x70.To, x88.Arr, Option.some.inj hq53, hE.pick _ ⟨rfl, rfl, rfl, rfl, rfl, rfl, trivial⟩, hS⟩
  ·replace hq53 := iteF hc60 hq53
   refine W.skip ?_
   subst hK59
   exact ⟨x2.Home, 0, Option.some.inj hq53, hE.pick _ ⟨rfl, rfl, rfl, rfl, rfl, rfl, trivial⟩, hS⟩
 ·clear hE hS a w; rintro a w ⟨q57, q58, rfl, hE, hS⟩
  dsimp only at hr
  refine W.seq ?_
  obtain ⟨q98, hq97, hr⟩ := bindS hr
  refine W.cut (fun a w => ∃ (q101 : Bool), q101 = q98 ∧ Rep a 60 [(10, .bool q101)] ∧ St w s (pt b52 (.cells (FleetShop.cells x3).toArray 35 (0, 0)) :: pt b51 (.cells (FleetSet.cells x2).toArray 84 (0, 0)) :: R)) ?_ ?_
  ·refine W.gen fun K102 hK102 => ?_
   refine W.regionQ (C := fun w => St w s (pt b52 (.cells (FleetShop.cells x3).toArray 35 (0, 0)) :: pt b51 (.cells (FleetSet.cells x2).toArray 84 (0, 0)) :: R)) mixed (by kernel_rfl) hS.drew ?_
   refine QL.v hE (runs_plain rfl) (Gives.p hE rfl) rfl ?_; clear hE a; intro a hE
   refine QL.v hE (runs_plain rfl) (Gives.fld hE rfl fl35_0) rfl ?_; clear hE a; intro a hE
   refine QL.v hE (runs_plain rfl) (Gives.loadB hE 0 rfl rfl rfl ty3) rfl ?_; clear hE a; intro a hE
   refine QL.v hE (runs_plain rfl) (Gives.p hE rfl) rfl ?_; clear hE a; intro a hE
   refine QL.v hE (runs_plain rfl) (Gives.p hE rfl) rfl ?_; clear hE a; intro a hE
   rcases Bool.eq_false_or_eq_true (q57 == x3.Place) with hg103 | hg103
   ·replace hq97 := iteT hg103 hq97
    refine QL.v hE (runs_if hE rfl rfl rfl hg103) (Gives.p hE rfl) rfl ?_; clear hE a; intro a hE
    refine QL.v hE (runs_if hE rfl rfl rfl hg103) (Gives.p hE rfl) rfl ?_; clear hE a; intro a hE
    refine QL.v hE (runs_if hE rfl rfl rfl hg103) (Gives.len hE rfl sl44) rfl ?_; clear hE a; intro a hE
    refine QL.v hE (runs_if hE rfl rfl rfl hg103) (Gives.p hE rfl) rfl ?_; clear hE a; intro a hE
    refine QL.v hE (runs_if hE rfl rfl rfl hg103) (Gives.p hE rfl) rfl ?_; clear hE a; intro a hE
    rcases Bool.eq_false_or_eq_true (x4 == ((x1).length : Int)) with hg104 | hg104
    ·replace hq97 := iteT hg104 hq97
     refine QL.no hE (runs_not hE rfl rfl rfl (by rw [hg104]; decide)) rfl ?_; clear hE a; intro a hE
     refine QL.no hE (runs_not hE rfl rfl rfl (by rw [hg104]; decide)) rfl ?_; clear hE a; intro a hE
     refine QL.no hE (runs_not hE rfl rfl rfl (by rw [hg104]; decide)) rfl ?_; clear hE a; intro a hE
     refine QL.no hE (runs_not hE rfl rfl rfl (by rw [hg104]; decide)) rfl ?_; clear hE a; intro a hE
     refine QL.no hE (runs_not hE rfl rfl rfl (by rw [hg104]; decide)) rfl ?_; clear hE a; intro a hE
     refine QL.no hE (runs_not hE rfl rfl rfl (by rw [hg104]; decide)) rfl ?_; clear hE a; intro a hE
     refine QL.no hE (runs_not hE rfl rfl rfl (by rw [hg104]; decide)) rfl ?_; clear hE a; intro a hE
     refine QL.no hE (runs_not hE rfl rfl rfl (by rw [hg104]; decide)) rfl ?_; clear hE a; intro a hE
     refine QL.no hE (runs_not hE rfl rfl rfl (by rw [hg104]; decide)) rfl ?_; clear hE a; intro a hE
     refine QL.no hE (runs_not hE rfl rfl rfl (by rw [hg104]; decide)) rfl ?_; clear hE a; intro a hE
     refine QL.no hE (runs_not hE rfl rfl rfl (by rw [hg104]; decide)) rfl ?_; clear hE a; intro a hE
     refine QL.no hE (runs_not hE rfl rfl rfl (by rw [hg104]; decide)) rfl ?_; clear hE a; intro a hE
     refine QL.no hE (runs_not hE rfl rfl rfl (by rw [hg104]; decide)) rfl ?_; clear hE a; intro a hE
     refine QL.v hE (runs_if hE rfl rfl rfl hg103) (Gives.pickT hE rfl hg104 rfl) rfl ?_; clear hE a; intro a hE
     refine QL.v hE (runs_plain rfl) (Gives.pickT hE rfl hg103 rfl) rfl ?_; clear hE a; intro a hE
     refine QL.v hE (runs_plain rfl) (Gives.p hE rfl) rfl ?_; clear hE a; intro a hE
     refine QL.nil ?_; clear hS w; intro w hS
     subst hK102
     exact ⟨true, Option.some.inj hq97, hE.pick _ ⟨rfl, trivial⟩, hS⟩
    ·replace hq97 := iteF hg104 hq97
     refine QL.v hE (runs_if hE rfl rfl rfl hg104) (Gives.p hE rfl) rfl ?_; clear hE a; intro a hE
     refine QL.v hE (runs_if hE rfl rfl rfl hg104) (Gives.p hE rfl) rfl ?_; clear hE a; intro a hE
     refine QL.v hE (runs_if hE rfl rfl rfl hg104) (Gives.p hE rfl) rfl ?_; clear hE a; intro a hE
     obtain ⟨x105, hx106, hq97⟩ := bindS hq97
     obtain ⟨hi107, hlt108, hy109⟩ := gx_some hx106
     obtain ⟨cs110, hl111, hR112, hat113⟩ := h1.at hy109
     subst hR112
     refine QL.v hE (runs_if hE rfl rfl rfl hg104) (Gives.idx hE (x4).toNat rfl rfl sl44 hi107 hlt108 (h1.aok hlt108)) rfl ?_; clear hE a; intro a hE
     refine QL.v hE (runs_if hE rfl rfl rfl hg104) (Gives.load1 hE rfl (fun w h => hat113 w _ h) ty3) rfl ?_; clear hE a; intro a hE
     obtain ⟨x114, hx115, hq97⟩ := bindS hq97
     obtain ⟨hi116, hlt117, hy118⟩ := gx_some hx115
     obtain ⟨cs119, hl120, hR121, hat122⟩ := h0.at hy118
     subst hR121
     refine QL.v hE (runs_if hE rfl rfl rfl hg104) (Gives.idx hE (x105).toNat rfl rfl sl32 hi116 hlt117 (h0.aok hlt117)) rfl ?_; clear hE a; intro a hE
     refine QL.v hE (runs_if hE rfl rfl rfl hg104) (Gives.fld hE rfl fl78_2) rfl ?_; clear hE a; intro a hE
     refine QL.v hE (runs_if hE rfl rfl rfl hg104) (Gives.load1 hE rfl (fun w h => (hat122 w _ h).one rfl) ty3) rfl ?_; clear hE a; intro a hE
     refine QL.v hE (runs_if hE rfl rfl rfl hg104) (Gives.p hE rfl) rfl ?_; clear hE a; intro a hE
     refine QL.v hE (runs_if hE rfl rfl rfl hg104) (Gives.fld hE rfl fl35_1) rfl ?_; clear hE a; intro a hE
     refine QL.v hE (runs_if hE rfl rfl rfl hg104) (Gives.loadB hE 0 rfl rfl rfl ty3) rfl ?_; clear hE a; intro a hE
     refine QL.v hE (runs_if hE rfl rfl rfl hg104) (Gives.p hE rfl) rfl ?_; clear hE a; intro a hE
     refine QL.v hE (runs_if hE rfl rfl rfl hg104) (Gives.p hE rfl) rfl ?_; clear hE a; intro a hE
     refine QL.v hE (runs_if hE rfl rfl rfl hg103) (Gives.pickF hE rfl hg104 rfl) rfl ?_; clear hE a; intro a hE
     refine QL.v hE (runs_plain rfl) (Gives.pickT hE rfl hg103 rfl) rfl ?_; clear hE a; intro a hE
     refine QL.v hE (runs_plain rfl) (Gives.p hE rfl) rfl ?_; clear hE a; intro a hE
     refine QL.nil ?_; clear hS w; intro w hS
     subst hK102
     exact ⟨decide (x114.Dep ≥ (w64 (q58 + x3.Long))), Option.some.inj hq97, hE.pick _ ⟨rfl, trivial⟩, hS⟩
   ·replace hq97 := iteF hg103 hq97
    refine QL.no hE (runs_not hE rfl rfl rfl (by rw [hg103]; decide)) rfl ?_; clear hE a; intro a hE
    refine QL.no hE (runs_not hE rfl rfl rfl (by rw [hg103]; decide)) rfl ?_; clear hE a; intro a hE
    refine QL.no hE (runs_not hE rfl rfl rfl (by rw [hg103]; decide)) rfl ?_; clear hE a; intro a hE
    refine QL.no hE (runs_not hE rfl rfl rfl (by rw [hg103]; decide)) rfl ?_; clear hE a; intro a hE
    refine QL.no hE (runs_not hE rfl rfl rfl (by rw [hg103]; decide)) rfl ?_; clear hE a; intro a hE
    refine QL.no hE (runs_undef hE rfl rfl rfl) rfl ?_; clear hE a; intro a hE
    refine QL.no hE (runs_undef hE rfl rfl rfl) rfl ?_; clear hE a; intro a hE
    refine QL.no hE (runs_undef hE rfl rfl rfl) rfl ?_; clear hE a; intro a hE
    refine QL.no hE (runs_undef hE rfl rfl rfl) rfl ?_; clear hE a; intro a hE
    refine QL.no hE (runs_undef hE rfl rfl rfl) rfl ?_; clear hE a; intro a hE
    refine QL.no hE (runs_undef hE rfl rfl rfl) rfl ?_; clear hE a; intro a hE
    refine QL.no hE (runs_undef hE rfl rfl rfl) rfl ?_; clear hE a; intro a hE
    refine QL.no hE (runs_undef hE rfl rfl rfl) rfl ?_; clear hE a; intro a hE
    refine QL.no hE (runs_undef hE rfl rfl rfl) rfl ?_; clear hE a; intro a hE
    refine QL.no hE (runs_undef hE rfl rfl rfl) rfl ?_; clear hE a; intro a hE
    refine QL.no hE (runs_undef hE rfl rfl rfl) rfl ?_; clear hE a; intro a hE
    refine QL.no hE (runs_undef hE rfl rfl rfl) rfl ?_; clear hE a; intro a hE
    refine QL.no hE (runs_undef hE rfl rfl rfl) rfl ?_; clear hE a; intro a hE
    refine QL.no hE (runs_not hE rfl rfl rfl (by rw [hg103]; decide)) rfl ?_; clear hE a; intro a hE
    refine QL.v hE (runs_plain rfl) (Gives.pickF hE rfl hg103 rfl) rfl ?_; clear hE a; intro a hE
    refine QL.v hE (runs_plain rfl) (Gives.p hE rfl) rfl ?_; clear hE a; intro a hE
    refine QL.nil ?_; clear hS w; intro w hS
    subst hK102
    exact ⟨false, Option.some.inj hq97, hE.pick _ ⟨rfl, trivial⟩, hS⟩
  ·clear hE hS a w; rintro a w ⟨q101, rfl, hE, hS⟩
   refine W.ret ?_
   refine finG (fn := Try.f100) (rs := [.tmp 10]) (vs := [_]) hE rfl ⟨rfl, trivial⟩ ?_
   obtain rfl := Option.some.inj hr
   replace hS := hS.tail
   replace hS := hS.tail
   exact ⟨rfl, hS⟩
set_option maxHeartbeats 8000000 in
theorem SlicesIndexLint_ok  {w : World} {s : Sg} {R : List HP} {x0 : List Int} {a0 : Option Addr} {c0 : Nat} {x1 : Int} (hS : St w s (R)) (h0 : Sl 1 (RI .i64) s a0 c0 x0) {r : Int} (hr : SlicesIndexLint x0 x1 = r) :
  Calls Try.prog 71 [.slice a0 x0.length c0, .int .i64 x1].toArray w (fun e w => e = .returned (.int .i64 r) ∧ St w s (R)) := by
 refine enter Try.func71 rfl rfl rfl fun a hE => ?_
 rw [SlicesIndexLint] at hr
 refine W.seq (W.region ?_)
 refine WL.vS hS hE (runs_plain rfl) (Gives.p hE rfl) rfl ?_; clear hE a; intro a hE
 refine WL.nil ?_
 refine W.seq ?_
 refine W.seq (W.region ?_)
 refine WL.vS hS hE (runs_plain rfl) (Gives.p hE rfl) rfl ?_; clear hE a; intro a hE
 refine WL.vS hS hE (runs_plain rfl) (Gives.len hE rfl sl44) rfl ?_; clear hE a; intro a hE
 refine WL.vS hS hE (runs_plain rfl) (Gives.p hE rfl) rfl ?_; clear hE a; intro a hE
 refine WL.nil ?_
 obtain ⟨q52, hq51, hr⟩ := bndS hr
 refine W.cut (fun a w => (.next ()) = q52 ∧ Rep a 19 [] ∧ St w s (R)) ?_ ?_
 ·refine W.block ?_
  refine W.loop (fun m a w => ∃ (rest55 : List Int) (k53 : Nat), rest55.length = m ∧ x0.drop k53 = rest55 ∧ SlicesIndexLint.loop1 x1 rest55 k53 = q52 ∧ Rep a 19 [(0, .slice a0 x0.length c0), (1, .int .i64 x1), (7, .int .i64 ((x0).length : Int)), (8, .int .i64 ((k53 : Nat) : Int))] ∧ St w s (R)) (m := x0.length) ⟨x0, 0, rfl, rfl, hq51, hE.pick _ ⟨rfl, rfl, rfl, rfl, trivial⟩, hS⟩ ?_
  clear hE hS a w hq51; rintro m59 a w ⟨rest55, k53, rfl, hd56, hq51, hE, hS⟩
  refine W.gen fun K62 hK62 => ?_
  rcases rest55 with _ | ⟨x54, rest55⟩
  ·have hlt57 := drop_nil hd56
   refine W.seq (W.region ?_)
   refine WL.vS hS hE (runs_plain rfl) (Gives.p hE rfl) rfl ?_; clear hE a; intro a hE
   refine WL.nil ?_
   refine W.seq ?_
   refine W.condF hE rfl (decide_eq_false (by omega)) ?_
   subst hK62
   refine W.exit rfl ?_
   exact ⟨hq51, hE.pick _ trivial, hS⟩
  ·obtain ⟨hlt57, hx58, hd56⟩ := drop_cons hd56
   rw [SlicesIndexLint.loop1] at hq51
   refine W.seq (W.region ?_)
   refine WL.vS hS hE (runs_plain rfl) (Gives.p hE rfl) rfl ?_; clear hE a; intro a hE
   refine WL.nil ?_
   refine W.seq ?_
   refine W.condT hE rfl (decide_eq_true (by omega)) ?_
   refine W.skip ?_
   refine W.seq ?_
   refine W.block ?_
   refine W.seq (W.region ?_)
   refine WL.vS hS hE (runs_plain rfl) (Gives.p hE rfl) rfl ?_; clear hE a; intro a hE
   refine WL.vS hS hE (runs_plain rfl) (Gives.p hE rfl) rfl ?_; clear hE a; intro a hE
   refine WL.nil ?_
   refine W.seq (W.region ?_)
   refine WL.vS hS hE (runs_plain rfl) (Gives.p hE rfl) rfl ?_; clear hE a; intro a hE
   refine WL.vS hS hE (runs_plain rfl) (Gives.p hE rfl) rfl ?_; clear hE a; intro a hE
   refine WL.vS hS hE (runs_plain rfl) (Gives.p hE rfl) rfl ?_; clear hE a; intro a hE
   obtain ⟨cs63, hl64, hR65, hat66⟩ := h0.at hx58
   subst hR65
   refine WL.vS hS hE (runs_plain rfl) (Gives.idx hE k53 rfl rfl sl44 rfl hlt57 (h0.aok hlt57)) rfl ?_; clear hE a; intro a hE
   refine WL.vS hS hE (runs_plain rfl) (Gives.load1 hE rfl (fun w h => hat66 w _ h) ty3) rfl ?_; clear hE a; intro a hE
   refine WL.vS hS hE (runs_plain rfl) (Gives.p hE rfl) rfl ?_; clear hE a; intro a hE
   refine WL.nil ?_
   refine W.cond hE rfl (fun hc67 => ?_) (fun hc67 => ?_)
   ·replace hq51 := iteT hc67 hq51
    refine W.seq (W.region ?_)
    refine WL.vS hS hE (runs_plain rfl) (Gives.p hE rfl) rfl ?_; clear hE a; intro a hE
    refine WL.vS hS hE (runs_plain rfl) (Gives.p hE rfl) rfl ?_; clear hE a; intro a hE
    refine WL.nil ?_
    refine W.ret ?_
    subst hK62
    rw [← hq51] at hr
    dsimp only at hr
    refine finG (fn := Try.f71) (rs := [.tmp 4]) (vs := [_]) hE rfl ⟨rfl, trivial⟩ ?_
    subst hr
    exact ⟨rfl, hS⟩
   ·replace hq51 := iteF hc67 hq51
    refine W.skip ?_
    refine W.region ?_
    refine WL.vS hS hE (runs_plain rfl) (Gives.inc hE rfl (by have := h0.small; omega)) rfl ?_; clear hE a; intro a hE
    refine WL.vS hS hE (runs_plain rfl) (Gives.p hE rfl) rfl ?_; clear hE a; intro a hE
    refine WL.nil ?_
    subst hK62
    exact ⟨rest55.length, Nat.lt_succ_self _, rest55, k53 + 1, rfl, hd56, hq51, hE.pick _ ⟨rfl, rfl, rfl, rfl, trivial⟩, hS⟩
 ·clear hE hS a w; rintro a w ⟨rfl, hE, hS⟩
  dsimp only at hr
  refine W.seq (W.region ?_)
  refine WL.vS hS hE (runs_plain rfl) (Gives.p hE rfl) rfl ?_; clear hE a; intro a hE
  refine WL.nil ?_
  refine W.ret ?_
  refine finG (fn := Try.f71) (rs := [.tmp 4]) (vs := [_]) hE rfl ⟨rfl, trivial⟩ ?_
  subst hr
  exact ⟨rfl, hS⟩
set_option maxHeartbeats 8000000 in
theorem SlicesContainsLint_ok  {w : World} {s : Sg} {R : List HP} {x0 : List Int} {a0 : Option Addr} {c0 : Nat} {x1 : Int} (hS : St w s (R)) (h0 : Sl 1 (RI .i64) s a0 c0 x0) {r : Bool} (hr : SlicesContainsLint x0 x1 = r) :
  Calls Try.prog 24 [.slice a0 x0.length c0, .int .i64 x1].toArray w (fun e w => e = .returned (.bool r) ∧ St w s (R)) := by
 refine enter Try.func24 rfl rfl rfl fun a hE => ?_
 rw [SlicesContainsLint] at hr
 refine W.seq (W.region ?_)
 refine WL.vS hS hE (runs_plain rfl) (Gives.p hE rfl) rfl ?_; clear hE a; intro a hE
 refine WL.nil ?_
 refine W.seq (W.region ?_)
 refine WL.vS hS hE (runs_plain rfl) (Gives.p hE rfl) rfl ?_; clear hE a; intro a hE
 refine WL.vS hS hE (runs_plain rfl) (Gives.p hE rfl) rfl ?_; clear hE a; intro a hE
 refine WL.fnq hE (SlicesIndexLint_ok hS h0 rfl (r := SlicesIndexLint x0 x1)) (runs_plain rfl) bd71 rfl rfl rfl ?_
 clear hE hS; rintro e w ⟨rfl, hS⟩; refine ⟨_, rfl, ?_⟩; clear a; intro a hE
 refine WL.vS hS hE (runs_plain rfl) (Gives.p hE rfl) rfl ?_; clear hE a; intro a hE
 refine WL.vS hS hE (runs_plain rfl) (Gives.p hE rfl) rfl ?_; clear hE a; intro a hE
 refine WL.nil ?_
 refine W.ret ?_
 refine finG (fn := Try.f24) (rs := [.tmp 4]) (vs := [_]) hE rfl ⟨rfl, trivial⟩ ?_
 subst hr
 exact ⟨rfl, hS⟩
set_option maxHeartbeats 8000000 in
theorem Fishref2kept_ok {fu : Nat}  {w : World} {s : Sg} {R : List HP} {x0 : List FleetTask} {a0 : Option Addr} {c0 : Nat} {x1 : List Int} {a1 : Option Addr} {c1 : Nat} {x2 : FleetSet} {x3 : FleetShop} {x4 : List Int} {a4 : Option Addr} {c4 : Nat} (hS : St w s (R)) (h0 : Sl 6 RFleetTask s a0 c0 x0) (h1 : Sl 1 (RI .i64) s a1 c1 x1) (h4 : Sl 1 (RI .i64) s a4 c4 x4) {r : Bool} (hr : Fishref2kept fu x0 x1 x2 x3 x4 = some r) :
  Calls Try.prog 102 [.slice a0 x0.length c0, .slice a1 x1.length c1, .agg (FleetSet.cells x2).toArray, .agg (FleetShop.cells x3).toArray, .slice a4 x4.length c4].toArray w (fun e w => e = .returned (.bool r) ∧ St w s (R)) := by
 refine enter Try.func102 rfl rfl rfl fun a hE => ?_
 rw [Fishref2kept] at hr
 refine W.seq (W.region ?_)
 refine WL.box hE hS (runs_plain rfl) rfl rfl rfl ?_; clear hE hS a w; intro b51 a w hE hS
 refine WL.box hE hS (runs_plain rfl) rfl rfl rfl ?_; clear hE hS a w; intro b52 a w hE hS
 refine WL.vS hS hE (runs_plain rfl) (Gives.p hE rfl) rfl ?_; clear hE a; intro a hE
 refine WL.nil ?_
 refine W.seq (W.region ?_)
 refine WL.vS hS hE (runs_plain rfl) (Gives.fld hE rfl fl84_1) rfl ?_; clear hE a; intro a hE
 refine WL.vS hS hE (runs_plain rfl) (Gives.loadB hE 1 rfl rfl rfl ty3) rfl ?_; clear hE a; intro a hE
 refine WL.vS hS hE (runs_plain rfl) (Gives.p hE rfl) rfl ?_; clear hE a; intro a hE
 refine WL.nil ?_
 refine W.seq ?_
 refine W.seq (W.region ?_)
 refine WL.vS hS hE (runs_plain rfl) (Gives.p hE rfl) rfl ?_; clear hE a; intro a hE
 refine WL.vS hS hE (runs_plain rfl) (Gives.len hE rfl sl44) rfl ?_; clear hE a; intro a hE
 refine WL.vS hS hE (runs_plain rfl) (Gives.p hE rfl) rfl ?_; clear hE a; intro a hE
 refine WL.vS hS hE (runs_plain rfl) (Gives.p hE rfl) rfl ?_; clear hE a; intro a hE
 refine WL.nil ?_
 obtain ⟨q65, hq64, hr⟩ := bindS hr
 refine W.cut (fun a w => ∃ (q70 : Int), ∃ (q71 : Int), (.next (q70, q71)) = q65 ∧ Rep a 43 [] ∧ St w s (pt b52 (.cells (FleetShop.cells x3).toArray 35 (0, 0)) :: pt b51 (.cells (FleetSet.cells x2).toArray 84 (0, 0)) :: R)) ?_ ?_
 ·refine W.block ?_
  refine W.loop (fun m a w => ∃ (n66 : Nat), ∃ (q70 : Int), ∃ (q71 : Int), n66 = m ∧ Fishref2kept.loop2 x0 x1 x3 x4 n66 q70 q71 = some q65 ∧ Rep a 43 [(0, .slice a0 x0.length c0), (1, .slice a1 x1.length c1), (4, .slice a4 x4.length c4), (8, .pointer (some ⟨b52, 0, none⟩)), (11, .int .i64 q70), (17, .int .i64 (w64 (((x1).length : Int) + 1))), (18, .int .i64 q71)] ∧ St w s (pt b52 (.cells (FleetShop.cells x3).toArray 35 (0, 0)) :: pt b51 (.cells (FleetSet.cells x2).toArray 84 (0, 0)) :: R)) (m := fu) ⟨fu, x2.Km, 0, rfl, hq64, hE.pick _ ⟨rfl, rfl, rfl, rfl, rfl, rfl, rfl, trivial⟩, hS⟩ ?_
  clear hE hS a w hq64; rintro m67 a w ⟨n66, q70, q71, rfl, hq64, hE, hS⟩
  refine W.gen fun K72 hK72 => ?_
  rcases n66 with _ | n66
  ·rw [Fishref2kept.loop2] at hq64; exact absurd hq64 (by simp)
  rw [Fishref2kept.loop2] at hq64
  refine W.seq (W.region ?_)
  refine WL.vS hS hE (runs_plain rfl) (Gives.p hE rfl) rfl ?_; clear hE a; intro a hE
  refine WL.nil ?_
  refine W.seq ?_
  refine W.cond hE rfl (fun hc73 => ?_) (fun hc73 => ?_)
  ·replace hq64 := iteT hc73 hq64
   refine W.skip ?_
   refine W.seq ?_
   refine W.block ?_
   refine W.seq (W.region ?_)
   refine WL.vS hS hE (runs_plain rfl) (Gives.p hE rfl) rfl ?_; clear hE a; intro a hE
   refine WL.vS hS hE (runs_plain rfl) (Gives.p hE rfl) rfl ?_; clear hE a; intro a hE
   refine WL.nil ?_
   refine W.seq ?_
   refine W.seq (W.region ?_)
   refine WL.vS hS hE (runs_plain rfl) (Gives.p hE rfl) rfl ?_; clear hE a; intro a hE
   refine WL.vS hS hE (runs_plain rfl) (Gives.p hE rfl) rfl ?_; clear hE a; intro a hE
   refine WL.fnq hE (SlicesContainsLint_ok hS h4 rfl (r := SlicesContainsLint x4 q71)) (runs_plain rfl) bd24 rfl rfl rfl ?_
   clear hE hS; rintro e w ⟨rfl, hS⟩; refine ⟨_, rfl, ?_⟩; clear a; intro a hE
   refine WL.nil ?_
   obtain ⟨q75, hq74, hq64⟩ := bndS hq64
   refine W.cut (fun a w => ∃ (q78 : Int), q78 = q75 ∧ Rep a 43 [(0, .slice a0 x0.length c0), (1, .slice a1 x1.length c1), (4, .slice a4 x4.length c4), (8, .pointer (some ⟨b52, 0, none⟩)), (11, .int .i64 q78), (12, .int .i64 q71), (17, .int .i64 (w64 (((x1).length : Int) + 1))), (18, .int .i64 q71)] ∧ St w s (pt b52 (.cells (FleetShop.cells x3).toArray 35 (0, 0)) :: pt b51 (.cells (FleetSet.cells x2).toArray 84 (0, 0)) :: R)) ?_ ?_
   ·refine W.gen fun K79 hK79 => ?_
    refine W.cond hE rfl (fun hc80 => ?_) (fun hc80 => ?_)
    ·replace hq74 := iteT hc80 hq74
     refine W.region ?_
     refine WL.vS hS hE (runs_plain rfl) (Gives.p hE rfl) rfl ?_; clear hE a; intro a hE
     refine WL.nil ?_
     subst hK79
     exact ⟨0, hq74, hE.pick _ ⟨rfl, rfl, rfl, rfl, rfl, rfl, rfl, rfl, trivial⟩, hS⟩
    ·replace hq74 := iteF hc80 hq74
     refine W.skip ?_
     subst hK79
     exact ⟨q70, hq74, hE.pick _ ⟨rfl, rfl, rfl, rfl, rfl, rfl, rfl, rfl, trivial⟩, hS⟩
   ·clear hE hS a w; rintro a w ⟨q78, rfl, hE, hS⟩
    refine W.seq (W.region ?_)
    refine WL.vS hS hE (runs_plain rfl) (Gives.p hE rfl) rfl ?_; clear hE a; intro a hE
    refine WL.vS hS hE (runs_plain rfl) (Gives.p hE rfl) rfl ?_; clear hE a; intro a hE
    refine WL.vS hS hE (runs_plain rfl) (Gives.len hE rfl sl44) rfl ?_; clear hE a; intro a hE
    refine WL.vS hS hE (runs_plain rfl) (Gives.p hE rfl) rfl ?_; clear hE a; intro a hE
    refine WL.nil ?_
    obtain ⟨q82, hq81, hq64⟩ := bindS hq64
    refine W.cut (fun a w => ∃ (q85 : Int), .next q85 = q82 ∧ Rep a 43 [(0, .slice a0 x0.length c0), (1, .slice a1 x1.length c1), (4, .slice a4 x4.length c4), (8, .pointer (some ⟨b52, 0, none⟩)), (11, .int .i64 q85), (17, .int .i64 (w64 (((x1).length : Int) + 1))), (18, .int .i64 q71)] ∧ St w s (pt b52 (.cells (FleetShop.cells x3).toArray 35 (0, 0)) :: pt b51 (.cells (FleetSet.cells x2).toArray 84 (0, 0)) :: R)) ?_ ?_
    ·refine W.gen fun K86 hK86 => ?_
     refine W.cond hE rfl (fun hc87 => ?_) (fun hc87 => ?_)
     ·replace hq81 := iteT hc87 hq81
      refine W.seq (W.region ?_)
      refine WL.vS hS hE (runs_plain rfl) (Gives.p hE rfl) rfl ?_; clear hE a; intro a hE
      refine WL.vS hS hE (runs_plain rfl) (Gives.p hE rfl) rfl ?_; clear hE a; intro a hE
      refine WL.vS hS hE (runs_plain rfl) (Gives.p hE rfl) rfl ?_; clear hE a; intro a hE
      refine WL.vS hS hE (runs_plain rfl) (Gives.p hE rfl) rfl ?_; clear hE a; intro a hE
      obtain ⟨x88, hx89, hq81⟩ := bindS hq81
      obtain ⟨hi90, hlt91, hy92⟩ := gx_some hx89
      obtain ⟨cs93, hl94, hR95, hat96⟩ := h1.at hy92
      subst hR95
      refine WL.vS hS hE (runs_plain rfl) (Gives.idx hE (q71).toNat rfl rfl sl44 hi90 hlt91 (h1.aok hlt91)) rfl ?_; clear hE a; intro a hE
      refine WL.vS hS hE (runs_plain rfl) (Gives.load1 hE rfl (fun w h => hat96 w _ h) ty3) rfl ?_; clear hE a; intro a hE
      obtain ⟨x97, hx98, hq81⟩ := bindS hq81
      obtain ⟨hi99, hlt100, hy101⟩ := gx_some hx98
      obtain ⟨cs102, hl103, hR104, hat105⟩ := h0.at hy101
      subst hR104
      refine WL.vS hS hE (runs_plain rfl) (Gives.idx hE (x88).toNat rfl rfl sl32 hi99 hlt100 (h0.aok hlt100)) rfl ?_; clear hE a; intro a hE
      refine WL.vS hS hE (runs_plain rfl) (Gives.fld hE rfl fl78_4) rfl ?_; clear hE a; intro a hE
      refine WL.vS hS hE (runs_plain rfl) (Gives.load1 hE rfl (fun w h => (hat105 w _ h).one rfl) ty3) rfl ?_; clear hE a; intro a hE
      refine WL.vS hS hE (runs_plain rfl) (Gives.p hE rfl) rfl ?_; clear hE a; intro a hE
      refine WL.vS hS hE (runs_plain rfl) (Gives.p hE rfl) rfl ?_; clear hE a; intro a hE
      refine WL.nil ?_
      refine W.seq (W.region ?_)
      refine WL.vS hS hE (runs_plain rfl) (Gives.p hE rfl) rfl ?_; clear hE a; intro a hE
      refine WL.vS hS hE (runs_plain rfl) (Gives.fld hE rfl fl35_2) rfl ?_; clear hE a; intro a hE
      refine WL.vS hS hE (runs_plain rfl) (Gives.loadB hE 0 rfl rfl rfl ty3) rfl ?_; clear hE a; intro a hE
      refine WL.vS hS hE (runs_plain rfl) (Gives.p hE rfl) rfl ?_; clear hE a; intro a hE
      refine WL.nil ?_
      refine W.cond hE rfl (fun hc106 => ?_) (fun hc106 => ?_)
      ·replace hq81 := iteT hc106 hq81
       refine W.seq (W.region ?_)
       refine WL.vS hS hE (runs_plain rfl) (Gives.p hE rfl) rfl ?_; clear hE a; intro a hE
       refine WL.nil ?_
       refine W.ret ?_
       subst hK86
       subst hK72
       rw [← Option.some.inj hq81] at hq64
       dsimp only at hq64
       rw [← Option.some.inj hq64] at hr
       dsimp only at hr
       refine finG (fn := Try.f102) (rs := [.tmp 10]) (vs := [_]) hE rfl ⟨rfl, trivial⟩ ?_
       obtain rfl := Option.some.inj hr
       replace hS := hS.tail
       replace hS := hS.tail
       exact ⟨rfl, hS⟩
      ·replace hq81 := iteF hc106 hq81
       refine W.skip ?_
       subst hK86
       exact ⟨w64 (q78 + x97.Km), Option.some.inj hq81, hE.pick _ ⟨rfl, rfl, rfl, rfl, rfl, rfl, rfl, trivial⟩, hS⟩
     ·replace hq81 := iteF hc87 hq81
      refine W.skip ?_
      subst hK86
      exact ⟨q78, Option.some.inj hq81, hE.pick _ ⟨rfl, rfl, rfl, rfl, rfl, rfl, rfl, trivial⟩, hS⟩
    ·clear hE hS a w; rintro a w ⟨q85, rfl, hE, hS⟩
     dsimp only at hq64
     refine W.region ?_
     refine WL.vS hS hE (runs_plain rfl) (Gives.p hE rfl) rfl ?_; clear hE a; intro a hE
     refine WL.vS hS hE (runs_plain rfl) (Gives.p hE rfl) rfl ?_; clear hE a; intro a hE
     refine WL.nil ?_
     subst hK72
     exact ⟨n66, Nat.lt_succ_self _, n66, q85, (w64 (q71 + 1)), rfl, hq64, hE.pick _ ⟨rfl, rfl, rfl, rfl, rfl, rfl, rfl, trivial⟩, hS⟩
  ·replace hq64 := iteF hc73 hq64
   subst hK72
   refine W.exit rfl ?_
   exact ⟨q70, q71, Option.some.inj hq64, hE.pick _ trivial, hS⟩
 ·clear hE hS a w; rintro a w ⟨q70, q71, rfl, hE, hS⟩
  dsimp only at hr
  refine W.seq (W.region ?_)
  refine WL.vS hS hE (runs_plain rfl) (Gives.p hE rfl) rfl ?_; clear hE a; intro a hE
  refine WL.nil ?_
  refine W.ret ?_
  refine finG (fn := Try.f102) (rs := [.tmp 10]) (vs := [_]) hE rfl ⟨rfl, trivial⟩ ?_
  obtain rfl := Option.some.inj hr
  replace hS := hS.tail
  replace hS := hS.tail
  exact ⟨rfl, hS⟩
set_option maxHeartbeats 8000000 in
theorem Fishref2latest_ok {fu : Nat}  {w : World} {s : Sg} {R : List HP} {x0 : List FleetTask} {a0 : Option Addr} {c0 : Nat} {x1 : List Int} {a1 : Option Addr} {c1 : Nat} {x2 : FleetSet} {x3 : FleetShop} {x4 : List Int} {a4 : Option Addr} {c4 : Nat} (hS : St w s (R)) (h0 : Sl 6 RFleetTask s a0 c0 x0) (h1 : Sl 1 (RI .i64) s a1 c1 x1) (h4 : Sl 1 (RI .i64) s a4 c4 x4) {r : (List Int) × Bool} (hr : Fishref2latest fu x0 x1 x2 x3 x4 = some r) :
  Calls Try.prog 101 [.slice a0 x0.length c0, .slice a1 x1.length c1, .agg (FleetSet.cells x2).toArray, .agg (FleetShop.cells x3).toArray, .slice a4 x4.length c4].toArray w (fun e w => ∃ (a0 : Option Addr) (c0 n0 : Nat) (cs0 : List Value), e = .returned (.tuple #[.slice a0 n0 c0, .bool r.2]) ∧ Ev 1 (RI .i64) s cs0 r.1 ∧ r.1.length = n0 ∧ St w s (vecC 3 1 a0 c0 n0 cs0 :: R)) := by
 refine enter Try.func101 rfl rfl rfl fun a hE => ?_
 rw [Fishref2latest] at hr
 refine W.seq (W.region ?_)
 refine WL.box hE hS (runs_plain rfl) rfl rfl rfl ?_; clear hE hS a w; intro b51 a w hE hS
 refine WL.box hE hS (runs_plain rfl) rfl rfl rfl ?_; clear hE hS a w; intro b52 a w hE hS
 refine WL.vS hS hE (runs_plain rfl) (Gives.p hE rfl) rfl ?_; clear hE a; intro a hE
 refine WL.vS hS hE (runs_plain rfl) (Gives.p hE rfl) rfl ?_; clear hE a; intro a hE
 refine WL.nil ?_
 refine W.seq (W.region ?_)
 replace hS := hS.vecNil 3 1
 refine WL.vS hS hE (runs_plain rfl) (Gives.p hE rfl) rfl ?_; clear hE a; intro a hE
 refine WL.nil ?_
 refine W.seq ?_
 refine W.seq (W.region ?_)
 refine WL.vS hS hE (runs_plain rfl) (Gives.p hE rfl) rfl ?_; clear hE a; intro a hE
 refine WL.vS hS hE (runs_plain rfl) (Gives.len hE rfl sl44) rfl ?_; clear hE a; intro a hE
 refine WL.vS hS hE (runs_plain rfl) (Gives.p hE rfl) rfl ?_; clear hE a; intro a hE
 refine WL.vS hS hE (runs_plain rfl) (Gives.p hE rfl) rfl ?_; clear hE a; intro a hE
 refine WL.nil ?_
 obtain ⟨q66, hq65, hr⟩ := bindS hr
 refine W.cut (fun a w => ∃ (q71 : List Int), ∃ (q78 : Int), ∃ (a72 : Option Addr), ∃ (c73 : Nat), ∃ (n75 : Nat), ∃ (cs76 : List Value), (.next (q71, q78)) = q66 ∧ Ev 1 (RI .i64) s cs76 q71 ∧ q71.length = n75 ∧ Rep a 64 [] ∧ St w s (vecC 3 1 a72 c73 n75 cs76 :: pt b52 (.cells (FleetShop.cells x3).toArray 35 (0, 0)) :: pt b51 (.cells (FleetSet.cells x2).toArray 84 (0, 0)) :: R)) ?_ ?_
 ·refine W.block ?_
  refine W.loop (fun m a w => ∃ (n67 : Nat), ∃ (q71 : List Int), ∃ (q78 : Int), ∃ (a72 : Option Addr), ∃ (c73 : Nat), ∃ (n75 : Nat), ∃ (cs76 : List Value), n67 = m ∧ Fishref2latest.loop2 x0 x1 x2 x3 x4 fu n67 q71 q78 = some q66 ∧ Ev 1 (RI .i64) s cs76 q71 ∧ q71.length = n75 ∧ Rep a 64 [(0, .slice a0 x0.length c0), (1, .slice a1 x1.length c1), (4, .slice a4 x4.length c4), (7, .pointer (some ⟨b51, 0, none⟩)), (8, .pointer (some ⟨b52, 0, none⟩)), (12, .slice a72 n75 c73), (18, .int .i64 (w64 (((x4).length : Int) + 1))), (19, .int .i64 q78)] ∧ St w s (vecC 3 1 a72 c73 n75 cs76 :: pt b52 (.cells (FleetShop.cells x3).toArray 35 (0, 0)) :: pt b51 (.cells (FleetSet.cells x2).toArray 84 (0, 0)) :: R)) (m := fu) ⟨fu, [], 0, none, 0, 0, [], rfl, hq65, (Ev.nil), (rfl), hE.pick _ ⟨rfl, rfl, rfl, rfl, rfl, rfl, rfl, rfl, trivial⟩, hS⟩ ?_
  clear hE hS a w hq65; rintro m68 a w ⟨n67, q71, q78, a72, c73, n75, cs76, rfl, hq65, h74, rfl, hE, hS⟩
  refine W.gen fun K79 hK79 => ?_
  rcases n67 with _ | n67
  ·rw [Fishref2latest.loop2] at hq65; exact absurd hq65 (by simp)
  rw [Fishref2latest.loop2] at hq65
  refine W.seq (W.region ?_)
  refine WL.vS hS hE (runs_plain rfl) (Gives.p hE rfl) rfl ?_; clear hE a; intro a hE
  refine WL.nil ?_
  refine W.seq ?_
  refine W.cond hE rfl (fun hc80 => ?_) (fun hc80 => ?_)
  ·replace hq65 := iteT hc80 hq65
   refine W.skip ?_
   refine W.seq ?_
   refine W.block ?_
   refine W.seq ?_
   refine W.seq (W.region ?_)
   refine WL.vS hS hE (runs_plain rfl) (Gives.p hE rfl) rfl ?_; clear hE a; intro a hE
   refine WL.vS hS hE (runs_plain rfl) (Gives.p hE rfl) rfl ?_; clear hE a; intro a hE
   refine WL.vS hS hE (runs_plain rfl) (Gives.loadBA hE 2 rfl rfl ty84) rfl ?_; clear hE a; intro a hE
   refine WL.vS hS hE (runs_plain rfl) (Gives.loadBA hE 1 rfl rfl ty35) rfl ?_; clear hE a; intro a hE
   refine WL.vS hS hE (runs_plain rfl) (Gives.p hE rfl) rfl ?_; clear hE a; intro a hE
   obtain ⟨q81, hq82, hq65⟩ := bindS hq65
   have hF := hS.lendV RI.mono 0 rfl h74 rfl; clear hS; obtain ⟨t83, hle84, hS, hs85, bk86⟩ := hF
   have hc_ := Fishref2kept_ok hS (Sl.mono RFleetTask.mono hle84 h0) (Sl.mono RI.mono hle84 h1) hs85 hq82
   refine WL.fnq hE (hc_) (runs_plain rfl) bd102 rfl rfl rfl ?_
   clear hE hS hc_; rintro e w ⟨rfl, hS⟩; refine ⟨_, rfl, ?_⟩; clear a; intro a hE
   replace hS := bk86 _ _ hS
   refine WL.nil ?_
   refine W.cond hE rfl (fun hc87 => ?_) (fun hc87 => ?_)
   ·replace hq65 := iteT hc87 hq65
    refine W.seq (W.region ?_)
    refine WL.vS hS hE (runs_plain rfl) (Gives.p hE rfl) rfl ?_; clear hE a; intro a hE
    refine WL.vS hS hE (runs_plain rfl) (Gives.p hE rfl) rfl ?_; clear hE a; intro a hE
    refine WL.vS hS hE (runs_plain rfl) (Gives.p hE rfl) rfl ?_; clear hE a; intro a hE
    refine WL.nil ?_
    refine W.ret ?_
    subst hK79
    rw [← Option.some.inj hq65] at hr
    dsimp only at hr
    refine finG (fn := Try.f101) (rs := [.tmp 10, .tmp 11]) (vs := [_, _]) hE rfl ⟨rfl, rfl, trivial⟩ ?_
    obtain rfl := Option.some.inj hr
    replace hS := hS.dropAt 1
    replace hS := hS.dropAt 1
    exact ⟨a72, c73, q71.length, cs76, rfl, h74, rfl, hS⟩
   ·replace hq65 := iteF hc87 hq65
    refine W.skip ?_
    refine W.seq (W.region ?_)
    refine WL.vS hS hE (runs_plain rfl) (Gives.p hE rfl) rfl ?_; clear hE a; intro a hE
    refine WL.nil ?_
    refine W.seq ?_
    refine W.seq (W.region ?_)
    refine WL.vS hS hE (runs_plain rfl) (Gives.p hE rfl) rfl ?_; clear hE a; intro a hE
    refine WL.vS hS hE (runs_plain rfl) (Gives.len hE rfl sl44) rfl ?_; clear hE a; intro a hE
    refine WL.vS hS hE (runs_plain rfl) (Gives.p hE rfl) rfl ?_; clear hE a; intro a hE
    refine WL.nil ?_
    obtain ⟨q89, hq88, hq65⟩ := bindS hq65
    refine W.cut (fun a w => ∃ (q99 : Int), q99 = q89 ∧ Rep a 64 [(0, .slice a0 x0.length c0), (1, .slice a1 x1.length c1), (4, .slice a4 x4.length c4), (7, .pointer (some ⟨b51, 0, none⟩)), (8, .pointer (some ⟨b52, 0, none⟩)), (12, .slice a72 q71.length c73), (13, .int .i64 q99), (18, .int .i64 (w64 (((x4).length : Int) + 1))), (19, .int .i64 q78)] ∧ St w s (vecC 3 1 a72 c73 q71.length cs76 :: pt b52 (.cells (FleetShop.cells x3).toArray 35 (0, 0)) :: pt b51 (.cells (FleetSet.cells x2).toArray 84 (0, 0)) :: R)) ?_ ?_
    ·refine W.block ?_
     refine W.loop (fun m a w => ∃ (rest92 : List Int) (k90 : Nat), ∃ (q99 : Int), rest92.length = m ∧ x4.drop k90 = rest92 ∧ Fishref2latest.loop3 x0 x1 x2 x3 fu q71 rest92 q99 = some q89 ∧ Rep a 64 [(0, .slice a0 x0.length c0), (1, .slice a1 x1.length c1), (4, .slice a4 x4.length c4), (7, .pointer (some ⟨b51, 0, none⟩)), (8, .pointer (some ⟨b52, 0, none⟩)), (12, .slice a72 q71.length c73), (13, .int .i64 q99), (18, .int .i64 (w64 (((x4).length : Int) + 1))), (19, .int .i64 q78), (28, .slice a4 x4.length c4), (29, .int .i64 ((x4).length : Int)), (30, .int .i64 ((k90 : Nat) : Int))] ∧ St w s (vecC 3 1 a72 c73 q71.length cs76 :: pt b52 (.cells (FleetShop.cells x3).toArray 35 (0, 0)) :: pt b51 (.cells (FleetSet.cells x2).toArray 84 (0, 0)) :: R)) (m := x4.length) ⟨x4, 0, (-1), rfl, rfl, hq88, hE.pick _ ⟨rfl, rfl, rfl, rfl, rfl, rfl, rfl, rfl, rfl, rfl, rfl, rfl, trivial⟩, hS⟩ ?_
     clear hE hS a w hq88; rintro m96 a w ⟨rest92, k90, q99, rfl, hd93, hq88, hE, hS⟩
     refine W.gen fun K100 hK100 => ?_
     rcases rest92 with _ | ⟨x91, rest92⟩
     ·have hlt94 := drop_nil hd93
      refine W.seq (W.region ?_)
      refine WL.vS hS hE (runs_plain rfl) (Gives.p hE rfl) rfl ?_; clear hE a; intro a hE
      refine WL.nil ?_
      refine W.seq ?_
      refine W.condF hE rfl (decide_eq_false (by omega)) ?_
      subst hK100
      refine W.exit rfl ?_
      exact ⟨q99, Option.some.inj hq88, hE.pick _ ⟨rfl, rfl, rfl, rfl, rfl, rfl, rfl, rfl, rfl, trivial⟩, hS⟩
     ·obtain ⟨hlt94, hx95, hd93⟩ := drop_cons hd93
      rw [Fishref2latest.loop3] at hq88
      refine W.seq (W.region ?_)
      refine WL.vS hS hE (runs_plain rfl) (Gives.p hE rfl) rfl ?_; clear hE a; intro a hE
      refine WL.nil ?_
      refine W.seq ?_
      refine W.condT hE rfl (decide_eq_true (by omega)) ?_
      refine W.skip ?_
      refine W.seq ?_
      refine W.block ?_
      refine W.seq (W.region ?_)
      obtain ⟨cs101, hl102, hR103, hat104⟩ := h4.at hx95
      subst hR103
      refine WL.vS hS hE (runs_plain rfl) (Gives.idx hE k90 rfl rfl sl44 rfl hlt94 (h4.aok hlt94)) rfl ?_; clear hE a; intro a hE
      refine WL.vS hS hE (runs_plain rfl) (Gives.load1 hE rfl (fun w h => hat104 w _ h) ty3) rfl ?_; clear hE a; intro a hE
      refine WL.vS hS hE (runs_plain rfl) (Gives.p hE rfl) rfl ?_; clear hE a; intro a hE
      refine WL.nil ?_
      refine W.seq ?_
      refine W.seq ?_
      obtain ⟨q106, hq105, hq88⟩ := bindS hq88
      refine W.cut (fun a w => ∃ (q109 : Bool), q109 = q106 ∧ Rep a 64 [(0, .slice a0 x0.length c0), (1, .slice a1 x1.length c1), (4, .slice a4 x4.length c4), (7, .pointer (some ⟨b51, 0, none⟩)), (8, .pointer (some ⟨b52, 0, none⟩)), (12, .slice a72 q71.length c73), (13, .int .i64 q99), (15, .int .i64 x91), (18, .int .i64 (w64 (((x4).length : Int) + 1))), (19, .int .i64 q78), (28, .slice a4 x4.length c4), (29, .int .i64 ((x4).length : Int)), (30, .int .i64 ((k90 : Nat) : Int)), (46, .bool q109)] ∧ St w s (vecC 3 1 a72 c73 q71.length cs76 :: pt b52 (.cells (FleetShop.cells x3).toArray 35 (0, 0)) :: pt b51 (.cells (FleetSet.cells x2).toArray 84 (0, 0)) :: R)) ?_ ?_
      ·refine W.gen fun K110 hK110 => ?_
       refine W.region ?_
       refine WL.vS hS hE (runs_plain rfl) (Gives.p hE rfl) rfl ?_; clear hE a; intro a hE
       refine WL.vS hS hE (runs_plain rfl) (Gives.len hE rfl sl44) rfl ?_; clear hE a; intro a hE
       refine WL.vS hS hE (runs_plain rfl) (Gives.p hE rfl) rfl ?_; clear hE a; intro a hE
       refine WL.vS hS hE (runs_plain rfl) (Gives.p hE rfl) rfl ?_; clear hE a; intro a hE
       rcases Bool.eq_false_or_eq_true (decide (((q71.length : Nat) : Int) > 0)) with hg111 | hg111
       ·replace hq105 := iteT hg111 hq105
        refine WL.vS hS hE (runs_if hE rfl rfl rfl hg111) (Gives.p hE rfl) rfl ?_; clear hE a; intro a hE
        refine WL.vS hS hE (runs_if hE rfl rfl rfl hg111) (Gives.p hE rfl) rfl ?_; clear hE a; intro a hE
        refine WL.vS hS hE (runs_if hE rfl rfl rfl hg111) (Gives.p hE rfl) rfl ?_; clear hE a; intro a hE
        refine WL.vS hS hE (runs_if hE rfl rfl rfl hg111) (Gives.len hE rfl sl44) rfl ?_; clear hE a; intro a hE
        refine WL.vS hS hE (runs_if hE rfl rfl rfl hg111) (Gives.p hE rfl) rfl ?_; clear hE a; intro a hE
        obtain ⟨x112, hx113, hq105⟩ := bindS hq105
        obtain ⟨hi114, hlt115, hy116⟩ := gx_some hx113
        obtain ⟨vs117, hl118, hR119, hd120, hget121⟩ := h74.at hy116
        subst hR119
        refine WL.vS hS hE (runs_if hE rfl rfl rfl hg111) (Gives.idx hE ((w64 (((q71.length : Nat) : Int) - 1)).toNat) rfl rfl sl44 hi114 (by omega) (hS.vecAok 0 rfl (by omega : (w64 (((q71.length : Nat) : Int) - 1)).toNat < q71.length))) rfl ?_; clear hE a; intro a hE
        refine WL.vS hS hE (runs_if hE rfl rfl rfl hg111) (Gives.load1 hE rfl (fun w h => St.vecSees h 0 rfl ((w64 (((q71.length : Nat) : Int) - 1)).toNat * 1) _ hget121) ty3) rfl ?_; clear hE a; intro a hE
        refine WL.vS hS hE (runs_if hE rfl rfl rfl hg111) (Gives.p hE rfl) rfl ?_; clear hE a; intro a hE
        refine WL.vS hS hE (runs_plain rfl) (Gives.pickT hE rfl hg111 rfl) rfl ?_; clear hE a; intro a hE
        refine WL.nil ?_
        subst hK110
        exact ⟨decide (x91 ≤ x112), Option.some.inj hq105, hE.pick _ ⟨rfl, rfl, rfl, rfl, rfl, rfl, rfl, rfl, rfl, rfl, rfl, rfl, rfl, rfl, trivial⟩, hS⟩
       ·replace hq105 := iteF hg111 hq105
        refine WL.no hE (runs_not hE rfl rfl rfl (by rw [hg111]; decide)) rfl ?_; clear hE a; intro a hE
        refine WL.no hE (runs_not hE rfl rfl rfl (by rw [hg111]; decide)) rfl ?_; clear hE a; intro a hE
        refine WL.no hE (runs_not hE rfl rfl rfl (by rw [hg111]; decide)) rfl ?_; clear hE a; intro a hE
        refine WL.no hE (runs_not hE rfl rfl rfl (by rw [hg111]; decide)) rfl ?_; clear hE a; intro a hE
        refine WL.no hE (runs_not hE rfl rfl rfl (by rw [hg111]; decide)) rfl ?_; clear hE a; intro a hE
        refine WL.no hE (runs_not hE rfl rfl rfl (by rw [hg111]; decide)) rfl ?_; clear hE a; intro a hE
        refine WL.no hE (runs_not hE rfl rfl rfl (by rw [hg111]; decide)) rfl ?_; clear hE a; intro a hE
        refine WL.no hE (runs_not hE rfl rfl rfl (by rw [hg111]; decide)) rfl ?_; clear hE a; intro a hE
        refine WL.vS hS hE (runs_plain rfl) (Gives.pickF hE rfl hg111 rfl) rfl ?_; clear hE a; intro a hE
        refine WL.nil ?_
        subst hK110
        exact ⟨false, Option.some.inj hq105, hE.pick _ ⟨rfl, rfl, rfl, rfl, rfl, rfl, rfl, rfl, rfl, rfl, rfl, rfl, rfl, rfl, trivial⟩, hS⟩
      ·clear hE hS a w; rintro a w ⟨q109, rfl, hE, hS⟩
       refine W.cond hE rfl (fun hc122 => ?_) (fun hc122 => ?_)
       ·replace hq88 := iteT hc122 hq88
        refine W.exit rfl ?_
        refine W.region ?_
        refine WL.vS hS hE (runs_plain rfl) (Gives.inc hE rfl (by have := h4.small; omega)) rfl ?_; clear hE a; intro a hE
        refine WL.vS hS hE (runs_plain rfl) (Gives.p hE rfl) rfl ?_; clear hE a; intro a hE
        refine WL.nil ?_
        subst hK100
        exact ⟨rest92.length, Nat.lt_succ_self _, rest92, k90 + 1, q99, rfl, hd93, hq88, hE.pick _ ⟨rfl, rfl, rfl, rfl, rfl, rfl, rfl, rfl, rfl, rfl, rfl, rfl, trivial⟩, hS⟩
       ·replace hq88 := iteF hc122 hq88
        refine W.skip ?_
        refine W.seq ?_
        refine W.regionQ (C := fun w => St w s (vecC 3 1 a72 c73 q71.length cs76 :: pt b52 (.cells (FleetShop.cells x3).toArray 35 (0, 0)) :: pt b51 (.cells (FleetSet.cells x2).toArray 84 (0, 0)) :: R)) mixed (by kernel_rfl) hS.drew ?_
        refine QL.v hE (runs_plain rfl) (Gives.p hE rfl) rfl ?_; clear hE a; intro a hE
        refine QL.v hE (runs_plain rfl) (Gives.p hE rfl) rfl ?_; clear hE a; intro a hE
        refine QL.v hE (runs_plain rfl) (Gives.p hE rfl) rfl ?_; clear hE a; intro a hE
        obtain ⟨x123, hx124, hq88⟩ := bindS hq88
        obtain ⟨a125, c126, heq127, h128⟩ := h1.cut hx124
        obtain ⟨h129, h130, h131, _⟩ := cutl_some hx124
        refine QL.v hE (runs_plain rfl) (Gives.slH hE sl44 rfl rfl (by omega) (by have := h1.len; omega) heq127) rfl ?_; clear hE a; intro a hE
        refine QL.v hE (runs_plain rfl) (Gives.loadBA hE 2 rfl rfl ty84) rfl ?_; clear hE a; intro a hE
        refine QL.v hE (runs_plain rfl) (Gives.loadBA hE 1 rfl rfl ty35) rfl ?_; clear hE a; intro a hE
        refine QL.v hE (runs_plain rfl) (Gives.p hE rfl) rfl ?_; clear hE a; intro a hE
        obtain ⟨q132, hq133, hq88⟩ := bindS hq88
        refine QL.fnq hE (fun w hS => let ⟨t0_, hl0_, hS0_, hs0_, bk0_⟩ := hS.lendV RI.mono 0 rfl h74 rfl; (Fishref2kept_ok hS0_ (Sl.mono RFleetTask.mono hl0_ h0) (Sl.mono RI.mono hl0_ h128) hs0_ hq133).mono fun _ _ ⟨he, hq⟩ => ⟨he, (St.unfront 0 rfl (bk0_ _ _ hq))⟩) (runs_plain rfl) bd102 rfl rfl rfl ?_; clear hE a; intro a hE
        refine QL.nil ?_; clear hS w; intro w hS
        obtain ⟨q135, hq134, hq88⟩ := bndS hq88
        refine W.cut (fun a w => ∃ (q138 : Int), q138 = q135 ∧ Rep a 64 [(0, .slice a0 x0.length c0), (1, .slice a1 x1.length c1), (4, .slice a4 x4.length c4), (7, .pointer (some ⟨b51, 0, none⟩)), (8, .pointer (some ⟨b52, 0, none⟩)), (12, .slice a72 q71.length c73), (13, .int .i64 q138), (18, .int .i64 (w64 (((x4).length : Int) + 1))), (19, .int .i64 q78), (28, .slice a4 x4.length c4), (29, .int .i64 ((x4).length : Int)), (30, .int .i64 ((k90 : Nat) : Int))] ∧ St w s (vecC 3 1 a72 c73 q71.length cs76 :: pt b52 (.cells (FleetShop.cells x3).toArray 35 (0, 0)) :: pt b51 (.cells (FleetSet.cells x2).toArray 84 (0, 0)) :: R)) ?_ ?_
        ·refine W.gen fun K139 hK139 => ?_
         refine W.cond hE rfl (fun hc140 => ?_) (fun hc140 => ?_)
         ·replace hq134 := iteT hc140 hq134
          refine W.region ?_
          refine WL.vS hS hE (runs_plain rfl) (Gives.p hE rfl) rfl ?_; clear hE a; intro a hE
          refine WL.vS hS hE (runs_plain rfl) (Gives.p hE rfl) rfl ?_; clear hE a; intro a hE
          refine WL.nil ?_
          subst hK139
          exact ⟨x91, hq134, hE.pick _ ⟨rfl, rfl, rfl, rfl, rfl, rfl, rfl, rfl, rfl, rfl, rfl, rfl, trivial⟩, hS⟩
         ·replace hq134 := iteF hc140 hq134
          refine W.skip ?_
          subst hK139
          exact ⟨q99, hq134, hE.pick _ ⟨rfl, rfl, rfl, rfl, rfl, rfl, rfl, rfl, rfl, rfl, rfl, rfl, trivial⟩, hS⟩
        ·clear hE hS a w; rintro a w ⟨q138, rfl, hE, hS⟩
         refine W.region ?_
         refine WL.vS hS hE (runs_plain rfl) (Gives.inc hE rfl (by have := h4.small; omega)) rfl ?_; clear hE a; intro a hE
         refine WL.vS hS hE (runs_plain rfl) (Gives.p hE rfl) rfl ?_; clear hE a; intro a hE
         refine WL.nil ?_
         subst hK100
         exact ⟨rest92.length, Nat.lt_succ_self _, rest92, k90 + 1, q138, rfl, hd93, hq88, hE.pick _ ⟨rfl, rfl, rfl, rfl, rfl, rfl, rfl, rfl, rfl, rfl, rfl, rfl, trivial⟩, hS⟩
    ·clear hE hS a w; rintro a w ⟨q99, rfl, hE, hS⟩
     refine W.seq ?_
     refine W.seq (W.region ?_)
     refine WL.vS hS hE (runs_plain rfl) (Gives.p hE rfl) rfl ?_; clear hE a; intro a hE
     refine WL.vS hS hE (runs_plain rfl) (Gives.p hE rfl) rfl ?_; clear hE a; intro a hE
     refine WL.nil ?_
     refine W.cond hE rfl (fun hc141 => ?_) (fun hc141 => ?_)
     ·replace hq65 := iteT hc141 hq65
      refine W.seq (W.region ?_)
      refine WL.vS hS hE (runs_plain rfl) (Gives.p hE rfl) rfl ?_; clear hE a; intro a hE
      refine WL.vS hS hE (runs_plain rfl) (Gives.p hE rfl) rfl ?_; clear hE a; intro a hE
      refine WL.nil ?_
      refine W.ret ?_
      subst hK79
      rw [← Option.some.inj hq65] at hr
      dsimp only at hr
      replace hS := hS.vecNil 3 1
      refine finG (fn := Try.f101) (rs := [.tmp 10, .tmp 11]) (vs := [_, _]) hE rfl ⟨rfl, rfl, trivial⟩ ?_
      obtain rfl := Option.some.inj hr
      replace hS := hS.dropAt 1
      replace hS := hS.dropAt 1
      replace hS := hS.dropAt 1
      exact ⟨none, 0, 0, [], rfl, (Ev.nil), (rfl), hS⟩
     ·replace hq65 := iteF hc141 hq65
      refine W.skip ?_
      refine W.region ?_
      refine WL.vS hS hE (runs_plain rfl) (Gives.p hE rfl) rfl ?_; clear hE a; intro a hE
      refine WL.vS hS hE (runs_plain rfl) (Gives.p hE rfl) rfl ?_; clear hE a; intro a hE
      refine WL.lit hE hS (e := 3) (es := 1) (vs := [(0, .int .i64 q99)]) (cs := [.int .i64 q99]) (runs_plain rfl) rfl (by kernel_rfl) rfl ?_; clear hE hS a w; intro b143 a w hE hS
      obtain ⟨x144, hx145, hq65⟩ := bindS hq65
      refine WL.appD hE hS 0 (m := 1) (runs_plain rfl) rfl rfl rfl ap44 rfl h74 rfl (xs := [q99]) (Ev.cons (c1 := [.int .i64 q99]) rfl rfl (Ev.nil)) rfl rfl hx145 rfl ?_; clear hE hS a w; intro a146 c147 cs148 a w h149 hE hS
      refine WL.vS hS hE (runs_plain rfl) (Gives.p hE rfl) rfl ?_; clear hE a; intro a hE
      refine WL.nil ?_
      refine W.region ?_
      refine WL.vS hS hE (runs_plain rfl) (Gives.p hE rfl) rfl ?_; clear hE a; intro a hE
      refine WL.vS hS hE (runs_plain rfl) (Gives.p hE rfl) rfl ?_; clear hE a; intro a hE
      refine WL.nil ?_
      subst hK79
      exact ⟨n67, Nat.lt_succ_self _, n67, x144, (w64 (q78 + 1)), a146, c147, x144.length, cs148, rfl, hq65, h149, (rfl), hE.pick _ ⟨rfl, rfl, rfl, rfl, rfl, rfl, rfl, rfl, trivial⟩, hS⟩
  ·replace hq65 := iteF hc80 hq65
   subst hK79
   refine W.exit rfl ?_
   exact ⟨q71, q78, a72, c73, q71.length, cs76, Option.some.inj hq65, h74, rfl, hE.pick _ trivial, hS⟩
 ·clear hE hS a w; rintro a w ⟨q71, q78, a72, c73, n75, cs76, rfl, h74, rfl, hE, hS⟩
  dsimp only at hr
  refine W.seq (W.region ?_)
  refine WL.vS hS hE (runs_plain rfl) (Gives.p hE rfl) rfl ?_; clear hE a; intro a hE
  refine WL.vS hS hE (runs_plain rfl) (Gives.p hE rfl) rfl ?_; clear hE a; intro a hE
  refine WL.nil ?_
  refine W.ret ?_
  replace hS := hS.vecNil 3 1
  refine finG (fn := Try.f101) (rs := [.tmp 10, .tmp 11]) (vs := [_, _]) hE rfl ⟨rfl, rfl, trivial⟩ ?_
  obtain rfl := Option.some.inj hr
  replace hS := hS.dropAt 1
  replace hS := hS.dropAt 1
  replace hS := hS.dropAt 1
  exact ⟨none, 0, 0, [], rfl, (Ev.nil), (rfl), hS⟩
set_option maxHeartbeats 8000000 in
theorem SlicesCompareLint_ok  {w : World} {s : Sg} {R : List HP} {x0 : List Int} {a0 : Option Addr} {c0 : Nat} {x1 : List Int} {a1 : Option Addr} {c1 : Nat} (hS : St w s (R)) (h0 : Sl 1 (RI .i64) s a0 c0 x0) (h1 : Sl 1 (RI .i64) s a1 c1 x1) {r : Int} (hr : SlicesCompareLint x0 x1 = some r) :
  Calls Try.prog 85 [.slice a0 x0.length c0, .slice a1 x1.length c1].toArray w (fun e w => e = .returned (.int .i64 r) ∧ St w s (R)) := by
 refine enter Try.func85 rfl rfl rfl fun a hE => ?_
 rw [SlicesCompareLint] at hr
 refine W.seq (W.region ?_)
 refine WL.vS hS hE (runs_plain rfl) (Gives.p hE rfl) rfl ?_; clear hE a; intro a hE
 refine WL.nil ?_
 refine W.seq ?_
 refine W.seq (W.region ?_)
 refine WL.vS hS hE (runs_plain rfl) (Gives.p hE rfl) rfl ?_; clear hE a; intro a hE
 refine WL.vS hS hE (runs_plain rfl) (Gives.len hE rfl sl44) rfl ?_; clear hE a; intro a hE
 refine WL.vS hS hE (runs_plain rfl) (Gives.p hE rfl) rfl ?_; clear hE a; intro a hE
 refine WL.nil ?_
 obtain ⟨q52, hq51, hr⟩ := bindS hr
 refine W.cut (fun a w => (.next ()) = q52 ∧ Rep a 36 [(0, .slice a0 x0.length c0), (1, .slice a1 x1.length c1)] ∧ St w s (R)) ?_ ?_
 ·refine W.block ?_
  refine W.loop (fun m a w => ∃ (rest55 : List Int) (k53 : Nat), rest55.length = m ∧ x0.drop k53 = rest55 ∧ SlicesCompareLint.loop1 x1 rest55 k53 = some q52 ∧ Rep a 36 [(0, .slice a0 x0.length c0), (1, .slice a1 x1.length c1), (9, .slice a0 x0.length c0), (10, .int .i64 ((x0).length : Int)), (11, .int .i64 ((k53 : Nat) : Int))] ∧ St w s (R)) (m := x0.length) ⟨x0, 0, rfl, rfl, hq51, hE.pick _ ⟨rfl, rfl, rfl, rfl, rfl, trivial⟩, hS⟩ ?_
  clear hE hS a w hq51; rintro m59 a w ⟨rest55, k53, rfl, hd56, hq51, hE, hS⟩
  refine W.gen fun K62 hK62 => ?_
  rcases rest55 with _ | ⟨x54, rest55⟩
  ·have hlt57 := drop_nil hd56
   refine W.seq (W.region ?_)
   refine WL.vS hS hE (runs_plain rfl) (Gives.p hE rfl) rfl ?_; clear hE a; intro a hE
   refine WL.nil ?_
   refine W.seq ?_
   refine W.condF hE rfl (decide_eq_false (by omega)) ?_
   subst hK62
   refine W.exit rfl ?_
   exact ⟨Option.some.inj hq51, hE.pick _ ⟨rfl, rfl, trivial⟩, hS⟩
  ·obtain ⟨hlt57, hx58, hd56⟩ := drop_cons hd56
   rw [SlicesCompareLint.loop1] at hq51
   refine W.seq (W.region ?_)
   refine WL.vS hS hE (runs_plain rfl) (Gives.p hE rfl) rfl ?_; clear hE a; intro a hE
   refine WL.nil ?_
   refine W.seq ?_
   refine W.condT hE rfl (decide_eq_true (by omega)) ?_
   refine W.skip ?_
   refine W.seq ?_
   refine W.block ?_
   refine W.seq (W.region ?_)
   refine WL.vS hS hE (runs_plain rfl) (Gives.p hE rfl) rfl ?_; clear hE a; intro a hE
   obtain ⟨cs63, hl64, hR65, hat66⟩ := h0.at hx58
   subst hR65
   refine WL.vS hS hE (runs_plain rfl) (Gives.idx hE k53 rfl rfl sl44 rfl hlt57 (h0.aok hlt57)) rfl ?_; clear hE a; intro a hE
   refine WL.vS hS hE (runs_plain rfl) (Gives.load1 hE rfl (fun w h => hat66 w _ h) ty3) rfl ?_; clear hE a; intro a hE
   refine WL.vS hS hE (runs_plain rfl) (Gives.p hE rfl) rfl ?_; clear hE a; intro a hE
   refine WL.vS hS hE (runs_plain rfl) (Gives.p hE rfl) rfl ?_; clear hE a; intro a hE
   refine WL.nil ?_
   refine W.seq ?_
   refine W.seq (W.region ?_)
   refine WL.vS hS hE (runs_plain rfl) (Gives.p hE rfl) rfl ?_; clear hE a; intro a hE
   refine WL.vS hS hE (runs_plain rfl) (Gives.p hE rfl) rfl ?_; clear hE a; intro a hE
   refine WL.vS hS hE (runs_plain rfl) (Gives.len hE rfl sl44) rfl ?_; clear hE a; intro a hE
   refine WL.vS hS hE (runs_plain rfl) (Gives.p hE rfl) rfl ?_; clear hE a; intro a hE
   refine WL.nil ?_
   refine W.cond hE rfl (fun hc67 => ?_) (fun hc67 => ?_)
   ·replace hq51 := iteT hc67 hq51
    refine W.seq (W.region ?_)
    refine WL.vS hS hE (runs_plain rfl) (Gives.p hE rfl) rfl ?_; clear hE a; intro a hE
    refine WL.nil ?_
    refine W.ret ?_
    subst hK62
    rw [← Option.some.inj hq51] at hr
    dsimp only at hr
    refine finG (fn := Try.f85) (rs := [.tmp 4]) (vs := [_]) hE rfl ⟨rfl, trivial⟩ ?_
    obtain rfl := Option.some.inj hr
    exact ⟨rfl, hS⟩
   ·replace hq51 := iteF hc67 hq51
    refine W.skip ?_
    refine W.seq (W.region ?_)
    refine WL.vS hS hE (runs_plain rfl) (Gives.p hE rfl) rfl ?_; clear hE a; intro a hE
    refine WL.vS hS hE (runs_plain rfl) (Gives.p hE rfl) rfl ?_; clear hE a; intro a hE
    obtain ⟨x68, hx69, hq51⟩ := bindS hq51
    obtain ⟨hi70, hlt71, hy72⟩ := gx_some hx69
    obtain ⟨cs73, hl74, hR75, hat76⟩ := h1.at hy72
    subst hR75
    refine WL.vS hS hE (runs_plain rfl) (Gives.idx hE (((k53 : Nat) : Int)).toNat rfl rfl sl44 hi70 hlt71 (h1.aok hlt71)) rfl ?_; clear hE a; intro a hE
    refine WL.vS hS hE (runs_plain rfl) (Gives.load1 hE rfl (fun w h => hat76 w _ h) ty3) rfl ?_; clear hE a; intro a hE
    refine WL.vS hS hE (runs_plain rfl) (Gives.p hE rfl) rfl ?_; clear hE a; intro a hE
    refine WL.nil ?_
    refine W.seq (W.region ?_)
    refine WL.vS hS hE (runs_plain rfl) (Gives.p hE rfl) rfl ?_; clear hE a; intro a hE
    refine WL.vS hS hE (runs_plain rfl) (Gives.p hE rfl) rfl ?_; clear hE a; intro a hE
    refine WL.fnq hE (CmpCompareint_ok hS  rfl (r := CmpCompareint x54 x68)) (runs_plain rfl) bd105 rfl rfl rfl ?_
    clear hE hS; rintro e w ⟨rfl, hS⟩; refine ⟨_, rfl, ?_⟩; clear a; intro a hE
    refine WL.vS hS hE (runs_plain rfl) (Gives.p hE rfl) rfl ?_; clear hE a; intro a hE
    refine WL.nil ?_
    refine W.seq (W.region ?_)
    refine WL.vS hS hE (runs_plain rfl) (Gives.p hE rfl) rfl ?_; clear hE a; intro a hE
    refine WL.vS hS hE (runs_plain rfl) (Gives.p hE rfl) rfl ?_; clear hE a; intro a hE
    refine WL.nil ?_
    refine W.cond hE rfl (fun hc77 => ?_) (fun hc77 => ?_)
    ·replace hq51 := iteT hc77 hq51
     refine W.seq (W.region ?_)
     refine WL.vS hS hE (runs_plain rfl) (Gives.p hE rfl) rfl ?_; clear hE a; intro a hE
     refine WL.vS hS hE (runs_plain rfl) (Gives.p hE rfl) rfl ?_; clear hE a; intro a hE
     refine WL.nil ?_
     refine W.ret ?_
     subst hK62
     rw [← Option.some.inj hq51] at hr
     dsimp only at hr
     refine finG (fn := Try.f85) (rs := [.tmp 4]) (vs := [_]) hE rfl ⟨rfl, trivial⟩ ?_
     obtain rfl := Option.some.inj hr
     exact ⟨rfl, hS⟩
    ·replace hq51 := iteF hc77 hq51
     refine W.skip ?_
     refine W.region ?_
     refine WL.vS hS hE (runs_plain rfl) (Gives.inc hE rfl (by have := h0.small; omega)) rfl ?_; clear hE a; intro a hE
     refine WL.vS hS hE (runs_plain rfl) (Gives.p hE rfl) rfl ?_; clear hE a; intro a hE
     refine WL.nil ?_
     subst hK62
     exact ⟨rest55.length, Nat.lt_succ_self _, rest55, k53 + 1, rfl, hd56, hq51, hE.pick _ ⟨rfl, rfl, rfl, rfl, rfl, trivial⟩, hS⟩
 ·clear hE hS a w; rintro a w ⟨rfl, hE, hS⟩
  dsimp only at hr
  refine W.seq ?_
  refine W.seq (W.region ?_)
  refine WL.vS hS hE (runs_plain rfl) (Gives.p hE rfl) rfl ?_; clear hE a; intro a hE
  refine WL.vS hS hE (runs_plain rfl) (Gives.len hE rfl sl44) rfl ?_; clear hE a; intro a hE
  refine WL.vS hS hE (runs_plain rfl) (Gives.p hE rfl) rfl ?_; clear hE a; intro a hE
  refine WL.vS hS hE (runs_plain rfl) (Gives.len hE rfl sl44) rfl ?_; clear hE a; intro a hE
  refine WL.vS hS hE (runs_plain rfl) (Gives.p hE rfl) rfl ?_; clear hE a; intro a hE
  refine WL.nil ?_
  refine W.cond hE rfl (fun hc78 => ?_) (fun hc78 => ?_)
  ·replace hr := iteT hc78 hr
   refine W.seq (W.region ?_)
   refine WL.vS hS hE (runs_plain rfl) (Gives.p hE rfl) rfl ?_; clear hE a; intro a hE
   refine WL.nil ?_
   refine W.ret ?_
   refine finG (fn := Try.f85) (rs := [.tmp 4]) (vs := [_]) hE rfl ⟨rfl, trivial⟩ ?_
   obtain rfl := Option.some.inj hr
   exact ⟨rfl, hS⟩
  ·replace hr := iteF hc78 hr
   refine W.skip ?_
   refine W.seq (W.region ?_)
   refine WL.vS hS hE (runs_plain rfl) (Gives.p hE rfl) rfl ?_; clear hE a; intro a hE
   refine WL.nil ?_
   refine W.ret ?_
   refine finG (fn := Try.f85) (rs := [.tmp 4]) (vs := [_]) hE rfl ⟨rfl, trivial⟩ ?_
   obtain rfl := Option.some.inj hr
   exact ⟨rfl, hS⟩
set_option maxHeartbeats 8000000 in
theorem Fishref2positions_ok {fu : Nat}  {w : World} {s : Sg} {R : List HP} {x0 : List FleetTask} {a0 : Option Addr} {c0 : Nat} {x1 : List Int} {a1 : Option Addr} {c1 : Nat} {x2 : FleetSet} {x3 : FleetShop} (hS : St w s (R)) (h0 : Sl 6 RFleetTask s a0 c0 x0) (h1 : Sl 1 (RI .i64) s a1 c1 x1) {r : (List Int) × Bool} (hr : Fishref2positions fu x0 x1 x2 x3 = some r) :
  Calls Try.prog 59 [.slice a0 x0.length c0, .slice a1 x1.length c1, .agg (FleetSet.cells x2).toArray, .agg (FleetShop.cells x3).toArray].toArray w (fun e w => ∃ (a0 : Option Addr) (c0 n0 : Nat) (cs0 : List Value), e = .returned (.tuple #[.slice a0 n0 c0, .bool r.2]) ∧ Ev 1 (RI .i64) s cs0 r.1 ∧ r.1.length = n0 ∧ St w s (vecC 3 1 a0 c0 n0 cs0 :: R)) := by
 refine enter Try.func59 rfl rfl rfl fun a hE => ?_
 rw [Fishref2positions] at hr
 refine W.seq (W.region ?_)
 refine WL.box hE hS (runs_plain rfl) rfl rfl rfl ?_; clear hE hS a w; intro b51 a w hE hS
 refine WL.box hE hS (runs_plain rfl) rfl rfl rfl ?_; clear hE hS a w; intro b52 a w hE hS
 replace hS := hS.vecNil 3 1
 refine WL.vS hS hE (runs_plain rfl) (Gives.p hE rfl) rfl ?_; clear hE a; intro a hE
 refine WL.vS hS hE (runs_plain rfl) (Gives.p hE rfl) rfl ?_; clear hE a; intro a hE
 refine WL.nil ?_
 refine W.seq (W.region ?_)
 replace hS := hS.vecNil 3 1
 refine WL.vS hS hE (runs_plain rfl) (Gives.p hE rfl) rfl ?_; clear hE a; intro a hE
 refine WL.nil ?_
 refine W.seq ?_
 refine W.seq (W.region ?_)
 refine WL.vS hS hE (runs_plain rfl) (Gives.p hE rfl) rfl ?_; clear hE a; intro a hE
 refine WL.vS hS hE (runs_plain rfl) (Gives.len hE rfl sl44) rfl ?_; clear hE a; intro a hE
 refine WL.vS hS hE (runs_plain rfl) (Gives.p hE rfl) rfl ?_; clear hE a; intro a hE
 refine WL.vS hS hE (runs_plain rfl) (Gives.p hE rfl) rfl ?_; clear hE a; intro a hE
 refine WL.nil ?_
 replace hS := hS.dropAt 1
 obtain ⟨q67, hq66, hr⟩ := bindS hr
 refine W.cut (fun a w => ∃ (q72 : List Int), ∃ (q79 : Int), ∃ (a73 : Option Addr), ∃ (c74 : Nat), ∃ (n76 : Nat), ∃ (cs77 : List Value), (q72, q79) = q67 ∧ Ev 1 (RI .i64) s cs77 q72 ∧ q72.length = n76 ∧ Rep a 103 [(0, .slice a0 x0.length c0), (1, .slice a1 x1.length c1), (6, .pointer (some ⟨b51, 0, none⟩)), (7, .pointer (some ⟨b52, 0, none⟩)), (10, .slice a73 n76 c74)] ∧ St w s (vecC 3 1 a73 c74 n76 cs77 :: pt b52 (.cells (FleetShop.cells x3).toArray 35 (0, 0)) :: pt b51 (.cells (FleetSet.cells x2).toArray 84 (0, 0)) :: R)) ?_ ?_
 ·refine W.block ?_
  refine W.loop (fun m a w => ∃ (n68 : Nat), ∃ (q72 : List Int), ∃ (q79 : Int), ∃ (a73 : Option Addr), ∃ (c74 : Nat), ∃ (n76 : Nat), ∃ (cs77 : List Value), n68 = m ∧ Fishref2positions.loop2 x0 x1 x2 x3 n68 q72 q79 = some q67 ∧ Ev 1 (RI .i64) s cs77 q72 ∧ q72.length = n76 ∧ Rep a 103 [(0, .slice a0 x0.length c0), (1, .slice a1 x1.length c1), (6, .pointer (some ⟨b51, 0, none⟩)), (7, .pointer (some ⟨b52, 0, none⟩)), (10, .slice a73 n76 c74), (21, .int .i64 (w64 (((x1).length : Int) + 1))), (22, .int .i64 q79)] ∧ St w s (vecC 3 1 a73 c74 n76 cs77 :: pt b52 (.cells (FleetShop.cells x3).toArray 35 (0, 0)) :: pt b51 (.cells (FleetSet.cells x2).toArray 84 (0, 0)) :: R)) (m := fu) ⟨fu, [], 0, none, 0, 0, [], rfl, hq66, (Ev.nil), (rfl), hE.pick _ ⟨rfl, rfl, rfl, rfl, rfl, rfl, rfl, trivial⟩, hS⟩ ?_
  clear hE hS a w hq66; rintro m69 a w ⟨n68, q72, q79, a73, c74, n76, cs77, rfl, hq66, h75, rfl, hE, hS⟩
  refine W.gen fun K80 hK80 => ?_
  rcases n68 with _ | n68
  ·rw [Fishref2positions.loop2] at hq66; exact absurd hq66 (by simp)
  rw [Fishref2positions.loop2] at hq66
  refine W.seq (W.region ?_)
  refine WL.vS hS hE (runs_plain rfl) (Gives.p hE rfl) rfl ?_; clear hE a; intro a hE
  refine WL.nil ?_
  refine W.seq ?_
  refine W.cond hE rfl (fun hc81 => ?_) (fun hc81 => ?_)
  ·replace hq66 := iteT hc81 hq66
   refine W.skip ?_
   refine W.seq ?_
   refine W.block ?_
   refine W.seq (W.region ?_)
   refine WL.vS hS hE (runs_plain rfl) (Gives.p hE rfl) rfl ?_; clear hE a; intro a hE
   refine WL.vS hS hE (runs_plain rfl) (Gives.p hE rfl) rfl ?_; clear hE a; intro a hE
   refine WL.nil ?_
   refine W.seq (W.region ?_)
   refine WL.vS hS hE (runs_plain rfl) (Gives.p hE rfl) rfl ?_; clear hE a; intro a hE
   refine WL.vS hS hE (runs_plain rfl) (Gives.p hE rfl) rfl ?_; clear hE a; intro a hE
   refine WL.vS hS hE (runs_plain rfl) (Gives.loadBA hE 2 rfl rfl ty84) rfl ?_; clear hE a; intro a hE
   refine WL.vS hS hE (runs_plain rfl) (Gives.loadBA hE 1 rfl rfl ty35) rfl ?_; clear hE a; intro a hE
   refine WL.vS hS hE (runs_plain rfl) (Gives.p hE rfl) rfl ?_; clear hE a; intro a hE
   obtain ⟨q82, hq83, hq66⟩ := bindS hq66
   have hc_ := Fishref2canInspect_ok hS h0 h1 hq83
   refine WL.fnq hE (hc_) (runs_plain rfl) bd100 rfl rfl rfl ?_
   clear hE hS hc_; rintro e w ⟨rfl, hS⟩; refine ⟨_, rfl, ?_⟩; clear a; intro a hE
   refine WL.nil ?_
   obtain ⟨q85, hq84, hq66⟩ := bindS hq66
   refine W.cut (fun a w => ∃ (q88 : List Int), ∃ (a89 : Option Addr), ∃ (c90 : Nat), ∃ (n92 : Nat), ∃ (cs93 : List Value), q88 = q85 ∧ Ev 1 (RI .i64) s cs93 q88 ∧ q88.length = n92 ∧ Rep a 103 [(0, .slice a0 x0.length c0), (1, .slice a1 x1.length c1), (6, .pointer (some ⟨b51, 0, none⟩)), (7, .pointer (some ⟨b52, 0, none⟩)), (10, .slice a89 n92 c90), (21, .int .i64 (w64 (((x1).length : Int) + 1))), (22, .int .i64 q79)] ∧ St w s (vecC 3 1 a89 c90 n92 cs93 :: pt b52 (.cells (FleetShop.cells x3).toArray 35 (0, 0)) :: pt b51 (.cells (FleetSet.cells x2).toArray 84 (0, 0)) :: R)) ?_ ?_
   ·refine W.gen fun K95 hK95 => ?_
    refine W.cond hE rfl (fun hc96 => ?_) (fun hc96 => ?_)
    ·replace hq84 := iteT hc96 hq84
     refine W.region ?_
     refine WL.vS hS hE (runs_plain rfl) (Gives.p hE rfl) rfl ?_; clear hE a; intro a hE
     refine WL.vS hS hE (runs_plain rfl) (Gives.p hE rfl) rfl ?_; clear hE a; intro a hE
     refine WL.lit hE hS (e := 3) (es := 1) (vs := [(0, .int .i64 q79)]) (cs := [.int .i64 q79]) (runs_plain rfl) rfl (by kernel_rfl) rfl ?_; clear hE hS a w; intro b97 a w hE hS
     obtain ⟨x98, hx99, hq84⟩ := bindS hq84
     refine WL.appD hE hS 0 (m := 1) (runs_plain rfl) rfl rfl rfl ap44 rfl h75 rfl (xs := [q79]) (Ev.cons (c1 := [.int .i64 q79]) rfl rfl (Ev.nil)) rfl rfl hx99 rfl ?_; clear hE hS a w; intro a100 c101 cs102 a w h103 hE hS
     refine WL.vS hS hE (runs_plain rfl) (Gives.p hE rfl) rfl ?_; clear hE a; intro a hE
     refine WL.nil ?_
     subst hK95
     exact ⟨x98, a100, c101, x98.length, cs102, Option.some.inj hq84, h103, (rfl), hE.pick _ ⟨rfl, rfl, rfl, rfl, rfl, rfl, rfl, trivial⟩, hS⟩
    ·replace hq84 := iteF hc96 hq84
     refine W.skip ?_
     subst hK95
     exact ⟨q72, a73, c74, q72.length, cs77, Option.some.inj hq84, h75, rfl, hE.pick _ ⟨rfl, rfl, rfl, rfl, rfl, rfl, rfl, trivial⟩, hS⟩
   ·clear hE hS a w; rintro a w ⟨q88, a89, c90, n92, cs93, rfl, h91, rfl, hE, hS⟩
    refine W.region ?_
    refine WL.vS hS hE (runs_plain rfl) (Gives.p hE rfl) rfl ?_; clear hE a; intro a hE
    refine WL.vS hS hE (runs_plain rfl) (Gives.p hE rfl) rfl ?_; clear hE a; intro a hE
    refine WL.nil ?_
    subst hK80
    exact ⟨n68, Nat.lt_succ_self _, n68, q88, (w64 (q79 + 1)), a89, c90, q88.length, cs93, rfl, hq66, h91, rfl, hE.pick _ ⟨rfl, rfl, rfl, rfl, rfl, rfl, rfl, trivial⟩, hS⟩
  ·replace hq66 := iteF hc81 hq66
   subst hK80
   refine W.exit rfl ?_
   exact ⟨q72, q79, a73, c74, q72.length, cs77, Option.some.inj hq66, h75, rfl, hE.pick _ ⟨rfl, rfl, rfl, rfl, rfl, trivial⟩, hS⟩
 ·clear hE hS a w; rintro a w ⟨q72, q79, a73, c74, n76, cs77, rfl, h75, rfl, hE, hS⟩
  dsimp only at hr
  refine W.seq ?_
  refine W.seq (W.region ?_)
  refine WL.vS hS hE (runs_plain rfl) (Gives.p hE rfl) rfl ?_; clear hE a; intro a hE
  refine WL.vS hS hE (runs_plain rfl) (Gives.len hE rfl sl44) rfl ?_; clear hE a; intro a hE
  refine WL.vS hS hE (runs_plain rfl) (Gives.p hE rfl) rfl ?_; clear hE a; intro a hE
  refine WL.nil ?_
  refine W.cond hE rfl (fun hc104 => ?_) (fun hc104 => ?_)
  ·replace hr := iteT hc104 hr
   refine W.seq (W.region ?_)
   refine WL.vS hS hE (runs_plain rfl) (Gives.p hE rfl) rfl ?_; clear hE a; intro a hE
   refine WL.vS hS hE (runs_plain rfl) (Gives.p hE rfl) rfl ?_; clear hE a; intro a hE
   refine WL.vS hS hE (runs_plain rfl) (Gives.loadBA hE 2 rfl rfl ty84) rfl ?_; clear hE a; intro a hE
   refine WL.vS hS hE (runs_plain rfl) (Gives.loadBA hE 1 rfl rfl ty35) rfl ?_; clear hE a; intro a hE
   refine WL.vS hS hE (runs_plain rfl) (Gives.p hE rfl) rfl ?_; clear hE a; intro a hE
   obtain ⟨q105, hq106, hr⟩ := bindS hr
   have hF := hS.lendV RI.mono 0 rfl h75 rfl; clear hS; obtain ⟨t113, hle114, hS, hs115, bk116⟩ := hF
   have hc_ := Fishref2latest_ok hS (Sl.mono RFleetTask.mono hle114 h0) (Sl.mono RI.mono hle114 h1) hs115 hq106
   refine WL.fnq hE (hc_) (runs_plain rfl) bd101 rfl rfl rfl ?_
   clear hE hS hc_; rintro e w ⟨a107, c108, n109, cs110, rfl, h111, rfl, hS⟩; refine ⟨_, rfl, ?_⟩; clear a; intro a hE
   replace hS := bk116 _ _ hS
   replace h111 := Ev.flat (s2 := s) (fun _ _ _ _ h => h) h111
   refine WL.vS hS hE (runs_plain rfl) (Gives.p hE rfl) rfl ?_; clear hE a; intro a hE
   refine WL.vS hS hE (runs_plain rfl) (Gives.p hE rfl) rfl ?_; clear hE a; intro a hE
   refine WL.vS hS hE (runs_plain rfl) (Gives.p hE rfl) rfl ?_; clear hE a; intro a hE
   refine WL.vS hS hE (runs_plain rfl) (Gives.p hE rfl) rfl ?_; clear hE a; intro a hE
   refine WL.nil ?_
   refine W.ret ?_
   refine finG (fn := Try.f59) (rs := [.tmp 8, .tmp 9]) (vs := [_, _]) hE rfl ⟨rfl, rfl, trivial⟩ ?_
   obtain rfl := Option.some.inj hr
   replace hS := hS.tail
   replace hS := hS.dropAt 1
   replace hS := hS.dropAt 1
   exact ⟨a107, c108, q105.1.length, cs110, rfl, h111, rfl, hS⟩
  ·replace hr := iteF hc104 hr
   refine W.skip ?_
   refine W.seq ?_
   refine W.seq (W.region ?_)
   refine WL.vS hS hE (runs_plain rfl) (Gives.p hE rfl) rfl ?_; clear hE a; intro a hE
   refine WL.vS hS hE (runs_plain rfl) (Gives.len hE rfl sl44) rfl ?_; clear hE a; intro a hE
   refine WL.vS hS hE (runs_plain rfl) (Gives.p hE rfl) rfl ?_; clear hE a; intro a hE
   refine WL.vS hS hE (runs_plain rfl) (Gives.p hE rfl) rfl ?_; clear hE a; intro a hE
   refine WL.nil ?_
   obtain ⟨q129, hq128, hr⟩ := bindS hr
   refine W.cut (fun a w => ∃ (q134 : Int), (.next q134) = q129 ∧ Rep a 103 [] ∧ St w s (vecC 3 1 a73 c74 q72.length cs77 :: pt b52 (.cells (FleetShop.cells x3).toArray 35 (0, 0)) :: pt b51 (.cells (FleetSet.cells x2).toArray 84 (0, 0)) :: R)) ?_ ?_
   ·refine W.block ?_
    refine W.loop (fun m a w => ∃ (n130 : Nat), ∃ (q134 : Int), n130 = m ∧ Fishref2positions.loop4 x0 x1 x2 x3 fu q72 n130 q134 = some q129 ∧ Rep a 103 [(0, .slice a0 x0.length c0), (1, .slice a1 x1.length c1), (6, .pointer (some ⟨b51, 0, none⟩)), (7, .pointer (some ⟨b52, 0, none⟩)), (10, .slice a73 q72.length c74), (49, .int .i64 (w64 (((q72.length : Nat) : Int) + 1))), (50, .int .i64 q134)] ∧ St w s (vecC 3 1 a73 c74 q72.length cs77 :: pt b52 (.cells (FleetShop.cells x3).toArray 35 (0, 0)) :: pt b51 (.cells (FleetSet.cells x2).toArray 84 (0, 0)) :: R)) (m := fu) ⟨fu, 0, rfl, hq128, hE.pick _ ⟨rfl, rfl, rfl, rfl, rfl, rfl, rfl, trivial⟩, hS⟩ ?_
    clear hE hS a w hq128; rintro m131 a w ⟨n130, q134, rfl, hq128, hE, hS⟩
    refine W.gen fun K135 hK135 => ?_
    rcases n130 with _ | n130
    ·rw [Fishref2positions.loop4] at hq128; exact absurd hq128 (by simp)
    rw [Fishref2positions.loop4] at hq128
    refine W.seq (W.region ?_)
    refine WL.vS hS hE (runs_plain rfl) (Gives.p hE rfl) rfl ?_; clear hE a; intro a hE
    refine WL.nil ?_
    refine W.seq ?_
    refine W.cond hE rfl (fun hc136 => ?_) (fun hc136 => ?_)
    ·replace hq128 := iteT hc136 hq128
     refine W.skip ?_
     refine W.seq ?_
     refine W.block ?_
     refine W.seq (W.region ?_)
     refine WL.vS hS hE (runs_plain rfl) (Gives.p hE rfl) rfl ?_; clear hE a; intro a hE
     refine WL.vS hS hE (runs_plain rfl) (Gives.p hE rfl) rfl ?_; clear hE a; intro a hE
     refine WL.nil ?_
     refine W.seq (W.region ?_)
     replace hS := hS.vecNil 3 1
     refine WL.vS hS hE (runs_plain rfl) (Gives.p hE rfl) rfl ?_; clear hE a; intro a hE
     refine WL.nil ?_
     refine W.seq (W.region ?_)
     refine WL.vS hS hE (runs_plain rfl) (Gives.p hE rfl) rfl ?_; clear hE a; intro a hE
     refine WL.nil ?_
     refine W.seq ?_
     refine W.seq (W.region ?_)
     refine WL.vS hS hE (runs_plain rfl) (Gives.p hE rfl) rfl ?_; clear hE a; intro a hE
     refine WL.vS hS hE (runs_plain rfl) (Gives.len hE rfl sl44) rfl ?_; clear hE a; intro a hE
     refine WL.vS hS hE (runs_plain rfl) (Gives.shl hE rfl rfl (by omega)) rfl ?_; clear hE a; intro a hE
     refine WL.vS hS hE (runs_plain rfl) (Gives.p hE rfl) rfl ?_; clear hE a; intro a hE
     refine WL.nil ?_
     obtain ⟨q150, hq149, hq128⟩ := bindS hq128
     refine W.cut (fun a w => ∃ (q155 : List Int), ∃ (q162 : Bool), ∃ (q163 : Int), ∃ (a156 : Option Addr), ∃ (c157 : Nat), ∃ (n159 : Nat), ∃ (cs160 : List Value), (q155, q162, q163) = q150 ∧ Ev 1 (RI .i64) s cs160 q155 ∧ q155.length = n159 ∧ Rep a 103 [(0, .slice a0 x0.length c0), (1, .slice a1 x1.length c1), (6, .pointer (some ⟨b51, 0, none⟩)), (7, .pointer (some ⟨b52, 0, none⟩)), (10, .slice a73 q72.length c74), (13, .slice a156 n159 c157), (14, .bool q162), (49, .int .i64 (w64 (((q72.length : Nat) : Int) + 1))), (50, .int .i64 q134)] ∧ St w s (vecC 3 1 a156 c157 n159 cs160 :: vecC 3 1 a73 c74 q72.length cs77 :: pt b52 (.cells (FleetShop.cells x3).toArray 35 (0, 0)) :: pt b51 (.cells (FleetSet.cells x2).toArray 84 (0, 0)) :: R)) ?_ ?_
     ·refine W.block ?_
      refine W.loop (fun m a w => ∃ (n151 : Nat), ∃ (q155 : List Int), ∃ (q162 : Bool), ∃ (q163 : Int), ∃ (a156 : Option Addr), ∃ (c157 : Nat), ∃ (n159 : Nat), ∃ (cs160 : List Value), n151 = m ∧ Fishref2positions.loop6 x0 x1 x2 x3 fu q72 q134 n151 q155 q162 q163 = some q150 ∧ Ev 1 (RI .i64) s cs160 q155 ∧ q155.length = n159 ∧ Rep a 103 [(0, .slice a0 x0.length c0), (1, .slice a1 x1.length c1), (6, .pointer (some ⟨b51, 0, none⟩)), (7, .pointer (some ⟨b52, 0, none⟩)), (10, .slice a73 q72.length c74), (12, .int .i64 q134), (13, .slice a156 n159 c157), (14, .bool q162), (49, .int .i64 (w64 (((q72.length : Nat) : Int) + 1))), (50, .int .i64 q134), (55, .int .i64 (IntKind.wrap .i64 (1 * (2 ^ (min (Int.toNat ((q72.length : Nat) : Int)) (IntKind.bits .i64)))))), (56, .int .i64 q163)] ∧ St w s (vecC 3 1 a156 c157 n159 cs160 :: vecC 3 1 a73 c74 q72.length cs77 :: pt b52 (.cells (FleetShop.cells x3).toArray 35 (0, 0)) :: pt b51 (.cells (FleetSet.cells x2).toArray 84 (0, 0)) :: R)) (m := fu) ⟨fu, [], false, 0, none, 0, 0, [], rfl, hq149, (Ev.nil), (rfl), hE.pick _ ⟨rfl, rfl, rfl, rfl, rfl, rfl, rfl, rfl, rfl, rfl, rfl, rfl, trivial⟩, hS⟩ ?_
      clear hE hS a w hq149; rintro m152 a w ⟨n151, q155, q162, q163, a156, c157, n159, cs160, rfl, hq149, h158, rfl, hE, hS⟩
      refine W.gen fun K164 hK164 => ?_
      rcases n151 with _ | n151
      ·rw [Fishref2positions.loop6] at hq149; exact absurd hq149 (by simp)
      rw [Fishref2positions.loop6] at hq149
      refine W.seq (W.region ?_)
      refine WL.vS hS hE (runs_plain rfl) (Gives.p hE rfl) rfl ?_; clear hE a; intro a hE
      refine WL.nil ?_
      refine W.seq ?_
      refine W.cond hE rfl (fun hc165 => ?_) (fun hc165 => ?_)
      ·replace hq149 := iteT hc165 hq149
       refine W.skip ?_
       refine W.seq ?_
       refine W.block ?_
       refine W.seq (W.region ?_)
       refine WL.vS hS hE (runs_plain rfl) (Gives.p hE rfl) rfl ?_; clear hE a; intro a hE
       refine WL.vS hS hE (runs_plain rfl) (Gives.p hE rfl) rfl ?_; clear hE a; intro a hE
       refine WL.nil ?_
       refine W.seq (W.region ?_)
       replace hS := hS.vecNil 3 1
       refine WL.vS hS hE (runs_plain rfl) (Gives.p hE rfl) rfl ?_; clear hE a; intro a hE
       refine WL.nil ?_
       refine W.seq ?_
       refine W.seq (W.region ?_)
       refine WL.vS hS hE (runs_plain rfl) (Gives.p hE rfl) rfl ?_; clear hE a; intro a hE
       refine WL.vS hS hE (runs_plain rfl) (Gives.len hE rfl sl44) rfl ?_; clear hE a; intro a hE
       refine WL.vS hS hE (runs_plain rfl) (Gives.p hE rfl) rfl ?_; clear hE a; intro a hE
       refine WL.nil ?_
       have hb178 : q72.length ≤ 9223372036854775807 := by have := hS.vecCap 2 rfl; unfold maxLen at this; omega
       obtain ⟨q168, hq167, hq149⟩ := bindS hq149
       refine W.cut (fun a w => ∃ (q179 : List Int), ∃ (a180 : Option Addr), ∃ (c181 : Nat), ∃ (n183 : Nat), ∃ (cs184 : List Value), q179 = q168 ∧ Ev 1 (RI .i64) s cs184 q179 ∧ q179.length = n183 ∧ Rep a 103 [(0, .slice a0 x0.length c0), (1, .slice a1 x1.length c1), (6, .pointer (some ⟨b51, 0, none⟩)), (7, .pointer (some ⟨b52, 0, none⟩)), (10, .slice a73 q72.length c74), (12, .int .i64 q134), (13, .slice a156 q155.length c157), (14, .bool q162), (16, .slice a180 n183 c181), (49, .int .i64 (w64 (((q72.length : Nat) : Int) + 1))), (50, .int .i64 q134), (55, .int .i64 (IntKind.wrap .i64 (1 * (2 ^ (min (Int.toNat ((q72.length : Nat) : Int)) (IntKind.bits .i64)))))), (56, .int .i64 q163)] ∧ St w s (vecC 3 1 a180 c181 n183 cs184 :: vecC 3 1 a156 c157 q155.length cs160 :: vecC 3 1 a73 c74 q72.length cs77 :: pt b52 (.cells (FleetShop.cells x3).toArray 35 (0, 0)) :: pt b51 (.cells (FleetSet.cells x2).toArray 84 (0, 0)) :: R)) ?_ ?_
       ·refine W.block ?_
        refine W.loop (fun m a w => ∃ (rest171 : Nat) (k169 : Nat), ∃ (q179 : List Int), ∃ (a180 : Option Addr), ∃ (c181 : Nat), ∃ (n183 : Nat), ∃ (cs184 : List Value), rest171 = m ∧ k169 + rest171 = q72.length ∧ Fishref2positions.loop7 q72 q163 rest171 k169 q179 = some q168 ∧ Ev 1 (RI .i64) s cs184 q179 ∧ q179.length = n183 ∧ Rep a 103 [(0, .slice a0 x0.length c0), (1, .slice a1 x1.length c1), (6, .pointer (some ⟨b51, 0, none⟩)), (7, .pointer (some ⟨b52, 0, none⟩)), (10, .slice a73 q72.length c74), (12, .int .i64 q134), (13, .slice a156 q155.length c157), (14, .bool q162), (15, .int .i64 q163), (16, .slice a180 n183 c181), (49, .int .i64 (w64 (((q72.length : Nat) : Int) + 1))), (50, .int .i64 q134), (55, .int .i64 (IntKind.wrap .i64 (1 * (2 ^ (min (Int.toNat ((q72.length : Nat) : Int)) (IntKind.bits .i64)))))), (56, .int .i64 q163), (59, .slice a73 q72.length c74), (60, .int .i64 ((q72.length : Nat) : Int)), (61, .int .i64 ((k169 : Nat) : Int))] ∧ St w s (vecC 3 1 a180 c181 n183 cs184 :: vecC 3 1 a156 c157 q155.length cs160 :: vecC 3 1 a73 c74 q72.length cs77 :: pt b52 (.cells (FleetShop.cells x3).toArray 35 (0, 0)) :: pt b51 (.cells (FleetSet.cells x2).toArray 84 (0, 0)) :: R)) (m := q72.length) ⟨q72.length, 0, [], none, 0, 0, [], rfl, by omega, hq167, (Ev.nil), (rfl), hE.pick _ ⟨rfl, rfl, rfl, rfl, rfl, rfl, rfl, rfl, rfl, rfl, rfl, rfl, rfl, rfl, rfl, rfl, rfl, trivial⟩, hS⟩ ?_
        clear hE hS a w hq167; rintro m175 a w ⟨rest171, k169, q179, a180, c181, n183, cs184, rfl, hd172, hq167, h182, rfl, hE, hS⟩
        refine W.gen fun K186 hK186 => ?_
        rcases rest171 with _ | rest171
        ·skip
         refine W.seq (W.region ?_)
         refine WL.vS hS hE (runs_plain rfl) (Gives.p hE rfl) rfl ?_; clear hE a; intro a hE
         refine WL.nil ?_
         refine W.seq ?_
         refine W.condF hE rfl (decide_eq_false (by omega)) ?_
         subst hK186
         refine W.exit rfl ?_
         exact ⟨q179, a180, c181, q179.length, cs184, Option.some.inj hq167, h182, rfl, hE.pick _ ⟨rfl, rfl, rfl, rfl, rfl, rfl, rfl, rfl, rfl, rfl, rfl, rfl, rfl, trivial⟩, hS⟩
        ·have hlt173 : k169 < q72.length := by omega
         rw [Fishref2positions.loop7] at hq167
         refine W.seq (W.region ?_)
         refine WL.vS hS hE (runs_plain rfl) (Gives.p hE rfl) rfl ?_; clear hE a; intro a hE
         refine WL.nil ?_
         refine W.seq ?_
         refine W.condT hE rfl (decide_eq_true (by omega)) ?_
         refine W.skip ?_
         refine W.seq ?_
         refine W.block ?_
         refine W.seq (W.region ?_)
         refine WL.vS hS hE (runs_plain rfl) (Gives.p hE rfl) rfl ?_; clear hE a; intro a hE
         obtain ⟨x187, hx188, hq167⟩ := bindS hq167
         obtain ⟨hi189, hlt190, hy191⟩ := gx_some hx188
         obtain ⟨vs192, hl193, hR194, hd195, hget196⟩ := h75.at hy191
         subst hR194
         refine WL.vS hS hE (runs_plain rfl) (Gives.idx hE ((((k169 : Nat) : Int)).toNat) rfl rfl sl44 hi189 (by omega) (hS.vecAok 2 rfl (by omega : (((k169 : Nat) : Int)).toNat < q72.length))) rfl ?_; clear hE a; intro a hE
         refine WL.vS hS hE (runs_plain rfl) (Gives.load1 hE rfl (fun w h => St.vecSees h 2 rfl ((((k169 : Nat) : Int)).toNat * 1) _ hget196) ty3) rfl ?_; clear hE a; intro a hE
         refine WL.vS hS hE (runs_plain rfl) (Gives.p hE rfl) rfl ?_; clear hE a; intro a hE
         refine WL.vS hS hE (runs_plain rfl) (Gives.p hE rfl) rfl ?_; clear hE a; intro a hE
         refine WL.nil ?_
         refine W.seq (W.region ?_)
         refine WL.vS hS hE (runs_plain rfl) (Gives.p hE rfl) rfl ?_; clear hE a; intro a hE
         refine WL.vS hS hE (runs_plain rfl) (Gives.p hE rfl) rfl ?_; clear hE a; intro a hE
         refine WL.vS hS hE (runs_plain rfl) (Gives.shr hE rfl rfl (by omega)) rfl ?_; clear hE a; intro a hE
         refine WL.vS hS hE (runs_plain rfl) (Gives.p hE rfl) rfl ?_; clear hE a; intro a hE
         refine WL.vS hS hE (runs_plain rfl) (Gives.p hE rfl) rfl ?_; clear hE a; intro a hE
         refine WL.nil ?_
         obtain ⟨q198, hq197, hq167⟩ := bindS hq167
         refine W.cut (fun a w => ∃ (q201 : List Int), ∃ (a202 : Option Addr), ∃ (c203 : Nat), ∃ (n205 : Nat), ∃ (cs206 : List Value), q201 = q198 ∧ Ev 1 (RI .i64) s cs206 q201 ∧ q201.length = n205 ∧ Rep a 103 [(0, .slice a0 x0.length c0), (1, .slice a1 x1.length c1), (6, .pointer (some ⟨b51, 0, none⟩)), (7, .pointer (some ⟨b52, 0, none⟩)), (10, .slice a73 q72.length c74), (12, .int .i64 q134), (13, .slice a156 q155.length c157), (14, .bool q162), (15, .int .i64 q163), (16, .slice a202 n205 c203), (49, .int .i64 (w64 (((q72.length : Nat) : Int) + 1))), (50, .int .i64 q134), (55, .int .i64 (IntKind.wrap .i64 (1 * (2 ^ (min (Int.toNat ((q72.length : Nat) : Int)) (IntKind.bits .i64)))))), (56, .int .i64 q163), (59, .slice a73 q72.length c74), (60, .int .i64 ((q72.length : Nat) : Int)), (61, .int .i64 ((k169 : Nat) : Int))] ∧ St w s (vecC 3 1 a202 c203 n205 cs206 :: vecC 3 1 a156 c157 q155.length cs160 :: vecC 3 1 a73 c74 q72.length cs77 :: pt b52 (.cells (FleetShop.cells x3).toArray 35 (0, 0)) :: pt b51 (.cells (FleetSet.cells x2).toArray 84 (0, 0)) :: R)) ?_ ?_
         ·refine W.gen fun K208 hK208 => ?_
          refine W.cond hE rfl (fun hc209 => ?_) (fun hc209 => ?_)
          ·replace hq197 := iteT hc209 hq197
           refine W.region ?_
           refine WL.vS hS hE (runs_plain rfl) (Gives.p hE rfl) rfl ?_; clear hE a; intro a hE
           refine WL.vS hS hE (runs_plain rfl) (Gives.p hE rfl) rfl ?_; clear hE a; intro a hE
           refine WL.lit hE hS (e := 3) (es := 1) (vs := [(0, .int .i64 x187)]) (cs := [.int .i64 x187]) (runs_plain rfl) rfl (by kernel_rfl) rfl ?_; clear hE hS a w; intro b210 a w hE hS
           obtain ⟨x211, hx212, hq197⟩ := bindS hq197
           refine WL.appD hE hS 0 (m := 1) (runs_plain rfl) rfl rfl rfl ap44 rfl h182 rfl (xs := [x187]) (Ev.cons (c1 := [.int .i64 x187]) rfl rfl (Ev.nil)) rfl rfl hx212 rfl ?_; clear hE hS a w; intro a213 c214 cs215 a w h216 hE hS
           refine WL.vS hS hE (runs_plain rfl) (Gives.p hE rfl) rfl ?_; clear hE a; intro a hE
           refine WL.nil ?_
           subst hK208
           exact ⟨x211, a213, c214, x211.length, cs215, Option.some.inj hq197, h216, (rfl), hE.pick _ ⟨rfl, rfl, rfl, rfl, rfl, rfl, rfl, rfl, rfl, rfl, rfl, rfl, rfl, rfl, rfl, rfl, rfl, trivial⟩, hS⟩
          ·replace hq197 := iteF hc209 hq197
           refine W.skip ?_
           subst hK208
           exact ⟨q179, a180, c181, q179.length, cs184, Option.some.inj hq197, h182, rfl, hE.pick _ ⟨rfl, rfl, rfl, rfl, rfl, rfl, rfl, rfl, rfl, rfl, rfl, rfl, rfl, rfl, rfl, rfl, rfl, trivial⟩, hS⟩
         ·clear hE hS a w; rintro a w ⟨q201, a202, c203, n205, cs206, rfl, h204, rfl, hE, hS⟩
          refine W.region ?_
          refine WL.vS hS hE (runs_plain rfl) (Gives.inc hE rfl (by omega)) rfl ?_; clear hE a; intro a hE
          refine WL.vS hS hE (runs_plain rfl) (Gives.p hE rfl) rfl ?_; clear hE a; intro a hE
          refine WL.nil ?_
          subst hK186
          exact ⟨rest171, Nat.lt_succ_self _, rest171, k169 + 1, q201, a202, c203, q201.length, cs206, rfl, (by omega), hq167, h204, rfl, hE.pick _ ⟨rfl, rfl, rfl, rfl, rfl, rfl, rfl, rfl, rfl, rfl, rfl, rfl, rfl, rfl, rfl, rfl, rfl, trivial⟩, hS⟩
       ·clear hE hS a w; rintro a w ⟨q179, a180, c181, n183, cs184, rfl, h182, rfl, hE, hS⟩
        refine W.seq ?_
        obtain ⟨q218, hq217, hq149⟩ := bindS hq149
        refine W.cut (fun a w => ∃ (q221 : Bool), q221 = q218 ∧ Rep a 103 [(0, .slice a0 x0.length c0), (1, .slice a1 x1.length c1), (6, .pointer (some ⟨b51, 0, none⟩)), (7, .pointer (some ⟨b52, 0, none⟩)), (10, .slice a73 q72.length c74), (12, .int .i64 q134), (13, .slice a156 q155.length c157), (14, .bool q162), (16, .slice a180 q179.length c181), (49, .int .i64 (w64 (((q72.length : Nat) : Int) + 1))), (50, .int .i64 q134), (55, .int .i64 (IntKind.wrap .i64 (1 * (2 ^ (min (Int.toNat ((q72.length : Nat) : Int)) (IntKind.bits .i64)))))), (56, .int .i64 q163), (97, .bool q221)] ∧ St w s (vecC 3 1 a180 c181 q179.length cs184 :: vecC 3 1 a156 c157 q155.length cs160 :: vecC 3 1 a73 c74 q72.length cs77 :: pt b52 (.cells (FleetShop.cells x3).toArray 35 (0, 0)) :: pt b51 (.cells (FleetSet.cells x2).toArray 84 (0, 0)) :: R)) ?_ ?_
        ·refine W.gen fun K222 hK222 => ?_
         refine W.region ?_
         refine WL.vS hS hE (runs_plain rfl) (Gives.p hE rfl) rfl ?_; clear hE a; intro a hE
         refine WL.vS hS hE (runs_plain rfl) (Gives.len hE rfl sl44) rfl ?_; clear hE a; intro a hE
         refine WL.vS hS hE (runs_plain rfl) (Gives.p hE rfl) rfl ?_; clear hE a; intro a hE
         refine WL.vS hS hE (runs_plain rfl) (Gives.p hE rfl) rfl ?_; clear hE a; intro a hE
         refine WL.vS hS hE (runs_plain rfl) (Gives.p hE rfl) rfl ?_; clear hE a; intro a hE
         rcases Bool.eq_false_or_eq_true (((q179.length : Nat) : Int) == q134) with hg223 | hg223
         ·replace hq217 := iteT hg223 hq217
          refine WL.vS hS hE (runs_if hE rfl rfl rfl hg223) (Gives.p hE rfl) rfl ?_; clear hE a; intro a hE
          refine WL.vS hS hE (runs_if hE rfl rfl rfl hg223) (Gives.p hE rfl) rfl ?_; clear hE a; intro a hE
          refine WL.vS hS hE (runs_if hE rfl rfl rfl hg223) (Gives.loadBA hE 4 rfl rfl ty84) rfl ?_; clear hE a; intro a hE
          refine WL.vS hS hE (runs_if hE rfl rfl rfl hg223) (Gives.loadBA hE 3 rfl rfl ty35) rfl ?_; clear hE a; intro a hE
          refine WL.vS hS hE (runs_if hE rfl rfl rfl hg223) (Gives.p hE rfl) rfl ?_; clear hE a; intro a hE
          obtain ⟨q224, hq225, hq217⟩ := bindS hq217
          have hF := hS.lendV RI.mono 0 rfl h182 rfl; clear hS; obtain ⟨t226, hle227, hS, hs228, bk229⟩ := hF
          have hc_ := Fishref2kept_ok hS (Sl.mono RFleetTask.mono hle227 h0) (Sl.mono RI.mono hle227 h1) hs228 hq225
          refine WL.fnq hE (hc_) (runs_if hE rfl rfl rfl hg223) bd102 rfl rfl rfl ?_
          clear hE hS hc_; rintro e w ⟨rfl, hS⟩; refine ⟨_, rfl, ?_⟩; clear a; intro a hE
          replace hS := bk229 _ _ hS
          refine WL.vS hS hE (runs_plain rfl) (Gives.pickT hE rfl hg223 rfl) rfl ?_; clear hE a; intro a hE
          refine WL.vS hS hE (runs_plain rfl) (Gives.p hE rfl) rfl ?_; clear hE a; intro a hE
          rcases Bool.eq_false_or_eq_true q224 with hg230 | hg230
          ·replace hq217 := iteT hg230 hq217
           refine WL.vS hS hE (runs_if hE rfl rfl rfl hg230) (Gives.p hE rfl) rfl ?_; clear hE a; intro a hE
           refine WL.vS hS hE (runs_if hE rfl rfl rfl hg230) (Gives.p hE rfl) rfl ?_; clear hE a; intro a hE
           refine WL.vS hS hE (runs_if hE rfl rfl rfl hg230) (Gives.p hE rfl) rfl ?_; clear hE a; intro a hE
           rcases Bool.eq_false_or_eq_true !q162 with hg231 | hg231
           ·replace hq217 := iteT hg231 hq217
            refine WL.no hE (runs_not hE rfl rfl rfl (by rw [hg231]; decide)) rfl ?_; clear hE a; intro a hE
            refine WL.no hE (runs_not hE rfl rfl rfl (by rw [hg231]; decide)) rfl ?_; clear hE a; intro a hE
            refine WL.no hE (runs_not hE rfl rfl rfl (by rw [hg231]; decide)) rfl ?_; clear hE a; intro a hE
            refine WL.no hE (runs_not hE rfl rfl rfl (by rw [hg231]; decide)) rfl ?_; clear hE a; intro a hE
            refine WL.vS hS hE (runs_if hE rfl rfl rfl hg230) (Gives.pickT hE rfl hg231 rfl) rfl ?_; clear hE a; intro a hE
            refine WL.vS hS hE (runs_plain rfl) (Gives.pickT hE rfl hg230 rfl) rfl ?_; clear hE a; intro a hE
            refine WL.nil ?_
            subst hK222
            exact ⟨true, Option.some.inj hq217, hE.pick _ ⟨rfl, rfl, rfl, rfl, rfl, rfl, rfl, rfl, rfl, rfl, rfl, rfl, rfl, rfl, trivial⟩, hS⟩
           ·replace hq217 := iteF hg231 hq217
            refine WL.vS hS hE (runs_if hE rfl rfl rfl hg231) (Gives.p hE rfl) rfl ?_; clear hE a; intro a hE
            refine WL.vS hS hE (runs_if hE rfl rfl rfl hg231) (Gives.p hE rfl) rfl ?_; clear hE a; intro a hE
            obtain ⟨q232, hq233, hq217⟩ := bindS hq217
            have hF := hS.lendV RI.mono 0 rfl h182 rfl; clear hS; obtain ⟨t234, hle235, hS, hs236, bk237⟩ := hF
            have hF := hS.lendV RI.mono 0 rfl (Ev.mono RI.mono hle235 h158) rfl; clear hS; obtain ⟨t238, hle239, hS, hs240, bk241⟩ := hF
            have hc_ := SlicesCompareLint_ok hS (Sl.mono RI.mono hle239 hs236) hs240 hq233
            refine WL.fnq hE (hc_) (runs_if hE rfl rfl rfl hg231) bd85 rfl rfl rfl ?_
            clear hE hS hc_; rintro e w ⟨rfl, hS⟩; refine ⟨_, rfl, ?_⟩; clear a; intro a hE
            replace hS := bk241 _ _ hS
            replace hS := bk237 _ _ hS
            refine WL.vS hS hE (runs_if hE rfl rfl rfl hg231) (Gives.p hE rfl) rfl ?_; clear hE a; intro a hE
            refine WL.vS hS hE (runs_if hE rfl rfl rfl hg230) (Gives.pickF hE rfl hg231 rfl) rfl ?_; clear hE a; intro a hE
            refine WL.vS hS hE (runs_plain rfl) (Gives.pickT hE rfl hg230 rfl) rfl ?_; clear hE a; intro a hE
            refine WL.nil ?_
            subst hK222
            exact ⟨decide (q232 > 0), Option.some.inj hq217, hE.pick _ ⟨rfl, rfl, rfl, rfl, rfl, rfl, rfl, rfl, rfl, rfl, rfl, rfl, rfl, rfl, trivial⟩, hS⟩
          ·replace hq217 := iteF hg230 hq217
           refine WL.no hE (runs_not hE rfl rfl rfl (by rw [hg230]; decide)) rfl ?_; clear hE a; intro a hE
           refine WL.no hE (runs_not hE rfl rfl rfl (by rw [hg230]; decide)) rfl ?_; clear hE a; intro a hE
           refine WL.no hE (runs_not hE rfl rfl rfl (by rw [hg230]; decide)) rfl ?_; clear hE a; intro a hE
           refine WL.no hE (runs_undef hE rfl rfl rfl) rfl ?_; clear hE a; intro a hE
           refine WL.no hE (runs_undef hE rfl rfl rfl) rfl ?_; clear hE a; intro a hE
           refine WL.no hE (runs_undef hE rfl rfl rfl) rfl ?_; clear hE a; intro a hE
           refine WL.no hE (runs_undef hE rfl rfl rfl) rfl ?_; clear hE a; intro a hE
           refine WL.no hE (runs_not hE rfl rfl rfl (by rw [hg230]; decide)) rfl ?_; clear hE a; intro a hE
           refine WL.vS hS hE (runs_plain rfl) (Gives.pickF hE rfl hg230 rfl) rfl ?_; clear hE a; intro a hE
           refine WL.nil ?_
           subst hK222
           exact ⟨false, Option.some.inj hq217, hE.pick _ ⟨rfl, rfl, rfl, rfl, rfl, rfl, rfl, rfl, rfl, rfl, rfl, rfl, rfl, rfl, trivial⟩, hS⟩
         ·replace hq217 := iteF hg223 hq217
          refine WL.no hE (runs_not hE rfl rfl rfl (by rw [hg223]; decide)) rfl ?_; clear hE a; intro a hE
          refine WL.no hE (runs_not hE rfl rfl rfl (by rw [hg223]; decide)) rfl ?_; clear hE a; intro a hE
          refine WL.no hE (runs_not hE rfl rfl rfl (by rw [hg223]; decide)) rfl ?_; clear hE a; intro a hE
          refine WL.no hE (runs_not hE rfl rfl rfl (by rw [hg223]; decide)) rfl ?_; clear hE a; intro a hE
          refine WL.no hE (runs_not hE rfl rfl rfl (by rw [hg223]; decide)) rfl ?_; clear hE a; intro a hE
          refine WL.no hE (runs_not hE rfl rfl rfl (by rw [hg223]; decide)) rfl ?_; clear hE a; intro a hE
          refine WL.vS hS hE (runs_plain rfl) (Gives.pickF hE rfl hg223 rfl) rfl ?_; clear hE a; intro a hE
          refine WL.vS hS hE (runs_plain rfl) (Gives.p hE rfl) rfl ?_; clear hE a; intro a hE
          refine WL.no hE (runs_not hE rfl rfl rfl (by decide)) rfl ?_; clear hE a; intro a hE
          refine WL.no hE (runs_not hE rfl rfl rfl (by decide)) rfl ?_; clear hE a; intro a hE
          refine WL.no hE (runs_not hE rfl rfl rfl (by decide)) rfl ?_; clear hE a; intro a hE
          refine WL.no hE (runs_undef hE rfl rfl rfl) rfl ?_; clear hE a; intro a hE
          refine WL.no hE (runs_undef hE rfl rfl rfl) rfl ?_; clear hE a; intro a hE
          refine WL.no hE (runs_undef hE rfl rfl rfl) rfl ?_; clear hE a; intro a hE
          refine WL.no hE (runs_undef hE rfl rfl rfl) rfl ?_; clear hE a; intro a hE
          refine WL.no hE (runs_not hE rfl rfl rfl (by decide)) rfl ?_; clear hE a; intro a hE
          refine WL.vS hS hE (runs_plain rfl) (Gives.pickF hE rfl rfl rfl) rfl ?_; clear hE a; intro a hE
          refine WL.nil ?_
          subst hK222
          exact ⟨false, Option.some.inj hq217, hE.pick _ ⟨rfl, rfl, rfl, rfl, rfl, rfl, rfl, rfl, rfl, rfl, rfl, rfl, rfl, rfl, trivial⟩, hS⟩
        ·clear hE hS a w; rintro a w ⟨q221, rfl, hE, hS⟩
         obtain ⟨q243, hq242, hq149⟩ := bndS hq149
         refine W.cut (fun a w => ∃ (q246 : List Int), ∃ (q253 : Bool), ∃ (a247 : Option Addr), ∃ (c248 : Nat), ∃ (n250 : Nat), ∃ (cs251 : List Value), (q246, q253) = q243 ∧ Ev 1 (RI .i64) s cs251 q246 ∧ q246.length = n250 ∧ Rep a 103 [(0, .slice a0 x0.length c0), (1, .slice a1 x1.length c1), (6, .pointer (some ⟨b51, 0, none⟩)), (7, .pointer (some ⟨b52, 0, none⟩)), (10, .slice a73 q72.length c74), (12, .int .i64 q134), (13, .slice a247 n250 c248), (14, .bool q253), (49, .int .i64 (w64 (((q72.length : Nat) : Int) + 1))), (50, .int .i64 q134), (55, .int .i64 (IntKind.wrap .i64 (1 * (2 ^ (min (Int.toNat ((q72.length : Nat) : Int)) (IntKind.bits .i64)))))), (56, .int .i64 q163)] ∧ St w s (vecC 3 1 a247 c248 n250 cs251 :: vecC 3 1 a73 c74 q72.length cs77 :: pt b52 (.cells (FleetShop.cells x3).toArray 35 (0, 0)) :: pt b51 (.cells (FleetSet.cells x2).toArray 84 (0, 0)) :: R)) ?_ ?_
         ·refine W.gen fun K254 hK254 => ?_
          refine W.cond hE rfl (fun hc255 => ?_) (fun hc255 => ?_)
          ·replace hq242 := iteT hc255 hq242
           refine W.region ?_
           refine WL.vS hS hE (runs_plain rfl) (Gives.p hE rfl) rfl ?_; clear hE a; intro a hE
           refine WL.vS hS hE (runs_plain rfl) (Gives.p hE rfl) rfl ?_; clear hE a; intro a hE
           refine WL.vS hS hE (runs_plain rfl) (Gives.p hE rfl) rfl ?_; clear hE a; intro a hE
           refine WL.nil ?_
           replace hS := hS.dropAt 1
           subst hK254
           exact ⟨q179, true, a180, c181, q179.length, cs184, hq242, h182, rfl, hE.pick _ ⟨rfl, rfl, rfl, rfl, rfl, rfl, rfl, rfl, rfl, rfl, rfl, rfl, trivial⟩, hS⟩
          ·replace hq242 := iteF hc255 hq242
           refine W.skip ?_
           replace hS := hS.tail
           subst hK254
           exact ⟨q155, q162, a156, c157, q155.length, cs160, hq242, h158, rfl, hE.pick _ ⟨rfl, rfl, rfl, rfl, rfl, rfl, rfl, rfl, rfl, rfl, rfl, rfl, trivial⟩, hS⟩
         ·clear hE hS a w; rintro a w ⟨q246, q253, a247, c248, n250, cs251, rfl, h249, rfl, hE, hS⟩
          dsimp only at hq149
          refine W.region ?_
          refine WL.vS hS hE (runs_plain rfl) (Gives.p hE rfl) rfl ?_; clear hE a; intro a hE
          refine WL.vS hS hE (runs_plain rfl) (Gives.p hE rfl) rfl ?_; clear hE a; intro a hE
          refine WL.nil ?_
          subst hK164
          exact ⟨n151, Nat.lt_succ_self _, n151, q246, q253, (w64 (q163 + 1)), a247, c248, q246.length, cs251, rfl, hq149, h249, rfl, hE.pick _ ⟨rfl, rfl, rfl, rfl, rfl, rfl, rfl, rfl, rfl, rfl, rfl, rfl, trivial⟩, hS⟩
      ·replace hq149 := iteF hc165 hq149
       subst hK164
       refine W.exit rfl ?_
       exact ⟨q155, q162, q163, a156, c157, q155.length, cs160, Option.some.inj hq149, h158, rfl, hE.pick _ ⟨rfl, rfl, rfl, rfl, rfl, rfl, rfl, rfl, rfl, trivial⟩, hS⟩
     ·clear hE hS a w; rintro a w ⟨q155, q162, q163, a156, c157, n159, cs160, rfl, h158, rfl, hE, hS⟩
      dsimp only at hq128
      refine W.seq (W.region ?_)
      refine WL.vS hS hE (runs_plain rfl) (Gives.p hE rfl) rfl ?_; clear hE a; intro a hE
      refine WL.nil ?_
      refine W.cond hE rfl (fun hc256 => ?_) (fun hc256 => ?_)
      ·replace hq128 := iteT hc256 hq128
       refine W.seq (W.region ?_)
       refine WL.vS hS hE (runs_plain rfl) (Gives.p hE rfl) rfl ?_; clear hE a; intro a hE
       refine WL.vS hS hE (runs_plain rfl) (Gives.p hE rfl) rfl ?_; clear hE a; intro a hE
       refine WL.vS hS hE (runs_plain rfl) (Gives.p hE rfl) rfl ?_; clear hE a; intro a hE
       refine WL.nil ?_
       refine W.ret ?_
       subst hK135
       rw [← Option.some.inj hq128] at hr
       dsimp only at hr
       refine finG (fn := Try.f59) (rs := [.tmp 8, .tmp 9]) (vs := [_, _]) hE rfl ⟨rfl, rfl, trivial⟩ ?_
       obtain rfl := Option.some.inj hr
       replace hS := hS.dropAt 1
       replace hS := hS.dropAt 1
       replace hS := hS.dropAt 1
       exact ⟨a156, c157, q155.length, cs160, rfl, h158, rfl, hS⟩
      ·replace hq128 := iteF hc256 hq128
       refine W.skip ?_
       refine W.region ?_
       refine WL.vS hS hE (runs_plain rfl) (Gives.p hE rfl) rfl ?_; clear hE a; intro a hE
       refine WL.vS hS hE (runs_plain rfl) (Gives.p hE rfl) rfl ?_; clear hE a; intro a hE
       refine WL.nil ?_
       replace hS := hS.tail
       subst hK135
       exact ⟨n130, Nat.lt_succ_self _, n130, (w64 (q134 + 1)), rfl, hq128, hE.pick _ ⟨rfl, rfl, rfl, rfl, rfl, rfl, rfl, trivial⟩, hS⟩
    ·replace hq128 := iteF hc136 hq128
     subst hK135
     refine W.exit rfl ?_
     exact ⟨q134, Option.some.inj hq128, hE.pick _ trivial, hS⟩
   ·clear hE hS a w; rintro a w ⟨q134, rfl, hE, hS⟩
    dsimp only at hr
    refine W.seq (W.region ?_)
    replace hS := hS.vecNil 3 1
    refine WL.vS hS hE (runs_plain rfl) (Gives.p hE rfl) rfl ?_; clear hE a; intro a hE
    refine WL.vS hS hE (runs_plain rfl) (Gives.p hE rfl) rfl ?_; clear hE a; intro a hE
    refine WL.nil ?_
    refine W.ret ?_
    refine finG (fn := Try.f59) (rs := [.tmp 8, .tmp 9]) (vs := [_, _]) hE rfl ⟨rfl, rfl, trivial⟩ ?_
    obtain rfl := Option.some.inj hr
    replace hS := hS.dropAt 1
    replace hS := hS.dropAt 1
    replace hS := hS.dropAt 1
    exact ⟨none, 0, 0, [], rfl, (Ev.nil), (rfl), hS⟩
set_option maxHeartbeats 8000000 in
theorem Fishref2InspectOf_ok {fu : Nat}  {w : World} {s : Sg} {R : List HP} {x0 : List FleetTask} {a0 : Option Addr} {c0 : Nat} {x1 : List (List Int)} {a1 : Option Addr} {c1 : Nat} {x2 : List FleetSet} {a2 : Option Addr} {c2 : Nat} {x3 : FleetShop} {x4 : Int} (hS : St w s (R)) (h0 : Sl 6 RFleetTask s a0 c0 x0) (h1 : Sl 1 (RL 1 (RI .i64)) s a1 c1 x1) (h2 : Sl 2 RFleetSet s a2 c2 x2) {r : (List (List Int)) × Int} (hr : Fishref2InspectOf fu x0 x1 x2 x3 x4 = some r) :
  Calls Try.prog 16 [.slice a0 x0.length c0, .slice a1 x1.length c1, .slice a2 x2.length c2, .agg (FleetShop.cells x3).toArray, .int .i64 x4].toArray w (fun e w => ∃ (a0 : Option Addr) (c0 n0 : Nat) (cs0 : List Value) (t : Sg), e = .returned (.tuple #[.slice a0 n0 c0, .int .i64 r.2]) ∧ s.Le t ∧ Ev 1 (RL 1 (RI .i64)) t cs0 r.1 ∧ r.1.length = n0 ∧ St w t (vecC 44 1 a0 c0 n0 cs0 :: R)) := by
 refine enter Try.func16 rfl rfl rfl fun a hE => ?_
 rw [Fishref2InspectOf] at hr
 refine W.seq (W.region ?_)
 refine WL.box hE hS (runs_plain rfl) rfl rfl rfl ?_; clear hE hS a w; intro b51 a w hE hS
 refine WL.vS hS hE (runs_plain rfl) (Gives.p hE rfl) rfl ?_; clear hE a; intro a hE
 refine WL.vS hS hE (runs_plain rfl) (Gives.p hE rfl) rfl ?_; clear hE a; intro a hE
 refine WL.nil ?_
 refine W.seq ?_
 refine W.seq (W.region ?_)
 refine WL.vS hS hE (runs_plain rfl) (Gives.p hE rfl) rfl ?_; clear hE a; intro a hE
 refine WL.vS hS hE (runs_plain rfl) (Gives.loadBA hE 0 rfl rfl ty35) rfl ?_; clear hE a; intro a hE
 refine WL.vS hS hE (runs_plain rfl) (Gives.p hE rfl) rfl ?_; clear hE a; intro a hE
 refine WL.fnq hE (Fishref2SetsFault_ok hS h2 rfl (r := Fishref2SetsFault x2 x3 x4)) (runs_plain rfl) bd58 rfl rfl rfl ?_
 clear hE hS; rintro e w ⟨rfl, hS⟩; refine ⟨_, rfl, ?_⟩; clear a; intro a hE
 refine WL.vS hS hE (runs_plain rfl) (Gives.p hE rfl) rfl ?_; clear hE a; intro a hE
 refine WL.nil ?_
 refine W.seq (W.region ?_)
 refine WL.vS hS hE (runs_plain rfl) (Gives.p hE rfl) rfl ?_; clear hE a; intro a hE
 refine WL.vS hS hE (runs_plain rfl) (Gives.p hE rfl) rfl ?_; clear hE a; intro a hE
 refine WL.nil ?_
 refine W.cond hE rfl (fun hc52 => ?_) (fun hc52 => ?_)
 ·replace hr := iteT hc52 hr
  refine W.seq (W.region ?_)
  refine WL.vS hS hE (runs_plain rfl) (Gives.p hE rfl) rfl ?_; clear hE a; intro a hE
  refine WL.vS hS hE (runs_plain rfl) (Gives.p hE rfl) rfl ?_; clear hE a; intro a hE
  refine WL.vS hS hE (runs_plain rfl) (Gives.p hE rfl) rfl ?_; clear hE a; intro a hE
  refine WL.nil ?_
  refine W.ret ?_
  replace hS := hS.vecNil 44 1
  refine finG (fn := Try.f16) (rs := [.tmp 10, .tmp 11]) (vs := [_, _]) hE rfl ⟨rfl, rfl, trivial⟩ ?_
  obtain rfl := Option.some.inj hr
  replace hS := hS.dropAt 1
  exact ⟨none, 0, 0, [], s, rfl, (Sg.Le.refl _), (Ev.nil), (rfl), hS⟩
 ·replace hr := iteF hc52 hr
  refine W.skip ?_
  refine W.seq ?_
  refine W.seq (W.region ?_)
  refine WL.vS hS hE (runs_plain rfl) (Gives.p hE rfl) rfl ?_; clear hE a; intro a hE
  refine WL.vS hS hE (runs_plain rfl) (Gives.len hE rfl sl25) rfl ?_; clear hE a; intro a hE
  refine WL.vS hS hE (runs_plain rfl) (Gives.p hE rfl) rfl ?_; clear hE a; intro a hE
  refine WL.vS hS hE (runs_plain rfl) (Gives.len hE rfl sl33) rfl ?_; clear hE a; intro a hE
  refine WL.vS hS hE (runs_plain rfl) (Gives.p hE rfl) rfl ?_; clear hE a; intro a hE
  refine WL.nil ?_
  refine W.cond hE rfl (fun hc54 => ?_) (fun hc54 => ?_)
  ·replace hr := iteT hc54 hr
   refine W.seq (W.region ?_)
   refine WL.vS hS hE (runs_plain rfl) (Gives.p hE rfl) rfl ?_; clear hE a; intro a hE
   refine WL.vS hS hE (runs_plain rfl) (Gives.p hE rfl) rfl ?_; clear hE a; intro a hE
   refine WL.nil ?_
   refine W.ret ?_
   replace hS := hS.vecNil 44 1
   refine finG (fn := Try.f16) (rs := [.tmp 10, .tmp 11]) (vs := [_, _]) hE rfl ⟨rfl, rfl, trivial⟩ ?_
   obtain rfl := Option.some.inj hr
   replace hS := hS.dropAt 1
   exact ⟨none, 0, 0, [], s, rfl, (Sg.Le.refl _), (Ev.nil), (rfl), hS⟩
  ·replace hr := iteF hc54 hr
   refine W.skip ?_
   refine W.seq ?_
   refine W.seq (W.region ?_)
   refine WL.vS hS hE (runs_plain rfl) (Gives.p hE rfl) rfl ?_; clear hE a; intro a hE
   refine WL.vS hS hE (runs_plain rfl) (Gives.len hE rfl sl25) rfl ?_; clear hE a; intro a hE
   refine WL.vS hS hE (runs_plain rfl) (Gives.p hE rfl) rfl ?_; clear hE a; intro a hE
   refine WL.nil ?_
   obtain ⟨q57, hq56, hr⟩ := bindS hr
   refine W.cut (fun a w => (.next ()) = q57 ∧ Rep a 128 [(0, .slice a0 x0.length c0), (1, .slice a1 x1.length c1), (2, .slice a2 x2.length c2), (8, .pointer (some ⟨b51, 0, none⟩))] ∧ St w s (pt b51 (.cells (FleetShop.cells x3).toArray 35 (0, 0)) :: R)) ?_ ?_
   ·refine W.block ?_
    refine W.loop (fun m a w => ∃ (rest60 : List (List Int)) (k58 : Nat), rest60.length = m ∧ x1.drop k58 = rest60 ∧ Fishref2InspectOf.loop1 x0 x2 rest60 k58 = some q57 ∧ Rep a 128 [(0, .slice a0 x0.length c0), (1, .slice a1 x1.length c1), (2, .slice a2 x2.length c2), (8, .pointer (some ⟨b51, 0, none⟩)), (35, .slice a1 x1.length c1), (36, .int .i64 ((x1).length : Int)), (37, .int .i64 ((k58 : Nat) : Int))] ∧ St w s (pt b51 (.cells (FleetShop.cells x3).toArray 35 (0, 0)) :: R)) (m := x1.length) ⟨x1, 0, rfl, rfl, hq56, hE.pick _ ⟨rfl, rfl, rfl, rfl, rfl, rfl, rfl, trivial⟩, hS⟩ ?_
    clear hE hS a w hq56; rintro m64 a w ⟨rest60, k58, rfl, hd61, hq56, hE, hS⟩
    refine W.gen fun K67 hK67 => ?_
    rcases rest60 with _ | ⟨x59, rest60⟩
    ·have hlt62 := drop_nil hd61
     refine W.seq (W.region ?_)
     refine WL.vS hS hE (runs_plain rfl) (Gives.p hE rfl) rfl ?_; clear hE a; intro a hE
     refine WL.nil ?_
     refine W.seq ?_
     refine W.condF hE rfl (decide_eq_false (by omega)) ?_
     subst hK67
     refine W.exit rfl ?_
     exact ⟨Option.some.inj hq56, hE.pick _ ⟨rfl, rfl, rfl, rfl, trivial⟩, hS⟩
    ·obtain ⟨hlt62, hx63, hd61⟩ := drop_cons hd61
     rw [Fishref2InspectOf.loop1] at hq56
     refine W.seq (W.region ?_)
     refine WL.vS hS hE (runs_plain rfl) (Gives.p hE rfl) rfl ?_; clear hE a; intro a hE
     refine WL.nil ?_
     refine W.seq ?_
     refine W.condT hE rfl (decide_eq_true (by omega)) ?_
     refine W.skip ?_
     refine W.seq ?_
     refine W.block ?_
     refine W.seq (W.region ?_)
     refine WL.vS hS hE (runs_plain rfl) (Gives.p hE rfl) rfl ?_; clear hE a; intro a hE
     obtain ⟨cs68, hl69, hR70, hat71⟩ := h1.at hx63
     obtain ⟨a72, c73, rfl, h74⟩ := hR70
     refine WL.vS hS hE (runs_plain rfl) (Gives.idx hE k58 rfl rfl sl25 rfl hlt62 (h1.aok hlt62)) rfl ?_; clear hE a; intro a hE
     refine WL.vS hS hE (runs_plain rfl) (Gives.load1 hE rfl (fun w h => hat71 w _ h) ty44) rfl ?_; clear hE a; intro a hE
     refine WL.vS hS hE (runs_plain rfl) (Gives.p hE rfl) rfl ?_; clear hE a; intro a hE
     refine WL.vS hS hE (runs_plain rfl) (Gives.p hE rfl) rfl ?_; clear hE a; intro a hE
     refine WL.nil ?_
     refine W.seq (W.region ?_)
     refine WL.vS hS hE (runs_plain rfl) (Gives.p hE rfl) rfl ?_; clear hE a; intro a hE
     refine WL.vS hS hE (runs_plain rfl) (Gives.len hE rfl sl44) rfl ?_; clear hE a; intro a hE
     refine WL.vS hS hE (runs_plain rfl) (Gives.p hE rfl) rfl ?_; clear hE a; intro a hE
     refine WL.nil ?_
     obtain ⟨q76, hq75, hq56⟩ := bindS hq56
     refine W.cut (fun a w => (.next ()) = q76 ∧ Rep a 128 [(0, .slice a0 x0.length c0), (1, .slice a1 x1.length c1), (2, .slice a2 x2.length c2), (8, .pointer (some ⟨b51, 0, none⟩)), (35, .slice a1 x1.length c1), (36, .int .i64 ((x1).length : Int)), (37, .int .i64 ((k58 : Nat) : Int))] ∧ St w s (pt b51 (.cells (FleetShop.cells x3).toArray 35 (0, 0)) :: R)) ?_ ?_
     ·refine W.block ?_
      refine W.loop (fun m a w => ∃ (rest79 : List Int) (k77 : Nat), rest79.length = m ∧ x59.drop k77 = rest79 ∧ Fishref2InspectOf.loop2 x0 x2 x59 k58 rest79 k77 = some q76 ∧ Rep a 128 [(0, .slice a0 x0.length c0), (1, .slice a1 x1.length c1), (2, .slice a2 x2.length c2), (8, .pointer (some ⟨b51, 0, none⟩)), (13, .int .i64 ((k58 : Nat) : Int)), (14, .slice a72 x59.length c73), (35, .slice a1 x1.length c1), (36, .int .i64 ((x1).length : Int)), (37, .int .i64 ((k58 : Nat) : Int)), (42, .slice a72 x59.length c73), (43, .int .i64 ((x59).length : Int)), (44, .int .i64 ((k77 : Nat) : Int))] ∧ St w s (pt b51 (.cells (FleetShop.cells x3).toArray 35 (0, 0)) :: R)) (m := x59.length) ⟨x59, 0, rfl, rfl, hq75, hE.pick _ ⟨rfl, rfl, rfl, rfl, rfl, rfl, rfl, rfl, rfl, rfl, rfl, rfl, trivial⟩, hS⟩ ?_
      clear hE hS a w hq75; rintro m83 a w ⟨rest79, k77, rfl, hd80, hq75, hE, hS⟩
      refine W.gen fun K86 hK86 => ?_
      rcases rest79 with _ | ⟨x78, rest79⟩
      ·have hlt81 := drop_nil hd80
       refine W.seq (W.region ?_)
       refine WL.vS hS hE (runs_plain rfl) (Gives.p hE rfl) rfl ?_; clear hE a; intro a hE
       refine WL.nil ?_
       refine W.seq ?_
       refine W.condF hE rfl (decide_eq_false (by omega)) ?_
       subst hK86
       refine W.exit rfl ?_
       exact ⟨Option.some.inj hq75, hE.pick _ ⟨rfl, rfl, rfl, rfl, rfl, rfl, rfl, trivial⟩, hS⟩
      ·obtain ⟨hlt81, hx82, hd80⟩ := drop_cons hd80
       rw [Fishref2InspectOf.loop2] at hq75
       refine W.seq (W.region ?_)
       refine WL.vS hS hE (runs_plain rfl) (Gives.p hE rfl) rfl ?_; clear hE a; intro a hE
       refine WL.nil ?_
       refine W.seq ?_
       refine W.condT hE rfl (decide_eq_true (by omega)) ?_
       refine W.skip ?_
       refine W.seq ?_
       refine W.block ?_
       refine W.seq (W.region ?_)
       refine WL.vS hS hE (runs_plain rfl) (Gives.p hE rfl) rfl ?_; clear hE a; intro a hE
       obtain ⟨cs87, hl88, hR89, hat90⟩ := h74.at hx82
       subst hR89
       refine WL.vS hS hE (runs_plain rfl) (Gives.idx hE k77 rfl rfl sl44 rfl hlt81 (h74.aok hlt81)) rfl ?_; clear hE a; intro a hE
       refine WL.vS hS hE (runs_plain rfl) (Gives.load1 hE rfl (fun w h => hat90 w _ h) ty3) rfl ?_; clear hE a; intro a hE
       refine WL.vS hS hE (runs_plain rfl) (Gives.p hE rfl) rfl ?_; clear hE a; intro a hE
       refine WL.vS hS hE (runs_plain rfl) (Gives.p hE rfl) rfl ?_; clear hE a; intro a hE
       refine WL.nil ?_
       refine W.seq ?_
       refine W.seq ?_
       obtain ⟨q92, hq91, hq75⟩ := bndS hq75
       refine W.cut (fun a w => ∃ (q95 : Bool), q95 = q92 ∧ Rep a 128 [(0, .slice a0 x0.length c0), (1, .slice a1 x1.length c1), (2, .slice a2 x2.length c2), (8, .pointer (some ⟨b51, 0, none⟩)), (13, .int .i64 ((k58 : Nat) : Int)), (14, .slice a72 x59.length c73), (15, .int .i64 ((k77 : Nat) : Int)), (16, .int .i64 x78), (35, .slice a1 x1.length c1), (36, .int .i64 ((x1).length : Int)), (37, .int .i64 ((k58 : Nat) : Int)), (42, .slice a72 x59.length c73), (43, .int .i64 ((x59).length : Int)), (44, .int .i64 ((k77 : Nat) : Int)), (56, .bool q95)] ∧ St w s (pt b51 (.cells (FleetShop.cells x3).toArray 35 (0, 0)) :: R)) ?_ ?_
       ·refine W.gen fun K96 hK96 => ?_
        refine W.region ?_
        refine WL.vS hS hE (runs_plain rfl) (Gives.p hE rfl) rfl ?_; clear hE a; intro a hE
        refine WL.vS hS hE (runs_plain rfl) (Gives.p hE rfl) rfl ?_; clear hE a; intro a hE
        refine WL.vS hS hE (runs_plain rfl) (Gives.p hE rfl) rfl ?_; clear hE a; intro a hE
        rcases Bool.eq_false_or_eq_true (decide (x78 < 0)) with hg97 | hg97
        ·replace hq91 := iteT hg97 hq91
         refine WL.no hE (runs_not hE rfl rfl rfl (by rw [hg97]; decide)) rfl ?_; clear hE a; intro a hE
         refine WL.no hE (runs_not hE rfl rfl rfl (by rw [hg97]; decide)) rfl ?_; clear hE a; intro a hE
         refine WL.no hE (runs_not hE rfl rfl rfl (by rw [hg97]; decide)) rfl ?_; clear hE a; intro a hE
         refine WL.no hE (runs_not hE rfl rfl rfl (by rw [hg97]; decide)) rfl ?_; clear hE a; intro a hE
         refine WL.vS hS hE (runs_plain rfl) (Gives.pickT hE rfl hg97 rfl) rfl ?_; clear hE a; intro a hE
         refine WL.nil ?_
         subst hK96
         exact ⟨true, hq91, hE.pick _ ⟨rfl, rfl, rfl, rfl, rfl, rfl, rfl, rfl, rfl, rfl, rfl, rfl, rfl, rfl, rfl, trivial⟩, hS⟩
        ·replace hq91 := iteF hg97 hq91
         refine WL.vS hS hE (runs_if hE rfl rfl rfl hg97) (Gives.p hE rfl) rfl ?_; clear hE a; intro a hE
         refine WL.vS hS hE (runs_if hE rfl rfl rfl hg97) (Gives.p hE rfl) rfl ?_; clear hE a; intro a hE
         refine WL.vS hS hE (runs_if hE rfl rfl rfl hg97) (Gives.len hE rfl sl32) rfl ?_; clear hE a; intro a hE
         refine WL.vS hS hE (runs_if hE rfl rfl rfl hg97) (Gives.p hE rfl) rfl ?_; clear hE a; intro a hE
         refine WL.vS hS hE (runs_plain rfl) (Gives.pickF hE rfl hg97 rfl) rfl ?_; clear hE a; intro a hE
         refine WL.nil ?_
         subst hK96
         exact ⟨decide (x78 ≥ ((x0).length : Int)), hq91, hE.pick _ ⟨rfl, rfl, rfl, rfl, rfl, rfl, rfl, rfl, rfl, rfl, rfl, rfl, rfl, rfl, rfl, trivial⟩, hS⟩
       ·clear hE hS a w; rintro a w ⟨q95, rfl, hE, hS⟩
        refine W.cond hE rfl (fun hc98 => ?_) (fun hc98 => ?_)
        ·replace hq75 := iteT hc98 hq75
         refine W.seq (W.region ?_)
         refine WL.vS hS hE (runs_plain rfl) (Gives.p hE rfl) rfl ?_; clear hE a; intro a hE
         refine WL.vS hS hE (runs_plain rfl) (Gives.p hE rfl) rfl ?_; clear hE a; intro a hE
         refine WL.nil ?_
         refine W.ret ?_
         subst hK86
         subst hK67
         rw [← Option.some.inj hq75] at hq56
         dsimp only at hq56
         rw [← Option.some.inj hq56] at hr
         dsimp only at hr
         replace hS := hS.vecNil 44 1
         refine finG (fn := Try.f16) (rs := [.tmp 10, .tmp 11]) (vs := [_, _]) hE rfl ⟨rfl, rfl, trivial⟩ ?_
         obtain rfl := Option.some.inj hr
         replace hS := hS.dropAt 1
         exact ⟨none, 0, 0, [], s, rfl, (Sg.Le.refl _), (Ev.nil), (rfl), hS⟩
        ·replace hq75 := iteF hc98 hq75
         refine W.skip ?_
         refine W.seq ?_
         refine W.seq ?_
         obtain ⟨q101, hq100, hq75⟩ := bindS hq75
         refine W.cut (fun a w => ∃ (q104 : Bool), q104 = q101 ∧ Rep a 128 [(0, .slice a0 x0.length c0), (1, .slice a1 x1.length c1), (2, .slice a2 x2.length c2), (8, .pointer (some ⟨b51, 0, none⟩)), (13, .int .i64 ((k58 : Nat) : Int)), (14, .slice a72 x59.length c73), (15, .int .i64 ((k77 : Nat) : Int)), (16, .int .i64 x78), (35, .slice a1 x1.length c1), (36, .int .i64 ((x1).length : Int)), (37, .int .i64 ((k58 : Nat) : Int)), (42, .slice a72 x59.length c73), (43, .int .i64 ((x59).length : Int)), (44, .int .i64 ((k77 : Nat) : Int)), (71, .bool q104)] ∧ St w s (pt b51 (.cells (FleetShop.cells x3).toArray 35 (0, 0)) :: R)) ?_ ?_
         ·refine W.gen fun K105 hK105 => ?_
          refine W.regionQ (C := fun w => St w s (pt b51 (.cells (FleetShop.cells x3).toArray 35 (0, 0)) :: R)) mixed (by kernel_rfl) hS.drew ?_
          refine QL.v hE (runs_plain rfl) (Gives.p hE rfl) rfl ?_; clear hE a; intro a hE
          refine QL.v hE (runs_plain rfl) (Gives.p hE rfl) rfl ?_; clear hE a; intro a hE
          refine QL.v hE (runs_plain rfl) (Gives.p hE rfl) rfl ?_; clear hE a; intro a hE
          rcases Bool.eq_false_or_eq_true (((k77 : Nat) : Int) == 0) with hg106 | hg106
          ·replace hq100 := iteT hg106 hq100
           refine QL.v hE (runs_if hE rfl rfl rfl hg106) (Gives.p hE rfl) rfl ?_; clear hE a; intro a hE
           refine QL.v hE (runs_if hE rfl rfl rfl hg106) (Gives.p hE rfl) rfl ?_; clear hE a; intro a hE
           obtain ⟨x107, hx108, hq100⟩ := bindS hq100
           obtain ⟨hi109, hlt110, hy111⟩ := gx_some hx108
           obtain ⟨cs112, hl113, hR114, hat115⟩ := h0.at hy111
           subst hR114
           refine QL.v hE (runs_if hE rfl rfl rfl hg106) (Gives.idx hE (x78).toNat rfl rfl sl32 hi109 hlt110 (h0.aok hlt110)) rfl ?_; clear hE a; intro a hE
           refine QL.v hE (runs_if hE rfl rfl rfl hg106) (Gives.fld hE rfl fl78_0) rfl ?_; clear hE a; intro a hE
           refine QL.v hE (runs_if hE rfl rfl rfl hg106) (Gives.load1 hE rfl (fun w h => (hat115 w _ h).one rfl) ty3) rfl ?_; clear hE a; intro a hE
           refine QL.v hE (runs_if hE rfl rfl rfl hg106) (Gives.p hE rfl) rfl ?_; clear hE a; intro a hE
           refine QL.v hE (runs_if hE rfl rfl rfl hg106) (Gives.p hE rfl) rfl ?_; clear hE a; intro a hE
           obtain ⟨x116, hx117, hq100⟩ := bindS hq100
           obtain ⟨hi118, hlt119, hy120⟩ := gx_some hx117
           obtain ⟨cs121, hl122, hR123, hat124⟩ := h2.at hy120
           subst hR123
           refine QL.v hE (runs_if hE rfl rfl rfl hg106) (Gives.idx hE (((k58 : Nat) : Int)).toNat rfl rfl sl33 hi118 hlt119 (h2.aok hlt119)) rfl ?_; clear hE a; intro a hE
           refine QL.v hE (runs_if hE rfl rfl rfl hg106) (Gives.fld hE rfl fl84_0) rfl ?_; clear hE a; intro a hE
           refine QL.v hE (runs_if hE rfl rfl rfl hg106) (Gives.load1 hE rfl (fun w h => (hat124 w _ h).one rfl) ty3) rfl ?_; clear hE a; intro a hE
           refine QL.v hE (runs_if hE rfl rfl rfl hg106) (Gives.p hE rfl) rfl ?_; clear hE a; intro a hE
           refine QL.v hE (runs_plain rfl) (Gives.pickT hE rfl hg106 rfl) rfl ?_; clear hE a; intro a hE
           refine QL.nil ?_; clear hS w; intro w hS
           subst hK105
           exact ⟨(x107.From != x116.Home), Option.some.inj hq100, hE.pick _ ⟨rfl, rfl, rfl, rfl, rfl, rfl, rfl, rfl, rfl, rfl, rfl, rfl, rfl, rfl, rfl, trivial⟩, hS⟩
          ·replace hq100 := iteF hg106 hq100
           refine QL.no hE (runs_not hE rfl rfl rfl (by rw [hg106]; decide)) rfl ?_; clear hE a; intro a hE
           refine QL.no hE (runs_not hE rfl rfl rfl (by rw [hg106]; decide)) rfl ?_; clear hE a; intro a hE
           refine QL.no hE (runs_not hE rfl rfl rfl (by rw [hg106]; decide)) rfl ?_; clear hE a; intro a hE
           refine QL.no hE (runs_not hE rfl rfl rfl (by rw [hg106]; decide)) rfl ?_; clear hE a; intro a hE
           refine QL.no hE (runs_not hE rfl rfl rfl (by rw [hg106]; decide)) rfl ?_; clear hE a; intro a hE
           refine QL.no hE (runs_not hE rfl rfl rfl (by rw [hg106]; decide)) rfl ?_; clear hE a; intro a hE
           refine QL.no hE (runs_not hE rfl rfl rfl (by rw [hg106]; decide)) rfl ?_; clear hE a; intro a hE
           refine QL.no hE (runs_not hE rfl rfl rfl (by rw [hg106]; decide)) rfl ?_; clear hE a; intro a hE
           refine QL.no hE (runs_not hE rfl rfl rfl (by rw [hg106]; decide)) rfl ?_; clear hE a; intro a hE
           refine QL.no hE (runs_not hE rfl rfl rfl (by rw [hg106]; decide)) rfl ?_; clear hE a; intro a hE
           refine QL.no hE (runs_not hE rfl rfl rfl (by rw [hg106]; decide)) rfl ?_; clear hE a; intro a hE
           refine QL.v hE (runs_plain rfl) (Gives.pickF hE rfl hg106 rfl) rfl ?_; clear hE a; intro a hE
           refine QL.nil ?_; clear hS w; intro w hS
           subst hK105
           exact ⟨false, Option.some.inj hq100, hE.pick _ ⟨rfl, rfl, rfl, rfl, rfl, rfl, rfl, rfl, rfl, rfl, rfl, rfl, rfl, rfl, rfl, trivial⟩, hS⟩
         ·clear hE hS a w; rintro a w ⟨q104, rfl, hE, hS⟩
          refine W.cond hE rfl (fun hc125 => ?_) (fun hc125 => ?_)
          ·replace hq75 := iteT hc125 hq75
           refine W.seq (W.region ?_)
           refine WL.vS hS hE (runs_plain rfl) (Gives.p hE rfl) rfl ?_; clear hE a; intro a hE
           refine WL.vS hS hE (runs_plain rfl) (Gives.p hE rfl) rfl ?_; clear hE a; intro a hE
           refine WL.nil ?_
           refine W.ret ?_
           subst hK86
           subst hK67
           rw [← Option.some.inj hq75] at hq56
           dsimp only at hq56
           rw [← Option.some.inj hq56] at hr
           dsimp only at hr
           replace hS := hS.vecNil 44 1
           refine finG (fn := Try.f16) (rs := [.tmp 10, .tmp 11]) (vs := [_, _]) hE rfl ⟨rfl, rfl, trivial⟩ ?_
           obtain rfl := Option.some.inj hr
           replace hS := hS.dropAt 1
           exact ⟨none, 0, 0, [], s, rfl, (Sg.Le.refl _), (Ev.nil), (rfl), hS⟩
          ·replace hq75 := iteF hc125 hq75
           refine W.skip ?_
           refine W.seq (W.region ?_)
           refine WL.vS hS hE (runs_plain rfl) (Gives.p hE rfl) rfl ?_; clear hE a; intro a hE
           refine WL.vS hS hE (runs_plain rfl) (Gives.p hE rfl) rfl ?_; clear hE a; intro a hE
           refine WL.nil ?_
           obtain ⟨q128, hq127, hq75⟩ := bindS hq75
           refine W.cut (fun a w => .next () = q128 ∧ Rep a 128 [(0, .slice a0 x0.length c0), (1, .slice a1 x1.length c1), (2, .slice a2 x2.length c2), (8, .pointer (some ⟨b51, 0, none⟩)), (13, .int .i64 ((k58 : Nat) : Int)), (14, .slice a72 x59.length c73), (35, .slice a1 x1.length c1), (36, .int .i64 ((x1).length : Int)), (37, .int .i64 ((k58 : Nat) : Int)), (42, .slice a72 x59.length c73), (43, .int .i64 ((x59).length : Int)), (44, .int .i64 ((k77 : Nat) : Int))] ∧ St w s (pt b51 (.cells (FleetShop.cells x3).toArray 35 (0, 0)) :: R)) ?_ ?_
           ·refine W.gen fun K131 hK131 => ?_
            refine W.cond hE rfl (fun hc132 => ?_) (fun hc132 => ?_)
            ·replace hq127 := iteT hc132 hq127
             refine W.seq (W.region ?_)
             refine WL.vS hS hE (runs_plain rfl) (Gives.p hE rfl) rfl ?_; clear hE a; intro a hE
             refine WL.vS hS hE (runs_plain rfl) (Gives.p hE rfl) rfl ?_; clear hE a; intro a hE
             refine WL.vS hS hE (runs_plain rfl) (Gives.p hE rfl) rfl ?_; clear hE a; intro a hE
             refine WL.vS hS hE (runs_plain rfl) (Gives.p hE rfl) rfl ?_; clear hE a; intro a hE
             obtain ⟨x133, hx134, hq127⟩ := bindS hq127
             obtain ⟨hi135, hlt136, hy137⟩ := gx_some hx134
             obtain ⟨cs138, hl139, hR140, hat141⟩ := h74.at hy137
             subst hR140
             refine WL.vS hS hE (runs_plain rfl) (Gives.idx hE (w64 (((k77 : Nat) : Int) - 1)).toNat rfl rfl sl44 hi135 hlt136 (h74.aok hlt136)) rfl ?_; clear hE a; intro a hE
             refine WL.vS hS hE (runs_plain rfl) (Gives.load1 hE rfl (fun w h => hat141 w _ h) ty3) rfl ?_; clear hE a; intro a hE
             obtain ⟨x142, hx143, hq127⟩ := bindS hq127
             obtain ⟨hi144, hlt145, hy146⟩ := gx_some hx143
             obtain ⟨cs147, hl148, hR149, hat150⟩ := h0.at hy146
             subst hR149
             refine WL.vS hS hE (runs_plain rfl) (Gives.idx hE (x133).toNat rfl rfl sl32 hi144 hlt145 (h0.aok hlt145)) rfl ?_; clear hE a; intro a hE
             refine WL.vS hS hE (runs_plain rfl) (Gives.loadA hE rfl (fun w h => hat150 w _ h) ty78) rfl ?_; clear hE a; intro a hE
             refine WL.alloc hE hS (runs_plain rfl) zr78 rfl ?_; clear hE hS a w; intro b151 a w hE hS
             refine WL.storeI hE hS 0 rfl (FleetTask.cells x142) (runs_plain rfl) rfl rfl rfl ty78 rfl rfl rfl rfl ?_; clear hE hS a w; intro a w hE hS
             refine WL.nil ?_
             refine W.seq ?_
             obtain ⟨q153, hq152, hq127⟩ := bindS hq127
             refine W.cut (fun a w => ∃ (q156 : Bool), q156 = q153 ∧ Rep a 128 [(0, .slice a0 x0.length c0), (1, .slice a1 x1.length c1), (2, .slice a2 x2.length c2), (8, .pointer (some ⟨b51, 0, none⟩)), (13, .int .i64 ((k58 : Nat) : Int)), (14, .slice a72 x59.length c73), (35, .slice a1 x1.length c1), (36, .int .i64 ((x1).length : Int)), (37, .int .i64 ((k58 : Nat) : Int)), (42, .slice a72 x59.length c73), (43, .int .i64 ((x59).length : Int)), (44, .int .i64 ((k77 : Nat) : Int)), (99, .bool q156)] ∧ St w s (pt b151 (.cells (FleetTask.cells x142).toArray 78 (0, 0)) :: pt b51 (.cells (FleetShop.cells x3).toArray 35 (0, 0)) :: R)) ?_ ?_
             ·refine W.gen fun K157 hK157 => ?_
              refine W.regionQ (C := fun w => St w s (pt b151 (.cells (FleetTask.cells x142).toArray 78 (0, 0)) :: pt b51 (.cells (FleetShop.cells x3).toArray 35 (0, 0)) :: R)) mixed (by kernel_rfl) hS.drew ?_
              refine QL.v hE (runs_plain rfl) (Gives.fld hE rfl fl78_1) rfl ?_; clear hE a; intro a hE
              refine QL.v hE (runs_plain rfl) (Gives.loadB hE 0 rfl rfl rfl ty3) rfl ?_; clear hE a; intro a hE
              refine QL.v hE (runs_plain rfl) (Gives.p hE rfl) rfl ?_; clear hE a; intro a hE
              refine QL.v hE (runs_plain rfl) (Gives.p hE rfl) rfl ?_; clear hE a; intro a hE
              obtain ⟨x158, hx159, hq152⟩ := bindS hq152
              obtain ⟨hi160, hlt161, hy162⟩ := gx_some hx159
              obtain ⟨cs163, hl164, hR165, hat166⟩ := h0.at hy162
              subst hR165
              refine QL.v hE (runs_plain rfl) (Gives.idx hE (x78).toNat rfl rfl sl32 hi160 hlt161 (h0.aok hlt161)) rfl ?_; clear hE a; intro a hE
              refine QL.v hE (runs_plain rfl) (Gives.fld hE rfl fl78_0) rfl ?_; clear hE a; intro a hE
              refine QL.v hE (runs_plain rfl) (Gives.load1 hE rfl (fun w h => (hat166 w _ h).one rfl) ty3) rfl ?_; clear hE a; intro a hE
              refine QL.v hE (runs_plain rfl) (Gives.p hE rfl) rfl ?_; clear hE a; intro a hE
              refine QL.v hE (runs_plain rfl) (Gives.p hE rfl) rfl ?_; clear hE a; intro a hE
              rcases Bool.eq_false_or_eq_true (x142.To != x158.From) with hg167 | hg167
              ·replace hq152 := iteT hg167 hq152
               refine QL.no hE (runs_not hE rfl rfl rfl (by rw [hg167]; decide)) rfl ?_; clear hE a; intro a hE
               refine QL.no hE (runs_not hE rfl rfl rfl (by rw [hg167]; decide)) rfl ?_; clear hE a; intro a hE
               refine QL.no hE (runs_not hE rfl rfl rfl (by rw [hg167]; decide)) rfl ?_; clear hE a; intro a hE
               refine QL.no hE (runs_not hE rfl rfl rfl (by rw [hg167]; decide)) rfl ?_; clear hE a; intro a hE
               refine QL.no hE (runs_not hE rfl rfl rfl (by rw [hg167]; decide)) rfl ?_; clear hE a; intro a hE
               refine QL.no hE (runs_not hE rfl rfl rfl (by rw [hg167]; decide)) rfl ?_; clear hE a; intro a hE
               refine QL.no hE (runs_not hE rfl rfl rfl (by rw [hg167]; decide)) rfl ?_; clear hE a; intro a hE
               refine QL.no hE (runs_not hE rfl rfl rfl (by rw [hg167]; decide)) rfl ?_; clear hE a; intro a hE
               refine QL.v hE (runs_plain rfl) (Gives.pickT hE rfl hg167 rfl) rfl ?_; clear hE a; intro a hE
               refine QL.nil ?_; clear hS w; intro w hS
               subst hK157
               exact ⟨true, Option.some.inj hq152, hE.pick _ ⟨rfl, rfl, rfl, rfl, rfl, rfl, rfl, rfl, rfl, rfl, rfl, rfl, rfl, trivial⟩, hS⟩
              ·replace hq152 := iteF hg167 hq152
               refine QL.v hE (runs_if hE rfl rfl rfl hg167) (Gives.p hE rfl) rfl ?_; clear hE a; intro a hE
               refine QL.v hE (runs_if hE rfl rfl rfl hg167) (Gives.p hE rfl) rfl ?_; clear hE a; intro a hE
               obtain ⟨x168, hx169, hq152⟩ := bindS hq152
               obtain ⟨hi170, hlt171, hy172⟩ := gx_some hx169
               obtain ⟨cs173, hl174, hR175, hat176⟩ := h0.at hy172
               subst hR175
               refine QL.v hE (runs_if hE rfl rfl rfl hg167) (Gives.idx hE (x78).toNat rfl rfl sl32 hi170 hlt171 (h0.aok hlt171)) rfl ?_; clear hE a; intro a hE
               refine QL.v hE (runs_if hE rfl rfl rfl hg167) (Gives.fld hE rfl fl78_2) rfl ?_; clear hE a; intro a hE
               refine QL.v hE (runs_if hE rfl rfl rfl hg167) (Gives.load1 hE rfl (fun w h => (hat176 w _ h).one rfl) ty3) rfl ?_; clear hE a; intro a hE
               refine QL.v hE (runs_if hE rfl rfl rfl hg167) (Gives.fld hE rfl fl78_3) rfl ?_; clear hE a; intro a hE
               refine QL.v hE (runs_if hE rfl rfl rfl hg167) (Gives.loadB hE 0 rfl rfl rfl ty3) rfl ?_; clear hE a; intro a hE
               refine QL.v hE (runs_if hE rfl rfl rfl hg167) (Gives.p hE rfl) rfl ?_; clear hE a; intro a hE
               refine QL.v hE (runs_plain rfl) (Gives.pickF hE rfl hg167 rfl) rfl ?_; clear hE a; intro a hE
               refine QL.nil ?_; clear hS w; intro w hS
               subst hK157
               exact ⟨decide (x168.Dep < x142.Arr), Option.some.inj hq152, hE.pick _ ⟨rfl, rfl, rfl, rfl, rfl, rfl, rfl, rfl, rfl, rfl, rfl, rfl, rfl, trivial⟩, hS⟩
             ·clear hE hS a w; rintro a w ⟨q156, rfl, hE, hS⟩
              refine W.cond hE rfl (fun hc177 => ?_) (fun hc177 => ?_)
              ·replace hq127 := iteT hc177 hq127
               refine W.seq (W.region ?_)
               refine WL.vS hS hE (runs_plain rfl) (Gives.p hE rfl) rfl ?_; clear hE a; intro a hE
               refine WL.vS hS hE (runs_plain rfl) (Gives.p hE rfl) rfl ?_; clear hE a; intro a hE
               refine WL.nil ?_
               refine W.ret ?_
               subst hK131
               subst hK86
               subst hK67
               rw [← Option.some.inj hq127] at hq75
               dsimp only at hq75
               rw [← Option.some.inj hq75] at hq56
               dsimp only at hq56
               rw [← Option.some.inj hq56] at hr
               dsimp only at hr
               replace hS := hS.vecNil 44 1
               refine finG (fn := Try.f16) (rs := [.tmp 10, .tmp 11]) (vs := [_, _]) hE rfl ⟨rfl, rfl, trivial⟩ ?_
               obtain rfl := Option.some.inj hr
               replace hS := hS.dropAt 1
               replace hS := hS.dropAt 1
               exact ⟨none, 0, 0, [], s, rfl, (Sg.Le.refl _), (Ev.nil), (rfl), hS⟩
              ·replace hq127 := iteF hc177 hq127
               refine W.skip ?_
               replace hS := hS.tail
               subst hK131
               exact ⟨Option.some.inj hq127, hE.pick _ ⟨rfl, rfl, rfl, rfl, rfl, rfl, rfl, rfl, rfl, rfl, rfl, rfl, trivial⟩, hS⟩
            ·replace hq127 := iteF hc132 hq127
             refine W.skip ?_
             subst hK131
             exact ⟨Option.some.inj hq127, hE.pick _ ⟨rfl, rfl, rfl, rfl, rfl, rfl, rfl, rfl, rfl, rfl, rfl, rfl, trivial⟩, hS⟩
           ·clear hE hS a w; rintro a w ⟨rfl, hE, hS⟩
            dsimp only at hq75
            refine W.region ?_
            refine WL.vS hS hE (runs_plain rfl) (Gives.inc hE rfl (by have := h74.small; omega)) rfl ?_; clear hE a; intro a hE
            refine WL.vS hS hE (runs_plain rfl) (Gives.p hE rfl) rfl ?_; clear hE a; intro a hE
            refine WL.nil ?_
            subst hK86
            exact ⟨rest79.length, Nat.lt_succ_self _, rest79, k77 + 1, rfl, hd80, hq75, hE.pick _ ⟨rfl, rfl, rfl, rfl, rfl, rfl, rfl, rfl, rfl, rfl, rfl, rfl, trivial⟩, hS⟩
     ·clear hE hS a w; rintro a w ⟨rfl, hE, hS⟩
      dsimp only at hq56
      refine W.region ?_
      refine WL.vS hS hE (runs_plain rfl) (Gives.inc hE rfl (by have := h1.small; omega)) rfl ?_; clear hE a; intro a hE
      refine WL.vS hS hE (runs_plain rfl) (Gives.p hE rfl) rfl ?_; clear hE a; intro a hE
      refine WL.nil ?_
      subst hK67
      exact ⟨rest60.length, Nat.lt_succ_self _, rest60, k58 + 1, rfl, hd61, hq56, hE.pick _ ⟨rfl, rfl, rfl, rfl, rfl, rfl, rfl, trivial⟩, hS⟩
   ·clear hE hS a w; rintro a w ⟨rfl, hE, hS⟩
    dsimp only at hr
    refine W.seq (W.region ?_)
    replace hS := hS.vecNil 44 1
    refine WL.vS hS hE (runs_plain rfl) (Gives.p hE rfl) rfl ?_; clear hE a; intro a hE
    refine WL.nil ?_
    refine W.seq ?_
    refine W.seq (W.region ?_)
    refine WL.vS hS hE (runs_plain rfl) (Gives.p hE rfl) rfl ?_; clear hE a; intro a hE
    refine WL.vS hS hE (runs_plain rfl) (Gives.len hE rfl sl25) rfl ?_; clear hE a; intro a hE
    refine WL.vS hS hE (runs_plain rfl) (Gives.p hE rfl) rfl ?_; clear hE a; intro a hE
    refine WL.nil ?_
    obtain ⟨q181, hq180, hr⟩ := bindS hr
    refine W.cut (fun a w => ∃ (q191 : List (List Int)), ∃ (a192 : Option Addr), ∃ (c193 : Nat), ∃ (n195 : Nat), ∃ (cs196 : List Value), ∃ (s189 : Sg), s.Le s189 ∧ (.next q191) = q181 ∧ Ev 1 (RL 1 (RI .i64)) s189 cs196 q191 ∧ q191.length = n195 ∧ Rep a 128 [(18, .slice a192 n195 c193)] ∧ St w s189 (vecC 44 1 a192 c193 n195 cs196 :: pt b51 (.cells (FleetShop.cells x3).toArray 35 (0, 0)) :: R)) ?_ ?_
    ·refine W.block ?_
     refine W.loop (fun m a w => ∃ (rest184 : List (List Int)) (k182 : Nat), ∃ (q191 : List (List Int)), ∃ (a192 : Option Addr), ∃ (c193 : Nat), ∃ (n195 : Nat), ∃ (cs196 : List Value), ∃ (s189 : Sg), rest184.length = m ∧ x1.drop k182 = rest184 ∧ s.Le s189 ∧ Fishref2InspectOf.loop3 x0 x2 x3 fu rest184 k182 q191 = some q181 ∧ Ev 1 (RL 1 (RI .i64)) s189 cs196 q191 ∧ q191.length = n195 ∧ Rep a 128 [(0, .slice a0 x0.length c0), (2, .slice a2 x2.length c2), (8, .pointer (some ⟨b51, 0, none⟩)), (18, .slice a192 n195 c193), (102, .slice a1 x1.length c1), (103, .int .i64 ((x1).length : Int)), (104, .int .i64 ((k182 : Nat) : Int))] ∧ St w s189 (vecC 44 1 a192 c193 n195 cs196 :: pt b51 (.cells (FleetShop.cells x3).toArray 35 (0, 0)) :: R)) (m := x1.length) ⟨x1, 0, [], none, 0, 0, [], s, rfl, rfl, (Sg.Le.refl _), hq180, (Ev.nil), (rfl), hE.pick _ ⟨rfl, rfl, rfl, rfl, rfl, rfl, rfl, trivial⟩, hS⟩ ?_
     clear hE hS a w hq180; rintro m188 a w ⟨rest184, k182, q191, a192, c193, n195, cs196, s189, rfl, hd185, hle190, hq180, h194, rfl, hE, hS⟩
     refine W.gen fun K198 hK198 => ?_
     replace h0 := Sl.mono RFleetTask.mono hle190 h0
     replace h1 := Sl.mono (RL.mono RI.mono) hle190 h1
     replace h2 := Sl.mono RFleetSet.mono hle190 h2
     rcases rest184 with _ | ⟨x183, rest184⟩
     ·have hlt186 := drop_nil hd185
      refine W.seq (W.region ?_)
      refine WL.vS hS hE (runs_plain rfl) (Gives.p hE rfl) rfl ?_; clear hE a; intro a hE
      refine WL.nil ?_
      refine W.seq ?_
      refine W.condF hE rfl (decide_eq_false (by omega)) ?_
      subst hK198
      refine W.exit rfl ?_
      exact ⟨q191, a192, c193, q191.length, cs196, s189, hle190, Option.some.inj hq180, h194, rfl, hE.pick _ ⟨rfl, trivial⟩, hS⟩
     ·obtain ⟨hlt186, hx187, hd185⟩ := drop_cons hd185
      rw [Fishref2InspectOf.loop3] at hq180
      refine W.seq (W.region ?_)
      refine WL.vS hS hE (runs_plain rfl) (Gives.p hE rfl) rfl ?_; clear hE a; intro a hE
      refine WL.nil ?_
      refine W.seq ?_
      refine W.condT hE rfl (decide_eq_true (by omega)) ?_
      refine W.skip ?_
      refine W.seq ?_
      refine W.block ?_
      refine W.seq (W.region ?_)
      refine WL.vS hS hE (runs_plain rfl) (Gives.p hE rfl) rfl ?_; clear hE a; intro a hE
      obtain ⟨cs199, hl200, hR201, hat202⟩ := h1.at hx187
      obtain ⟨a203, c204, rfl, h205⟩ := hR201
      refine WL.vS hS hE (runs_plain rfl) (Gives.idx hE k182 rfl rfl sl25 rfl hlt186 (h1.aok hlt186)) rfl ?_; clear hE a; intro a hE
      refine WL.vS hS hE (runs_plain rfl) (Gives.load1 hE rfl (fun w h => hat202 w _ h) ty44) rfl ?_; clear hE a; intro a hE
      refine WL.vS hS hE (runs_plain rfl) (Gives.p hE rfl) rfl ?_; clear hE a; intro a hE
      refine WL.vS hS hE (runs_plain rfl) (Gives.p hE rfl) rfl ?_; clear hE a; intro a hE
      refine WL.nil ?_
      refine W.seq ?_
      refine W.gen fun K206 hK206 => ?_
      refine W.regionE (sel (fun w => St w s189 (vecC 44 1 a192 c193 q191.length cs196 :: pt b51 (.cells (FleetShop.cells x3).toArray 35 (0, 0)) :: R)) (fun w => St w s189 (vecC 44 1 a192 c193 q191.length cs196 :: pt b51 (.cells (FleetShop.cells x3).toArray 35 (0, 0)) :: R))) (fun b i => cond b ([0, 1, 2, 3, 4, 5, 6, 7, 8, 9, 10, 11, 12].contains i) ([0, 1, 2, 3, 4, 5, 6, 7, 8, 9, 10, 11, 12].contains i)) mixed ?_
      replace hS := hS.drew
      refine Rg.takeP (i := 0) hE rfl (by kernel_rfl) (runs_plain rfl) (Gives.p hE rfl) rfl (tw_sel (fun _ => hS) (fun _ => hS)) ?_; clear hE a; intro a hE
      refine Rg.takeP (i := 1) hE rfl (by kernel_rfl) (runs_plain rfl) (Gives.p hE rfl) rfl (tw_sel (fun _ => hS) (fun _ => hS)) ?_; clear hE a; intro a hE
      refine Rg.takeP (i := 2) hE rfl (by kernel_rfl) (runs_plain rfl) (Gives.p hE rfl) rfl (tw_sel (fun _ => hS) (fun _ => hS)) ?_; clear hE a; intro a hE
      refine Rg.takeP (i := 3) hE rfl (by kernel_rfl) (runs_plain rfl) (Gives.p hE rfl) rfl (tw_sel (fun _ => hS) (fun _ => hS)) ?_; clear hE a; intro a hE
      obtain ⟨x207, hx208, hq180⟩ := bindS hq180
      obtain ⟨hi209, hlt210, hy211⟩ := gx_some hx208
      obtain ⟨cs212, hl213, hR214, hat215⟩ := h2.at hy211
      subst hR214
      refine Rg.takeP (i := 4) hE rfl (by kernel_rfl) (runs_plain rfl) (Gives.idx hE (((k182 : Nat) : Int)).toNat rfl rfl sl33 hi209 hlt210 (h2.aok hlt210)) rfl (tw_sel (fun _ => hS) (fun _ => hS)) ?_; clear hE a; intro a hE
      have hT := tw_sel (A := fun w => St w s189 _) (B := fun w => St w s189 _) (w := _) (x := true) (y := true) (fun _ => hS) (fun _ => hS)
      have hF := hS; replace hS := hS
      refine Rg.take (i := 5) true rfl hE rfl (by kernel_rfl) (runs_plain rfl) (Gives.loadA hE rfl (fun w h => hat215 w _ h) ty84) rfl hT ?_; clear hE a; intro a hE
      replace hS := hF; clear hF hT
      have hT := tw_sel (A := fun w => St w s189 _) (B := fun w => St w s189 _) (w := _) (x := true) (y := true) (fun _ => hS) (fun _ => hS)
      have hF := hS; replace hS := hS
      refine Rg.take (i := 6) true rfl hE rfl (by kernel_rfl) (runs_plain rfl) (Gives.loadBA hE 1 rfl rfl ty35) rfl hT ?_; clear hE a; intro a hE
      replace hS := hF; clear hF hT
      refine Rg.one (i := 7) true true rfl (by kernel_rfl) (by kernel_rfl) (by kernel_rfl) ?_
      obtain ⟨q216, hq217, hq180⟩ := bindS hq180
      have hc_ := Fishref2positions_ok hS h0 h205 hq217
      refine WL.fnq hE (hc_) (runs_plain rfl) bd59 rfl rfl rfl ?_
      clear hE hS hc_; rintro e w ⟨a218, c219, n220, cs221, rfl, h222, rfl, hS⟩; refine ⟨_, rfl, ?_⟩; clear a; intro a hE
      refine WL.nil ?_
      refine ⟨⟨fun _ => (hS.tail), fun _ => (hS.tail)⟩, ?_⟩
      refine Rg.takeP (i := 8) hE rfl (by kernel_rfl) (runs_plain rfl) (Gives.p hE rfl) rfl (tw_sel (fun _ => (hS.tail)) (fun _ => (hS.tail))) ?_; clear hE a; intro a hE
      refine Rg.takeP (i := 9) hE rfl (by kernel_rfl) (runs_plain rfl) (Gives.p hE rfl) rfl (tw_sel (fun _ => (hS.tail)) (fun _ => (hS.tail))) ?_; clear hE a; intro a hE
      refine Rg.takeP (i := 10) hE rfl (by kernel_rfl) (runs_plain rfl) (Gives.p hE rfl) rfl (tw_sel (fun _ => (hS.tail)) (fun _ => (hS.tail))) ?_; clear hE a; intro a hE
      refine Rg.takeP (i := 11) hE rfl (by kernel_rfl) (runs_plain rfl) (Gives.p hE rfl) rfl (tw_sel (fun _ => (hS.tail)) (fun _ => (hS.tail))) ?_; clear hE a; intro a hE
      refine Rg.takeP (i := 12) hE rfl (by kernel_rfl) (runs_plain rfl) (Gives.p hE rfl) rfl (tw_sel (fun _ => (hS.tail)) (fun _ => (hS.tail))) ?_; clear hE a; intro a hE
      refine Rg.done (by kernel_rfl) ?_
      subst hK206
      refine W.seq ?_
      refine W.seq (W.region ?_)
      refine WL.vS hS hE (runs_plain rfl) (Gives.p hE rfl) rfl ?_; clear hE a; intro a hE
      refine WL.vS hS hE (runs_plain rfl) (Gives.p hE rfl) rfl ?_; clear hE a; intro a hE
      refine WL.nil ?_
      refine W.cond hE rfl (fun hc224 => ?_) (fun hc224 => ?_)
      ·replace hq180 := iteT hc224 hq180
       refine W.seq (W.region ?_)
       refine WL.vS hS hE (runs_plain rfl) (Gives.p hE rfl) rfl ?_; clear hE a; intro a hE
       refine WL.vS hS hE (runs_plain rfl) (Gives.p hE rfl) rfl ?_; clear hE a; intro a hE
       refine WL.nil ?_
       refine W.ret ?_
       subst hK198
       rw [← Option.some.inj hq180] at hr
       dsimp only at hr
       replace hS := hS.vecNil 44 1
       refine finG (fn := Try.f16) (rs := [.tmp 10, .tmp 11]) (vs := [_, _]) hE rfl ⟨rfl, rfl, trivial⟩ ?_
       obtain rfl := Option.some.inj hr
       replace hS := hS.dropAt 1
       replace hS := hS.dropAt 1
       replace hS := hS.dropAt 1
       exact ⟨none, 0, 0, [], s189, rfl, hle190, (Ev.nil), (rfl), hS⟩
      ·replace hq180 := iteF hc224 hq180
       refine W.skip ?_
       refine W.region ?_
       refine WL.vS hS hE (runs_plain rfl) (Gives.p hE rfl) rfl ?_; clear hE a; intro a hE
       refine WL.vS hS hE (runs_plain rfl) (Gives.p hE rfl) rfl ?_; clear hE a; intro a hE
       have hF := hS.fixD RI.mono 0 rfl h222 rfl; clear hS; obtain ⟨s226, hle227, hS, h228⟩ := hF
       replace h0 := Sl.mono RFleetTask.mono hle227 h0
       replace h2 := Sl.mono RFleetSet.mono hle227 h2
       replace h1 := Sl.mono (RL.mono RI.mono) hle227 h1
       replace h205 := Sl.mono RI.mono hle227 h205
       replace h194 := Ev.mono (RL.mono RI.mono) hle227 h194
       refine WL.lit hE hS (e := 44) (es := 1) (vs := [(0, .slice a218 q216.1.length c219)]) (cs := [.slice a218 q216.1.length c219]) (runs_plain rfl) rfl (by kernel_rfl) rfl ?_; clear hE hS a w; intro b229 a w hE hS
       obtain ⟨x230, hx231, hq180⟩ := bindS hq180
       refine WL.appD hE hS 0 (m := 1) (runs_plain rfl) rfl rfl rfl ap25 rfl h194 rfl (xs := [q216.1]) (Ev.cons (c1 := [.slice a218 q216.1.length c219]) ⟨_, _, rfl, h228⟩ rfl (Ev.nil)) rfl rfl hx231 rfl ?_; clear hE hS a w; intro a232 c233 cs234 a w h235 hE hS
       refine WL.vS hS hE (runs_plain rfl) (Gives.p hE rfl) rfl ?_; clear hE a; intro a hE
       refine WL.nil ?_
       refine W.region ?_
       refine WL.vS hS hE (runs_plain rfl) (Gives.inc hE rfl (by have := h1.small; omega)) rfl ?_; clear hE a; intro a hE
       refine WL.vS hS hE (runs_plain rfl) (Gives.p hE rfl) rfl ?_; clear hE a; intro a hE
       refine WL.nil ?_
       subst hK198
       exact ⟨rest184.length, Nat.lt_succ_self _, rest184, k182 + 1, x230, a232, c233, x230.length, cs234, s226, rfl, hd185, (Sg.Le.trans hle190 hle227), hq180, h235, (rfl), hE.pick _ ⟨rfl, rfl, rfl, rfl, rfl, rfl, rfl, trivial⟩, hS⟩
    ·clear hE hS a w; rintro a w ⟨q191, a192, c193, n195, cs196, s189, hle190, rfl, h194, rfl, hE, hS⟩
     dsimp only at hr
     replace h0 := Sl.mono RFleetTask.mono hle190 h0
     replace h1 := Sl.mono (RL.mono RI.mono) hle190 h1
     replace h2 := Sl.mono RFleetSet.mono hle190 h2
     refine W.seq (W.region ?_)
     refine WL.vS hS hE (runs_plain rfl) (Gives.p hE rfl) rfl ?_; clear hE a; intro a hE
     refine WL.vS hS hE (runs_plain rfl) (Gives.p hE rfl) rfl ?_; clear hE a; intro a hE
     refine WL.vS hS hE (runs_plain rfl) (Gives.p hE rfl) rfl ?_; clear hE a; intro a hE
     refine WL.nil ?_
     refine W.ret ?_
     refine finG (fn := Try.f16) (rs := [.tmp 10, .tmp 11]) (vs := [_, _]) hE rfl ⟨rfl, rfl, trivial⟩ ?_
     obtain rfl := Option.some.inj hr
     replace hS := hS.dropAt 1
     exact ⟨a192, c193, q191.length, cs196, s189, rfl, hle190, h194, rfl, hS⟩
set_option maxHeartbeats 8000000 in
theorem Fishref2InspectOf_v1_ok {fu : Nat}  {w : World} {s : Sg} {R : List HP} {x0 : List FleetTask} {a0 : Option Addr} {c0 : Nat} {x1 : List (List Int)} {a_v0 : Option Addr} {c_v0 n_v0 : Nat} {ds_v0 : List In} {x2 : List FleetSet} {a2 : Option Addr} {c2 : Nat} {x3 : FleetShop} {x4 : Int} (hS : St w s (nestC 44 3 1 a_v0 c_v0 n_v0 ds_v0 :: R)) (h0 : Sl 6 RFleetTask s a0 c0 x0) (h_v0 : NEv 1 (RI .i64) s ds_v0 x1) (hn_v0 : x1.length = n_v0) (h2 : Sl 2 RFleetSet s a2 c2 x2) {r : (List (List Int)) × Int} (hr : Fishref2InspectOf_v1 fu x0 x1 x2 x3 x4 = some r) :
  Calls Try.prog 16 [.slice a0 x0.length c0, .slice a_v0 n_v0 c_v0, .slice a2 x2.length c2, .agg (FleetShop.cells x3).toArray, .int .i64 x4].toArray w (fun e w => ∃ (a0 : Option Addr) (c0 n0 : Nat) (cs0 : List Value) (t : Sg), e = .returned (.tuple #[.slice a0 n0 c0, .int .i64 r.2]) ∧ s.Le t ∧ Ev 1 (RL 1 (RI .i64)) t cs0 r.1 ∧ r.1.length = n0 ∧ St w t (vecC 44 1 a0 c0 n0 cs0 :: nestC 44 3 1 a_v0 c_v0 n_v0 ds_v0 :: R)) := by
 refine enter Try.func16 rfl rfl rfl fun a hE => ?_
 rw [Fishref2InspectOf_v1] at hr
 subst hn_v0
 refine W.seq (W.region ?_)
 refine WL.box hE hS (runs_plain rfl) rfl rfl rfl ?_; clear hE hS a w; intro b51 a w hE hS
 refine WL.vS hS hE (runs_plain rfl) (Gives.p hE rfl) rfl ?_; clear hE a; intro a hE
 refine WL.vS hS hE (runs_plain rfl) (Gives.p hE rfl) rfl ?_; clear hE a; intro a hE
 refine WL.nil ?_
 refine W.seq ?_
 refine W.seq (W.region ?_)
 refine WL.vS hS hE (runs_plain rfl) (Gives.p hE rfl) rfl ?_; clear hE a; intro a hE
 refine WL.vS hS hE (runs_plain rfl) (Gives.loadBA hE 0 rfl rfl ty35) rfl ?_; clear hE a; intro a hE
 refine WL.vS hS hE (runs_plain rfl) (Gives.p hE rfl) rfl ?_; clear hE a; intro a hE
 refine WL.fnq hE (Fishref2SetsFault_ok hS h2 rfl (r := Fishref2SetsFault x2 x3 x4)) (runs_plain rfl) bd58 rfl rfl rfl ?_
 clear hE hS; rintro e w ⟨rfl, hS⟩; refine ⟨_, rfl, ?_⟩; clear a; intro a hE
 refine WL.vS hS hE (runs_plain rfl) (Gives.p hE rfl) rfl ?_; clear hE a; intro a hE
 refine WL.nil ?_
 refine W.seq (W.region ?_)
 refine WL.vS hS hE (runs_plain rfl) (Gives.p hE rfl) rfl ?_; clear hE a; intro a hE
 refine WL.vS hS hE (runs_plain rfl) (Gives.p hE rfl) rfl ?_; clear hE a; intro a hE
 refine WL.nil ?_
 refine W.cond hE rfl (fun hc52 => ?_) (fun hc52 => ?_)
 ·replace hr := iteT hc52 hr
  refine W.seq (W.region ?_)
  refine WL.vS hS hE (runs_plain rfl) (Gives.p hE rfl) rfl ?_; clear hE a; intro a hE
  refine WL.vS hS hE (runs_plain rfl) (Gives.p hE rfl) rfl ?_; clear hE a; intro a hE
  refine WL.vS hS hE (runs_plain rfl) (Gives.p hE rfl) rfl ?_; clear hE a; intro a hE
  refine WL.nil ?_
  refine W.ret ?_
  replace hS := hS.vecNil 44 1
  refine finG (fn := Try.f16) (rs := [.tmp 10, .tmp 11]) (vs := [_, _]) hE rfl ⟨rfl, rfl, trivial⟩ ?_
  obtain rfl := Option.some.inj hr
  replace hS := hS.dropAt 1
  exact ⟨none, 0, 0, [], s, rfl, (Sg.Le.refl _), (Ev.nil), (rfl), hS⟩
 ·replace hr := iteF hc52 hr
  refine W.skip ?_
  refine W.seq ?_
  refine W.seq (W.region ?_)
  refine WL.vS hS hE (runs_plain rfl) (Gives.p hE rfl) rfl ?_; clear hE a; intro a hE
  refine WL.vS hS hE (runs_plain rfl) (Gives.len hE rfl sl25) rfl ?_; clear hE a; intro a hE
  refine WL.vS hS hE (runs_plain rfl) (Gives.p hE rfl) rfl ?_; clear hE a; intro a hE
  refine WL.vS hS hE (runs_plain rfl) (Gives.len hE rfl sl33) rfl ?_; clear hE a; intro a hE
  refine WL.vS hS hE (runs_plain rfl) (Gives.p hE rfl) rfl ?_; clear hE a; intro a hE
  refine WL.nil ?_
  refine W.cond hE rfl (fun hc54 => ?_) (fun hc54 => ?_)
  ·replace hr := iteT hc54 hr
   refine W.seq (W.region ?_)
   refine WL.vS hS hE (runs_plain rfl) (Gives.p hE rfl) rfl ?_; clear hE a; intro a hE
   refine WL.vS hS hE (runs_plain rfl) (Gives.p hE rfl) rfl ?_; clear hE a; intro a hE
   refine WL.nil ?_
   refine W.ret ?_
   replace hS := hS.vecNil 44 1
   refine finG (fn := Try.f16) (rs := [.tmp 10, .tmp 11]) (vs := [_, _]) hE rfl ⟨rfl, rfl, trivial⟩ ?_
   obtain rfl := Option.some.inj hr
   replace hS := hS.dropAt 1
   exact ⟨none, 0, 0, [], s, rfl, (Sg.Le.refl _), (Ev.nil), (rfl), hS⟩
  ·replace hr := iteF hc54 hr
   refine W.skip ?_
   refine W.seq ?_
   refine W.seq (W.region ?_)
   refine WL.vS hS hE (runs_plain rfl) (Gives.p hE rfl) rfl ?_; clear hE a; intro a hE
   refine WL.vS hS hE (runs_plain rfl) (Gives.len hE rfl sl25) rfl ?_; clear hE a; intro a hE
   refine WL.vS hS hE (runs_plain rfl) (Gives.p hE rfl) rfl ?_; clear hE a; intro a hE
   refine WL.nil ?_
   have hb67 : x1.length ≤ 9223372036854775807 := by have := hS.nCap 1 rfl; unfold maxLen at this; omega
   obtain ⟨q57, hq56, hr⟩ := bindS hr
   refine W.cut (fun a w => (.next ()) = q57 ∧ Rep a 128 [(0, .slice a0 x0.length c0), (1, .slice a_v0 x1.length c_v0), (2, .slice a2 x2.length c2), (8, .pointer (some ⟨b51, 0, none⟩))] ∧ St w s (pt b51 (.cells (FleetShop.cells x3).toArray 35 (0, 0)) :: nestC 44 3 1 a_v0 c_v0 x1.length ds_v0 :: R)) ?_ ?_
   ·refine W.block ?_
    refine W.loop (fun m a w => ∃ (rest60 : Nat) (k58 : Nat), rest60 = m ∧ k58 + rest60 = x1.length ∧ Fishref2InspectOf_v1.loop1 x0 x1 x2 rest60 k58 = some q57 ∧ Rep a 128 [(0, .slice a0 x0.length c0), (1, .slice a_v0 x1.length c_v0), (2, .slice a2 x2.length c2), (8, .pointer (some ⟨b51, 0, none⟩)), (35, .slice a_v0 x1.length c_v0), (36, .int .i64 ((x1.length : Nat) : Int)), (37, .int .i64 ((k58 : Nat) : Int))] ∧ St w s (pt b51 (.cells (FleetShop.cells x3).toArray 35 (0, 0)) :: nestC 44 3 1 a_v0 c_v0 x1.length ds_v0 :: R)) (m := x1.length) ⟨x1.length, 0, rfl, by omega, hq56, hE.pick _ ⟨rfl, rfl, rfl, rfl, rfl, rfl, rfl, trivial⟩, hS⟩ ?_
    clear hE hS a w hq56; rintro m64 a w ⟨rest60, k58, rfl, hd61, hq56, hE, hS⟩
    refine W.gen fun K68 hK68 => ?_
    rcases rest60 with _ | rest60
    ·skip
     refine W.seq (W.region ?_)
     refine WL.vS hS hE (runs_plain rfl) (Gives.p hE rfl) rfl ?_; clear hE a; intro a hE
     refine WL.nil ?_
     refine W.seq ?_
     refine W.condF hE rfl (decide_eq_false (by omega)) ?_
     subst hK68
     refine W.exit rfl ?_
     exact ⟨Option.some.inj hq56, hE.pick _ ⟨rfl, rfl, rfl, rfl, trivial⟩, hS⟩
    ·have hlt62 : k58 < x1.length := by omega
     rw [Fishref2InspectOf_v1.loop1] at hq56
     refine W.seq (W.region ?_)
     refine WL.vS hS hE (runs_plain rfl) (Gives.p hE rfl) rfl ?_; clear hE a; intro a hE
     refine WL.nil ?_
     refine W.seq ?_
     refine W.condT hE rfl (decide_eq_true (by omega)) ?_
     refine W.skip ?_
     refine W.seq ?_
     refine W.block ?_
     refine W.seq (W.region ?_)
     refine WL.vS hS hE (runs_plain rfl) (Gives.p hE rfl) rfl ?_; clear hE a; intro a hE
     obtain ⟨x69, hx70, hq56⟩ := bindS hq56
     obtain ⟨hi71, hlt72, hy73⟩ := gx_some hx70
     obtain ⟨a74, c75, cs76, hd77, hev78⟩ := h_v0.at hy73
     refine WL.vS hS hE (runs_plain rfl) (Gives.idx hE ((((k58 : Nat) : Int)).toNat) rfl rfl sl25 hi71 (by omega) (hS.nAok 1 rfl (by omega : (((k58 : Nat) : Int)).toNat < x1.length))) rfl ?_; clear hE a; intro a hE
     refine WL.vS hS hE (runs_plain rfl) (Gives.load1 (v := .slice a74 x69.length c75) hE rfl (fun w h => St.nSees h 1 rfl hd77) ty44) rfl ?_; clear hE a; intro a hE
     refine WL.vS hS hE (runs_plain rfl) (Gives.p hE rfl) rfl ?_; clear hE a; intro a hE
     refine WL.vS hS hE (runs_plain rfl) (Gives.p hE rfl) rfl ?_; clear hE a; intro a hE
     refine WL.nil ?_
     refine W.seq (W.region ?_)
     refine WL.vS hS hE (runs_plain rfl) (Gives.p hE rfl) rfl ?_; clear hE a; intro a hE
     refine WL.vS hS hE (runs_plain rfl) (Gives.len hE rfl sl44) rfl ?_; clear hE a; intro a hE
     refine WL.vS hS hE (runs_plain rfl) (Gives.p hE rfl) rfl ?_; clear hE a; intro a hE
     refine WL.nil ?_
     have hb90 : (x69).length ≤ 9223372036854775807 := by have := (hS.borrowM 1 rfl hd77).vecCap 0 rfl; unfold maxLen at this; omega
     obtain ⟨q80, hq79, hq56⟩ := bindS hq56
     refine W.cut (fun a w => (.next ()) = q80 ∧ Rep a 128 [(0, .slice a0 x0.length c0), (1, .slice a_v0 x1.length c_v0), (2, .slice a2 x2.length c2), (8, .pointer (some ⟨b51, 0, none⟩)), (35, .slice a_v0 x1.length c_v0), (36, .int .i64 ((x1.length : Nat) : Int)), (37, .int .i64 ((k58 : Nat) : Int))] ∧ St w s (pt b51 (.cells (FleetShop.cells x3).toArray 35 (0, 0)) :: nestC 44 3 1 a_v0 c_v0 x1.length ds_v0 :: R)) ?_ ?_
     ·refine W.block ?_
      refine W.loop (fun m a w => ∃ (rest83 : Nat) (k81 : Nat), rest83 = m ∧ k81 + rest83 = (x69).length ∧ Fishref2InspectOf_v1.loop2 x0 x2 k58 x69 rest83 k81 = some q80 ∧ Rep a 128 [(0, .slice a0 x0.length c0), (1, .slice a_v0 x1.length c_v0), (2, .slice a2 x2.length c2), (8, .pointer (some ⟨b51, 0, none⟩)), (13, .int .i64 ((k58 : Nat) : Int)), (14, .slice a74 x69.length c75), (35, .slice a_v0 x1.length c_v0), (36, .int .i64 ((x1.length : Nat) : Int)), (37, .int .i64 ((k58 : Nat) : Int)), (42, .slice a74 x69.length c75), (43, .int .i64 ((x69).length : Int)), (44, .int .i64 ((k81 : Nat) : Int))] ∧ St w s (pt b51 (.cells (FleetShop.cells x3).toArray 35 (0, 0)) :: nestC 44 3 1 a_v0 c_v0 x1.length ds_v0 :: R)) (m := (x69).length) ⟨(x69).length, 0, rfl, by omega, hq79, hE.pick _ ⟨rfl, rfl, rfl, rfl, rfl, rfl, rfl, rfl, rfl, rfl, rfl, rfl, trivial⟩, hS⟩ ?_
      clear hE hS a w hq79; rintro m87 a w ⟨rest83, k81, rfl, hd84, hq79, hE, hS⟩
      refine W.gen fun K91 hK91 => ?_
      rcases rest83 with _ | rest83
      ·skip
       refine W.seq (W.region ?_)
       refine WL.vS hS hE (runs_plain rfl) (Gives.p hE rfl) rfl ?_; clear hE a; intro a hE
       refine WL.nil ?_
       refine W.seq ?_
       refine W.condF hE rfl (decide_eq_false (by omega)) ?_
       subst hK91
       refine W.exit rfl ?_
       exact ⟨Option.some.inj hq79, hE.pick _ ⟨rfl, rfl, rfl, rfl, rfl, rfl, rfl, trivial⟩, hS⟩
      ·have hlt85 : k81 < (x69).length := by omega
       rw [Fishref2InspectOf_v1.loop2] at hq79
       refine W.seq (W.region ?_)
       refine WL.vS hS hE (runs_plain rfl) (Gives.p hE rfl) rfl ?_; clear hE a; intro a hE
       refine WL.nil ?_
       refine W.seq ?_
       refine W.condT hE rfl (decide_eq_true (by omega)) ?_
       refine W.skip ?_
       refine W.seq ?_
       refine W.block ?_
       refine W.seq (W.region ?_)
       refine WL.vS hS hE (runs_plain rfl) (Gives.p hE rfl) rfl ?_; clear hE a; intro a hE
       obtain ⟨x92, hx93, hq79⟩ := bindS hq79
       obtain ⟨hi94, hlt95, hy96⟩ := gx_some hx93
       obtain ⟨vs97, hl98, hR99, hd100, hget101⟩ := hev78.at hy96
       subst hR99
       refine WL.vS hS hE (runs_plain rfl) (Gives.idx hE ((((k81 : Nat) : Int)).toNat) rfl rfl sl44 hi94 hlt95 (hS.nnAok 1 rfl hd77 hlt95)) rfl ?_; clear hE a; intro a hE
       refine WL.vS hS hE (runs_plain rfl) (Gives.load1 hE rfl (fun w h => St.nnSees h 1 rfl hd77 ((((k81 : Nat) : Int)).toNat * 1) _ hget101) ty3) rfl ?_; clear hE a; intro a hE
       refine WL.vS hS hE (runs_plain rfl) (Gives.p hE rfl) rfl ?_; clear hE a; intro a hE
       refine WL.vS hS hE (runs_plain rfl) (Gives.p hE rfl) rfl ?_; clear hE a; intro a hE
       refine WL.nil ?_
       refine W.seq ?_
       refine W.seq ?_
       obtain ⟨q103, hq102, hq79⟩ := bndS hq79
       refine W.cut (fun a w => ∃ (q106 : Bool), q106 = q103 ∧ Rep a 128 [(0, .slice a0 x0.length c0), (1, .slice a_v0 x1.length c_v0), (2, .slice a2 x2.length c2), (8, .pointer (some ⟨b51, 0, none⟩)), (13, .int .i64 ((k58 : Nat) : Int)), (14, .slice a74 x69.length c75), (15, .int .i64 ((k81 : Nat) : Int)), (16, .int .i64 x92), (35, .slice a_v0 x1.length c_v0), (36, .int .i64 ((x1.length : Nat) : Int)), (37, .int .i64 ((k58 : Nat) : Int)), (42, .slice a74 x69.length c75), (43, .int .i64 ((x69).length : Int)), (44, .int .i64 ((k81 : Nat) : Int)), (56, .bool q106)] ∧ St w s (pt b51 (.cells (FleetShop.cells x3).toArray 35 (0, 0)) :: nestC 44 3 1 a_v0 c_v0 x1.length ds_v0 :: R)) ?_ ?_
       ·refine W.gen fun K107 hK107 => ?_
        refine W.region ?_
        refine WL.vS hS hE (runs_plain rfl) (Gives.p hE rfl) rfl ?_; clear hE a; intro a hE
        refine WL.vS hS hE (runs_plain rfl) (Gives.p hE rfl) rfl ?_; clear hE a; intro a hE
        refine WL.vS hS hE (runs_plain rfl) (Gives.p hE rfl) rfl ?_; clear hE a; intro a hE
        rcases Bool.eq_false_or_eq_true (decide (x92 < 0)) with hg108 | hg108
        ·replace hq102 := iteT hg108 hq102
         refine WL.no hE (runs_not hE rfl rfl rfl (by rw [hg108]; decide)) rfl ?_; clear hE a; intro a hE
         refine WL.no hE (runs_not hE rfl rfl rfl (by rw [hg108]; decide)) rfl ?_; clear hE a; intro a hE
         refine WL.no hE (runs_not hE rfl rfl rfl (by rw [hg108]; decide)) rfl ?_; clear hE a; intro a hE
         refine WL.no hE (runs_not hE rfl rfl rfl (by rw [hg108]; decide)) rfl ?_; clear hE a; intro a hE
         refine WL.vS hS hE (runs_plain rfl) (Gives.pickT hE rfl hg108 rfl) rfl ?_; clear hE a; intro a hE
         refine WL.nil ?_
         subst hK107
         exact ⟨true, hq102, hE.pick _ ⟨rfl, rfl, rfl, rfl, rfl, rfl, rfl, rfl, rfl, rfl, rfl, rfl, rfl, rfl, rfl, trivial⟩, hS⟩
        ·replace hq102 := iteF hg108 hq102
         refine WL.vS hS hE (runs_if hE rfl rfl rfl hg108) (Gives.p hE rfl) rfl ?_; clear hE a; intro a hE
         refine WL.vS hS hE (runs_if hE rfl rfl rfl hg108) (Gives.p hE rfl) rfl ?_; clear hE a; intro a hE
         refine WL.vS hS hE (runs_if hE rfl rfl rfl hg108) (Gives.len hE rfl sl32) rfl ?_; clear hE a; intro a hE
         refine WL.vS hS hE (runs_if hE rfl rfl rfl hg108) (Gives.p hE rfl) rfl ?_; clear hE a; intro a hE
         refine WL.vS hS hE (runs_plain rfl) (Gives.pickF hE rfl hg108 rfl) rfl ?_; clear hE a; intro a hE
         refine WL.nil ?_
         subst hK107
         exact ⟨decide (x92 ≥ ((x0).length : Int)), hq102, hE.pick _ ⟨rfl, rfl, rfl, rfl, rfl, rfl, rfl, rfl, rfl, rfl, rfl, rfl, rfl, rfl, rfl, trivial⟩, hS⟩
       ·clear hE hS a w; rintro a w ⟨q106, rfl, hE, hS⟩
        refine W.cond hE rfl (fun hc109 => ?_) (fun hc109 => ?_)
        ·replace hq79 := iteT hc109 hq79
         refine W.seq (W.region ?_)
         refine WL.vS hS hE (runs_plain rfl) (Gives.p hE rfl) rfl ?_; clear hE a; intro a hE
         refine WL.vS hS hE (runs_plain rfl) (Gives.p hE rfl) rfl ?_; clear hE a; intro a hE
         refine WL.nil ?_
         refine W.ret ?_
         subst hK91
         subst hK68
         rw [← Option.some.inj hq79] at hq56
         dsimp only at hq56
         rw [← Option.some.inj hq56] at hr
         dsimp only at hr
         replace hS := hS.vecNil 44 1
         refine finG (fn := Try.f16) (rs := [.tmp 10, .tmp 11]) (vs := [_, _]) hE rfl ⟨rfl, rfl, trivial⟩ ?_
         obtain rfl := Option.some.inj hr
         replace hS := hS.dropAt 1
         exact ⟨none, 0, 0, [], s, rfl, (Sg.Le.refl _), (Ev.nil), (rfl), hS⟩
        ·replace hq79 := iteF hc109 hq79
         refine W.skip ?_
         refine W.seq ?_
         refine W.seq ?_
         obtain ⟨q112, hq111, hq79⟩ := bindS hq79
         refine W.cut (fun a w => ∃ (q115 : Bool), q115 = q112 ∧ Rep a 128 [(0, .slice a0 x0.length c0), (1, .slice a_v0 x1.length c_v0), (2, .slice a2 x2.length c2), (8, .pointer (some ⟨b51, 0, none⟩)), (13, .int .i64 ((k58 : Nat) : Int)), (14, .slice a74 x69.length c75), (15, .int .i64 ((k81 : Nat) : Int)), (16, .int .i64 x92), (35, .slice a_v0 x1.length c_v0), (36, .int .i64 ((x1.length : Nat) : Int)), (37, .int .i64 ((k58 : Nat) : Int)), (42, .slice a74 x69.length c75), (43, .int .i64 ((x69).length : Int)), (44, .int .i64 ((k81 : Nat) : Int)), (71, .bool q115)] ∧ St w s (pt b51 (.cells (FleetShop.cells x3).toArray 35 (0, 0)) :: nestC 44 3 1 a_v0 c_v0 x1.length ds_v0 :: R)) ?_ ?_
         ·refine W.gen fun K116 hK116 => ?_
          refine W.regionQ (C := fun w => St w s (pt b51 (.cells (FleetShop.cells x3).toArray 35 (0, 0)) :: nestC 44 3 1 a_v0 c_v0 x1.length ds_v0 :: R)) mixed (by kernel_rfl) hS.drew ?_
          refine QL.v hE (runs_plain rfl) (Gives.p hE rfl) rfl ?_; clear hE a; intro a hE
          refine QL.v hE (runs_plain rfl) (Gives.p hE rfl) rfl ?_; clear hE a; intro a hE
          refine QL.v hE (runs_plain rfl) (Gives.p hE rfl) rfl ?_; clear hE a; intro a hE
          rcases Bool.eq_false_or_eq_true (((k81 : Nat) : Int) == 0) with hg117 | hg117
          ·replace hq111 := iteT hg117 hq111
           refine QL.v hE (runs_if hE rfl rfl rfl hg117) (Gives.p hE rfl) rfl ?_; clear hE a; intro a hE
           refine QL.v hE (runs_if hE rfl rfl rfl hg117) (Gives.p hE rfl) rfl ?_; clear hE a; intro a hE
           obtain ⟨x118, hx119, hq111⟩ := bindS hq111
           obtain ⟨hi120, hlt121, hy122⟩ := gx_some hx119
           obtain ⟨cs123, hl124, hR125, hat126⟩ := h0.at hy122
           subst hR125
           refine QL.v hE (runs_if hE rfl rfl rfl hg117) (Gives.idx hE (x92).toNat rfl rfl sl32 hi120 hlt121 (h0.aok hlt121)) rfl ?_; clear hE a; intro a hE
           refine QL.v hE (runs_if hE rfl rfl rfl hg117) (Gives.fld hE rfl fl78_0) rfl ?_; clear hE a; intro a hE
           refine QL.v hE (runs_if hE rfl rfl rfl hg117) (Gives.load1 hE rfl (fun w h => (hat126 w _ h).one rfl) ty3) rfl ?_; clear hE a; intro a hE
           refine QL.v hE (runs_if hE rfl rfl rfl hg117) (Gives.p hE rfl) rfl ?_; clear hE a; intro a hE
           refine QL.v hE (runs_if hE rfl rfl rfl hg117) (Gives.p hE rfl) rfl ?_; clear hE a; intro a hE
           obtain ⟨x127, hx128, hq111⟩ := bindS hq111
           obtain ⟨hi129, hlt130, hy131⟩ := gx_some hx128
           obtain ⟨cs132, hl133, hR134, hat135⟩ := h2.at hy131
           subst hR134
           refine QL.v hE (runs_if hE rfl rfl rfl hg117) (Gives.idx hE (((k58 : Nat) : Int)).toNat rfl rfl sl33 hi129 hlt130 (h2.aok hlt130)) rfl ?_; clear hE a; intro a hE
           refine QL.v hE (runs_if hE rfl rfl rfl hg117) (Gives.fld hE rfl fl84_0) rfl ?_; clear hE a; intro a hE
           refine QL.v hE (runs_if hE rfl rfl rfl hg117) (Gives.load1 hE rfl (fun w h => (hat135 w _ h).one rfl) ty3) rfl ?_; clear hE a; intro a hE
           refine QL.v hE (runs_if hE rfl rfl rfl hg117) (Gives.p hE rfl) rfl ?_; clear hE a; intro a hE
           refine QL.v hE (runs_plain rfl) (Gives.pickT hE rfl hg117 rfl) rfl ?_; clear hE a; intro a hE
           refine QL.nil ?_; clear hS w; intro w hS
           subst hK116
           exact ⟨(x118.From != x127.Home), Option.some.inj hq111, hE.pick _ ⟨rfl, rfl, rfl, rfl, rfl, rfl, rfl, rfl, rfl, rfl, rfl, rfl, rfl, rfl, rfl, trivial⟩, hS⟩
          ·replace hq111 := iteF hg117 hq111
           refine QL.no hE (runs_not hE rfl rfl rfl (by rw [hg117]; decide)) rfl ?_; clear hE a; intro a hE
           refine QL.no hE (runs_not hE rfl rfl rfl (by rw [hg117]; decide)) rfl ?_; clear hE a; intro a hE
           refine QL.no hE (runs_not hE rfl rfl rfl (by rw [hg117]; decide)) rfl ?_; clear hE a; intro a hE
           refine QL.no hE (runs_not hE rfl rfl rfl (by rw [hg117]; decide)) rfl ?_; clear hE a; intro a hE
           refine QL.no hE (runs_not hE rfl rfl rfl (by rw [hg117]; decide)) rfl ?_; clear hE a; intro a hE
           refine QL.no hE (runs_not hE rfl rfl rfl (by rw [hg117]; decide)) rfl ?_; clear hE a; intro a hE
           refine QL.no hE (runs_not hE rfl rfl rfl (by rw [hg117]; decide)) rfl ?_; clear hE a; intro a hE
           refine QL.no hE (runs_not hE rfl rfl rfl (by rw [hg117]; decide)) rfl ?_; clear hE a; intro a hE
           refine QL.no hE (runs_not hE rfl rfl rfl (by rw [hg117]; decide)) rfl ?_; clear hE a; intro a hE
           refine QL.no hE (runs_not hE rfl rfl rfl (by rw [hg117]; decide)) rfl ?_; clear hE a; intro a hE
           refine QL.no hE (runs_not hE rfl rfl rfl (by rw [hg117]; decide)) rfl ?_; clear hE a; intro a hE
           refine QL.v hE (runs_plain rfl) (Gives.pickF hE rfl hg117 rfl) rfl ?_; clear hE a; intro a hE
           refine QL.nil ?_; clear hS w; intro w hS
           subst hK116
           exact ⟨false, Option.some.inj hq111, hE.pick _ ⟨rfl, rfl, rfl, rfl, rfl, rfl, rfl, rfl, rfl, rfl, rfl, rfl, rfl, rfl, rfl, trivial⟩, hS⟩
         ·clear hE hS a w; rintro a w ⟨q115, rfl, hE, hS⟩
          refine W.cond hE rfl (fun hc136 => ?_) (fun hc136 => ?_)
          ·replace hq79 := iteT hc136 hq79
           refine W.seq (W.region ?_)
           refine WL.vS hS hE (runs_plain rfl) (Gives.p hE rfl) rfl ?_; clear hE a; intro a hE
           refine WL.vS hS hE (runs_plain rfl) (Gives.p hE rfl) rfl ?_; clear hE a; intro a hE
           refine WL.nil ?_
           refine W.ret ?_
           subst hK91
           subst hK68
           rw [← Option.some.inj hq79] at hq56
           dsimp only at hq56
           rw [← Option.some.inj hq56] at hr
           dsimp only at hr
           replace hS := hS.vecNil 44 1
           refine finG (fn := Try.f16) (rs := [.tmp 10, .tmp 11]) (vs := [_, _]) hE rfl ⟨rfl, rfl, trivial⟩ ?_
           obtain rfl := Option.some.inj hr
           replace hS := hS.dropAt 1
           exact ⟨none, 0, 0, [], s, rfl, (Sg.Le.refl _), (Ev.nil), (rfl), hS⟩
          ·replace hq79 := iteF hc136 hq79
           refine W.skip ?_
           refine W.seq (W.region ?_)
           refine WL.vS hS hE (runs_plain rfl) (Gives.p hE rfl) rfl ?_; clear hE a; intro a hE
           refine WL.vS hS hE (runs_plain rfl) (Gives.p hE rfl) rfl ?_; clear hE a; intro a hE
           refine WL.nil ?_
           obtain ⟨q139, hq138, hq79⟩ := bindS hq79
           refine W.cut (fun a w => .next () = q139 ∧ Rep a 128 [(0, .slice a0 x0.length c0), (1, .slice a_v0 x1.length c_v0), (2, .slice a2 x2.length c2), (8, .pointer (some ⟨b51, 0, none⟩)), (13, .int .i64 ((k58 : Nat) : Int)), (14, .slice a74 x69.length c75), (35, .slice a_v0 x1.length c_v0), (36, .int .i64 ((x1.length : Nat) : Int)), (37, .int .i64 ((k58 : Nat) : Int)), (42, .slice a74 x69.length c75), (43, .int .i64 ((x69).length : Int)), (44, .int .i64 ((k81 : Nat) : Int))] ∧ St w s (pt b51 (.cells (FleetShop.cells x3).toArray 35 (0, 0)) :: nestC 44 3 1 a_v0 c_v0 x1.length ds_v0 :: R)) ?_ ?_
           ·refine W.gen fun K142 hK142 => ?_
            refine W.cond hE rfl (fun hc143 => ?_) (fun hc143 => ?_)
            ·replace hq138 := iteT hc143 hq138
             refine W.seq (W.region ?_)
             refine WL.vS hS hE (runs_plain rfl) (Gives.p hE rfl) rfl ?_; clear hE a; intro a hE
             refine WL.vS hS hE (runs_plain rfl) (Gives.p hE rfl) rfl ?_; clear hE a; intro a hE
             refine WL.vS hS hE (runs_plain rfl) (Gives.p hE rfl) rfl ?_; clear hE a; intro a hE
             refine WL.vS hS hE (runs_plain rfl) (Gives.p hE rfl) rfl ?_; clear hE a; intro a hE
             obtain ⟨x144, hx145, hq138⟩ := bindS hq138
             obtain ⟨hi146, hlt147, hy148⟩ := gx_some hx145
             obtain ⟨vs149, hl150, hR151, hd152, hget153⟩ := hev78.at hy148
             subst hR151
             refine WL.vS hS hE (runs_plain rfl) (Gives.idx hE ((w64 (((k81 : Nat) : Int) - 1)).toNat) rfl rfl sl44 hi146 hlt147 (hS.nnAok 1 rfl hd77 hlt147)) rfl ?_; clear hE a; intro a hE
             refine WL.vS hS hE (runs_plain rfl) (Gives.load1 hE rfl (fun w h => St.nnSees h 1 rfl hd77 ((w64 (((k81 : Nat) : Int) - 1)).toNat * 1) _ hget153) ty3) rfl ?_; clear hE a; intro a hE
             obtain ⟨x154, hx155, hq138⟩ := bindS hq138
             obtain ⟨hi156, hlt157, hy158⟩ := gx_some hx155
             obtain ⟨cs159, hl160, hR161, hat162⟩ := h0.at hy158
             subst hR161
             refine WL.vS hS hE (runs_plain rfl) (Gives.idx hE (x144).toNat rfl rfl sl32 hi156 hlt157 (h0.aok hlt157)) rfl ?_; clear hE a; intro a hE
             refine WL.vS hS hE (runs_plain rfl) (Gives.loadA hE rfl (fun w h => hat162 w _ h) ty78) rfl ?_; clear hE a; intro a hE
             refine WL.alloc hE hS (runs_plain rfl) zr78 rfl ?_; clear hE hS a w; intro b163 a w hE hS
             refine WL.storeI hE hS 0 rfl (FleetTask.cells x154) (runs_plain rfl) rfl rfl rfl ty78 rfl rfl rfl rfl ?_; clear hE hS a w; intro a w hE hS
             refine WL.nil ?_
             refine W.seq ?_
             obtain ⟨q165, hq164, hq138⟩ := bindS hq138
             refine W.cut (fun a w => ∃ (q168 : Bool), q168 = q165 ∧ Rep a 128 [(0, .slice a0 x0.length c0), (1, .slice a_v0 x1.length c_v0), (2, .slice a2 x2.length c2), (8, .pointer (some ⟨b51, 0, none⟩)), (13, .int .i64 ((k58 : Nat) : Int)), (14, .slice a74 x69.length c75), (35, .slice a_v0 x1.length c_v0), (36, .int .i64 ((x1.length : Nat) : Int)), (37, .int .i64 ((k58 : Nat) : Int)), (42, .slice a74 x69.length c75), (43, .int .i64 ((x69).length : Int)), (44, .int .i64 ((k81 : Nat) : Int)), (99, .bool q168)] ∧ St w s (pt b163 (.cells (FleetTask.cells x154).toArray 78 (0, 0)) :: pt b51 (.cells (FleetShop.cells x3).toArray 35 (0, 0)) :: nestC 44 3 1 a_v0 c_v0 x1.length ds_v0 :: R)) ?_ ?_
             ·refine W.gen fun K169 hK169 => ?_
              refine W.regionQ (C := fun w => St w s (pt b163 (.cells (FleetTask.cells x154).toArray 78 (0, 0)) :: pt b51 (.cells (FleetShop.cells x3).toArray 35 (0, 0)) :: nestC 44 3 1 a_v0 c_v0 x1.length ds_v0 :: R)) mixed (by kernel_rfl) hS.drew ?_
              refine QL.v hE (runs_plain rfl) (Gives.fld hE rfl fl78_1) rfl ?_; clear hE a; intro a hE
              refine QL.v hE (runs_plain rfl) (Gives.loadB hE 0 rfl rfl rfl ty3) rfl ?_; clear hE a; intro a hE
              refine QL.v hE (runs_plain rfl) (Gives.p hE rfl) rfl ?_; clear hE a; intro a hE
              refine QL.v hE (runs_plain rfl) (Gives.p hE rfl) rfl ?_; clear hE a; intro a hE
              obtain ⟨x170, hx171, hq164⟩ := bindS hq164
              obtain ⟨hi172, hlt173, hy174⟩ := gx_some hx171
              obtain ⟨cs175, hl176, hR177, hat178⟩ := h0.at hy174
              subst hR177
              refine QL.v hE (runs_plain rfl) (Gives.idx hE (x92).toNat rfl rfl sl32 hi172 hlt173 (h0.aok hlt173)) rfl ?_; clear hE a; intro a hE
              refine QL.v hE (runs_plain rfl) (Gives.fld hE rfl fl78_0) rfl ?_; clear hE a; intro a hE
              refine QL.v hE (runs_plain rfl) (Gives.load1 hE rfl (fun w h => (hat178 w _ h).one rfl) ty3) rfl ?_; clear hE a; intro a hE
              refine QL.v hE (runs_plain rfl) (Gives.p hE rfl) rfl ?_; clear hE a; intro a hE
              refine QL.v hE (runs_plain rfl) (Gives.p hE rfl) rfl ?_; clear hE a; intro a hE
              rcases Bool.eq_false_or_eq_true (x154.To != x170.From) with hg179 | hg179
              ·replace hq164 := iteT hg179 hq164
               refine QL.no hE (runs_not hE rfl rfl rfl (by rw [hg179]; decide)) rfl ?_; clear hE a; intro a hE
               refine QL.no hE (runs_not hE rfl rfl rfl (by rw [hg179]; decide)) rfl ?_; clear hE a; intro a hE
               refine QL.no hE (runs_not hE rfl rfl rfl (by rw [hg179]; decide)) rfl ?_; clear hE a; intro a hE
               refine QL.no hE (runs_not hE rfl rfl rfl (by rw [hg179]; decide)) rfl ?_; clear hE a; intro a hE
               refine QL.no hE (runs_not hE rfl rfl rfl (by rw [hg179]; decide)) rfl ?_; clear hE a; intro a hE
               refine QL.no hE (runs_not hE rfl rfl rfl (by rw [hg179]; decide)) rfl ?_; clear hE a; intro a hE
               refine QL.no hE (runs_not hE rfl rfl rfl (by rw [hg179]; decide)) rfl ?_; clear hE a; intro a hE
               refine QL.no hE (runs_not hE rfl rfl rfl (by rw [hg179]; decide)) rfl ?_; clear hE a; intro a hE
               refine QL.v hE (runs_plain rfl) (Gives.pickT hE rfl hg179 rfl) rfl ?_; clear hE a; intro a hE
               refine QL.nil ?_; clear hS w; intro w hS
               subst hK169
               exact ⟨true, Option.some.inj hq164, hE.pick _ ⟨rfl, rfl, rfl, rfl, rfl, rfl, rfl, rfl, rfl, rfl, rfl, rfl, rfl, trivial⟩, hS⟩
              ·replace hq164 := iteF hg179 hq164
               refine QL.v hE (runs_if hE rfl rfl rfl hg179) (Gives.p hE rfl) rfl ?_; clear hE a; intro a hE
               refine QL.v hE (runs_if hE rfl rfl rfl hg179) (Gives.p hE rfl) rfl ?_; clear hE a; intro a hE
               obtain ⟨x180, hx181, hq164⟩ := bindS hq164
               obtain ⟨hi182, hlt183, hy184⟩ := gx_some hx181
               obtain ⟨cs185, hl186, hR187, hat188⟩ := h0.at hy184
               subst hR187
               refine QL.v hE (runs_if hE rfl rfl rfl hg179) (Gives.idx hE (x92).toNat rfl rfl sl32 hi182 hlt183 (h0.aok hlt183)) rfl ?_; clear hE a; intro a hE
               refine QL.v hE (runs_if hE rfl rfl rfl hg179) (Gives.fld hE rfl fl78_2) rfl ?_; clear hE a; intro a hE
               refine QL.v hE (runs_if hE rfl rfl rfl hg179) (Gives.load1 hE rfl (fun w h => (hat188 w _ h).one rfl) ty3) rfl ?_; clear hE a; intro a hE
               refine QL.v hE (runs_if hE rfl rfl rfl hg179) (Gives.fld hE rfl fl78_3) rfl ?_; clear hE a; intro a hE
               refine QL.v hE (runs_if hE rfl rfl rfl hg179) (Gives.loadB hE 0 rfl rfl rfl ty3) rfl ?_; clear hE a; intro a hE
               refine QL.v hE (runs_if hE rfl rfl rfl hg179) (Gives.p hE rfl) rfl ?_; clear hE a; intro a hE
               refine QL.v hE (runs_plain rfl) (Gives.pickF hE rfl hg179 rfl) rfl ?_; clear hE a; intro a hE
               refine QL.nil ?_; clear hS w; intro w hS
               subst hK169
               exact ⟨decide (x180.Dep < x154.Arr), Option.some.inj hq164, hE.pick _ ⟨rfl, rfl, rfl, rfl, rfl, rfl, rfl, rfl, rfl, rfl, rfl, rfl, rfl, trivial⟩, hS⟩
             ·clear hE hS a w; rintro a w ⟨q168, rfl, hE, hS⟩
              refine W.cond hE rfl (fun hc189 => ?_) (fun hc189 => ?_)
              ·replace hq138 := iteT hc189 hq138
               refine W.seq (W.region ?_)
               refine WL.vS hS hE (runs_plain rfl) (Gives.p hE rfl) rfl ?_; clear hE a; intro a hE
               refine WL.vS hS hE (runs_plain rfl) (Gives.p hE rfl) rfl ?_; clear hE a; intro a hE
               refine WL.nil ?_
               refine W.ret ?_
               subst hK142
               subst hK91
               subst hK68
               rw [← Option.some.inj hq138] at hq79
               dsimp only at hq79
               rw [← Option.some.inj hq79] at hq56
               dsimp only at hq56
               rw [← Option.some.inj hq56] at hr
               dsimp only at hr
               replace hS := hS.vecNil 44 1
               refine finG (fn := Try.f16) (rs := [.tmp 10, .tmp 11]) (vs := [_, _]) hE rfl ⟨rfl, rfl, trivial⟩ ?_
               obtain rfl := Option.some.inj hr
               replace hS := hS.dropAt 1
               replace hS := hS.dropAt 1
               exact ⟨none, 0, 0, [], s, rfl, (Sg.Le.refl _), (Ev.nil), (rfl), hS⟩
              ·replace hq138 := iteF hc189 hq138
               refine W.skip ?_
               replace hS := hS.tail
               subst hK142
               exact ⟨Option.some.inj hq138, hE.pick _ ⟨rfl, rfl, rfl, rfl, rfl, rfl, rfl, rfl, rfl, rfl, rfl, rfl, trivial⟩, hS⟩
            ·replace hq138 := iteF hc143 hq138
             refine W.skip ?_
             subst hK142
             exact ⟨Option.some.inj hq138, hE.pick _ ⟨rfl, rfl, rfl, rfl, rfl, rfl, rfl, rfl, rfl, rfl, rfl, rfl, trivial⟩, hS⟩
           ·clear hE hS a w; rintro a w ⟨rfl, hE, hS⟩
            dsimp only at hq79
            refine W.region ?_
            refine WL.vS hS hE (runs_plain rfl) (Gives.inc hE rfl (by omega)) rfl ?_; clear hE a; intro a hE
            refine WL.vS hS hE (runs_plain rfl) (Gives.p hE rfl) rfl ?_; clear hE a; intro a hE
            refine WL.nil ?_
            subst hK91
            exact ⟨rest83, Nat.lt_succ_self _, rest83, k81 + 1, rfl, (by omega), hq79, hE.pick _ ⟨rfl, rfl, rfl, rfl, rfl, rfl, rfl, rfl, rfl, rfl, rfl, rfl, trivial⟩, hS⟩
     ·clear hE hS a w; rintro a w ⟨rfl, hE, hS⟩
      dsimp only at hq56
      refine W.region ?_
      refine WL.vS hS hE (runs_plain rfl) (Gives.inc hE rfl (by omega)) rfl ?_; clear hE a; intro a hE
      refine WL.vS hS hE (runs_plain rfl) (Gives.p hE rfl) rfl ?_; clear hE a; intro a hE
      refine WL.nil ?_
      subst hK68
      exact ⟨rest60, Nat.lt_succ_self _, rest60, k58 + 1, rfl, (by omega), hq56, hE.pick _ ⟨rfl, rfl, rfl, rfl, rfl, rfl, rfl, trivial⟩, hS⟩
   ·clear hE hS a w; rintro a w ⟨rfl, hE, hS⟩
    dsimp only at hr
    refine W.seq (W.region ?_)
    replace hS := hS.vecNil 44 1
    refine WL.vS hS hE (runs_plain rfl) (Gives.p hE rfl) rfl ?_; clear hE a; intro a hE
    refine WL.nil ?_
    refine W.seq ?_
    refine W.seq (W.region ?_)
    refine WL.vS hS hE (runs_plain rfl) (Gives.p hE rfl) rfl ?_; clear hE a; intro a hE
    refine WL.vS hS hE (runs_plain rfl) (Gives.len hE rfl sl25) rfl ?_; clear hE a; intro a hE
    refine WL.vS hS hE (runs_plain rfl) (Gives.p hE rfl) rfl ?_; clear hE a; intro a hE
    refine WL.nil ?_
    have hb203 : x1.length ≤ 9223372036854775807 := by have := hS.nCap 2 rfl; unfold maxLen at this; omega
    obtain ⟨q193, hq192, hr⟩ := bindS hr
    refine W.cut (fun a w => ∃ (q204 : List (List Int)), ∃ (a205 : Option Addr), ∃ (c206 : Nat), ∃ (n208 : Nat), ∃ (cs209 : List Value), ∃ (s201 : Sg), s.Le s201 ∧ (.next q204) = q193 ∧ Ev 1 (RL 1 (RI .i64)) s201 cs209 q204 ∧ q204.length = n208 ∧ Rep a 128 [(18, .slice a205 n208 c206)] ∧ St w s201 (vecC 44 1 a205 c206 n208 cs209 :: pt b51 (.cells (FleetShop.cells x3).toArray 35 (0, 0)) :: nestC 44 3 1 a_v0 c_v0 x1.length ds_v0 :: R)) ?_ ?_
    ·refine W.block ?_
     refine W.loop (fun m a w => ∃ (rest196 : Nat) (k194 : Nat), ∃ (q204 : List (List Int)), ∃ (a205 : Option Addr), ∃ (c206 : Nat), ∃ (n208 : Nat), ∃ (cs209 : List Value), ∃ (s201 : Sg), rest196 = m ∧ k194 + rest196 = x1.length ∧ s.Le s201 ∧ Fishref2InspectOf_v1.loop3 x0 x1 x2 x3 fu rest196 k194 q204 = some q193 ∧ Ev 1 (RL 1 (RI .i64)) s201 cs209 q204 ∧ q204.length = n208 ∧ Rep a 128 [(0, .slice a0 x0.length c0), (2, .slice a2 x2.length c2), (8, .pointer (some ⟨b51, 0, none⟩)), (18, .slice a205 n208 c206), (102, .slice a_v0 x1.length c_v0), (103, .int .i64 ((x1.length : Nat) : Int)), (104, .int .i64 ((k194 : Nat) : Int))] ∧ St w s201 (vecC 44 1 a205 c206 n208 cs209 :: pt b51 (.cells (FleetShop.cells x3).toArray 35 (0, 0)) :: nestC 44 3 1 a_v0 c_v0 x1.length ds_v0 :: R)) (m := x1.length) ⟨x1.length, 0, [], none, 0, 0, [], s, rfl, by omega, (Sg.Le.refl _), hq192, (Ev.nil), (rfl), hE.pick _ ⟨rfl, rfl, rfl, rfl, rfl, rfl, rfl, trivial⟩, hS⟩ ?_
     clear hE hS a w hq192; rintro m200 a w ⟨rest196, k194, q204, a205, c206, n208, cs209, s201, rfl, hd197, hle202, hq192, h207, rfl, hE, hS⟩
     refine W.gen fun K211 hK211 => ?_
     replace h0 := Sl.mono RFleetTask.mono hle202 h0
     replace h2 := Sl.mono RFleetSet.mono hle202 h2
     replace h_v0 := NEv.mono RI.mono hle202 h_v0
     rcases rest196 with _ | rest196
     ·skip
      refine W.seq (W.region ?_)
      refine WL.vS hS hE (runs_plain rfl) (Gives.p hE rfl) rfl ?_; clear hE a; intro a hE
      refine WL.nil ?_
      refine W.seq ?_
      refine W.condF hE rfl (decide_eq_false (by omega)) ?_
      subst hK211
      refine W.exit rfl ?_
      exact ⟨q204, a205, c206, q204.length, cs209, s201, hle202, Option.some.inj hq192, h207, rfl, hE.pick _ ⟨rfl, trivial⟩, hS⟩
     ·have hlt198 : k194 < x1.length := by omega
      rw [Fishref2InspectOf_v1.loop3] at hq192
      refine W.seq (W.region ?_)
      refine WL.vS hS hE (runs_plain rfl) (Gives.p hE rfl) rfl ?_; clear hE a; intro a hE
      refine WL.nil ?_
      refine W.seq ?_
      refine W.condT hE rfl (decide_eq_true (by omega)) ?_
      refine W.skip ?_
      refine W.seq ?_
      refine W.block ?_
      refine W.seq (W.region ?_)
      refine WL.vS hS hE (runs_plain rfl) (Gives.p hE rfl) rfl ?_; clear hE a; intro a hE
      obtain ⟨x212, hx213, hq192⟩ := bindS hq192
      obtain ⟨hi214, hlt215, hy216⟩ := gx_some hx213
      obtain ⟨a217, c218, cs219, hd220, hev221⟩ := h_v0.at hy216
      refine WL.vS hS hE (runs_plain rfl) (Gives.idx hE ((((k194 : Nat) : Int)).toNat) rfl rfl sl25 hi214 (by omega) (hS.nAok 2 rfl (by omega : (((k194 : Nat) : Int)).toNat < x1.length))) rfl ?_; clear hE a; intro a hE
      refine WL.vS hS hE (runs_plain rfl) (Gives.load1 (v := .slice a217 x212.length c218) hE rfl (fun w h => St.nSees h 2 rfl hd220) ty44) rfl ?_; clear hE a; intro a hE
      refine WL.vS hS hE (runs_plain rfl) (Gives.p hE rfl) rfl ?_; clear hE a; intro a hE
      refine WL.vS hS hE (runs_plain rfl) (Gives.p hE rfl) rfl ?_; clear hE a; intro a hE
      refine WL.nil ?_
      refine W.seq ?_
      refine W.gen fun K222 hK222 => ?_
      refine W.regionE (sel (fun w => St w s201 (vecC 44 1 a205 c206 q204.length cs209 :: pt b51 (.cells (FleetShop.cells x3).toArray 35 (0, 0)) :: nestC 44 3 1 a_v0 c_v0 x1.length ds_v0 :: R)) (fun w => St w s201 (vecC 44 1 a205 c206 q204.length cs209 :: pt b51 (.cells (FleetShop.cells x3).toArray 35 (0, 0)) :: nestC 44 3 1 a_v0 c_v0 x1.length ds_v0 :: R))) (fun b i => cond b ([0, 1, 2, 3, 4, 5, 6, 7, 8, 9, 10, 11, 12].contains i) ([0, 1, 2, 3, 4, 5, 6, 7, 8, 9, 10, 11, 12].contains i)) mixed ?_
      replace hS := hS.drew
      refine Rg.takeP (i := 0) hE rfl (by kernel_rfl) (runs_plain rfl) (Gives.p hE rfl) rfl (tw_sel (fun _ => hS) (fun _ => hS)) ?_; clear hE a; intro a hE
      refine Rg.takeP (i := 1) hE rfl (by kernel_rfl) (runs_plain rfl) (Gives.p hE rfl) rfl (tw_sel (fun _ => hS) (fun _ => hS)) ?_; clear hE a; intro a hE
      refine Rg.takeP (i := 2) hE rfl (by kernel_rfl) (runs_plain rfl) (Gives.p hE rfl) rfl (tw_sel (fun _ => hS) (fun _ => hS)) ?_; clear hE a; intro a hE
      refine Rg.takeP (i := 3) hE rfl (by kernel_rfl) (runs_plain rfl) (Gives.p hE rfl) rfl (tw_sel (fun _ => hS) (fun _ => hS)) ?_; clear hE a; intro a hE
      obtain ⟨x223, hx224, hq192⟩ := bindS hq192
      obtain ⟨hi225, hlt226, hy227⟩ := gx_some hx224
      obtain ⟨cs228, hl229, hR230, hat231⟩ := h2.at hy227
      subst hR230
      refine Rg.takeP (i := 4) hE rfl (by kernel_rfl) (runs_plain rfl) (Gives.idx hE (((k194 : Nat) : Int)).toNat rfl rfl sl33 hi225 hlt226 (h2.aok hlt226)) rfl (tw_sel (fun _ => hS) (fun _ => hS)) ?_; clear hE a; intro a hE
      have hT := tw_sel (A := fun w => St w s201 _) (B := fun w => St w s201 _) (w := _) (x := true) (y := true) (fun _ => hS) (fun _ => hS)
      have hF := hS; replace hS := hS
      refine Rg.take (i := 5) true rfl hE rfl (by kernel_rfl) (runs_plain rfl) (Gives.loadA hE rfl (fun w h => hat231 w _ h) ty84) rfl hT ?_; clear hE a; intro a hE
      replace hS := hF; clear hF hT
      have hT := tw_sel (A := fun w => St w s201 _) (B := fun w => St w s201 _) (w := _) (x := true) (y := true) (fun _ => hS) (fun _ => hS)
      have hF := hS; replace hS := hS
      refine Rg.take (i := 6) true rfl hE rfl (by kernel_rfl) (runs_plain rfl) (Gives.loadBA hE 1 rfl rfl ty35) rfl hT ?_; clear hE a; intro a hE
      replace hS := hF; clear hF hT
      refine Rg.one (i := 7) true true rfl (by kernel_rfl) (by kernel_rfl) (by kernel_rfl) ?_
      replace hS := hS.borrowM 2 rfl hd220
      obtain ⟨q233, hq234, hq192⟩ := bindS hq192
      have hF := hS.lendV RI.mono 0 rfl hev221 (rfl); clear hS; obtain ⟨t241, hle242, hS, hs243, bk244⟩ := hF
      have hc_ := Fishref2positions_ok hS (Sl.mono RFleetTask.mono hle242 h0) hs243 hq234
      refine WL.fnq hE (hc_) (runs_plain rfl) bd59 rfl rfl rfl ?_
      clear hE hS hc_; rintro e w ⟨a235, c236, n237, cs238, rfl, h239, rfl, hS⟩; refine ⟨_, rfl, ?_⟩; clear a; intro a hE
      replace hS := bk244 _ _ hS
      replace h239 := Ev.flat (s2 := s201) (fun _ _ _ _ h => h) h239
      replace hS := hS.giveBack0 3 rfl hd220
      refine WL.nil ?_
      refine ⟨⟨fun _ => (hS.tail), fun _ => (hS.tail)⟩, ?_⟩
      refine Rg.takeP (i := 8) hE rfl (by kernel_rfl) (runs_plain rfl) (Gives.p hE rfl) rfl (tw_sel (fun _ => (hS.tail)) (fun _ => (hS.tail))) ?_; clear hE a; intro a hE
      refine Rg.takeP (i := 9) hE rfl (by kernel_rfl) (runs_plain rfl) (Gives.p hE rfl) rfl (tw_sel (fun _ => (hS.tail)) (fun _ => (hS.tail))) ?_; clear hE a; intro a hE
      refine Rg.takeP (i := 10) hE rfl (by kernel_rfl) (runs_plain rfl) (Gives.p hE rfl) rfl (tw_sel (fun _ => (hS.tail)) (fun _ => (hS.tail))) ?_; clear hE a; intro a hE
      refine Rg.takeP (i := 11) hE rfl (by kernel_rfl) (runs_plain rfl) (Gives.p hE rfl) rfl (tw_sel (fun _ => (hS.tail)) (fun _ => (hS.tail))) ?_; clear hE a; intro a hE
      refine Rg.takeP (i := 12) hE rfl (by kernel_rfl) (runs_plain rfl) (Gives.p hE rfl) rfl (tw_sel (fun _ => (hS.tail)) (fun _ => (hS.tail))) ?_; clear hE a; intro a hE
      refine Rg.done (by kernel_rfl) ?_
      subst hK222
      refine W.seq ?_
      refine W.seq (W.region ?_)
      refine WL.vS hS hE (runs_plain rfl) (Gives.p hE rfl) rfl ?_; clear hE a; intro a hE
      refine WL.vS hS hE (runs_plain rfl) (Gives.p hE rfl) rfl ?_; clear hE a; intro a hE
      refine WL.nil ?_
      refine W.cond hE rfl (fun hc245 => ?_) (fun hc245 => ?_)
      ·replace hq192 := iteT hc245 hq192
       refine W.seq (W.region ?_)
       refine WL.vS hS hE (runs_plain rfl) (Gives.p hE rfl) rfl ?_; clear hE a; intro a hE
       refine WL.vS hS hE (runs_plain rfl) (Gives.p hE rfl) rfl ?_; clear hE a; intro a hE
       refine WL.nil ?_
       refine W.ret ?_
       subst hK211
       rw [← Option.some.inj hq192] at hr
       dsimp only at hr
       replace hS := hS.vecNil 44 1
       refine finG (fn := Try.f16) (rs := [.tmp 10, .tmp 11]) (vs := [_, _]) hE rfl ⟨rfl, rfl, trivial⟩ ?_
       obtain rfl := Option.some.inj hr
       replace hS := hS.dropAt 1
       replace hS := hS.dropAt 1
       replace hS := hS.dropAt 1
       exact ⟨none, 0, 0, [], s201, rfl, hle202, (Ev.nil), (rfl), hS⟩
      ·replace hq192 := iteF hc245 hq192
       refine W.skip ?_
       refine W.region ?_
       refine WL.vS hS hE (runs_plain rfl) (Gives.p hE rfl) rfl ?_; clear hE a; intro a hE
       refine WL.vS hS hE (runs_plain rfl) (Gives.p hE rfl) rfl ?_; clear hE a; intro a hE
       have hF := hS.fixD RI.mono 0 rfl h239 rfl; clear hS; obtain ⟨s247, hle248, hS, h249⟩ := hF
       replace h0 := Sl.mono RFleetTask.mono hle248 h0
       replace h2 := Sl.mono RFleetSet.mono hle248 h2
       replace h207 := Ev.mono (RL.mono RI.mono) hle248 h207
       replace h_v0 := NEv.mono RI.mono hle248 h_v0
       replace hev221 := Ev.mono RI.mono hle248 hev221
       refine WL.lit hE hS (e := 44) (es := 1) (vs := [(0, .slice a235 q233.1.length c236)]) (cs := [.slice a235 q233.1.length c236]) (runs_plain rfl) rfl (by kernel_rfl) rfl ?_; clear hE hS a w; intro b250 a w hE hS
       obtain ⟨x251, hx252, hq192⟩ := bindS hq192
       refine WL.appD hE hS 0 (m := 1) (runs_plain rfl) rfl rfl rfl ap25 rfl h207 rfl (xs := [q233.1]) (Ev.cons (c1 := [.slice a235 q233.1.length c236]) ⟨_, _, rfl, h249⟩ rfl (Ev.nil)) rfl rfl hx252 rfl ?_; clear hE hS a w; intro a253 c254 cs255 a w h256 hE hS
       refine WL.vS hS hE (runs_plain rfl) (Gives.p hE rfl) rfl ?_; clear hE a; intro a hE
       refine WL.nil ?_
       refine W.region ?_
       refine WL.vS hS hE (runs_plain rfl) (Gives.inc hE rfl (by omega)) rfl ?_; clear hE a; intro a hE
       refine WL.vS hS hE (runs_plain rfl) (Gives.p hE rfl) rfl ?_; clear hE a; intro a hE
       refine WL.nil ?_
       subst hK211
       exact ⟨rest196, Nat.lt_succ_self _, rest196, k194 + 1, x251, a253, c254, x251.length, cs255, s247, rfl, (by omega), (Sg.Le.trans hle202 hle248), hq192, h256, (rfl), hE.pick _ ⟨rfl, rfl, rfl, rfl, rfl, rfl, rfl, trivial⟩, hS⟩
    ·clear hE hS a w; rintro a w ⟨q204, a205, c206, n208, cs209, s201, hle202, rfl, h207, rfl, hE, hS⟩
     dsimp only at hr
     replace h0 := Sl.mono RFleetTask.mono hle202 h0
     replace h2 := Sl.mono RFleetSet.mono hle202 h2
     replace h_v0 := NEv.mono RI.mono hle202 h_v0
     refine W.seq (W.region ?_)
     refine WL.vS hS hE (runs_plain rfl) (Gives.p hE rfl) rfl ?_; clear hE a; intro a hE
     refine WL.vS hS hE (runs_plain rfl) (Gives.p hE rfl) rfl ?_; clear hE a; intro a hE
     refine WL.vS hS hE (runs_plain rfl) (Gives.p hE rfl) rfl ?_; clear hE a; intro a hE
     refine WL.nil ?_
     refine W.ret ?_
     refine finG (fn := Try.f16) (rs := [.tmp 10, .tmp 11]) (vs := [_, _]) hE rfl ⟨rfl, rfl, trivial⟩ ?_
     obtain rfl := Option.some.inj hr
     replace hS := hS.dropAt 1
     exact ⟨a205, c206, q204.length, cs209, s201, rfl, hle202, h207, rfl, hS⟩
set_option maxHeartbeats 8000000 in
theorem Fishref2choices_1_v1_ok : ∀ {fu : Nat} {w : World} {s : Sg} {R : List HP} {pb0 : Nat} {pb1 : Nat} {pb2 : Nat} {pb3 : Nat} {x0 : List Int} {a_v0 : Option Addr} {c_v0 n_v0 : Nat} {cs_v0 : List Value} {x1 : Int} {y0 : Int} {y1 : List (List Int)} {a_v1 : Option Addr} {c_v1 n_v1 : Nat} {cs_v1 : List Value} {y2 : Int} (_hS : St w s (pt pb0 (.cells #[.int .i64 y0] 3 (0, 0)) :: pt pb1 (.cells #[.slice a_v1 n_v1 c_v1] 25 (0, 0)) :: pt pb2 (.cells #[.int .i64 y2] 3 (0, 0)) :: pt pb3 (.cells #[.func (.func 107) #[] #[.pointer (some ⟨pb0, 0, none⟩), .pointer (some ⟨pb1, 0, none⟩), .pointer (some ⟨pb2, 0, none⟩), .pointer (some ⟨pb3, 0, none⟩)]] 140 (0, 0)) :: vecC 3 1 a_v0 c_v0 n_v0 cs_v0 :: vecC 44 1 a_v1 c_v1 n_v1 cs_v1 :: R)) (_h_v0 : Ev 1 (RI .i64) s cs_v0 x0) (_hn_v0 : x0.length = n_v0) (_h_v1 : Ev 1 (RL 1 (RI .i64)) s cs_v1 y1) (_hn_v1 : y1.length = n_v1) {r : (List (List Int))} (_hr : Fishref2choices_1_v1 fu x0 x1 y0 y1 y2 = some r),
  Calls Try.prog 107 [.slice a_v0 n_v0 c_v0, .int .i64 x1, .pointer (some ⟨pb0, 0, none⟩), .pointer (some ⟨pb1, 0, none⟩), .pointer (some ⟨pb2, 0, none⟩), .pointer (some ⟨pb3, 0, none⟩)].toArray w (fun e w => ∃ (a59 : Option Addr) (c60 : Nat) (n62 : Nat) (cs63 : List Value) (t : Sg), e = .returned (.tuple #[]) ∧ s.Le t ∧ Ev 1 (RL 1 (RI .i64)) t cs63 r ∧ r.length = n62 ∧ St w t (pt pb0 (.cells #[.int .i64 y0] 3 (0, 0)) :: pt pb1 (.cells #[.slice a59 n62 c60] 25 (0, 0)) :: pt pb2 (.cells #[.int .i64 y2] 3 (0, 0)) :: pt pb3 (.cells #[.func (.func 107) #[] #[.pointer (some ⟨pb0, 0, none⟩), .pointer (some ⟨pb1, 0, none⟩), .pointer (some ⟨pb2, 0, none⟩), .pointer (some ⟨pb3, 0, none⟩)]] 140 (0, 0)) :: vecC 3 1 a_v0 c_v0 n_v0 cs_v0 :: vecC 44 1 a59 c60 n62 cs63 :: R)) := by
 intro fu
 induction fu with
 | zero => intro w s R pb0 pb1 pb2 pb3 x0 a_v0 c_v0 n_v0 cs_v0 x1 y0 y1 a_v1 c_v1 n_v1 cs_v1 y2 hS h_v0 hn_v0 h_v1 hn_v1 r hr; rw [Fishref2choices_1_v1] at hr; exact absurd hr (by simp)
 | succ fu ih_Fishref2choices_1_v1 =>
  intro w s R pb0 pb1 pb2 pb3 x0 a_v0 c_v0 n_v0 cs_v0 x1 y0 y1 a_v1 c_v1 n_v1 cs_v1 y2 hS h_v0 hn_v0 h_v1 hn_v1 r hr
  rw [Fishref2choices_1_v1] at hr
  generalize Fishref2choices_1_v1 fu = self_Fishref2choices_1_v1 at hr ih_Fishref2choices_1_v1
  refine enter Try.func107 rfl rfl rfl fun a hE => ?_
  subst hn_v0
  subst hn_v1
  refine W.seq ?_
  refine W.seq (W.region ?_)
  refine WL.vS hS hE (runs_plain rfl) (Gives.p hE rfl) rfl ?_; clear hE a; intro a hE
  refine WL.vS hS hE (runs_plain rfl) (Gives.len hE rfl sl44) rfl ?_; clear hE a; intro a hE
  refine WL.vS hS hE (runs_plain rfl) (Gives.loadB hE 0 rfl rfl rfl ty3) rfl ?_; clear hE a; intro a hE
  refine WL.vS hS hE (runs_plain rfl) (Gives.p hE rfl) rfl ?_; clear hE a; intro a hE
  refine WL.nil ?_
  refine W.cond hE rfl (fun hc65 => ?_) (fun hc65 => ?_)
  ·replace hr := iteT hc65 hr
   refine W.seq ?_
   refine W.gen fun K66 hK66 => ?_
   refine W.regionE (sel (fun w => St w s (pt pb0 (.cells #[.int .i64 y0] 3 (0, 0)) :: pt pb1 (.cells #[.slice a_v1 y1.length c_v1] 25 (0, 0)) :: pt pb2 (.cells #[.int .i64 y2] 3 (0, 0)) :: pt pb3 (.cells #[.func (.func 107) #[] #[.pointer (some ⟨pb0, 0, none⟩), .pointer (some ⟨pb1, 0, none⟩), .pointer (some ⟨pb2, 0, none⟩), .pointer (some ⟨pb3, 0, none⟩)]] 140 (0, 0)) :: vecC 3 1 a_v0 c_v0 x0.length cs_v0 :: vecC 44 1 a_v1 c_v1 y1.length cs_v1 :: R)) (fun w => St w s (pt pb0 (.cells #[.int .i64 y0] 3 (0, 0)) :: pt pb1 (.cells #[.slice a_v1 y1.length c_v1] 25 (0, 0)) :: pt pb2 (.cells #[.int .i64 y2] 3 (0, 0)) :: pt pb3 (.cells #[.func (.func 107) #[] #[.pointer (some ⟨pb0, 0, none⟩), .pointer (some ⟨pb1, 0, none⟩), .pointer (some ⟨pb2, 0, none⟩), .pointer (some ⟨pb3, 0, none⟩)]] 140 (0, 0)) :: vecC 3 1 a_v0 c_v0 x0.length cs_v0 :: R))) (fun b i => cond b ([0, 1, 2, 3].contains i) ([0, 1, 2, 3, 4].contains i)) mixed ?_
   replace hS := hS.drew
   have hT := tw_sel (A := fun w => St w s _) (B := fun w => St w s _) (w := _) (x := true) (y := true) (fun _ => hS) (fun _ => (hS.dropAt 5))
   have hF := hS; replace hS := hS
   refine Rg.take (i := 0) true rfl hE rfl (by kernel_rfl) (runs_plain rfl) (Gives.loadB hE 1 rfl rfl rfl ty25) rfl hT ?_; clear hE a; intro a hE
   replace hS := hF; clear hF hT
   refine Rg.takeP (i := 1) hE rfl (by kernel_rfl) (runs_plain rfl) (Gives.p hE rfl) rfl (tw_sel (fun _ => hS) (fun _ => (hS.dropAt 5))) ?_; clear hE a; intro a hE
   refine Rg.one (i := 2) true true rfl (by kernel_rfl) (by kernel_rfl) (by kernel_rfl) ?_
   obtain ⟨q67, hq68, hr⟩ := bindS hr
   have hF := hS.lendV RI.mono 4 rfl h_v0 (rfl); clear hS; obtain ⟨t75, hle76, hS, hs77, bk78⟩ := hF
   have hc_ := SlicesCloneLint_ok hS hs77 hq68
   refine WL.fnq hE (hc_) (runs_plain rfl) bd41 rfl rfl rfl ?_
   clear hE hS hc_; rintro e w ⟨a69, c70, n71, cs72, rfl, h73, rfl, hS⟩; refine ⟨_, rfl, ?_⟩; clear a; intro a hE
   replace hS := bk78 _ _ hS
   replace h73 := Ev.flat (s2 := s) (fun _ _ _ _ h => h) h73
   refine WL.nil ?_
   refine ⟨⟨fun _ => (St.front (St.front (St.front (St.front (St.front (St.front (hS.dropAt 1) 5 rfl) 1 rfl) 5 rfl) 5 rfl) 5 rfl) 5 rfl), fun _ => (St.front (St.front (St.front (St.front ((hS.dropAt 1).dropAt 5) 4 rfl) 4 rfl) 4 rfl) 4 rfl)⟩, ?_⟩
   refine Rg.one (i := 3) true true rfl (by kernel_rfl) (by kernel_rfl) (by kernel_rfl) ?_
   have hF := hS.fixD RI.mono 1 rfl h73 rfl; clear hS; obtain ⟨s79, hle80, hS, h81⟩ := hF
   replace h_v0 := Ev.mono RI.mono hle80 h_v0
   replace h_v1 := Ev.mono (RL.mono RI.mono) hle80 h_v1
   refine WL.lit hE hS (e := 44) (es := 1) (vs := [(0, .slice a69 q67.length c70)]) (cs := [.slice a69 q67.length c70]) (runs_plain rfl) rfl (by kernel_rfl) rfl ?_; clear hE hS a w; intro b82 a w hE hS
   refine WL.nil ?_
   refine ⟨⟨fun _ => (St.down hle80 (St.front (St.front (St.front (St.front (St.front (St.front (hS.tail) 5 rfl) 1 rfl) 5 rfl) 5 rfl) 5 rfl) 5 rfl)), fun _ => (St.down hle80 (St.front (St.front (St.front (St.front ((hS.tail).dropAt 5) 4 rfl) 4 rfl) 4 rfl) 4 rfl))⟩, ?_⟩
   refine Rg.one (i := 4) false true rfl (by kernel_rfl) (by kernel_rfl) (by kernel_rfl) ?_
   obtain ⟨x83, hx84, hr⟩ := bindS hr
   refine WL.appD hE hS 5 (m := 1) (runs_plain rfl) rfl rfl rfl ap25 rfl h_v1 (rfl) (xs := [q67]) (Ev.cons (c1 := [.slice a69 q67.length c70]) ⟨_, _, rfl, h81⟩ rfl (Ev.nil)) rfl rfl hx84 rfl ?_; clear hE hS a w; intro a85 c86 cs87 a w h88 hE hS
   refine WL.nil ?_
   refine ⟨⟨fun h => absurd h (by decide), fun _ => (St.down hle80 (St.front (St.front (St.front (St.front (hS.dropAt 5) 4 rfl) 4 rfl) 4 rfl) 4 rfl))⟩, ?_⟩
   refine Rg.one (i := 5) false false rfl (by kernel_rfl) (by kernel_rfl) (by kernel_rfl) ?_
   refine WL.storeI hE hS 2 rfl [.slice a85 x83.length c86] (runs_plain rfl) rfl rfl rfl ty25 rfl rfl rfl rfl ?_; clear hE hS a w; intro a w hE hS
   refine WL.nil ?_
   refine ⟨⟨fun h => absurd h (by decide), fun h => absurd h (by decide)⟩, ?_⟩
   refine Rg.done (by kernel_rfl) ?_
   subst hK66
   refine W.ret ?_
   refine finG (fn := Try.f107) (rs := []) (vs := []) hE rfl trivial ?_
   obtain rfl := Option.some.inj hr
   replace hS := hS.front 5 rfl
   replace hS := hS.front 1 rfl
   replace hS := hS.front 5 rfl
   replace hS := hS.front 5 rfl
   replace hS := hS.front 5 rfl
   replace hS := hS.front 5 rfl
   exact ⟨a85, c86, x83.length, cs87, s79, rfl, hle80, h88, (rfl), hS⟩
  ·replace hr := iteF hc65 hr
   refine W.skip ?_
   refine W.seq (W.region ?_)
   refine WL.vS hS hE (runs_plain rfl) (Gives.p hE rfl) rfl ?_; clear hE a; intro a hE
   refine WL.vS hS hE (runs_plain rfl) (Gives.p hE rfl) rfl ?_; clear hE a; intro a hE
   refine WL.nil ?_
   obtain ⟨q90, hq89, hr⟩ := bindS hr
   refine W.cut (fun a w => ∃ (q95 : Int), ∃ (q96 : List (List Int)), ∃ (a97 : Option Addr), ∃ (c98 : Nat), ∃ (n100 : Nat), ∃ (cs101 : List Value), ∃ (s93 : Sg), s.Le s93 ∧ (q95, q96) = q90 ∧ Ev 1 (RL 1 (RI .i64)) s93 cs101 q96 ∧ q96.length = n100 ∧ Rep a 32 [] ∧ St w s93 (pt pb0 (.cells #[.int .i64 y0] 3 (0, 0)) :: pt pb1 (.cells #[.slice a97 n100 c98] 25 (0, 0)) :: pt pb2 (.cells #[.int .i64 y2] 3 (0, 0)) :: pt pb3 (.cells #[.func (.func 107) #[] #[.pointer (some ⟨pb0, 0, none⟩), .pointer (some ⟨pb1, 0, none⟩), .pointer (some ⟨pb2, 0, none⟩), .pointer (some ⟨pb3, 0, none⟩)]] 140 (0, 0)) :: vecC 3 1 a_v0 c_v0 x0.length cs_v0 :: vecC 44 1 a97 c98 n100 cs101 :: R)) ?_ ?_
   ·refine W.block ?_
    refine W.loop (fun m a w => ∃ (n91 : Nat), ∃ (q95 : Int), ∃ (q96 : List (List Int)), ∃ (a97 : Option Addr), ∃ (c98 : Nat), ∃ (n100 : Nat), ∃ (cs101 : List Value), ∃ (s93 : Sg), n91 = m ∧ s.Le s93 ∧ Fishref2choices_1_v1.loop1 x0 y0 y2 self_Fishref2choices_1_v1 n91 q95 q96 = some q90 ∧ Ev 1 (RL 1 (RI .i64)) s93 cs101 q96 ∧ q96.length = n100 ∧ Rep a 32 [(0, .slice a_v0 x0.length c_v0), (4, .pointer (some ⟨pb2, 0, none⟩)), (5, .pointer (some ⟨pb3, 0, none⟩)), (8, .int .i64 q95)] ∧ St w s93 (pt pb0 (.cells #[.int .i64 y0] 3 (0, 0)) :: pt pb1 (.cells #[.slice a97 n100 c98] 25 (0, 0)) :: pt pb2 (.cells #[.int .i64 y2] 3 (0, 0)) :: pt pb3 (.cells #[.func (.func 107) #[] #[.pointer (some ⟨pb0, 0, none⟩), .pointer (some ⟨pb1, 0, none⟩), .pointer (some ⟨pb2, 0, none⟩), .pointer (some ⟨pb3, 0, none⟩)]] 140 (0, 0)) :: vecC 3 1 a_v0 c_v0 x0.length cs_v0 :: vecC 44 1 a97 c98 n100 cs101 :: R)) (m := fu) ⟨fu, x1, y1, a_v1, c_v1, y1.length, cs_v1, s, rfl, (Sg.Le.refl _), hq89, h_v1, (rfl), hE.pick _ ⟨rfl, rfl, rfl, rfl, trivial⟩, hS⟩ ?_
    clear hE hS a w hq89; rintro m92 a w ⟨n91, q95, q96, a97, c98, n100, cs101, s93, rfl, hle94, hq89, h99, rfl, hE, hS⟩
    refine W.gen fun K103 hK103 => ?_
    replace h_v0 := Ev.mono RI.mono hle94 h_v0
    replace h_v1 := Ev.mono (RL.mono RI.mono) hle94 h_v1
    rcases n91 with _ | n91
    ·rw [Fishref2choices_1_v1.loop1] at hq89; exact absurd hq89 (by simp)
    rw [Fishref2choices_1_v1.loop1] at hq89
    refine W.seq ?_
    refine W.seq (W.region ?_)
    refine WL.vS hS hE (runs_plain rfl) (Gives.p hE rfl) rfl ?_; clear hE a; intro a hE
    refine WL.vS hS hE (runs_plain rfl) (Gives.loadB hE 2 rfl rfl rfl ty3) rfl ?_; clear hE a; intro a hE
    refine WL.vS hS hE (runs_plain rfl) (Gives.p hE rfl) rfl ?_; clear hE a; intro a hE
    refine WL.nil ?_
    refine W.cond hE rfl (fun hc104 => ?_) (fun hc104 => ?_)
    ·replace hq89 := iteT hc104 hq89
     refine W.skip ?_
     refine W.seq ?_
     refine W.block ?_
     refine W.gen fun K105 hK105 => ?_
     refine W.regionE (sel (fun w => St w s93 (pt pb0 (.cells #[.int .i64 y0] 3 (0, 0)) :: pt pb1 (.cells #[.slice a97 q96.length c98] 25 (0, 0)) :: pt pb2 (.cells #[.int .i64 y2] 3 (0, 0)) :: pt pb3 (.cells #[.func (.func 107) #[] #[.pointer (some ⟨pb0, 0, none⟩), .pointer (some ⟨pb1, 0, none⟩), .pointer (some ⟨pb2, 0, none⟩), .pointer (some ⟨pb3, 0, none⟩)]] 140 (0, 0)) :: vecC 3 1 a_v0 c_v0 x0.length cs_v0 :: vecC 44 1 a97 c98 q96.length cs101 :: R)) (fun w => St w s93 (pt pb0 (.cells #[.int .i64 y0] 3 (0, 0)) :: pt pb2 (.cells #[.int .i64 y2] 3 (0, 0)) :: pt pb3 (.cells #[.func (.func 107) #[] #[.pointer (some ⟨pb0, 0, none⟩), .pointer (some ⟨pb1, 0, none⟩), .pointer (some ⟨pb2, 0, none⟩), .pointer (some ⟨pb3, 0, none⟩)]] 140 (0, 0)) :: R))) (fun b i => cond b ([0, 1, 2, 3, 5, 6].contains i) ([0, 1, 2, 3, 4, 5, 6, 7].contains i)) mixed ?_
     replace hS := hS.drew
     have hT := tw_sel (A := fun w => St w s93 _) (B := fun w => St w s93 _) (w := _) (x := true) (y := true) (fun _ => hS) (fun _ => (((hS.dropAt 1).dropAt 3).dropAt 3))
     have hF := hS; replace hS := (((hS.dropAt 1).dropAt 3).dropAt 3)
     refine Rg.take (i := 0) false rfl hE rfl (by kernel_rfl) (runs_plain rfl) (Gives.loadB hE 2 rfl rfl rfl ty140) rfl hT ?_; clear hE a; intro a hE
     replace hS := hF; clear hF hT
     refine Rg.takeP (i := 1) hE rfl (by kernel_rfl) (runs_plain rfl) (Gives.p hE rfl) rfl (tw_sel (fun _ => hS) (fun _ => (((hS.dropAt 1).dropAt 3).dropAt 3))) ?_; clear hE a; intro a hE
     refine Rg.takeP (i := 2) hE rfl (by kernel_rfl) (runs_plain rfl) (Gives.p hE rfl) rfl (tw_sel (fun _ => hS) (fun _ => (((hS.dropAt 1).dropAt 3).dropAt 3))) ?_; clear hE a; intro a hE
     refine Rg.takeP (i := 5) hE rfl (by kernel_rfl) (runs_plain rfl) (Gives.p hE rfl) rfl (tw_sel (fun _ => hS) (fun _ => (((hS.dropAt 1).dropAt 3).dropAt 3))) ?_; clear hE a; intro a hE
     refine Rg.takeP (i := 6) hE rfl (by kernel_rfl) (runs_plain rfl) (Gives.p hE rfl) rfl (tw_sel (fun _ => hS) (fun _ => (((hS.dropAt 1).dropAt 3).dropAt 3))) ?_; clear hE a; intro a hE
     refine Rg.one (i := 3) true true rfl (by kernel_rfl) (by kernel_rfl) (by kernel_rfl) ?_
     refine WL.lit hE hS (e := 3) (es := 1) (vs := [(0, .int .i64 q95)]) (cs := [.int .i64 q95]) (runs_plain rfl) rfl (by kernel_rfl) rfl ?_; clear hE hS a w; intro b106 a w hE hS
     refine WL.nil ?_
     refine ⟨⟨fun _ => (hS.tail), fun _ => ((((hS.tail).dropAt 1).dropAt 3).dropAt 3)⟩, ?_⟩
     refine Rg.one (i := 4) false true rfl (by kernel_rfl) (by kernel_rfl) (by kernel_rfl) ?_
     obtain ⟨x107, hx108, hq89⟩ := bindS hq89
     refine WL.appB hE hS 4 (m := 1) (runs_plain rfl) rfl rfl rfl ap44 rfl h_v0 (rfl) (xs := [q95]) (Ev.cons (c1 := [.int .i64 q95]) rfl rfl (Ev.nil)) rfl rfl hx108 rfl ?_; clear hE hS a w; intro a109 c110 cs111 F113 a w h112 hb114 hE hS
     refine WL.nil ?_
     refine ⟨⟨fun h => absurd h (by decide), fun _ => ((((hS.tail).tail).dropAt 1).dropAt 3)⟩, ?_⟩
     refine Rg.one (i := 7) false true rfl (by kernel_rfl) (by kernel_rfl) (by kernel_rfl) ?_
     obtain ⟨q116, hq117, hq89⟩ := bindS hq89
     replace hS := hS.front 6 rfl
     replace hS := hS.front 1 rfl
     replace hS := hS.front 6 rfl
     replace hS := hS.front 6 rfl
     replace hS := hS.front 6 rfl
     replace hS := hS.front 6 rfl
     have hc_ := ih_Fishref2choices_1_v1 hS h112 (rfl) h99 rfl hq117
     refine WL.fnw hE (hc_) rfl (runs_plain rfl) bd107 rfl rfl rfl ?_
     clear hE hS hc_; rintro e w ⟨a118, c119, n120, cs121, s123, rfl, hle124, h122, rfl, hS⟩; refine ⟨_, rfl, ?_⟩; clear a; intro a hE
     replace h_v0 := Ev.mono RI.mono hle124 h_v0
     replace h112 := Ev.mono RI.mono hle124 h112
     replace h99 := Ev.mono (RL.mono RI.mono) hle124 h99
     replace hS := hS.front 6 rfl
     replace hS := hS.front 5 rfl
     replace hS := hb114 _ _ _ hS
     refine WL.nil ?_
     refine ⟨⟨fun h => absurd h (by decide), fun _ => (St.down hle124 (((hS.tail).dropAt 1).dropAt 3))⟩, ?_⟩
     refine Rg.done (by kernel_rfl) ?_
     subst hK105
     refine W.region ?_
     refine WL.vS hS hE (runs_plain rfl) (Gives.p hE rfl) rfl ?_; clear hE a; intro a hE
     refine WL.vS hS hE (runs_plain rfl) (Gives.p hE rfl) rfl ?_; clear hE a; intro a hE
     refine WL.vS hS hE (runs_plain rfl) (Gives.p hE rfl) rfl ?_; clear hE a; intro a hE
     refine WL.nil ?_
     replace hS := hS.front 5 rfl
     replace hS := hS.front 1 rfl
     replace hS := hS.front 5 rfl
     replace hS := hS.front 5 rfl
     replace hS := hS.front 5 rfl
     replace hS := hS.front 5 rfl
     subst hK103
     exact ⟨n91, Nat.lt_succ_self _, n91, (w64 (q95 + 1)), q116, a118, c119, q116.length, cs121, s123, rfl, (Sg.Le.trans hle94 hle124), hq89, h122, rfl, hE.pick _ ⟨rfl, rfl, rfl, rfl, trivial⟩, hS⟩
    ·replace hq89 := iteF hc104 hq89
     subst hK103
     refine W.exit rfl ?_
     exact ⟨q95, q96, a97, c98, q96.length, cs101, s93, hle94, Option.some.inj hq89, h99, rfl, hE.pick _ trivial, hS⟩
   ·clear hE hS a w; rintro a w ⟨q95, q96, a97, c98, n100, cs101, s93, hle94, rfl, h99, rfl, hE, hS⟩
    dsimp only at hr
    replace h_v0 := Ev.mono RI.mono hle94 h_v0
    replace h_v1 := Ev.mono (RL.mono RI.mono) hle94 h_v1
    refine finG (fn := Try.f107) (rs := []) (vs := []) hE rfl trivial ?_
    obtain rfl := Option.some.inj hr
    exact ⟨a97, c98, q96.length, cs101, s93, rfl, hle94, h99, rfl, hS⟩
set_option maxHeartbeats 8000000 in
theorem Fishref2choices_ok {fu : Nat}  {w : World} {s : Sg} {R : List HP} {x0 : Int} {x1 : Int} (hS : St w s (R))  {r : (List (List Int))} (hr : Fishref2choices fu x0 x1 = some r) :
  Calls Try.prog 67 [.int .i64 x0, .int .i64 x1].toArray w (fun e w => ∃ (a0 : Option Addr) (c0 n0 : Nat) (cs0 : List Value) (t : Sg), e = .returned (.slice a0 n0 c0) ∧ s.Le t ∧ Ev 1 (RL 1 (RI .i64)) t cs0 r ∧ r.length = n0 ∧ St w t (vecC 44 1 a0 c0 n0 cs0 :: R)) := by
 refine enter Try.func67 rfl rfl rfl fun a hE => ?_
 rw [Fishref2choices] at hr
 refine W.seq (W.region ?_)
 refine WL.box hE hS (runs_plain rfl) rfl rfl rfl ?_; clear hE hS a w; intro b51 a w hE hS
 refine WL.box hE hS (runs_plain rfl) rfl rfl rfl ?_; clear hE hS a w; intro b52 a w hE hS
 refine WL.vS hS hE (runs_plain rfl) (Gives.p hE rfl) rfl ?_; clear hE a; intro a hE
 refine WL.nil ?_
 refine W.seq (W.region ?_)
 refine WL.alloc hE hS (runs_plain rfl) zr25 rfl ?_; clear hE hS a w; intro b53 a w hE hS
 refine WL.nil ?_
 refine W.seq (W.region ?_)
 refine WL.alloc hE hS (runs_plain rfl) zr140 rfl ?_; clear hE hS a w; intro b54 a w hE hS
 refine WL.nil ?_
 refine W.seq (W.region ?_)
 replace hS := hS.vecNil 44 1
 refine WL.vS hS hE (runs_plain rfl) (Gives.mkfn hE (vs := [.pointer (some ⟨b52, 0, none⟩), .pointer (some ⟨b53, 0, none⟩), .pointer (some ⟨b51, 0, none⟩), .pointer (some ⟨b54, 0, none⟩)]) rfl) rfl ?_; clear hE a; intro a hE
 refine WL.storeI hE hS 1 rfl [.func (.func 107) #[] #[.pointer (some ⟨b52, 0, none⟩), .pointer (some ⟨b53, 0, none⟩), .pointer (some ⟨b51, 0, none⟩), .pointer (some ⟨b54, 0, none⟩)]] (runs_plain rfl) rfl rfl rfl ty140 rfl rfl rfl rfl ?_; clear hE hS a w; intro a w hE hS
 refine WL.nil ?_
 refine W.seq (W.region ?_)
 refine WL.vS hS hE (runs_plain rfl) (Gives.loadB hE 1 rfl rfl rfl ty140) rfl ?_; clear hE a; intro a hE
 replace hS := hS.vecNil 3 1
 obtain ⟨q57, hq58, hr⟩ := bindS hr
 replace hS := hS.front 1 rfl
 replace hS := hS.front 1 rfl
 replace hS := hS.front 2 rfl
 replace hS := hS.front 5 rfl
 replace hS := hS.front 4 rfl
 replace hS := hS.front 5 rfl
 have hc_ := Fishref2choices_1_v1_ok hS (Ev.nil) (rfl) (Ev.nil) (rfl) hq58
 refine WL.fnw hE (hc_) rfl (runs_plain rfl) bd107 rfl rfl rfl ?_
 clear hE hS hc_; rintro e w ⟨a59, c60, n61, cs62, s64, rfl, hle65, h63, rfl, hS⟩; refine ⟨_, rfl, ?_⟩; clear a; intro a hE
 refine WL.nil ?_
 refine W.seq (W.region ?_)
 refine WL.vS hS hE (runs_plain rfl) (Gives.loadB hE 1 rfl rfl rfl ty25) rfl ?_; clear hE a; intro a hE
 refine WL.vS hS hE (runs_plain rfl) (Gives.p hE rfl) rfl ?_; clear hE a; intro a hE
 refine WL.nil ?_
 refine W.ret ?_
 refine finG (fn := Try.f67) (rs := [.tmp 4]) (vs := [_]) hE rfl ⟨rfl, trivial⟩ ?_
 obtain rfl := Option.some.inj hr
 replace hS := hS.tail
 replace hS := hS.tail
 replace hS := hS.tail
 replace hS := hS.tail
 replace hS := hS.tail
 exact ⟨a59, c60, q57.length, cs62, s64, rfl, hle65, h63, rfl, hS⟩
end Go.Proofs.Ytfhkpdnohcidgaa
