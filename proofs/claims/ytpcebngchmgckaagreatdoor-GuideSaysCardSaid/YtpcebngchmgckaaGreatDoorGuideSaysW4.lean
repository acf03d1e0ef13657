/- The walks of the functions that GuideSays reaches: each call comes to what its mirror says. The conditions are those of each contract. -/
import Derived.Test.YtpcebngchmgckaaGreatDoorProg
import Derived.Test.YtpcebngchmgckaaGreatDoorFpTight
import Derived.Test.YtpcebngchmgckaaGreatDoorGuideSaysM
import Derived.Test.YtpcebngchmgckaaGreatDoorFpAllT
import Derived.Test.YtpcebngchmgckaaGreatDoorGuideSaysS
import Derived.Test.YtpcebngchmgckaaGreatDoorFpMapS
import Derived.Test.YtpcebngchmgckaaGreatDoorFpBytes
import Derived.Test.YtpcebngchmgckaaGreatDoorFpFld
import Derived.Test.YtpcebngchmgckaaGreatDoorFpMapG
import Derived.Test.YtpcebngchmgckaaGreatDoorFpMapV
import Derived.Test.YtpcebngchmgckaaGreatDoorFpMaps
import Derived.Test.YtpcebngchmgckaaGreatDoorFpOrd
import Derived.Test.YtpcebngchmgckaaGreatDoorFpRf
import Derived.Test.YtpcebngchmgckaaGreatDoorFpRng
import Derived.Test.YtpcebngchmgckaaGreatDoorGuideSaysW3
set_option maxRecDepth 10000
namespace Go.Proofs.YtpcebngchmgckaaGreatDoor
open Go Go.Fp
set_option maxHeartbeats 8000000 in
theorem SlicesinsertionSortCmpFuncguidePoint_v1_ok {fu : Nat}  {w : World} {s : Sg} {R : List HP} {x0 : List GuidePoint} {a_v0 : Option Addr} {c_v0 n_v0 : Nat} {cs_v0 : List Value} {x1 : Int} {x2 : Int} (hS : St w s (vecC 216 3 a_v0 c_v0 n_v0 cs_v0 :: R)) (h_v0 : Ev 3 RGuidePoint s cs_v0 x0) (hn_v0 : x0.length = n_v0) {r : (List GuidePoint)} (hr : SlicesinsertionSortCmpFuncguidePoint_v1 fu x0 x1 x2 = some r) :
  Calls Tryz.prog 194 [.slice a_v0 n_v0 c_v0, vi x1, vi x2, .func (.func 169) #[] #[]].toArray w (fun e w => ∃ (cs55 : List Value), e = .returned (.tuple #[]) ∧ Ev 3 RGuidePoint s cs55 r ∧ r.length = n_v0 ∧ St w s (vecC 216 3 a_v0 c_v0 n_v0 cs55 :: R)) := by
 refine enter Tryz.func194 rfl rfl rfl fun a hE => ?_
 rw [SlicesinsertionSortCmpFuncguidePoint_v1] at hr
 subst hn_v0
 refine W.seq (W.region (v2 hS hE rfl rfl rfl rfl fun a hE => ?_))
 refine vp hS hE rfl rfl fun a hE => WL.nil ?_
 obtain ⟨q58, hq57, hr⟩ := bindS hr
 refine W.cut (fun a w => ∃ (q63 : Int), ∃ (q64 : List GuidePoint), ∃ (cs68 : List Value), (q63, q64) = q58 ∧ Ev 3 RGuidePoint s cs68 q64 ∧ q64.length = x0.length ∧ Rep a 53 [] ∧ St w s (vecC 216 3 a_v0 c_v0 x0.length cs68 :: R)) ?_ ?_
 ·refine W.block ?_
  refine W.loop (fun m a w => ∃ (n59 : Nat), ∃ (q63 : Int), ∃ (q64 : List GuidePoint), ∃ (cs68 : List Value), n59 = m ∧ SlicesinsertionSortCmpFuncguidePoint_v1.loop1 x1 x2 fu n59 q63 q64 = some q58 ∧ Ev 3 RGuidePoint s cs68 q64 ∧ q64.length = x0.length ∧ Rep a 53 [(0, .slice a_v0 x0.length c_v0), (1, vi x1), (2, vi x2), (3, .func (.func 169) #[] #[]), (8, vi q63)] ∧ St w s (vecC 216 3 a_v0 c_v0 x0.length cs68 :: R)) (m := fu) ⟨fu, (w64 (x1 + 1)), x0, cs_v0, rfl, hq57, h_v0, (rfl), hE.pick _ ⟨rfl, rfl, rfl, rfl, rfl, trivial⟩, hS⟩ ?_
  clear hE hS a w hq57; rintro m60 a w ⟨n59, q63, q64, cs68, rfl, hq57, h67, hn69, hE, hS⟩
  refine W.gen fun K70 hK70 => ?_
  rcases n59 with _ | n59
  ·rw [SlicesinsertionSortCmpFuncguidePoint_v1.loop1] at hq57; exact absurd hq57 (by simp)
  rw [SlicesinsertionSortCmpFuncguidePoint_v1.loop1] at hq57
  refine W.seq ?_
  refine W.seq (W.region (v2 hS hE rfl rfl rfl rfl fun a hE => ?_))
  refine vp hS hE rfl rfl fun a hE => WL.nil ?_
  refine W.cond hE rfl (fun hc71 => ?_) (fun hc71 => ?_)
  ·replace hq57 := iteT hc71 hq57
   refine W.skip ?_
   refine W.seq ?_
   refine W.block ?_
   refine W.seq (W.region (v2 hS hE rfl rfl rfl rfl fun a hE => WL.nil ?_))
   obtain ⟨q73, hq72, hq57⟩ := bindS hq57
   refine W.cut (fun a w => ∃ (q78 : Int), ∃ (q79 : List GuidePoint), ∃ (cs83 : List Value), (q78, q79) = q73 ∧ Ev 3 RGuidePoint s cs83 q79 ∧ q79.length = x0.length ∧ Rep a 53 [(0, .slice a_v0 x0.length c_v0), (1, vi x1), (2, vi x2), (3, .func (.func 169) #[] #[]), (8, vi q63)] ∧ St w s (vecC 216 3 a_v0 c_v0 x0.length cs83 :: R)) ?_ ?_
   ·refine W.block ?_
    refine W.loop (fun m a w => ∃ (n74 : Nat), ∃ (q78 : Int), ∃ (q79 : List GuidePoint), ∃ (cs83 : List Value), n74 = m ∧ SlicesinsertionSortCmpFuncguidePoint_v1.loop2 x1 n74 q78 q79 = some q73 ∧ Ev 3 RGuidePoint s cs83 q79 ∧ q79.length = x0.length ∧ Rep a 53 [(0, .slice a_v0 x0.length c_v0), (1, vi x1), (2, vi x2), (3, .func (.func 169) #[] #[]), (8, vi q63), (9, vi q78)] ∧ St w s (vecC 216 3 a_v0 c_v0 x0.length cs83 :: R)) (m := fu) ⟨fu, q63, q64, cs68, rfl, hq72, h67, hn69, hE.pick _ ⟨rfl, rfl, rfl, rfl, rfl, rfl, trivial⟩, hS⟩ ?_
    clear hE hS a w hq72; rintro m75 a w ⟨n74, q78, q79, cs83, rfl, hq72, h82, hn84, hE, hS⟩
    refine W.gen fun K85 hK85 => ?_
    rcases n74 with _ | n74
    ·rw [SlicesinsertionSortCmpFuncguidePoint_v1.loop2] at hq72; exact absurd hq72 (by simp)
    rw [SlicesinsertionSortCmpFuncguidePoint_v1.loop2] at hq72
    refine W.seq ?_
    refine W.seq ?_
    obtain ⟨q87, hq86, hq72⟩ := bindS hq72
    refine W.cut (fun a w => ∃ (q90 : Bool), q90 = q87 ∧ Rep a 53 [(0, .slice a_v0 x0.length c_v0), (1, vi x1), (2, vi x2), (3, .func (.func 169) #[] #[]), (8, vi q63), (9, vi q78), (34, .bool q90)] ∧ St w s (vecC 216 3 a_v0 c_v0 x0.length cs83 :: R)) ?_ ?_
    ·refine W.gen fun K91 hK91 => ?_
     refine W.regionQ (C := fun w => St w s (vecC 216 3 a_v0 c_v0 x0.length cs83 :: R)) mixed (by kernel_rfl) hS.drew ?_
     refine qP hE (Gives.p hE rfl) rfl fun a hE => ?_
     refine qP hE (Gives.p hE rfl) rfl fun a hE => ?_
     refine qP hE (Gives.p hE rfl) rfl fun a hE => ?_
     refine qP hE (Gives.p hE rfl) rfl fun a hE => ?_
     rcases Bool.eq_false_or_eq_true (decide (q78 > x1)) with hg92 | hg92
     ·replace hq86 := iteT hg92 hq86
      refine QL.v hE (runs_if hE rfl rfl rfl hg92) (Gives.p hE rfl) rfl fun a hE => ?_
      refine QL.v hE (runs_if hE rfl rfl rfl hg92) (Gives.p hE rfl) rfl fun a hE => ?_
      refine QL.v hE (runs_if hE rfl rfl rfl hg92) (Gives.p hE rfl) rfl fun a hE => ?_
      obtain ⟨x93, hx94, hq86⟩ := bindS hq86
      obtain ⟨hi95, hlt96, hy97⟩ := gx_some hx94
      obtain ⟨vs98, hl99, hR100, hd101, hget102⟩ := h82.at hy97
      subst hR100
      refine QL.v hE (runs_if hE rfl rfl rfl hg92) (Gives.idx hE ((q78).toNat) rfl rfl sl213 hi95 (by have := hn84; omega) (hS.vecAok 0 rfl (by have := hn84; omega : (q78).toNat < x0.length))) rfl fun a hE => ?_
      refine QL.v hE (runs_if hE rfl rfl rfl hg92) (Gives.loadA hE rfl (fun w h => St.vecSees h 0 rfl ((q78).toNat * 3) _ hget102) ty216) rfl fun a hE => ?_
      refine QL.v hE (runs_if hE rfl rfl rfl hg92) (Gives.p hE rfl) rfl fun a hE => ?_
      refine QL.v hE (runs_if hE rfl rfl rfl hg92) (Gives.p hE rfl) rfl fun a hE => ?_
      refine QL.v hE (runs_if hE rfl rfl rfl hg92) (Gives.p hE rfl) rfl fun a hE => ?_
      obtain ⟨x103, hx104, hq86⟩ := bindS hq86
      obtain ⟨hi105, hlt106, hy107⟩ := gx_some hx104
      obtain ⟨vs108, hl109, hR110, hd111, hget112⟩ := h82.at hy107
      subst hR110
      refine QL.v hE (runs_if hE rfl rfl rfl hg92) (Gives.idx hE ((w64 (q78 - 1)).toNat) rfl rfl sl213 hi105 (by have := hn84; omega) (hS.vecAok 0 rfl (by have := hn84; omega : (w64 (q78 - 1)).toNat < x0.length))) rfl fun a hE => ?_
      refine QL.v hE (runs_if hE rfl rfl rfl hg92) (Gives.loadA hE rfl (fun w h => St.vecSees h 0 rfl ((w64 (q78 - 1)).toNat * 3) _ hget112) ty216) rfl fun a hE => ?_
      refine QL.fnw hE (fun w hS => GuidecomparePoints_ok hS  rfl (r := GuidecomparePoints x93 x103)) rfl (runs_if hE rfl rfl rfl hg92) bd169 rfl rfl rfl fun a hE => ?_
      refine QL.v hE (runs_if hE rfl rfl rfl hg92) (Gives.p hE rfl) rfl fun a hE => ?_
      refine qP hE (Gives.pickT hE rfl hg92 rfl) rfl fun a hE => ?_
      refine QL.nil ?_; clear hS w; intro w hS
      subst hK91
      exact ⟨decide ((GuidecomparePoints x93 x103) < 0), Option.some.inj hq86, hE.pick _ ⟨rfl, rfl, rfl, rfl, rfl, rfl, rfl, trivial⟩, hS⟩
     replace hq86 := iteF hg92 hq86
     refine QL.no hE (runs_not hE rfl rfl rfl (by rw [hg92]; decide)) rfl fun a hE => ?_
     refine QL.no hE (runs_not hE rfl rfl rfl (by rw [hg92]; decide)) rfl fun a hE => ?_
     refine QL.no hE (runs_not hE rfl rfl rfl (by rw [hg92]; decide)) rfl fun a hE => ?_
     refine QL.no hE (runs_not hE rfl rfl rfl (by rw [hg92]; decide)) rfl fun a hE => ?_
     refine QL.no hE (runs_not hE rfl rfl rfl (by rw [hg92]; decide)) rfl fun a hE => ?_
     refine QL.no hE (runs_not hE rfl rfl rfl (by rw [hg92]; decide)) rfl fun a hE => ?_
     refine QL.no hE (runs_not hE rfl rfl rfl (by rw [hg92]; decide)) rfl fun a hE => ?_
     refine QL.no hE (runs_not hE rfl rfl rfl (by rw [hg92]; decide)) rfl fun a hE => ?_
     refine QL.no hE (runs_not hE rfl rfl rfl (by rw [hg92]; decide)) rfl fun a hE => ?_
     refine QL.no hE (runs_not hE rfl rfl rfl (by rw [hg92]; decide)) rfl fun a hE => ?_
     refine QL.no hE (runs_not hE rfl rfl rfl (by rw [hg92]; decide)) rfl fun a hE => ?_
     refine QL.no hE (runs_not hE rfl rfl rfl (by rw [hg92]; decide)) rfl fun a hE => ?_
     refine qP hE (Gives.pickF hE rfl hg92 rfl) rfl fun a hE => ?_
     refine QL.nil ?_; clear hS w; intro w hS
     subst hK91
     exact ⟨false, Option.some.inj hq86, hE.pick _ ⟨rfl, rfl, rfl, rfl, rfl, rfl, rfl, trivial⟩, hS⟩
    clear hE hS a w; rintro a w ⟨q90, rfl, hE, hS⟩
    refine W.cond hE rfl (fun hc113 => ?_) (fun hc113 => ?_)
    ·replace hq72 := iteT hc113 hq72
     refine W.skip ?_
     refine W.seq ?_
     refine W.block ?_
     refine W.gen fun K114 hK114 => ?_
     refine W.regionE (sel (fun w => St w s (vecC 216 3 a_v0 c_v0 x0.length cs83 :: R)) (fun w => St w s (R))) (fun b i => cond b ([0, 1, 2, 3, 4, 5, 6, 7, 8, 9, 10, 11, 12, 13, 14, 16].contains i) ([0, 1, 2, 3, 4, 5, 6, 7, 8, 9, 10, 11, 12, 13, 14, 15, 16, 17].contains i)) mixed ?_
     replace hS := hS.drew
     refine tP (i := 0) hE rfl (by kernel_rfl) (Gives.p hE rfl) rfl hS (hS.tail) fun a hE => ?_
     refine tP (i := 1) hE rfl (by kernel_rfl) (Gives.p hE rfl) rfl hS (hS.tail) fun a hE => ?_
     refine tP (i := 2) hE rfl (by kernel_rfl) (Gives.p hE rfl) rfl hS (hS.tail) fun a hE => ?_
     refine tP (i := 3) hE rfl (by kernel_rfl) (Gives.p hE rfl) rfl hS (hS.tail) fun a hE => ?_
     refine tP (i := 4) hE rfl (by kernel_rfl) (Gives.p hE rfl) rfl hS (hS.tail) fun a hE => ?_
     refine tP (i := 5) hE rfl (by kernel_rfl) (Gives.p hE rfl) rfl hS (hS.tail) fun a hE => ?_
     refine tP (i := 6) hE rfl (by kernel_rfl) (Gives.p hE rfl) rfl hS (hS.tail) fun a hE => ?_
     refine tP (i := 7) hE rfl (by kernel_rfl) (Gives.p hE rfl) rfl hS (hS.tail) fun a hE => ?_
     obtain ⟨x115, hx116, hq72⟩ := bindS hq72
     obtain ⟨hi117, hlt118, hy119⟩ := gx_some hx116
     obtain ⟨vs120, hl121, hR122, hd123, hget124⟩ := h82.at hy119
     subst hR122
     refine tP (i := 8) hE rfl (by kernel_rfl) (Gives.idx hE ((w64 (q78 - 1)).toNat) rfl rfl sl213 hi117 (by have := hn84; omega) (hS.vecAok 0 rfl (by have := hn84; omega : (w64 (q78 - 1)).toNat < x0.length))) rfl hS (hS.tail) fun a hE => ?_
     refine tT (i := 9) true rfl hE rfl (by kernel_rfl) (Gives.loadA hE rfl (fun w h => St.vecSees h 0 rfl ((w64 (q78 - 1)).toNat * 3) _ hget124) ty216) rfl hS (hS.tail) fun a hE => ?_
     refine tP (i := 10) hE rfl (by kernel_rfl) (Gives.p hE rfl) rfl hS (hS.tail) fun a hE => ?_
     refine tP (i := 11) hE rfl (by kernel_rfl) (Gives.p hE rfl) rfl hS (hS.tail) fun a hE => ?_
     obtain ⟨x125, hx126, hq72⟩ := bindS hq72
     obtain ⟨hi127, hlt128, hy129⟩ := gx_some hx126
     obtain ⟨vs130, hl131, hR132, hd133, hget134⟩ := h82.at hy129
     subst hR132
     refine tP (i := 12) hE rfl (by kernel_rfl) (Gives.idx hE ((q78).toNat) rfl rfl sl213 hi127 (by have := hn84; omega) (hS.vecAok 0 rfl (by have := hn84; omega : (q78).toNat < x0.length))) rfl hS (hS.tail) fun a hE => ?_
     refine tT (i := 13) true rfl hE rfl (by kernel_rfl) (Gives.loadA hE rfl (fun w h => St.vecSees h 0 rfl ((q78).toNat * 3) _ hget134) ty216) rfl hS (hS.tail) fun a hE => ?_
     obtain ⟨_, hx136, hq72⟩ := bindS hq72
     obtain ⟨h137, h138⟩ := ix_some hx136
     refine tP (i := 14) hE rfl (by kernel_rfl) (Gives.idx hE ((q78).toNat) rfl rfl sl213 h137 (by have := hn84; omega) (hS.vecAok 0 rfl (by have := hn84; omega : (q78).toNat < x0.length))) rfl hS (hS.tail) fun a hE => ?_
     refine Rg.one (i := 15) false true rfl (by kernel_rfl) (by kernel_rfl) (by kernel_rfl) ?_
     obtain ⟨x140, hx141, hq72⟩ := bindS hq72
     refine WL.setD hE hS 0 rfl (runs_plain rfl) rfl rfl (vs := [vi x115.Dep, vi x115.Arr, vi x115.Rides]) rfl ty216 rfl rfl rfl h82 hn84 (sx_some hx141).1 hx141 rfl rfl ?_; clear hE hS a w; intro cs142 a w h143 hn144 hE hS
     refine WL.nil ?_
     refine ⟨⟨fun h => absurd h (by decide), fun _ => (hS.tail)⟩, ?_⟩
     obtain ⟨_, hx146, hq72⟩ := bindS hq72
     obtain ⟨h147, h148⟩ := ix_some hx146
     refine Rg.takeP (i := 16) hE rfl (by kernel_rfl) (runs_plain rfl) (Gives.idx hE ((w64 (q78 - 1)).toNat) rfl rfl sl213 h147 (by have := hn144; omega) (hS.vecAok 0 rfl (by have := hn144; omega : (w64 (q78 - 1)).toNat < x0.length))) rfl (tw_sel (fun h => absurd h (by decide)) (fun _ => (hS.tail))) fun a hE => ?_
     refine Rg.one (i := 17) false true rfl (by kernel_rfl) (by kernel_rfl) (by kernel_rfl) ?_
     obtain ⟨x150, hx151, hq72⟩ := bindS hq72
     refine WL.setD hE hS 0 rfl (runs_plain rfl) rfl rfl (vs := [vi x125.Dep, vi x125.Arr, vi x125.Rides]) rfl ty216 rfl rfl rfl h143 hn144 (sx_some hx151).1 hx151 rfl rfl ?_; clear hE hS a w; intro cs152 a w h153 hn154 hE hS
     refine WL.nil ?_
     refine ⟨⟨fun h => absurd h (by decide), fun _ => (hS.tail)⟩, ?_⟩
     refine Rg.done (by kernel_rfl) ?_
     subst hK114
     refine W.region ?_
     refine v2 hS hE rfl rfl rfl rfl fun a hE => ?_
     refine vp hS hE rfl rfl fun a hE => WL.nil ?_
     subst hK85
     exact ⟨n74, Nat.lt_succ_self _, n74, (w64 (q78 - 1)), x150, cs152, rfl, hq72, h153, hn154, hE.pick _ ⟨rfl, rfl, rfl, rfl, rfl, rfl, trivial⟩, hS⟩
    replace hq72 := iteF hc113 hq72
    subst hK85
    refine W.exit rfl ?_
    exact ⟨q78, q79, cs83, Option.some.inj hq72, h82, hn84, hE.pick _ ⟨rfl, rfl, rfl, rfl, rfl, trivial⟩, hS⟩
   clear hE hS a w; rintro a w ⟨q78, q79, cs83, rfl, h82, hn84, hE, hS⟩
   dsimp only at hq57
   refine W.region ?_
   refine v2 hS hE rfl rfl rfl rfl fun a hE => ?_
   refine vp hS hE rfl rfl fun a hE => WL.nil ?_
   subst hK70
   exact ⟨n59, Nat.lt_succ_self _, n59, (w64 (q63 + 1)), q79, cs83, rfl, hq57, h82, hn84, hE.pick _ ⟨rfl, rfl, rfl, rfl, rfl, trivial⟩, hS⟩
  replace hq57 := iteF hc71 hq57
  subst hK70
  refine W.exit rfl ?_
  exact ⟨q63, q64, cs68, Option.some.inj hq57, h67, hn69, hE.pick _ trivial, hS⟩
 clear hE hS a w; rintro a w ⟨q63, q64, cs68, rfl, h67, hn69, hE, hS⟩
 dsimp only at hr
 refine finG (fn := Tryz.f194) (rs := []) (vs := []) hE rfl trivial ?_
 obtain rfl := Option.some.inj hr
 exact ⟨cs68, rfl, h67, hn69, hS⟩
set_option maxHeartbeats 8000000 in
theorem SlicespdqsortCmpFuncguidePoint_v1_ok {fu : Nat}  {w : World} {s : Sg} {R : List HP} {x0 : List GuidePoint} {a_v0 : Option Addr} {c_v0 n_v0 : Nat} {cs_v0 : List Value} {x1 : Int} {x2 : Int} {x3 : Int} (hS : St w s (vecC 216 3 a_v0 c_v0 n_v0 cs_v0 :: R)) (h_v0 : Ev 3 RGuidePoint s cs_v0 x0) (hn_v0 : x0.length = n_v0) {r : (List GuidePoint)} (hr : SlicespdqsortCmpFuncguidePoint_v1 fu x0 x1 x2 x3 = some r) :
  Calls Tryz.prog 184 [.slice a_v0 n_v0 c_v0, vi x1, vi x2, vi x3, .func (.func 169) #[] #[]].toArray w (fun e w => ∃ (cs55 : List Value), e = .returned (.tuple #[]) ∧ Ev 3 RGuidePoint s cs55 r ∧ r.length = n_v0 ∧ St w s (vecC 216 3 a_v0 c_v0 n_v0 cs55 :: R)) := by
 refine enter Tryz.func184 rfl rfl rfl fun a hE => ?_
 rw [SlicespdqsortCmpFuncguidePoint_v1] at hr
 subst hn_v0
 refine W.seq (W.region (vp hS hE rfl rfl fun a hE => WL.nil ?_))
 refine W.seq (W.region (vp hS hE rfl rfl fun a hE => WL.nil ?_))
 obtain ⟨q58, hq57, hr⟩ := bindS hr
 refine W.cut (fun _ _ => False) ?_ ?_
 ·refine W.block ?_
  refine W.loop (fun m a w => ∃ (n59 : Nat), ∃ (q63 : Int), ∃ (q64 : Int), ∃ (q65 : Int), ∃ (q66 : Bool), ∃ (q67 : Bool), ∃ (q68 : List GuidePoint), ∃ (cs72 : List Value), n59 = m ∧ SlicespdqsortCmpFuncguidePoint_v1.loop1 fu n59 q63 q64 q65 q66 q67 q68 = some q58 ∧ Ev 3 RGuidePoint s cs72 q68 ∧ q68.length = x0.length ∧ Rep a 148 [(0, .slice a_v0 x0.length c_v0), (1, vi q63), (2, vi q64), (3, vi q65), (4, .func (.func 169) #[] #[]), (10, .bool q66), (11, .bool q67)] ∧ St w s (vecC 216 3 a_v0 c_v0 x0.length cs72 :: R)) (m := fu) ⟨fu, x1, x2, x3, true, true, x0, cs_v0, rfl, hq57, h_v0, (rfl), hE.pick _ ⟨rfl, rfl, rfl, rfl, rfl, rfl, rfl, trivial⟩, hS⟩ ?_
  clear hE hS a w hq57; rintro m60 a w ⟨n59, q63, q64, q65, q66, q67, q68, cs72, rfl, hq57, h71, hn73, hE, hS⟩
  refine W.gen fun K74 hK74 => ?_
  rcases n59 with _ | n59
  ·rw [SlicespdqsortCmpFuncguidePoint_v1.loop1] at hq57; exact absurd hq57 (by simp)
  rw [SlicespdqsortCmpFuncguidePoint_v1.loop1] at hq57
  refine W.block ?_
  refine W.seq (W.region (v2 hS hE rfl rfl rfl rfl fun a hE => ?_))
  refine v2 hS hE rfl rfl rfl rfl fun a hE => WL.nil ?_
  refine W.seq ?_
  refine W.seq (W.region (v2 hS hE rfl rfl rfl rfl fun a hE => WL.nil ?_))
  refine W.cond hE rfl (fun hc75 => ?_) (fun hc75 => ?_)
  ·replace hq57 := iteT hc75 hq57
   refine W.seq (W.region (v2 hS hE rfl rfl rfl rfl fun a hE => ?_))
   refine v2 hS hE rfl rfl rfl rfl fun a hE => ?_
   obtain ⟨q76, hq77, hq57⟩ := bindS hq57
   have hc_ := SlicesinsertionSortCmpFuncguidePoint_v1_ok hS h71 hn73 hq77
   refine WL.fnq hE (hc_) (runs_plain rfl) bd194 rfl rfl rfl ?_
   clear hE hS hc_; rintro e w ⟨cs78, rfl, h79, hn80, hS⟩; refine ⟨_, rfl, ?_⟩; clear a; intro a hE
   refine WL.nil ?_
   refine W.ret ?_
   subst hK74
   rw [← Option.some.inj hq57] at hr
   dsimp only at hr
   refine finG (fn := Tryz.f184) (rs := []) (vs := []) hE rfl trivial ?_
   obtain rfl := Option.some.inj hr
   exact ⟨cs78, rfl, h79, hn80, hS⟩
  replace hq57 := iteF hc75 hq57
  refine W.skip ?_
  refine W.seq ?_
  refine W.seq (W.region (v2 hS hE rfl rfl rfl rfl fun a hE => WL.nil ?_))
  refine W.cond hE rfl (fun hc81 => ?_) (fun hc81 => ?_)
  ·replace hq57 := iteT hc81 hq57
   refine W.seq (W.region (v2 hS hE rfl rfl rfl rfl fun a hE => ?_))
   refine v2 hS hE rfl rfl rfl rfl fun a hE => ?_
   exact absurd hq57 (by simp)
  replace hq57 := iteF hc81 hq57
  refine W.skip ?_
  refine W.seq ?_
  refine W.seq (W.region (v2 hS hE rfl rfl rfl rfl fun a hE => WL.nil ?_))
  obtain ⟨q83, hq82, hq57⟩ := bindS hq57
  refine W.cut (fun a w => ∃ (q86 : Int), ∃ (q87 : List GuidePoint), ∃ (cs91 : List Value), (q86, q87) = q83 ∧ Ev 3 RGuidePoint s cs91 q87 ∧ q87.length = x0.length ∧ Rep a 148 [(0, .slice a_v0 x0.length c_v0), (1, vi q63), (2, vi q64), (3, vi q86), (4, .func (.func 169) #[] #[]), (10, .bool q66), (11, .bool q67), (12, vi (w64 (q64 - q63)))] ∧ St w s (vecC 216 3 a_v0 c_v0 x0.length cs91 :: R)) ?_ ?_
  ·refine W.gen fun K93 hK93 => ?_
   refine W.cond hE rfl (fun hc94 => ?_) (fun hc94 => ?_)
   ·replace hq82 := iteT hc94 hq82
    refine W.seq (W.region (v2 hS hE rfl rfl rfl rfl fun a hE => ?_))
    refine v2 hS hE rfl rfl rfl rfl fun a hE => ?_
    exact absurd hq82 (by simp)
   replace hq82 := iteF hc94 hq82
   refine W.skip ?_
   subst hK93
   exact ⟨q65, q68, cs72, Option.some.inj hq82, h71, hn73, hE.pick _ ⟨rfl, rfl, rfl, rfl, rfl, rfl, rfl, rfl, trivial⟩, hS⟩
  clear hE hS a w; rintro a w ⟨q86, q87, cs91, rfl, h90, hn92, hE, hS⟩
  dsimp only at hq57
  refine W.seq (W.region (v2 hS hE rfl rfl rfl rfl fun a hE => ?_))
  refine v2 hS hE rfl rfl rfl rfl fun a hE => ?_
  exact absurd hq57 (by simp)
 exact fun _ _ h => h.elim
set_option maxHeartbeats 8000000 in
theorem SlicesSortFuncLguidePoint_v1_ok {fu : Nat}  {w : World} {s : Sg} {R : List HP} {x0 : List GuidePoint} {a_v0 : Option Addr} {c_v0 n_v0 : Nat} {cs_v0 : List Value} (hS : St w s (vecC 216 3 a_v0 c_v0 n_v0 cs_v0 :: R)) (h_v0 : Ev 3 RGuidePoint s cs_v0 x0) (hn_v0 : x0.length = n_v0) {r : (List GuidePoint)} (hr : SlicesSortFuncLguidePoint_v1 fu x0 = some r) :
  Calls Tryz.prog 168 [.slice a_v0 n_v0 c_v0, .func (.func 169) #[] #[]].toArray w (fun e w => ∃ (cs55 : List Value), e = .returned (.tuple #[]) ∧ Ev 3 RGuidePoint s cs55 r ∧ r.length = n_v0 ∧ St w s (vecC 216 3 a_v0 c_v0 n_v0 cs55 :: R)) := by
 refine enter Tryz.func168 rfl rfl rfl fun a hE => ?_
 rw [SlicesSortFuncLguidePoint_v1] at hr
 subst hn_v0
 refine W.seq (W.region (vp hS hE rfl rfl fun a hE => ?_))
 refine vP hS hE (Gives.len hE rfl sl213) rfl fun a hE => ?_
 refine vp hS hE rfl rfl fun a hE => WL.nil ?_
 refine W.region ?_
 refine v2 hS hE rfl rfl rfl rfl fun a hE => ?_
 refine vp hS hE rfl rfl fun a hE => ?_
 refine vP hS hE (Gives.conv hE rfl hu3 ui193) rfl fun a hE => ?_
 obtain ⟨q57, hq58, hr⟩ := bindS hr
 have hc_ := MathBitsLen_ok hS  hq58
 refine WL.fnq hE (hc_) (runs_plain rfl) bd110 rfl rfl rfl ?_
 clear hE hS hc_; rintro e w ⟨rfl, hS⟩; refine ⟨_, rfl, ?_⟩; clear a; intro a hE
 refine vp hS hE rfl rfl fun a hE => ?_
 obtain ⟨q59, hq60, hr⟩ := bindS hr
 have hc_ := SlicespdqsortCmpFuncguidePoint_v1_ok hS h_v0 (rfl) hq60
 refine WL.fnq hE (hc_) (runs_plain rfl) bd184 rfl rfl rfl ?_
 clear hE hS hc_; rintro e w ⟨cs61, rfl, h62, hn63, hS⟩; refine ⟨_, rfl, ?_⟩; clear a; intro a hE
 refine WL.nil ?_
 refine finG (fn := Tryz.f168) (rs := []) (vs := []) hE rfl trivial ?_
 obtain rfl := Option.some.inj hr
 exact ⟨cs61, rfl, h62, hn63, hS⟩
set_option maxHeartbeats 8000000 in
theorem GuideNetpoints_ok {fu : Nat}  {w : World} {s : Sg} {R : List HP} {x0 : GuideNet} {a0_0 : Option Addr} {c0_0 : Nat} {a0_1 : Option Addr} {c0_1 : Nat} {x1 : Int} {x2 : Int} (hS : St w s (R)) (h0_0 : Sl 4 RApiTrain s a0_0 c0_0 x0.Day.Trains) (h0_1 : Sl 1 (RL 1 (RI .i64)) s a0_1 c0_1 x0.Day.Turns) {r : (List GuidePoint)} (hr : GuideNetpoints fu x0 x1 x2 = some r) :
  Calls Tryz.prog 129 [.agg (List.toArray [.slice a0_0 x0.Day.Trains.length c0_0, .slice a0_1 x0.Day.Turns.length c0_1, vi x0.least]), vi x1, vi x2].toArray w (fun e w => ∃ (a0 : Option Addr) (c0 n0 : Nat) (cs0 : List Value) (t : Sg), e = .returned (.slice a0 n0 c0) ∧ s.Le t ∧ Ev 3 RGuidePoint t cs0 r ∧ r.length = n0 ∧ St w t (vecC 216 3 a0 c0 n0 cs0 :: R)) := by
 refine enter Tryz.func129 rfl rfl rfl fun a hE => ?_
 rw [GuideNetpoints] at hr
 replace hr := same_some hr; unfold GuideNetpoints.o at hr
 refine W.seq (W.region ?_)
 refine WL.box hE hS (runs_plain rfl) rfl rfl rfl ?_; clear hE hS a w; intro b51 a w hE hS
 refine vp hS hE rfl rfl fun a hE => WL.nil ?_
 refine W.seq (W.region ?_)
 refine WL.mkMap (fk := keyI.f) (fv := In.cell) hE hS (runs_plain rfl) rfl ?_; clear hE hS a w; intro b52 a w hE hS
 replace hS := hS.msNew (Te := 95) (es := 3)
 refine WL.alloc hE hS (runs_plain rfl) zr261 rfl ?_; clear hE hS a w; intro b53 a w hE hS
 refine WL.storeI hE hS 0 rfl [.map (some b52)] (runs_plain rfl) rfl rfl rfl ty261 rfl rfl rfl rfl ?_; clear hE hS a w; intro a w hE hS
 refine WL.nil ?_
 refine W.seq ?_
 refine W.seq (W.region (vP hS hE (Gives.loadBA hE 2 rfl rfl ty91) rfl fun a hE => ?_))
 refine vp hS hE rfl rfl fun a hE => ?_
 obtain ⟨q54, hq55, hr⟩ := AllO.bnd hr
 have hc_ := GuideNetrides_ok hS h0_0 h0_1 hq55
 refine WL.fnq hE (hc_) (runs_plain rfl) bd49 rfl rfl rfl ?_
 clear hE hS hc_; rintro e w ⟨lb56, s58, rfl, hle59, h57, hS⟩; refine ⟨_, rfl, ?_⟩; clear a; intro a hE
 replace h0_0 := Sl.mono RApiTrain.mono hle59 h0_0
 replace h0_1 := Sl.mono (RL.mono RI.mono) hle59 h0_1
 refine WL.nil ?_
 refine W.block ?_
 obtain ⟨q61, hq60, hr⟩ := AllO.bind hr
 refine W.cut (fun a w => ∃ (q73 : List (Int × (List GuideRide))), ∃ (l74 : List (Int × In)), ∃ (D67 : Nat) (s71 : Sg), s58.Le s71 ∧ q73 = q61 ∧ MEv 3 RGuideRide s71 l74 q73 ∧ Rep a 96 [(2, vi x2), (3, pp b51), (7, pp b53), (4294967295, vi (D67 : Nat))] ∧ St w s71 (pt D67 (.deferred (some [])) :: pc b53 #[.map (some b52)] 261 :: mapSC keyI.f 95 3 b52 l74 :: pc b51 #[.slice a0_0 x0.Day.Trains.length c0_0, .slice a0_1 x0.Day.Turns.length c0_1, vi x0.least] 91 :: R)) ?_ ?_
 ·refine W.rangeFunc (l := q54) (ps := [22]) [] rfl hE rfl hS rfl h57 bd100 (fun _ => rfl) rfl (fun pre64 s71 Q_ => ∃ (rest63 : List GuideRide), ∃ (q73 : List (Int × (List GuideRide))), ∃ (l74 : List (Int × In)), q54 = pre64 ++ rest63 ∧ GuideNetpoints.loop1 x0 rest63 q73 = some q61 ∧ s58.Le s71 ∧ MEv 3 RGuideRide s71 l74 q73 ∧ Q_ = pc b53 #[.map (some b52)] 261 :: mapSC keyI.f 95 3 b52 l74 :: pc b51 #[.slice a0_0 x0.Day.Trains.length c0_0, .slice a0_1 x0.Day.Turns.length c0_1, vi x0.least] 91 :: R) (fun _ _ _ => False) (fun _ _ _ h => (by obtain ⟨rest63, q73, l74, _, _, hle_, _⟩ := h; exact hle_)) ⟨q54, [], ([] : List (Int × In)), rfl, hq60, Sg.Le.refl _, (show MEv 3 RGuideRide s ([] : List (Int × In)) ([] : List (Int × List GuideRide)) from trivial), rfl⟩ (fun x62 (b76 : Nat) => [(3, pp b51), (7, pp b53), (8, pp b76)]) (fun x62 (b76 : Nat) => [pc b76 (GuideRide.cells x62).toArray 95]) ?_ ?_ ?_ ?_
  ·intro x62 a w t70 R L68 hE hS
   refine W.region ?_
   refine WL.alloc hE hS (runs_plain rfl) zr95 rfl ?_; clear hE hS a w; intro b76 a w hE hS
   refine WL.storeI hE hS 0 rfl (GuideRide.cells x62) (runs_plain rfl) rfl rfl rfl ty95 rfl rfl rfl rfl ?_; clear hE hS a w; intro a w hE hS
   refine WL.nil ?_
   exact ⟨b76, hE.pick _ ⟨rfl, rfl, rfl, trivial⟩, hS⟩
  ·intro pre64 x62 b76 s71 Q_ T_ L68 a w hpre_ hI_ hE hS
   obtain ⟨rest63, q73, l74, hl65, hq60, hle72, h75, rfl⟩ := hI_
   obtain ⟨rest63, rfl⟩ := pre_next hl65 hpre_
   rw [GuideNetpoints.loop1] at hq60
   replace hS : St w s71 (pc b76 (GuideRide.cells x62).toArray 95 :: pc b53 #[.map (some b52)] 261 :: mapSC keyI.f 95 3 b52 l74 :: pc b51 #[.slice a0_0 x0.Day.Trains.length c0_0, .slice a0_1 x0.Day.Turns.length c0_1, vi x0.least] 91 :: (R ++ T_)) := hS
   generalize hT77 : R ++ T_ = R at hS
   refine W.gen fun K78 hK78 => ?_
   replace h0_0 := Sl.mono RApiTrain.mono hle72 h0_0
   replace h0_1 := Sl.mono (RL.mono RI.mono) hle72 h0_1
   replace h57 := Iter.mono hle72 h57
   refine W.block ?_
   refine W.gen fun K79 hK79 => ?_
   refine W.regionE (sel (fun w => St w s71 (pc b76 (GuideRide.cells x62).toArray 95 :: pc b53 #[.map (some b52)] 261 :: mapSC keyI.f 95 3 b52 l74 :: pc b51 #[.slice a0_0 x0.Day.Trains.length c0_0, .slice a0_1 x0.Day.Turns.length c0_1, vi x0.least] 91 :: R)) (fun w => St w s71 (pc b76 (GuideRide.cells x62).toArray 95 :: pc b53 #[.map (some b52)] 261 :: pc b51 #[.slice a0_0 x0.Day.Trains.length c0_0, .slice a0_1 x0.Day.Turns.length c0_1, vi x0.least] 91 :: R))) (fun b i => cond b ([0, 1, 2, 3, 4, 5, 6, 7, 8, 9, 10, 11, 12].contains i) ([0, 1, 2, 3, 4, 5, 6, 7, 8, 9, 10, 11, 12, 13, 14].contains i)) mixed ?_
   replace hS := hS.drew
   have hT := tw_sel (A := fun w => St w s71 _) (B := fun w => St w s71 _) (w := _) (x := true) (y := true) (fun _ => hS) (fun _ => (hS.dropAt 2))
   have hF := hS; replace hS := (hS.dropAt 2)
   refine Rg.take (i := 0) false rfl hE rfl (by kernel_rfl) (runs_plain rfl) (Gives.loadB hE 1 rfl rfl rfl ty261) rfl hT fun a hE => ?_
   replace hS := hF; clear hF hT
   have hT := tw_sel (A := fun w => St w s71 _) (B := fun w => St w s71 _) (w := _) (x := true) (y := true) (fun _ => hS) (fun _ => (hS.dropAt 2))
   have hF := hS; replace hS := (hS.dropAt 2)
   refine Rg.take (i := 1) false rfl hE rfl (by kernel_rfl) (runs_plain rfl) (Gives.loadBA hE 2 rfl rfl ty91) rfl hT fun a hE => ?_
   replace hS := hF; clear hF hT
   have hT := tw_sel (A := fun w => St w s71 _) (B := fun w => St w s71 _) (w := _) (x := true) (y := true) (fun _ => hS) (fun _ => (hS.dropAt 2))
   have hF := hS; replace hS := (hS.dropAt 2)
   refine Rg.take (i := 2) false rfl hE rfl (by kernel_rfl) (runs_plain rfl) (Gives.loadBA hE 0 rfl rfl ty95) rfl hT fun a hE => ?_
   replace hS := hF; clear hF hT
   have hT := tw_sel (A := fun w => St w s71 _) (B := fun w => St w s71 _) (w := _) (x := true) (y := true) (fun _ => hS) (fun _ => (hS.dropAt 2))
   have hF := hS; replace hS := (hS.dropAt 2)
   refine Rg.take (i := 5) false rfl hE rfl (by kernel_rfl) (runs_plain rfl) (Gives.loadB hE 1 rfl rfl rfl ty261) rfl hT fun a hE => ?_
   replace hS := hF; clear hF hT
   have hT := tw_sel (A := fun w => St w s71 _) (B := fun w => St w s71 _) (w := _) (x := true) (y := true) (fun _ => hS) (fun _ => (hS.dropAt 2))
   have hF := hS; replace hS := (hS.dropAt 2)
   refine Rg.take (i := 6) false rfl hE rfl (by kernel_rfl) (runs_plain rfl) (Gives.loadBA hE 2 rfl rfl ty91) rfl hT fun a hE => ?_
   replace hS := hF; clear hF hT
   have hT := tw_sel (A := fun w => St w s71 _) (B := fun w => St w s71 _) (w := _) (x := true) (y := true) (fun _ => hS) (fun _ => (hS.dropAt 2))
   have hF := hS; replace hS := (hS.dropAt 2)
   refine Rg.take (i := 7) false rfl hE rfl (by kernel_rfl) (runs_plain rfl) (Gives.loadBA hE 0 rfl rfl ty95) rfl hT fun a hE => ?_
   replace hS := hF; clear hF hT
   have hT := tw_sel (A := fun w => St w s71 _) (B := fun w => St w s71 _) (w := _) (x := true) (y := true) (fun _ => hS) (fun _ => (hS.dropAt 2))
   have hF := hS; replace hS := (hS.dropAt 2)
   refine Rg.take (i := 11) false rfl hE rfl (by kernel_rfl) (runs_plain rfl) (Gives.loadBA hE 0 rfl rfl ty95) rfl hT fun a hE => ?_
   replace hS := hF; clear hF hT
   obtain ⟨q80, hq81, hq60⟩ := bindS hq60
   obtain ⟨q86, hq87, hq60⟩ := bindS hq60
   obtain rfl := Option.some.inj (hq81.symm.trans hq87)
   obtain ⟨x92, hx93, hq60⟩ := bndS hq60
   obtain ⟨x101, hx102, hq60⟩ := bindS hq60
   suffices key : ∀ s90 a103 c104 cs105 (a : Act) (w : World), s71.Le s90 → MEv 3 RGuideRide s90 (mput l74 q80.Dep ⟨a103, c104, x101.length, cs105⟩) (mput q73 q80.Dep x101) → Sl 4 RApiTrain s90 a0_0 c0_0 x0.Day.Trains → Sl 1 (RL 1 (RI .i64)) s90 a0_1 c0_1 x0.Day.Turns → Rep a 96 [] → St w s90 (pc b76 (GuideRide.cells x62).toArray 95 :: pc b53 #[.map (some b52)] 261 :: mapSC keyI.f 95 3 b52 (mput l74 q80.Dep ⟨a103, c104, x101.length, cs105⟩) :: pc b51 #[.slice a0_0 x0.Day.Trains.length c0_0, .slice a0_1 x0.Day.Turns.length c0_1, vi x0.least] 91 :: R) → K79.nor a w by
    refine Rg.many 3 [12] (by kernel_rfl) ⟨?_, ?_, trivial⟩
    ·refine Br.mk (i := 3) true true rfl (by kernel_rfl) (by kernel_rfl) ?_
     have hc_ := GuideNeton_ok hS h0_0 h0_1 hq81
     refine WL.fnq hE (hc_) (runs_plain rfl) bd44 rfl rfl rfl ?_
     clear hE hS hc_; rintro e w ⟨cs82, s84, rfl, hle85, h83, hS⟩; refine ⟨_, rfl, ?_⟩; clear a; intro a hE
     replace h0_0 := Sl.mono RApiTrain.mono hle85 h0_0
     replace h0_1 := Sl.mono (RL.mono RI.mono) hle85 h0_1
     replace h75 := MEv.mono RGuideRide.mono hle85 h75
     subst h83
     refine WL.nil ?_
     refine ⟨⟨fun _ => (St.down hle85 hS), fun _ => (St.down hle85 (hS.dropAt 2))⟩, ?_⟩
     refine tP (i := 4) hE rfl (by kernel_rfl) (Gives.field1 hE rfl fd99_3 ty3 rfl) rfl (St.down hle85 hS) (St.down hle85 (hS.dropAt 2)) fun a hE => ?_
     refine Rg.many 8 [12] (by kernel_rfl) ⟨?_, ?_, trivial⟩
     ·refine Br.mk (i := 8) true true rfl (by kernel_rfl) (by kernel_rfl) ?_
      have hc_ := GuideNeton_ok hS h0_0 h0_1 hq87
      refine WL.fnq hE (hc_) (runs_plain rfl) bd44 rfl rfl rfl ?_
      clear hE hS hc_; rintro e w ⟨cs88, s90, rfl, hle91, h89, hS⟩; refine ⟨_, rfl, ?_⟩; clear a; intro a hE
      replace h0_0 := Sl.mono RApiTrain.mono hle91 h0_0
      replace h0_1 := Sl.mono (RL.mono RI.mono) hle91 h0_1
      replace h75 := MEv.mono RGuideRide.mono hle91 h75
      subst h89
      refine WL.nil ?_
      refine ⟨⟨fun _ => (St.down (Sg.Le.trans hle85 hle91) hS), fun _ => (St.down (Sg.Le.trans hle85 hle91) (hS.dropAt 2))⟩, ?_⟩
      refine tP (i := 9) hE rfl (by kernel_rfl) (Gives.field1 hE rfl fd99_3 ty3 rfl) rfl (St.down (Sg.Le.trans hle85 hle91) hS) (St.down (Sg.Le.trans hle85 hle91) (hS.dropAt 2)) fun a hE => ?_
      have hT := tw_sel (A := fun w => St w s71 _) (B := fun w => St w s71 _) (w := _) (x := true) (y := true) (fun _ => (St.down (Sg.Le.trans hle85 hle91) hS)) (fun _ => (St.down (Sg.Le.trans hle85 hle91) (hS.dropAt 2)))
      have hF := hS; replace hS := (St.down (Sg.Le.trans hle85 hle91) hS)
      obtain ⟨a94, c95, cs96, e97, hev98⟩ := MEv.at h75 q80.Dep
      rw [hx93] at e97 hev98
      refine Rg.take (i := 10) true rfl hE rfl (by kernel_rfl) (runs_plain rfl) (Gives.msGet keyI hE 2 (k := q80.Dep) rfl rfl rfl mp261 zs27 e97) rfl hT fun a hE => ?_
      replace hS := hF; clear hF hT
      refine Rg.one (i := 12) true true rfl (by kernel_rfl) (by kernel_rfl) (by kernel_rfl) ?_
      refine WL.lit hE hS (e := 95) (es := 3) (vs := [(0, .agg (GuideRide.cells x62).toArray)]) (cs := [vi x62.Train, vi x62.On, vi x62.Off]) (runs_plain rfl) rfl (by kernel_rfl) rfl ?_; clear hE hS a w; intro b99 a w hE hS
      refine WL.nil ?_
      refine ⟨⟨fun _ => (St.down (Sg.Le.trans hle85 hle91) (hS.tail)), fun _ => (St.down (Sg.Le.trans hle85 hle91) ((hS.tail).dropAt 2))⟩, ?_⟩
      refine Rg.one (i := 13) false true rfl (by kernel_rfl) (by kernel_rfl) (by kernel_rfl) ?_
      replace hS := hS.msOpen 3 rfl e97
      replace hS : St w s90 (vecC 95 3 a94 c95 x92.length cs96 :: pc b99 #[vi x62.Train, vi x62.On, vi x62.Off] 95 :: pc b76 (GuideRide.cells x62).toArray 95 :: pc b53 #[.map (some b52)] 261 :: mapSH keyI.f 95 3 b52 l74 q80.Dep :: pc b51 #[.slice a0_0 x0.Day.Trains.length c0_0, .slice a0_1 x0.Day.Turns.length c0_1, vi x0.least] 91 :: R) := hS
      replace hS := hS.front 1 rfl
      refine WL.appD hE hS 0 (m := 1) (runs_plain rfl) rfl rfl rfl ap27 rfl hev98 (rfl) (xs := [x62]) (Ev.cons (c1 := [vi x62.Train, vi x62.On, vi x62.Off]) rfl rfl (Ev.nil)) rfl rfl hx102 rfl ?_; clear hE hS a w; intro a103 c104 cs105 a w h106 hE hS
      refine WL.nil ?_
      refine ⟨⟨fun h => absurd h (by decide), fun _ => (St.down (Sg.Le.trans hle85 hle91) ((hS.tail).dropAt 2))⟩, ?_⟩
      refine Rg.one (i := 14) false true rfl (by kernel_rfl) (by kernel_rfl) (by kernel_rfl) ?_
      refine WL.msSet keyI hE hS 2 (k := q80.Dep) (.inl rfl) (runs_plain rfl) rfl rfl rfl rfl mp261 rfl ?_; clear hE hS a w; intro a w hE hS
      refine WL.nil ?_
      refine ⟨⟨fun h => absurd h (by decide), fun _ => (St.down (Sg.Le.trans hle85 hle91) (hS.dropAt 2))⟩, ?_⟩
      refine Rg.done (by kernel_rfl) ?_
      exact key _ _ _ _ _ _ (Sg.Le.trans hle85 hle91) (MEv.put h106 (rfl) h75 q80.Dep) h0_0 h0_1 (hE.pick _ trivial) hS
     refine Br.mk (i := 12) true true rfl (by kernel_rfl) (by kernel_rfl) ?_
     refine WL.lit hE hS (e := 95) (es := 3) (vs := [(0, .agg (GuideRide.cells x62).toArray)]) (cs := [vi x62.Train, vi x62.On, vi x62.Off]) (runs_plain rfl) rfl (by kernel_rfl) rfl ?_; clear hE hS a w; intro b99 a w hE hS
     refine WL.nil ?_
     refine ⟨⟨fun _ => (St.down hle85 (hS.tail)), fun _ => (St.down hle85 ((hS.tail).dropAt 2))⟩, ?_⟩
     refine Rg.one (i := 8) true true rfl (by kernel_rfl) (by kernel_rfl) (by kernel_rfl) ?_
     have hc_ := GuideNeton_ok hS h0_0 h0_1 hq87
     refine WL.fnq hE (hc_) (runs_plain rfl) bd44 rfl rfl rfl ?_
     clear hE hS hc_; rintro e w ⟨cs88, s90, rfl, hle91, h89, hS⟩; refine ⟨_, rfl, ?_⟩; clear a; intro a hE
     replace h0_0 := Sl.mono RApiTrain.mono hle91 h0_0
     replace h0_1 := Sl.mono (RL.mono RI.mono) hle91 h0_1
     replace h75 := MEv.mono RGuideRide.mono hle91 h75
     subst h89
     refine WL.nil ?_
     refine ⟨⟨fun _ => (St.down (Sg.Le.trans hle85 hle91) (hS.tail)), fun _ => (St.down (Sg.Le.trans hle85 hle91) ((hS.tail).dropAt 2))⟩, ?_⟩
     refine tP (i := 9) hE rfl (by kernel_rfl) (Gives.field1 hE rfl fd99_3 ty3 rfl) rfl (St.down (Sg.Le.trans hle85 hle91) (hS.tail)) (St.down (Sg.Le.trans hle85 hle91) ((hS.tail).dropAt 2)) fun a hE => ?_
     have hT := tw_sel (A := fun w => St w s71 _) (B := fun w => St w s71 _) (w := _) (x := true) (y := true) (fun _ => (St.down (Sg.Le.trans hle85 hle91) (hS.tail))) (fun _ => (St.down (Sg.Le.trans hle85 hle91) ((hS.tail).dropAt 2)))
     have hF := hS; replace hS := (St.down (Sg.Le.trans hle85 hle91) (hS.tail))
     obtain ⟨a94, c95, cs96, e97, hev98⟩ := MEv.at h75 q80.Dep
     rw [hx93] at e97 hev98
     refine Rg.take (i := 10) true rfl hE rfl (by kernel_rfl) (runs_plain rfl) (Gives.msGet keyI hE 2 (k := q80.Dep) rfl rfl rfl mp261 zs27 e97) rfl hT fun a hE => ?_
     replace hS := hF; clear hF hT
     refine Rg.one (i := 13) false true rfl (by kernel_rfl) (by kernel_rfl) (by kernel_rfl) ?_
     replace hS := hS.msOpen 3 rfl e97
     replace hS : St w s90 (vecC 95 3 a94 c95 x92.length cs96 :: pc b99 #[vi x62.Train, vi x62.On, vi x62.Off] 95 :: pc b76 (GuideRide.cells x62).toArray 95 :: pc b53 #[.map (some b52)] 261 :: mapSH keyI.f 95 3 b52 l74 q80.Dep :: pc b51 #[.slice a0_0 x0.Day.Trains.length c0_0, .slice a0_1 x0.Day.Turns.length c0_1, vi x0.least] 91 :: R) := hS
     replace hS := hS.front 1 rfl
     refine WL.appD hE hS 0 (m := 1) (runs_plain rfl) rfl rfl rfl ap27 rfl hev98 (rfl) (xs := [x62]) (Ev.cons (c1 := [vi x62.Train, vi x62.On, vi x62.Off]) rfl rfl (Ev.nil)) rfl rfl hx102 rfl ?_; clear hE hS a w; intro a103 c104 cs105 a w h106 hE hS
     refine WL.nil ?_
     refine ⟨⟨fun h => absurd h (by decide), fun _ => (St.down (Sg.Le.trans hle85 hle91) ((hS.tail).dropAt 2))⟩, ?_⟩
     refine Rg.one (i := 14) false true rfl (by kernel_rfl) (by kernel_rfl) (by kernel_rfl) ?_
     refine WL.msSet keyI hE hS 2 (k := q80.Dep) (.inl rfl) (runs_plain rfl) rfl rfl rfl rfl mp261 rfl ?_; clear hE hS a w; intro a w hE hS
     refine WL.nil ?_
     refine ⟨⟨fun h => absurd h (by decide), fun _ => (St.down (Sg.Le.trans hle85 hle91) (hS.dropAt 2))⟩, ?_⟩
     refine Rg.done (by kernel_rfl) ?_
     exact key _ _ _ _ _ _ (Sg.Le.trans hle85 hle91) (MEv.put h106 (rfl) h75 q80.Dep) h0_0 h0_1 (hE.pick _ trivial) hS
    refine Br.mk (i := 12) true true rfl (by kernel_rfl) (by kernel_rfl) ?_
    refine WL.lit hE hS (e := 95) (es := 3) (vs := [(0, .agg (GuideRide.cells x62).toArray)]) (cs := [vi x62.Train, vi x62.On, vi x62.Off]) (runs_plain rfl) rfl (by kernel_rfl) rfl ?_; clear hE hS a w; intro b99 a w hE hS
    refine WL.nil ?_
    refine ⟨⟨fun _ => (hS.tail), fun _ => ((hS.tail).dropAt 2)⟩, ?_⟩
    refine Rg.one (i := 3) true true rfl (by kernel_rfl) (by kernel_rfl) (by kernel_rfl) ?_
    have hc_ := GuideNeton_ok hS h0_0 h0_1 hq81
    refine WL.fnq hE (hc_) (runs_plain rfl) bd44 rfl rfl rfl ?_
    clear hE hS hc_; rintro e w ⟨cs82, s84, rfl, hle85, h83, hS⟩; refine ⟨_, rfl, ?_⟩; clear a; intro a hE
    replace h0_0 := Sl.mono RApiTrain.mono hle85 h0_0
    replace h0_1 := Sl.mono (RL.mono RI.mono) hle85 h0_1
    replace h75 := MEv.mono RGuideRide.mono hle85 h75
    subst h83
    refine WL.nil ?_
    refine ⟨⟨fun _ => (St.down hle85 (hS.tail)), fun _ => (St.down hle85 ((hS.tail).dropAt 2))⟩, ?_⟩
    refine tP (i := 4) hE rfl (by kernel_rfl) (Gives.field1 hE rfl fd99_3 ty3 rfl) rfl (St.down hle85 (hS.tail)) (St.down hle85 ((hS.tail).dropAt 2)) fun a hE => ?_
    refine Rg.one (i := 8) true true rfl (by kernel_rfl) (by kernel_rfl) (by kernel_rfl) ?_
    have hc_ := GuideNeton_ok hS h0_0 h0_1 hq87
    refine WL.fnq hE (hc_) (runs_plain rfl) bd44 rfl rfl rfl ?_
    clear hE hS hc_; rintro e w ⟨cs88, s90, rfl, hle91, h89, hS⟩; refine ⟨_, rfl, ?_⟩; clear a; intro a hE
    replace h0_0 := Sl.mono RApiTrain.mono hle91 h0_0
    replace h0_1 := Sl.mono (RL.mono RI.mono) hle91 h0_1
    replace h75 := MEv.mono RGuideRide.mono hle91 h75
    subst h89
    refine WL.nil ?_
    refine ⟨⟨fun _ => (St.down (Sg.Le.trans hle85 hle91) (hS.tail)), fun _ => (St.down (Sg.Le.trans hle85 hle91) ((hS.tail).dropAt 2))⟩, ?_⟩
    refine tP (i := 9) hE rfl (by kernel_rfl) (Gives.field1 hE rfl fd99_3 ty3 rfl) rfl (St.down (Sg.Le.trans hle85 hle91) (hS.tail)) (St.down (Sg.Le.trans hle85 hle91) ((hS.tail).dropAt 2)) fun a hE => ?_
    have hT := tw_sel (A := fun w => St w s71 _) (B := fun w => St w s71 _) (w := _) (x := true) (y := true) (fun _ => (St.down (Sg.Le.trans hle85 hle91) (hS.tail))) (fun _ => (St.down (Sg.Le.trans hle85 hle91) ((hS.tail).dropAt 2)))
    have hF := hS; replace hS := (St.down (Sg.Le.trans hle85 hle91) (hS.tail))
    obtain ⟨a94, c95, cs96, e97, hev98⟩ := MEv.at h75 q80.Dep
    rw [hx93] at e97 hev98
    refine Rg.take (i := 10) true rfl hE rfl (by kernel_rfl) (runs_plain rfl) (Gives.msGet keyI hE 2 (k := q80.Dep) rfl rfl rfl mp261 zs27 e97) rfl hT fun a hE => ?_
    replace hS := hF; clear hF hT
    refine Rg.one (i := 13) false true rfl (by kernel_rfl) (by kernel_rfl) (by kernel_rfl) ?_
    replace hS := hS.msOpen 3 rfl e97
    replace hS : St w s90 (vecC 95 3 a94 c95 x92.length cs96 :: pc b99 #[vi x62.Train, vi x62.On, vi x62.Off] 95 :: pc b76 (GuideRide.cells x62).toArray 95 :: pc b53 #[.map (some b52)] 261 :: mapSH keyI.f 95 3 b52 l74 q80.Dep :: pc b51 #[.slice a0_0 x0.Day.Trains.length c0_0, .slice a0_1 x0.Day.Turns.length c0_1, vi x0.least] 91 :: R) := hS
    replace hS := hS.front 1 rfl
    refine WL.appD hE hS 0 (m := 1) (runs_plain rfl) rfl rfl rfl ap27 rfl hev98 (rfl) (xs := [x62]) (Ev.cons (c1 := [vi x62.Train, vi x62.On, vi x62.Off]) rfl rfl (Ev.nil)) rfl rfl hx102 rfl ?_; clear hE hS a w; intro a103 c104 cs105 a w h106 hE hS
    refine WL.nil ?_
    refine ⟨⟨fun h => absurd h (by decide), fun _ => (St.down (Sg.Le.trans hle85 hle91) ((hS.tail).dropAt 2))⟩, ?_⟩
    refine Rg.one (i := 14) false true rfl (by kernel_rfl) (by kernel_rfl) (by kernel_rfl) ?_
    refine WL.msSet keyI hE hS 2 (k := q80.Dep) (.inl rfl) (runs_plain rfl) rfl rfl rfl rfl mp261 rfl ?_; clear hE hS a w; intro a w hE hS
    refine WL.nil ?_
    refine ⟨⟨fun h => absurd h (by decide), fun _ => (St.down (Sg.Le.trans hle85 hle91) (hS.dropAt 2))⟩, ?_⟩
    refine Rg.done (by kernel_rfl) ?_
    exact key _ _ _ _ _ _ (Sg.Le.trans hle85 hle91) (MEv.put h106 (rfl) h75 q80.Dep) h0_0 h0_1 (hE.pick _ trivial) hS
   clear hE hS a w; intro s90 a103 c104 cs105 a w hle108 h107 h0_0 h0_1 hE hS
   subst hK79
   replace hS := hS.tail
   subst hK78
   subst hT77
   exact ⟨s90, _, ⟨rest63, (mput q73 q80.Dep x101), (mput l74 q80.Dep ⟨a103, c104, x101.length, cs105⟩), hl65.trans (by simp), hq60, (Sg.Le.trans hle72 hle108), h107, rfl⟩, hS⟩
  ·intro s71 Q_ D67 a w hI_ hE hS
   obtain ⟨rest63, q73, l74, hl65, hq60, hle72, h75, rfl⟩ := hI_
   obtain rfl := pre_end hl65
   rw [GuideNetpoints.loop1] at hq60
   exact ⟨q73, _, D67, s71, hle72, Option.some.inj hq60, h75, hE.pick _ ⟨rfl, rfl, rfl, rfl, trivial⟩, hS⟩
  exact fun _ _ _ _ _ _ _ h => h.elim
 clear hE hS a w; rintro a w ⟨q73, l74, D67, s71, hle72, rfl, h75, hE, hS⟩
 replace h0_0 := Sl.mono RApiTrain.mono hle72 h0_0
 replace h0_1 := Sl.mono (RL.mono RI.mono) hle72 h0_1
 replace h57 := Iter.mono hle72 h57
 refine W.seq (W.region ?_)
 refine WL.mkMap (fk := keyGuidePoint.f) (fv := Value.bool) hE hS (runs_plain rfl) rfl ?_; clear hE hS a w; intro b109 a w hE hS
 refine vp hS hE rfl rfl fun a hE => WL.nil ?_
 refine W.seq (W.region ?_)
 replace hS := hS.vecNil 216 3
 refine vp hS hE rfl rfl fun a hE => WL.nil ?_
 refine W.seq ?_
 refine W.seq (W.region (vP hS hE (Gives.loadB hE 3 rfl rfl rfl ty261) rfl fun a hE => ?_))
 have hF := hS.msFix RGuideRide.mono 4 rfl h75; clear hS; obtain ⟨s113, hle114, hS, h115⟩ := hF
 replace h0_0 := Sl.mono RApiTrain.mono hle114 h0_0
 replace h0_1 := Sl.mono (RL.mono RI.mono) hle114 h0_1
 refine WL.rangeI hE hS 4 rfl rfl um261 (runs_plain rfl) rfl ?_; clear hE hS a w; intro r112 a w hE hS
 refine WL.nil ?_
 obtain ⟨Q118, hO116, hr⟩ := AllO.bindP hr
 refine W.cut (fun a w => ∃ (q132 : List GuidePoint), ∃ (q139 : List (GuidePoint × Bool)), ∃ (a133 : Option Addr), ∃ (c134 : Nat), ∃ (n136 : Nat), ∃ (cs137 : List Value), ∃ (s120 : Sg), s113.Le s120 ∧ Q118 (q132, q139) ∧ Ev 3 RGuidePoint s120 cs137 q132 ∧ q132.length = n136 ∧ Rep a 96 [(10, .slice a133 n136 c134), (4294967295, vi (D67 : Nat))] ∧ St w s120 (vecC 216 3 a133 c134 n136 cs137 :: mapC keyGuidePoint.f Value.bool b109 q139 :: pt D67 (.deferred (some [])) :: pc b53 #[.map (some b52)] 261 :: mapC keyI.f In.cell b52 l74 :: pc b51 #[.slice a0_0 x0.Day.Trains.length c0_0, .slice a0_1 x0.Day.Turns.length c0_1, vi x0.least] 91 :: R)) ?_ ?_
 ·unfold GuideNetpoints.loop2 at hO116
  refine W.block ?_
  refine W.loop (fun m a w => ∃ (rest122 : List (Int × (List GuideRide))) (ix123 : List Nat) (nn124 : Nat), ∃ (q132 : List GuidePoint), ∃ (q139 : List (GuidePoint × Bool)), ∃ (a133 : Option Addr), ∃ (c134 : Nat), ∃ (n136 : Nat), ∃ (cs137 : List Value), ∃ (s120 : Sg), rest122.length = m ∧ rest122.Perm (remI ix123 q73) ∧ rest122.length ≤ nn124 ∧ s113.Le s120 ∧ AllO (rngO (fun x st => GuideNetpoints.loop2.step x0 x2 x.1 x.2 st.1 st.2) nn124 rest122 (q132, q139)) Q118 ∧ Ev 3 RGuidePoint s120 cs137 q132 ∧ q132.length = n136 ∧ Rep a 96 [(2, vi x2), (3, pp b51), (9, .map (some b109)), (10, .slice a133 n136 c134), (39, pp r112), (4294967295, vi (D67 : Nat))] ∧ St w s120 (vecC 216 3 a133 c134 n136 cs137 :: mapC keyGuidePoint.f Value.bool b109 q139 :: pt D67 (.deferred (some [])) :: pc b53 #[.map (some b52)] 261 :: iterI keyI.f In.cell b52 r112 l74 ix123 :: pc b51 #[.slice a0_0 x0.Day.Trains.length c0_0, .slice a0_1 x0.Day.Turns.length c0_1, vi x0.least] 91 :: R)) (m := (q73).length) ⟨q73, [], (q73).length, [], [], none, 0, 0, [], s113, rfl, by rw [remI_nil], Nat.le_refl _, (Sg.Le.refl _), hO116, (Ev.nil), (rfl), hE.pick _ ⟨rfl, rfl, rfl, rfl, rfl, rfl, trivial⟩, hS⟩ ?_
  clear hE hS a w hO116; rintro m119 a w ⟨rest122, ix123, nn124, q132, q139, a133, c134, n136, cs137, s120, rfl, hp125, hn126, hle121, hO116, h135, rfl, hE, hS⟩
  refine W.gen fun K140 hK140 => ?_
  replace h115 := MSl.mono RGuideRide.mono hle121 h115
  replace h0_0 := Sl.mono RApiTrain.mono hle121 h0_0
  replace h0_1 := Sl.mono (RL.mono RI.mono) hle121 h0_1
  refine W.seq (W.region ?_)
  refine WL.nextI hE hS 4 rfl rfl (runs_plain rfl) rfl ?_ ?_
  ·intro hall149; clear hE a; intro a hE
   replace hall149 := fun j hj => hall149 j (by rw [MSl.len h115]; exact hj)
   have hz151 := hp125; rw [remI_end hall149] at hz151; obtain rfl := hz151.eq_nil; replace hO116 := rngO_end hO116
   refine vp hS hE rfl rfl fun a hE => WL.nil ?_
   refine W.seq ?_
   refine W.condF hE rfl rfl ?_
   subst hK140
   refine W.exit rfl ?_
   replace hS := hS.iDone 4 rfl
   exact ⟨q132, q139, a133, c134, q132.length, cs137, s120, hle121, hO116, h135, rfl, hE.pick _ ⟨rfl, rfl, trivial⟩, hS⟩
  clear hE hS a w; intro j129 x128 a w hp130 hn131 hE hS
  obtain ⟨k127, a152, c153, n154, cs155⟩ := x128
  obtain ⟨x128, hy150, h156, hn157⟩ := MSl.at h115 hp130; dsimp only at hy150 h156 hn157; subst hn157
  obtain ⟨nn144, rest145, Q142, hp146, hn147, hlt148, hO141, hQ143⟩ := rngO_step hn126 (hp125.trans (remI_next hy150 hn131)) hO116
  (try dsimp only at hO141); unfold GuideNetpoints.loop2.step at hO141
  refine vp hS hE rfl rfl fun a hE => WL.nil ?_
  refine W.seq ?_
  refine W.condT hE rfl rfl ?_
  refine W.skip ?_
  refine W.block ?_
  refine W.seq (W.region (vP hS hE (show Gives _ _ _ _ (Value.tuple #[vi k127, .slice a152 x128.length c153]) from Gives.entryI (fk := keyI.f) (fv := In.cell) hE 4 (p := (k127, (⟨a152, c153, x128.length, cs155⟩ : In))) rfl hp130 rfl) rfl fun a hE => ?_))
  refine v2 hS hE rfl rfl rfl rfl fun a hE => ?_
  refine v2 hS hE rfl rfl rfl rfl fun a hE => WL.nil ?_
  refine W.seq (W.region (vP hS hE (Gives.loadBA hE 5 rfl rfl ty91) rfl fun a hE => ?_))
  refine vp hS hE rfl rfl fun a hE => ?_
  obtain ⟨q159, hq160, hO141⟩ := AllO.bind hO141
  have hc_ := GuideNetends_ok hS h0_0 h0_1 h156 hq160
  refine WL.fnq hE (hc_) (runs_plain rfl) bd167 rfl rfl rfl ?_
  clear hE hS hc_; rintro e w ⟨bs161, s164, rfl, hle165, h162, hS⟩; refine ⟨_, rfl, ?_⟩; clear a; intro a hE
  replace h156 := Sl.mono RGuideRide.mono hle165 h156
  replace h0_0 := Sl.mono RApiTrain.mono hle165 h0_0
  replace h0_1 := Sl.mono (RL.mono RI.mono) hle165 h0_1
  replace h135 := Ev.mono RGuidePoint.mono hle165 h135
  replace h115 := MSl.mono RGuideRide.mono hle165 h115
  refine vp hS hE rfl rfl fun a hE => WL.nil ?_
  obtain ⟨Q168, hO166, hO141⟩ := AllO.bindP hO141
  refine W.cut (fun a w => ∃ (q182 : List GuidePoint), ∃ (q189 : List (GuidePoint × Bool)), ∃ (a183 : Option Addr), ∃ (c184 : Nat), ∃ (n186 : Nat), ∃ (cs187 : List Value), Q168 (q182, q189) ∧ Ev 3 RGuidePoint s164 cs187 q182 ∧ q182.length = n186 ∧ Rep a 96 [(2, vi x2), (3, pp b51), (9, .map (some b109)), (10, .slice a183 n186 c184), (39, pp r112), (4294967295, vi (D67 : Nat))] ∧ St w s164 (mapsV keyGuidePlace.f Value.bool bs161 q159 :: vecC 216 3 a183 c184 n186 cs187 :: mapC keyGuidePoint.f Value.bool b109 q189 :: pt D67 (.deferred (some [])) :: pc b53 #[.map (some b52)] 261 :: iterI keyI.f In.cell b52 r112 l74 (ix123 ++ [j129]) :: pc b51 #[.slice a0_0 x0.Day.Trains.length c0_0, .slice a0_1 x0.Day.Turns.length c0_1, vi x0.least] 91 :: R)) ?_ ?_
  ·unfold GuideNetpoints.loop3 at hO166
   refine W.block ?_
   refine W.loop (fun m a w => ∃ (rest172 : Nat) (k177 : Nat), ∃ (q182 : List GuidePoint), ∃ (q189 : List (GuidePoint × Bool)), ∃ (a183 : Option Addr), ∃ (c184 : Nat), ∃ (n186 : Nat), ∃ (cs187 : List Value), rest172 = m ∧ k177 + rest172 = 4 ∧ AllO (cntO (fun x st => GuideNetpoints.loop3.step x0 x2 k127 q159 x st.1 st.2) rest172 k177 (q182, q189)) Q168 ∧ Ev 3 RGuidePoint s164 cs187 q182 ∧ q182.length = n186 ∧ Rep a 96 [(2, vi x2), (3, pp b51), (9, .map (some b109)), (10, .slice a183 n186 c184), (11, vi k127), (39, pp r112), (47, .agg (mcells 4 bs161).toArray), (48, vi ((k177 : Nat) : Int)), (4294967295, vi (D67 : Nat))] ∧ St w s164 (mapsV keyGuidePlace.f Value.bool bs161 q159 :: vecC 216 3 a183 c184 n186 cs187 :: mapC keyGuidePoint.f Value.bool b109 q189 :: pt D67 (.deferred (some [])) :: pc b53 #[.map (some b52)] 261 :: iterI keyI.f In.cell b52 r112 l74 (ix123 ++ [j129]) :: pc b51 #[.slice a0_0 x0.Day.Trains.length c0_0, .slice a0_1 x0.Day.Turns.length c0_1, vi x0.least] 91 :: R)) (m := 4) ⟨4, 0, q132, q139, a133, c134, q132.length, cs137, rfl, by omega, hO166, h135, rfl, hE.pick _ ⟨rfl, rfl, rfl, rfl, rfl, rfl, rfl, rfl, rfl, trivial⟩, hS⟩ ?_
   clear hE hS a w hO166; rintro m169 a w ⟨rest172, k177, q182, q189, a183, c184, n186, cs187, rfl, hp175, hO166, h185, rfl, hE, hS⟩
   refine W.gen fun K190 hK190 => ?_
   rcases rest172 with _ | rest172
   ·replace hO166 := cntO_end hO166
    refine W.seq (W.region (vp hS hE rfl rfl fun a hE => WL.nil ?_))
    refine W.seq ?_
    refine W.condF hE rfl (decide_eq_false (by omega)) ?_
    subst hK190
    refine W.exit rfl ?_
    exact ⟨q182, q189, a183, c184, q182.length, cs187, hO166, h185, rfl, hE.pick _ ⟨rfl, rfl, rfl, rfl, rfl, rfl, trivial⟩, hS⟩
   have hlt198 : k177 < 4 := by omega
   obtain ⟨Q192, hO191, hQ193⟩ := cntO_step hO166
   (try dsimp only at hO191); unfold GuideNetpoints.loop3.step at hO191
   refine W.seq (W.region (vp hS hE rfl rfl fun a hE => WL.nil ?_))
   refine W.seq ?_
   refine W.condT hE rfl (decide_eq_true (by omega)) ?_
   refine W.skip ?_
   refine W.seq ?_
   refine W.block ?_
   refine W.seq (W.region (vp hS hE rfl rfl fun a hE => ?_))
   obtain ⟨x199, hx200, hO191⟩ := AllO.bind hO191
   obtain ⟨hi201, hlt202, hy203⟩ := gx_some hx200
   obtain ⟨b204, hb205⟩ := hS.mapsAt 0 rfl hy203
   refine vP hS hE (show Gives _ _ _ _ (Value.map (some b204)) from Gives.indexMi hE (f := fun b => Value.map (some b)) (l := bs161) ar264 rfl rfl (mcells_all h162) h162 hi201 hb205) rfl fun a hE => ?_
   refine v2 hS hE rfl rfl rfl rfl fun a hE => WL.nil ?_
   refine W.seq (W.region (vp hS hE rfl rfl fun a hE => ?_))
   replace hS := hS.mapsTake 0 rfl hy203 hb205
   refine WL.rangeI hE hS 0 rfl rfl um263 (runs_plain rfl) rfl ?_; clear hE hS a w; intro r207 a w hE hS
   refine WL.nil ?_
   obtain ⟨Q210, hO208, hO191⟩ := AllO.bindP hO191
   refine W.cut (fun a w => ∃ (q224 : List GuidePoint), ∃ (q231 : List (GuidePoint × Bool)), ∃ (a225 : Option Addr), ∃ (c226 : Nat), ∃ (n228 : Nat), ∃ (cs229 : List Value), Q210 (q224, q231) ∧ Ev 3 RGuidePoint s164 cs229 q224 ∧ q224.length = n228 ∧ Rep a 96 [(2, vi x2), (3, pp b51), (9, .map (some b109)), (10, .slice a225 n228 c226), (11, vi k127), (39, pp r112), (47, .agg (mcells 4 bs161).toArray), (48, vi ((k177 : Nat) : Int)), (4294967295, vi (D67 : Nat))] ∧ St w s164 (mapsV keyGuidePlace.f Value.bool bs161 q159 :: vecC 216 3 a225 c226 n228 cs229 :: mapC keyGuidePoint.f Value.bool b109 q231 :: pt D67 (.deferred (some [])) :: pc b53 #[.map (some b52)] 261 :: iterI keyI.f In.cell b52 r112 l74 (ix123 ++ [j129]) :: pc b51 #[.slice a0_0 x0.Day.Trains.length c0_0, .slice a0_1 x0.Day.Turns.length c0_1, vi x0.least] 91 :: R)) ?_ ?_
   ·unfold GuideNetpoints.loop4 at hO208
    refine W.block ?_
    refine W.loop (fun m a w => ∃ (rest214 : List (GuidePlace × Bool)) (ix215 : List Nat) (nn216 : Nat), ∃ (q224 : List GuidePoint), ∃ (q231 : List (GuidePoint × Bool)), ∃ (a225 : Option Addr), ∃ (c226 : Nat), ∃ (n228 : Nat), ∃ (cs229 : List Value), rest214.length = m ∧ rest214.Perm (remI ix215 x199) ∧ rest214.length ≤ nn216 ∧ AllO (rngO (fun x st => GuideNetpoints.loop4.step x0 x2 k127 k177 x.1 x.2 st.1 st.2) nn216 rest214 (q224, q231)) Q210 ∧ Ev 3 RGuidePoint s164 cs229 q224 ∧ q224.length = n228 ∧ Rep a 96 [(2, vi x2), (3, pp b51), (9, .map (some b109)), (10, .slice a225 n228 c226), (11, vi k127), (13, vi ((k177 : Nat) : Int)), (39, pp r112), (47, .agg (mcells 4 bs161).toArray), (48, vi ((k177 : Nat) : Int)), (53, pp r207), (4294967295, vi (D67 : Nat))] ∧ St w s164 (iterI keyGuidePlace.f Value.bool b204 r207 x199 ix215 :: mapsV keyGuidePlace.f Value.bool (List.eraseIdx bs161 ((((k177 : Nat) : Int)).toNat)) (List.eraseIdx q159 ((((k177 : Nat) : Int)).toNat)) :: vecC 216 3 a225 c226 n228 cs229 :: mapC keyGuidePoint.f Value.bool b109 q231 :: pt D67 (.deferred (some [])) :: pc b53 #[.map (some b52)] 261 :: iterI keyI.f In.cell b52 r112 l74 (ix123 ++ [j129]) :: pc b51 #[.slice a0_0 x0.Day.Trains.length c0_0, .slice a0_1 x0.Day.Turns.length c0_1, vi x0.least] 91 :: R)) (m := (x199).length) ⟨x199, [], (x199).length, q182, q189, a183, c184, q182.length, cs187, rfl, by rw [remI_nil], Nat.le_refl _, hO208, h185, rfl, hE.pick _ ⟨rfl, rfl, rfl, rfl, rfl, rfl, rfl, rfl, rfl, rfl, rfl, trivial⟩, hS⟩ ?_
    clear hE hS a w hO208; rintro m211 a w ⟨rest214, ix215, nn216, q224, q231, a225, c226, n228, cs229, rfl, hp217, hn218, hO208, h227, rfl, hE, hS⟩
    refine W.gen fun K232 hK232 => ?_
    refine W.seq (W.region ?_)
    refine WL.nextI hE hS 0 rfl rfl (runs_plain rfl) rfl ?_ ?_
    ·intro hall241; clear hE a; intro a hE
     have hz243 := hp217; rw [remI_end hall241] at hz243; obtain rfl := hz243.eq_nil; replace hO208 := rngO_end hO208
     refine vp hS hE rfl rfl fun a hE => WL.nil ?_
     refine W.seq ?_
     refine W.condF hE rfl rfl ?_
     subst hK232
     refine W.exit rfl ?_
     replace hS := hS.iDone 0 rfl
     replace hS := St.mapsBack hS hy203 hb205
     exact ⟨q224, q231, a225, c226, q224.length, cs229, hO208, h227, rfl, hE.pick _ ⟨rfl, rfl, rfl, rfl, rfl, rfl, rfl, rfl, rfl, trivial⟩, hS⟩
    clear hE hS a w; intro j221 x220 a w hp222 hn223 hE hS
    obtain ⟨k219, x220⟩ := x220
    have hy242 := hp222
    obtain ⟨nn236, rest237, Q234, hp238, hn239, hlt240, hO233, hQ235⟩ := rngO_step hn218 (hp217.trans (remI_next hy242 hn223)) hO208
    (try dsimp only at hO233); unfold GuideNetpoints.loop4.step at hO233
    refine vp hS hE rfl rfl fun a hE => WL.nil ?_
    refine W.seq ?_
    refine W.condT hE rfl rfl ?_
    refine W.skip ?_
    refine W.block ?_
    refine W.seq (W.region (vP hS hE (show Gives _ _ _ _ (Value.tuple #[.agg (GuidePlace.cells k219).toArray, .bool x220]) from Gives.entryI (fk := keyGuidePlace.f) (fv := Value.bool) hE 0 (p := (k219, x220)) rfl hp222 rfl) rfl fun a hE => ?_))
    refine vp hS hE rfl rfl fun a hE => ?_
    refine WL.alloc hE hS (runs_plain rfl) zr267 rfl ?_; clear hE hS a w; intro b244 a w hE hS
    refine WL.storeI hE hS 0 rfl (GuidePlace.cells k219) (runs_plain rfl) rfl rfl rfl ty267 rfl rfl rfl rfl ?_; clear hE hS a w; intro a w hE hS
    refine WL.nil ?_
    refine W.seq ?_
    refine W.gen fun K245 hK245 => ?_
    refine W.regionE (dup (fun w => St w s164 (pc b244 (GuidePlace.cells k219).toArray 267 :: iterI keyGuidePlace.f Value.bool b204 r207 x199 (ix215 ++ [j221]) :: mapsV keyGuidePlace.f Value.bool (List.eraseIdx bs161 ((((k177 : Nat) : Int)).toNat)) (List.eraseIdx q159 ((((k177 : Nat) : Int)).toNat)) :: vecC 216 3 a225 c226 q224.length cs229 :: mapC keyGuidePoint.f Value.bool b109 q231 :: pt D67 (.deferred (some [])) :: pc b53 #[.map (some b52)] 261 :: iterI keyI.f In.cell b52 r112 l74 (ix123 ++ [j129]) :: pc b51 #[.slice a0_0 x0.Day.Trains.length c0_0, .slice a0_1 x0.Day.Turns.length c0_1, vi x0.least] 91 :: R))) (fun b i => cond b ([0, 1, 2, 3, 4, 5, 6, 7, 8, 9, 10, 11, 12, 13].contains i) ([0, 1, 2, 3, 4, 5, 6, 7, 8, 9, 10, 11, 12, 13].contains i)) mixed ?_
    replace hS := hS.drew
    refine tP (i := 0) hE rfl (by kernel_rfl) (Gives.fld hE rfl fl91_0) rfl hS hS fun a hE => ?_
    refine tP (i := 1) hE rfl (by kernel_rfl) (Gives.fld hE rfl fl25_0) rfl hS hS fun a hE => ?_
    refine tT (i := 2) true rfl hE rfl (by kernel_rfl) (Gives.loadB hE 8 rfl rfl rfl ty22) rfl hS hS fun a hE => ?_
    refine tP (i := 3) hE rfl (by kernel_rfl) (Gives.fld hE rfl fl267_0) rfl hS hS fun a hE => ?_
    refine tT (i := 4) true rfl hE rfl (by kernel_rfl) (Gives.loadB hE 0 rfl rfl rfl ty3) rfl hS hS fun a hE => ?_
    obtain ⟨x246, hx247, hO233⟩ := AllO.bind hO233
    obtain ⟨hi248, hlt249, hy250⟩ := gx_some hx247
    obtain ⟨cs251, hl252, hR253, hat254⟩ := h0_0.at hy250
    obtain ⟨a255, c256, a258, c259, rfl, h257, h260⟩ := hR253
    refine tP (i := 5) hE rfl (by kernel_rfl) (Gives.idx hE (k219.train).toNat rfl rfl sl22 hi248 hlt249 (h0_0.aok hlt249)) rfl hS hS fun a hE => ?_
    refine tP (i := 6) hE rfl (by kernel_rfl) (Gives.fld hE rfl fl111_2) rfl hS hS fun a hE => ?_
    refine tT (i := 7) true rfl hE rfl (by kernel_rfl) (Gives.load1 hE rfl (fun w h => (hat254 w _ h).one rfl) ty109) rfl hS hS fun a hE => ?_
    refine tP (i := 8) hE rfl (by kernel_rfl) (Gives.fld hE rfl fl267_1) rfl hS hS fun a hE => ?_
    refine tT (i := 9) true rfl hE rfl (by kernel_rfl) (Gives.loadB hE 0 rfl rfl rfl ty3) rfl hS hS fun a hE => ?_
    obtain ⟨x261, hx262, hO233⟩ := AllO.bind hO233
    obtain ⟨hi263, hlt264, hy265⟩ := gx_some hx262
    obtain ⟨cs266, hl267, hR268, hat269⟩ := h257.at hy265
    subst hR268
    refine tP (i := 10) hE rfl (by kernel_rfl) (Gives.idx hE (k219.off).toNat rfl rfl sl109 hi263 hlt264 (h257.aok hlt264)) rfl hS hS fun a hE => ?_
    refine tT (i := 11) true rfl hE rfl (by kernel_rfl) (Gives.loadA hE rfl (fun w h => hat269 w _ h) ty99) rfl hS hS fun a hE => ?_
    refine Rg.one (i := 12) true true rfl (by kernel_rfl) (by kernel_rfl) (by kernel_rfl) ?_
    refine WL.alloc hE hS (runs_plain rfl) zr99 rfl ?_; clear hE hS a w; intro b270 a w hE hS
    refine WL.nil ?_
    refine ⟨⟨fun _ => (hS.tail), fun _ => (hS.tail)⟩, ?_⟩
    refine Rg.one (i := 13) true true rfl (by kernel_rfl) (by kernel_rfl) (by kernel_rfl) ?_
    refine WL.storeI hE hS 0 rfl (ApiStop.cells x261) (runs_plain rfl) rfl rfl rfl ty99 rfl rfl rfl rfl ?_; clear hE hS a w; intro a w hE hS
    refine WL.nil ?_
    refine ⟨⟨fun _ => (hS.tail), fun _ => (hS.tail)⟩, ?_⟩
    refine Rg.done (by kernel_rfl) ?_
    subst hK245
    refine W.seq (W.region (vp hS hE rfl rfl fun a hE => ?_))
    refine vP hS hE (Gives.fld hE rfl fl99_2) rfl fun a hE => ?_
    refine vP hS hE (Gives.loadB hE 0 rfl rfl rfl ty3) rfl fun a hE => ?_
    refine vp hS hE rfl rfl fun a hE => ?_
    refine vP hS hE (Gives.inc hE rfl (by omega)) rfl fun a hE => ?_
    refine vP hS hE (Gives.build hE (vs := [(0, vi k127), (1, vi x261.Arr), (2, vi ((k177 + 1 : Nat) : Int))]) [vi k127, vi x261.Arr, vi ((k177 + 1 : Nat) : Int)] rfl (by kernel_rfl)) rfl fun a hE => ?_
    refine WL.alloc hE hS (runs_plain rfl) zr216 rfl ?_; clear hE hS a w; intro b271 a w hE hS
    refine WL.storeI hE hS 0 rfl [vi k127, vi x261.Arr, vi ((k177 + 1 : Nat) : Int)] (runs_plain rfl) rfl rfl rfl ty216 rfl rfl rfl rfl ?_; clear hE hS a w; intro a w hE hS
    refine WL.nil ?_
    refine W.seq ?_
    obtain ⟨q273, hq272, hO233⟩ := AllO.bnd hO233
    refine W.cut (fun a w => ∃ (q276 : Bool), q276 = q273 ∧ Rep a 96 [(2, vi x2), (3, pp b51), (9, .map (some b109)), (10, .slice a225 q224.length c226), (11, vi k127), (13, vi ((k177 : Nat) : Int)), (17, pp b271), (39, pp r112), (47, .agg (mcells 4 bs161).toArray), (48, vi ((k177 : Nat) : Int)), (53, pp r207), (85, .bool q276), (4294967295, vi (D67 : Nat))] ∧ St w s164 (pc b271 #[vi k127, vi x261.Arr, vi ((k177 + 1 : Nat) : Int)] 216 :: pc b270 (ApiStop.cells x261).toArray 99 :: pc b244 (GuidePlace.cells k219).toArray 267 :: iterI keyGuidePlace.f Value.bool b204 r207 x199 (ix215 ++ [j221]) :: mapsV keyGuidePlace.f Value.bool (List.eraseIdx bs161 ((((k177 : Nat) : Int)).toNat)) (List.eraseIdx q159 ((((k177 : Nat) : Int)).toNat)) :: vecC 216 3 a225 c226 q224.length cs229 :: mapC keyGuidePoint.f Value.bool b109 q231 :: pt D67 (.deferred (some [])) :: pc b53 #[.map (some b52)] 261 :: iterI keyI.f In.cell b52 r112 l74 (ix123 ++ [j129]) :: pc b51 #[.slice a0_0 x0.Day.Trains.length c0_0, .slice a0_1 x0.Day.Turns.length c0_1, vi x0.least] 91 :: R)) ?_ ?_
    ·refine W.gen fun K277 hK277 => ?_
     refine W.region ?_
     refine vP hS hE (Gives.fld hE rfl fl99_0) rfl fun a hE => ?_
     refine vP hS hE (Gives.loadB hE 1 rfl rfl rfl ty3) rfl fun a hE => ?_
     refine v2 hS hE rfl rfl rfl rfl fun a hE => ?_
     refine vp hS hE rfl rfl fun a hE => ?_
     rcases Bool.eq_false_or_eq_true (x261.Station == x2) with hg278 | hg278
     ·replace hq272 := iteT hg278 hq272
      refine WL.vS hS hE (runs_if hE rfl rfl rfl hg278) (Gives.p hE rfl) rfl fun a hE => ?_
      refine WL.vS hS hE (runs_if hE rfl rfl rfl hg278) (Gives.loadBA hE 0 rfl rfl ty216) rfl fun a hE => ?_
      refine WL.vS hS hE (runs_if hE rfl rfl rfl hg278) (Gives.mapGetS keyGuidePoint hE 6 (k := (GuidePoint.mk k127 x261.Arr ((k177 + 1 : Nat) : Int))) (z := false) rfl rfl rfl mp262 zm4) rfl fun a hE => ?_
      refine WL.vS hS hE (runs_if hE rfl rfl rfl hg278) (Gives.p hE rfl) rfl fun a hE => ?_
      refine vP hS hE (Gives.pickT hE rfl hg278 rfl) rfl fun a hE => WL.nil ?_
      subst hK277
      exact ⟨!((mget q231 (GuidePoint.mk k127 x261.Arr ((k177 + 1 : Nat) : Int))).getD false), hq272, hE.pick _ ⟨rfl, rfl, rfl, rfl, rfl, rfl, rfl, rfl, rfl, rfl, rfl, rfl, rfl, trivial⟩, hS⟩
     replace hq272 := iteF hg278 hq272
     refine nO hE rfl rfl rfl (by rw [hg278]; decide) rfl fun a hE => ?_
     refine nO hE rfl rfl rfl (by rw [hg278]; decide) rfl fun a hE => ?_
     refine nO hE rfl rfl rfl (by rw [hg278]; decide) rfl fun a hE => ?_
     refine nO hE rfl rfl rfl (by rw [hg278]; decide) rfl fun a hE => ?_
     refine vP hS hE (Gives.pickF hE rfl hg278 rfl) rfl fun a hE => WL.nil ?_
     subst hK277
     exact ⟨false, hq272, hE.pick _ ⟨rfl, rfl, rfl, rfl, rfl, rfl, rfl, rfl, rfl, rfl, rfl, rfl, rfl, trivial⟩, hS⟩
    clear hE hS a w; rintro a w ⟨q276, rfl, hE, hS⟩
    obtain ⟨q280, hq279, hO233⟩ := AllO.bind hO233
    refine W.cut (fun a w => ∃ (q283 : List GuidePoint), ∃ (q290 : List (GuidePoint × Bool)), ∃ (a284 : Option Addr), ∃ (c285 : Nat), ∃ (n287 : Nat), ∃ (cs288 : List Value), (q283, q290) = q280 ∧ Ev 3 RGuidePoint s164 cs288 q283 ∧ q283.length = n287 ∧ Rep a 96 [(2, vi x2), (3, pp b51), (9, .map (some b109)), (10, .slice a284 n287 c285), (11, vi k127), (13, vi ((k177 : Nat) : Int)), (39, pp r112), (47, .agg (mcells 4 bs161).toArray), (48, vi ((k177 : Nat) : Int)), (53, pp r207), (4294967295, vi (D67 : Nat))] ∧ St w s164 (pc b271 #[vi k127, vi x261.Arr, vi ((k177 + 1 : Nat) : Int)] 216 :: pc b270 (ApiStop.cells x261).toArray 99 :: pc b244 (GuidePlace.cells k219).toArray 267 :: iterI keyGuidePlace.f Value.bool b204 r207 x199 (ix215 ++ [j221]) :: mapsV keyGuidePlace.f Value.bool (List.eraseIdx bs161 ((((k177 : Nat) : Int)).toNat)) (List.eraseIdx q159 ((((k177 : Nat) : Int)).toNat)) :: vecC 216 3 a284 c285 n287 cs288 :: mapC keyGuidePoint.f Value.bool b109 q290 :: pt D67 (.deferred (some [])) :: pc b53 #[.map (some b52)] 261 :: iterI keyI.f In.cell b52 r112 l74 (ix123 ++ [j129]) :: pc b51 #[.slice a0_0 x0.Day.Trains.length c0_0, .slice a0_1 x0.Day.Turns.length c0_1, vi x0.least] 91 :: R)) ?_ ?_
    ·refine W.gen fun K291 hK291 => ?_
     refine W.cond hE rfl (fun hc292 => ?_) (fun hc292 => ?_)
     ·replace hq279 := iteT hc292 hq279
      refine W.seq (W.region (vp hS hE rfl rfl fun a hE => ?_))
      refine vP hS hE (Gives.loadBA hE 0 rfl rfl ty216) rfl fun a hE => ?_
      refine WL.mapSetS keyGuidePoint hE hS 6 (k := (GuidePoint.mk k127 x261.Arr ((k177 + 1 : Nat) : Int))) (v := true) (.inl rfl) (runs_plain rfl) rfl rfl rfl rfl mp262 rfl ?_; clear hE hS a w; intro a w hE hS
      refine WL.nil ?_
      refine W.region ?_
      refine vp hS hE rfl rfl fun a hE => ?_
      refine vP hS hE (Gives.loadBA hE 0 rfl rfl ty216) rfl fun a hE => ?_
      refine WL.lit hE hS (e := 216) (es := 3) (vs := [(0, .agg (List.toArray [vi k127, vi x261.Arr, vi ((k177 + 1 : Nat) : Int)]))]) (cs := [vi k127, vi x261.Arr, vi ((k177 + 1 : Nat) : Int)]) (runs_plain rfl) rfl (by kernel_rfl) rfl ?_; clear hE hS a w; intro b293 a w hE hS
      obtain ⟨x294, hx295, hq279⟩ := bindS hq279
      refine WL.appD hE hS 5 (m := 1) (runs_plain rfl) rfl rfl rfl ap213 rfl h227 rfl (xs := [(GuidePoint.mk k127 x261.Arr ((k177 + 1 : Nat) : Int))]) (Ev.cons (c1 := [vi k127, vi x261.Arr, vi ((k177 + 1 : Nat) : Int)]) rfl rfl (Ev.nil)) rfl rfl hx295 rfl ?_; clear hE hS a w; intro a296 c297 cs298 a w h299 hE hS
      refine vp hS hE rfl rfl fun a hE => WL.nil ?_
      subst hK291
      exact ⟨x294, (mput q231 (GuidePoint.mk k127 x261.Arr ((k177 + 1 : Nat) : Int)) true), a296, c297, x294.length, cs298, Option.some.inj hq279, h299, (rfl), hE.pick _ ⟨rfl, rfl, rfl, rfl, rfl, rfl, rfl, rfl, rfl, rfl, rfl, trivial⟩, hS⟩
     replace hq279 := iteF hc292 hq279
     refine W.skip ?_
     subst hK291
     exact ⟨q224, q231, a225, c226, q224.length, cs229, Option.some.inj hq279, h227, rfl, hE.pick _ ⟨rfl, rfl, rfl, rfl, rfl, rfl, rfl, rfl, rfl, rfl, rfl, trivial⟩, hS⟩
    clear hE hS a w; rintro a w ⟨q283, q290, a284, c285, n287, cs288, rfl, h286, rfl, hE, hS⟩
    dsimp only at hO233
    replace hS := hS.tail
    replace hS := hS.tail
    replace hS := hS.tail
    subst hK232
    exact ⟨rest237.length, hlt240, rest237, ix215 ++ [j221], nn236, q283, q290, a284, c285, q283.length, cs288, rfl, hp238, hn239, hQ235 _ (AllO.done hO233), h286, rfl, hE.pick _ ⟨rfl, rfl, rfl, rfl, rfl, rfl, rfl, rfl, rfl, rfl, rfl, trivial⟩, hS⟩
   clear hE hS a w; rintro a w ⟨q224, q231, a225, c226, n228, cs229, hO208, h227, rfl, hE, hS⟩
   replace hO191 := hO191 _ hO208
   dsimp only at hO191
   refine W.region ?_
   refine vP hS hE (Gives.inc hE rfl (by omega)) rfl fun a hE => ?_
   refine vp hS hE rfl rfl fun a hE => WL.nil ?_
   subst hK190
   exact ⟨rest172, Nat.lt_succ_self _, rest172, k177 + 1, q224, q231, a225, c226, q224.length, cs229, rfl, by omega, hQ193 _ (AllO.done hO191), h227, rfl, hE.pick _ ⟨rfl, rfl, rfl, rfl, rfl, rfl, rfl, rfl, rfl, trivial⟩, hS⟩
  clear hE hS a w; rintro a w ⟨q182, q189, a183, c184, n186, cs187, hO166, h185, rfl, hE, hS⟩
  replace hO141 := hO141 _ hO166
  dsimp only at hO141
  replace hS := hS.tail
  subst hK140
  exact ⟨rest145.length, hlt148, rest145, ix123 ++ [j129], nn144, q182, q189, a183, c184, q182.length, cs187, s164, rfl, hp146, hn147, (Sg.Le.trans hle121 hle165), hQ143 _ (AllO.done hO141), h185, rfl, hE.pick _ ⟨rfl, rfl, rfl, rfl, rfl, rfl, trivial⟩, hS⟩
 clear hE hS a w; rintro a w ⟨q132, q139, a133, c134, n136, cs137, s120, hle121, hO116, h135, rfl, hE, hS⟩
 replace hr := hr _ hO116
 dsimp only at hr
 replace h115 := MSl.mono RGuideRide.mono hle121 h115
 replace h0_0 := Sl.mono RApiTrain.mono hle121 h0_0
 replace h0_1 := Sl.mono (RL.mono RI.mono) hle121 h0_1
 refine W.seq (W.region (vp hS hE rfl rfl fun a hE => ?_))
 obtain ⟨q300, hq301, hr⟩ := AllO.bind hr
 have hc_ := SlicesSortFuncLguidePoint_v1_ok hS h135 rfl hq301
 refine WL.fnq hE (hc_) (runs_plain rfl) bd168 rfl rfl rfl ?_
 clear hE hS hc_; rintro e w ⟨cs302, rfl, h303, hn304, hS⟩; refine ⟨_, rfl, ?_⟩; clear a; intro a hE
 refine WL.nil ?_
 refine W.seq (W.region (v2 hS hE rfl rfl rfl rfl fun a hE => WL.nil ?_))
 refine W.ret ?_
 refine finGM (fn := Tryz.f129) (rs := [.tmp 6]) (vs := [.slice a133 q132.length c134]) hE hS 2 rfl rfl ?_
 clear hS; intro w hS
 refine ⟨⟨rfl, trivial⟩, ?_⟩
 obtain rfl := AllO.done hr
 replace hS := hS.dropAt 1
 replace hS := hS.dropAt 1
 replace hS := hS.dropAt 1
 replace hS := hS.dropAt 1
 exact ⟨a133, c134, q132.length, cs302, s120, rfl, (Sg.Le.trans (Sg.Le.trans (Sg.Le.trans hle59 hle72) hle114) hle121), h303, hn304, hS⟩
set_option maxHeartbeats 8000000 in
theorem GuideNetearliest_1_v1_ok  {w : World} {s : Sg} {R : List HP} {pb0 : Nat} {x0 : GuidePoint} {y0 : Int} (hS : St w s (pc pb0 #[vi y0] 3 :: R))  {r : Bool} (hr : GuideNetearliest_1_v1 x0 y0 = r) :
  Calls Tryz.prog 130 [.agg (GuidePoint.cells x0).toArray, pp pb0].toArray w (fun e w => e = .returned (.bool r) ∧ St w s (pc pb0 #[vi y0] 3 :: R)) := by
 refine enter Tryz.func130 rfl rfl rfl fun a hE => ?_
 rw [GuideNetearliest_1_v1] at hr
 refine W.seq (W.region ?_)
 refine WL.box hE hS (runs_plain rfl) rfl rfl rfl ?_; clear hE hS a w; intro b51 a w hE hS
 refine vp hS hE rfl rfl fun a hE => WL.nil ?_
 refine W.seq (W.region (vP hS hE (Gives.fld hE rfl fl216_0) rfl fun a hE => ?_))
 refine vP hS hE (Gives.loadB hE 0 rfl rfl rfl ty3) rfl fun a hE => ?_
 refine vP hS hE (Gives.loadB hE 1 rfl rfl rfl ty3) rfl fun a hE => ?_
 refine v2 hS hE rfl rfl rfl rfl fun a hE => WL.nil ?_
 refine W.ret ?_
 refine finG (fn := Tryz.f130) (rs := [.tmp 3]) (vs := [_]) hE rfl ⟨rfl, trivial⟩ ?_
 subst hr
 replace hS := hS.tail
 exact ⟨rfl, hS⟩
set_option maxHeartbeats 8000000 in
theorem SlicesIndexFuncLguidePoint_v1_ok  {w : World} {s : Sg} {R : List HP} {pb0 : Nat} {x0 : List GuidePoint} {a0 : Option Addr} {c0 : Nat} {y0 : Int} (hS : St w s (pc pb0 #[vi y0] 3 :: R)) (h0 : Sl 3 RGuidePoint s a0 c0 x0) {r : Int} (hr : SlicesIndexFuncLguidePoint_v1 x0 y0 = r) :
  Calls Tryz.prog 166 [.slice a0 x0.length c0, .func (.func 130) #[] #[pp pb0]].toArray w (fun e w => e = .returned (vi r) ∧ St w s (pc pb0 #[vi y0] 3 :: R)) := by
 refine enter Tryz.func166 rfl rfl rfl fun a hE => ?_
 rw [SlicesIndexFuncLguidePoint_v1] at hr
 refine W.seq (W.region (vp hS hE rfl rfl fun a hE => WL.nil ?_))
 refine W.seq ?_
 refine W.seq (W.region (vp hS hE rfl rfl fun a hE => ?_))
 refine vP hS hE (Gives.len hE rfl sl213) rfl fun a hE => ?_
 refine vp hS hE rfl rfl fun a hE => WL.nil ?_
 obtain ⟨q52, hq51, hr⟩ := bndS hr
 refine W.cut (fun a w => (.next ()) = q52 ∧ Rep a 19 [] ∧ St w s (pc pb0 #[vi y0] 3 :: R)) ?_ ?_
 ·refine W.block ?_
  refine W.loop (fun m a w => ∃ (rest55 : List GuidePoint) (k53 : Nat), rest55.length = m ∧ x0.drop k53 = rest55 ∧ SlicesIndexFuncLguidePoint_v1.loop1 y0 rest55 k53 = q52 ∧ Rep a 19 [(0, .slice a0 x0.length c0), (1, .func (.func 130) #[] #[pp pb0]), (7, vi ((x0).length : Int)), (8, vi ((k53 : Nat) : Int))] ∧ St w s (pc pb0 #[vi y0] 3 :: R)) (m := x0.length) ⟨x0, 0, rfl, rfl, hq51, hE.pick _ ⟨rfl, rfl, rfl, rfl, trivial⟩, hS⟩ ?_
  clear hE hS a w hq51; rintro m59 a w ⟨rest55, k53, rfl, hd56, hq51, hE, hS⟩
  refine W.gen fun K62 hK62 => ?_
  rcases rest55 with _ | ⟨x54, rest55⟩
  ·have hlt57 := drop_nil hd56
   refine W.seq (W.region (vp hS hE rfl rfl fun a hE => WL.nil ?_))
   refine W.seq ?_
   refine W.condF hE rfl (decide_eq_false (by omega)) ?_
   subst hK62
   refine W.exit rfl ?_
   exact ⟨hq51, hE.pick _ trivial, hS⟩
  obtain ⟨hlt57, hx58, hd56⟩ := drop_cons hd56
  rw [SlicesIndexFuncLguidePoint_v1.loop1] at hq51
  refine W.seq (W.region (vp hS hE rfl rfl fun a hE => WL.nil ?_))
  refine W.seq ?_
  refine W.condT hE rfl (decide_eq_true (by omega)) ?_
  refine W.skip ?_
  refine W.seq ?_
  refine W.block ?_
  refine W.seq (W.region (v2 hS hE rfl rfl rfl rfl fun a hE => WL.nil ?_))
  refine W.seq (W.region (v2 hS hE rfl rfl rfl rfl fun a hE => ?_))
  refine vp hS hE rfl rfl fun a hE => ?_
  obtain ⟨cs63, hl64, hR65, hat66⟩ := h0.at hx58
  subst hR65
  refine vP hS hE (Gives.idx hE k53 rfl rfl sl213 rfl hlt57 (h0.aok hlt57)) rfl fun a hE => ?_
  refine vP hS hE (Gives.loadA hE rfl (fun w h => hat66 w _ h) ty216) rfl fun a hE => ?_
  refine WL.fnw hE (GuideNetearliest_1_v1_ok hS  rfl (r := GuideNetearliest_1_v1 x54 y0)) rfl (runs_plain rfl) bd130 rfl rfl rfl ?_
  clear hE hS; rintro e w ⟨rfl, hS⟩; refine ⟨_, rfl, ?_⟩; clear a; intro a hE
  refine WL.nil ?_
  refine W.cond hE rfl (fun hc67 => ?_) (fun hc67 => ?_)
  ·replace hq51 := iteT hc67 hq51
   refine W.seq (W.region (v2 hS hE rfl rfl rfl rfl fun a hE => WL.nil ?_))
   refine W.ret ?_
   subst hK62
   rw [← hq51] at hr
   dsimp only at hr
   refine finG (fn := Tryz.f166) (rs := [.tmp 4]) (vs := [_]) hE rfl ⟨rfl, trivial⟩ ?_
   subst hr
   exact ⟨rfl, hS⟩
  replace hq51 := iteF hc67 hq51
  refine W.skip ?_
  refine W.region ?_
  refine vP hS hE (Gives.inc hE rfl (by have := h0.small; omega)) rfl fun a hE => ?_
  refine vp hS hE rfl rfl fun a hE => WL.nil ?_
  subst hK62
  exact ⟨rest55.length, Nat.lt_succ_self _, rest55, k53 + 1, rfl, hd56, hq51, hE.pick _ ⟨rfl, rfl, rfl, rfl, trivial⟩, hS⟩
 clear hE hS a w; rintro a w ⟨rfl, hE, hS⟩
 dsimp only at hr
 refine W.seq (W.region (vp hS hE rfl rfl fun a hE => WL.nil ?_))
 refine W.ret ?_
 refine finG (fn := Tryz.f166) (rs := [.tmp 4]) (vs := [_]) hE rfl ⟨rfl, trivial⟩ ?_
 subst hr
 exact ⟨rfl, hS⟩
set_option maxHeartbeats 8000000 in
theorem SlicesDeleteFuncLguidePoint_v1_ok {fu : Nat}  {w : World} {s : Sg} {R : List HP} {pb0 : Nat} {x0 : List GuidePoint} {a_v0 : Option Addr} {c_v0 n_v0 : Nat} {cs_v0 : List Value} {y0 : Int} (hS : St w s (pc pb0 #[vi y0] 3 :: vecC 216 3 a_v0 c_v0 n_v0 cs_v0 :: R)) (h_v0 : Ev 3 RGuidePoint s cs_v0 x0) (hn_v0 : x0.length = n_v0) {r : (List GuidePoint)} (hr : SlicesDeleteFuncLguidePoint_v1 fu x0 y0 = some r) :
  Calls Tryz.prog 128 [.slice a_v0 n_v0 c_v0, .func (.func 130) #[] #[pp pb0]].toArray w (fun e w => ∃ (a0 : Option Addr) (c0 n0 : Nat) (cs0 : List Value), e = .returned (.slice a0 n0 c0) ∧ Ev 3 RGuidePoint s cs0 r ∧ r.length = n0 ∧ St w s (vecC 216 3 a0 c0 n0 cs0 :: pc pb0 #[vi y0] 3 :: R)) := by
 refine enter Tryz.func128 rfl rfl rfl fun a hE => ?_
 rw [SlicesDeleteFuncLguidePoint_v1] at hr
 subst hn_v0
 refine W.seq (W.region (vp hS hE rfl rfl fun a hE => WL.nil ?_))
 refine W.seq (W.region (v2 hS hE rfl rfl rfl rfl fun a hE => ?_))
 have hF := hS.lendV RGuidePoint.mono 1 rfl h_v0 (rfl); clear hS; obtain ⟨t51, hle52, hS, hs53, bk54⟩ := hF
 refine WL.fnq hE (SlicesIndexFuncLguidePoint_v1_ok hS hs53 rfl (r := SlicesIndexFuncLguidePoint_v1 x0 y0)) (runs_plain rfl) bd166 rfl rfl rfl ?_
 clear hE hS; rintro e w ⟨rfl, hS⟩; refine ⟨_, rfl, ?_⟩; clear a; intro a hE
 replace hS := bk54 _ _ hS
 refine vp hS hE rfl rfl fun a hE => WL.nil ?_
 refine W.seq ?_
 refine W.seq (W.region (v2 hS hE rfl rfl rfl rfl fun a hE => WL.nil ?_))
 refine W.cond hE rfl (fun hc55 => ?_) (fun hc55 => ?_)
 ·replace hr := iteT hc55 hr
  refine W.seq (W.region (v2 hS hE rfl rfl rfl rfl fun a hE => WL.nil ?_))
  refine W.ret ?_
  refine finG (fn := Tryz.f128) (rs := [.tmp 4]) (vs := [_]) hE rfl ⟨rfl, trivial⟩ ?_
  obtain rfl := Option.some.inj hr
  exact ⟨a_v0, c_v0, x0.length, cs_v0, rfl, h_v0, (rfl), hS⟩
 replace hr := iteF hc55 hr
 refine W.skip ?_
 refine W.seq ?_
 refine W.seq (W.region (v2 hS hE rfl rfl rfl rfl fun a hE => ?_))
 refine vp hS hE rfl rfl fun a hE => WL.nil ?_
 obtain ⟨q57, hq56, hr⟩ := bindS hr
 refine W.cut (fun a w => ∃ (q62 : Int), ∃ (q63 : Int), ∃ (q64 : List GuidePoint), ∃ (cs68 : List Value), (q62, q63, q64) = q57 ∧ Ev 3 RGuidePoint s cs68 q64 ∧ q64.length = x0.length ∧ Rep a 42 [(0, .slice a_v0 x0.length c_v0), (5, vi q62)] ∧ St w s (vecC 216 3 a_v0 c_v0 x0.length cs68 :: pc pb0 #[vi y0] 3 :: R)) ?_ ?_
 ·refine W.block ?_
  refine W.loop (fun m a w => ∃ (n58 : Nat), ∃ (q62 : Int), ∃ (q63 : Int), ∃ (q64 : List GuidePoint), ∃ (cs68 : List Value), n58 = m ∧ SlicesDeleteFuncLguidePoint_v1.loop1 x0 y0 n58 q62 q63 q64 = some q57 ∧ Ev 3 RGuidePoint s cs68 q64 ∧ q64.length = x0.length ∧ Rep a 42 [(0, .slice a_v0 x0.length c_v0), (1, .func (.func 130) #[] #[pp pb0]), (5, vi q62), (6, vi q63)] ∧ St w s (vecC 216 3 a_v0 c_v0 x0.length cs68 :: pc pb0 #[vi y0] 3 :: R)) (m := fu) ⟨fu, (SlicesIndexFuncLguidePoint_v1 x0 y0), (w64 ((SlicesIndexFuncLguidePoint_v1 x0 y0) + 1)), x0, cs_v0, rfl, hq56, h_v0, (rfl), hE.pick _ ⟨rfl, rfl, rfl, rfl, trivial⟩, hS⟩ ?_
  clear hE hS a w hq56; rintro m59 a w ⟨n58, q62, q63, q64, cs68, rfl, hq56, h67, hn69, hE, hS⟩
  refine W.gen fun K70 hK70 => ?_
  rcases n58 with _ | n58
  ·rw [SlicesDeleteFuncLguidePoint_v1.loop1] at hq56; exact absurd hq56 (by simp)
  rw [SlicesDeleteFuncLguidePoint_v1.loop1] at hq56
  refine W.seq ?_
  refine W.seq (W.region (v2 hS hE rfl rfl rfl rfl fun a hE => ?_))
  refine vP hS hE (Gives.len hE rfl sl213) rfl fun a hE => ?_
  refine vp hS hE rfl rfl fun a hE => WL.nil ?_
  refine W.cond hE rfl (fun hc71 => ?_) (fun hc71 => ?_)
  ·replace hq56 := iteT hc71 hq56
   refine W.skip ?_
   refine W.seq ?_
   refine W.block ?_
   refine W.seq (W.region (v2 hS hE rfl rfl rfl rfl fun a hE => ?_))
   obtain ⟨x72, hx73, hq56⟩ := bindS hq56
   obtain ⟨hi74, hlt75, hy76⟩ := gx_some hx73
   obtain ⟨vs77, hl78, hR79, hd80, hget81⟩ := h67.at hy76
   subst hR79
   refine vP hS hE (Gives.idx hE ((q63).toNat) rfl rfl sl213 hi74 (by have := hn69; omega) (hS.vecAok 0 rfl (by have := hn69; omega : (q63).toNat < x0.length))) rfl fun a hE => ?_
   refine vP hS hE (Gives.loadA hE rfl (fun w h => St.vecSees h 0 rfl ((q63).toNat * 3) _ hget81) ty216) rfl fun a hE => ?_
   refine WL.alloc hE hS (runs_plain rfl) zr216 rfl ?_; clear hE hS a w; intro b82 a w hE hS
   refine WL.storeI hE hS 0 rfl (GuidePoint.cells x72) (runs_plain rfl) rfl rfl rfl ty216 rfl rfl rfl rfl ?_; clear hE hS a w; intro a w hE hS
   refine WL.nil ?_
   refine W.seq (W.region (vp hS hE rfl rfl fun a hE => ?_))
   refine vP hS hE (Gives.loadBA hE 0 rfl rfl ty216) rfl fun a hE => ?_
   replace hS := hS.front 2 rfl
   refine WL.fnw hE (GuideNetearliest_1_v1_ok hS  rfl (r := GuideNetearliest_1_v1 x72 y0)) rfl (runs_plain rfl) bd130 rfl rfl rfl ?_
   clear hE hS; rintro e w ⟨rfl, hS⟩; refine ⟨_, rfl, ?_⟩; clear a; intro a hE
   refine vp hS hE rfl rfl fun a hE => WL.nil ?_
   obtain ⟨q84, hq83, hq56⟩ := bindS hq56
   refine W.cut (fun a w => ∃ (q87 : Int), ∃ (q88 : List GuidePoint), ∃ (cs92 : List Value), (q87, q88) = q84 ∧ Ev 3 RGuidePoint s cs92 q88 ∧ q88.length = x0.length ∧ Rep a 42 [(0, .slice a_v0 x0.length c_v0), (1, .func (.func 130) #[] #[pp pb0]), (5, vi q87), (6, vi q63)] ∧ St w s (pc pb0 #[vi y0] 3 :: pc b82 (GuidePoint.cells x72).toArray 216 :: vecC 216 3 a_v0 c_v0 x0.length cs92 :: R)) ?_ ?_
   ·refine W.gen fun K94 hK94 => ?_
    refine W.cond hE rfl (fun hc95 => ?_) (fun hc95 => ?_)
    ·replace hq83 := iteT hc95 hq83
     refine W.seq (W.region (v2 hS hE rfl rfl rfl rfl fun a hE => ?_))
     refine vP hS hE (Gives.loadBA hE 1 rfl rfl ty216) rfl fun a hE => ?_
     obtain ⟨_, hx97, hq83⟩ := bindS hq83
     obtain ⟨h98, h99⟩ := ix_some hx97
     refine vP hS hE (Gives.idx hE ((q62).toNat) rfl rfl sl213 h98 (by have := hn69; omega) (hS.vecAok 2 rfl (by have := hn69; omega : (q62).toNat < x0.length))) rfl fun a hE => ?_
     obtain ⟨x101, hx102, hq83⟩ := bindS hq83
     refine WL.setD hE hS 2 rfl (runs_plain rfl) rfl rfl (vs := [vi x72.Dep, vi x72.Arr, vi x72.Rides]) rfl ty216 rfl rfl rfl h67 hn69 (sx_some hx102).1 hx102 rfl rfl ?_; clear hE hS a w; intro cs103 a w h104 hn105 hE hS
     refine WL.nil ?_
     refine W.region ?_
     refine v2 hS hE rfl rfl rfl rfl fun a hE => ?_
     refine vp hS hE rfl rfl fun a hE => WL.nil ?_
     subst hK94
     exact ⟨w64 (q62 + 1), x101, cs103, Option.some.inj hq83, h104, hn105, hE.pick _ ⟨rfl, rfl, rfl, rfl, trivial⟩, hS⟩
    replace hq83 := iteF hc95 hq83
    refine W.skip ?_
    subst hK94
    exact ⟨q62, q64, cs68, Option.some.inj hq83, h67, hn69, hE.pick _ ⟨rfl, rfl, rfl, rfl, trivial⟩, hS⟩
   clear hE hS a w; rintro a w ⟨q87, q88, cs92, rfl, h91, hn93, hE, hS⟩
   dsimp only at hq56
   refine W.region ?_
   refine v2 hS hE rfl rfl rfl rfl fun a hE => ?_
   refine vp hS hE rfl rfl fun a hE => WL.nil ?_
   replace hS := hS.dropAt 1
   replace hS := hS.front 1 rfl
   subst hK70
   exact ⟨n58, Nat.lt_succ_self _, n58, q87, (w64 (q63 + 1)), q88, cs92, rfl, hq56, h91, hn93, hE.pick _ ⟨rfl, rfl, rfl, rfl, trivial⟩, hS⟩
  replace hq56 := iteF hc71 hq56
  subst hK70
  refine W.exit rfl ?_
  exact ⟨q62, q63, q64, cs68, Option.some.inj hq56, h67, hn69, hE.pick _ ⟨rfl, rfl, trivial⟩, hS⟩
 clear hE hS a w; rintro a w ⟨q62, q63, q64, cs68, rfl, h67, hn69, hE, hS⟩
 dsimp only at hr
 refine W.seq (W.region (v2 hS hE rfl rfl rfl rfl fun a hE => ?_))
 obtain ⟨x106, hx107, hr⟩ := bindS hr
 obtain ⟨_, h108, h109, h110, h111, _⟩ := cutl_some hx107
 have h112 := (hS.vecCap 0 rfl).1
 have h113 : (q62).toNat ≤ x0.length := by have := hn69; omega
 have h114 : Ev 3 RGuidePoint s (cs68.take ((q62).toNat * 3)) x106 := by rw [h110]; exact h67.take _
 have hn115 : x106.length = (q62).toNat := by rw [h110]; simp; omega
 replace hS := hS.vecTake 0 rfl (by have := hn69; omega)
 refine vP hS hE (Gives.slL hE sl213 rfl rfl h108 (by omega) rfl) rfl fun a hE => ?_
 refine WL.clrS hE hS 0 (lo := (q62).toNat) (hi := x0.length) (runs_plain rfl) cl213 rfl rfl (by omega) (by omega) (by omega) rfl ?_; clear hE hS a w; intro a w hE hS
 refine WL.nil ?_
 refine W.seq (W.region (v2 hS hE rfl rfl rfl rfl fun a hE => ?_))
 refine vP hS hE (Gives.slH hE sl213 rfl rfl (by omega) (by omega) (sliced_zero _ _ _ _)) rfl fun a hE => ?_
 refine vp hS hE rfl rfl fun a hE => WL.nil ?_
 refine W.ret ?_
 refine finG (fn := Tryz.f128) (rs := [.tmp 4]) (vs := [_]) hE rfl ⟨rfl, trivial⟩ ?_
 obtain rfl := Option.some.inj hr
 exact ⟨a_v0, c_v0, (q62).toNat, (cs68.take ((q62).toNat * 3)), rfl, h114, hn115, hS⟩
set_option maxHeartbeats 8000000 in
theorem GuideNetearliest_2_ok  {w : World} {s : Sg} {R : List HP} {x0 : GuidePoint} {x1 : GuidePoint} (hS : St w s (R))  {r : Int} (hr : GuideNetearliest_2 x0 x1 = r) :
  Calls Tryz.prog 132 [.agg (GuidePoint.cells x0).toArray, .agg (GuidePoint.cells x1).toArray].toArray w (fun e w => e = .returned (vi r) ∧ St w s (R)) := by
 refine enter Tryz.func132 rfl rfl rfl fun a hE => ?_
 rw [GuideNetearliest_2] at hr
 refine W.seq (W.region ?_)
 refine WL.box hE hS (runs_plain rfl) rfl rfl rfl ?_; clear hE hS a w; intro b51 a w hE hS
 refine WL.box hE hS (runs_plain rfl) rfl rfl rfl ?_; clear hE hS a w; intro b52 a w hE hS
 refine vp hS hE rfl rfl fun a hE => WL.nil ?_
 refine W.seq ?_
 refine W.gen fun K53 hK53 => ?_
 refine W.regionE (dup (fun w => St w s (pc b52 (GuidePoint.cells x1).toArray 216 :: pc b51 (GuidePoint.cells x0).toArray 216 :: R))) (fun b i => cond b ([0, 1, 2, 3, 4, 5, 6, 7, 8, 9, 10, 11, 12, 13, 14, 15, 16, 17].contains i) ([0, 1, 2, 3, 4, 5, 6, 7, 8, 9, 10, 11, 12, 13, 14, 15, 16, 17].contains i)) mixed ?_
 replace hS := hS.drew
 refine tP (i := 0) hE rfl (by kernel_rfl) (Gives.fld hE rfl fl216_1) rfl hS hS fun a hE => ?_
 refine tT (i := 1) true rfl hE rfl (by kernel_rfl) (Gives.loadB hE 1 rfl rfl rfl ty3) rfl hS hS fun a hE => ?_
 refine tP (i := 2) hE rfl (by kernel_rfl) (Gives.fld hE rfl fl216_1) rfl hS hS fun a hE => ?_
 refine tT (i := 3) true rfl hE rfl (by kernel_rfl) (Gives.loadB hE 0 rfl rfl rfl ty3) rfl hS hS fun a hE => ?_
 refine tP (i := 5) hE rfl (by kernel_rfl) (Gives.fld hE rfl fl216_2) rfl hS hS fun a hE => ?_
 refine tT (i := 6) true rfl hE rfl (by kernel_rfl) (Gives.loadB hE 1 rfl rfl rfl ty3) rfl hS hS fun a hE => ?_
 refine tP (i := 7) hE rfl (by kernel_rfl) (Gives.fld hE rfl fl216_2) rfl hS hS fun a hE => ?_
 refine tT (i := 8) true rfl hE rfl (by kernel_rfl) (Gives.loadB hE 0 rfl rfl rfl ty3) rfl hS hS fun a hE => ?_
 refine tP (i := 10) hE rfl (by kernel_rfl) (Gives.fld hE rfl fl216_0) rfl hS hS fun a hE => ?_
 refine tT (i := 11) true rfl hE rfl (by kernel_rfl) (Gives.loadB hE 0 rfl rfl rfl ty3) rfl hS hS fun a hE => ?_
 refine tP (i := 12) hE rfl (by kernel_rfl) (Gives.fld hE rfl fl216_0) rfl hS hS fun a hE => ?_
 refine tT (i := 13) true rfl hE rfl (by kernel_rfl) (Gives.loadB hE 1 rfl rfl rfl ty3) rfl hS hS fun a hE => ?_
 refine Rg.one (i := 4) true true rfl (by kernel_rfl) (by kernel_rfl) (by kernel_rfl) ?_
 refine WL.fnq hE (CmpCompareint_ok hS  rfl (r := CmpCompareint x0.Arr x1.Arr)) (runs_plain rfl) bd42 rfl rfl rfl ?_
 clear hE hS; rintro e w ⟨rfl, hS⟩; refine ⟨_, rfl, ?_⟩; clear a; intro a hE
 refine WL.nil ?_
 refine ⟨⟨fun _ => hS, fun _ => hS⟩, ?_⟩
 refine Rg.one (i := 9) true true rfl (by kernel_rfl) (by kernel_rfl) (by kernel_rfl) ?_
 refine WL.fnq hE (CmpCompareint_ok hS  rfl (r := CmpCompareint x0.Rides x1.Rides)) (runs_plain rfl) bd42 rfl rfl rfl ?_
 clear hE hS; rintro e w ⟨rfl, hS⟩; refine ⟨_, rfl, ?_⟩; clear a; intro a hE
 refine WL.nil ?_
 refine ⟨⟨fun _ => hS, fun _ => hS⟩, ?_⟩
 refine Rg.one (i := 14) true true rfl (by kernel_rfl) (by kernel_rfl) (by kernel_rfl) ?_
 refine WL.fnq hE (CmpCompareint_ok hS  rfl (r := CmpCompareint x1.Dep x0.Dep)) (runs_plain rfl) bd42 rfl rfl rfl ?_
 clear hE hS; rintro e w ⟨rfl, hS⟩; refine ⟨_, rfl, ?_⟩; clear a; intro a hE
 refine WL.nil ?_
 refine ⟨⟨fun _ => hS, fun _ => hS⟩, ?_⟩
 refine Rg.one (i := 15) true true rfl (by kernel_rfl) (by kernel_rfl) (by kernel_rfl) ?_
 refine WL.lit hE hS (e := 3) (es := 1) (vs := [(0, vi (CmpCompareint x0.Arr x1.Arr)), (1, vi (CmpCompareint x0.Rides x1.Rides)), (2, vi (CmpCompareint x1.Dep x0.Dep))]) (cs := [vi (CmpCompareint x0.Arr x1.Arr), vi (CmpCompareint x0.Rides x1.Rides), vi (CmpCompareint x1.Dep x0.Dep)]) (runs_plain rfl) rfl (by kernel_rfl) rfl ?_; clear hE hS a w; intro b54 a w hE hS
 replace hS := hS.ptVec (es := 1) (m := 3) rfl (by decide)
 have h56 : Ev 1 (RI .i64) s [vi (CmpCompareint x0.Arr x1.Arr), vi (CmpCompareint x0.Rides x1.Rides), vi (CmpCompareint x1.Dep x0.Dep)] [(CmpCompareint x0.Arr x1.Arr), (CmpCompareint x0.Rides x1.Rides), (CmpCompareint x1.Dep x0.Dep)] := (Ev.cons (c1 := [vi (CmpCompareint x0.Arr x1.Arr)]) rfl rfl (Ev.cons (c1 := [vi (CmpCompareint x0.Rides x1.Rides)]) rfl rfl (Ev.cons (c1 := [vi (CmpCompareint x1.Dep x0.Dep)]) rfl rfl (Ev.nil))))
 have hF := hS.fixD RI.mono 0 rfl h56 (rfl); clear hS; obtain ⟨s57, hle58, hS, h59⟩ := hF
 refine WL.nil ?_
 refine ⟨⟨fun _ => (St.down hle58 hS), fun _ => (St.down hle58 hS)⟩, ?_⟩
 refine Rg.one (i := 16) true true rfl (by kernel_rfl) (by kernel_rfl) (by kernel_rfl) ?_
 refine WL.fnq hE (CmpOrint_ok hS h59 rfl (r := CmpOrint [(CmpCompareint x0.Arr x1.Arr), (CmpCompareint x0.Rides x1.Rides), (CmpCompareint x1.Dep x0.Dep)])) (runs_plain rfl) bd41 rfl rfl rfl ?_
 clear hE hS; rintro e w ⟨rfl, hS⟩; refine ⟨_, rfl, ?_⟩; clear a; intro a hE
 refine WL.nil ?_
 refine ⟨⟨fun _ => (St.down hle58 hS), fun _ => (St.down hle58 hS)⟩, ?_⟩
 refine tP (i := 17) hE rfl (by kernel_rfl) (Gives.p hE rfl) rfl (St.down hle58 hS) (St.down hle58 hS) fun a hE => ?_
 refine Rg.done (by kernel_rfl) ?_
 subst hK53
 refine W.ret ?_
 refine finG (fn := Tryz.f132) (rs := [.tmp 4]) (vs := [_]) hE rfl ⟨rfl, trivial⟩ ?_
 subst hr
 replace hS := hS.tail
 replace hS := hS.tail
 exact ⟨rfl, (hS.down hle58)⟩
set_option maxHeartbeats 8000000 in
theorem SlicesMinFuncLguidePoint_v1_ok {fu : Nat}  {w : World} {s : Sg} {R : List HP} {x0 : List GuidePoint} {a0 : Option Addr} {c0 : Nat} (hS : St w s (R)) (h0 : Sl 3 RGuidePoint s a0 c0 x0) {r : GuidePoint} (hr : SlicesMinFuncLguidePoint_v1 fu x0 = some r) :
  Calls Tryz.prog 131 [.slice a0 x0.length c0, .func (.func 132) #[] #[]].toArray w (fun e w => ∃ (cs0 : List Value) (t : Sg), e = .returned (.agg cs0.toArray) ∧ s.Le t ∧ RGuidePoint t cs0 r ∧ St w t (R)) := by
 refine enter Tryz.func131 rfl rfl rfl fun a hE => ?_
 rw [SlicesMinFuncLguidePoint_v1] at hr
 refine W.seq (W.region ?_)
 refine WL.alloc hE hS (runs_plain rfl) zr216 rfl ?_; clear hE hS a w; intro b51 a w hE hS
 refine WL.nil ?_
 refine W.seq ?_
 refine W.seq (W.region (vp hS hE rfl rfl fun a hE => ?_))
 refine vP hS hE (Gives.len hE rfl sl213) rfl fun a hE => ?_
 refine vp hS hE rfl rfl fun a hE => WL.nil ?_
 refine W.cond hE rfl (fun hc52 => ?_) (fun hc52 => ?_)
 ·replace hr := iteT hc52 hr
  refine W.region ?_
  exact absurd hr (by simp)
 replace hr := iteF hc52 hr
 refine W.skip ?_
 refine W.seq (W.region (vp hS hE rfl rfl fun a hE => ?_))
 obtain ⟨x53, hx54, hr⟩ := bindS hr
 obtain ⟨hi55, hlt56, hy57⟩ := gx_some hx54
 obtain ⟨cs58, hl59, hR60, hat61⟩ := h0.at hy57
 subst hR60
 refine vP hS hE (Gives.idx hE ((0 : Int)).toNat rfl rfl sl213 hi55 hlt56 (h0.aok hlt56)) rfl fun a hE => ?_
 refine vP hS hE (Gives.loadA hE rfl (fun w h => hat61 w _ h) ty216) rfl fun a hE => ?_
 refine WL.alloc hE hS (runs_plain rfl) zr216 rfl ?_; clear hE hS a w; intro b62 a w hE hS
 refine WL.storeI hE hS 0 rfl (GuidePoint.cells x53) (runs_plain rfl) rfl rfl rfl ty216 rfl rfl rfl rfl ?_; clear hE hS a w; intro a w hE hS
 refine WL.nil ?_
 refine W.seq ?_
 refine W.seq (W.region (vp hS hE rfl rfl fun a hE => WL.nil ?_))
 obtain ⟨q64, hq63, hr⟩ := bindS hr
 refine W.cut (fun a w => ∃ (q69 : Int), ∃ (q70 : Int), ∃ (q71 : Int), ∃ (q72 : Int), (q69, q70, q71, q72) = q64 ∧ Rep a 33 [(4, pp b51), (5, pp b62)] ∧ St w s (pc b62 #[vi q70, vi q71, vi q72] 216 :: pc b51 #[vi 0, vi 0, vi 0] 216 :: R)) ?_ ?_
 ·refine W.block ?_
  refine W.loop (fun m a w => ∃ (n65 : Nat), ∃ (q69 : Int), ∃ (q70 : Int), ∃ (q71 : Int), ∃ (q72 : Int), n65 = m ∧ SlicesMinFuncLguidePoint_v1.loop1 x0 n65 q69 q70 q71 q72 = some q64 ∧ Rep a 33 [(0, .slice a0 x0.length c0), (1, .func (.func 132) #[] #[]), (4, pp b51), (5, pp b62), (6, vi q69)] ∧ St w s (pc b62 #[vi q70, vi q71, vi q72] 216 :: pc b51 #[vi 0, vi 0, vi 0] 216 :: R)) (m := fu) ⟨fu, 1, x53.Dep, x53.Arr, x53.Rides, rfl, hq63, hE.pick _ ⟨rfl, rfl, rfl, rfl, rfl, trivial⟩, hS⟩ ?_
  clear hE hS a w hq63; rintro m66 a w ⟨n65, q69, q70, q71, q72, rfl, hq63, hE, hS⟩
  refine W.gen fun K73 hK73 => ?_
  rcases n65 with _ | n65
  ·rw [SlicesMinFuncLguidePoint_v1.loop1] at hq63; exact absurd hq63 (by simp)
  rw [SlicesMinFuncLguidePoint_v1.loop1] at hq63
  refine W.seq ?_
  refine W.seq (W.region (v2 hS hE rfl rfl rfl rfl fun a hE => ?_))
  refine vP hS hE (Gives.len hE rfl sl213) rfl fun a hE => ?_
  refine vp hS hE rfl rfl fun a hE => WL.nil ?_
  refine W.cond hE rfl (fun hc74 => ?_) (fun hc74 => ?_)
  ·replace hq63 := iteT hc74 hq63
   refine W.skip ?_
   refine W.seq ?_
   refine W.block ?_
   refine W.seq ?_
   refine W.regionQ (C := fun w => St w s (pc b62 #[vi q70, vi q71, vi q72] 216 :: pc b51 #[vi 0, vi 0, vi 0] 216 :: R)) mixed (by kernel_rfl) hS.drew ?_
   refine qP hE (Gives.p hE rfl) rfl fun a hE => ?_
   refine qP hE (Gives.p hE rfl) rfl fun a hE => ?_
   refine qP hE (Gives.p hE rfl) rfl fun a hE => ?_
   obtain ⟨x75, hx76, hq63⟩ := bindS hq63
   obtain ⟨hi77, hlt78, hy79⟩ := gx_some hx76
   obtain ⟨cs80, hl81, hR82, hat83⟩ := h0.at hy79
   subst hR82
   refine qP hE (Gives.idx hE (q69).toNat rfl rfl sl213 hi77 hlt78 (h0.aok hlt78)) rfl fun a hE => ?_
   refine qP hE (Gives.loadA hE rfl (fun w h => hat83 w _ h) ty216) rfl fun a hE => ?_
   refine qP hE (Gives.loadBA hE 0 rfl rfl ty216) rfl fun a hE => ?_
   refine QL.fnw hE (fun w hS => GuideNetearliest_2_ok hS  rfl (r := GuideNetearliest_2 x75 (GuidePoint.mk q70 q71 q72))) rfl (runs_plain rfl) bd132 rfl rfl rfl fun a hE => ?_
   refine qP hE (Gives.p hE rfl) rfl fun a hE => ?_
   refine QL.nil ?_; clear hS w; intro w hS
   obtain ⟨q85, hq84, hq63⟩ := bindS hq63
   refine W.cut (fun a w => ∃ (q88 : Int), ∃ (q89 : Int), ∃ (q90 : Int), (q88, q89, q90) = q85 ∧ Rep a 33 [(0, .slice a0 x0.length c0), (1, .func (.func 132) #[] #[]), (4, pp b51), (5, pp b62), (6, vi q69)] ∧ St w s (pc b62 #[vi q88, vi q89, vi q90] 216 :: pc b51 #[vi 0, vi 0, vi 0] 216 :: R)) ?_ ?_
   ·refine W.gen fun K91 hK91 => ?_
    refine W.cond hE rfl (fun hc92 => ?_) (fun hc92 => ?_)
    ·replace hq84 := iteT hc92 hq84
     refine W.region ?_
     refine v2 hS hE rfl rfl rfl rfl fun a hE => ?_
     obtain ⟨x93, hx94, hq84⟩ := bindS hq84
     obtain ⟨hi95, hlt96, hy97⟩ := gx_some hx94
     obtain ⟨cs98, hl99, hR100, hat101⟩ := h0.at hy97
     subst hR100
     refine vP hS hE (Gives.idx hE (q69).toNat rfl rfl sl213 hi95 hlt96 (h0.aok hlt96)) rfl fun a hE => ?_
     refine vP hS hE (Gives.loadA hE rfl (fun w h => hat101 w _ h) ty216) rfl fun a hE => ?_
     refine WL.storeI hE hS 0 rfl (GuidePoint.cells x93) (runs_plain rfl) rfl rfl rfl ty216 rfl rfl rfl rfl ?_; clear hE hS a w; intro a w hE hS
     refine WL.nil ?_
     subst hK91
     exact ⟨x93.Dep, x93.Arr, x93.Rides, Option.some.inj hq84, hE.pick _ ⟨rfl, rfl, rfl, rfl, rfl, trivial⟩, hS⟩
    replace hq84 := iteF hc92 hq84
    refine W.skip ?_
    subst hK91
    exact ⟨q70, q71, q72, Option.some.inj hq84, hE.pick _ ⟨rfl, rfl, rfl, rfl, rfl, trivial⟩, hS⟩
   clear hE hS a w; rintro a w ⟨q88, q89, q90, rfl, hE, hS⟩
   dsimp only at hq63
   refine W.region ?_
   refine v2 hS hE rfl rfl rfl rfl fun a hE => ?_
   refine vp hS hE rfl rfl fun a hE => WL.nil ?_
   subst hK73
   exact ⟨n65, Nat.lt_succ_self _, n65, (w64 (q69 + 1)), q88, q89, q90, rfl, hq63, hE.pick _ ⟨rfl, rfl, rfl, rfl, rfl, trivial⟩, hS⟩
  replace hq63 := iteF hc74 hq63
  subst hK73
  refine W.exit rfl ?_
  exact ⟨q69, q70, q71, q72, Option.some.inj hq63, hE.pick _ ⟨rfl, rfl, trivial⟩, hS⟩
 clear hE hS a w; rintro a w ⟨q69, q70, q71, q72, rfl, hE, hS⟩
 dsimp only at hr
 refine W.seq (W.region (vP hS hE (Gives.loadBA hE 0 rfl rfl ty216) rfl fun a hE => ?_))
 refine WL.storeI hE hS 1 rfl [vi q70, vi q71, vi q72] (runs_plain rfl) rfl rfl rfl ty216 rfl rfl rfl rfl ?_; clear hE hS a w; intro a w hE hS
 refine WL.nil ?_
 refine W.ret ?_
 refine finG (fn := Tryz.f131) (rs := [.cell 4 216]) (vs := [_]) hE rfl ⟨⟨_, rfl, .inl ⟨_, rfl, hS.seesAt 1 rfl, ty216⟩⟩, trivial⟩ ?_
 obtain rfl := Option.some.inj hr
 replace hS := hS.tail
 replace hS := hS.tail
 exact ⟨_, s, rfl, (Sg.Le.refl _), rfl, hS⟩
set_option maxHeartbeats 8000000 in
theorem SlicesCloneLguideRide_ok  {w : World} {s : Sg} {R : List HP} {x0 : List GuideRide} {a0 : Option Addr} {c0 : Nat} (hS : St w s (R)) (h0 : Sl 3 RGuideRide s a0 c0 x0) {r : (List GuideRide)} (hr : SlicesCloneLguideRide x0 = some r) :
  Calls Tryz.prog 48 [.slice a0 x0.length c0].toArray w (fun e w => ∃ (a0 : Option Addr) (c0 n0 : Nat) (cs0 : List Value), e = .returned (.slice a0 n0 c0) ∧ Ev 3 RGuideRide s cs0 r ∧ r.length = n0 ∧ St w s (vecC 95 3 a0 c0 n0 cs0 :: R)) := by
 refine enter Tryz.func48 rfl rfl rfl fun a hE => ?_
 rw [SlicesCloneLguideRide] at hr
 refine W.seq (W.region (vp hS hE rfl rfl fun a hE => WL.nil ?_))
 refine W.seq ?_
 refine W.seq (W.region (vp hS hE rfl rfl fun a hE => ?_))
 refine vP hS hE (Gives.isNil hE rfl rfl isl27) rfl fun a hE => WL.nil ?_
 rcases a0 with _ | g51
 ·obtain rfl := h0.none_nil
  replace hr : some [] = _ := hr
  refine W.condT hE rfl rfl ?_
  refine W.seq (W.region (vp hS hE rfl rfl fun a hE => WL.nil ?_))
  refine W.ret ?_
  replace hS := hS.vecNil 95 3
  refine finG (fn := Tryz.f48) (rs := [.tmp 2]) (vs := [_]) hE rfl ⟨rfl, trivial⟩ ?_
  obtain rfl := Option.some.inj hr
  exact ⟨none, 0, 0, [], rfl, (Ev.nil), (rfl), hS⟩
 skip
 refine W.condF hE rfl rfl ?_
 refine W.skip ?_
 refine W.seq (W.region ?_)
 refine WL.lit hE hS (e := 95) (es := 3) (vs := []) (cs := []) (runs_plain rfl) rfl (by kernel_rfl) rfl ?_; clear hE hS a w; intro b53 a w hE hS
 replace hS := hS.ptVec (es := 3) (m := 0) rfl (by decide)
 have h55 : Ev 3 RGuideRide s [] [] := (Ev.nil)
 refine vp hS hE rfl rfl fun a hE => ?_
 obtain ⟨x56, hx57, hr⟩ := bindS hr
 refine WL.appS hE hS 0 (runs_plain rfl) rfl rfl (xs := x0) rfl rfl ap27 RGuideRide.one h55 (rfl) h0 hx57 rfl ?_; clear hE hS a w; intro a58 c59 cs60 a w h61 hE hS
 refine vp hS hE rfl rfl fun a hE => WL.nil ?_
 refine W.ret ?_
 refine finG (fn := Tryz.f48) (rs := [.tmp 2]) (vs := [_]) hE rfl ⟨rfl, trivial⟩ ?_
 obtain rfl := Option.some.inj hr
 exact ⟨a58, c59, x56.length, cs60, rfl, h61, (rfl), hS⟩
set_option maxHeartbeats 8000000 in
theorem GuideNetleastOf_1_v1_ok : ∀ {fu : Nat} {w : World} {s : Sg} {R : List HP} {pb0 : Nat} {pb1 : Nat} {pb2 : Nat} {pb3 : Nat} {pb4 : Nat} {x0 : List GuideRide} {a0 : Option Addr} {c0 : Nat} {y0 : GuideNet} {a_y0_0 : Option Addr} {c_y0_0 : Nat} {a_y0_1 : Option Addr} {c_y0_1 : Nat} {y1 : GuidePoint} {y2 : Int} {y3_0 : List (Ar3i64 × Bool)} {b_v0 : Nat} (_hS : St w s (pc pb0 #[.slice a_y0_0 y0.Day.Trains.length c_y0_0, .slice a_y0_1 y0.Day.Turns.length c_y0_1, vi y0.least] 91 :: pc pb1 #[vi y1.Dep, vi y1.Arr, vi y1.Rides] 216 :: pc pb2 #[vi y2] 3 :: pc pb3 #[.map (some b_v0)] 269 :: pc pb4 #[.func (.func 170) #[] #[pp pb0, pp pb1, pp pb2, pp pb3, pp pb4]] 107 :: mapC keyAr3i64.f Value.bool b_v0 y3_0 :: R)) (_h0 : Sl 3 RGuideRide s a0 c0 x0) (_h_y0_0 : Sl 4 RApiTrain s a_y0_0 c_y0_0 y0.Day.Trains) (_h_y0_1 : Sl 1 (RL 1 (RI .i64)) s a_y0_1 c_y0_1 y0.Day.Turns) {r : (List GuideRide) × (List (Ar3i64 × Bool))} (_hr : GuideNetleastOf_1_v1 fu x0 y0 y1 y2 y3_0 = some r),
  Calls Tryz.prog 170 [.slice a0 x0.length c0, pp pb0, pp pb1, pp pb2, pp pb3, pp pb4].toArray w (fun e w => ∃ (a0 : Option Addr) (c0 : Nat) (t : Sg), e = .returned (.slice a0 r.1.length c0) ∧ s.Le t ∧ Sl 3 RGuideRide t a0 c0 r.1 ∧ (r.1 = [] → a0 = none) ∧ St w t (pc pb0 #[.slice a_y0_0 y0.Day.Trains.length c_y0_0, .slice a_y0_1 y0.Day.Turns.length c_y0_1, vi y0.least] 91 :: pc pb1 #[vi y1.Dep, vi y1.Arr, vi y1.Rides] 216 :: pc pb2 #[vi y2] 3 :: pc pb3 #[.map (some b_v0)] 269 :: pc pb4 #[.func (.func 170) #[] #[pp pb0, pp pb1, pp pb2, pp pb3, pp pb4]] 107 :: mapC keyAr3i64.f Value.bool b_v0 r.2 :: R)) := by
 intro fu
 induction fu with
 | zero => intro w s R pb0 pb1 pb2 pb3 pb4 x0 a0 c0 y0 a_y0_0 c_y0_0 a_y0_1 c_y0_1 y1 y2 y3_0 b_v0 hS h0 h_y0_0 h_y0_1 r hr; rw [GuideNetleastOf_1_v1] at hr; exact absurd hr (by simp)
 | succ fu ih_GuideNetleastOf_1_v1 =>
  intro w s R pb0 pb1 pb2 pb3 pb4 x0 a0 c0 y0 a_y0_0 c_y0_0 a_y0_1 c_y0_1 y1 y2 y3_0 b_v0 hS h0 h_y0_0 h_y0_1 r hr
  rw [GuideNetleastOf_1_v1] at hr
  generalize GuideNetleastOf_1_v1 fu = self_GuideNetleastOf_1_v1 at hr ih_GuideNetleastOf_1_v1
  refine enter Tryz.func170 rfl rfl rfl fun a hE => ?_
  refine W.seq (W.region ?_)
  refine WL.box hE hS (runs_plain rfl) rfl rfl rfl ?_; clear hE hS a w; intro b53 a w hE hS
  refine WL.alloc hE hS (runs_plain rfl) zr27 rfl ?_; clear hE hS a w; intro b54 a w hE hS
  refine WL.nil ?_
  refine W.seq (W.region (vP hS hE (Gives.loadB hE 1 rfl rfl rfl ty27) rfl fun a hE => ?_))
  refine vP hS hE (Gives.loadB hE 1 rfl rfl rfl ty27) rfl fun a hE => ?_
  refine vP hS hE (Gives.len hE rfl sl27) rfl fun a hE => ?_
  refine vp hS hE rfl rfl fun a hE => ?_
  obtain ⟨x55, hx56, hr⟩ := bindS hr
  obtain ⟨hi57, hlt58, hy59⟩ := gx_some hx56
  obtain ⟨cs60, hl61, hR62, hat63⟩ := h0.at hy59
  subst hR62
  refine vP hS hE (Gives.idx hE (w64 (((x0).length : Int) - 1)).toNat rfl rfl sl27 hi57 hlt58 (h0.aok hlt58)) rfl fun a hE => ?_
  refine vP hS hE (Gives.loadA hE rfl (fun w h => hat63 w _ h) ty95) rfl fun a hE => ?_
  refine WL.alloc hE hS (runs_plain rfl) zr95 rfl ?_; clear hE hS a w; intro b64 a w hE hS
  refine WL.storeI hE hS 0 rfl (GuideRide.cells x55) (runs_plain rfl) rfl rfl rfl ty95 rfl rfl rfl rfl ?_; clear hE hS a w; intro a w hE hS
  refine WL.nil ?_
  refine W.seq (W.region (vP hS hE (Gives.loadBA hE 3 rfl rfl ty91) rfl fun a hE => ?_))
  refine vP hS hE (Gives.loadBA hE 0 rfl rfl ty95) rfl fun a hE => ?_
  obtain ⟨q65, hq66, hr⟩ := bindS hr
  have hc_ := GuideNetoff_ok hS h_y0_0 h_y0_1 hq66
  refine WL.fnq hE (hc_) (runs_plain rfl) bd43 rfl rfl rfl ?_
  clear hE hS hc_; rintro e w ⟨cs67, s69, rfl, hle70, h68, hS⟩; refine ⟨_, rfl, ?_⟩; clear a; intro a hE
  replace h0 := Sl.mono RGuideRide.mono hle70 h0
  replace h_y0_0 := Sl.mono RApiTrain.mono hle70 h_y0_0
  replace h_y0_1 := Sl.mono (RL.mono RI.mono) hle70 h_y0_1
  subst h68
  refine WL.alloc hE hS (runs_plain rfl) zr99 rfl ?_; clear hE hS a w; intro b71 a w hE hS
  refine WL.storeI hE hS 0 rfl (ApiStop.cells q65) (runs_plain rfl) rfl rfl rfl ty99 rfl rfl rfl rfl ?_; clear hE hS a w; intro a w hE hS
  refine WL.nil ?_
  refine W.seq (W.region (vP hS hE (Gives.fld hE rfl fl216_2) rfl fun a hE => ?_))
  refine vP hS hE (Gives.loadB hE 5 rfl rfl rfl ty3) rfl fun a hE => ?_
  refine vP hS hE (Gives.loadB hE 3 rfl rfl rfl ty27) rfl fun a hE => ?_
  refine vP hS hE (Gives.len hE rfl sl27) rfl fun a hE => ?_
  refine v2 hS hE rfl rfl rfl rfl fun a hE => WL.nil ?_
  refine W.seq ?_
  refine W.seq (W.region (v2 hS hE rfl rfl rfl rfl fun a hE => WL.nil ?_))
  refine W.cond hE rfl (fun hc72 => ?_) (fun hc72 => ?_)
  ·replace hr := iteT hc72 hr
   refine W.seq ?_
   refine W.seq ?_
   obtain ⟨q74, hq73, hr⟩ := bndS hr
   refine W.cut (fun a w => ∃ (q77 : Bool), q77 = q74 ∧ Rep a 74 [(6, pp b53), (7, pp b54), (40, .bool q77)] ∧ St w s69 (pc b71 (ApiStop.cells q65).toArray 99 :: pc b64 (GuideRide.cells x55).toArray 95 :: pc b54 #[.slice none 0 0] 27 :: pc b53 #[.slice a0 x0.length c0] 27 :: pc pb0 #[.slice a_y0_0 y0.Day.Trains.length c_y0_0, .slice a_y0_1 y0.Day.Turns.length c_y0_1, vi y0.least] 91 :: pc pb1 #[vi y1.Dep, vi y1.Arr, vi y1.Rides] 216 :: pc pb2 #[vi y2] 3 :: pc pb3 #[.map (some b_v0)] 269 :: pc pb4 #[.func (.func 170) #[] #[pp pb0, pp pb1, pp pb2, pp pb3, pp pb4]] 107 :: mapC keyAr3i64.f Value.bool b_v0 y3_0 :: R)) ?_ ?_
   ·refine W.gen fun K78 hK78 => ?_
    refine W.region ?_
    refine vP hS hE (Gives.fld hE rfl fl99_0) rfl fun a hE => ?_
    refine vP hS hE (Gives.loadB hE 0 rfl rfl rfl ty3) rfl fun a hE => ?_
    refine vP hS hE (Gives.loadB hE 6 rfl rfl rfl ty3) rfl fun a hE => ?_
    refine v2 hS hE rfl rfl rfl rfl fun a hE => ?_
    rcases Bool.eq_false_or_eq_true (q65.Station == y2) with hg79 | hg79
    ·replace hq73 := iteT hg79 hq73
     refine WL.vS hS hE (runs_if hE rfl rfl rfl hg79) (Gives.fld hE rfl fl99_2) rfl fun a hE => ?_
     refine WL.vS hS hE (runs_if hE rfl rfl rfl hg79) (Gives.loadB hE 0 rfl rfl rfl ty3) rfl fun a hE => ?_
     refine WL.vS hS hE (runs_if hE rfl rfl rfl hg79) (Gives.fld hE rfl fl216_1) rfl fun a hE => ?_
     refine WL.vS hS hE (runs_if hE rfl rfl rfl hg79) (Gives.loadB hE 5 rfl rfl rfl ty3) rfl fun a hE => ?_
     refine WL.vS hS hE (runs_if hE rfl rfl rfl hg79) (Gives.p hE rfl) rfl fun a hE => ?_
     refine vP hS hE (Gives.pickT hE rfl hg79 rfl) rfl fun a hE => WL.nil ?_
     subst hK78
     exact ⟨(q65.Arr == y1.Arr), hq73, hE.pick _ ⟨rfl, rfl, rfl, trivial⟩, hS⟩
    replace hq73 := iteF hg79 hq73
    refine nO hE rfl rfl rfl (by rw [hg79]; decide) rfl fun a hE => ?_
    refine nO hE rfl rfl rfl (by rw [hg79]; decide) rfl fun a hE => ?_
    refine nO hE rfl rfl rfl (by rw [hg79]; decide) rfl fun a hE => ?_
    refine nO hE rfl rfl rfl (by rw [hg79]; decide) rfl fun a hE => ?_
    refine nO hE rfl rfl rfl (by rw [hg79]; decide) rfl fun a hE => ?_
    refine vP hS hE (Gives.pickF hE rfl hg79 rfl) rfl fun a hE => WL.nil ?_
    subst hK78
    exact ⟨false, hq73, hE.pick _ ⟨rfl, rfl, rfl, trivial⟩, hS⟩
   clear hE hS a w; rintro a w ⟨q77, rfl, hE, hS⟩
   refine W.cond hE rfl (fun hc80 => ?_) (fun hc80 => ?_)
   ·replace hr := iteT hc80 hr
    refine W.seq (W.region (vP hS hE (Gives.loadB hE 3 rfl rfl rfl ty27) rfl fun a hE => ?_))
    obtain ⟨_, hx81, hr⟩ := bindS hr
    refine WL.storeI hE hS 2 rfl [.slice a0 x0.length c0] (runs_plain rfl) rfl rfl rfl ty27 rfl rfl rfl rfl ?_; clear hE hS a w; intro a w hE hS
    refine WL.nil ?_
    refine W.ret ?_
    refine finG (fn := Tryz.f170) (rs := [.cell 7 27]) (vs := [_]) hE rfl ⟨⟨_, rfl, .inr ⟨hS.seesAt 2 rfl, ty27⟩⟩, trivial⟩ ?_
    obtain rfl := Option.some.inj hr
    replace hS := hS.tail
    replace hS := hS.tail
    replace hS := hS.tail
    replace hS := hS.tail
    exact ⟨a0, c0, s69, rfl, hle70, h0, (nz_some hx81), hS⟩
   replace hr := iteF hc80 hr
   refine W.skip ?_
   refine W.seq (W.region ?_)
   refine WL.storeI hE hS 2 rfl [.slice none 0 0] (runs_plain rfl) rfl rfl rfl ty27 rfl rfl rfl rfl ?_; clear hE hS a w; intro a w hE hS
   refine WL.nil ?_
   refine W.ret ?_
   refine finG (fn := Tryz.f170) (rs := [.cell 7 27]) (vs := [_]) hE rfl ⟨⟨_, rfl, .inr ⟨hS.seesAt 2 rfl, ty27⟩⟩, trivial⟩ ?_
   obtain rfl := Option.some.inj hr
   replace hS := hS.tail
   replace hS := hS.tail
   replace hS := hS.tail
   replace hS := hS.tail
   exact ⟨none, 0, s69, rfl, hle70, Sl.nil, (fun _ => rfl), hS⟩
  replace hr := iteF hc72 hr
  refine W.skip ?_
  refine W.seq (W.region (vP hS hE (Gives.fld hE rfl fl95_0) rfl fun a hE => ?_))
  refine vP hS hE (Gives.loadB hE 1 rfl rfl rfl ty3) rfl fun a hE => ?_
  refine vP hS hE (Gives.fld hE rfl fl95_2) rfl fun a hE => ?_
  refine vP hS hE (Gives.loadB hE 1 rfl rfl rfl ty3) rfl fun a hE => ?_
  refine vp hS hE rfl rfl fun a hE => ?_
  refine vP hS hE (Gives.build hE (vs := [(0, vi x55.Train), (1, vi x55.Off), (2, vi (w64 (y1.Rides - ((x0).length : Int))))]) [vi x55.Train, vi x55.Off, vi (w64 (y1.Rides - ((x0).length : Int)))] rfl (by kernel_rfl)) rfl fun a hE => ?_
  refine WL.alloc hE hS (runs_plain rfl) zr270 rfl ?_; clear hE hS a w; intro b82 a w hE hS
  refine WL.storeI hE hS 0 rfl [vi x55.Train, vi x55.Off, vi (w64 (y1.Rides - ((x0).length : Int)))] (runs_plain rfl) rfl rfl rfl ty270 rfl rfl rfl rfl ?_; clear hE hS a w; intro a w hE hS
  refine WL.nil ?_
  refine W.seq ?_
  refine W.seq ?_
  obtain ⟨q84, hq83, hr⟩ := bndS hr
  refine W.cut (fun a w => ∃ (q87 : Bool), q87 = q84 ∧ Rep a 74 [(1, pp pb0), (4, pp pb3), (5, pp pb4), (6, pp b53), (7, pp b54), (8, pp b64), (11, pp b82), (57, .bool q87)] ∧ St w s69 (pc b82 #[vi x55.Train, vi x55.Off, vi (w64 (y1.Rides - ((x0).length : Int)))] 270 :: pc b71 (ApiStop.cells q65).toArray 99 :: pc b64 (GuideRide.cells x55).toArray 95 :: pc b54 #[.slice none 0 0] 27 :: pc b53 #[.slice a0 x0.length c0] 27 :: pc pb0 #[.slice a_y0_0 y0.Day.Trains.length c_y0_0, .slice a_y0_1 y0.Day.Turns.length c_y0_1, vi y0.least] 91 :: pc pb1 #[vi y1.Dep, vi y1.Arr, vi y1.Rides] 216 :: pc pb2 #[vi y2] 3 :: pc pb3 #[.map (some b_v0)] 269 :: pc pb4 #[.func (.func 170) #[] #[pp pb0, pp pb1, pp pb2, pp pb3, pp pb4]] 107 :: mapC keyAr3i64.f Value.bool b_v0 y3_0 :: R)) ?_ ?_
  ·refine W.gen fun K88 hK88 => ?_
   refine W.region ?_
   refine vP hS hE (Gives.loadB hE 8 rfl rfl rfl ty269) rfl fun a hE => ?_
   refine vP hS hE (Gives.loadBA hE 0 rfl rfl ty270) rfl fun a hE => ?_
   refine vP hS hE (Gives.mapGetG (KeyS.arr keyAr3i64 rfl arS_270) hE 10 (k := (Ar3i64.mk x55.Train x55.Off (w64 (y1.Rides - ((x0).length : Int))))) (z := false) rfl rfl rfl um269 zm4) rfl fun a hE => ?_
   refine vp hS hE rfl rfl fun a hE => ?_
   rcases Bool.eq_false_or_eq_true ((mget y3_0 (Ar3i64.mk x55.Train x55.Off (w64 (y1.Rides - ((x0).length : Int))))).getD false) with hg89 | hg89
   ·replace hq83 := iteT hg89 hq83
    refine nO hE rfl rfl rfl (by rw [hg89]; decide) rfl fun a hE => ?_
    refine nO hE rfl rfl rfl (by rw [hg89]; decide) rfl fun a hE => ?_
    refine nO hE rfl rfl rfl (by rw [hg89]; decide) rfl fun a hE => ?_
    refine nO hE rfl rfl rfl (by rw [hg89]; decide) rfl fun a hE => ?_
    refine nO hE rfl rfl rfl (by rw [hg89]; decide) rfl fun a hE => ?_
    refine vP hS hE (Gives.pickT hE rfl hg89 rfl) rfl fun a hE => WL.nil ?_
    subst hK88
    exact ⟨true, hq83, hE.pick _ ⟨rfl, rfl, rfl, rfl, rfl, rfl, rfl, rfl, trivial⟩, hS⟩
   replace hq83 := iteF hg89 hq83
   refine WL.vS hS hE (runs_if hE rfl rfl rfl hg89) (Gives.fld hE rfl fl99_2) rfl fun a hE => ?_
   refine WL.vS hS hE (runs_if hE rfl rfl rfl hg89) (Gives.loadB hE 1 rfl rfl rfl ty3) rfl fun a hE => ?_
   refine WL.vS hS hE (runs_if hE rfl rfl rfl hg89) (Gives.fld hE rfl fl216_1) rfl fun a hE => ?_
   refine WL.vS hS hE (runs_if hE rfl rfl rfl hg89) (Gives.loadB hE 6 rfl rfl rfl ty3) rfl fun a hE => ?_
   refine WL.vS hS hE (runs_if hE rfl rfl rfl hg89) (Gives.p hE rfl) rfl fun a hE => ?_
   refine vP hS hE (Gives.pickF hE rfl hg89 rfl) rfl fun a hE => WL.nil ?_
   subst hK88
   exact ⟨decide (q65.Arr > y1.Arr), hq83, hE.pick _ ⟨rfl, rfl, rfl, rfl, rfl, rfl, rfl, rfl, trivial⟩, hS⟩
  clear hE hS a w; rintro a w ⟨q87, rfl, hE, hS⟩
  refine W.cond hE rfl (fun hc90 => ?_) (fun hc90 => ?_)
  ·replace hr := iteT hc90 hr
   refine W.seq (W.region ?_)
   refine WL.storeI hE hS 3 rfl [.slice none 0 0] (runs_plain rfl) rfl rfl rfl ty27 rfl rfl rfl rfl ?_; clear hE hS a w; intro a w hE hS
   refine WL.nil ?_
   refine W.ret ?_
   refine finG (fn := Tryz.f170) (rs := [.cell 7 27]) (vs := [_]) hE rfl ⟨⟨_, rfl, .inr ⟨hS.seesAt 3 rfl, ty27⟩⟩, trivial⟩ ?_
   obtain rfl := Option.some.inj hr
   replace hS := hS.tail
   replace hS := hS.tail
   replace hS := hS.tail
   replace hS := hS.tail
   replace hS := hS.tail
   exact ⟨none, 0, s69, rfl, hle70, Sl.nil, (fun _ => rfl), hS⟩
  replace hr := iteF hc90 hr
  refine W.skip ?_
  refine W.seq ?_
  refine W.seq (W.region (vP hS hE (Gives.loadBA hE 5 rfl rfl ty91) rfl fun a hE => ?_))
  refine vP hS hE (Gives.loadBA hE 2 rfl rfl ty95) rfl fun a hE => ?_
  obtain ⟨q91, hq92, hr⟩ := bindS hr
  have hc_ := GuideNetbehind_ok hS h_y0_0 h_y0_1 hq92
  refine WL.fnq hE (hc_) (runs_plain rfl) bd47 rfl rfl rfl ?_
  clear hE hS hc_; rintro e w ⟨lb93, s95, rfl, hle96, h94, hS⟩; refine ⟨_, rfl, ?_⟩; clear a; intro a hE
  replace h_y0_0 := Sl.mono RApiTrain.mono hle96 h_y0_0
  replace h_y0_1 := Sl.mono (RL.mono RI.mono) hle96 h_y0_1
  replace h0 := Sl.mono RGuideRide.mono hle96 h0
  refine WL.nil ?_
  refine W.block ?_
  obtain ⟨q98, hq97, hr⟩ := bindS hr
  refine W.cut (fun a w => ∃ (q110 : List GuideRide), ∃ (q115 : List (Ar3i64 × Bool)), ∃ (a111 : Option Addr), ∃ (c112 : Nat), ∃ (D104 : Nat) (s108 : Sg), s95.Le s108 ∧ (.next (q110, q115)) = q98 ∧ Sl 3 RGuideRide s108 a111 c112 q110 ∧ (q110 = [] → a111 = none) ∧ Rep a 74 [(4, pp pb3), (7, pp b54), (11, pp b82), (4294967295, vi (D104 : Nat))] ∧ St w s108 (pt D104 (.deferred (some [])) :: pc b82 #[vi x55.Train, vi x55.Off, vi (w64 (y1.Rides - ((x0).length : Int)))] 270 :: pc b71 (ApiStop.cells q65).toArray 99 :: pc b64 (GuideRide.cells x55).toArray 95 :: pc b54 #[.slice a111 q110.length c112] 27 :: pc b53 #[.slice a0 x0.length c0] 27 :: pc pb0 #[.slice a_y0_0 y0.Day.Trains.length c_y0_0, .slice a_y0_1 y0.Day.Turns.length c_y0_1, vi y0.least] 91 :: pc pb1 #[vi y1.Dep, vi y1.Arr, vi y1.Rides] 216 :: pc pb2 #[vi y2] 3 :: pc pb3 #[.map (some b_v0)] 269 :: pc pb4 #[.func (.func 170) #[] #[pp pb0, pp pb1, pp pb2, pp pb3, pp pb4]] 107 :: mapC keyAr3i64.f Value.bool b_v0 q115 :: R)) ?_ ?_
  ·refine W.rangeFunc (l := q91) (ps := [61]) [] rfl hE rfl hS rfl h94 bd100 (fun _ => rfl) rfl (fun pre101 s108 Q_ => ∃ (rest100 : List GuideRide), ∃ (q110 : List GuideRide), ∃ (q115 : List (Ar3i64 × Bool)), ∃ (a111 : Option Addr), ∃ (c112 : Nat), q91 = pre101 ++ rest100 ∧ GuideNetleastOf_1_v1.loop1 x0 y0 y1 y2 self_GuideNetleastOf_1_v1 rest100 q110 q115 = some q98 ∧ s95.Le s108 ∧ Sl 3 RGuideRide s108 a111 c112 q110 ∧ (q110 = [] → a111 = none) ∧ Q_ = pc b82 #[vi x55.Train, vi x55.Off, vi (w64 (y1.Rides - ((x0).length : Int)))] 270 :: pc b71 (ApiStop.cells q65).toArray 99 :: pc b64 (GuideRide.cells x55).toArray 95 :: pc b54 #[.slice a111 q110.length c112] 27 :: pc b53 #[.slice a0 x0.length c0] 27 :: pc pb0 #[.slice a_y0_0 y0.Day.Trains.length c_y0_0, .slice a_y0_1 y0.Day.Turns.length c_y0_1, vi y0.least] 91 :: pc pb1 #[vi y1.Dep, vi y1.Arr, vi y1.Rides] 216 :: pc pb2 #[vi y2] 3 :: pc pb3 #[.map (some b_v0)] 269 :: pc pb4 #[.func (.func 170) #[] #[pp pb0, pp pb1, pp pb2, pp pb3, pp pb4]] 107 :: mapC keyAr3i64.f Value.bool b_v0 q115 :: R) (fun _ s108 Q_ => ∃ (q110 : List GuideRide), ∃ (q115 : List (Ar3i64 × Bool)), ∃ (a111 : Option Addr), ∃ (c112 : Nat), (.ret (q110, q115)) = q98 ∧ s95.Le s108 ∧ Sl 3 RGuideRide s108 a111 c112 q110 ∧ (q110 = [] → a111 = none) ∧ Q_ = pc b82 #[vi x55.Train, vi x55.Off, vi (w64 (y1.Rides - ((x0).length : Int)))] 270 :: pc b71 (ApiStop.cells q65).toArray 99 :: pc b64 (GuideRide.cells x55).toArray 95 :: pc b54 #[.slice a111 q110.length c112] 27 :: pc b53 #[.slice a0 x0.length c0] 27 :: pc pb0 #[.slice a_y0_0 y0.Day.Trains.length c_y0_0, .slice a_y0_1 y0.Day.Turns.length c_y0_1, vi y0.least] 91 :: pc pb1 #[vi y1.Dep, vi y1.Arr, vi y1.Rides] 216 :: pc pb2 #[vi y2] 3 :: pc pb3 #[.map (some b_v0)] 269 :: pc pb4 #[.func (.func 170) #[] #[pp pb0, pp pb1, pp pb2, pp pb3, pp pb4]] 107 :: mapC keyAr3i64.f Value.bool b_v0 q115 :: R) (fun _ _ _ h => (by obtain ⟨rest100, q110, q115, a111, c112, _, _, hle_, _⟩ := h; exact hle_)) ⟨q91, [], y3_0, none, 0, rfl, hq97, Sg.Le.refl _, Sl.nil, (fun _ => rfl), rfl⟩ (fun x99 (b116 : Nat) => [(5, pp pb4), (6, pp b53), (7, pp b54), (12, pp b116)]) (fun x99 (b116 : Nat) => [pc b116 (GuideRide.cells x99).toArray 95]) ?_ ?_ ?_ ?_
   ·intro x99 a w t107 R L105 hE hS
    refine W.region ?_
    refine WL.alloc hE hS (runs_plain rfl) zr95 rfl ?_; clear hE hS a w; intro b116 a w hE hS
    refine WL.storeI hE hS 0 rfl (GuideRide.cells x99) (runs_plain rfl) rfl rfl rfl ty95 rfl rfl rfl rfl ?_; clear hE hS a w; intro a w hE hS
    refine WL.nil ?_
    exact ⟨b116, hE.pick _ ⟨rfl, rfl, rfl, rfl, trivial⟩, hS⟩
   ·intro pre101 x99 b116 s108 Q_ T_ L105 a w hpre_ hI_ hE hS
    obtain ⟨rest100, q110, q115, a111, c112, hl102, hq97, hle109, h113, hz114, rfl⟩ := hI_
    obtain ⟨rest100, rfl⟩ := pre_next hl102 hpre_
    rw [GuideNetleastOf_1_v1.loop1] at hq97
    replace hS : St w s108 (pc b116 (GuideRide.cells x99).toArray 95 :: pc b82 #[vi x55.Train, vi x55.Off, vi (w64 (y1.Rides - ((x0).length : Int)))] 270 :: pc b71 (ApiStop.cells q65).toArray 99 :: pc b64 (GuideRide.cells x55).toArray 95 :: pc b54 #[.slice a111 q110.length c112] 27 :: pc b53 #[.slice a0 x0.length c0] 27 :: pc pb0 #[.slice a_y0_0 y0.Day.Trains.length c_y0_0, .slice a_y0_1 y0.Day.Turns.length c_y0_1, vi y0.least] 91 :: pc pb1 #[vi y1.Dep, vi y1.Arr, vi y1.Rides] 216 :: pc pb2 #[vi y2] 3 :: pc pb3 #[.map (some b_v0)] 269 :: pc pb4 #[.func (.func 170) #[] #[pp pb0, pp pb1, pp pb2, pp pb3, pp pb4]] 107 :: mapC keyAr3i64.f Value.bool b_v0 q115 :: (R ++ T_)) := hS
    generalize hT117 : R ++ T_ = R at hS
    refine W.gen fun K118 hK118 => ?_
    replace h_y0_0 := Sl.mono RApiTrain.mono hle109 h_y0_0
    replace h_y0_1 := Sl.mono (RL.mono RI.mono) hle109 h_y0_1
    replace h94 := Iter.mono hle109 h94
    replace h0 := Sl.mono RGuideRide.mono hle109 h0
    refine W.block ?_
    refine W.seq ?_
    refine W.gen fun K119 hK119 => ?_
    refine W.regionE (sel (fun w => St w s108 (pc b116 (GuideRide.cells x99).toArray 95 :: pc b82 #[vi x55.Train, vi x55.Off, vi (w64 (y1.Rides - ((x0).length : Int)))] 270 :: pc b71 (ApiStop.cells q65).toArray 99 :: pc b64 (GuideRide.cells x55).toArray 95 :: pc b54 #[.slice a111 q110.length c112] 27 :: pc b53 #[.slice a0 x0.length c0] 27 :: pc pb0 #[.slice a_y0_0 y0.Day.Trains.length c_y0_0, .slice a_y0_1 y0.Day.Turns.length c_y0_1, vi y0.least] 91 :: pc pb1 #[vi y1.Dep, vi y1.Arr, vi y1.Rides] 216 :: pc pb2 #[vi y2] 3 :: pc pb3 #[.map (some b_v0)] 269 :: pc pb4 #[.func (.func 170) #[] #[pp pb0, pp pb1, pp pb2, pp pb3, pp pb4]] 107 :: mapC keyAr3i64.f Value.bool b_v0 q115 :: R)) (fun w => St w s108 (pc b116 (GuideRide.cells x99).toArray 95 :: pc b82 #[vi x55.Train, vi x55.Off, vi (w64 (y1.Rides - ((x0).length : Int)))] 270 :: pc b71 (ApiStop.cells q65).toArray 99 :: pc b64 (GuideRide.cells x55).toArray 95 :: pc b54 #[.slice a111 q110.length c112] 27 :: pc b53 #[.slice a0 x0.length c0] 27 :: pc pb0 #[.slice a_y0_0 y0.Day.Trains.length c_y0_0, .slice a_y0_1 y0.Day.Turns.length c_y0_1, vi y0.least] 91 :: pc pb1 #[vi y1.Dep, vi y1.Arr, vi y1.Rides] 216 :: pc pb2 #[vi y2] 3 :: pc pb3 #[.map (some b_v0)] 269 :: pc pb4 #[.func (.func 170) #[] #[pp pb0, pp pb1, pp pb2, pp pb3, pp pb4]] 107 :: R))) (fun b i => cond b ([0, 1, 2, 3, 4, 5, 7].contains i) ([0, 1, 2, 3, 4, 5, 6, 7].contains i)) mixed ?_
    replace hS := hS.drew
    refine tT (i := 0) true rfl hE rfl (by kernel_rfl) (Gives.loadB hE 10 rfl rfl rfl ty107) rfl hS (hS.dropAt 11) fun a hE => ?_
    have hT := tw_sel (A := fun w => St w s108 _) (B := fun w => St w s108 _) (w := _) (x := true) (y := true) (fun _ => hS) (fun _ => (hS.dropAt 11))
    have hF := hS; replace hS := (hS.dropAt 11)
    refine Rg.take (i := 1) false rfl hE rfl (by kernel_rfl) (runs_plain rfl) (Gives.loadB hE 5 rfl rfl rfl ty27) rfl hT fun a hE => ?_
    replace hS := hF; clear hF hT
    have hT := tw_sel (A := fun w => St w s108 _) (B := fun w => St w s108 _) (w := _) (x := true) (y := true) (fun _ => hS) (fun _ => (hS.dropAt 11))
    have hF := hS; replace hS := (hS.dropAt 11)
    refine Rg.take (i := 3) false rfl hE rfl (by kernel_rfl) (runs_plain rfl) (Gives.loadBA hE 0 rfl rfl ty95) rfl hT fun a hE => ?_
    replace hS := hF; clear hF hT
    obtain ⟨q120, hq121, hq97⟩ := bindS hq97
    obtain ⟨x129, hx130, hq97⟩ := bindS hq97
    obtain ⟨q141, hq142, hq97⟩ := bindS hq97
    suffices key : ∀ s147 a143 c144 F135 (a : Act) (w : World), s108.Le s147 → Sl 3 RGuideRide s147 a143 c144 q141.1 → (q141.1 = [] → a143 = none) → Sl 4 RApiTrain s147 a_y0_0 c_y0_0 y0.Day.Trains → Sl 1 (RL 1 (RI .i64)) s147 a_y0_1 c_y0_1 y0.Day.Turns → Sl 3 RGuideRide s147 a111 c112 q110 → (q110 = [] → a111 = none) → Sl 3 RGuideRide s147 a0 c0 x0 → Rep a 74 [(7, pp b54), (13, .slice a143 q141.1.length c144)] → St w s147 (pc pb0 #[.slice a_y0_0 y0.Day.Trains.length c_y0_0, .slice a_y0_1 y0.Day.Turns.length c_y0_1, vi y0.least] 91 :: pc pb1 #[vi y1.Dep, vi y1.Arr, vi y1.Rides] 216 :: pc pb2 #[vi y2] 3 :: pc pb3 #[.map (some b_v0)] 269 :: pc pb4 #[.func (.func 170) #[] #[pp pb0, pp pb1, pp pb2, pp pb3, pp pb4]] 107 :: mapC keyAr3i64.f Value.bool b_v0 q141.2 :: F135 :: pc b116 (GuideRide.cells x99).toArray 95 :: pc b82 #[vi x55.Train, vi x55.Off, vi (w64 (y1.Rides - ((x0).length : Int)))] 270 :: pc b71 (ApiStop.cells q65).toArray 99 :: pc b64 (GuideRide.cells x55).toArray 95 :: pc b54 #[.slice a111 q110.length c112] 27 :: pc b53 #[.slice a0 x0.length c0] 27 :: R) → K119.nor a w by
     refine Rg.many 2 [4] (by kernel_rfl) ⟨?_, ?_, trivial⟩
     ·refine Br.mk (i := 2) true true rfl (by kernel_rfl) (by kernel_rfl) ?_
      have hc_ := SlicesCloneLguideRide_ok hS h0 hq121
      refine WL.fnq hE (hc_) (runs_plain rfl) bd48 rfl rfl rfl ?_
      clear hE hS hc_; rintro e w ⟨a122, c123, n124, cs125, rfl, h126, rfl, hS⟩; refine ⟨_, rfl, ?_⟩; clear a; intro a hE
      refine WL.nil ?_
      refine ⟨⟨fun _ => (hS.tail), fun _ => ((hS.tail).dropAt 11)⟩, ?_⟩
      refine Rg.one (i := 4) true true rfl (by kernel_rfl) (by kernel_rfl) (by kernel_rfl) ?_
      refine WL.lit hE hS (e := 95) (es := 3) (vs := [(0, .agg (GuideRide.cells x99).toArray)]) (cs := [vi x99.Train, vi x99.On, vi x99.Off]) (runs_plain rfl) rfl (by kernel_rfl) rfl ?_; clear hE hS a w; intro b128 a w hE hS
      refine WL.nil ?_
      refine ⟨⟨fun _ => ((hS.tail).tail), fun _ => (((hS.tail).tail).dropAt 11)⟩, ?_⟩
      refine Rg.one (i := 5) true true rfl (by kernel_rfl) (by kernel_rfl) (by kernel_rfl) ?_
      refine WL.appB hE hS 0 (m := 1) (runs_plain rfl) rfl rfl rfl ap27 rfl h126 rfl (xs := [x99]) (Ev.cons (c1 := [vi x99.Train, vi x99.On, vi x99.Off]) rfl rfl (Ev.nil)) rfl rfl hx130 rfl ?_; clear hE hS a w; intro a131 c132 cs133 F135 a w h134 hb136 hE hS
      refine WL.nil ?_
      refine ⟨⟨fun _ => ((hS.tail).tail), fun _ => (((hS.tail).tail).dropAt 11)⟩, ?_⟩
      refine Rg.one (i := 6) false true rfl (by kernel_rfl) (by kernel_rfl) (by kernel_rfl) ?_
      have hF := hS.fixD RGuideRide.mono 0 rfl h134 (rfl); clear hS; obtain ⟨s138, hle139, hS, h140⟩ := hF
      replace h0 := Sl.mono RGuideRide.mono hle139 h0
      replace h113 := Sl.mono RGuideRide.mono hle139 h113
      replace h_y0_0 := Sl.mono RApiTrain.mono hle139 h_y0_0
      replace h_y0_1 := Sl.mono (RL.mono RI.mono) hle139 h_y0_1
      replace hS := hS.front 12 rfl
      replace hS := hS.front 12 rfl
      replace hS := hS.front 12 rfl
      replace hS := hS.front 12 rfl
      replace hS := hS.front 12 rfl
      replace hS := hS.front 12 rfl
      have hc_ := ih_GuideNetleastOf_1_v1 (y0 := y0) (y1 := y1) hS h140 h_y0_0 h_y0_1 hq142
      refine WL.fnw hE (hc_) rfl (runs_plain rfl) bd170 rfl rfl rfl ?_
      clear hE hS hc_; rintro e w ⟨a143, c144, s147, rfl, hle148, h145, hz146, hS⟩; refine ⟨_, rfl, ?_⟩; clear a; intro a hE
      replace h0 := Sl.mono RGuideRide.mono hle148 h0
      replace h140 := Sl.mono RGuideRide.mono hle148 h140
      replace h_y0_0 := Sl.mono RApiTrain.mono hle148 h_y0_0
      replace h_y0_1 := Sl.mono (RL.mono RI.mono) hle148 h_y0_1
      replace h113 := Sl.mono RGuideRide.mono hle148 h113
      refine WL.nil ?_
      refine ⟨⟨fun h => absurd h (by decide), fun _ => (St.down (Sg.Le.trans hle139 hle148) (St.order ((hS.dropAt 5).dropAt 5) [5, 5, 5, 5, 5, 5, 0, 0, 0, 0, 0] (by kernel_rfl)))⟩, ?_⟩
      refine Rg.takeP (i := 7) hE rfl (by kernel_rfl) (runs_plain rfl) (Gives.p hE rfl) rfl (tw_sel (fun h => absurd h (by decide)) (fun _ => (St.down (Sg.Le.trans hle139 hle148) (St.order ((hS.dropAt 5).dropAt 5) [5, 5, 5, 5, 5, 5, 0, 0, 0, 0, 0] (by kernel_rfl))))) fun a hE => ?_
      refine Rg.done (by kernel_rfl) ?_
      exact key _ _ _ _ _ _ (Sg.Le.trans hle139 hle148) h145 hz146 h_y0_0 h_y0_1 h113 hz114 h0 (hE.pick _ ⟨rfl, rfl, trivial⟩) hS
     refine Br.mk (i := 4) true true rfl (by kernel_rfl) (by kernel_rfl) ?_
     refine WL.lit hE hS (e := 95) (es := 3) (vs := [(0, .agg (GuideRide.cells x99).toArray)]) (cs := [vi x99.Train, vi x99.On, vi x99.Off]) (runs_plain rfl) rfl (by kernel_rfl) rfl ?_; clear hE hS a w; intro b128 a w hE hS
     refine WL.nil ?_
     refine ⟨⟨fun _ => (hS.tail), fun _ => ((hS.tail).dropAt 11)⟩, ?_⟩
     refine Rg.one (i := 2) true true rfl (by kernel_rfl) (by kernel_rfl) (by kernel_rfl) ?_
     have hc_ := SlicesCloneLguideRide_ok hS h0 hq121
     refine WL.fnq hE (hc_) (runs_plain rfl) bd48 rfl rfl rfl ?_
     clear hE hS hc_; rintro e w ⟨a122, c123, n124, cs125, rfl, h126, rfl, hS⟩; refine ⟨_, rfl, ?_⟩; clear a; intro a hE
     refine WL.nil ?_
     refine ⟨⟨fun _ => ((hS.tail).tail), fun _ => (((hS.tail).tail).dropAt 11)⟩, ?_⟩
     refine Rg.one (i := 5) true true rfl (by kernel_rfl) (by kernel_rfl) (by kernel_rfl) ?_
     replace hS := hS.front 1 rfl
     refine WL.appB hE hS 0 (m := 1) (runs_plain rfl) rfl rfl rfl ap27 rfl h126 rfl (xs := [x99]) (Ev.cons (c1 := [vi x99.Train, vi x99.On, vi x99.Off]) rfl rfl (Ev.nil)) rfl rfl hx130 rfl ?_; clear hE hS a w; intro a131 c132 cs133 F135 a w h134 hb136 hE hS
     refine WL.nil ?_
     refine ⟨⟨fun _ => ((hS.tail).tail), fun _ => (((hS.tail).tail).dropAt 11)⟩, ?_⟩
     refine Rg.one (i := 6) false true rfl (by kernel_rfl) (by kernel_rfl) (by kernel_rfl) ?_
     have hF := hS.fixD RGuideRide.mono 0 rfl h134 (rfl); clear hS; obtain ⟨s138, hle139, hS, h140⟩ := hF
     replace h0 := Sl.mono RGuideRide.mono hle139 h0
     replace h113 := Sl.mono RGuideRide.mono hle139 h113
     replace h_y0_0 := Sl.mono RApiTrain.mono hle139 h_y0_0
     replace h_y0_1 := Sl.mono (RL.mono RI.mono) hle139 h_y0_1
     replace hS := hS.front 12 rfl
     replace hS := hS.front 12 rfl
     replace hS := hS.front 12 rfl
     replace hS := hS.front 12 rfl
     replace hS := hS.front 12 rfl
     replace hS := hS.front 12 rfl
     have hc_ := ih_GuideNetleastOf_1_v1 (y0 := y0) (y1 := y1) hS h140 h_y0_0 h_y0_1 hq142
     refine WL.fnw hE (hc_) rfl (runs_plain rfl) bd170 rfl rfl rfl ?_
     clear hE hS hc_; rintro e w ⟨a143, c144, s147, rfl, hle148, h145, hz146, hS⟩; refine ⟨_, rfl, ?_⟩; clear a; intro a hE
     replace h0 := Sl.mono RGuideRide.mono hle148 h0
     replace h140 := Sl.mono RGuideRide.mono hle148 h140
     replace h_y0_0 := Sl.mono RApiTrain.mono hle148 h_y0_0
     replace h_y0_1 := Sl.mono (RL.mono RI.mono) hle148 h_y0_1
     replace h113 := Sl.mono RGuideRide.mono hle148 h113
     refine WL.nil ?_
     refine ⟨⟨fun h => absurd h (by decide), fun _ => (St.down (Sg.Le.trans hle139 hle148) (St.order ((hS.dropAt 5).dropAt 5) [5, 5, 5, 5, 5, 5, 0, 0, 0, 0, 0] (by kernel_rfl)))⟩, ?_⟩
     refine Rg.takeP (i := 7) hE rfl (by kernel_rfl) (runs_plain rfl) (Gives.p hE rfl) rfl (tw_sel (fun h => absurd h (by decide)) (fun _ => (St.down (Sg.Le.trans hle139 hle148) (St.order ((hS.dropAt 5).dropAt 5) [5, 5, 5, 5, 5, 5, 0, 0, 0, 0, 0] (by kernel_rfl))))) fun a hE => ?_
     refine Rg.done (by kernel_rfl) ?_
     exact key _ _ _ _ _ _ (Sg.Le.trans hle139 hle148) h145 hz146 h_y0_0 h_y0_1 h113 hz114 h0 (hE.pick _ ⟨rfl, rfl, trivial⟩) hS
    clear hE hS a w; intro s147 a143 c144 F135 a w hle149 h145 hz146 h_y0_0 h_y0_1 h113 hz114 h0 hE hS
    subst hK119
    refine W.seq (W.region (vp hS hE rfl rfl fun a hE => ?_))
    refine vP hS hE (Gives.notNilZ hE (isNone_eq h145 hz146) rfl rfl isl27) rfl fun a hE => WL.nil ?_
    refine W.cond hE rfl (fun hc150 => ?_) (fun hc150 => ?_)
    ·replace hq97 := iteT hc150 hq97
     refine W.seq (W.region (vp hS hE rfl rfl fun a hE => ?_))
     refine WL.storeI hE hS 11 rfl [.slice a143 q141.1.length c144] (runs_plain rfl) rfl rfl rfl ty27 rfl rfl rfl rfl ?_; clear hE hS a w; intro a w hE hS
     refine WL.nil ?_
     refine W.ret ?_
     subst hK118
     replace hS := hS.dropAt 6
     replace hS := hS.dropAt 6
     replace hS := hS.order [6, 6, 6, 6, 6, 0, 0, 0, 0, 0, 0] rfl
     subst hT117
     exact ⟨s147, _, ⟨q141.1, q141.2, a143, c144, Option.some.inj hq97, (Sg.Le.trans hle109 hle149), h145, hz146, rfl⟩, hS⟩
    replace hq97 := iteF hc150 hq97
    refine W.skip ?_
    replace hS := hS.dropAt 6
    replace hS := hS.dropAt 6
    replace hS := hS.order [6, 6, 6, 6, 6, 0, 0, 0, 0, 0, 0] rfl
    subst hK118
    subst hT117
    exact ⟨s147, _, ⟨rest100, q110, q141.2, a111, c112, hl102.trans (by simp), hq97, (Sg.Le.trans hle109 hle149), h113, hz114, rfl⟩, hS⟩
   ·intro s108 Q_ D104 a w hI_ hE hS
    obtain ⟨rest100, q110, q115, a111, c112, hl102, hq97, hle109, h113, hz114, rfl⟩ := hI_
    obtain rfl := pre_end hl102
    rw [GuideNetleastOf_1_v1.loop1] at hq97
    exact ⟨q110, q115, _, _, D104, s108, hle109, Option.some.inj hq97, h113, hz114, hE.pick _ ⟨rfl, rfl, rfl, rfl, trivial⟩, hS⟩
   intro c_ s108 Q_ D104 a w hc_ hX_ hE hS
   obtain rfl : c_ = .ret := hc_.elim id (fun h => (by obtain ⟨_, h, _⟩ := h; cases h))
   obtain ⟨q110, q115, a111, c112, rfl, hle109, h113, hz114, rfl⟩ := hX_
   dsimp only at hr
   replace h_y0_0 := Sl.mono RApiTrain.mono hle109 h_y0_0
   replace h_y0_1 := Sl.mono (RL.mono RI.mono) hle109 h_y0_1
   replace h94 := Iter.mono hle109 h94
   replace h0 := Sl.mono RGuideRide.mono hle109 h0
   refine W.ret ?_
   refine finGM (fn := Tryz.f170) (rs := [.cell 7 27]) (vs := [.slice a111 q110.length c112]) hE hS 0 rfl rfl ?_
   clear hS; intro w hS
   refine ⟨⟨⟨_, rfl, .inr ⟨hS.seesAt 3 rfl, ty27⟩⟩, trivial⟩, ?_⟩
   obtain rfl := Option.some.inj hr
   replace hS := hS.tail
   replace hS := hS.tail
   replace hS := hS.tail
   replace hS := hS.tail
   replace hS := hS.tail
   exact ⟨a111, c112, s108, rfl, (Sg.Le.trans (Sg.Le.trans hle70 hle96) hle109), h113, hz114, hS⟩
  clear hE hS a w; rintro a w ⟨q110, q115, a111, c112, D104, s108, hle109, rfl, h113, hz114, hE, hS⟩
  dsimp only at hr
  replace h_y0_0 := Sl.mono RApiTrain.mono hle109 h_y0_0
  replace h_y0_1 := Sl.mono (RL.mono RI.mono) hle109 h_y0_1
  replace h94 := Iter.mono hle109 h94
  replace h0 := Sl.mono RGuideRide.mono hle109 h0
  refine W.seq (W.region (vP hS hE (Gives.loadB hE 9 rfl rfl rfl ty269) rfl fun a hE => ?_))
  refine vP hS hE (Gives.loadBA hE 1 rfl rfl ty270) rfl fun a hE => ?_
  refine WL.mapSetG (KeyS.arr keyAr3i64 rfl arS_270) hE hS 11 (k := (Ar3i64.mk x55.Train x55.Off (w64 (y1.Rides - ((x0).length : Int))))) (v := true) (.inl rfl) (runs_plain rfl) rfl rfl rfl rfl um269 rfl ?_; clear hE hS a w; intro a w hE hS
  refine WL.nil ?_
  refine W.seq (W.region ?_)
  refine WL.storeI hE hS 4 rfl [.slice none 0 0] (runs_plain rfl) rfl rfl rfl ty27 rfl rfl rfl rfl ?_; clear hE hS a w; intro a w hE hS
  refine WL.nil ?_
  refine W.ret ?_
  refine finGM (fn := Tryz.f170) (rs := [.cell 7 27]) (vs := [.slice none 0 0]) hE hS 0 rfl rfl ?_
  clear hS; intro w hS
  refine ⟨⟨⟨_, rfl, .inr ⟨hS.seesAt 3 rfl, ty27⟩⟩, trivial⟩, ?_⟩
  obtain rfl := Option.some.inj hr
  replace hS := hS.tail
  replace hS := hS.tail
  replace hS := hS.tail
  replace hS := hS.tail
  replace hS := hS.tail
  exact ⟨none, 0, s108, rfl, (Sg.Le.trans (Sg.Le.trans hle70 hle96) hle109), Sl.nil, (fun _ => rfl), hS⟩
set_option maxHeartbeats 8000000 in
theorem GuideNetleastOf_ok {fu : Nat}  {w : World} {s : Sg} {R : List HP} {x0 : GuideNet} {a0_0 : Option Addr} {c0_0 : Nat} {a0_1 : Option Addr} {c0_1 : Nat} {x1 : Int} {x2 : Int} {x3 : GuidePoint} (hS : St w s (R)) (h0_0 : Sl 4 RApiTrain s a0_0 c0_0 x0.Day.Trains) (h0_1 : Sl 1 (RL 1 (RI .i64)) s a0_1 c0_1 x0.Day.Turns) {r : GuideJourney} (hr : GuideNetleastOf fu x0 x1 x2 x3 = some r) :
  Calls Tryz.prog 133 [.agg (List.toArray [.slice a0_0 x0.Day.Trains.length c0_0, .slice a0_1 x0.Day.Turns.length c0_1, vi x0.least]), vi x1, vi x2, .agg (GuidePoint.cells x3).toArray].toArray w (fun e w => ∃ (cs0 : List Value) (t : Sg), e = .returned (.agg cs0.toArray) ∧ s.Le t ∧ RGuideJourney t cs0 r ∧ St w t (R)) := by
 refine enter Tryz.func133 rfl rfl rfl fun a hE => ?_
 rw [GuideNetleastOf] at hr
 refine W.seq (W.region ?_)
 refine WL.box hE hS (runs_plain rfl) rfl rfl rfl ?_; clear hE hS a w; intro b51 a w hE hS
 refine WL.box hE hS (runs_plain rfl) rfl rfl rfl ?_; clear hE hS a w; intro b52 a w hE hS
 refine WL.box hE hS (runs_plain rfl) rfl rfl rfl ?_; clear hE hS a w; intro b53 a w hE hS
 refine WL.alloc hE hS (runs_plain rfl) zr29 rfl ?_; clear hE hS a w; intro b54 a w hE hS
 refine WL.nil ?_
 refine W.seq (W.region ?_)
 refine WL.mkMap (fk := keyAr3i64.f) (fv := Value.bool) hE hS (runs_plain rfl) rfl ?_; clear hE hS a w; intro b55 a w hE hS
 refine WL.alloc hE hS (runs_plain rfl) zr269 rfl ?_; clear hE hS a w; intro b56 a w hE hS
 refine WL.storeI hE hS 0 rfl [.map (some b55)] (runs_plain rfl) rfl rfl rfl ty269 rfl rfl rfl rfl ?_; clear hE hS a w; intro a w hE hS
 refine WL.nil ?_
 refine W.seq (W.region ?_)
 refine WL.alloc hE hS (runs_plain rfl) zr107 rfl ?_; clear hE hS a w; intro b57 a w hE hS
 refine WL.nil ?_
 refine W.seq (W.region (vP hS hE (Gives.mkfn hE (vs := [pp b51, pp b53, pp b52, pp b56, pp b57]) rfl) rfl fun a hE => ?_))
 refine WL.storeI hE hS 0 rfl [.func (.func 170) #[] #[pp b51, pp b53, pp b52, pp b56, pp b57]] (runs_plain rfl) rfl rfl rfl ty107 rfl rfl rfl rfl ?_; clear hE hS a w; intro a w hE hS
 refine WL.nil ?_
 refine W.seq ?_
 refine W.seq (W.region (vP hS hE (Gives.loadBA hE 6 rfl rfl ty91) rfl fun a hE => ?_))
 refine vp hS hE rfl rfl fun a hE => ?_
 refine vP hS hE (Gives.fld hE rfl fl216_0) rfl fun a hE => ?_
 refine vP hS hE (Gives.loadB hE 4 rfl rfl rfl ty3) rfl fun a hE => ?_
 obtain ⟨q58, hq59, hr⟩ := bndS hr
 have hc_ := GuideNetrides_ok hS h0_0 h0_1 hq59
 refine WL.fnq hE (hc_) (runs_plain rfl) bd49 rfl rfl rfl ?_
 clear hE hS hc_; rintro e w ⟨lb60, s62, rfl, hle63, h61, hS⟩; refine ⟨_, rfl, ?_⟩; clear a; intro a hE
 replace h0_0 := Sl.mono RApiTrain.mono hle63 h0_0
 replace h0_1 := Sl.mono (RL.mono RI.mono) hle63 h0_1
 refine WL.nil ?_
 refine W.block ?_
 obtain ⟨q65, hq64, hr⟩ := bindS hr
 refine W.cut (fun a w => ∃ (q77 : List GuideRide), ∃ (q81 : List (Ar3i64 × Bool)), ∃ (a78 : Option Addr), ∃ (c79 : Nat), ∃ (D71 : Nat) (s75 : Sg), s62.Le s75 ∧ (.next (q77, q81)) = q65 ∧ Sl 3 RGuideRide s75 a78 c79 q77 ∧ Rep a 37 [(8, pp b54), (4294967295, vi (D71 : Nat))] ∧ St w s75 (pt D71 (.deferred (some [])) :: pc b57 #[.func (.func 170) #[] #[pp b51, pp b53, pp b52, pp b56, pp b57]] 107 :: pc b56 #[.map (some b55)] 269 :: mapC keyAr3i64.f Value.bool b55 q81 :: pc b54 #[.slice a78 q77.length c79] 29 :: pc b53 (GuidePoint.cells x3).toArray 216 :: pc b52 #[vi x2] 3 :: pc b51 #[.slice a0_0 x0.Day.Trains.length c0_0, .slice a0_1 x0.Day.Turns.length c0_1, vi x0.least] 91 :: R)) ?_ ?_
 ·refine W.rangeFunc (l := q58) (ps := [20]) [] rfl hE rfl hS rfl h61 bd100 (fun _ => rfl) rfl (fun pre68 s75 Q_ => ∃ (rest67 : List GuideRide), ∃ (q77 : List GuideRide), ∃ (q81 : List (Ar3i64 × Bool)), ∃ (a78 : Option Addr), ∃ (c79 : Nat), q58 = pre68 ++ rest67 ∧ GuideNetleastOf.loop1 x0 x2 x3 fu rest67 q77 q81 = some q65 ∧ s62.Le s75 ∧ Sl 3 RGuideRide s75 a78 c79 q77 ∧ Q_ = pc b57 #[.func (.func 170) #[] #[pp b51, pp b53, pp b52, pp b56, pp b57]] 107 :: pc b56 #[.map (some b55)] 269 :: mapC keyAr3i64.f Value.bool b55 q81 :: pc b54 #[.slice a78 q77.length c79] 29 :: pc b53 (GuidePoint.cells x3).toArray 216 :: pc b52 #[vi x2] 3 :: pc b51 #[.slice a0_0 x0.Day.Trains.length c0_0, .slice a0_1 x0.Day.Turns.length c0_1, vi x0.least] 91 :: R) (fun _ s75 Q_ => ∃ (q77 : List GuideRide), ∃ (q81 : List (Ar3i64 × Bool)), ∃ (a78 : Option Addr), ∃ (c79 : Nat), (.ret (q77, q81)) = q65 ∧ s62.Le s75 ∧ Sl 3 RGuideRide s75 a78 c79 q77 ∧ Q_ = pc b57 #[.func (.func 170) #[] #[pp b51, pp b53, pp b52, pp b56, pp b57]] 107 :: pc b56 #[.map (some b55)] 269 :: mapC keyAr3i64.f Value.bool b55 q81 :: pc b54 #[.slice a78 q77.length c79] 29 :: pc b53 (GuidePoint.cells x3).toArray 216 :: pc b52 #[vi x2] 3 :: pc b51 #[.slice a0_0 x0.Day.Trains.length c0_0, .slice a0_1 x0.Day.Turns.length c0_1, vi x0.least] 91 :: R) (fun _ _ _ h => (by obtain ⟨rest67, q77, q81, a78, c79, _, _, hle_, _⟩ := h; exact hle_)) ⟨q58, [], [], none, 0, rfl, hq64, Sg.Le.refl _, Sl.nil, rfl⟩ (fun x66 (b82 : Nat) => [(4, pp b51), (7, pp b53), (8, pp b54), (10, pp b57), (11, pp b82)]) (fun x66 (b82 : Nat) => [pc b82 (GuideRide.cells x66).toArray 95]) ?_ ?_ ?_ ?_
  ·intro x66 a w t74 R L72 hE hS
   refine W.region ?_
   refine WL.alloc hE hS (runs_plain rfl) zr95 rfl ?_; clear hE hS a w; intro b82 a w hE hS
   refine WL.storeI hE hS 0 rfl (GuideRide.cells x66) (runs_plain rfl) rfl rfl rfl ty95 rfl rfl rfl rfl ?_; clear hE hS a w; intro a w hE hS
   refine WL.nil ?_
   exact ⟨b82, hE.pick _ ⟨rfl, rfl, rfl, rfl, rfl, trivial⟩, hS⟩
  ·intro pre68 x66 b82 s75 Q_ T_ L72 a w hpre_ hI_ hE hS
   obtain ⟨rest67, q77, q81, a78, c79, hl69, hq64, hle76, h80, rfl⟩ := hI_
   obtain ⟨rest67, rfl⟩ := pre_next hl69 hpre_
   rw [GuideNetleastOf.loop1] at hq64
   replace hS : St w s75 (pc b82 (GuideRide.cells x66).toArray 95 :: pc b57 #[.func (.func 170) #[] #[pp b51, pp b53, pp b52, pp b56, pp b57]] 107 :: pc b56 #[.map (some b55)] 269 :: mapC keyAr3i64.f Value.bool b55 q81 :: pc b54 #[.slice a78 q77.length c79] 29 :: pc b53 (GuidePoint.cells x3).toArray 216 :: pc b52 #[vi x2] 3 :: pc b51 #[.slice a0_0 x0.Day.Trains.length c0_0, .slice a0_1 x0.Day.Turns.length c0_1, vi x0.least] 91 :: (R ++ T_)) := hS
   generalize hT83 : R ++ T_ = R at hS
   refine W.gen fun K84 hK84 => ?_
   replace h0_0 := Sl.mono RApiTrain.mono hle76 h0_0
   replace h0_1 := Sl.mono (RL.mono RI.mono) hle76 h0_1
   replace h61 := Iter.mono hle76 h61
   refine W.block ?_
   refine W.seq ?_
   refine W.seq ?_
   refine W.gen fun K85 hK85 => ?_
   refine W.regionE (dup (fun w => St w s75 (pc b82 (GuideRide.cells x66).toArray 95 :: pc b57 #[.func (.func 170) #[] #[pp b51, pp b53, pp b52, pp b56, pp b57]] 107 :: pc b56 #[.map (some b55)] 269 :: mapC keyAr3i64.f Value.bool b55 q81 :: pc b54 #[.slice a78 q77.length c79] 29 :: pc b53 (GuidePoint.cells x3).toArray 216 :: pc b52 #[vi x2] 3 :: pc b51 #[.slice a0_0 x0.Day.Trains.length c0_0, .slice a0_1 x0.Day.Turns.length c0_1, vi x0.least] 91 :: R))) (fun b i => cond b ([0, 1, 2, 3, 4, 5, 6].contains i) ([0, 1, 2, 3, 4, 5, 6].contains i)) mixed ?_
   replace hS := hS.drew
   refine tT (i := 0) true rfl hE rfl (by kernel_rfl) (Gives.loadBA hE 7 rfl rfl ty91) rfl hS hS fun a hE => ?_
   have hT := tw_sel (A := fun w => St w s75 _) (B := fun w => St w s75 _) (w := _) (x := true) (y := true) (fun _ => hS) (fun _ => hS)
   have hF := hS; replace hS := hS
   refine Rg.take (i := 1) true rfl hE rfl (by kernel_rfl) (runs_plain rfl) (Gives.loadBA hE 0 rfl rfl ty95) rfl hT fun a hE => ?_
   replace hS := hF; clear hF hT
   refine tP (i := 4) hE rfl (by kernel_rfl) (Gives.fld hE rfl fl216_0) rfl hS hS fun a hE => ?_
   refine tT (i := 5) true rfl hE rfl (by kernel_rfl) (Gives.loadB hE 5 rfl rfl rfl ty3) rfl hS hS fun a hE => ?_
   refine Rg.one (i := 2) true true rfl (by kernel_rfl) (by kernel_rfl) (by kernel_rfl) ?_
   obtain ⟨q86, hq87, hq64⟩ := bindS hq64
   have hc_ := GuideNeton_ok hS h0_0 h0_1 hq87
   refine WL.fnq hE (hc_) (runs_plain rfl) bd44 rfl rfl rfl ?_
   clear hE hS hc_; rintro e w ⟨cs88, s90, rfl, hle91, h89, hS⟩; refine ⟨_, rfl, ?_⟩; clear a; intro a hE
   replace h0_0 := Sl.mono RApiTrain.mono hle91 h0_0
   replace h0_1 := Sl.mono (RL.mono RI.mono) hle91 h0_1
   replace h80 := Sl.mono RGuideRide.mono hle91 h80
   subst h89
   refine WL.nil ?_
   refine ⟨⟨fun _ => (St.down hle91 hS), fun _ => (St.down hle91 hS)⟩, ?_⟩
   refine tP (i := 3) hE rfl (by kernel_rfl) (Gives.field1 hE rfl fd99_3 ty3 rfl) rfl (St.down hle91 hS) (St.down hle91 hS) fun a hE => ?_
   refine tP (i := 6) hE rfl (by kernel_rfl) (Gives.p hE rfl) rfl (St.down hle91 hS) (St.down hle91 hS) fun a hE => ?_
   refine Rg.done (by kernel_rfl) ?_
   subst hK85
   refine W.cond hE rfl (fun hc92 => ?_) (fun hc92 => ?_)
   ·replace hq64 := iteT hc92 hq64
    refine W.exit rfl ?_
    replace hS := hS.tail
    subst hK84
    subst hT83
    exact ⟨s90, _, ⟨rest67, q77, q81, a78, c79, hl69.trans (by simp), hq64, (Sg.Le.trans hle76 hle91), h80, rfl⟩, hS⟩
   replace hq64 := iteF hc92 hq64
   refine W.skip ?_
   refine W.seq (W.region (vP hS hE (Gives.loadB hE 1 rfl rfl rfl ty107) rfl fun a hE => ?_))
   refine vP hS hE (Gives.loadBA hE 0 rfl rfl ty95) rfl fun a hE => ?_
   refine WL.lit hE hS (e := 95) (es := 3) (vs := [(0, .agg (GuideRide.cells x66).toArray)]) (cs := [vi x66.Train, vi x66.On, vi x66.Off]) (runs_plain rfl) rfl (by kernel_rfl) rfl ?_; clear hE hS a w; intro b93 a w hE hS
   replace hS := hS.ptVec (es := 3) (m := 1) rfl (by decide)
   have h95 : Ev 3 RGuideRide s90 [vi x66.Train, vi x66.On, vi x66.Off] [x66] := (Ev.cons (c1 := [vi x66.Train, vi x66.On, vi x66.Off]) rfl rfl (Ev.nil))
   have hF := hS.fixD RGuideRide.mono 0 rfl h95 (rfl); clear hS; obtain ⟨s96, hle97, hS, h98⟩ := hF
   replace h0_0 := Sl.mono RApiTrain.mono hle97 h0_0
   replace h0_1 := Sl.mono (RL.mono RI.mono) hle97 h0_1
   replace h80 := Sl.mono RGuideRide.mono hle97 h80
   obtain ⟨q99, hq100, hq64⟩ := bindS hq64
   replace hS := hS.front 3 rfl
   replace hS := hS.front 2 rfl
   replace hS := hS.front 3 rfl
   replace hS := hS.front 6 rfl
   replace hS := hS.front 6 rfl
   replace hS := hS.front 7 rfl
   have hc_ := GuideNetleastOf_1_v1_ok (y0 := x0) (y1 := x3) hS h98 h0_0 h0_1 hq100
   refine WL.fnw hE (hc_) rfl (runs_plain rfl) bd170 rfl rfl rfl ?_
   clear hE hS hc_; rintro e w ⟨a101, c102, s105, rfl, hle106, h103, hz104, hS⟩; refine ⟨_, rfl, ?_⟩; clear a; intro a hE
   replace h0_0 := Sl.mono RApiTrain.mono hle106 h0_0
   replace h0_1 := Sl.mono (RL.mono RI.mono) hle106 h0_1
   replace h98 := Sl.mono RGuideRide.mono hle106 h98
   replace h80 := Sl.mono RGuideRide.mono hle106 h80
   refine vp hS hE rfl rfl fun a hE => WL.nil ?_
   refine W.seq (W.region (vp hS hE rfl rfl fun a hE => ?_))
   refine vP hS hE (Gives.notNilZ hE (isNone_eq h103 hz104) rfl rfl isl27) rfl fun a hE => WL.nil ?_
   refine W.cond hE rfl (fun hc107 => ?_) (fun hc107 => ?_)
   ·replace hq64 := iteT hc107 hq64
    refine W.seq (W.region (vp hS hE rfl rfl fun a hE => ?_))
    refine vP hS hE (Gives.build hE (vs := [(0, .slice a101 q99.1.length c102)]) [.slice a101 q99.1.length c102] rfl (by kernel_rfl)) rfl fun a hE => ?_
    refine WL.storeI hE hS 7 rfl [.slice a101 q99.1.length c102] (runs_plain rfl) rfl rfl rfl ty29 rfl rfl rfl rfl ?_; clear hE hS a w; intro a w hE hS
    refine WL.nil ?_
    refine W.ret ?_
    subst hK84
    replace hS := hS.dropAt 6
    replace hS := hS.front 2 rfl
    replace hS := hS.front 2 rfl
    replace hS := hS.front 6 rfl
    replace hS := hS.front 6 rfl
    replace hS := hS.front 5 rfl
    replace hS := hS.front 6 rfl
    subst hT83
    exact ⟨s105, _, ⟨q99.1, q99.2, a101, c102, Option.some.inj hq64, (Sg.Le.trans (Sg.Le.trans (Sg.Le.trans hle76 hle91) hle97) hle106), h103, rfl⟩, hS⟩
   replace hq64 := iteF hc107 hq64
   refine W.skip ?_
   replace hS := hS.dropAt 6
   replace hS := hS.front 2 rfl
   replace hS := hS.front 2 rfl
   replace hS := hS.front 6 rfl
   replace hS := hS.front 6 rfl
   replace hS := hS.front 5 rfl
   replace hS := hS.front 6 rfl
   subst hK84
   subst hT83
   exact ⟨s105, _, ⟨rest67, q77, q99.2, a78, c79, hl69.trans (by simp), hq64, (Sg.Le.trans (Sg.Le.trans (Sg.Le.trans hle76 hle91) hle97) hle106), h80, rfl⟩, hS⟩
  ·intro s75 Q_ D71 a w hI_ hE hS
   obtain ⟨rest67, q77, q81, a78, c79, hl69, hq64, hle76, h80, rfl⟩ := hI_
   obtain rfl := pre_end hl69
   rw [GuideNetleastOf.loop1] at hq64
   exact ⟨q77, q81, _, _, D71, s75, hle76, Option.some.inj hq64, h80, hE.pick _ ⟨rfl, rfl, trivial⟩, hS⟩
  intro c_ s75 Q_ D71 a w hc_ hX_ hE hS
  obtain rfl : c_ = .ret := hc_.elim id (fun h => (by obtain ⟨_, h, _⟩ := h; cases h))
  obtain ⟨q77, q81, a78, c79, rfl, hle76, h80, rfl⟩ := hX_
  dsimp only at hr
  replace h0_0 := Sl.mono RApiTrain.mono hle76 h0_0
  replace h0_1 := Sl.mono (RL.mono RI.mono) hle76 h0_1
  replace h61 := Iter.mono hle76 h61
  refine W.ret ?_
  refine finGM (fn := Tryz.f133) (rs := [.cell 8 29]) (vs := [.agg #[.slice a78 q77.length c79]]) hE hS 0 rfl rfl ?_
  clear hS; intro w hS
  refine ⟨⟨⟨_, rfl, .inl ⟨_, rfl, hS.seesAt 3 rfl, ty29⟩⟩, trivial⟩, ?_⟩
  obtain rfl := Option.some.inj hr
  replace hS := hS.tail
  replace hS := hS.tail
  replace hS := hS.tail
  replace hS := hS.tail
  replace hS := hS.tail
  replace hS := hS.tail
  replace hS := hS.tail
  exact ⟨_, s75, rfl, (Sg.Le.trans hle63 hle76), ⟨_, _, rfl, h80⟩, hS⟩
 clear hE hS a w; rintro a w ⟨q77, q81, a78, c79, D71, s75, hle76, rfl, h80, hE, hS⟩
 dsimp only at hr
 replace h0_0 := Sl.mono RApiTrain.mono hle76 h0_0
 replace h0_1 := Sl.mono (RL.mono RI.mono) hle76 h0_1
 replace h61 := Iter.mono hle76 h61
 refine W.seq (W.region (vP hS hE (Gives.build hE (vs := []) [.slice none 0 0] rfl (by kernel_rfl)) rfl fun a hE => ?_))
 refine WL.storeI hE hS 4 rfl [.slice none 0 0] (runs_plain rfl) rfl rfl rfl ty29 rfl rfl rfl rfl ?_; clear hE hS a w; intro a w hE hS
 refine WL.nil ?_
 refine W.ret ?_
 refine finGM (fn := Tryz.f133) (rs := [.cell 8 29]) (vs := [.agg #[.slice none 0 0]]) hE hS 0 rfl rfl ?_
 clear hS; intro w hS
 refine ⟨⟨⟨_, rfl, .inl ⟨_, rfl, hS.seesAt 3 rfl, ty29⟩⟩, trivial⟩, ?_⟩
 obtain rfl := Option.some.inj hr
 replace hS := hS.tail
 replace hS := hS.tail
 replace hS := hS.tail
 replace hS := hS.tail
 replace hS := hS.tail
 replace hS := hS.tail
 replace hS := hS.tail
 exact ⟨_, s75, rfl, (Sg.Le.trans hle63 hle76), ⟨_, _, rfl, Sl.nil⟩, hS⟩
set_option maxHeartbeats 8000000 in
theorem GuideNetearliest_ok {fu : Nat}  {w : World} {s : Sg} {R : List HP} {x0 : GuideNet} {a0_0 : Option Addr} {c0_0 : Nat} {a0_1 : Option Addr} {c0_1 : Nat} {x1 : Int} {x2 : Int} {x3 : Int} (hS : St w s (R)) (h0_0 : Sl 4 RApiTrain s a0_0 c0_0 x0.Day.Trains) (h0_1 : Sl 1 (RL 1 (RI .i64)) s a0_1 c0_1 x0.Day.Turns) {r : GuideJourney × Bool} (hr : GuideNetearliest fu x0 x1 x2 x3 = some r) :
  Calls Tryz.prog 81 [.agg (List.toArray [.slice a0_0 x0.Day.Trains.length c0_0, .slice a0_1 x0.Day.Turns.length c0_1, vi x0.least]), vi x1, vi x2, vi x3].toArray w (fun e w => ∃ (cs0 : List Value) (t : Sg), e = .returned (.tuple #[.agg cs0.toArray, .bool r.2]) ∧ s.Le t ∧ RGuideJourney t cs0 r.1 ∧ St w t (R)) := by
 refine enter Tryz.func81 rfl rfl rfl fun a hE => ?_
 rw [GuideNetearliest] at hr
 refine W.seq (W.region ?_)
 refine WL.box hE hS (runs_plain rfl) rfl rfl rfl ?_; clear hE hS a w; intro b51 a w hE hS
 refine WL.box hE hS (runs_plain rfl) rfl rfl rfl ?_; clear hE hS a w; intro b52 a w hE hS
 refine WL.alloc hE hS (runs_plain rfl) zr29 rfl ?_; clear hE hS a w; intro b53 a w hE hS
 refine vp hS hE rfl rfl fun a hE => WL.nil ?_
 refine W.seq (W.region (vP hS hE (Gives.loadBA hE 2 rfl rfl ty91) rfl fun a hE => ?_))
 refine v2 hS hE rfl rfl rfl rfl fun a hE => ?_
 obtain ⟨q54, hq55, hr⟩ := bindS hr
 have hc_ := GuideNetpoints_ok hS h0_0 h0_1 hq55
 refine WL.fnq hE (hc_) (runs_plain rfl) bd129 rfl rfl rfl ?_
 clear hE hS hc_; rintro e w ⟨a56, c57, n58, cs59, s62, rfl, hle63, h60, rfl, hS⟩; refine ⟨_, rfl, ?_⟩; clear a; intro a hE
 replace h0_0 := Sl.mono RApiTrain.mono hle63 h0_0
 replace h0_1 := Sl.mono (RL.mono RI.mono) hle63 h0_1
 refine vP hS hE (Gives.mkfn hE (vs := [pp b52]) rfl) rfl fun a hE => ?_
 obtain ⟨q64, hq65, hr⟩ := bindS hr
 replace hS := hS.front 0 rfl
 replace hS := hS.front 2 rfl
 have hc_ := SlicesDeleteFuncLguidePoint_v1_ok hS h60 rfl hq65
 refine WL.fnq hE (hc_) (runs_plain rfl) bd128 rfl rfl rfl ?_
 clear hE hS hc_; rintro e w ⟨a66, c67, n68, cs69, rfl, h70, rfl, hS⟩; refine ⟨_, rfl, ?_⟩; clear a; intro a hE
 refine vp hS hE rfl rfl fun a hE => WL.nil ?_
 refine W.seq ?_
 refine W.seq (W.region (vp hS hE rfl rfl fun a hE => ?_))
 refine vP hS hE (Gives.len hE rfl sl213) rfl fun a hE => ?_
 refine vp hS hE rfl rfl fun a hE => WL.nil ?_
 refine W.cond hE rfl (fun hc72 => ?_) (fun hc72 => ?_)
 ·replace hr := iteT hc72 hr
  refine W.seq (W.region (vP hS hE (Gives.build hE (vs := []) [.slice none 0 0] rfl (by kernel_rfl)) rfl fun a hE => ?_))
  refine WL.storeI hE hS 2 rfl [.slice none 0 0] (runs_plain rfl) rfl rfl rfl ty29 rfl rfl rfl rfl ?_; clear hE hS a w; intro a w hE hS
  refine vp hS hE rfl rfl fun a hE => WL.nil ?_
  refine W.ret ?_
  refine finG (fn := Tryz.f81) (rs := [.cell 8 29, .tmp 9]) (vs := [_, _]) hE rfl ⟨⟨_, rfl, .inl ⟨_, rfl, hS.seesAt 2 rfl, ty29⟩⟩, rfl, trivial⟩ ?_
  obtain rfl := Option.some.inj hr
  replace hS := hS.tail
  replace hS := hS.tail
  replace hS := hS.tail
  replace hS := hS.tail
  exact ⟨_, s62, rfl, hle63, ⟨_, _, rfl, Sl.nil⟩, hS⟩
 replace hr := iteF hc72 hr
 refine W.skip ?_
 refine W.seq (W.region (vp hS hE rfl rfl fun a hE => ?_))
 have hF := hS.fixD RGuidePoint.mono 0 rfl h70 rfl; clear hS; obtain ⟨s73, hle74, hS, h75⟩ := hF
 replace h0_0 := Sl.mono RApiTrain.mono hle74 h0_0
 replace h0_1 := Sl.mono (RL.mono RI.mono) hle74 h0_1
 obtain ⟨q76, hq77, hr⟩ := bindS hr
 have hc_ := SlicesMinFuncLguidePoint_v1_ok hS h75 hq77
 refine WL.fnq hE (hc_) (runs_plain rfl) bd131 rfl rfl rfl ?_
 clear hE hS hc_; rintro e w ⟨cs78, s80, rfl, hle81, h79, hS⟩; refine ⟨_, rfl, ?_⟩; clear a; intro a hE
 replace h0_0 := Sl.mono RApiTrain.mono hle81 h0_0
 replace h0_1 := Sl.mono (RL.mono RI.mono) hle81 h0_1
 replace h75 := Sl.mono RGuidePoint.mono hle81 h75
 subst h79
 refine WL.alloc hE hS (runs_plain rfl) zr216 rfl ?_; clear hE hS a w; intro b82 a w hE hS
 refine WL.storeI hE hS 0 rfl (GuidePoint.cells q76) (runs_plain rfl) rfl rfl rfl ty216 rfl rfl rfl rfl ?_; clear hE hS a w; intro a w hE hS
 refine WL.nil ?_
 refine W.seq (W.region (vP hS hE (Gives.loadBA hE 3 rfl rfl ty91) rfl fun a hE => ?_))
 refine v2 hS hE rfl rfl rfl rfl fun a hE => ?_
 refine vP hS hE (Gives.loadBA hE 0 rfl rfl ty216) rfl fun a hE => ?_
 obtain ⟨q83, hq84, hr⟩ := bindS hr
 have hc_ := GuideNetleastOf_ok hS h0_0 h0_1 hq84
 refine WL.fnq hE (hc_) (runs_plain rfl) bd133 rfl rfl rfl ?_
 clear hE hS hc_; rintro e w ⟨cs85, s87, rfl, hle88, h86, hS⟩; refine ⟨_, rfl, ?_⟩; clear a; intro a hE
 replace h0_0 := Sl.mono RApiTrain.mono hle88 h0_0
 replace h0_1 := Sl.mono (RL.mono RI.mono) hle88 h0_1
 replace h75 := Sl.mono RGuidePoint.mono hle88 h75
 obtain ⟨a89, c90, rfl, h91⟩ := h86
 refine WL.storeI hE hS 2 rfl [.slice a89 q83.Rides.length c90] (runs_plain rfl) rfl rfl rfl ty29 rfl rfl rfl rfl ?_; clear hE hS a w; intro a w hE hS
 refine vp hS hE rfl rfl fun a hE => WL.nil ?_
 refine W.ret ?_
 refine finG (fn := Tryz.f81) (rs := [.cell 8 29, .tmp 9]) (vs := [_, _]) hE rfl ⟨⟨_, rfl, .inl ⟨_, rfl, hS.seesAt 2 rfl, ty29⟩⟩, rfl, trivial⟩ ?_
 obtain rfl := Option.some.inj hr
 replace hS := hS.tail
 replace hS := hS.tail
 replace hS := hS.tail
 replace hS := hS.tail
 exact ⟨_, s87, rfl, (Sg.Le.trans (Sg.Le.trans (Sg.Le.trans hle63 hle74) hle81) hle88), ⟨_, _, rfl, h91⟩, hS⟩
set_option maxHeartbeats 8000000 in
theorem GuideEarliest_ok {fu : Nat}  {w : World} {s : Sg} {R : List HP} {x0 : ApiDay} {a0_0 : Option Addr} {c0_0 : Nat} {a0_1 : Option Addr} {c0_1 : Nat} {x1 : Int} {x2 : Int} {x3 : Int} {x4 : Int} (hS : St w s (R)) (hTab : TabS Tryz.prog s) (h0_0 : Sl 4 RApiTrain s a0_0 c0_0 x0.Trains) (h0_1 : Sl 1 (RL 1 (RI .i64)) s a0_1 c0_1 x0.Turns) {r : GuideJourney × Int} (hr : GuideEarliest fu x0 x1 x2 x3 x4 = some r) :
  Calls Tryz.prog 52 [.agg (List.toArray [.slice a0_0 x0.Trains.length c0_0, .slice a0_1 x0.Turns.length c0_1]), vi x1, vi x2, vi x3, vi x4].toArray w (fun e w => ∃ (cs0 : List Value) (t : Sg), e = .returned (.tuple #[.agg cs0.toArray, vi r.2]) ∧ s.Le t ∧ RGuideJourney t cs0 r.1 ∧ St w t (R)) := by
 refine enter Tryz.func52 rfl rfl rfl fun a hE => ?_
 rw [GuideEarliest] at hr
 refine W.seq (W.region ?_)
 refine WL.box hE hS (runs_plain rfl) rfl rfl rfl ?_; clear hE hS a w; intro b51 a w hE hS
 refine WL.alloc hE hS (runs_plain rfl) zr29 rfl ?_; clear hE hS a w; intro b52 a w hE hS
 refine vp hS hE rfl rfl fun a hE => WL.nil ?_
 refine W.seq ?_
 refine W.seq (W.region (vP hS hE (Gives.loadBA hE 1 rfl rfl ty25) rfl fun a hE => ?_))
 refine v2 hS hE rfl rfl rfl rfl fun a hE => ?_
 refine v2 hS hE rfl rfl rfl rfl fun a hE => ?_
 refine WL.lit hE hS (e := 3) (es := 1) (vs := [(0, vi x2)]) (cs := [vi x2]) (runs_plain rfl) rfl (by kernel_rfl) rfl ?_; clear hE hS a w; intro b53 a w hE hS
 replace hS := hS.ptVec (es := 1) (m := 1) rfl (by decide)
 have h55 : Ev 1 (RI .i64) s [vi x2] [x2] := (Ev.cons (c1 := [vi x2]) rfl rfl (Ev.nil))
 have hF := hS.fixD RI.mono 0 rfl h55 (rfl); clear hS; obtain ⟨s56, hle57, hS, h58⟩ := hF
 replace h0_0 := Sl.mono RApiTrain.mono hle57 h0_0
 replace h0_1 := Sl.mono (RL.mono RI.mono) hle57 h0_1
 obtain ⟨q59, hq60, hr⟩ := bindS hr
 have hc_ := Guidecheck_ok hS (TabS.mono hle57 hTab) h0_0 h0_1 h58 hq60
 refine WL.fnq hE (hc_) (runs_plain rfl) bd38 rfl rfl rfl ?_
 clear hE hS hc_; rintro e w ⟨rfl, hS⟩; refine ⟨_, rfl, ?_⟩; clear a; intro a hE
 refine vp hS hE rfl rfl fun a hE => WL.nil ?_
 refine W.seq (W.region (v2 hS hE rfl rfl rfl rfl fun a hE => WL.nil ?_))
 refine W.cond hE rfl (fun hc61 => ?_) (fun hc61 => ?_)
 ·replace hr := iteT hc61 hr
  refine W.seq (W.region (vP hS hE (Gives.build hE (vs := []) [.slice none 0 0] rfl (by kernel_rfl)) rfl fun a hE => ?_))
  refine vp hS hE rfl rfl fun a hE => ?_
  refine WL.storeI hE hS 0 rfl [.slice none 0 0] (runs_plain rfl) rfl rfl rfl ty29 rfl rfl rfl rfl ?_; clear hE hS a w; intro a w hE hS
  refine vp hS hE rfl rfl fun a hE => WL.nil ?_
  refine W.ret ?_
  refine finG (fn := Tryz.f52) (rs := [.cell 10 29, .tmp 11]) (vs := [_, _]) hE rfl ⟨⟨_, rfl, .inl ⟨_, rfl, hS.seesAt 0 rfl, ty29⟩⟩, rfl, trivial⟩ ?_
  obtain rfl := Option.some.inj hr
  replace hS := hS.tail
  replace hS := hS.tail
  exact ⟨_, s56, rfl, hle57, ⟨_, _, rfl, Sl.nil⟩, hS⟩
 replace hr := iteF hc61 hr
 refine W.skip ?_
 refine W.seq (W.region (vP hS hE (Gives.loadBA hE 1 rfl rfl ty25) rfl fun a hE => ?_))
 refine vp hS hE rfl rfl fun a hE => ?_
 refine vP hS hE (Gives.build hE (vs := [(0, .agg (List.toArray [.slice a0_0 x0.Trains.length c0_0, .slice a0_1 x0.Turns.length c0_1])), (1, vi x4)]) [.slice a0_0 x0.Trains.length c0_0, .slice a0_1 x0.Turns.length c0_1, vi x4] rfl (by kernel_rfl)) rfl fun a hE => ?_
 refine v2 hS hE rfl rfl rfl rfl fun a hE => ?_
 refine vp hS hE rfl rfl fun a hE => ?_
 obtain ⟨q62, hq63, hr⟩ := bindS hr
 have hc_ := GuideNetearliest_ok hS h0_0 h0_1 hq63
 refine WL.fnq hE (hc_) (runs_plain rfl) bd81 rfl rfl rfl ?_
 clear hE hS hc_; rintro e w ⟨cs64, s66, rfl, hle67, h65, hS⟩; refine ⟨_, rfl, ?_⟩; clear a; intro a hE
 replace h0_0 := Sl.mono RApiTrain.mono hle67 h0_0
 replace h0_1 := Sl.mono (RL.mono RI.mono) hle67 h0_1
 replace h58 := Sl.mono RI.mono hle67 h58
 obtain ⟨a68, c69, rfl, h70⟩ := h65
 refine v2 hS hE rfl rfl rfl rfl fun a hE => ?_
 refine vp hS hE rfl rfl fun a hE => ?_
 refine WL.alloc hE hS (runs_plain rfl) zr29 rfl ?_; clear hE hS a w; intro b71 a w hE hS
 refine WL.storeI hE hS 0 rfl [.slice a68 q62.1.Rides.length c69] (runs_plain rfl) rfl rfl rfl ty29 rfl rfl rfl rfl ?_; clear hE hS a w; intro a w hE hS
 refine vp hS hE rfl rfl fun a hE => WL.nil ?_
 refine W.seq ?_
 refine W.seq (W.region (v2 hS hE rfl rfl rfl rfl fun a hE => WL.nil ?_))
 refine W.cond hE rfl (fun hc72 => ?_) (fun hc72 => ?_)
 ·replace hr := iteT hc72 hr
  refine W.seq (W.region (vP hS hE (Gives.build hE (vs := []) [.slice none 0 0] rfl (by kernel_rfl)) rfl fun a hE => ?_))
  refine WL.storeI hE hS 1 rfl [.slice none 0 0] (runs_plain rfl) rfl rfl rfl ty29 rfl rfl rfl rfl ?_; clear hE hS a w; intro a w hE hS
  refine vp hS hE rfl rfl fun a hE => WL.nil ?_
  refine W.ret ?_
  refine finG (fn := Tryz.f52) (rs := [.cell 10 29, .tmp 11]) (vs := [_, _]) hE rfl ⟨⟨_, rfl, .inl ⟨_, rfl, hS.seesAt 1 rfl, ty29⟩⟩, rfl, trivial⟩ ?_
  obtain rfl := Option.some.inj hr
  replace hS := hS.tail
  replace hS := hS.tail
  replace hS := hS.tail
  exact ⟨_, s66, rfl, (Sg.Le.trans hle57 hle67), ⟨_, _, rfl, Sl.nil⟩, hS⟩
 replace hr := iteF hc72 hr
 refine W.skip ?_
 refine W.seq (W.region (vP hS hE (Gives.loadBA hE 0 rfl rfl ty29) rfl fun a hE => ?_))
 refine WL.storeI hE hS 1 rfl [.slice a68 q62.1.Rides.length c69] (runs_plain rfl) rfl rfl rfl ty29 rfl rfl rfl rfl ?_; clear hE hS a w; intro a w hE hS
 refine vp hS hE rfl rfl fun a hE => WL.nil ?_
 refine W.ret ?_
 refine finG (fn := Tryz.f52) (rs := [.cell 10 29, .tmp 11]) (vs := [_, _]) hE rfl ⟨⟨_, rfl, .inl ⟨_, rfl, hS.seesAt 1 rfl, ty29⟩⟩, rfl, trivial⟩ ?_
 obtain rfl := Option.some.inj hr
 replace hS := hS.tail
 replace hS := hS.tail
 replace hS := hS.tail
 exact ⟨_, s66, rfl, (Sg.Le.trans hle57 hle67), ⟨_, _, rfl, h70⟩, hS⟩
set_option maxHeartbeats 8000000 in
theorem SlicesEqualLguideRide_ok  {w : World} {s : Sg} {R : List HP} {x0 : List GuideRide} {a0 : Option Addr} {c0 : Nat} {x1 : List GuideRide} {a1 : Option Addr} {c1 : Nat} (hS : St w s (R)) (h0 : Sl 3 RGuideRide s a0 c0 x0) (h1 : Sl 3 RGuideRide s a1 c1 x1) {r : Bool} (hr : SlicesEqualLguideRide x0 x1 = some r) :
  Calls Tryz.prog 54 [.slice a0 x0.length c0, .slice a1 x1.length c1].toArray w (fun e w => e = .returned (.bool r) ∧ St w s (R)) := by
 refine enter Tryz.func54 rfl rfl rfl fun a hE => ?_
 rw [SlicesEqualLguideRide] at hr
 refine W.seq (W.region (vp hS hE rfl rfl fun a hE => WL.nil ?_))
 refine W.seq ?_
 refine W.seq (W.region (vp hS hE rfl rfl fun a hE => ?_))
 refine vP hS hE (Gives.len hE rfl sl27) rfl fun a hE => ?_
 refine vp hS hE rfl rfl fun a hE => ?_
 refine vP hS hE (Gives.len hE rfl sl27) rfl fun a hE => ?_
 refine vp hS hE rfl rfl fun a hE => WL.nil ?_
 refine W.cond hE rfl (fun hc51 => ?_) (fun hc51 => ?_)
 ·replace hr := iteT hc51 hr
  refine W.seq (W.region (vp hS hE rfl rfl fun a hE => WL.nil ?_))
  refine W.ret ?_
  refine finG (fn := Tryz.f54) (rs := [.tmp 4]) (vs := [_]) hE rfl ⟨rfl, trivial⟩ ?_
  obtain rfl := Option.some.inj hr
  exact ⟨rfl, hS⟩
 replace hr := iteF hc51 hr
 refine W.skip ?_
 refine W.seq ?_
 refine W.seq (W.region (vp hS hE rfl rfl fun a hE => ?_))
 refine vP hS hE (Gives.len hE rfl sl27) rfl fun a hE => ?_
 refine vp hS hE rfl rfl fun a hE => WL.nil ?_
 obtain ⟨q53, hq52, hr⟩ := bindS hr
 refine W.cut (fun a w => (.next ()) = q53 ∧ Rep a 26 [] ∧ St w s (R)) ?_ ?_
 ·refine W.block ?_
  refine W.loop (fun m a w => ∃ (rest56 : List GuideRide) (k54 : Nat), rest56.length = m ∧ x0.drop k54 = rest56 ∧ SlicesEqualLguideRide.loop1 x1 rest56 k54 = some q53 ∧ Rep a 26 [(0, .slice a0 x0.length c0), (1, .slice a1 x1.length c1), (12, vi ((x0).length : Int)), (13, vi ((k54 : Nat) : Int))] ∧ St w s (R)) (m := x0.length) ⟨x0, 0, rfl, rfl, hq52, hE.pick _ ⟨rfl, rfl, rfl, rfl, trivial⟩, hS⟩ ?_
  clear hE hS a w hq52; rintro m60 a w ⟨rest56, k54, rfl, hd57, hq52, hE, hS⟩
  refine W.gen fun K63 hK63 => ?_
  rcases rest56 with _ | ⟨x55, rest56⟩
  ·have hlt58 := drop_nil hd57
   refine W.seq (W.region (vp hS hE rfl rfl fun a hE => WL.nil ?_))
   refine W.seq ?_
   refine W.condF hE rfl (decide_eq_false (by omega)) ?_
   subst hK63
   refine W.exit rfl ?_
   exact ⟨Option.some.inj hq52, hE.pick _ trivial, hS⟩
  obtain ⟨hlt58, hx59, hd57⟩ := drop_cons hd57
  rw [SlicesEqualLguideRide.loop1] at hq52
  refine W.seq (W.region (vp hS hE rfl rfl fun a hE => WL.nil ?_))
  refine W.seq ?_
  refine W.condT hE rfl (decide_eq_true (by omega)) ?_
  refine W.skip ?_
  refine W.seq ?_
  refine W.block ?_
  refine W.seq (W.region (v2 hS hE rfl rfl rfl rfl fun a hE => WL.nil ?_))
  refine W.seq ?_
  refine W.regionQ (C := fun w => St w s (R)) mixed (by kernel_rfl) hS.drew ?_
  refine qP hE (Gives.p hE rfl) rfl fun a hE => ?_
  refine qP hE (Gives.p hE rfl) rfl fun a hE => ?_
  obtain ⟨cs64, hl65, hR66, hat67⟩ := h0.at hx59
  subst hR66
  refine qP hE (Gives.idx hE k54 rfl rfl sl27 rfl hlt58 (h0.aok hlt58)) rfl fun a hE => ?_
  refine qP hE (Gives.loadA hE rfl (fun w h => hat67 w _ h) ty95) rfl fun a hE => ?_
  refine qP hE (Gives.p hE rfl) rfl fun a hE => ?_
  refine qP hE (Gives.p hE rfl) rfl fun a hE => ?_
  obtain ⟨x68, hx69, hq52⟩ := bindS hq52
  obtain ⟨hi70, hlt71, hy72⟩ := gx_some hx69
  obtain ⟨cs73, hl74, hR75, hat76⟩ := h1.at hy72
  subst hR75
  refine qP hE (Gives.idx hE (((k54 : Nat) : Int)).toNat rfl rfl sl27 hi70 hlt71 (h1.aok hlt71)) rfl fun a hE => ?_
  refine qP hE (Gives.loadA hE rfl (fun w h => hat76 w _ h) ty95) rfl fun a hE => ?_
  refine qP hE (show Gives _ _ _ _ (Value.bool (!((x55.Train == x68.Train) && ((x55.On == x68.On) && (x55.Off == x68.Off))))) from Gives.neS hE [.i .i64, .i .i64, .i .i64] [.i .i64 x55.Train, .i .i64 x55.On, .i .i64 x55.Off] [.i .i64 x68.Train, .i .i64 x68.On, .i .i64 x68.Off] rfl rfl se95 rfl rfl rfl rfl) rfl fun a hE => ?_
  refine QL.nil ?_; clear hS w; intro w hS
  refine W.cond hE rfl (fun hc77 => ?_) (fun hc77 => ?_)
  ·replace hq52 := iteT hc77 hq52
   refine W.seq (W.region (vp hS hE rfl rfl fun a hE => WL.nil ?_))
   refine W.ret ?_
   subst hK63
   rw [← Option.some.inj hq52] at hr
   dsimp only at hr
   refine finG (fn := Tryz.f54) (rs := [.tmp 4]) (vs := [_]) hE rfl ⟨rfl, trivial⟩ ?_
   obtain rfl := Option.some.inj hr
   exact ⟨rfl, hS⟩
  replace hq52 := iteF hc77 hq52
  refine W.skip ?_
  refine W.region ?_
  refine vP hS hE (Gives.inc hE rfl (by have := h0.small; omega)) rfl fun a hE => ?_
  refine vp hS hE rfl rfl fun a hE => WL.nil ?_
  subst hK63
  exact ⟨rest56.length, Nat.lt_succ_self _, rest56, k54 + 1, rfl, hd57, hq52, hE.pick _ ⟨rfl, rfl, rfl, rfl, trivial⟩, hS⟩
 clear hE hS a w; rintro a w ⟨rfl, hE, hS⟩
 dsimp only at hr
 refine W.seq (W.region (vp hS hE rfl rfl fun a hE => WL.nil ?_))
 refine W.ret ?_
 refine finG (fn := Tryz.f54) (rs := [.tmp 4]) (vs := [_]) hE rfl ⟨rfl, trivial⟩ ?_
 obtain rfl := Option.some.inj hr
 exact ⟨rfl, hS⟩
set_option maxHeartbeats 8000000 in
theorem Fishlaw2guides_ok {fu : Nat}  {w : World} {s : Sg} {R : List HP}  (hS : St w s (R)) (hTab : TabS Tryz.prog s) {r : Bool} (hr : Fishlaw2guides fu = some r) :
  Calls Tryz.prog 11 [].toArray w (fun e w => e = .returned (.bool r) ∧ St w s (R)) := by
 refine enter Tryz.func11 rfl rfl rfl fun a hE => ?_
 rw [Fishlaw2guides] at hr
 refine W.seq (W.region (vp hS hE rfl rfl fun a hE => WL.nil ?_))
 refine W.seq (W.region ?_)
 obtain ⟨q51, hq52, hr⟩ := bndS hr
 have hc_ := Fishlaw2small_ok hS  hq52
 refine WL.fnq hE (hc_) (runs_plain rfl) bd53 rfl rfl rfl ?_
 clear hE hS hc_; rintro e w ⟨cs53, s55, rfl, hle56, h54, hS⟩; refine ⟨_, rfl, ?_⟩; clear a; intro a hE
 obtain ⟨a57, c58, a60, c61, rfl, h59, h62⟩ := h54
 obtain ⟨q63, hq64, hr⟩ := bindS hr
 have hc_ := GuideEarliest_ok hS (TabS.mono hle56 hTab) h59 h62 hq64
 refine WL.fnq hE (hc_) (runs_plain rfl) bd52 rfl rfl rfl ?_
 clear hE hS hc_; rintro e w ⟨cs65, s67, rfl, hle68, h66, hS⟩; refine ⟨_, rfl, ?_⟩; clear a; intro a hE
 replace h59 := Sl.mono RApiTrain.mono hle68 h59
 replace h62 := Sl.mono (RL.mono RI.mono) hle68 h62
 obtain ⟨a69, c70, rfl, h71⟩ := h66
 refine v2 hS hE rfl rfl rfl rfl fun a hE => ?_
 refine vp hS hE rfl rfl fun a hE => ?_
 refine WL.alloc hE hS (runs_plain rfl) zr29 rfl ?_; clear hE hS a w; intro b72 a w hE hS
 refine WL.storeI hE hS 0 rfl [.slice a69 q63.1.Rides.length c70] (runs_plain rfl) rfl rfl rfl ty29 rfl rfl rfl rfl ?_; clear hE hS a w; intro a w hE hS
 refine vp hS hE rfl rfl fun a hE => WL.nil ?_
 refine W.seq ?_
 obtain ⟨q74, hq73, hr⟩ := bindS hr
 refine W.cut (fun a w => ∃ (q77 : Bool), ∃ (s75 : Sg), s67.Le s75 ∧ q77 = q74 ∧ Rep a 18 [(0, .bool q77)] ∧ St w s75 (pc b72 #[.slice a69 q63.1.Rides.length c70] 29 :: R)) ?_ ?_
 ·refine W.gen fun K78 hK78 => ?_
  refine W.region ?_
  refine v2 hS hE rfl rfl rfl rfl fun a hE => ?_
  refine vp hS hE rfl rfl fun a hE => ?_
  rcases Bool.eq_false_or_eq_true (q63.2 == 0) with hg79 | hg79
  ·replace hq73 := iteT hg79 hq73
   refine WL.vS hS hE (runs_if hE rfl rfl rfl hg79) (Gives.fld hE rfl fl29_0) rfl fun a hE => ?_
   refine WL.vS hS hE (runs_if hE rfl rfl rfl hg79) (Gives.loadB hE 0 rfl rfl rfl ty27) rfl fun a hE => ?_
   refine WL.vS hS hE (runs_if hE rfl rfl rfl hg79) (Gives.build hE (vs := [(0, vi 0), (1, vi 0), (2, vi 1)]) [vi 0, vi 0, vi 1] rfl (by kernel_rfl)) rfl fun a hE => ?_
   refine WL.vS hS hE (runs_if hE rfl rfl rfl hg79) (Gives.build hE (vs := [(0, vi 1), (1, vi 0), (2, vi 1)]) [vi 1, vi 0, vi 1] rfl (by kernel_rfl)) rfl fun a hE => ?_
   refine WL.lit hE hS (e := 95) (es := 3) (vs := [(0, .agg (List.toArray [vi 0, vi 0, vi 1])), (1, .agg (List.toArray [vi 1, vi 0, vi 1]))]) (cs := [vi 0, vi 0, vi 1, vi 1, vi 0, vi 1]) (runs_if hE rfl rfl rfl hg79) rfl (by kernel_rfl) rfl ?_; clear hE hS a w; intro b80 a w hE hS
   replace hS := hS.ptVec (es := 3) (m := 2) rfl (by decide)
   have h82 : Ev 3 RGuideRide s67 [vi 0, vi 0, vi 1, vi 1, vi 0, vi 1] [(GuideRide.mk 0 0 1), (GuideRide.mk 1 0 1)] := (Ev.cons (c1 := [vi 0, vi 0, vi 1]) rfl rfl (Ev.cons (c1 := [vi 1, vi 0, vi 1]) rfl rfl (Ev.nil)))
   have hF := hS.fixD RGuideRide.mono 0 rfl h82 (rfl); clear hS; obtain ⟨s83, hle84, hS, h85⟩ := hF
   replace h59 := Sl.mono RApiTrain.mono hle84 h59
   replace h62 := Sl.mono (RL.mono RI.mono) hle84 h62
   replace h71 := Sl.mono RGuideRide.mono hle84 h71
   obtain ⟨q86, hq87, hq73⟩ := bindS hq73
   have hc_ := SlicesEqualLguideRide_ok hS h71 h85 hq87
   refine WL.fnq hE (hc_) (runs_if hE rfl rfl rfl hg79) bd54 rfl rfl rfl ?_
   clear hE hS hc_; rintro e w ⟨rfl, hS⟩; refine ⟨_, rfl, ?_⟩; clear a; intro a hE
   refine vP hS hE (Gives.pickT hE rfl hg79 rfl) rfl fun a hE => ?_
   refine vp hS hE rfl rfl fun a hE => WL.nil ?_
   subst hK78
   exact ⟨q86, s83, hle84, Option.some.inj hq73, hE.pick _ ⟨rfl, trivial⟩, hS⟩
  replace hq73 := iteF hg79 hq73
  refine nO hE rfl rfl rfl (by rw [hg79]; decide) rfl fun a hE => ?_
  refine nO hE rfl rfl rfl (by rw [hg79]; decide) rfl fun a hE => ?_
  refine nO hE rfl rfl rfl (by rw [hg79]; decide) rfl fun a hE => ?_
  refine nO hE rfl rfl rfl (by rw [hg79]; decide) rfl fun a hE => ?_
  refine nO hE rfl rfl rfl (by rw [hg79]; decide) rfl fun a hE => ?_
  refine nO hE rfl rfl rfl (by rw [hg79]; decide) rfl fun a hE => ?_
  refine vP hS hE (Gives.pickF hE rfl hg79 rfl) rfl fun a hE => ?_
  refine vp hS hE rfl rfl fun a hE => WL.nil ?_
  subst hK78
  exact ⟨false, s67, (Sg.Le.refl _), Option.some.inj hq73, hE.pick _ ⟨rfl, trivial⟩, hS⟩
 clear hE hS a w; rintro a w ⟨q77, s75, hle76, rfl, hE, hS⟩
 replace h71 := Sl.mono RGuideRide.mono hle76 h71
 refine W.ret ?_
 refine finG (fn := Tryz.f11) (rs := [.tmp 0]) (vs := [_]) hE rfl ⟨rfl, trivial⟩ ?_
 obtain rfl := Option.some.inj hr
 replace hS := hS.tail
 exact ⟨rfl, (hS.down (Sg.Le.trans (Sg.Le.trans hle56 hle68) hle76))⟩
set_option maxHeartbeats 8000000 in
theorem Fishref2within_ok  {w : World} {s : Sg} {R : List HP} {x0 : Int} {x1 : Int} {x2 : Int} (hS : St w s (R))  {r : Bool} (hr : Fishref2within x0 x1 x2 = r) :
  Calls Tryz.prog 51 [vi x0, vi x1, vi x2].toArray w (fun e w => e = .returned (.bool r) ∧ St w s (R)) := by
 refine enter Tryz.func51 rfl rfl rfl fun a hE => ?_
 rw [Fishref2within] at hr
 refine W.seq (W.region (vp hS hE rfl rfl fun a hE => WL.nil ?_))
 refine W.seq ?_
 obtain ⟨q52, hq51, hr⟩ := bndS hr
 refine W.cut (fun a w => ∃ (q55 : Bool), q55 = q52 ∧ Rep a 15 [(6, .bool q55)] ∧ St w s (R)) ?_ ?_
 ·refine W.gen fun K56 hK56 => ?_
  refine W.region ?_
  refine v2 hS hE rfl rfl rfl rfl fun a hE => ?_
  refine v2 hS hE rfl rfl rfl rfl fun a hE => ?_
  rcases Bool.eq_false_or_eq_true (decide (x0 ≥ x1)) with hg57 | hg57
  ·replace hq51 := iteT hg57 hq51
   refine WL.vS hS hE (runs_if hE rfl rfl rfl hg57) (Gives.p hE rfl) rfl fun a hE => ?_
   refine WL.vS hS hE (runs_if hE rfl rfl rfl hg57) (Gives.p hE rfl) rfl fun a hE => ?_
   refine WL.vS hS hE (runs_if hE rfl rfl rfl hg57) (Gives.p hE rfl) rfl fun a hE => ?_
   refine vP hS hE (Gives.pickT hE rfl hg57 rfl) rfl fun a hE => ?_
   refine vp hS hE rfl rfl fun a hE => WL.nil ?_
   subst hK56
   exact ⟨decide (x0 ≤ x2), hq51, hE.pick _ ⟨rfl, trivial⟩, hS⟩
  replace hq51 := iteF hg57 hq51
  refine nO hE rfl rfl rfl (by rw [hg57]; decide) rfl fun a hE => ?_
  refine nO hE rfl rfl rfl (by rw [hg57]; decide) rfl fun a hE => ?_
  refine nO hE rfl rfl rfl (by rw [hg57]; decide) rfl fun a hE => ?_
  refine vP hS hE (Gives.pickF hE rfl hg57 rfl) rfl fun a hE => ?_
  refine vp hS hE rfl rfl fun a hE => WL.nil ?_
  subst hK56
  exact ⟨false, hq51, hE.pick _ ⟨rfl, trivial⟩, hS⟩
 clear hE hS a w; rintro a w ⟨q55, rfl, hE, hS⟩
 refine W.ret ?_
 refine finG (fn := Tryz.f51) (rs := [.tmp 6]) (vs := [_]) hE rfl ⟨rfl, trivial⟩ ?_
 subst hr
 exact ⟨rfl, hS⟩
set_option maxHeartbeats 8000000 in
theorem Fishref2clock_1_ok  {w : World} {s : Sg} {R : List HP} {x0 : Int} (hS : St w s (R)) (hTab : TabS Tryz.prog s) {r : ByteArray} (hr : Fishref2clock_1 x0 = some r) :
  Calls Tryz.prog 123 [vi x0].toArray w (fun e w => e = .returned (.string r) ∧ St w s (R)) := by
 refine enter Tryz.func123 rfl rfl rfl fun a hE => ?_
 rw [Fishref2clock_1] at hr
 refine W.seq (W.region (vp hS hE rfl rfl fun a hE => WL.nil ?_))
 refine W.seq (W.region (v2 hS hE rfl rfl rfl rfl fun a hE => ?_))
 obtain ⟨q51, hq52, hr⟩ := bindS hr
 refine WL.fnq hE (itoa_ok hS (TabS.mono (Sg.Le.refl _) hTab) hq52) (runs_plain rfl) bd72 rfl rfl rfl ?_
 clear hE hS; rintro e w ⟨rfl, hS⟩; refine ⟨_, rfl, ?_⟩; clear a; intro a hE
 refine v2 hS hE rfl rfl rfl rfl fun a hE => ?_
 obtain ⟨q53, hq54, hr⟩ := bindS hr
 refine WL.fnq hE (itoa_ok hS (TabS.mono (Sg.Le.refl _) hTab) hq54) (runs_plain rfl) bd72 rfl rfl rfl ?_
 clear hE hS; rintro e w ⟨rfl, hS⟩; refine ⟨_, rfl, ?_⟩; clear a; intro a hE
 obtain ⟨x55, hx56, hr⟩ := bindS hr
 refine vP hS hE (Gives.catS hE rfl rfl hx56) rfl fun a hE => ?_
 refine vp hS hE rfl rfl fun a hE => WL.nil ?_
 refine W.ret ?_
 refine finG (fn := Tryz.f123) (rs := [.tmp 2]) (vs := [_]) hE rfl ⟨rfl, trivial⟩ ?_
 obtain rfl := Option.some.inj hr
 exact ⟨rfl, hS⟩
set_option maxHeartbeats 8000000 in
theorem Fishref2clock_ok  {w : World} {s : Sg} {R : List HP} {x0 : Int} (hS : St w s (R)) (hTab : TabS Tryz.prog s) {r : ByteArray} (hr : Fishref2clock x0 = some r) :
  Calls Tryz.prog 78 [vi x0].toArray w (fun e w => e = .returned (.string r) ∧ St w s (R)) := by
 refine enter Tryz.func78 rfl rfl rfl fun a hE => ?_
 rw [Fishref2clock] at hr
 refine W.seq (W.region (vp hS hE rfl rfl fun a hE => WL.nil ?_))
 refine W.seq (W.region (vp hS hE rfl rfl fun a hE => WL.nil ?_))
 refine W.seq (W.region (v2 hS hE rfl rfl rfl rfl fun a hE => ?_))
 refine vp hS hE rfl rfl fun a hE => ?_
 obtain ⟨q51, hq52, hr⟩ := bindS hr
 have hc_ := Fishref2clock_1_ok hS (TabS.mono (Sg.Le.refl _) hTab) hq52
 refine WL.fnw hE (hc_) rfl (runs_plain rfl) bd123 rfl rfl rfl ?_
 clear hE hS hc_; rintro e w ⟨rfl, hS⟩; refine ⟨_, rfl, ?_⟩; clear a; intro a hE
 obtain ⟨x53, hx54, hr⟩ := bindS hr
 refine vP hS hE (Gives.catS hE rfl rfl hx54) rfl fun a hE => ?_
 refine v2 hS hE rfl rfl rfl rfl fun a hE => ?_
 refine v2 hS hE rfl rfl rfl rfl fun a hE => ?_
 obtain ⟨q55, hq56, hr⟩ := bindS hr
 have hc_ := Fishref2clock_1_ok hS (TabS.mono (Sg.Le.refl _) hTab) hq56
 refine WL.fnw hE (hc_) rfl (runs_plain rfl) bd123 rfl rfl rfl ?_
 clear hE hS hc_; rintro e w ⟨rfl, hS⟩; refine ⟨_, rfl, ?_⟩; clear a; intro a hE
 obtain ⟨x57, hx58, hr⟩ := bindS hr
 refine vP hS hE (Gives.catS hE rfl rfl hx58) rfl fun a hE => ?_
 refine vp hS hE rfl rfl fun a hE => WL.nil ?_
 refine W.ret ?_
 refine finG (fn := Tryz.f78) (rs := [.tmp 2]) (vs := [_]) hE rfl ⟨rfl, trivial⟩ ?_
 obtain rfl := Option.some.inj hr
 exact ⟨rfl, hS⟩
end Go.Proofs.YtpcebngchmgckaaGreatDoor
