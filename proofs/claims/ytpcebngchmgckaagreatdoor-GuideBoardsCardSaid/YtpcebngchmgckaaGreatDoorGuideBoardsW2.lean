/- The walks of the functions that GuideBoards reaches: each call comes to what its mirror says. The conditions are those of each contract. -/
import Derived.Test.YtpcebngchmgckaaGreatDoorProg
import Derived.Test.YtpcebngchmgckaaGreatDoorFpTight
import Derived.Test.YtpcebngchmgckaaGreatDoorGuideBoardsM
import Derived.Test.YtpcebngchmgckaaGreatDoorFpAllX
import Derived.Test.YtpcebngchmgckaaGreatDoorGuideBoardsS
import Derived.Test.YtpcebngchmgckaaGreatDoorFpMapS
import Derived.Test.YtpcebngchmgckaaGreatDoorFpArrS
import Derived.Test.YtpcebngchmgckaaGreatDoorFpFld
import Derived.Test.YtpcebngchmgckaaGreatDoorFpMapE
import Derived.Test.YtpcebngchmgckaaGreatDoorFpMapG
import Derived.Test.YtpcebngchmgckaaGreatDoorFpMapV
import Derived.Test.YtpcebngchmgckaaGreatDoorFpMaps
import Derived.Test.YtpcebngchmgckaaGreatDoorFpOrd
import Derived.Test.YtpcebngchmgckaaGreatDoorFpRf
import Derived.Test.YtpcebngchmgckaaGreatDoorFpRng
import Derived.Test.YtpcebngchmgckaaGreatDoorGuideBoardsW1
set_option maxRecDepth 10000
namespace Go.Proofs.YtpcebngchmgckaaGreatDoor
open Go Go.Fp
set_option maxHeartbeats 8000000 in
theorem SlicesrotateCmpFuncguiderow_v1_ok {fu : Nat}  {w : World} {s : Sg} {R : List HP} {x0 : List GuideRow} {a_v0 : Option Addr} {c_v0 n_v0 : Nat} {cs_v0 : List Value} {x1 : Int} {x2 : Int} {x3 : Int} (hS : St w s (vecC 127 7 a_v0 c_v0 n_v0 cs_v0 :: R)) (h_v0 : Ev 7 RGuideRow s cs_v0 x0) (hn_v0 : x0.length = n_v0) {r : (List GuideRow)} (hr : SlicesrotateCmpFuncguiderow_v1 fu x0 x1 x2 x3 = some r) :
  Calls Tryz.prog 173 [.slice a_v0 n_v0 c_v0, vi x1, vi x2, vi x3, .func (.func 64) #[] #[]].toArray w (fun e w => ∃ (cs55 : List Value), e = .returned (.tuple #[]) ∧ Ev 7 RGuideRow s cs55 r ∧ r.length = n_v0 ∧ St w s (vecC 127 7 a_v0 c_v0 n_v0 cs55 :: R)) := by
 refine enter Tryz.func173 rfl rfl rfl fun a hE => ?_
 rw [SlicesrotateCmpFuncguiderow_v1] at hr
 subst hn_v0
 refine W.seq (W.region (v2 hS hE rfl rfl rfl rfl fun a hE => ?_))
 refine v2 hS hE rfl rfl rfl rfl fun a hE => WL.nil ?_
 refine W.seq (W.region (v2 hS hE rfl rfl rfl rfl fun a hE => ?_))
 refine v2 hS hE rfl rfl rfl rfl fun a hE => WL.nil ?_
 refine W.seq ?_
 obtain ⟨q58, hq57, hr⟩ := bindS hr
 refine W.cut (fun a w => ∃ (q63 : Int), ∃ (q64 : Int), ∃ (q65 : List GuideRow), ∃ (cs69 : List Value), (q63, q64, q65) = q58 ∧ Ev 7 RGuideRow s cs69 q65 ∧ q65.length = x0.length ∧ Rep a 58 [(0, .slice a_v0 x0.length c_v0), (2, vi x2), (4, .func (.func 64) #[] #[]), (10, vi q63)] ∧ St w s (vecC 127 7 a_v0 c_v0 x0.length cs69 :: R)) ?_ ?_
 ·refine W.block ?_
  refine W.loop (fun m a w => ∃ (n59 : Nat), ∃ (q63 : Int), ∃ (q64 : Int), ∃ (q65 : List GuideRow), ∃ (cs69 : List Value), n59 = m ∧ SlicesrotateCmpFuncguiderow_v1.loop1 x2 fu n59 q63 q64 q65 = some q58 ∧ Ev 7 RGuideRow s cs69 q65 ∧ q65.length = x0.length ∧ Rep a 58 [(0, .slice a_v0 x0.length c_v0), (2, vi x2), (4, .func (.func 64) #[] #[]), (10, vi q63), (11, vi q64)] ∧ St w s (vecC 127 7 a_v0 c_v0 x0.length cs69 :: R)) (m := fu) ⟨fu, (w64 (x2 - x1)), (w64 (x3 - x2)), x0, cs_v0, rfl, hq57, h_v0, (rfl), hE.pick _ ⟨rfl, rfl, rfl, rfl, rfl, trivial⟩, hS⟩ ?_
  clear hE hS a w hq57; rintro m60 a w ⟨n59, q63, q64, q65, cs69, rfl, hq57, h68, hn70, hE, hS⟩
  refine W.gen fun K71 hK71 => ?_
  rcases n59 with _ | n59
  ·rw [SlicesrotateCmpFuncguiderow_v1.loop1] at hq57; exact absurd hq57 (by simp)
  rw [SlicesrotateCmpFuncguiderow_v1.loop1] at hq57
  refine W.seq ?_
  refine W.seq (W.region (v2 hS hE rfl rfl rfl rfl fun a hE => ?_))
  refine vp hS hE rfl rfl fun a hE => WL.nil ?_
  refine W.cond hE rfl (fun hc72 => ?_) (fun hc72 => ?_)
  ·replace hq57 := iteT hc72 hq57
   refine W.skip ?_
   refine W.block ?_
   refine W.seq (W.region (v2 hS hE rfl rfl rfl rfl fun a hE => ?_))
   refine vp hS hE rfl rfl fun a hE => WL.nil ?_
   obtain ⟨q74, hq73, hq57⟩ := bindS hq57
   refine W.cut (fun a w => ∃ (q77 : Int), ∃ (q78 : Int), ∃ (q79 : List GuideRow), ∃ (cs83 : List Value), (q77, q78, q79) = q74 ∧ Ev 7 RGuideRow s cs83 q79 ∧ q79.length = x0.length ∧ Rep a 58 [(0, .slice a_v0 x0.length c_v0), (2, vi x2), (4, .func (.func 64) #[] #[]), (10, vi q77), (11, vi q78)] ∧ St w s (vecC 127 7 a_v0 c_v0 x0.length cs83 :: R)) ?_ ?_
   ·refine W.gen fun K85 hK85 => ?_
    refine W.cond hE rfl (fun hc86 => ?_) (fun hc86 => ?_)
    ·replace hq73 := iteT hc86 hq73
     refine W.seq (W.region (v2 hS hE rfl rfl rfl rfl fun a hE => ?_))
     refine v2 hS hE rfl rfl rfl rfl fun a hE => ?_
     refine v2 hS hE rfl rfl rfl rfl fun a hE => ?_
     refine vp hS hE rfl rfl fun a hE => ?_
     obtain ⟨q87, hq88, hq73⟩ := bindS hq73
     have hc_ := SlicesswapRangeCmpFuncguiderow_v1_ok hS h68 hn70 hq88
     refine WL.fnq hE (hc_) (runs_plain rfl) bd188 rfl rfl rfl ?_
     clear hE hS hc_; rintro e w ⟨cs89, rfl, h90, hn91, hS⟩; refine ⟨_, rfl, ?_⟩; clear a; intro a hE
     refine WL.nil ?_
     refine W.region ?_
     refine v2 hS hE rfl rfl rfl rfl fun a hE => ?_
     refine v2 hS hE rfl rfl rfl rfl fun a hE => WL.nil ?_
     subst hK85
     exact ⟨w64 (q63 - q64), q64, q87, cs89, Option.some.inj hq73, h90, hn91, hE.pick _ ⟨rfl, rfl, rfl, rfl, rfl, trivial⟩, hS⟩
    replace hq73 := iteF hc86 hq73
    refine W.seq (W.region (v2 hS hE rfl rfl rfl rfl fun a hE => ?_))
    refine v2 hS hE rfl rfl rfl rfl fun a hE => ?_
    refine v2 hS hE rfl rfl rfl rfl fun a hE => ?_
    refine v2 hS hE rfl rfl rfl rfl fun a hE => ?_
    refine v2 hS hE rfl rfl rfl rfl fun a hE => ?_
    refine vp hS hE rfl rfl fun a hE => ?_
    obtain ⟨q92, hq93, hq73⟩ := bindS hq73
    have hc_ := SlicesswapRangeCmpFuncguiderow_v1_ok hS h68 hn70 hq93
    refine WL.fnq hE (hc_) (runs_plain rfl) bd188 rfl rfl rfl ?_
    clear hE hS hc_; rintro e w ⟨cs94, rfl, h95, hn96, hS⟩; refine ⟨_, rfl, ?_⟩; clear a; intro a hE
    refine WL.nil ?_
    refine W.region ?_
    refine v2 hS hE rfl rfl rfl rfl fun a hE => ?_
    refine v2 hS hE rfl rfl rfl rfl fun a hE => WL.nil ?_
    subst hK85
    exact ⟨q63, w64 (q64 - q63), q92, cs94, Option.some.inj hq73, h95, hn96, hE.pick _ ⟨rfl, rfl, rfl, rfl, rfl, trivial⟩, hS⟩
   clear hE hS a w; rintro a w ⟨q77, q78, q79, cs83, rfl, h82, hn84, hE, hS⟩
   dsimp only at hq57
   subst hK71
   exact ⟨n59, Nat.lt_succ_self _, n59, q77, q78, q79, cs83, rfl, hq57, h82, hn84, hE.pick _ ⟨rfl, rfl, rfl, rfl, rfl, trivial⟩, hS⟩
  replace hq57 := iteF hc72 hq57
  subst hK71
  refine W.exit rfl ?_
  exact ⟨q63, q64, q65, cs69, Option.some.inj hq57, h68, hn70, hE.pick _ ⟨rfl, rfl, rfl, rfl, trivial⟩, hS⟩
 clear hE hS a w; rintro a w ⟨q63, q64, q65, cs69, rfl, h68, hn70, hE, hS⟩
 dsimp only at hr
 refine W.region ?_
 refine v2 hS hE rfl rfl rfl rfl fun a hE => ?_
 refine v2 hS hE rfl rfl rfl rfl fun a hE => ?_
 refine v2 hS hE rfl rfl rfl rfl fun a hE => ?_
 refine vp hS hE rfl rfl fun a hE => ?_
 obtain ⟨q97, hq98, hr⟩ := bindS hr
 have hc_ := SlicesswapRangeCmpFuncguiderow_v1_ok hS h68 hn70 hq98
 refine WL.fnq hE (hc_) (runs_plain rfl) bd188 rfl rfl rfl ?_
 clear hE hS hc_; rintro e w ⟨cs99, rfl, h100, hn101, hS⟩; refine ⟨_, rfl, ?_⟩; clear a; intro a hE
 refine WL.nil ?_
 refine finG (fn := Tryz.f173) (rs := []) (vs := []) hE rfl trivial ?_
 obtain rfl := Option.some.inj hr
 exact ⟨cs99, rfl, h100, hn101, hS⟩
set_option maxHeartbeats 8000000 in
theorem SlicessymMergeCmpFuncguiderow_v1_ok : ∀ {fu : Nat} {w : World} {s : Sg} {R : List HP} {x0 : List GuideRow} {a_v0 : Option Addr} {c_v0 n_v0 : Nat} {cs_v0 : List Value} {x1 : Int} {x2 : Int} {x3 : Int} (_hS : St w s (vecC 127 7 a_v0 c_v0 n_v0 cs_v0 :: R)) (_h_v0 : Ev 7 RGuideRow s cs_v0 x0) (_hn_v0 : x0.length = n_v0) {r : (List GuideRow)} (_hr : SlicessymMergeCmpFuncguiderow_v1 fu x0 x1 x2 x3 = some r),
  Calls Tryz.prog 147 [.slice a_v0 n_v0 c_v0, vi x1, vi x2, vi x3, .func (.func 64) #[] #[]].toArray w (fun e w => ∃ (cs55 : List Value), e = .returned (.tuple #[]) ∧ Ev 7 RGuideRow s cs55 r ∧ r.length = n_v0 ∧ St w s (vecC 127 7 a_v0 c_v0 n_v0 cs55 :: R)) := by
 intro fu
 induction fu with
 | zero => intro w s R x0 a_v0 c_v0 n_v0 cs_v0 x1 x2 x3 hS h_v0 hn_v0 r hr; rw [SlicessymMergeCmpFuncguiderow_v1] at hr; exact absurd hr (by simp)
 | succ fu ih_SlicessymMergeCmpFuncguiderow_v1 =>
  intro w s R x0 a_v0 c_v0 n_v0 cs_v0 x1 x2 x3 hS h_v0 hn_v0 r hr
  rw [SlicessymMergeCmpFuncguiderow_v1] at hr
  generalize SlicessymMergeCmpFuncguiderow_v1 fu = self_SlicessymMergeCmpFuncguiderow_v1 at hr ih_SlicessymMergeCmpFuncguiderow_v1
  refine enter Tryz.func147 rfl rfl rfl fun a hE => ?_
  subst hn_v0
  refine W.seq ?_
  refine W.seq (W.region (v2 hS hE rfl rfl rfl rfl fun a hE => ?_))
  refine v2 hS hE rfl rfl rfl rfl fun a hE => WL.nil ?_
  refine W.cond hE rfl (fun hc57 => ?_) (fun hc57 => ?_)
  ·replace hr := iteT hc57 hr
   refine W.seq (W.region (v2 hS hE rfl rfl rfl rfl fun a hE => WL.nil ?_))
   refine W.seq (W.region (v2 hS hE rfl rfl rfl rfl fun a hE => WL.nil ?_))
   refine W.seq ?_
   obtain ⟨q59, hq58, hr⟩ := bindS hr
   refine W.cut (fun a w => ∃ (q64 : Int), ∃ (q65 : Int), (q64, q65) = q59 ∧ Rep a 220 [(0, .slice a_v0 x0.length c_v0), (1, vi x1), (10, vi q64)] ∧ St w s (vecC 127 7 a_v0 c_v0 x0.length cs_v0 :: R)) ?_ ?_
   ·refine W.block ?_
    refine W.loop (fun m a w => ∃ (n60 : Nat), ∃ (q64 : Int), ∃ (q65 : Int), n60 = m ∧ SlicessymMergeCmpFuncguiderow_v1.loop1 x0 x1 n60 q64 q65 = some q59 ∧ Rep a 220 [(0, .slice a_v0 x0.length c_v0), (1, vi x1), (4, .func (.func 64) #[] #[]), (10, vi q64), (11, vi q65)] ∧ St w s (vecC 127 7 a_v0 c_v0 x0.length cs_v0 :: R)) (m := fu) ⟨fu, x2, x3, rfl, hq58, hE.pick _ ⟨rfl, rfl, rfl, rfl, rfl, trivial⟩, hS⟩ ?_
    clear hE hS a w hq58; rintro m61 a w ⟨n60, q64, q65, rfl, hq58, hE, hS⟩
    refine W.gen fun K66 hK66 => ?_
    rcases n60 with _ | n60
    ·rw [SlicessymMergeCmpFuncguiderow_v1.loop1] at hq58; exact absurd hq58 (by simp)
    rw [SlicessymMergeCmpFuncguiderow_v1.loop1] at hq58
    refine W.seq ?_
    refine W.seq (W.region (v2 hS hE rfl rfl rfl rfl fun a hE => ?_))
    refine vp hS hE rfl rfl fun a hE => WL.nil ?_
    refine W.cond hE rfl (fun hc67 => ?_) (fun hc67 => ?_)
    ·replace hq58 := iteT hc67 hq58
     refine W.skip ?_
     refine W.block ?_
     refine W.seq (W.region (v2 hS hE rfl rfl rfl rfl fun a hE => ?_))
     refine vp hS hE rfl rfl fun a hE => ?_
     refine vP hS hE (Gives.conv hE rfl hu3 ui193) rfl fun a hE => ?_
     refine vP hS hE (Gives.shr hE rfl rfl (by decide)) rfl fun a hE => ?_
     refine vP hS hE (Gives.conv hE rfl hu193 ui3) rfl fun a hE => ?_
     refine vp hS hE rfl rfl fun a hE => WL.nil ?_
     refine W.seq ?_
     refine W.regionQ (C := fun w => St w s (vecC 127 7 a_v0 c_v0 x0.length cs_v0 :: R)) mixed (by kernel_rfl) hS.drew ?_
     refine qP hE (Gives.p hE rfl) rfl fun a hE => ?_
     refine qP hE (Gives.p hE rfl) rfl fun a hE => ?_
     refine qP hE (Gives.p hE rfl) rfl fun a hE => ?_
     obtain ⟨x68, hx69, hq58⟩ := bindS hq58
     obtain ⟨hi70, hlt71, hy72⟩ := gx_some hx69
     obtain ⟨vs73, hl74, hR75, hd76, hget77⟩ := h_v0.at hy72
     subst hR75
     refine qP hE (Gives.idx hE ((w64 (Int.fdiv (IntKind.wrap .u64 (w64 (q64 + q65))) (2 ^ (min (Int.toNat 1) (IntKind.bits .u64))))).toNat) rfl rfl sl123 hi70 (by omega) (hS.vecAok 0 rfl (by omega : (w64 (Int.fdiv (IntKind.wrap .u64 (w64 (q64 + q65))) (2 ^ (min (Int.toNat 1) (IntKind.bits .u64))))).toNat < x0.length))) rfl fun a hE => ?_
     refine qP hE (Gives.loadA hE rfl (fun w h => St.vecSees h 0 rfl ((w64 (Int.fdiv (IntKind.wrap .u64 (w64 (q64 + q65))) (2 ^ (min (Int.toNat 1) (IntKind.bits .u64))))).toNat * 7) _ hget77) ty127) rfl fun a hE => ?_
     refine qP hE (Gives.p hE rfl) rfl fun a hE => ?_
     refine qP hE (Gives.p hE rfl) rfl fun a hE => ?_
     obtain ⟨x78, hx79, hq58⟩ := bindS hq58
     obtain ⟨hi80, hlt81, hy82⟩ := gx_some hx79
     obtain ⟨vs83, hl84, hR85, hd86, hget87⟩ := h_v0.at hy82
     subst hR85
     refine qP hE (Gives.idx hE ((x1).toNat) rfl rfl sl123 hi80 (by omega) (hS.vecAok 0 rfl (by omega : (x1).toNat < x0.length))) rfl fun a hE => ?_
     refine qP hE (Gives.loadA hE rfl (fun w h => St.vecSees h 0 rfl ((x1).toNat * 7) _ hget87) ty127) rfl fun a hE => ?_
     refine QL.fnw hE (fun w hS => GuideBoard_2_ok hS  rfl (r := GuideBoard_2 x68 x78)) rfl (runs_plain rfl) bd64 rfl rfl rfl fun a hE => ?_
     refine qP hE (Gives.p hE rfl) rfl fun a hE => ?_
     refine QL.nil ?_; clear hS w; intro w hS
     obtain ⟨q89, hq88, hq58⟩ := bndS hq58
     refine W.cut (fun a w => ∃ (q92 : Int), ∃ (q93 : Int), (q92, q93) = q89 ∧ Rep a 220 [(0, .slice a_v0 x0.length c_v0), (1, vi x1), (4, .func (.func 64) #[] #[]), (10, vi q92), (11, vi q93)] ∧ St w s (vecC 127 7 a_v0 c_v0 x0.length cs_v0 :: R)) ?_ ?_
     ·refine W.gen fun K94 hK94 => ?_
      refine W.cond hE rfl (fun hc95 => ?_) (fun hc95 => ?_)
      ·replace hq88 := iteT hc95 hq88
       refine W.region ?_
       refine v2 hS hE rfl rfl rfl rfl fun a hE => ?_
       refine vp hS hE rfl rfl fun a hE => WL.nil ?_
       subst hK94
       exact ⟨w64 ((w64 (Int.fdiv (IntKind.wrap .u64 (w64 (q64 + q65))) (2 ^ (min (Int.toNat 1) (IntKind.bits .u64))))) + 1), q65, hq88, hE.pick _ ⟨rfl, rfl, rfl, rfl, rfl, trivial⟩, hS⟩
      replace hq88 := iteF hc95 hq88
      refine W.region ?_
      refine v2 hS hE rfl rfl rfl rfl fun a hE => WL.nil ?_
      subst hK94
      exact ⟨q64, w64 (Int.fdiv (IntKind.wrap .u64 (w64 (q64 + q65))) (2 ^ (min (Int.toNat 1) (IntKind.bits .u64)))), hq88, hE.pick _ ⟨rfl, rfl, rfl, rfl, rfl, trivial⟩, hS⟩
     clear hE hS a w; rintro a w ⟨q92, q93, rfl, hE, hS⟩
     dsimp only at hq58
     subst hK66
     exact ⟨n60, Nat.lt_succ_self _, n60, q92, q93, rfl, hq58, hE.pick _ ⟨rfl, rfl, rfl, rfl, rfl, trivial⟩, hS⟩
    replace hq58 := iteF hc67 hq58
    subst hK66
    refine W.exit rfl ?_
    exact ⟨q64, q65, Option.some.inj hq58, hE.pick _ ⟨rfl, rfl, rfl, trivial⟩, hS⟩
   clear hE hS a w; rintro a w ⟨q64, q65, rfl, hE, hS⟩
   dsimp only at hr
   refine W.seq ?_
   refine W.seq (W.region (v2 hS hE rfl rfl rfl rfl fun a hE => WL.nil ?_))
   obtain ⟨q97, hq96, hr⟩ := bindS hr
   refine W.cut (fun a w => ∃ (q102 : Int), ∃ (q103 : List GuideRow), ∃ (cs107 : List Value), (q102, q103) = q97 ∧ Ev 7 RGuideRow s cs107 q103 ∧ q103.length = x0.length ∧ Rep a 220 [] ∧ St w s (vecC 127 7 a_v0 c_v0 x0.length cs107 :: R)) ?_ ?_
   ·refine W.block ?_
    refine W.loop (fun m a w => ∃ (n98 : Nat), ∃ (q102 : Int), ∃ (q103 : List GuideRow), ∃ (cs107 : List Value), n98 = m ∧ SlicessymMergeCmpFuncguiderow_v1.loop2 q64 n98 q102 q103 = some q97 ∧ Ev 7 RGuideRow s cs107 q103 ∧ q103.length = x0.length ∧ Rep a 220 [(0, .slice a_v0 x0.length c_v0), (10, vi q64), (13, vi q102)] ∧ St w s (vecC 127 7 a_v0 c_v0 x0.length cs107 :: R)) (m := fu) ⟨fu, x1, x0, cs_v0, rfl, hq96, h_v0, (rfl), hE.pick _ ⟨rfl, rfl, rfl, trivial⟩, hS⟩ ?_
    clear hE hS a w hq96; rintro m99 a w ⟨n98, q102, q103, cs107, rfl, hq96, h106, hn108, hE, hS⟩
    refine W.gen fun K109 hK109 => ?_
    rcases n98 with _ | n98
    ·rw [SlicessymMergeCmpFuncguiderow_v1.loop2] at hq96; exact absurd hq96 (by simp)
    rw [SlicessymMergeCmpFuncguiderow_v1.loop2] at hq96
    refine W.seq ?_
    refine W.seq (W.region (v2 hS hE rfl rfl rfl rfl fun a hE => ?_))
    refine v2 hS hE rfl rfl rfl rfl fun a hE => WL.nil ?_
    refine W.cond hE rfl (fun hc110 => ?_) (fun hc110 => ?_)
    ·replace hq96 := iteT hc110 hq96
     refine W.skip ?_
     refine W.seq ?_
     refine W.block ?_
     refine W.gen fun K111 hK111 => ?_
     refine W.regionE (sel (fun w => St w s (vecC 127 7 a_v0 c_v0 x0.length cs107 :: R)) (fun w => St w s (R))) (fun b i => cond b ([0, 1, 2, 3, 4, 5, 6, 7, 8, 9, 10, 11, 12, 13, 14, 16].contains i) ([0, 1, 2, 3, 4, 5, 6, 7, 8, 9, 10, 11, 12, 13, 14, 15, 16, 17].contains i)) mixed ?_
     replace hS := hS.drew
     refine tP (i := 0) hE rfl (by kernel_rfl) (Gives.p hE rfl) rfl hS (hS.tail) fun a hE => ?_
     refine tP (i := 1) hE rfl (by kernel_rfl) (Gives.p hE rfl) rfl hS (hS.tail) fun a hE => ?_
     refine tP (i := 2) hE rfl (by kernel_rfl) (Gives.p hE rfl) rfl hS (hS.tail) fun a hE => ?_
     refine tP (i := 3) hE rfl (by kernel_rfl) (Gives.p hE rfl) rfl hS (hS.tail) fun a hE => ?_
     refine tP (i := 4) hE rfl (by kernel_rfl) (Gives.p hE rfl) rfl hS (hS.tail) fun a hE => ?_
     refine tP (i := 5) hE rfl (by kernel_rfl) (Gives.p hE rfl) rfl hS (hS.tail) fun a hE => ?_
     refine tP (i := 6) hE rfl (by kernel_rfl) (Gives.p hE rfl) rfl hS (hS.tail) fun a hE => ?_
     refine tP (i := 7) hE rfl (by kernel_rfl) (Gives.p hE rfl) rfl hS (hS.tail) fun a hE => ?_
     obtain ⟨x112, hx113, hq96⟩ := bindS hq96
     obtain ⟨hi114, hlt115, hy116⟩ := gx_some hx113
     obtain ⟨vs117, hl118, hR119, hd120, hget121⟩ := h106.at hy116
     subst hR119
     refine tP (i := 8) hE rfl (by kernel_rfl) (Gives.idx hE ((w64 (q102 + 1)).toNat) rfl rfl sl123 hi114 (by have := hn108; omega) (hS.vecAok 0 rfl (by have := hn108; omega : (w64 (q102 + 1)).toNat < x0.length))) rfl hS (hS.tail) fun a hE => ?_
     refine tT (i := 9) true rfl hE rfl (by kernel_rfl) (Gives.loadA hE rfl (fun w h => St.vecSees h 0 rfl ((w64 (q102 + 1)).toNat * 7) _ hget121) ty127) rfl hS (hS.tail) fun a hE => ?_
     refine tP (i := 10) hE rfl (by kernel_rfl) (Gives.p hE rfl) rfl hS (hS.tail) fun a hE => ?_
     refine tP (i := 11) hE rfl (by kernel_rfl) (Gives.p hE rfl) rfl hS (hS.tail) fun a hE => ?_
     obtain ⟨x122, hx123, hq96⟩ := bindS hq96
     obtain ⟨hi124, hlt125, hy126⟩ := gx_some hx123
     obtain ⟨vs127, hl128, hR129, hd130, hget131⟩ := h106.at hy126
     subst hR129
     refine tP (i := 12) hE rfl (by kernel_rfl) (Gives.idx hE ((q102).toNat) rfl rfl sl123 hi124 (by have := hn108; omega) (hS.vecAok 0 rfl (by have := hn108; omega : (q102).toNat < x0.length))) rfl hS (hS.tail) fun a hE => ?_
     refine tT (i := 13) true rfl hE rfl (by kernel_rfl) (Gives.loadA hE rfl (fun w h => St.vecSees h 0 rfl ((q102).toNat * 7) _ hget131) ty127) rfl hS (hS.tail) fun a hE => ?_
     obtain ⟨_, hx133, hq96⟩ := bindS hq96
     obtain ⟨h134, h135⟩ := ix_some hx133
     refine tP (i := 14) hE rfl (by kernel_rfl) (Gives.idx hE ((q102).toNat) rfl rfl sl123 h134 (by have := hn108; omega) (hS.vecAok 0 rfl (by have := hn108; omega : (q102).toNat < x0.length))) rfl hS (hS.tail) fun a hE => ?_
     refine Rg.one (i := 15) false true rfl (by kernel_rfl) (by kernel_rfl) (by kernel_rfl) ?_
     obtain ⟨x137, hx138, hq96⟩ := bindS hq96
     refine WL.setD hE hS 0 rfl (runs_plain rfl) rfl rfl (vs := [vi x112.Line.Time, vi x112.Line.Late, vi x112.Line.No, vi x112.Line.To, vi x112.Line.Track, .bool x112.Line.Ends, vi x112.stop]) rfl ty127 rfl rfl rfl h106 hn108 (sx_some hx138).1 hx138 rfl rfl ?_; clear hE hS a w; intro cs139 a w h140 hn141 hE hS
     refine WL.nil ?_
     refine ⟨⟨fun h => absurd h (by decide), fun _ => (hS.tail)⟩, ?_⟩
     obtain ⟨_, hx143, hq96⟩ := bindS hq96
     obtain ⟨h144, h145⟩ := ix_some hx143
     refine Rg.takeP (i := 16) hE rfl (by kernel_rfl) (runs_plain rfl) (Gives.idx hE ((w64 (q102 + 1)).toNat) rfl rfl sl123 h144 (by have := hn141; omega) (hS.vecAok 0 rfl (by have := hn141; omega : (w64 (q102 + 1)).toNat < x0.length))) rfl (tw_sel (fun h => absurd h (by decide)) (fun _ => (hS.tail))) fun a hE => ?_
     refine Rg.one (i := 17) false true rfl (by kernel_rfl) (by kernel_rfl) (by kernel_rfl) ?_
     obtain ⟨x147, hx148, hq96⟩ := bindS hq96
     refine WL.setD hE hS 0 rfl (runs_plain rfl) rfl rfl (vs := [vi x122.Line.Time, vi x122.Line.Late, vi x122.Line.No, vi x122.Line.To, vi x122.Line.Track, .bool x122.Line.Ends, vi x122.stop]) rfl ty127 rfl rfl rfl h140 hn141 (sx_some hx148).1 hx148 rfl rfl ?_; clear hE hS a w; intro cs149 a w h150 hn151 hE hS
     refine WL.nil ?_
     refine ⟨⟨fun h => absurd h (by decide), fun _ => (hS.tail)⟩, ?_⟩
     refine Rg.done (by kernel_rfl) ?_
     subst hK111
     refine W.region ?_
     refine v2 hS hE rfl rfl rfl rfl fun a hE => ?_
     refine vp hS hE rfl rfl fun a hE => WL.nil ?_
     subst hK109
     exact ⟨n98, Nat.lt_succ_self _, n98, (w64 (q102 + 1)), x147, cs149, rfl, hq96, h150, hn151, hE.pick _ ⟨rfl, rfl, rfl, trivial⟩, hS⟩
    replace hq96 := iteF hc110 hq96
    subst hK109
    refine W.exit rfl ?_
    exact ⟨q102, q103, cs107, Option.some.inj hq96, h106, hn108, hE.pick _ trivial, hS⟩
   clear hE hS a w; rintro a w ⟨q102, q103, cs107, rfl, h106, hn108, hE, hS⟩
   dsimp only at hr
   refine W.ret ?_
   refine finG (fn := Tryz.f147) (rs := []) (vs := []) hE rfl trivial ?_
   obtain rfl := Option.some.inj hr
   exact ⟨cs107, rfl, h106, hn108, hS⟩
  replace hr := iteF hc57 hr
  refine W.skip ?_
  refine W.seq ?_
  refine W.seq (W.region (v2 hS hE rfl rfl rfl rfl fun a hE => ?_))
  refine v2 hS hE rfl rfl rfl rfl fun a hE => WL.nil ?_
  refine W.cond hE rfl (fun hc152 => ?_) (fun hc152 => ?_)
  ·replace hr := iteT hc152 hr
   refine W.seq (W.region (v2 hS hE rfl rfl rfl rfl fun a hE => WL.nil ?_))
   refine W.seq (W.region (v2 hS hE rfl rfl rfl rfl fun a hE => WL.nil ?_))
   refine W.seq ?_
   obtain ⟨q154, hq153, hr⟩ := bindS hr
   refine W.cut (fun a w => ∃ (q159 : Int), ∃ (q160 : Int), (q159, q160) = q154 ∧ Rep a 220 [(0, .slice a_v0 x0.length c_v0), (2, vi x2), (14, vi q159)] ∧ St w s (vecC 127 7 a_v0 c_v0 x0.length cs_v0 :: R)) ?_ ?_
   ·refine W.block ?_
    refine W.loop (fun m a w => ∃ (n155 : Nat), ∃ (q159 : Int), ∃ (q160 : Int), n155 = m ∧ SlicessymMergeCmpFuncguiderow_v1.loop3 x0 x2 n155 q159 q160 = some q154 ∧ Rep a 220 [(0, .slice a_v0 x0.length c_v0), (2, vi x2), (4, .func (.func 64) #[] #[]), (14, vi q159), (15, vi q160)] ∧ St w s (vecC 127 7 a_v0 c_v0 x0.length cs_v0 :: R)) (m := fu) ⟨fu, x1, x2, rfl, hq153, hE.pick _ ⟨rfl, rfl, rfl, rfl, rfl, trivial⟩, hS⟩ ?_
    clear hE hS a w hq153; rintro m156 a w ⟨n155, q159, q160, rfl, hq153, hE, hS⟩
    refine W.gen fun K161 hK161 => ?_
    rcases n155 with _ | n155
    ·rw [SlicessymMergeCmpFuncguiderow_v1.loop3] at hq153; exact absurd hq153 (by simp)
    rw [SlicessymMergeCmpFuncguiderow_v1.loop3] at hq153
    refine W.seq ?_
    refine W.seq (W.region (v2 hS hE rfl rfl rfl rfl fun a hE => ?_))
    refine vp hS hE rfl rfl fun a hE => WL.nil ?_
    refine W.cond hE rfl (fun hc162 => ?_) (fun hc162 => ?_)
    ·replace hq153 := iteT hc162 hq153
     refine W.skip ?_
     refine W.block ?_
     refine W.seq (W.region (v2 hS hE rfl rfl rfl rfl fun a hE => ?_))
     refine vp hS hE rfl rfl fun a hE => ?_
     refine vP hS hE (Gives.conv hE rfl hu3 ui193) rfl fun a hE => ?_
     refine vP hS hE (Gives.shr hE rfl rfl (by decide)) rfl fun a hE => ?_
     refine vP hS hE (Gives.conv hE rfl hu193 ui3) rfl fun a hE => ?_
     refine vp hS hE rfl rfl fun a hE => WL.nil ?_
     refine W.seq ?_
     refine W.regionQ (C := fun w => St w s (vecC 127 7 a_v0 c_v0 x0.length cs_v0 :: R)) mixed (by kernel_rfl) hS.drew ?_
     refine qP hE (Gives.p hE rfl) rfl fun a hE => ?_
     refine qP hE (Gives.p hE rfl) rfl fun a hE => ?_
     refine qP hE (Gives.p hE rfl) rfl fun a hE => ?_
     obtain ⟨x163, hx164, hq153⟩ := bindS hq153
     obtain ⟨hi165, hlt166, hy167⟩ := gx_some hx164
     obtain ⟨vs168, hl169, hR170, hd171, hget172⟩ := h_v0.at hy167
     subst hR170
     refine qP hE (Gives.idx hE ((x2).toNat) rfl rfl sl123 hi165 (by omega) (hS.vecAok 0 rfl (by omega : (x2).toNat < x0.length))) rfl fun a hE => ?_
     refine qP hE (Gives.loadA hE rfl (fun w h => St.vecSees h 0 rfl ((x2).toNat * 7) _ hget172) ty127) rfl fun a hE => ?_
     refine qP hE (Gives.p hE rfl) rfl fun a hE => ?_
     refine qP hE (Gives.p hE rfl) rfl fun a hE => ?_
     obtain ⟨x173, hx174, hq153⟩ := bindS hq153
     obtain ⟨hi175, hlt176, hy177⟩ := gx_some hx174
     obtain ⟨vs178, hl179, hR180, hd181, hget182⟩ := h_v0.at hy177
     subst hR180
     refine qP hE (Gives.idx hE ((w64 (Int.fdiv (IntKind.wrap .u64 (w64 (q159 + q160))) (2 ^ (min (Int.toNat 1) (IntKind.bits .u64))))).toNat) rfl rfl sl123 hi175 (by omega) (hS.vecAok 0 rfl (by omega : (w64 (Int.fdiv (IntKind.wrap .u64 (w64 (q159 + q160))) (2 ^ (min (Int.toNat 1) (IntKind.bits .u64))))).toNat < x0.length))) rfl fun a hE => ?_
     refine qP hE (Gives.loadA hE rfl (fun w h => St.vecSees h 0 rfl ((w64 (Int.fdiv (IntKind.wrap .u64 (w64 (q159 + q160))) (2 ^ (min (Int.toNat 1) (IntKind.bits .u64))))).toNat * 7) _ hget182) ty127) rfl fun a hE => ?_
     refine QL.fnw hE (fun w hS => GuideBoard_2_ok hS  rfl (r := GuideBoard_2 x163 x173)) rfl (runs_plain rfl) bd64 rfl rfl rfl fun a hE => ?_
     refine qP hE (Gives.p hE rfl) rfl fun a hE => ?_
     refine qP hE (Gives.p hE rfl) rfl fun a hE => ?_
     refine QL.nil ?_; clear hS w; intro w hS
     obtain ⟨q184, hq183, hq153⟩ := bndS hq153
     refine W.cut (fun a w => ∃ (q187 : Int), ∃ (q188 : Int), (q187, q188) = q184 ∧ Rep a 220 [(0, .slice a_v0 x0.length c_v0), (2, vi x2), (4, .func (.func 64) #[] #[]), (14, vi q187), (15, vi q188)] ∧ St w s (vecC 127 7 a_v0 c_v0 x0.length cs_v0 :: R)) ?_ ?_
     ·refine W.gen fun K189 hK189 => ?_
      refine W.cond hE rfl (fun hc190 => ?_) (fun hc190 => ?_)
      ·replace hq183 := iteT hc190 hq183
       refine W.region ?_
       refine v2 hS hE rfl rfl rfl rfl fun a hE => ?_
       refine vp hS hE rfl rfl fun a hE => WL.nil ?_
       subst hK189
       exact ⟨w64 ((w64 (Int.fdiv (IntKind.wrap .u64 (w64 (q159 + q160))) (2 ^ (min (Int.toNat 1) (IntKind.bits .u64))))) + 1), q160, hq183, hE.pick _ ⟨rfl, rfl, rfl, rfl, rfl, trivial⟩, hS⟩
      replace hq183 := iteF hc190 hq183
      refine W.region ?_
      refine v2 hS hE rfl rfl rfl rfl fun a hE => WL.nil ?_
      subst hK189
      exact ⟨q159, w64 (Int.fdiv (IntKind.wrap .u64 (w64 (q159 + q160))) (2 ^ (min (Int.toNat 1) (IntKind.bits .u64)))), hq183, hE.pick _ ⟨rfl, rfl, rfl, rfl, rfl, trivial⟩, hS⟩
     clear hE hS a w; rintro a w ⟨q187, q188, rfl, hE, hS⟩
     dsimp only at hq153
     subst hK161
     exact ⟨n155, Nat.lt_succ_self _, n155, q187, q188, rfl, hq153, hE.pick _ ⟨rfl, rfl, rfl, rfl, rfl, trivial⟩, hS⟩
    replace hq153 := iteF hc162 hq153
    subst hK161
    refine W.exit rfl ?_
    exact ⟨q159, q160, Option.some.inj hq153, hE.pick _ ⟨rfl, rfl, rfl, trivial⟩, hS⟩
   clear hE hS a w; rintro a w ⟨q159, q160, rfl, hE, hS⟩
   dsimp only at hr
   refine W.seq ?_
   refine W.seq (W.region (v2 hS hE rfl rfl rfl rfl fun a hE => WL.nil ?_))
   obtain ⟨q192, hq191, hr⟩ := bindS hr
   refine W.cut (fun a w => ∃ (q197 : Int), ∃ (q198 : List GuideRow), ∃ (cs202 : List Value), (q197, q198) = q192 ∧ Ev 7 RGuideRow s cs202 q198 ∧ q198.length = x0.length ∧ Rep a 220 [] ∧ St w s (vecC 127 7 a_v0 c_v0 x0.length cs202 :: R)) ?_ ?_
   ·refine W.block ?_
    refine W.loop (fun m a w => ∃ (n193 : Nat), ∃ (q197 : Int), ∃ (q198 : List GuideRow), ∃ (cs202 : List Value), n193 = m ∧ SlicessymMergeCmpFuncguiderow_v1.loop4 q159 n193 q197 q198 = some q192 ∧ Ev 7 RGuideRow s cs202 q198 ∧ q198.length = x0.length ∧ Rep a 220 [(0, .slice a_v0 x0.length c_v0), (14, vi q159), (17, vi q197)] ∧ St w s (vecC 127 7 a_v0 c_v0 x0.length cs202 :: R)) (m := fu) ⟨fu, x2, x0, cs_v0, rfl, hq191, h_v0, (rfl), hE.pick _ ⟨rfl, rfl, rfl, trivial⟩, hS⟩ ?_
    clear hE hS a w hq191; rintro m194 a w ⟨n193, q197, q198, cs202, rfl, hq191, h201, hn203, hE, hS⟩
    refine W.gen fun K204 hK204 => ?_
    rcases n193 with _ | n193
    ·rw [SlicessymMergeCmpFuncguiderow_v1.loop4] at hq191; exact absurd hq191 (by simp)
    rw [SlicessymMergeCmpFuncguiderow_v1.loop4] at hq191
    refine W.seq ?_
    refine W.seq (W.region (v2 hS hE rfl rfl rfl rfl fun a hE => ?_))
    refine vp hS hE rfl rfl fun a hE => WL.nil ?_
    refine W.cond hE rfl (fun hc205 => ?_) (fun hc205 => ?_)
    ·replace hq191 := iteT hc205 hq191
     refine W.skip ?_
     refine W.seq ?_
     refine W.block ?_
     refine W.gen fun K206 hK206 => ?_
     refine W.regionE (sel (fun w => St w s (vecC 127 7 a_v0 c_v0 x0.length cs202 :: R)) (fun w => St w s (R))) (fun b i => cond b ([0, 1, 2, 3, 4, 5, 6, 7, 8, 9, 10, 11, 12, 13, 14, 16].contains i) ([0, 1, 2, 3, 4, 5, 6, 7, 8, 9, 10, 11, 12, 13, 14, 15, 16, 17].contains i)) mixed ?_
     replace hS := hS.drew
     refine tP (i := 0) hE rfl (by kernel_rfl) (Gives.p hE rfl) rfl hS (hS.tail) fun a hE => ?_
     refine tP (i := 1) hE rfl (by kernel_rfl) (Gives.p hE rfl) rfl hS (hS.tail) fun a hE => ?_
     refine tP (i := 2) hE rfl (by kernel_rfl) (Gives.p hE rfl) rfl hS (hS.tail) fun a hE => ?_
     refine tP (i := 3) hE rfl (by kernel_rfl) (Gives.p hE rfl) rfl hS (hS.tail) fun a hE => ?_
     refine tP (i := 4) hE rfl (by kernel_rfl) (Gives.p hE rfl) rfl hS (hS.tail) fun a hE => ?_
     refine tP (i := 5) hE rfl (by kernel_rfl) (Gives.p hE rfl) rfl hS (hS.tail) fun a hE => ?_
     refine tP (i := 6) hE rfl (by kernel_rfl) (Gives.p hE rfl) rfl hS (hS.tail) fun a hE => ?_
     refine tP (i := 7) hE rfl (by kernel_rfl) (Gives.p hE rfl) rfl hS (hS.tail) fun a hE => ?_
     obtain ⟨x207, hx208, hq191⟩ := bindS hq191
     obtain ⟨hi209, hlt210, hy211⟩ := gx_some hx208
     obtain ⟨vs212, hl213, hR214, hd215, hget216⟩ := h201.at hy211
     subst hR214
     refine tP (i := 8) hE rfl (by kernel_rfl) (Gives.idx hE ((w64 (q197 - 1)).toNat) rfl rfl sl123 hi209 (by have := hn203; omega) (hS.vecAok 0 rfl (by have := hn203; omega : (w64 (q197 - 1)).toNat < x0.length))) rfl hS (hS.tail) fun a hE => ?_
     refine tT (i := 9) true rfl hE rfl (by kernel_rfl) (Gives.loadA hE rfl (fun w h => St.vecSees h 0 rfl ((w64 (q197 - 1)).toNat * 7) _ hget216) ty127) rfl hS (hS.tail) fun a hE => ?_
     refine tP (i := 10) hE rfl (by kernel_rfl) (Gives.p hE rfl) rfl hS (hS.tail) fun a hE => ?_
     refine tP (i := 11) hE rfl (by kernel_rfl) (Gives.p hE rfl) rfl hS (hS.tail) fun a hE => ?_
     obtain ⟨x217, hx218, hq191⟩ := bindS hq191
     obtain ⟨hi219, hlt220, hy221⟩ := gx_some hx218
     obtain ⟨vs222, hl223, hR224, hd225, hget226⟩ := h201.at hy221
     subst hR224
     refine tP (i := 12) hE rfl (by kernel_rfl) (Gives.idx hE ((q197).toNat) rfl rfl sl123 hi219 (by have := hn203; omega) (hS.vecAok 0 rfl (by have := hn203; omega : (q197).toNat < x0.length))) rfl hS (hS.tail) fun a hE => ?_
     refine tT (i := 13) true rfl hE rfl (by kernel_rfl) (Gives.loadA hE rfl (fun w h => St.vecSees h 0 rfl ((q197).toNat * 7) _ hget226) ty127) rfl hS (hS.tail) fun a hE => ?_
     obtain ⟨_, hx228, hq191⟩ := bindS hq191
     obtain ⟨h229, h230⟩ := ix_some hx228
     refine tP (i := 14) hE rfl (by kernel_rfl) (Gives.idx hE ((q197).toNat) rfl rfl sl123 h229 (by have := hn203; omega) (hS.vecAok 0 rfl (by have := hn203; omega : (q197).toNat < x0.length))) rfl hS (hS.tail) fun a hE => ?_
     refine Rg.one (i := 15) false true rfl (by kernel_rfl) (by kernel_rfl) (by kernel_rfl) ?_
     obtain ⟨x232, hx233, hq191⟩ := bindS hq191
     refine WL.setD hE hS 0 rfl (runs_plain rfl) rfl rfl (vs := [vi x207.Line.Time, vi x207.Line.Late, vi x207.Line.No, vi x207.Line.To, vi x207.Line.Track, .bool x207.Line.Ends, vi x207.stop]) rfl ty127 rfl rfl rfl h201 hn203 (sx_some hx233).1 hx233 rfl rfl ?_; clear hE hS a w; intro cs234 a w h235 hn236 hE hS
     refine WL.nil ?_
     refine ⟨⟨fun h => absurd h (by decide), fun _ => (hS.tail)⟩, ?_⟩
     obtain ⟨_, hx238, hq191⟩ := bindS hq191
     obtain ⟨h239, h240⟩ := ix_some hx238
     refine Rg.takeP (i := 16) hE rfl (by kernel_rfl) (runs_plain rfl) (Gives.idx hE ((w64 (q197 - 1)).toNat) rfl rfl sl123 h239 (by have := hn236; omega) (hS.vecAok 0 rfl (by have := hn236; omega : (w64 (q197 - 1)).toNat < x0.length))) rfl (tw_sel (fun h => absurd h (by decide)) (fun _ => (hS.tail))) fun a hE => ?_
     refine Rg.one (i := 17) false true rfl (by kernel_rfl) (by kernel_rfl) (by kernel_rfl) ?_
     obtain ⟨x242, hx243, hq191⟩ := bindS hq191
     refine WL.setD hE hS 0 rfl (runs_plain rfl) rfl rfl (vs := [vi x217.Line.Time, vi x217.Line.Late, vi x217.Line.No, vi x217.Line.To, vi x217.Line.Track, .bool x217.Line.Ends, vi x217.stop]) rfl ty127 rfl rfl rfl h235 hn236 (sx_some hx243).1 hx243 rfl rfl ?_; clear hE hS a w; intro cs244 a w h245 hn246 hE hS
     refine WL.nil ?_
     refine ⟨⟨fun h => absurd h (by decide), fun _ => (hS.tail)⟩, ?_⟩
     refine Rg.done (by kernel_rfl) ?_
     subst hK206
     refine W.region ?_
     refine v2 hS hE rfl rfl rfl rfl fun a hE => ?_
     refine vp hS hE rfl rfl fun a hE => WL.nil ?_
     subst hK204
     exact ⟨n193, Nat.lt_succ_self _, n193, (w64 (q197 - 1)), x242, cs244, rfl, hq191, h245, hn246, hE.pick _ ⟨rfl, rfl, rfl, trivial⟩, hS⟩
    replace hq191 := iteF hc205 hq191
    subst hK204
    refine W.exit rfl ?_
    exact ⟨q197, q198, cs202, Option.some.inj hq191, h201, hn203, hE.pick _ trivial, hS⟩
   clear hE hS a w; rintro a w ⟨q197, q198, cs202, rfl, h201, hn203, hE, hS⟩
   dsimp only at hr
   refine W.ret ?_
   refine finG (fn := Tryz.f147) (rs := []) (vs := []) hE rfl trivial ?_
   obtain rfl := Option.some.inj hr
   exact ⟨cs202, rfl, h201, hn203, hS⟩
  replace hr := iteF hc152 hr
  refine W.skip ?_
  refine W.seq (W.region (v2 hS hE rfl rfl rfl rfl fun a hE => ?_))
  refine vp hS hE rfl rfl fun a hE => ?_
  refine vP hS hE (Gives.conv hE rfl hu3 ui193) rfl fun a hE => ?_
  refine vP hS hE (Gives.shr hE rfl rfl (by decide)) rfl fun a hE => ?_
  refine vP hS hE (Gives.conv hE rfl hu193 ui3) rfl fun a hE => ?_
  refine vp hS hE rfl rfl fun a hE => WL.nil ?_
  refine W.seq (W.region (v2 hS hE rfl rfl rfl rfl fun a hE => ?_))
  refine v2 hS hE rfl rfl rfl rfl fun a hE => WL.nil ?_
  refine W.seq (W.region (v2 hS hE rfl rfl rfl rfl fun a hE => WL.nil ?_))
  refine W.seq ?_
  refine W.seq (W.region (v2 hS hE rfl rfl rfl rfl fun a hE => ?_))
  refine vp hS hE rfl rfl fun a hE => WL.nil ?_
  obtain ⟨q248, hq247, hr⟩ := bndS hr
  refine W.cut (fun a w => ∃ (q251 : Int), ∃ (q252 : Int), (q251, q252) = q248 ∧ Rep a 220 [(0, .slice a_v0 x0.length c_v0), (1, vi x1), (2, vi x2), (3, vi x3), (4, .func (.func 64) #[] #[]), (18, vi (w64 (Int.fdiv (IntKind.wrap .u64 (w64 (x1 + x3))) (2 ^ (min (Int.toNat 1) (IntKind.bits .u64)))))), (19, vi (w64 ((w64 (Int.fdiv (IntKind.wrap .u64 (w64 (x1 + x3))) (2 ^ (min (Int.toNat 1) (IntKind.bits .u64))))) + x2))), (20, vi q251), (21, vi q252)] ∧ St w s (vecC 127 7 a_v0 c_v0 x0.length cs_v0 :: R)) ?_ ?_
  ·refine W.gen fun K253 hK253 => ?_
   refine W.cond hE rfl (fun hc254 => ?_) (fun hc254 => ?_)
   ·replace hq247 := iteT hc254 hq247
    refine W.seq (W.region (v2 hS hE rfl rfl rfl rfl fun a hE => ?_))
    refine v2 hS hE rfl rfl rfl rfl fun a hE => WL.nil ?_
    refine W.region ?_
    refine v2 hS hE rfl rfl rfl rfl fun a hE => WL.nil ?_
    subst hK253
    exact ⟨w64 ((w64 ((w64 (Int.fdiv (IntKind.wrap .u64 (w64 (x1 + x3))) (2 ^ (min (Int.toNat 1) (IntKind.bits .u64))))) + x2)) - x3), w64 (Int.fdiv (IntKind.wrap .u64 (w64 (x1 + x3))) (2 ^ (min (Int.toNat 1) (IntKind.bits .u64)))), hq247, hE.pick _ ⟨rfl, rfl, rfl, rfl, rfl, rfl, rfl, rfl, rfl, trivial⟩, hS⟩
   replace hq247 := iteF hc254 hq247
   refine W.seq (W.region (v2 hS hE rfl rfl rfl rfl fun a hE => WL.nil ?_))
   refine W.region ?_
   refine v2 hS hE rfl rfl rfl rfl fun a hE => WL.nil ?_
   subst hK253
   exact ⟨x1, x2, hq247, hE.pick _ ⟨rfl, rfl, rfl, rfl, rfl, rfl, rfl, rfl, rfl, trivial⟩, hS⟩
  clear hE hS a w; rintro a w ⟨q251, q252, rfl, hE, hS⟩
  dsimp only at hr
  refine W.seq (W.region (v2 hS hE rfl rfl rfl rfl fun a hE => ?_))
  refine vp hS hE rfl rfl fun a hE => WL.nil ?_
  refine W.seq ?_
  obtain ⟨q256, hq255, hr⟩ := bindS hr
  refine W.cut (fun a w => ∃ (q261 : Int), ∃ (q262 : Int), (q261, q262) = q256 ∧ Rep a 220 [(0, .slice a_v0 x0.length c_v0), (1, vi x1), (2, vi x2), (3, vi x3), (4, .func (.func 64) #[] #[]), (18, vi (w64 (Int.fdiv (IntKind.wrap .u64 (w64 (x1 + x3))) (2 ^ (min (Int.toNat 1) (IntKind.bits .u64)))))), (19, vi (w64 ((w64 (Int.fdiv (IntKind.wrap .u64 (w64 (x1 + x3))) (2 ^ (min (Int.toNat 1) (IntKind.bits .u64))))) + x2))), (20, vi q261)] ∧ St w s (vecC 127 7 a_v0 c_v0 x0.length cs_v0 :: R)) ?_ ?_
  ·refine W.block ?_
   refine W.loop (fun m a w => ∃ (n257 : Nat), ∃ (q261 : Int), ∃ (q262 : Int), n257 = m ∧ SlicessymMergeCmpFuncguiderow_v1.loop5 x0 x1 x2 x3 n257 q261 q262 = some q256 ∧ Rep a 220 [(0, .slice a_v0 x0.length c_v0), (1, vi x1), (2, vi x2), (3, vi x3), (4, .func (.func 64) #[] #[]), (18, vi (w64 (Int.fdiv (IntKind.wrap .u64 (w64 (x1 + x3))) (2 ^ (min (Int.toNat 1) (IntKind.bits .u64)))))), (19, vi (w64 ((w64 (Int.fdiv (IntKind.wrap .u64 (w64 (x1 + x3))) (2 ^ (min (Int.toNat 1) (IntKind.bits .u64))))) + x2))), (20, vi q261), (21, vi q262), (22, vi (w64 ((w64 ((w64 (Int.fdiv (IntKind.wrap .u64 (w64 (x1 + x3))) (2 ^ (min (Int.toNat 1) (IntKind.bits .u64))))) + x2)) - 1)))] ∧ St w s (vecC 127 7 a_v0 c_v0 x0.length cs_v0 :: R)) (m := fu) ⟨fu, q251, q252, rfl, hq255, hE.pick _ ⟨rfl, rfl, rfl, rfl, rfl, rfl, rfl, rfl, rfl, rfl, trivial⟩, hS⟩ ?_
   clear hE hS a w hq255; rintro m258 a w ⟨n257, q261, q262, rfl, hq255, hE, hS⟩
   refine W.gen fun K263 hK263 => ?_
   rcases n257 with _ | n257
   ·rw [SlicessymMergeCmpFuncguiderow_v1.loop5] at hq255; exact absurd hq255 (by simp)
   rw [SlicessymMergeCmpFuncguiderow_v1.loop5] at hq255
   refine W.seq ?_
   refine W.seq (W.region (v2 hS hE rfl rfl rfl rfl fun a hE => ?_))
   refine vp hS hE rfl rfl fun a hE => WL.nil ?_
   refine W.cond hE rfl (fun hc264 => ?_) (fun hc264 => ?_)
   ·replace hq255 := iteT hc264 hq255
    refine W.skip ?_
    refine W.block ?_
    refine W.seq (W.region (v2 hS hE rfl rfl rfl rfl fun a hE => ?_))
    refine vp hS hE rfl rfl fun a hE => ?_
    refine vP hS hE (Gives.conv hE rfl hu3 ui193) rfl fun a hE => ?_
    refine vP hS hE (Gives.shr hE rfl rfl (by decide)) rfl fun a hE => ?_
    refine vP hS hE (Gives.conv hE rfl hu193 ui3) rfl fun a hE => ?_
    refine vp hS hE rfl rfl fun a hE => WL.nil ?_
    refine W.seq ?_
    refine W.regionQ (C := fun w => St w s (vecC 127 7 a_v0 c_v0 x0.length cs_v0 :: R)) mixed (by kernel_rfl) hS.drew ?_
    refine qP hE (Gives.p hE rfl) rfl fun a hE => ?_
    refine qP hE (Gives.p hE rfl) rfl fun a hE => ?_
    refine qP hE (Gives.p hE rfl) rfl fun a hE => ?_
    refine qP hE (Gives.p hE rfl) rfl fun a hE => ?_
    refine qP hE (Gives.p hE rfl) rfl fun a hE => ?_
    obtain ⟨x265, hx266, hq255⟩ := bindS hq255
    obtain ⟨hi267, hlt268, hy269⟩ := gx_some hx266
    obtain ⟨vs270, hl271, hR272, hd273, hget274⟩ := h_v0.at hy269
    subst hR272
    refine qP hE (Gives.idx hE ((w64 ((w64 ((w64 ((w64 (Int.fdiv (IntKind.wrap .u64 (w64 (x1 + x3))) (2 ^ (min (Int.toNat 1) (IntKind.bits .u64))))) + x2)) - 1)) - (w64 (Int.fdiv (IntKind.wrap .u64 (w64 (q261 + q262))) (2 ^ (min (Int.toNat 1) (IntKind.bits .u64))))))).toNat) rfl rfl sl123 hi267 (by omega) (hS.vecAok 0 rfl (by omega : (w64 ((w64 ((w64 ((w64 (Int.fdiv (IntKind.wrap .u64 (w64 (x1 + x3))) (2 ^ (min (Int.toNat 1) (IntKind.bits .u64))))) + x2)) - 1)) - (w64 (Int.fdiv (IntKind.wrap .u64 (w64 (q261 + q262))) (2 ^ (min (Int.toNat 1) (IntKind.bits .u64))))))).toNat < x0.length))) rfl fun a hE => ?_
    refine qP hE (Gives.loadA hE rfl (fun w h => St.vecSees h 0 rfl ((w64 ((w64 ((w64 ((w64 (Int.fdiv (IntKind.wrap .u64 (w64 (x1 + x3))) (2 ^ (min (Int.toNat 1) (IntKind.bits .u64))))) + x2)) - 1)) - (w64 (Int.fdiv (IntKind.wrap .u64 (w64 (q261 + q262))) (2 ^ (min (Int.toNat 1) (IntKind.bits .u64))))))).toNat * 7) _ hget274) ty127) rfl fun a hE => ?_
    refine qP hE (Gives.p hE rfl) rfl fun a hE => ?_
    refine qP hE (Gives.p hE rfl) rfl fun a hE => ?_
    obtain ⟨x275, hx276, hq255⟩ := bindS hq255
    obtain ⟨hi277, hlt278, hy279⟩ := gx_some hx276
    obtain ⟨vs280, hl281, hR282, hd283, hget284⟩ := h_v0.at hy279
    subst hR282
    refine qP hE (Gives.idx hE ((w64 (Int.fdiv (IntKind.wrap .u64 (w64 (q261 + q262))) (2 ^ (min (Int.toNat 1) (IntKind.bits .u64))))).toNat) rfl rfl sl123 hi277 (by omega) (hS.vecAok 0 rfl (by omega : (w64 (Int.fdiv (IntKind.wrap .u64 (w64 (q261 + q262))) (2 ^ (min (Int.toNat 1) (IntKind.bits .u64))))).toNat < x0.length))) rfl fun a hE => ?_
    refine qP hE (Gives.loadA hE rfl (fun w h => St.vecSees h 0 rfl ((w64 (Int.fdiv (IntKind.wrap .u64 (w64 (q261 + q262))) (2 ^ (min (Int.toNat 1) (IntKind.bits .u64))))).toNat * 7) _ hget284) ty127) rfl fun a hE => ?_
    refine QL.fnw hE (fun w hS => GuideBoard_2_ok hS  rfl (r := GuideBoard_2 x265 x275)) rfl (runs_plain rfl) bd64 rfl rfl rfl fun a hE => ?_
    refine qP hE (Gives.p hE rfl) rfl fun a hE => ?_
    refine qP hE (Gives.p hE rfl) rfl fun a hE => ?_
    refine QL.nil ?_; clear hS w; intro w hS
    obtain ⟨q286, hq285, hq255⟩ := bndS hq255
    refine W.cut (fun a w => ∃ (q289 : Int), ∃ (q290 : Int), (q289, q290) = q286 ∧ Rep a 220 [(0, .slice a_v0 x0.length c_v0), (1, vi x1), (2, vi x2), (3, vi x3), (4, .func (.func 64) #[] #[]), (18, vi (w64 (Int.fdiv (IntKind.wrap .u64 (w64 (x1 + x3))) (2 ^ (min (Int.toNat 1) (IntKind.bits .u64)))))), (19, vi (w64 ((w64 (Int.fdiv (IntKind.wrap .u64 (w64 (x1 + x3))) (2 ^ (min (Int.toNat 1) (IntKind.bits .u64))))) + x2))), (20, vi q289), (21, vi q290), (22, vi (w64 ((w64 ((w64 (Int.fdiv (IntKind.wrap .u64 (w64 (x1 + x3))) (2 ^ (min (Int.toNat 1) (IntKind.bits .u64))))) + x2)) - 1)))] ∧ St w s (vecC 127 7 a_v0 c_v0 x0.length cs_v0 :: R)) ?_ ?_
    ·refine W.gen fun K291 hK291 => ?_
     refine W.cond hE rfl (fun hc292 => ?_) (fun hc292 => ?_)
     ·replace hq285 := iteT hc292 hq285
      refine W.region ?_
      refine v2 hS hE rfl rfl rfl rfl fun a hE => ?_
      refine vp hS hE rfl rfl fun a hE => WL.nil ?_
      subst hK291
      exact ⟨w64 ((w64 (Int.fdiv (IntKind.wrap .u64 (w64 (q261 + q262))) (2 ^ (min (Int.toNat 1) (IntKind.bits .u64))))) + 1), q262, hq285, hE.pick _ ⟨rfl, rfl, rfl, rfl, rfl, rfl, rfl, rfl, rfl, rfl, trivial⟩, hS⟩
     replace hq285 := iteF hc292 hq285
     refine W.region ?_
     refine v2 hS hE rfl rfl rfl rfl fun a hE => WL.nil ?_
     subst hK291
     exact ⟨q261, w64 (Int.fdiv (IntKind.wrap .u64 (w64 (q261 + q262))) (2 ^ (min (Int.toNat 1) (IntKind.bits .u64)))), hq285, hE.pick _ ⟨rfl, rfl, rfl, rfl, rfl, rfl, rfl, rfl, rfl, rfl, trivial⟩, hS⟩
    clear hE hS a w; rintro a w ⟨q289, q290, rfl, hE, hS⟩
    dsimp only at hq255
    subst hK263
    exact ⟨n257, Nat.lt_succ_self _, n257, q289, q290, rfl, hq255, hE.pick _ ⟨rfl, rfl, rfl, rfl, rfl, rfl, rfl, rfl, rfl, rfl, trivial⟩, hS⟩
   replace hq255 := iteF hc264 hq255
   subst hK263
   refine W.exit rfl ?_
   exact ⟨q261, q262, Option.some.inj hq255, hE.pick _ ⟨rfl, rfl, rfl, rfl, rfl, rfl, rfl, rfl, trivial⟩, hS⟩
  clear hE hS a w; rintro a w ⟨q261, q262, rfl, hE, hS⟩
  dsimp only at hr
  refine W.seq (W.region (v2 hS hE rfl rfl rfl rfl fun a hE => ?_))
  refine v2 hS hE rfl rfl rfl rfl fun a hE => WL.nil ?_
  refine W.seq ?_
  refine W.seq ?_
  obtain ⟨q294, hq293, hr⟩ := bndS hr
  refine W.cut (fun a w => ∃ (q297 : Bool), q297 = q294 ∧ Rep a 220 [(0, .slice a_v0 x0.length c_v0), (1, vi x1), (2, vi x2), (3, vi x3), (4, .func (.func 64) #[] #[]), (18, vi (w64 (Int.fdiv (IntKind.wrap .u64 (w64 (x1 + x3))) (2 ^ (min (Int.toNat 1) (IntKind.bits .u64)))))), (20, vi q261), (24, vi (w64 ((w64 ((w64 (Int.fdiv (IntKind.wrap .u64 (w64 (x1 + x3))) (2 ^ (min (Int.toNat 1) (IntKind.bits .u64))))) + x2)) - q261))), (185, .bool q297)] ∧ St w s (vecC 127 7 a_v0 c_v0 x0.length cs_v0 :: R)) ?_ ?_
  ·refine W.gen fun K298 hK298 => ?_
   refine W.region ?_
   refine v2 hS hE rfl rfl rfl rfl fun a hE => ?_
   refine v2 hS hE rfl rfl rfl rfl fun a hE => ?_
   rcases Bool.eq_false_or_eq_true (decide (q261 < x2)) with hg299 | hg299
   ·replace hq293 := iteT hg299 hq293
    refine WL.vS hS hE (runs_if hE rfl rfl rfl hg299) (Gives.p hE rfl) rfl fun a hE => ?_
    refine WL.vS hS hE (runs_if hE rfl rfl rfl hg299) (Gives.p hE rfl) rfl fun a hE => ?_
    refine WL.vS hS hE (runs_if hE rfl rfl rfl hg299) (Gives.p hE rfl) rfl fun a hE => ?_
    refine vP hS hE (Gives.pickT hE rfl hg299 rfl) rfl fun a hE => WL.nil ?_
    subst hK298
    exact ⟨decide (x2 < (w64 ((w64 ((w64 (Int.fdiv (IntKind.wrap .u64 (w64 (x1 + x3))) (2 ^ (min (Int.toNat 1) (IntKind.bits .u64))))) + x2)) - q261))), hq293, hE.pick _ ⟨rfl, rfl, rfl, rfl, rfl, rfl, rfl, rfl, rfl, trivial⟩, hS⟩
   replace hq293 := iteF hg299 hq293
   refine nO hE rfl rfl rfl (by rw [hg299]; decide) rfl fun a hE => ?_
   refine nO hE rfl rfl rfl (by rw [hg299]; decide) rfl fun a hE => ?_
   refine nO hE rfl rfl rfl (by rw [hg299]; decide) rfl fun a hE => ?_
   refine vP hS hE (Gives.pickF hE rfl hg299 rfl) rfl fun a hE => WL.nil ?_
   subst hK298
   exact ⟨false, hq293, hE.pick _ ⟨rfl, rfl, rfl, rfl, rfl, rfl, rfl, rfl, rfl, trivial⟩, hS⟩
  clear hE hS a w; rintro a w ⟨q297, rfl, hE, hS⟩
  refine W.cond hE rfl (fun hc300 => ?_) (fun hc300 => ?_)
  ·replace hr := iteT hc300 hr
   refine W.region ?_
   refine v2 hS hE rfl rfl rfl rfl fun a hE => ?_
   refine v2 hS hE rfl rfl rfl rfl fun a hE => ?_
   refine vp hS hE rfl rfl fun a hE => ?_
   obtain ⟨q301, hq302, hr⟩ := bindS hr
   have hc_ := SlicesrotateCmpFuncguiderow_v1_ok hS h_v0 (rfl) hq302
   refine WL.fnq hE (hc_) (runs_plain rfl) bd173 rfl rfl rfl ?_
   clear hE hS hc_; rintro e w ⟨cs303, rfl, h304, hn305, hS⟩; refine ⟨_, rfl, ?_⟩; clear a; intro a hE
   refine WL.nil ?_
   refine W.seq ?_
   refine W.seq ?_
   obtain ⟨q307, hq306, hr⟩ := bndS hr
   refine W.cut (fun a w => ∃ (q310 : Bool), q310 = q307 ∧ Rep a 220 [(0, .slice a_v0 x0.length c_v0), (1, vi x1), (3, vi x3), (4, .func (.func 64) #[] #[]), (18, vi (w64 (Int.fdiv (IntKind.wrap .u64 (w64 (x1 + x3))) (2 ^ (min (Int.toNat 1) (IntKind.bits .u64)))))), (20, vi q261), (24, vi (w64 ((w64 ((w64 (Int.fdiv (IntKind.wrap .u64 (w64 (x1 + x3))) (2 ^ (min (Int.toNat 1) (IntKind.bits .u64))))) + x2)) - q261))), (199, .bool q310)] ∧ St w s (vecC 127 7 a_v0 c_v0 x0.length cs303 :: R)) ?_ ?_
   ·refine W.gen fun K311 hK311 => ?_
    refine W.region ?_
    refine v2 hS hE rfl rfl rfl rfl fun a hE => ?_
    refine v2 hS hE rfl rfl rfl rfl fun a hE => ?_
    rcases Bool.eq_false_or_eq_true (decide (x1 < q261)) with hg312 | hg312
    ·replace hq306 := iteT hg312 hq306
     refine WL.vS hS hE (runs_if hE rfl rfl rfl hg312) (Gives.p hE rfl) rfl fun a hE => ?_
     refine WL.vS hS hE (runs_if hE rfl rfl rfl hg312) (Gives.p hE rfl) rfl fun a hE => ?_
     refine WL.vS hS hE (runs_if hE rfl rfl rfl hg312) (Gives.p hE rfl) rfl fun a hE => ?_
     refine vP hS hE (Gives.pickT hE rfl hg312 rfl) rfl fun a hE => WL.nil ?_
     subst hK311
     exact ⟨decide (q261 < (w64 (Int.fdiv (IntKind.wrap .u64 (w64 (x1 + x3))) (2 ^ (min (Int.toNat 1) (IntKind.bits .u64)))))), hq306, hE.pick _ ⟨rfl, rfl, rfl, rfl, rfl, rfl, rfl, rfl, trivial⟩, hS⟩
    replace hq306 := iteF hg312 hq306
    refine nO hE rfl rfl rfl (by rw [hg312]; decide) rfl fun a hE => ?_
    refine nO hE rfl rfl rfl (by rw [hg312]; decide) rfl fun a hE => ?_
    refine nO hE rfl rfl rfl (by rw [hg312]; decide) rfl fun a hE => ?_
    refine vP hS hE (Gives.pickF hE rfl hg312 rfl) rfl fun a hE => WL.nil ?_
    subst hK311
    exact ⟨false, hq306, hE.pick _ ⟨rfl, rfl, rfl, rfl, rfl, rfl, rfl, rfl, trivial⟩, hS⟩
   clear hE hS a w; rintro a w ⟨q310, rfl, hE, hS⟩
   refine W.cond hE rfl (fun hc313 => ?_) (fun hc313 => ?_)
   ·replace hr := iteT hc313 hr
    refine W.region ?_
    refine v2 hS hE rfl rfl rfl rfl fun a hE => ?_
    refine v2 hS hE rfl rfl rfl rfl fun a hE => ?_
    refine vp hS hE rfl rfl fun a hE => ?_
    obtain ⟨q314, hq315, hr⟩ := bindS hr
    have hc_ := ih_SlicessymMergeCmpFuncguiderow_v1 hS h304 hn305 hq315
    refine WL.fnq hE (hc_) (runs_plain rfl) bd147 rfl rfl rfl ?_
    clear hE hS hc_; rintro e w ⟨cs316, rfl, h317, hn318, hS⟩; refine ⟨_, rfl, ?_⟩; clear a; intro a hE
    refine WL.nil ?_
    refine W.seq ?_
    obtain ⟨q320, hq319, hr⟩ := bndS hr
    refine W.cut (fun a w => ∃ (q323 : Bool), q323 = q320 ∧ Rep a 220 [(0, .slice a_v0 x0.length c_v0), (3, vi x3), (4, .func (.func 64) #[] #[]), (18, vi (w64 (Int.fdiv (IntKind.wrap .u64 (w64 (x1 + x3))) (2 ^ (min (Int.toNat 1) (IntKind.bits .u64)))))), (24, vi (w64 ((w64 ((w64 (Int.fdiv (IntKind.wrap .u64 (w64 (x1 + x3))) (2 ^ (min (Int.toNat 1) (IntKind.bits .u64))))) + x2)) - q261))), (213, .bool q323)] ∧ St w s (vecC 127 7 a_v0 c_v0 x0.length cs316 :: R)) ?_ ?_
    ·refine W.gen fun K324 hK324 => ?_
     refine W.region ?_
     refine v2 hS hE rfl rfl rfl rfl fun a hE => ?_
     refine v2 hS hE rfl rfl rfl rfl fun a hE => ?_
     rcases Bool.eq_false_or_eq_true (decide ((w64 (Int.fdiv (IntKind.wrap .u64 (w64 (x1 + x3))) (2 ^ (min (Int.toNat 1) (IntKind.bits .u64))))) < (w64 ((w64 ((w64 (Int.fdiv (IntKind.wrap .u64 (w64 (x1 + x3))) (2 ^ (min (Int.toNat 1) (IntKind.bits .u64))))) + x2)) - q261)))) with hg325 | hg325
     ·replace hq319 := iteT hg325 hq319
      refine WL.vS hS hE (runs_if hE rfl rfl rfl hg325) (Gives.p hE rfl) rfl fun a hE => ?_
      refine WL.vS hS hE (runs_if hE rfl rfl rfl hg325) (Gives.p hE rfl) rfl fun a hE => ?_
      refine WL.vS hS hE (runs_if hE rfl rfl rfl hg325) (Gives.p hE rfl) rfl fun a hE => ?_
      refine vP hS hE (Gives.pickT hE rfl hg325 rfl) rfl fun a hE => WL.nil ?_
      subst hK324
      exact ⟨decide ((w64 ((w64 ((w64 (Int.fdiv (IntKind.wrap .u64 (w64 (x1 + x3))) (2 ^ (min (Int.toNat 1) (IntKind.bits .u64))))) + x2)) - q261)) < x3), hq319, hE.pick _ ⟨rfl, rfl, rfl, rfl, rfl, rfl, trivial⟩, hS⟩
     replace hq319 := iteF hg325 hq319
     refine nO hE rfl rfl rfl (by rw [hg325]; decide) rfl fun a hE => ?_
     refine nO hE rfl rfl rfl (by rw [hg325]; decide) rfl fun a hE => ?_
     refine nO hE rfl rfl rfl (by rw [hg325]; decide) rfl fun a hE => ?_
     refine vP hS hE (Gives.pickF hE rfl hg325 rfl) rfl fun a hE => WL.nil ?_
     subst hK324
     exact ⟨false, hq319, hE.pick _ ⟨rfl, rfl, rfl, rfl, rfl, rfl, trivial⟩, hS⟩
    clear hE hS a w; rintro a w ⟨q323, rfl, hE, hS⟩
    refine W.cond hE rfl (fun hc326 => ?_) (fun hc326 => ?_)
    ·replace hr := iteT hc326 hr
     refine W.region ?_
     refine v2 hS hE rfl rfl rfl rfl fun a hE => ?_
     refine v2 hS hE rfl rfl rfl rfl fun a hE => ?_
     refine vp hS hE rfl rfl fun a hE => ?_
     obtain ⟨q327, hq328, hr⟩ := bindS hr
     have hc_ := ih_SlicessymMergeCmpFuncguiderow_v1 hS h317 hn318 hq328
     refine WL.fnq hE (hc_) (runs_plain rfl) bd147 rfl rfl rfl ?_
     clear hE hS hc_; rintro e w ⟨cs329, rfl, h330, hn331, hS⟩; refine ⟨_, rfl, ?_⟩; clear a; intro a hE
     refine WL.nil ?_
     refine finG (fn := Tryz.f147) (rs := []) (vs := []) hE rfl trivial ?_
     obtain rfl := Option.some.inj hr
     exact ⟨cs329, rfl, h330, hn331, hS⟩
    replace hr := iteF hc326 hr
    refine W.skip ?_
    refine finG (fn := Tryz.f147) (rs := []) (vs := []) hE rfl trivial ?_
    obtain rfl := Option.some.inj hr
    exact ⟨cs316, rfl, h317, hn318, hS⟩
   replace hr := iteF hc313 hr
   refine W.skip ?_
   refine W.seq ?_
   obtain ⟨q333, hq332, hr⟩ := bndS hr
   refine W.cut (fun a w => ∃ (q336 : Bool), q336 = q333 ∧ Rep a 220 [(0, .slice a_v0 x0.length c_v0), (3, vi x3), (4, .func (.func 64) #[] #[]), (18, vi (w64 (Int.fdiv (IntKind.wrap .u64 (w64 (x1 + x3))) (2 ^ (min (Int.toNat 1) (IntKind.bits .u64)))))), (24, vi (w64 ((w64 ((w64 (Int.fdiv (IntKind.wrap .u64 (w64 (x1 + x3))) (2 ^ (min (Int.toNat 1) (IntKind.bits .u64))))) + x2)) - q261))), (213, .bool q336)] ∧ St w s (vecC 127 7 a_v0 c_v0 x0.length cs303 :: R)) ?_ ?_
   ·refine W.gen fun K337 hK337 => ?_
    refine W.region ?_
    refine v2 hS hE rfl rfl rfl rfl fun a hE => ?_
    refine v2 hS hE rfl rfl rfl rfl fun a hE => ?_
    rcases Bool.eq_false_or_eq_true (decide ((w64 (Int.fdiv (IntKind.wrap .u64 (w64 (x1 + x3))) (2 ^ (min (Int.toNat 1) (IntKind.bits .u64))))) < (w64 ((w64 ((w64 (Int.fdiv (IntKind.wrap .u64 (w64 (x1 + x3))) (2 ^ (min (Int.toNat 1) (IntKind.bits .u64))))) + x2)) - q261)))) with hg338 | hg338
    ·replace hq332 := iteT hg338 hq332
     refine WL.vS hS hE (runs_if hE rfl rfl rfl hg338) (Gives.p hE rfl) rfl fun a hE => ?_
     refine WL.vS hS hE (runs_if hE rfl rfl rfl hg338) (Gives.p hE rfl) rfl fun a hE => ?_
     refine WL.vS hS hE (runs_if hE rfl rfl rfl hg338) (Gives.p hE rfl) rfl fun a hE => ?_
     refine vP hS hE (Gives.pickT hE rfl hg338 rfl) rfl fun a hE => WL.nil ?_
     subst hK337
     exact ⟨decide ((w64 ((w64 ((w64 (Int.fdiv (IntKind.wrap .u64 (w64 (x1 + x3))) (2 ^ (min (Int.toNat 1) (IntKind.bits .u64))))) + x2)) - q261)) < x3), hq332, hE.pick _ ⟨rfl, rfl, rfl, rfl, rfl, rfl, trivial⟩, hS⟩
    replace hq332 := iteF hg338 hq332
    refine nO hE rfl rfl rfl (by rw [hg338]; decide) rfl fun a hE => ?_
    refine nO hE rfl rfl rfl (by rw [hg338]; decide) rfl fun a hE => ?_
    refine nO hE rfl rfl rfl (by rw [hg338]; decide) rfl fun a hE => ?_
    refine vP hS hE (Gives.pickF hE rfl hg338 rfl) rfl fun a hE => WL.nil ?_
    subst hK337
    exact ⟨false, hq332, hE.pick _ ⟨rfl, rfl, rfl, rfl, rfl, rfl, trivial⟩, hS⟩
   clear hE hS a w; rintro a w ⟨q336, rfl, hE, hS⟩
   refine W.cond hE rfl (fun hc339 => ?_) (fun hc339 => ?_)
   ·replace hr := iteT hc339 hr
    refine W.region ?_
    refine v2 hS hE rfl rfl rfl rfl fun a hE => ?_
    refine v2 hS hE rfl rfl rfl rfl fun a hE => ?_
    refine vp hS hE rfl rfl fun a hE => ?_
    obtain ⟨q340, hq341, hr⟩ := bindS hr
    have hc_ := ih_SlicessymMergeCmpFuncguiderow_v1 hS h304 hn305 hq341
    refine WL.fnq hE (hc_) (runs_plain rfl) bd147 rfl rfl rfl ?_
    clear hE hS hc_; rintro e w ⟨cs342, rfl, h343, hn344, hS⟩; refine ⟨_, rfl, ?_⟩; clear a; intro a hE
    refine WL.nil ?_
    refine finG (fn := Tryz.f147) (rs := []) (vs := []) hE rfl trivial ?_
    obtain rfl := Option.some.inj hr
    exact ⟨cs342, rfl, h343, hn344, hS⟩
   replace hr := iteF hc339 hr
   refine W.skip ?_
   refine finG (fn := Tryz.f147) (rs := []) (vs := []) hE rfl trivial ?_
   obtain rfl := Option.some.inj hr
   exact ⟨cs303, rfl, h304, hn305, hS⟩
  replace hr := iteF hc300 hr
  refine W.skip ?_
  refine W.seq ?_
  refine W.seq ?_
  obtain ⟨q346, hq345, hr⟩ := bndS hr
  refine W.cut (fun a w => ∃ (q349 : Bool), q349 = q346 ∧ Rep a 220 [(0, .slice a_v0 x0.length c_v0), (1, vi x1), (3, vi x3), (4, .func (.func 64) #[] #[]), (18, vi (w64 (Int.fdiv (IntKind.wrap .u64 (w64 (x1 + x3))) (2 ^ (min (Int.toNat 1) (IntKind.bits .u64)))))), (20, vi q261), (24, vi (w64 ((w64 ((w64 (Int.fdiv (IntKind.wrap .u64 (w64 (x1 + x3))) (2 ^ (min (Int.toNat 1) (IntKind.bits .u64))))) + x2)) - q261))), (199, .bool q349)] ∧ St w s (vecC 127 7 a_v0 c_v0 x0.length cs_v0 :: R)) ?_ ?_
  ·refine W.gen fun K350 hK350 => ?_
   refine W.region ?_
   refine v2 hS hE rfl rfl rfl rfl fun a hE => ?_
   refine v2 hS hE rfl rfl rfl rfl fun a hE => ?_
   rcases Bool.eq_false_or_eq_true (decide (x1 < q261)) with hg351 | hg351
   ·replace hq345 := iteT hg351 hq345
    refine WL.vS hS hE (runs_if hE rfl rfl rfl hg351) (Gives.p hE rfl) rfl fun a hE => ?_
    refine WL.vS hS hE (runs_if hE rfl rfl rfl hg351) (Gives.p hE rfl) rfl fun a hE => ?_
    refine WL.vS hS hE (runs_if hE rfl rfl rfl hg351) (Gives.p hE rfl) rfl fun a hE => ?_
    refine vP hS hE (Gives.pickT hE rfl hg351 rfl) rfl fun a hE => WL.nil ?_
    subst hK350
    exact ⟨decide (q261 < (w64 (Int.fdiv (IntKind.wrap .u64 (w64 (x1 + x3))) (2 ^ (min (Int.toNat 1) (IntKind.bits .u64)))))), hq345, hE.pick _ ⟨rfl, rfl, rfl, rfl, rfl, rfl, rfl, rfl, trivial⟩, hS⟩
   replace hq345 := iteF hg351 hq345
   refine nO hE rfl rfl rfl (by rw [hg351]; decide) rfl fun a hE => ?_
   refine nO hE rfl rfl rfl (by rw [hg351]; decide) rfl fun a hE => ?_
   refine nO hE rfl rfl rfl (by rw [hg351]; decide) rfl fun a hE => ?_
   refine vP hS hE (Gives.pickF hE rfl hg351 rfl) rfl fun a hE => WL.nil ?_
   subst hK350
   exact ⟨false, hq345, hE.pick _ ⟨rfl, rfl, rfl, rfl, rfl, rfl, rfl, rfl, trivial⟩, hS⟩
  clear hE hS a w; rintro a w ⟨q349, rfl, hE, hS⟩
  refine W.cond hE rfl (fun hc352 => ?_) (fun hc352 => ?_)
  ·replace hr := iteT hc352 hr
   refine W.region ?_
   refine v2 hS hE rfl rfl rfl rfl fun a hE => ?_
   refine v2 hS hE rfl rfl rfl rfl fun a hE => ?_
   refine vp hS hE rfl rfl fun a hE => ?_
   obtain ⟨q353, hq354, hr⟩ := bindS hr
   have hc_ := ih_SlicessymMergeCmpFuncguiderow_v1 hS h_v0 (rfl) hq354
   refine WL.fnq hE (hc_) (runs_plain rfl) bd147 rfl rfl rfl ?_
   clear hE hS hc_; rintro e w ⟨cs355, rfl, h356, hn357, hS⟩; refine ⟨_, rfl, ?_⟩; clear a; intro a hE
   refine WL.nil ?_
   refine W.seq ?_
   obtain ⟨q359, hq358, hr⟩ := bndS hr
   refine W.cut (fun a w => ∃ (q362 : Bool), q362 = q359 ∧ Rep a 220 [(0, .slice a_v0 x0.length c_v0), (3, vi x3), (4, .func (.func 64) #[] #[]), (18, vi (w64 (Int.fdiv (IntKind.wrap .u64 (w64 (x1 + x3))) (2 ^ (min (Int.toNat 1) (IntKind.bits .u64)))))), (24, vi (w64 ((w64 ((w64 (Int.fdiv (IntKind.wrap .u64 (w64 (x1 + x3))) (2 ^ (min (Int.toNat 1) (IntKind.bits .u64))))) + x2)) - q261))), (213, .bool q362)] ∧ St w s (vecC 127 7 a_v0 c_v0 x0.length cs355 :: R)) ?_ ?_
   ·refine W.gen fun K363 hK363 => ?_
    refine W.region ?_
    refine v2 hS hE rfl rfl rfl rfl fun a hE => ?_
    refine v2 hS hE rfl rfl rfl rfl fun a hE => ?_
    rcases Bool.eq_false_or_eq_true (decide ((w64 (Int.fdiv (IntKind.wrap .u64 (w64 (x1 + x3))) (2 ^ (min (Int.toNat 1) (IntKind.bits .u64))))) < (w64 ((w64 ((w64 (Int.fdiv (IntKind.wrap .u64 (w64 (x1 + x3))) (2 ^ (min (Int.toNat 1) (IntKind.bits .u64))))) + x2)) - q261)))) with hg364 | hg364
    ·replace hq358 := iteT hg364 hq358
     refine WL.vS hS hE (runs_if hE rfl rfl rfl hg364) (Gives.p hE rfl) rfl fun a hE => ?_
     refine WL.vS hS hE (runs_if hE rfl rfl rfl hg364) (Gives.p hE rfl) rfl fun a hE => ?_
     refine WL.vS hS hE (runs_if hE rfl rfl rfl hg364) (Gives.p hE rfl) rfl fun a hE => ?_
     refine vP hS hE (Gives.pickT hE rfl hg364 rfl) rfl fun a hE => WL.nil ?_
     subst hK363
     exact ⟨decide ((w64 ((w64 ((w64 (Int.fdiv (IntKind.wrap .u64 (w64 (x1 + x3))) (2 ^ (min (Int.toNat 1) (IntKind.bits .u64))))) + x2)) - q261)) < x3), hq358, hE.pick _ ⟨rfl, rfl, rfl, rfl, rfl, rfl, trivial⟩, hS⟩
    replace hq358 := iteF hg364 hq358
    refine nO hE rfl rfl rfl (by rw [hg364]; decide) rfl fun a hE => ?_
    refine nO hE rfl rfl rfl (by rw [hg364]; decide) rfl fun a hE => ?_
    refine nO hE rfl rfl rfl (by rw [hg364]; decide) rfl fun a hE => ?_
    refine vP hS hE (Gives.pickF hE rfl hg364 rfl) rfl fun a hE => WL.nil ?_
    subst hK363
    exact ⟨false, hq358, hE.pick _ ⟨rfl, rfl, rfl, rfl, rfl, rfl, trivial⟩, hS⟩
   clear hE hS a w; rintro a w ⟨q362, rfl, hE, hS⟩
   refine W.cond hE rfl (fun hc365 => ?_) (fun hc365 => ?_)
   ·replace hr := iteT hc365 hr
    refine W.region ?_
    refine v2 hS hE rfl rfl rfl rfl fun a hE => ?_
    refine v2 hS hE rfl rfl rfl rfl fun a hE => ?_
    refine vp hS hE rfl rfl fun a hE => ?_
    obtain ⟨q366, hq367, hr⟩ := bindS hr
    have hc_ := ih_SlicessymMergeCmpFuncguiderow_v1 hS h356 hn357 hq367
    refine WL.fnq hE (hc_) (runs_plain rfl) bd147 rfl rfl rfl ?_
    clear hE hS hc_; rintro e w ⟨cs368, rfl, h369, hn370, hS⟩; refine ⟨_, rfl, ?_⟩; clear a; intro a hE
    refine WL.nil ?_
    refine finG (fn := Tryz.f147) (rs := []) (vs := []) hE rfl trivial ?_
    obtain rfl := Option.some.inj hr
    exact ⟨cs368, rfl, h369, hn370, hS⟩
   replace hr := iteF hc365 hr
   refine W.skip ?_
   refine finG (fn := Tryz.f147) (rs := []) (vs := []) hE rfl trivial ?_
   obtain rfl := Option.some.inj hr
   exact ⟨cs355, rfl, h356, hn357, hS⟩
  replace hr := iteF hc352 hr
  refine W.skip ?_
  refine W.seq ?_
  obtain ⟨q372, hq371, hr⟩ := bndS hr
  refine W.cut (fun a w => ∃ (q375 : Bool), q375 = q372 ∧ Rep a 220 [(0, .slice a_v0 x0.length c_v0), (3, vi x3), (4, .func (.func 64) #[] #[]), (18, vi (w64 (Int.fdiv (IntKind.wrap .u64 (w64 (x1 + x3))) (2 ^ (min (Int.toNat 1) (IntKind.bits .u64)))))), (24, vi (w64 ((w64 ((w64 (Int.fdiv (IntKind.wrap .u64 (w64 (x1 + x3))) (2 ^ (min (Int.toNat 1) (IntKind.bits .u64))))) + x2)) - q261))), (213, .bool q375)] ∧ St w s (vecC 127 7 a_v0 c_v0 x0.length cs_v0 :: R)) ?_ ?_
  ·refine W.gen fun K376 hK376 => ?_
   refine W.region ?_
   refine v2 hS hE rfl rfl rfl rfl fun a hE => ?_
   refine v2 hS hE rfl rfl rfl rfl fun a hE => ?_
   rcases Bool.eq_false_or_eq_true (decide ((w64 (Int.fdiv (IntKind.wrap .u64 (w64 (x1 + x3))) (2 ^ (min (Int.toNat 1) (IntKind.bits .u64))))) < (w64 ((w64 ((w64 (Int.fdiv (IntKind.wrap .u64 (w64 (x1 + x3))) (2 ^ (min (Int.toNat 1) (IntKind.bits .u64))))) + x2)) - q261)))) with hg377 | hg377
   ·replace hq371 := iteT hg377 hq371
    refine WL.vS hS hE (runs_if hE rfl rfl rfl hg377) (Gives.p hE rfl) rfl fun a hE => ?_
    refine WL.vS hS hE (runs_if hE rfl rfl rfl hg377) (Gives.p hE rfl) rfl fun a hE => ?_
    refine WL.vS hS hE (runs_if hE rfl rfl rfl hg377) (Gives.p hE rfl) rfl fun a hE => ?_
    refine vP hS hE (Gives.pickT hE rfl hg377 rfl) rfl fun a hE => WL.nil ?_
    subst hK376
    exact ⟨decide ((w64 ((w64 ((w64 (Int.fdiv (IntKind.wrap .u64 (w64 (x1 + x3))) (2 ^ (min (Int.toNat 1) (IntKind.bits .u64))))) + x2)) - q261)) < x3), hq371, hE.pick _ ⟨rfl, rfl, rfl, rfl, rfl, rfl, trivial⟩, hS⟩
   replace hq371 := iteF hg377 hq371
   refine nO hE rfl rfl rfl (by rw [hg377]; decide) rfl fun a hE => ?_
   refine nO hE rfl rfl rfl (by rw [hg377]; decide) rfl fun a hE => ?_
   refine nO hE rfl rfl rfl (by rw [hg377]; decide) rfl fun a hE => ?_
   refine vP hS hE (Gives.pickF hE rfl hg377 rfl) rfl fun a hE => WL.nil ?_
   subst hK376
   exact ⟨false, hq371, hE.pick _ ⟨rfl, rfl, rfl, rfl, rfl, rfl, trivial⟩, hS⟩
  clear hE hS a w; rintro a w ⟨q375, rfl, hE, hS⟩
  refine W.cond hE rfl (fun hc378 => ?_) (fun hc378 => ?_)
  ·replace hr := iteT hc378 hr
   refine W.region ?_
   refine v2 hS hE rfl rfl rfl rfl fun a hE => ?_
   refine v2 hS hE rfl rfl rfl rfl fun a hE => ?_
   refine vp hS hE rfl rfl fun a hE => ?_
   obtain ⟨q379, hq380, hr⟩ := bindS hr
   have hc_ := ih_SlicessymMergeCmpFuncguiderow_v1 hS h_v0 (rfl) hq380
   refine WL.fnq hE (hc_) (runs_plain rfl) bd147 rfl rfl rfl ?_
   clear hE hS hc_; rintro e w ⟨cs381, rfl, h382, hn383, hS⟩; refine ⟨_, rfl, ?_⟩; clear a; intro a hE
   refine WL.nil ?_
   refine finG (fn := Tryz.f147) (rs := []) (vs := []) hE rfl trivial ?_
   obtain rfl := Option.some.inj hr
   exact ⟨cs381, rfl, h382, hn383, hS⟩
  replace hr := iteF hc378 hr
  refine W.skip ?_
  refine finG (fn := Tryz.f147) (rs := []) (vs := []) hE rfl trivial ?_
  obtain rfl := Option.some.inj hr
  exact ⟨cs_v0, rfl, h_v0, (rfl), hS⟩
set_option maxHeartbeats 8000000 in
theorem SlicesstableCmpFuncguiderow_v1_ok {fu : Nat}  {w : World} {s : Sg} {R : List HP} {x0 : List GuideRow} {a_v0 : Option Addr} {c_v0 n_v0 : Nat} {cs_v0 : List Value} {x1 : Int} (hS : St w s (vecC 127 7 a_v0 c_v0 n_v0 cs_v0 :: R)) (h_v0 : Ev 7 RGuideRow s cs_v0 x0) (hn_v0 : x0.length = n_v0) {r : (List GuideRow)} (hr : SlicesstableCmpFuncguiderow_v1 fu x0 x1 = some r) :
  Calls Tryz.prog 106 [.slice a_v0 n_v0 c_v0, vi x1, .func (.func 64) #[] #[]].toArray w (fun e w => ∃ (cs55 : List Value), e = .returned (.tuple #[]) ∧ Ev 7 RGuideRow s cs55 r ∧ r.length = n_v0 ∧ St w s (vecC 127 7 a_v0 c_v0 n_v0 cs55 :: R)) := by
 refine enter Tryz.func106 rfl rfl rfl fun a hE => ?_
 rw [SlicesstableCmpFuncguiderow_v1] at hr
 subst hn_v0
 refine W.seq (W.region (vp hS hE rfl rfl fun a hE => WL.nil ?_))
 refine W.seq (W.region (v2 hS hE rfl rfl rfl rfl fun a hE => ?_))
 refine vp hS hE rfl rfl fun a hE => WL.nil ?_
 refine W.seq ?_
 obtain ⟨q58, hq57, hr⟩ := bindS hr
 refine W.cut (fun a w => ∃ (q63 : Int), ∃ (q64 : Int), ∃ (q65 : List GuideRow), ∃ (cs69 : List Value), (q63, q64, q65) = q58 ∧ Ev 7 RGuideRow s cs69 q65 ∧ q65.length = x0.length ∧ Rep a 63 [(0, .slice a_v0 x0.length c_v0), (1, vi x1), (2, .func (.func 64) #[] #[]), (6, vi 20), (7, vi q63)] ∧ St w s (vecC 127 7 a_v0 c_v0 x0.length cs69 :: R)) ?_ ?_
 ·refine W.block ?_
  refine W.loop (fun m a w => ∃ (n59 : Nat), ∃ (q63 : Int), ∃ (q64 : Int), ∃ (q65 : List GuideRow), ∃ (cs69 : List Value), n59 = m ∧ SlicesstableCmpFuncguiderow_v1.loop1 x1 fu n59 q63 q64 q65 = some q58 ∧ Ev 7 RGuideRow s cs69 q65 ∧ q65.length = x0.length ∧ Rep a 63 [(0, .slice a_v0 x0.length c_v0), (1, vi x1), (2, .func (.func 64) #[] #[]), (6, vi 20), (7, vi q63), (8, vi q64)] ∧ St w s (vecC 127 7 a_v0 c_v0 x0.length cs69 :: R)) (m := fu) ⟨fu, 0, 20, x0, cs_v0, rfl, hq57, h_v0, (rfl), hE.pick _ ⟨rfl, rfl, rfl, rfl, rfl, rfl, trivial⟩, hS⟩ ?_
  clear hE hS a w hq57; rintro m60 a w ⟨n59, q63, q64, q65, cs69, rfl, hq57, h68, hn70, hE, hS⟩
  refine W.gen fun K71 hK71 => ?_
  rcases n59 with _ | n59
  ·rw [SlicesstableCmpFuncguiderow_v1.loop1] at hq57; exact absurd hq57 (by simp)
  rw [SlicesstableCmpFuncguiderow_v1.loop1] at hq57
  refine W.seq ?_
  refine W.seq (W.region (v2 hS hE rfl rfl rfl rfl fun a hE => ?_))
  refine vp hS hE rfl rfl fun a hE => WL.nil ?_
  refine W.cond hE rfl (fun hc72 => ?_) (fun hc72 => ?_)
  ·replace hq57 := iteT hc72 hq57
   refine W.skip ?_
   refine W.block ?_
   refine W.seq (W.region (v2 hS hE rfl rfl rfl rfl fun a hE => ?_))
   refine v2 hS hE rfl rfl rfl rfl fun a hE => ?_
   obtain ⟨q73, hq74, hq57⟩ := bindS hq57
   have hc_ := SlicesinsertionSortCmpFuncguiderow_v1_ok hS h68 hn70 hq74
   refine WL.fnq hE (hc_) (runs_plain rfl) bd146 rfl rfl rfl ?_
   clear hE hS hc_; rintro e w ⟨cs75, rfl, h76, hn77, hS⟩; refine ⟨_, rfl, ?_⟩; clear a; intro a hE
   refine WL.nil ?_
   refine W.seq (W.region (v2 hS hE rfl rfl rfl rfl fun a hE => WL.nil ?_))
   refine W.region ?_
   refine v2 hS hE rfl rfl rfl rfl fun a hE => ?_
   refine v2 hS hE rfl rfl rfl rfl fun a hE => WL.nil ?_
   subst hK71
   exact ⟨n59, Nat.lt_succ_self _, n59, q64, (w64 (q64 + 20)), q73, cs75, rfl, hq57, h76, hn77, hE.pick _ ⟨rfl, rfl, rfl, rfl, rfl, rfl, trivial⟩, hS⟩
  replace hq57 := iteF hc72 hq57
  subst hK71
  refine W.exit rfl ?_
  exact ⟨q63, q64, q65, cs69, Option.some.inj hq57, h68, hn70, hE.pick _ ⟨rfl, rfl, rfl, rfl, rfl, trivial⟩, hS⟩
 clear hE hS a w; rintro a w ⟨q63, q64, q65, cs69, rfl, h68, hn70, hE, hS⟩
 dsimp only at hr
 refine W.seq (W.region (v2 hS hE rfl rfl rfl rfl fun a hE => ?_))
 refine v2 hS hE rfl rfl rfl rfl fun a hE => ?_
 obtain ⟨q78, hq79, hr⟩ := bindS hr
 have hc_ := SlicesinsertionSortCmpFuncguiderow_v1_ok hS h68 hn70 hq79
 refine WL.fnq hE (hc_) (runs_plain rfl) bd146 rfl rfl rfl ?_
 clear hE hS hc_; rintro e w ⟨cs80, rfl, h81, hn82, hS⟩; refine ⟨_, rfl, ?_⟩; clear a; intro a hE
 refine WL.nil ?_
 obtain ⟨q84, hq83, hr⟩ := bindS hr
 refine W.cut (fun a w => ∃ (q89 : Int), ∃ (q90 : List GuideRow), ∃ (cs94 : List Value), (q89, q90) = q84 ∧ Ev 7 RGuideRow s cs94 q90 ∧ q90.length = x0.length ∧ Rep a 63 [] ∧ St w s (vecC 127 7 a_v0 c_v0 x0.length cs94 :: R)) ?_ ?_
 ·refine W.block ?_
  refine W.loop (fun m a w => ∃ (n85 : Nat), ∃ (q89 : Int), ∃ (q90 : List GuideRow), ∃ (cs94 : List Value), n85 = m ∧ SlicesstableCmpFuncguiderow_v1.loop2 x1 fu n85 q89 q90 = some q84 ∧ Ev 7 RGuideRow s cs94 q90 ∧ q90.length = x0.length ∧ Rep a 63 [(0, .slice a_v0 x0.length c_v0), (1, vi x1), (2, .func (.func 64) #[] #[]), (6, vi q89)] ∧ St w s (vecC 127 7 a_v0 c_v0 x0.length cs94 :: R)) (m := fu) ⟨fu, 20, q78, cs80, rfl, hq83, h81, hn82, hE.pick _ ⟨rfl, rfl, rfl, rfl, trivial⟩, hS⟩ ?_
  clear hE hS a w hq83; rintro m86 a w ⟨n85, q89, q90, cs94, rfl, hq83, h93, hn95, hE, hS⟩
  refine W.gen fun K96 hK96 => ?_
  rcases n85 with _ | n85
  ·rw [SlicesstableCmpFuncguiderow_v1.loop2] at hq83; exact absurd hq83 (by simp)
  rw [SlicesstableCmpFuncguiderow_v1.loop2] at hq83
  refine W.seq ?_
  refine W.seq (W.region (v2 hS hE rfl rfl rfl rfl fun a hE => ?_))
  refine vp hS hE rfl rfl fun a hE => WL.nil ?_
  refine W.cond hE rfl (fun hc97 => ?_) (fun hc97 => ?_)
  ·replace hq83 := iteT hc97 hq83
   refine W.skip ?_
   refine W.block ?_
   refine W.seq (W.region (v2 hS hE rfl rfl rfl rfl fun a hE => ?_))
   refine v2 hS hE rfl rfl rfl rfl fun a hE => WL.nil ?_
   refine W.seq ?_
   obtain ⟨q99, hq98, hq83⟩ := bindS hq83
   refine W.cut (fun a w => ∃ (q104 : Int), ∃ (q105 : Int), ∃ (q106 : List GuideRow), ∃ (cs110 : List Value), (q104, q105, q106) = q99 ∧ Ev 7 RGuideRow s cs110 q106 ∧ q106.length = x0.length ∧ Rep a 63 [(0, .slice a_v0 x0.length c_v0), (1, vi x1), (2, .func (.func 64) #[] #[]), (6, vi q89), (7, vi q104)] ∧ St w s (vecC 127 7 a_v0 c_v0 x0.length cs110 :: R)) ?_ ?_
   ·refine W.block ?_
    refine W.loop (fun m a w => ∃ (n100 : Nat), ∃ (q104 : Int), ∃ (q105 : Int), ∃ (q106 : List GuideRow), ∃ (cs110 : List Value), n100 = m ∧ SlicesstableCmpFuncguiderow_v1.loop3 x1 fu q89 n100 q104 q105 q106 = some q99 ∧ Ev 7 RGuideRow s cs110 q106 ∧ q106.length = x0.length ∧ Rep a 63 [(0, .slice a_v0 x0.length c_v0), (1, vi x1), (2, .func (.func 64) #[] #[]), (6, vi q89), (7, vi q104), (8, vi q105)] ∧ St w s (vecC 127 7 a_v0 c_v0 x0.length cs110 :: R)) (m := fu) ⟨fu, 0, (w64 (2 * q89)), q90, cs94, rfl, hq98, h93, hn95, hE.pick _ ⟨rfl, rfl, rfl, rfl, rfl, rfl, trivial⟩, hS⟩ ?_
    clear hE hS a w hq98; rintro m101 a w ⟨n100, q104, q105, q106, cs110, rfl, hq98, h109, hn111, hE, hS⟩
    refine W.gen fun K112 hK112 => ?_
    rcases n100 with _ | n100
    ·rw [SlicesstableCmpFuncguiderow_v1.loop3] at hq98; exact absurd hq98 (by simp)
    rw [SlicesstableCmpFuncguiderow_v1.loop3] at hq98
    refine W.seq ?_
    refine W.seq (W.region (v2 hS hE rfl rfl rfl rfl fun a hE => ?_))
    refine vp hS hE rfl rfl fun a hE => WL.nil ?_
    refine W.cond hE rfl (fun hc113 => ?_) (fun hc113 => ?_)
    ·replace hq98 := iteT hc113 hq98
     refine W.skip ?_
     refine W.block ?_
     refine W.seq (W.region (v2 hS hE rfl rfl rfl rfl fun a hE => ?_))
     refine v2 hS hE rfl rfl rfl rfl fun a hE => ?_
     refine v2 hS hE rfl rfl rfl rfl fun a hE => ?_
     refine vp hS hE rfl rfl fun a hE => ?_
     obtain ⟨q114, hq115, hq98⟩ := bindS hq98
     have hc_ := SlicessymMergeCmpFuncguiderow_v1_ok hS h109 hn111 hq115
     refine WL.fnq hE (hc_) (runs_plain rfl) bd147 rfl rfl rfl ?_
     clear hE hS hc_; rintro e w ⟨cs116, rfl, h117, hn118, hS⟩; refine ⟨_, rfl, ?_⟩; clear a; intro a hE
     refine WL.nil ?_
     refine W.seq (W.region (v2 hS hE rfl rfl rfl rfl fun a hE => WL.nil ?_))
     refine W.region ?_
     refine v2 hS hE rfl rfl rfl rfl fun a hE => ?_
     refine v2 hS hE rfl rfl rfl rfl fun a hE => ?_
     refine vp hS hE rfl rfl fun a hE => WL.nil ?_
     subst hK112
     exact ⟨n100, Nat.lt_succ_self _, n100, q105, (w64 (q105 + (w64 (2 * q89)))), q114, cs116, rfl, hq98, h117, hn118, hE.pick _ ⟨rfl, rfl, rfl, rfl, rfl, rfl, trivial⟩, hS⟩
    replace hq98 := iteF hc113 hq98
    subst hK112
    refine W.exit rfl ?_
    exact ⟨q104, q105, q106, cs110, Option.some.inj hq98, h109, hn111, hE.pick _ ⟨rfl, rfl, rfl, rfl, rfl, trivial⟩, hS⟩
   clear hE hS a w; rintro a w ⟨q104, q105, q106, cs110, rfl, h109, hn111, hE, hS⟩
   dsimp only at hq83
   refine W.seq ?_
   refine W.seq (W.region (v2 hS hE rfl rfl rfl rfl fun a hE => ?_))
   refine v2 hS hE rfl rfl rfl rfl fun a hE => WL.nil ?_
   refine W.seq (W.region (v2 hS hE rfl rfl rfl rfl fun a hE => ?_))
   refine vp hS hE rfl rfl fun a hE => WL.nil ?_
   refine W.cond hE rfl (fun hc119 => ?_) (fun hc119 => ?_)
   ·replace hq83 := iteT hc119 hq83
    refine W.region ?_
    refine v2 hS hE rfl rfl rfl rfl fun a hE => ?_
    refine v2 hS hE rfl rfl rfl rfl fun a hE => ?_
    refine vp hS hE rfl rfl fun a hE => ?_
    obtain ⟨q120, hq121, hq83⟩ := bindS hq83
    have hc_ := SlicessymMergeCmpFuncguiderow_v1_ok hS h109 hn111 hq121
    refine WL.fnq hE (hc_) (runs_plain rfl) bd147 rfl rfl rfl ?_
    clear hE hS hc_; rintro e w ⟨cs122, rfl, h123, hn124, hS⟩; refine ⟨_, rfl, ?_⟩; clear a; intro a hE
    refine WL.nil ?_
    refine W.region ?_
    refine v2 hS hE rfl rfl rfl rfl fun a hE => ?_
    refine vp hS hE rfl rfl fun a hE => WL.nil ?_
    subst hK96
    exact ⟨n85, Nat.lt_succ_self _, n85, (w64 (q89 * 2)), q120, cs122, rfl, hq83, h123, hn124, hE.pick _ ⟨rfl, rfl, rfl, rfl, trivial⟩, hS⟩
   replace hq83 := iteF hc119 hq83
   refine W.skip ?_
   refine W.region ?_
   refine v2 hS hE rfl rfl rfl rfl fun a hE => ?_
   refine vp hS hE rfl rfl fun a hE => WL.nil ?_
   subst hK96
   exact ⟨n85, Nat.lt_succ_self _, n85, (w64 (q89 * 2)), q106, cs110, rfl, hq83, h109, hn111, hE.pick _ ⟨rfl, rfl, rfl, rfl, trivial⟩, hS⟩
  replace hq83 := iteF hc97 hq83
  subst hK96
  refine W.exit rfl ?_
  exact ⟨q89, q90, cs94, Option.some.inj hq83, h93, hn95, hE.pick _ trivial, hS⟩
 clear hE hS a w; rintro a w ⟨q89, q90, cs94, rfl, h93, hn95, hE, hS⟩
 dsimp only at hr
 refine finG (fn := Tryz.f106) (rs := []) (vs := []) hE rfl trivial ?_
 obtain rfl := Option.some.inj hr
 exact ⟨cs94, rfl, h93, hn95, hS⟩
set_option maxHeartbeats 8000000 in
theorem SlicesSortStableFuncLguiderow_v1_ok {fu : Nat}  {w : World} {s : Sg} {R : List HP} {x0 : List GuideRow} {a_v0 : Option Addr} {c_v0 n_v0 : Nat} {cs_v0 : List Value} (hS : St w s (vecC 127 7 a_v0 c_v0 n_v0 cs_v0 :: R)) (h_v0 : Ev 7 RGuideRow s cs_v0 x0) (hn_v0 : x0.length = n_v0) {r : (List GuideRow)} (hr : SlicesSortStableFuncLguiderow_v1 fu x0 = some r) :
  Calls Tryz.prog 63 [.slice a_v0 n_v0 c_v0, .func (.func 64) #[] #[]].toArray w (fun e w => ∃ (cs55 : List Value), e = .returned (.tuple #[]) ∧ Ev 7 RGuideRow s cs55 r ∧ r.length = n_v0 ∧ St w s (vecC 127 7 a_v0 c_v0 n_v0 cs55 :: R)) := by
 refine enter Tryz.func63 rfl rfl rfl fun a hE => ?_
 rw [SlicesSortStableFuncLguiderow_v1] at hr
 subst hn_v0
 refine W.region ?_
 refine v2 hS hE rfl rfl rfl rfl fun a hE => ?_
 refine vP hS hE (Gives.len hE rfl sl123) rfl fun a hE => ?_
 refine vp hS hE rfl rfl fun a hE => ?_
 obtain ⟨q57, hq58, hr⟩ := bindS hr
 have hc_ := SlicesstableCmpFuncguiderow_v1_ok hS h_v0 (rfl) hq58
 refine WL.fnq hE (hc_) (runs_plain rfl) bd106 rfl rfl rfl ?_
 clear hE hS hc_; rintro e w ⟨cs59, rfl, h60, hn61, hS⟩; refine ⟨_, rfl, ?_⟩; clear a; intro a hE
 refine WL.nil ?_
 refine finG (fn := Tryz.f63) (rs := []) (vs := []) hE rfl trivial ?_
 obtain rfl := Option.some.inj hr
 exact ⟨cs59, rfl, h60, hn61, hS⟩
set_option maxHeartbeats 8000000 in
theorem GuideBoard_ok {fu : Nat}  {w : World} {s : Sg} {R : List HP} {x0 : ApiDay} {a0_0 : Option Addr} {c0_0 : Nat} {a0_1 : Option Addr} {c0_1 : Nat} {x1 : ApiDay} {a1_0 : Option Addr} {c1_0 : Nat} {a1_1 : Option Addr} {c1_1 : Nat} {x2 : Int} {x3 : Int} {x4 : Int} (hS : St w s (R)) (hTab : TabS Tryz.prog s) (h0_0 : Sl 4 RApiTrain s a0_0 c0_0 x0.Trains) (h0_1 : Sl 1 (RL 1 (RI .i64)) s a0_1 c0_1 x0.Turns) (h1_0 : Sl 4 RApiTrain s a1_0 c1_0 x1.Trains) (h1_1 : Sl 1 (RL 1 (RI .i64)) s a1_1 c1_1 x1.Turns) {r : (List GuideLine) × Int} (hr : GuideBoard fu x0 x1 x2 x3 x4 = some r) :
  Calls Tryz.prog 14 [.agg (List.toArray [.slice a0_0 x0.Trains.length c0_0, .slice a0_1 x0.Turns.length c0_1]), .agg (List.toArray [.slice a1_0 x1.Trains.length c1_0, .slice a1_1 x1.Turns.length c1_1]), vi x2, vi x3, vi x4].toArray w (fun e w => ∃ (a0 : Option Addr) (c0 n0 : Nat) (cs0 : List Value) (t : Sg), e = .returned (.tuple #[.slice a0 n0 c0, vi r.2]) ∧ s.Le t ∧ Ev 6 RGuideLine t cs0 r.1 ∧ r.1.length = n0 ∧ St w t (vecC 44 6 a0 c0 n0 cs0 :: R)) := by
 refine enter Tryz.func14 rfl rfl rfl fun a hE => ?_
 rw [GuideBoard] at hr
 refine W.seq (W.region ?_)
 refine WL.box hE hS (runs_plain rfl) rfl rfl rfl ?_; clear hE hS a w; intro b51 a w hE hS
 refine WL.box hE hS (runs_plain rfl) rfl rfl rfl ?_; clear hE hS a w; intro b52 a w hE hS
 refine WL.box hE hS (runs_plain rfl) rfl rfl rfl ?_; clear hE hS a w; intro b53 a w hE hS
 refine WL.box hE hS (runs_plain rfl) rfl rfl rfl ?_; clear hE hS a w; intro b54 a w hE hS
 refine v2 hS hE rfl rfl rfl rfl fun a hE => WL.nil ?_
 refine W.seq ?_
 refine W.seq (W.region (vP hS hE (Gives.loadBA hE 3 rfl rfl ty25) rfl fun a hE => ?_))
 refine vP hS hE (Gives.loadBA hE 2 rfl rfl ty25) rfl fun a hE => ?_
 refine vP hS hE (Gives.build hE (vs := [(0, .agg (List.toArray [.slice a0_0 x0.Trains.length c0_0, .slice a0_1 x0.Turns.length c0_1])), (1, .agg (List.toArray [.slice a1_0 x1.Trains.length c1_0, .slice a1_1 x1.Turns.length c1_1]))]) [.slice a0_0 x0.Trains.length c0_0, .slice a0_1 x0.Turns.length c0_1, .slice a1_0 x1.Trains.length c1_0, .slice a1_1 x1.Turns.length c1_1] rfl (by kernel_rfl)) rfl fun a hE => ?_
 refine vp hS hE rfl rfl fun a hE => WL.nil ?_
 obtain ⟨q56, hq55, hr⟩ := bindS hr
 refine W.cut (fun a w => (.next ()) = q56 ∧ Rep a 118 [(4, vi x4), (5, pp b51), (6, pp b52), (7, pp b53), (8, pp b54)] ∧ St w s (pc b54 #[vi x3] 3 :: pc b53 #[vi x2] 3 :: pc b52 #[.slice a1_0 x1.Trains.length c1_0, .slice a1_1 x1.Turns.length c1_1] 25 :: pc b51 #[.slice a0_0 x0.Trains.length c0_0, .slice a0_1 x0.Turns.length c0_1] 25 :: R)) ?_ ?_
 ·refine W.block ?_
  refine W.loop (fun m a w => ∃ (rest59 : Nat) (k57 : Nat), rest59 = m ∧ k57 + rest59 = 2 ∧ GuideBoard.loop1 x0 x1 rest59 k57 = some q56 ∧ Rep a 118 [(4, vi x4), (5, pp b51), (6, pp b52), (7, pp b53), (8, pp b54), (30, .agg (List.toArray [.slice a0_0 x0.Trains.length c0_0, .slice a0_1 x0.Turns.length c0_1, .slice a1_0 x1.Trains.length c1_0, .slice a1_1 x1.Turns.length c1_1])), (31, vi ((k57 : Nat) : Int))] ∧ St w s (pc b54 #[vi x3] 3 :: pc b53 #[vi x2] 3 :: pc b52 #[.slice a1_0 x1.Trains.length c1_0, .slice a1_1 x1.Turns.length c1_1] 25 :: pc b51 #[.slice a0_0 x0.Trains.length c0_0, .slice a0_1 x0.Turns.length c0_1] 25 :: R)) (m := 2) ⟨2, 0, rfl, by omega, hq55, hE.pick _ ⟨rfl, rfl, rfl, rfl, rfl, rfl, rfl, trivial⟩, hS⟩ ?_
  clear hE hS a w hq55; rintro m63 a w ⟨rest59, k57, rfl, hd60, hq55, hE, hS⟩
  refine W.gen fun K66 hK66 => ?_
  rcases rest59 with _ | rest59
  ·skip
   refine W.seq (W.region (vp hS hE rfl rfl fun a hE => WL.nil ?_))
   refine W.seq ?_
   refine W.condF hE rfl (decide_eq_false (by omega)) ?_
   subst hK66
   refine W.exit rfl ?_
   exact ⟨Option.some.inj hq55, hE.pick _ ⟨rfl, rfl, rfl, rfl, rfl, trivial⟩, hS⟩
  have hlt61 : k57 < 2 := by omega
  rw [GuideBoard.loop1] at hq55
  refine W.seq (W.region (vp hS hE rfl rfl fun a hE => WL.nil ?_))
  refine W.seq ?_
  refine W.condT hE rfl (decide_eq_true (by omega)) ?_
  refine W.skip ?_
  refine W.seq ?_
  refine W.block ?_
  refine W.seq (W.region ?_)
  obtain ⟨x67, hx68, hq55⟩ := bindS hq55
  obtain ⟨hi69, hlt70, hy71⟩ := gx_some hx68
  obtain ⟨cs72, hc73, hR74⟩ : ∃ c : List Value, (([.slice a0_0 x0.Trains.length c0_0, .slice a0_1 x0.Turns.length c0_1, .slice a1_0 x1.Trains.length c1_0, .slice a1_1 x1.Turns.length c1_1] : List Value).drop ((((k57 : Nat) : Int)).toNat * 2)).take 2 = c ∧ RApiDay s c x67 := by
   have hk : (((k57 : Nat) : Int)).toNat = 0 ∨ (((k57 : Nat) : Int)).toNat = 1 := by simp only [List.length_cons, List.length_nil] at hlt70; omega
   rcases hk with hk | hk
   ·rw [hk] at hy71 ⊢; have hz := Option.some.inj (show some x0 = some x67 from hy71); rw [← hz]; exact ⟨_, rfl, _, _, _, _, rfl, h0_0, h0_1⟩
   rw [hk] at hy71 ⊢; have hz := Option.some.inj (show some x1 = some x67 from hy71); rw [← hz]; exact ⟨_, rfl, _, _, _, _, rfl, h1_0, h1_1⟩
  obtain ⟨a75, c76, a78, c79, rfl, h77, h80⟩ := hR74
  refine vP hS hE (Gives.indexS hE (((k57 : Nat) : Int)).toNat as122 rfl rfl hi69 hlt70 hc73) rfl fun a hE => ?_
  refine WL.alloc hE hS (runs_plain rfl) zr25 rfl ?_; clear hE hS a w; intro b81 a w hE hS
  refine WL.storeI hE hS 0 rfl [.slice a75 x67.Trains.length c76, .slice a78 x67.Turns.length c79] (runs_plain rfl) rfl rfl rfl ty25 rfl rfl rfl rfl ?_; clear hE hS a w; intro a w hE hS
  refine WL.nil ?_
  refine W.seq (W.region (vP hS hE (Gives.loadBA hE 0 rfl rfl ty25) rfl fun a hE => ?_))
  obtain ⟨q82, hq83, hq55⟩ := bindS hq55
  have hc_ := GuideCheck_ok hS (TabS.mono (Sg.Le.refl _) hTab) h77 h80 hq83
  refine WL.fnq hE (hc_) (runs_plain rfl) bd60 rfl rfl rfl ?_
  clear hE hS hc_; rintro e w ⟨rfl, hS⟩; refine ⟨_, rfl, ?_⟩; clear a; intro a hE
  refine vp hS hE rfl rfl fun a hE => WL.nil ?_
  refine W.seq (W.region (v2 hS hE rfl rfl rfl rfl fun a hE => WL.nil ?_))
  refine W.cond hE rfl (fun hc84 => ?_) (fun hc84 => ?_)
  ·replace hq55 := iteT hc84 hq55
   refine W.seq (W.region (v2 hS hE rfl rfl rfl rfl fun a hE => ?_))
   refine vp hS hE rfl rfl fun a hE => WL.nil ?_
   refine W.ret ?_
   subst hK66
   rw [← Option.some.inj hq55] at hr
   dsimp only at hr
   replace hS := hS.vecNil 44 6
   refine finG (fn := Tryz.f14) (rs := [.tmp 10, .tmp 11]) (vs := [_, _]) hE rfl ⟨rfl, rfl, trivial⟩ ?_
   obtain rfl := Option.some.inj hr
   replace hS := hS.dropAt 1
   replace hS := hS.dropAt 1
   replace hS := hS.dropAt 1
   replace hS := hS.dropAt 1
   replace hS := hS.dropAt 1
   exact ⟨none, 0, 0, [], s, rfl, (Sg.Le.refl _), (Ev.nil), (rfl), hS⟩
  replace hq55 := iteF hc84 hq55
  refine W.skip ?_
  refine W.region ?_
  refine vP hS hE (Gives.inc hE rfl (by omega)) rfl fun a hE => ?_
  refine vp hS hE rfl rfl fun a hE => WL.nil ?_
  replace hS := hS.tail
  subst hK66
  exact ⟨rest59, Nat.lt_succ_self _, rest59, k57 + 1, rfl, (by omega), hq55, hE.pick _ ⟨rfl, rfl, rfl, rfl, rfl, rfl, rfl, trivial⟩, hS⟩
 clear hE hS a w; rintro a w ⟨rfl, hE, hS⟩
 dsimp only at hr
 refine W.seq ?_
 refine W.block ?_
 refine W.seq (W.region (vP hS hE (Gives.loadB hE 1 rfl rfl rfl ty3) rfl fun a hE => ?_))
 refine WL.fnq hE (Guidewithin_ok hS  rfl (r := Guidewithin x2 0 11)) (runs_plain rfl) bd61 rfl rfl rfl ?_
 clear hE hS; rintro e w ⟨rfl, hS⟩; refine ⟨_, rfl, ?_⟩; clear a; intro a hE
 refine v2 hS hE rfl rfl rfl rfl fun a hE => WL.nil ?_
 refine W.cond hE rfl (fun hc86 => ?_) (fun hc86 => ?_)
 ·replace hr := iteT hc86 hr
  refine W.seq (W.region (v2 hS hE rfl rfl rfl rfl fun a hE => WL.nil ?_))
  refine W.ret ?_
  replace hS := hS.vecNil 44 6
  refine finG (fn := Tryz.f14) (rs := [.tmp 10, .tmp 11]) (vs := [_, _]) hE rfl ⟨rfl, rfl, trivial⟩ ?_
  obtain rfl := Option.some.inj hr
  replace hS := hS.dropAt 1
  replace hS := hS.dropAt 1
  replace hS := hS.dropAt 1
  replace hS := hS.dropAt 1
  exact ⟨none, 0, 0, [], s, rfl, (Sg.Le.refl _), (Ev.nil), (rfl), hS⟩
 replace hr := iteF hc86 hr
 refine W.seq ?_
 obtain ⟨q89, hq88, hr⟩ := bndS hr
 refine W.cut (fun a w => ∃ (q92 : Bool), q92 = q89 ∧ Rep a 118 [(4, vi x4), (5, pp b51), (6, pp b52), (7, pp b53), (8, pp b54), (44, .bool q92)] ∧ St w s (pc b54 #[vi x3] 3 :: pc b53 #[vi x2] 3 :: pc b52 #[.slice a1_0 x1.Trains.length c1_0, .slice a1_1 x1.Turns.length c1_1] 25 :: pc b51 #[.slice a0_0 x0.Trains.length c0_0, .slice a0_1 x0.Turns.length c0_1] 25 :: R)) ?_ ?_
 ·refine W.gen fun K93 hK93 => ?_
  refine W.region ?_
  refine vP hS hE (Gives.loadB hE 0 rfl rfl rfl ty3) rfl fun a hE => ?_
  refine WL.fnq hE (Guidewithin_ok hS  rfl (r := Guidewithin x3 0 28800)) (runs_plain rfl) bd61 rfl rfl rfl ?_
  clear hE hS; rintro e w ⟨rfl, hS⟩; refine ⟨_, rfl, ?_⟩; clear a; intro a hE
  refine v2 hS hE rfl rfl rfl rfl fun a hE => ?_
  rcases Bool.eq_false_or_eq_true (!(Guidewithin x3 0 28800)) with hg94 | hg94
  ·replace hq88 := iteT hg94 hq88
   refine nO hE rfl rfl rfl (by rw [hg94]; decide) rfl fun a hE => ?_
   refine nO hE rfl rfl rfl (by rw [hg94]; decide) rfl fun a hE => ?_
   refine nO hE rfl rfl rfl (by rw [hg94]; decide) rfl fun a hE => ?_
   refine vP hS hE (Gives.pickT hE rfl hg94 rfl) rfl fun a hE => ?_
   refine vp hS hE rfl rfl fun a hE => WL.nil ?_
   subst hK93
   exact ⟨true, hq88, hE.pick _ ⟨rfl, rfl, rfl, rfl, rfl, rfl, trivial⟩, hS⟩
  replace hq88 := iteF hg94 hq88
  refine WL.vS hS hE (runs_if hE rfl rfl rfl hg94) (Gives.p hE rfl) rfl fun a hE => ?_
  refine WL.fnq hE (Guidewithin_ok hS  rfl (r := Guidewithin x4 0 40)) (runs_if hE rfl rfl rfl hg94) bd61 rfl rfl rfl ?_
  clear hE hS; rintro e w ⟨rfl, hS⟩; refine ⟨_, rfl, ?_⟩; clear a; intro a hE
  refine WL.vS hS hE (runs_if hE rfl rfl rfl hg94) (Gives.p hE rfl) rfl fun a hE => ?_
  refine vP hS hE (Gives.pickF hE rfl hg94 rfl) rfl fun a hE => ?_
  refine vp hS hE rfl rfl fun a hE => WL.nil ?_
  subst hK93
  exact ⟨!(Guidewithin x4 0 40), hq88, hE.pick _ ⟨rfl, rfl, rfl, rfl, rfl, rfl, trivial⟩, hS⟩
 clear hE hS a w; rintro a w ⟨q92, rfl, hE, hS⟩
 refine W.cond hE rfl (fun hc95 => ?_) (fun hc95 => ?_)
 ·replace hr := iteT hc95 hr
  refine W.seq (W.region (v2 hS hE rfl rfl rfl rfl fun a hE => WL.nil ?_))
  refine W.ret ?_
  replace hS := hS.vecNil 44 6
  refine finG (fn := Tryz.f14) (rs := [.tmp 10, .tmp 11]) (vs := [_, _]) hE rfl ⟨rfl, rfl, trivial⟩ ?_
  obtain rfl := Option.some.inj hr
  replace hS := hS.dropAt 1
  replace hS := hS.dropAt 1
  replace hS := hS.dropAt 1
  replace hS := hS.dropAt 1
  exact ⟨none, 0, 0, [], s, rfl, (Sg.Le.refl _), (Ev.nil), (rfl), hS⟩
 replace hr := iteF hc95 hr
 refine W.skip ?_
 refine W.seq (W.region ?_)
 refine WL.alloc hE hS (runs_plain rfl) zr123 rfl ?_; clear hE hS a w; intro b97 a w hE hS
 refine WL.nil ?_
 refine W.seq (W.region ?_)
 refine WL.mkMap (fk := keyI.f) (fv := aggv) hE hS (runs_plain rfl) rfl ?_; clear hE hS a w; intro b98 a w hE hS
 refine WL.mkMap (fk := keyI.f) (fv := Value.bool) hE hS (runs_plain rfl) rfl ?_; clear hE hS a w; intro b99 a w hE hS
 refine WL.alloc hE hS (runs_plain rfl) zr124 rfl ?_; clear hE hS a w; intro b100 a w hE hS
 refine WL.storeI hE hS 0 rfl [.map (some b98)] (runs_plain rfl) rfl rfl rfl ty124 rfl rfl rfl rfl ?_; clear hE hS a w; intro a w hE hS
 refine vp hS hE rfl rfl fun a hE => WL.nil ?_
 refine W.seq ?_
 refine W.seq (W.region (vP hS hE (Gives.fld hE rfl fl25_0) rfl fun a hE => ?_))
 refine vP hS hE (Gives.loadB hE 6 rfl rfl rfl ty22) rfl fun a hE => ?_
 refine vP hS hE (Gives.len hE rfl sl22) rfl fun a hE => ?_
 refine vp hS hE rfl rfl fun a hE => WL.nil ?_
 obtain ⟨q102, hq101, hr⟩ := bndS hr
 refine W.cut (fun a w => ∃ (q112 : List (Int × ApiTrain)), ∃ (l113 : List (Int × List Value)), q112 = q102 ∧ MRv RApiTrain s l113 q112 ∧ Rep a 118 [(4, vi x4), (5, pp b51), (6, pp b52), (7, pp b53), (8, pp b54), (15, pp b97), (16, pp b100), (17, .map (some b99))] ∧ St w s (pc b100 #[.map (some b98)] 124 :: mapC keyI.f Value.bool b99 [] :: mapC keyI.f aggv b98 l113 :: pc b97 #[.slice none 0 0] 123 :: pc b54 #[vi x3] 3 :: pc b53 #[vi x2] 3 :: pc b52 #[.slice a1_0 x1.Trains.length c1_0, .slice a1_1 x1.Turns.length c1_1] 25 :: pc b51 #[.slice a0_0 x0.Trains.length c0_0, .slice a0_1 x0.Turns.length c0_1] 25 :: R)) ?_ ?_
 ·refine W.block ?_
  refine W.loop (fun m a w => ∃ (rest105 : List ApiTrain) (k103 : Nat), ∃ (q112 : List (Int × ApiTrain)), ∃ (l113 : List (Int × List Value)), rest105.length = m ∧ x1.Trains.drop k103 = rest105 ∧ GuideBoard.loop2 rest105 q112 = q102 ∧ MRv RApiTrain s l113 q112 ∧ Rep a 118 [(4, vi x4), (5, pp b51), (6, pp b52), (7, pp b53), (8, pp b54), (15, pp b97), (16, pp b100), (17, .map (some b99)), (56, .slice a1_0 x1.Trains.length c1_0), (57, vi ((x1.Trains).length : Int)), (58, vi ((k103 : Nat) : Int))] ∧ St w s (pc b100 #[.map (some b98)] 124 :: mapC keyI.f Value.bool b99 [] :: mapC keyI.f aggv b98 l113 :: pc b97 #[.slice none 0 0] 123 :: pc b54 #[vi x3] 3 :: pc b53 #[vi x2] 3 :: pc b52 #[.slice a1_0 x1.Trains.length c1_0, .slice a1_1 x1.Turns.length c1_1] 25 :: pc b51 #[.slice a0_0 x0.Trains.length c0_0, .slice a0_1 x0.Turns.length c0_1] 25 :: R)) (m := x1.Trains.length) ⟨x1.Trains, 0, [], ([] : List (Int × List Value)), rfl, rfl, hq101, (show MRv RApiTrain s ([] : List (Int × List Value)) ([] : List (Int × ApiTrain)) from trivial), hE.pick _ ⟨rfl, rfl, rfl, rfl, rfl, rfl, rfl, rfl, rfl, rfl, rfl, trivial⟩, hS⟩ ?_
  clear hE hS a w hq101; rintro m109 a w ⟨rest105, k103, q112, l113, rfl, hd106, hq101, h114, hE, hS⟩
  refine W.gen fun K115 hK115 => ?_
  rcases rest105 with _ | ⟨x104, rest105⟩
  ·have hlt107 := drop_nil hd106
   refine W.seq (W.region (vp hS hE rfl rfl fun a hE => WL.nil ?_))
   refine W.seq ?_
   refine W.condF hE rfl (decide_eq_false (by omega)) ?_
   subst hK115
   refine W.exit rfl ?_
   exact ⟨q112, l113, hq101, h114, hE.pick _ ⟨rfl, rfl, rfl, rfl, rfl, rfl, rfl, rfl, trivial⟩, hS⟩
  obtain ⟨hlt107, hx108, hd106⟩ := drop_cons hd106
  rw [GuideBoard.loop2] at hq101
  refine W.seq (W.region (vp hS hE rfl rfl fun a hE => WL.nil ?_))
  refine W.seq ?_
  refine W.condT hE rfl (decide_eq_true (by omega)) ?_
  refine W.skip ?_
  refine W.seq ?_
  refine W.block ?_
  refine W.seq (W.region ?_)
  obtain ⟨cs116, hl117, hR118, hat119⟩ := h1_0.at hx108
  obtain ⟨a120, c121, a123, c124, rfl, h122, h125⟩ := hR118
  refine vP hS hE (Gives.idx hE k103 rfl rfl sl22 rfl hlt107 (h1_0.aok hlt107)) rfl fun a hE => ?_
  refine vP hS hE (Gives.loadA hE rfl (fun w h => hat119 w _ h) ty111) rfl fun a hE => ?_
  refine WL.alloc hE hS (runs_plain rfl) zr111 rfl ?_; clear hE hS a w; intro b126 a w hE hS
  refine WL.storeI hE hS 0 rfl [vi x104.No, vi x104.Stock, .slice a120 x104.Stops.length c121, .slice a123 x104.Legs.length c124] (runs_plain rfl) rfl rfl rfl ty111 rfl rfl rfl rfl ?_; clear hE hS a w; intro a w hE hS
  refine WL.nil ?_
  refine W.region ?_
  refine vP hS hE (Gives.loadB hE 1 rfl rfl rfl ty124) rfl fun a hE => ?_
  refine vP hS hE (Gives.fld hE rfl fl111_0) rfl fun a hE => ?_
  refine vP hS hE (Gives.loadB hE 0 rfl rfl rfl ty3) rfl fun a hE => ?_
  refine vP hS hE (Gives.loadBA hE 0 rfl rfl ty111) rfl fun a hE => ?_
  refine WL.mapSet (fv := aggv) keyI hE hS 3 (k := x104.No) (v := [vi x104.No, vi x104.Stock, .slice a120 x104.Stops.length c121, .slice a123 x104.Legs.length c124]) (.inl rfl) (runs_plain rfl) rfl rfl rfl rfl mp124 rfl ?_; clear hE hS a w; intro a w hE hS
  have h127 : MRv RApiTrain s (mput l113 x104.No [vi x104.No, vi x104.Stock, .slice a120 x104.Stops.length c121, .slice a123 x104.Legs.length c124]) (mput q112 x104.No x104) := MRv.put (Rr := RApiTrain) ⟨_, _, _, _, rfl, h122, h125⟩ h114 x104.No
  refine WL.nil ?_
  refine W.region ?_
  refine vP hS hE (Gives.inc hE rfl (by have := h1_0.small; omega)) rfl fun a hE => ?_
  refine vp hS hE rfl rfl fun a hE => WL.nil ?_
  replace hS := hS.tail
  subst hK115
  exact ⟨rest105.length, Nat.lt_succ_self _, rest105, k103 + 1, (mput q112 x104.No x104), (mput l113 x104.No [vi x104.No, vi x104.Stock, .slice a120 x104.Stops.length c121, .slice a123 x104.Legs.length c124]), rfl, hd106, hq101, h127, hE.pick _ ⟨rfl, rfl, rfl, rfl, rfl, rfl, rfl, rfl, rfl, rfl, rfl, trivial⟩, hS⟩
 clear hE hS a w; rintro a w ⟨q112, l113, rfl, h114, hE, hS⟩
 refine W.seq (W.region ?_)
 replace hS := hS.vecNil 127 7
 refine vP hS hE (Gives.mkfn hE (vs := [pp b53, pp b100, pp b54, pp b97]) rfl) rfl fun a hE => ?_
 refine vp hS hE rfl rfl fun a hE => WL.nil ?_
 refine W.seq ?_
 refine W.seq (W.region (vP hS hE (Gives.fld hE rfl fl25_0) rfl fun a hE => ?_))
 refine vP hS hE (Gives.loadB hE 8 rfl rfl rfl ty22) rfl fun a hE => ?_
 refine vP hS hE (Gives.len hE rfl sl22) rfl fun a hE => ?_
 refine vp hS hE rfl rfl fun a hE => WL.nil ?_
 obtain ⟨q130, hq129, hr⟩ := bindS hr
 refine W.cut (fun a w => ∃ (q140 : List GuideRow), ∃ (q147 : List (Int × Bool)), ∃ (a141 : Option Addr), ∃ (c142 : Nat), ∃ (n144 : Nat), ∃ (cs145 : List Value), (q140, q147) = q130 ∧ Ev 7 RGuideRow s cs145 q140 ∧ q140.length = n144 ∧ Rep a 118 [(4, vi x4), (6, pp b52), (15, pp b97), (17, .map (some b99)), (20, .func (.func 62) #[] #[pp b53, pp b100, pp b54, pp b97])] ∧ St w s (vecC 127 7 a141 c142 n144 cs145 :: pc b100 #[.map (some b98)] 124 :: mapC keyI.f Value.bool b99 q147 :: mapC keyI.f aggv b98 l113 :: pc b97 #[.slice a141 n144 c142] 123 :: pc b54 #[vi x3] 3 :: pc b53 #[vi x2] 3 :: pc b52 #[.slice a1_0 x1.Trains.length c1_0, .slice a1_1 x1.Turns.length c1_1] 25 :: pc b51 #[.slice a0_0 x0.Trains.length c0_0, .slice a0_1 x0.Turns.length c0_1] 25 :: R)) ?_ ?_
 ·refine W.block ?_
  refine W.loop (fun m a w => ∃ (rest133 : List ApiTrain) (k131 : Nat), ∃ (q140 : List GuideRow), ∃ (q147 : List (Int × Bool)), ∃ (a141 : Option Addr), ∃ (c142 : Nat), ∃ (n144 : Nat), ∃ (cs145 : List Value), rest133.length = m ∧ x0.Trains.drop k131 = rest133 ∧ GuideBoard.loop3 x2 x3 q112 rest133 q140 q147 = some q130 ∧ Ev 7 RGuideRow s cs145 q140 ∧ q140.length = n144 ∧ Rep a 118 [(4, vi x4), (6, pp b52), (15, pp b97), (17, .map (some b99)), (20, .func (.func 62) #[] #[pp b53, pp b100, pp b54, pp b97]), (69, .slice a0_0 x0.Trains.length c0_0), (70, vi ((x0.Trains).length : Int)), (71, vi ((k131 : Nat) : Int))] ∧ St w s (vecC 127 7 a141 c142 n144 cs145 :: pc b100 #[.map (some b98)] 124 :: mapC keyI.f Value.bool b99 q147 :: mapC keyI.f aggv b98 l113 :: pc b97 #[.slice a141 n144 c142] 123 :: pc b54 #[vi x3] 3 :: pc b53 #[vi x2] 3 :: pc b52 #[.slice a1_0 x1.Trains.length c1_0, .slice a1_1 x1.Turns.length c1_1] 25 :: pc b51 #[.slice a0_0 x0.Trains.length c0_0, .slice a0_1 x0.Turns.length c0_1] 25 :: R)) (m := x0.Trains.length) ⟨x0.Trains, 0, [], [], none, 0, 0, [], rfl, rfl, hq129, (Ev.nil), (rfl), hE.pick _ ⟨rfl, rfl, rfl, rfl, rfl, rfl, rfl, rfl, trivial⟩, hS⟩ ?_
  clear hE hS a w hq129; rintro m137 a w ⟨rest133, k131, q140, q147, a141, c142, n144, cs145, rfl, hd134, hq129, h143, rfl, hE, hS⟩
  refine W.gen fun K148 hK148 => ?_
  rcases rest133 with _ | ⟨x132, rest133⟩
  ·have hlt135 := drop_nil hd134
   refine W.seq (W.region (vp hS hE rfl rfl fun a hE => WL.nil ?_))
   refine W.seq ?_
   refine W.condF hE rfl (decide_eq_false (by omega)) ?_
   subst hK148
   refine W.exit rfl ?_
   exact ⟨q140, q147, a141, c142, q140.length, cs145, Option.some.inj hq129, h143, rfl, hE.pick _ ⟨rfl, rfl, rfl, rfl, rfl, trivial⟩, hS⟩
  obtain ⟨hlt135, hx136, hd134⟩ := drop_cons hd134
  rw [GuideBoard.loop3] at hq129
  refine W.seq (W.region (vp hS hE rfl rfl fun a hE => WL.nil ?_))
  refine W.seq ?_
  refine W.condT hE rfl (decide_eq_true (by omega)) ?_
  refine W.skip ?_
  refine W.seq ?_
  refine W.block ?_
  refine W.seq (W.region ?_)
  obtain ⟨cs149, hl150, hR151, hat152⟩ := h0_0.at hx136
  obtain ⟨a153, c154, a156, c157, rfl, h155, h158⟩ := hR151
  refine vP hS hE (Gives.idx hE k131 rfl rfl sl22 rfl hlt135 (h0_0.aok hlt135)) rfl fun a hE => ?_
  refine vP hS hE (Gives.loadA hE rfl (fun w h => hat152 w _ h) ty111) rfl fun a hE => ?_
  refine WL.alloc hE hS (runs_plain rfl) zr111 rfl ?_; clear hE hS a w; intro b159 a w hE hS
  refine WL.storeI hE hS 0 rfl [vi x132.No, vi x132.Stock, .slice a153 x132.Stops.length c154, .slice a156 x132.Legs.length c157] (runs_plain rfl) rfl rfl rfl ty111 rfl rfl rfl rfl ?_; clear hE hS a w; intro a w hE hS
  refine WL.nil ?_
  refine W.seq (W.region (vp hS hE rfl rfl fun a hE => ?_))
  refine vP hS hE (Gives.fld hE rfl fl111_0) rfl fun a hE => ?_
  refine vP hS hE (Gives.loadB hE 0 rfl rfl rfl ty3) rfl fun a hE => ?_
  refine WL.mapSet keyI hE hS 3 (k := x132.No) (v := true) (.inl rfl) (runs_plain rfl) rfl rfl rfl rfl mp125 rfl ?_; clear hE hS a w; intro a w hE hS
  refine WL.nil ?_
  refine W.region ?_
  refine vp hS hE rfl rfl fun a hE => ?_
  refine vP hS hE (Gives.loadBA hE 0 rfl rfl ty111) rfl fun a hE => ?_
  obtain ⟨q160, hq161, hq129⟩ := bindS hq129
  replace hS := hS.front 1 rfl
  replace hS := hS.front 4 rfl
  replace hS := hS.front 5 rfl
  replace hS := hS.front 6 rfl
  replace hS := hS.front 5 rfl
  replace hS := hS.front 7 rfl
  have hc_ := GuideBoard_1_v1_ok hS h155 h158 h114 h143 rfl hq161
  refine WL.fnw hE (hc_) rfl (runs_plain rfl) bd62 rfl rfl rfl ?_
  clear hE hS hc_; rintro e w ⟨a162, c163, n164, cs165, rfl, h166, rfl, hS⟩; refine ⟨_, rfl, ?_⟩; clear a; intro a hE
  refine WL.nil ?_
  refine W.region ?_
  refine vP hS hE (Gives.inc hE rfl (by have := h0_0.small; omega)) rfl fun a hE => ?_
  refine vp hS hE rfl rfl fun a hE => WL.nil ?_
  replace hS := hS.dropAt 6
  replace hS := hS.order [5, 1, 4, 3, 2, 1, 0, 0, 0] rfl
  subst hK148
  exact ⟨rest133.length, Nat.lt_succ_self _, rest133, k131 + 1, q160, (mput q147 x132.No true), a162, c163, q160.length, cs165, rfl, hd134, hq129, h166, rfl, hE.pick _ ⟨rfl, rfl, rfl, rfl, rfl, rfl, rfl, rfl, trivial⟩, hS⟩
 clear hE hS a w; rintro a w ⟨q140, q147, a141, c142, n144, cs145, rfl, h143, rfl, hE, hS⟩
 dsimp only at hr
 refine W.seq ?_
 refine W.seq (W.region (vP hS hE (Gives.fld hE rfl fl25_0) rfl fun a hE => ?_))
 refine vP hS hE (Gives.loadB hE 7 rfl rfl rfl ty22) rfl fun a hE => ?_
 refine vP hS hE (Gives.len hE rfl sl22) rfl fun a hE => ?_
 refine vp hS hE rfl rfl fun a hE => WL.nil ?_
 obtain ⟨q168, hq167, hr⟩ := bindS hr
 refine W.cut (fun a w => ∃ (q178 : List GuideRow), ∃ (a179 : Option Addr), ∃ (c180 : Nat), ∃ (n182 : Nat), ∃ (cs183 : List Value), q178 = q168 ∧ Ev 7 RGuideRow s cs183 q178 ∧ q178.length = n182 ∧ Rep a 118 [(4, vi x4), (15, pp b97)] ∧ St w s (vecC 127 7 a179 c180 n182 cs183 :: pc b100 #[.map (some b98)] 124 :: mapC keyI.f Value.bool b99 q147 :: mapC keyI.f aggv b98 l113 :: pc b97 #[.slice a179 n182 c180] 123 :: pc b54 #[vi x3] 3 :: pc b53 #[vi x2] 3 :: pc b52 #[.slice a1_0 x1.Trains.length c1_0, .slice a1_1 x1.Turns.length c1_1] 25 :: pc b51 #[.slice a0_0 x0.Trains.length c0_0, .slice a0_1 x0.Turns.length c0_1] 25 :: R)) ?_ ?_
 ·refine W.block ?_
  refine W.loop (fun m a w => ∃ (rest171 : List ApiTrain) (k169 : Nat), ∃ (q178 : List GuideRow), ∃ (a179 : Option Addr), ∃ (c180 : Nat), ∃ (n182 : Nat), ∃ (cs183 : List Value), rest171.length = m ∧ x1.Trains.drop k169 = rest171 ∧ GuideBoard.loop4 x2 x3 q112 q147 rest171 q178 = some q168 ∧ Ev 7 RGuideRow s cs183 q178 ∧ q178.length = n182 ∧ Rep a 118 [(4, vi x4), (15, pp b97), (17, .map (some b99)), (20, .func (.func 62) #[] #[pp b53, pp b100, pp b54, pp b97]), (83, .slice a1_0 x1.Trains.length c1_0), (84, vi ((x1.Trains).length : Int)), (85, vi ((k169 : Nat) : Int))] ∧ St w s (vecC 127 7 a179 c180 n182 cs183 :: pc b100 #[.map (some b98)] 124 :: mapC keyI.f Value.bool b99 q147 :: mapC keyI.f aggv b98 l113 :: pc b97 #[.slice a179 n182 c180] 123 :: pc b54 #[vi x3] 3 :: pc b53 #[vi x2] 3 :: pc b52 #[.slice a1_0 x1.Trains.length c1_0, .slice a1_1 x1.Turns.length c1_1] 25 :: pc b51 #[.slice a0_0 x0.Trains.length c0_0, .slice a0_1 x0.Turns.length c0_1] 25 :: R)) (m := x1.Trains.length) ⟨x1.Trains, 0, q140, a141, c142, q140.length, cs145, rfl, rfl, hq167, h143, rfl, hE.pick _ ⟨rfl, rfl, rfl, rfl, rfl, rfl, rfl, trivial⟩, hS⟩ ?_
  clear hE hS a w hq167; rintro m175 a w ⟨rest171, k169, q178, a179, c180, n182, cs183, rfl, hd172, hq167, h181, rfl, hE, hS⟩
  refine W.gen fun K185 hK185 => ?_
  rcases rest171 with _ | ⟨x170, rest171⟩
  ·have hlt173 := drop_nil hd172
   refine W.seq (W.region (vp hS hE rfl rfl fun a hE => WL.nil ?_))
   refine W.seq ?_
   refine W.condF hE rfl (decide_eq_false (by omega)) ?_
   subst hK185
   refine W.exit rfl ?_
   exact ⟨q178, a179, c180, q178.length, cs183, Option.some.inj hq167, h181, rfl, hE.pick _ ⟨rfl, rfl, trivial⟩, hS⟩
  obtain ⟨hlt173, hx174, hd172⟩ := drop_cons hd172
  rw [GuideBoard.loop4] at hq167
  refine W.seq (W.region (vp hS hE rfl rfl fun a hE => WL.nil ?_))
  refine W.seq ?_
  refine W.condT hE rfl (decide_eq_true (by omega)) ?_
  refine W.skip ?_
  refine W.seq ?_
  refine W.block ?_
  refine W.seq (W.region ?_)
  obtain ⟨cs186, hl187, hR188, hat189⟩ := h1_0.at hx174
  obtain ⟨a190, c191, a193, c194, rfl, h192, h195⟩ := hR188
  refine vP hS hE (Gives.idx hE k169 rfl rfl sl22 rfl hlt173 (h1_0.aok hlt173)) rfl fun a hE => ?_
  refine vP hS hE (Gives.loadA hE rfl (fun w h => hat189 w _ h) ty111) rfl fun a hE => ?_
  refine WL.alloc hE hS (runs_plain rfl) zr111 rfl ?_; clear hE hS a w; intro b196 a w hE hS
  refine WL.storeI hE hS 0 rfl [vi x170.No, vi x170.Stock, .slice a190 x170.Stops.length c191, .slice a193 x170.Legs.length c194] (runs_plain rfl) rfl rfl rfl ty111 rfl rfl rfl rfl ?_; clear hE hS a w; intro a w hE hS
  refine WL.nil ?_
  refine W.seq (W.region (vp hS hE rfl rfl fun a hE => ?_))
  refine vP hS hE (Gives.fld hE rfl fl111_0) rfl fun a hE => ?_
  refine vP hS hE (Gives.loadB hE 0 rfl rfl rfl ty3) rfl fun a hE => ?_
  refine vP hS hE (Gives.mapGet keyI hE 3 (k := x170.No) (z := false) rfl rfl rfl mp125 zm4) rfl fun a hE => ?_
  refine vp hS hE rfl rfl fun a hE => WL.nil ?_
  refine W.cond hE rfl (fun hc197 => ?_) (fun hc197 => ?_)
  ·replace hq167 := iteT hc197 hq167
   refine W.region ?_
   refine vp hS hE rfl rfl fun a hE => ?_
   refine vP hS hE (Gives.loadBA hE 0 rfl rfl ty111) rfl fun a hE => ?_
   obtain ⟨q198, hq199, hq167⟩ := bindS hq167
   replace hS := hS.front 1 rfl
   replace hS := hS.front 4 rfl
   replace hS := hS.front 5 rfl
   replace hS := hS.front 6 rfl
   replace hS := hS.front 5 rfl
   replace hS := hS.front 7 rfl
   have hc_ := GuideBoard_1_v1_ok hS h192 h195 h114 h181 rfl hq199
   refine WL.fnw hE (hc_) rfl (runs_plain rfl) bd62 rfl rfl rfl ?_
   clear hE hS hc_; rintro e w ⟨a200, c201, n202, cs203, rfl, h204, rfl, hS⟩; refine ⟨_, rfl, ?_⟩; clear a; intro a hE
   refine WL.nil ?_
   refine W.region ?_
   refine vP hS hE (Gives.inc hE rfl (by have := h1_0.small; omega)) rfl fun a hE => ?_
   refine vp hS hE rfl rfl fun a hE => WL.nil ?_
   replace hS := hS.dropAt 6
   replace hS := hS.order [5, 1, 4, 3, 2, 1, 0, 0, 0] rfl
   subst hK185
   exact ⟨rest171.length, Nat.lt_succ_self _, rest171, k169 + 1, q198, a200, c201, q198.length, cs203, rfl, hd172, hq167, h204, rfl, hE.pick _ ⟨rfl, rfl, rfl, rfl, rfl, rfl, rfl, trivial⟩, hS⟩
  replace hq167 := iteF hc197 hq167
  refine W.skip ?_
  refine W.region ?_
  refine vP hS hE (Gives.inc hE rfl (by have := h1_0.small; omega)) rfl fun a hE => ?_
  refine vp hS hE rfl rfl fun a hE => WL.nil ?_
  replace hS := hS.tail
  subst hK185
  exact ⟨rest171.length, Nat.lt_succ_self _, rest171, k169 + 1, q178, a179, c180, q178.length, cs183, rfl, hd172, hq167, h181, rfl, hE.pick _ ⟨rfl, rfl, rfl, rfl, rfl, rfl, rfl, trivial⟩, hS⟩
 clear hE hS a w; rintro a w ⟨q178, a179, c180, n182, cs183, rfl, h181, rfl, hE, hS⟩
 refine W.seq (W.region (vP hS hE (Gives.loadB hE 4 rfl rfl rfl ty123) rfl fun a hE => ?_))
 obtain ⟨q205, hq206, hr⟩ := bindS hr
 have hc_ := SlicesSortStableFuncLguiderow_v1_ok hS h181 rfl hq206
 refine WL.fnq hE (hc_) (runs_plain rfl) bd63 rfl rfl rfl ?_
 clear hE hS hc_; rintro e w ⟨cs207, rfl, h208, hn209, hS⟩; refine ⟨_, rfl, ?_⟩; clear a; intro a hE
 refine WL.nil ?_
 refine W.seq (W.region ?_)
 replace hS := hS.vecNil 44 6
 refine vp hS hE rfl rfl fun a hE => WL.nil ?_
 refine W.seq ?_
 refine W.seq (W.region (vP hS hE (Gives.loadB hE 5 rfl rfl rfl ty123) rfl fun a hE => ?_))
 refine vp hS hE rfl rfl fun a hE => ?_
 refine vP hS hE (Gives.loadB hE 5 rfl rfl rfl ty123) rfl fun a hE => ?_
 refine vP hS hE (Gives.len hE rfl sl123) rfl fun a hE => ?_
 refine vP hS hE (Gives.min2 hE rfl rfl) rfl fun a hE => ?_
 have hF := hS.fixD RGuideRow.mono 1 rfl h208 hn209; clear hS; obtain ⟨s211, hle212, hS, h213⟩ := hF
 (try rw [← hn209] at hE)
 (try rw [← hn209] at hS)
 replace h114 := MRv.mono RApiTrain.mono hle212 h114
 replace h1_0 := Sl.mono RApiTrain.mono hle212 h1_0
 replace h1_1 := Sl.mono (RL.mono RI.mono) hle212 h1_1
 replace h0_0 := Sl.mono RApiTrain.mono hle212 h0_0
 replace h0_1 := Sl.mono (RL.mono RI.mono) hle212 h0_1
 obtain ⟨x214, hx215, hr⟩ := bindS hr
 obtain ⟨a216, c217, heq218, h219⟩ := h213.cut hx215
 obtain ⟨h220, h221, h222, _⟩ := cutl_some hx215
 refine vP hS hE (Gives.slH hE sl123 rfl rfl h221 (Int.le_trans h222 (by have := h213.len; omega)) heq218) rfl fun a hE => ?_
 refine vP hS hE (Gives.len hE rfl sl123) rfl fun a hE => ?_
 refine vp hS hE rfl rfl fun a hE => WL.nil ?_
 obtain ⟨q224, hq223, hr⟩ := bindS hr
 refine W.cut (fun a w => ∃ (q234 : List GuideLine), ∃ (a235 : Option Addr), ∃ (c236 : Nat), ∃ (n238 : Nat), ∃ (cs239 : List Value), q234 = q224 ∧ Ev 6 RGuideLine s211 cs239 q234 ∧ q234.length = n238 ∧ Rep a 118 [(25, .slice a235 n238 c236)] ∧ St w s211 (vecC 44 6 a235 c236 n238 cs239 :: pc b100 #[.map (some b98)] 124 :: mapC keyI.f Value.bool b99 q147 :: mapC keyI.f aggv b98 l113 :: pc b97 #[.slice a179 q205.length c180] 123 :: pc b54 #[vi x3] 3 :: pc b53 #[vi x2] 3 :: pc b52 #[.slice a1_0 x1.Trains.length c1_0, .slice a1_1 x1.Turns.length c1_1] 25 :: pc b51 #[.slice a0_0 x0.Trains.length c0_0, .slice a0_1 x0.Turns.length c0_1] 25 :: R)) ?_ ?_
 ·refine W.block ?_
  refine W.loop (fun m a w => ∃ (rest227 : List GuideRow) (k225 : Nat), ∃ (q234 : List GuideLine), ∃ (a235 : Option Addr), ∃ (c236 : Nat), ∃ (n238 : Nat), ∃ (cs239 : List Value), rest227.length = m ∧ x214.drop k225 = rest227 ∧ GuideBoard.loop5 rest227 q234 = some q224 ∧ Ev 6 RGuideLine s211 cs239 q234 ∧ q234.length = n238 ∧ Rep a 118 [(25, .slice a235 n238 c236), (105, .slice a216 x214.length c217), (106, vi ((x214).length : Int)), (107, vi ((k225 : Nat) : Int))] ∧ St w s211 (vecC 44 6 a235 c236 n238 cs239 :: pc b100 #[.map (some b98)] 124 :: mapC keyI.f Value.bool b99 q147 :: mapC keyI.f aggv b98 l113 :: pc b97 #[.slice a179 q205.length c180] 123 :: pc b54 #[vi x3] 3 :: pc b53 #[vi x2] 3 :: pc b52 #[.slice a1_0 x1.Trains.length c1_0, .slice a1_1 x1.Turns.length c1_1] 25 :: pc b51 #[.slice a0_0 x0.Trains.length c0_0, .slice a0_1 x0.Turns.length c0_1] 25 :: R)) (m := x214.length) ⟨x214, 0, [], none, 0, 0, [], rfl, rfl, hq223, (Ev.nil), (rfl), hE.pick _ ⟨rfl, rfl, rfl, rfl, trivial⟩, hS⟩ ?_
  clear hE hS a w hq223; rintro m231 a w ⟨rest227, k225, q234, a235, c236, n238, cs239, rfl, hd228, hq223, h237, rfl, hE, hS⟩
  refine W.gen fun K241 hK241 => ?_
  rcases rest227 with _ | ⟨x226, rest227⟩
  ·have hlt229 := drop_nil hd228
   refine W.seq (W.region (vp hS hE rfl rfl fun a hE => WL.nil ?_))
   refine W.seq ?_
   refine W.condF hE rfl (decide_eq_false (by omega)) ?_
   subst hK241
   refine W.exit rfl ?_
   exact ⟨q234, a235, c236, q234.length, cs239, Option.some.inj hq223, h237, rfl, hE.pick _ ⟨rfl, trivial⟩, hS⟩
  obtain ⟨hlt229, hx230, hd228⟩ := drop_cons hd228
  rw [GuideBoard.loop5] at hq223
  refine W.seq (W.region (vp hS hE rfl rfl fun a hE => WL.nil ?_))
  refine W.seq ?_
  refine W.condT hE rfl (decide_eq_true (by omega)) ?_
  refine W.skip ?_
  refine W.seq ?_
  refine W.block ?_
  refine W.seq (W.region ?_)
  obtain ⟨cs242, hl243, hR244, hat245⟩ := h219.at hx230
  subst hR244
  refine vP hS hE (Gives.idx hE k225 rfl rfl sl123 rfl hlt229 (h219.aok hlt229)) rfl fun a hE => ?_
  refine vP hS hE (Gives.loadA hE rfl (fun w h => hat245 w _ h) ty127) rfl fun a hE => ?_
  refine WL.alloc hE hS (runs_plain rfl) zr127 rfl ?_; clear hE hS a w; intro b246 a w hE hS
  refine WL.storeI hE hS 0 rfl (GuideRow.cells x226) (runs_plain rfl) rfl rfl rfl ty127 rfl rfl rfl rfl ?_; clear hE hS a w; intro a w hE hS
  refine WL.nil ?_
  refine W.region ?_
  refine vp hS hE rfl rfl fun a hE => ?_
  refine vP hS hE (Gives.fld hE rfl fl127_0) rfl fun a hE => ?_
  refine vP hS hE (Gives.loadA (cs := [vi x226.Line.Time, vi x226.Line.Late, vi x226.Line.No, vi x226.Line.To, vi x226.Line.Track, .bool x226.Line.Ends]) hE rfl (fun w h => (St.seesAt h 0 rfl).part 0 6) ty44) rfl fun a hE => ?_
  refine WL.lit hE hS (e := 44) (es := 6) (vs := [(0, .agg (List.toArray [vi x226.Line.Time, vi x226.Line.Late, vi x226.Line.No, vi x226.Line.To, vi x226.Line.Track, .bool x226.Line.Ends]))]) (cs := [vi x226.Line.Time, vi x226.Line.Late, vi x226.Line.No, vi x226.Line.To, vi x226.Line.Track, .bool x226.Line.Ends]) (runs_plain rfl) rfl (by kernel_rfl) rfl ?_; clear hE hS a w; intro b247 a w hE hS
  obtain ⟨x248, hx249, hq223⟩ := bindS hq223
  refine WL.appD hE hS 1 (m := 1) (runs_plain rfl) rfl rfl rfl ap39 rfl h237 rfl (xs := [x226.Line]) (Ev.cons (c1 := [vi x226.Line.Time, vi x226.Line.Late, vi x226.Line.No, vi x226.Line.To, vi x226.Line.Track, .bool x226.Line.Ends]) rfl rfl (Ev.nil)) rfl rfl hx249 rfl ?_; clear hE hS a w; intro a250 c251 cs252 a w h253 hE hS
  refine vp hS hE rfl rfl fun a hE => WL.nil ?_
  refine W.region ?_
  refine vP hS hE (Gives.inc hE rfl (by have := h219.small; omega)) rfl fun a hE => ?_
  refine vp hS hE rfl rfl fun a hE => WL.nil ?_
  replace hS := hS.tail
  subst hK241
  exact ⟨rest227.length, Nat.lt_succ_self _, rest227, k225 + 1, x248, a250, c251, x248.length, cs252, rfl, hd228, hq223, h253, (rfl), hE.pick _ ⟨rfl, rfl, rfl, rfl, trivial⟩, hS⟩
 clear hE hS a w; rintro a w ⟨q234, a235, c236, n238, cs239, rfl, h237, rfl, hE, hS⟩
 refine W.seq (W.region (v2 hS hE rfl rfl rfl rfl fun a hE => ?_))
 refine vp hS hE rfl rfl fun a hE => WL.nil ?_
 refine W.ret ?_
 refine finG (fn := Tryz.f14) (rs := [.tmp 10, .tmp 11]) (vs := [_, _]) hE rfl ⟨rfl, rfl, trivial⟩ ?_
 obtain rfl := Option.some.inj hr
 replace hS := hS.dropAt 1
 replace hS := hS.dropAt 1
 replace hS := hS.dropAt 1
 replace hS := hS.dropAt 1
 replace hS := hS.dropAt 1
 replace hS := hS.dropAt 1
 replace hS := hS.dropAt 1
 replace hS := hS.dropAt 1
 exact ⟨a235, c236, q234.length, cs239, s211, rfl, hle212, h237, rfl, hS⟩
set_option maxHeartbeats 8000000 in
theorem Fishref2numbersIn_ok  {w : World} {s : Sg} {R : List HP} {x0 : ApiDay} {a0_0 : Option Addr} {c0_0 : Nat} {a0_1 : Option Addr} {c0_1 : Nat} (hS : St w s (R)) (h0_0 : Sl 4 RApiTrain s a0_0 c0_0 x0.Trains) (h0_1 : Sl 1 (RL 1 (RI .i64)) s a0_1 c0_1 x0.Turns) {r : (List (List Int))} (hr : Fishref2numbersIn x0 = some r) :
  Calls Tryz.prog 101 [.agg (List.toArray [.slice a0_0 x0.Trains.length c0_0, .slice a0_1 x0.Turns.length c0_1])].toArray w (fun e w => ∃ (a0 : Option Addr) (c0 n0 : Nat) (cs0 : List Value) (t : Sg), e = .returned (.slice a0 n0 c0) ∧ s.Le t ∧ Ev 1 (RL 1 (RI .i64)) t cs0 r ∧ r.length = n0 ∧ St w t (vecC 65 1 a0 c0 n0 cs0 :: R)) := by
 refine enter Tryz.func101 rfl rfl rfl fun a hE => ?_
 rw [Fishref2numbersIn] at hr
 refine W.seq (W.region ?_)
 refine WL.box hE hS (runs_plain rfl) rfl rfl rfl ?_; clear hE hS a w; intro b51 a w hE hS
 refine vp hS hE rfl rfl fun a hE => WL.nil ?_
 refine W.seq (W.region ?_)
 replace hS := hS.vecNil 65 1
 refine vp hS hE rfl rfl fun a hE => WL.nil ?_
 refine W.seq ?_
 refine W.seq (W.region (vP hS hE (Gives.fld hE rfl fl25_0) rfl fun a hE => ?_))
 refine vP hS hE (Gives.loadB hE 1 rfl rfl rfl ty22) rfl fun a hE => ?_
 refine vP hS hE (Gives.len hE rfl sl22) rfl fun a hE => ?_
 refine vp hS hE rfl rfl fun a hE => WL.nil ?_
 obtain ⟨q54, hq53, hr⟩ := bindS hr
 refine W.cut (fun a w => ∃ (q64 : List (List Int)), ∃ (a65 : Option Addr), ∃ (c66 : Nat), ∃ (n68 : Nat), ∃ (cs69 : List Value), ∃ (s62 : Sg), s.Le s62 ∧ q64 = q54 ∧ Ev 1 (RL 1 (RI .i64)) s62 cs69 q64 ∧ q64.length = n68 ∧ Rep a 52 [(1, pp b51), (3, .slice a65 n68 c66)] ∧ St w s62 (vecC 65 1 a65 c66 n68 cs69 :: pc b51 #[.slice a0_0 x0.Trains.length c0_0, .slice a0_1 x0.Turns.length c0_1] 25 :: R)) ?_ ?_
 ·refine W.block ?_
  refine W.loop (fun m a w => ∃ (rest57 : List ApiTrain) (k55 : Nat), ∃ (q64 : List (List Int)), ∃ (a65 : Option Addr), ∃ (c66 : Nat), ∃ (n68 : Nat), ∃ (cs69 : List Value), ∃ (s62 : Sg), rest57.length = m ∧ x0.Trains.drop k55 = rest57 ∧ s.Le s62 ∧ Fishref2numbersIn.loop1 rest57 q64 = some q54 ∧ Ev 1 (RL 1 (RI .i64)) s62 cs69 q64 ∧ q64.length = n68 ∧ Rep a 52 [(1, pp b51), (3, .slice a65 n68 c66), (9, .slice a0_0 x0.Trains.length c0_0), (10, vi ((x0.Trains).length : Int)), (11, vi ((k55 : Nat) : Int))] ∧ St w s62 (vecC 65 1 a65 c66 n68 cs69 :: pc b51 #[.slice a0_0 x0.Trains.length c0_0, .slice a0_1 x0.Turns.length c0_1] 25 :: R)) (m := x0.Trains.length) ⟨x0.Trains, 0, [], none, 0, 0, [], s, rfl, rfl, (Sg.Le.refl _), hq53, (Ev.nil), (rfl), hE.pick _ ⟨rfl, rfl, rfl, rfl, rfl, trivial⟩, hS⟩ ?_
  clear hE hS a w hq53; rintro m61 a w ⟨rest57, k55, q64, a65, c66, n68, cs69, s62, rfl, hd58, hle63, hq53, h67, rfl, hE, hS⟩
  refine W.gen fun K71 hK71 => ?_
  replace h0_0 := Sl.mono RApiTrain.mono hle63 h0_0
  replace h0_1 := Sl.mono (RL.mono RI.mono) hle63 h0_1
  rcases rest57 with _ | ⟨x56, rest57⟩
  ·have hlt59 := drop_nil hd58
   refine W.seq (W.region (vp hS hE rfl rfl fun a hE => WL.nil ?_))
   refine W.seq ?_
   refine W.condF hE rfl (decide_eq_false (by omega)) ?_
   subst hK71
   refine W.exit rfl ?_
   exact ⟨q64, a65, c66, q64.length, cs69, s62, hle63, Option.some.inj hq53, h67, rfl, hE.pick _ ⟨rfl, rfl, trivial⟩, hS⟩
  obtain ⟨hlt59, hx60, hd58⟩ := drop_cons hd58
  rw [Fishref2numbersIn.loop1] at hq53
  refine W.seq (W.region (vp hS hE rfl rfl fun a hE => WL.nil ?_))
  refine W.seq ?_
  refine W.condT hE rfl (decide_eq_true (by omega)) ?_
  refine W.skip ?_
  refine W.seq ?_
  refine W.block ?_
  refine W.seq (W.region ?_)
  obtain ⟨cs72, hl73, hR74, hat75⟩ := h0_0.at hx60
  obtain ⟨a76, c77, a79, c80, rfl, h78, h81⟩ := hR74
  refine vP hS hE (Gives.idx hE k55 rfl rfl sl22 rfl hlt59 (h0_0.aok hlt59)) rfl fun a hE => ?_
  refine vP hS hE (Gives.loadA hE rfl (fun w h => hat75 w _ h) ty111) rfl fun a hE => ?_
  refine WL.alloc hE hS (runs_plain rfl) zr111 rfl ?_; clear hE hS a w; intro b82 a w hE hS
  refine WL.storeI hE hS 0 rfl [vi x56.No, vi x56.Stock, .slice a76 x56.Stops.length c77, .slice a79 x56.Legs.length c80] (runs_plain rfl) rfl rfl rfl ty111 rfl rfl rfl rfl ?_; clear hE hS a w; intro a w hE hS
  refine WL.nil ?_
  refine W.seq (W.region (vp hS hE rfl rfl fun a hE => ?_))
  refine vP hS hE (Gives.fld hE rfl fl111_0) rfl fun a hE => ?_
  refine vP hS hE (Gives.loadB hE 0 rfl rfl rfl ty3) rfl fun a hE => ?_
  refine vP hS hE (Gives.fld hE rfl fl111_1) rfl fun a hE => ?_
  refine vP hS hE (Gives.loadB hE 0 rfl rfl rfl ty3) rfl fun a hE => ?_
  refine WL.lit hE hS (e := 3) (es := 1) (vs := [(0, vi x56.No), (1, vi x56.Stock)]) (cs := [vi x56.No, vi x56.Stock]) (runs_plain rfl) rfl (by kernel_rfl) rfl ?_; clear hE hS a w; intro b83 a w hE hS
  replace hS := hS.ptVec (es := 1) (m := 2) rfl (by decide)
  have h85 : Ev 1 (RI .i64) s62 [vi x56.No, vi x56.Stock] [x56.No, x56.Stock] := (Ev.cons (c1 := [vi x56.No]) rfl rfl (Ev.cons (c1 := [vi x56.Stock]) rfl rfl (Ev.nil)))
  have hF := hS.fixD RI.mono 0 rfl h85 (rfl); clear hS; obtain ⟨s86, hle87, hS, h88⟩ := hF
  replace h0_0 := Sl.mono RApiTrain.mono hle87 h0_0
  replace h78 := Sl.mono RApiStop.mono hle87 h78
  replace h81 := Sl.mono (RL.mono RI.mono) hle87 h81
  replace h67 := Ev.mono (RL.mono RI.mono) hle87 h67
  replace h0_1 := Sl.mono (RL.mono RI.mono) hle87 h0_1
  refine WL.lit hE hS (e := 65) (es := 1) (vs := [(0, .slice (some ⟨b83, 0, none⟩) 2 2)]) (cs := [.slice (some ⟨b83, 0, none⟩) 2 2]) (runs_plain rfl) rfl (by kernel_rfl) rfl ?_; clear hE hS a w; intro b89 a w hE hS
  obtain ⟨x90, hx91, hq53⟩ := bindS hq53
  refine WL.appD hE hS 1 (m := 1) (runs_plain rfl) rfl rfl rfl ap23 rfl h67 rfl (xs := [[x56.No, x56.Stock]]) (Ev.cons (c1 := [.slice (some ⟨b83, 0, none⟩) 2 2]) ⟨_, _, rfl, h88⟩ rfl (Ev.nil)) rfl rfl hx91 rfl ?_; clear hE hS a w; intro a92 c93 cs94 a w h95 hE hS
  refine vp hS hE rfl rfl fun a hE => WL.nil ?_
  refine W.seq ?_
  refine W.seq (W.region (vP hS hE (Gives.fld hE rfl fl111_2) rfl fun a hE => ?_))
  refine vP hS hE (Gives.loadB hE 0 rfl rfl rfl ty109) rfl fun a hE => ?_
  refine vP hS hE (Gives.len hE rfl sl109) rfl fun a hE => ?_
  refine vp hS hE rfl rfl fun a hE => WL.nil ?_
  obtain ⟨q97, hq96, hq53⟩ := bindS hq53
  refine W.cut (fun a w => ∃ (q107 : List (List Int)), ∃ (a108 : Option Addr), ∃ (c109 : Nat), ∃ (n111 : Nat), ∃ (cs112 : List Value), ∃ (s105 : Sg), s86.Le s105 ∧ q107 = q97 ∧ Ev 1 (RL 1 (RI .i64)) s105 cs112 q107 ∧ q107.length = n111 ∧ Rep a 52 [(1, pp b51), (3, .slice a108 n111 c109), (5, pp b82), (9, .slice a0_0 x0.Trains.length c0_0), (10, vi ((x0.Trains).length : Int)), (11, vi ((k55 : Nat) : Int))] ∧ St w s105 (pc b82 #[vi x56.No, vi x56.Stock, .slice a76 x56.Stops.length c77, .slice a79 x56.Legs.length c80] 111 :: vecC 65 1 a108 c109 n111 cs112 :: pc b51 #[.slice a0_0 x0.Trains.length c0_0, .slice a0_1 x0.Turns.length c0_1] 25 :: R)) ?_ ?_
  ·refine W.block ?_
   refine W.loop (fun m a w => ∃ (rest100 : List ApiStop) (k98 : Nat), ∃ (q107 : List (List Int)), ∃ (a108 : Option Addr), ∃ (c109 : Nat), ∃ (n111 : Nat), ∃ (cs112 : List Value), ∃ (s105 : Sg), rest100.length = m ∧ x56.Stops.drop k98 = rest100 ∧ s86.Le s105 ∧ Fishref2numbersIn.loop2 rest100 q107 = some q97 ∧ Ev 1 (RL 1 (RI .i64)) s105 cs112 q107 ∧ q107.length = n111 ∧ Rep a 52 [(1, pp b51), (3, .slice a108 n111 c109), (5, pp b82), (9, .slice a0_0 x0.Trains.length c0_0), (10, vi ((x0.Trains).length : Int)), (11, vi ((k55 : Nat) : Int)), (24, .slice a76 x56.Stops.length c77), (25, vi ((x56.Stops).length : Int)), (26, vi ((k98 : Nat) : Int))] ∧ St w s105 (pc b82 #[vi x56.No, vi x56.Stock, .slice a76 x56.Stops.length c77, .slice a79 x56.Legs.length c80] 111 :: vecC 65 1 a108 c109 n111 cs112 :: pc b51 #[.slice a0_0 x0.Trains.length c0_0, .slice a0_1 x0.Turns.length c0_1] 25 :: R)) (m := x56.Stops.length) ⟨x56.Stops, 0, x90, a92, c93, x90.length, cs94, s86, rfl, rfl, (Sg.Le.refl _), hq96, h95, (rfl), hE.pick _ ⟨rfl, rfl, rfl, rfl, rfl, rfl, rfl, rfl, rfl, trivial⟩, hS⟩ ?_
   clear hE hS a w hq96; rintro m104 a w ⟨rest100, k98, q107, a108, c109, n111, cs112, s105, rfl, hd101, hle106, hq96, h110, rfl, hE, hS⟩
   refine W.gen fun K114 hK114 => ?_
   replace h0_0 := Sl.mono RApiTrain.mono hle106 h0_0
   replace h78 := Sl.mono RApiStop.mono hle106 h78
   replace h81 := Sl.mono (RL.mono RI.mono) hle106 h81
   replace h88 := Sl.mono RI.mono hle106 h88
   replace h95 := Ev.mono (RL.mono RI.mono) hle106 h95
   replace h0_1 := Sl.mono (RL.mono RI.mono) hle106 h0_1
   rcases rest100 with _ | ⟨x99, rest100⟩
   ·have hlt102 := drop_nil hd101
    refine W.seq (W.region (vp hS hE rfl rfl fun a hE => WL.nil ?_))
    refine W.seq ?_
    refine W.condF hE rfl (decide_eq_false (by omega)) ?_
    subst hK114
    refine W.exit rfl ?_
    exact ⟨q107, a108, c109, q107.length, cs112, s105, hle106, Option.some.inj hq96, h110, rfl, hE.pick _ ⟨rfl, rfl, rfl, rfl, rfl, rfl, trivial⟩, hS⟩
   obtain ⟨hlt102, hx103, hd101⟩ := drop_cons hd101
   rw [Fishref2numbersIn.loop2] at hq96
   refine W.seq (W.region (vp hS hE rfl rfl fun a hE => WL.nil ?_))
   refine W.seq ?_
   refine W.condT hE rfl (decide_eq_true (by omega)) ?_
   refine W.skip ?_
   refine W.seq ?_
   refine W.block ?_
   refine W.seq (W.region ?_)
   obtain ⟨cs115, hl116, hR117, hat118⟩ := h78.at hx103
   subst hR117
   refine vP hS hE (Gives.idx hE k98 rfl rfl sl109 rfl hlt102 (h78.aok hlt102)) rfl fun a hE => ?_
   refine vP hS hE (Gives.loadA hE rfl (fun w h => hat118 w _ h) ty99) rfl fun a hE => ?_
   refine WL.alloc hE hS (runs_plain rfl) zr99 rfl ?_; clear hE hS a w; intro b119 a w hE hS
   refine WL.storeI hE hS 0 rfl (ApiStop.cells x99) (runs_plain rfl) rfl rfl rfl ty99 rfl rfl rfl rfl ?_; clear hE hS a w; intro a w hE hS
   refine WL.nil ?_
   refine W.region ?_
   refine vp hS hE rfl rfl fun a hE => ?_
   refine vP hS hE (Gives.fld hE rfl fl99_0) rfl fun a hE => ?_
   refine vP hS hE (Gives.loadB hE 0 rfl rfl rfl ty3) rfl fun a hE => ?_
   refine vP hS hE (Gives.fld hE rfl fl99_1) rfl fun a hE => ?_
   refine vP hS hE (Gives.loadB hE 0 rfl rfl rfl ty3) rfl fun a hE => ?_
   refine vP hS hE (Gives.fld hE rfl fl99_2) rfl fun a hE => ?_
   refine vP hS hE (Gives.loadB hE 0 rfl rfl rfl ty3) rfl fun a hE => ?_
   refine vP hS hE (Gives.fld hE rfl fl99_3) rfl fun a hE => ?_
   refine vP hS hE (Gives.loadB hE 0 rfl rfl rfl ty3) rfl fun a hE => ?_
   refine WL.lit hE hS (e := 3) (es := 1) (vs := [(0, vi x99.Station), (1, vi x99.Track), (2, vi x99.Arr), (3, vi x99.Dep)]) (cs := [vi x99.Station, vi x99.Track, vi x99.Arr, vi x99.Dep]) (runs_plain rfl) rfl (by kernel_rfl) rfl ?_; clear hE hS a w; intro b120 a w hE hS
   replace hS := hS.ptVec (es := 1) (m := 4) rfl (by decide)
   have h122 : Ev 1 (RI .i64) s105 [vi x99.Station, vi x99.Track, vi x99.Arr, vi x99.Dep] [x99.Station, x99.Track, x99.Arr, x99.Dep] := (Ev.cons (c1 := [vi x99.Station]) rfl rfl (Ev.cons (c1 := [vi x99.Track]) rfl rfl (Ev.cons (c1 := [vi x99.Arr]) rfl rfl (Ev.cons (c1 := [vi x99.Dep]) rfl rfl (Ev.nil)))))
   have hF := hS.fixD RI.mono 0 rfl h122 (rfl); clear hS; obtain ⟨s123, hle124, hS, h125⟩ := hF
   replace h0_0 := Sl.mono RApiTrain.mono hle124 h0_0
   replace h78 := Sl.mono RApiStop.mono hle124 h78
   replace h81 := Sl.mono (RL.mono RI.mono) hle124 h81
   replace h110 := Ev.mono (RL.mono RI.mono) hle124 h110
   replace h0_1 := Sl.mono (RL.mono RI.mono) hle124 h0_1
   refine WL.lit hE hS (e := 65) (es := 1) (vs := [(0, .slice (some ⟨b120, 0, none⟩) 4 4)]) (cs := [.slice (some ⟨b120, 0, none⟩) 4 4]) (runs_plain rfl) rfl (by kernel_rfl) rfl ?_; clear hE hS a w; intro b126 a w hE hS
   obtain ⟨x127, hx128, hq96⟩ := bindS hq96
   refine WL.appD hE hS 2 (m := 1) (runs_plain rfl) rfl rfl rfl ap23 rfl h110 rfl (xs := [[x99.Station, x99.Track, x99.Arr, x99.Dep]]) (Ev.cons (c1 := [.slice (some ⟨b120, 0, none⟩) 4 4]) ⟨_, _, rfl, h125⟩ rfl (Ev.nil)) rfl rfl hx128 rfl ?_; clear hE hS a w; intro a129 c130 cs131 a w h132 hE hS
   refine vp hS hE rfl rfl fun a hE => WL.nil ?_
   refine W.region ?_
   refine vP hS hE (Gives.inc hE rfl (by have := h78.small; omega)) rfl fun a hE => ?_
   refine vp hS hE rfl rfl fun a hE => WL.nil ?_
   replace hS := hS.tail
   subst hK114
   exact ⟨rest100.length, Nat.lt_succ_self _, rest100, k98 + 1, x127, a129, c130, x127.length, cs131, s123, rfl, hd101, (Sg.Le.trans hle106 hle124), hq96, h132, (rfl), hE.pick _ ⟨rfl, rfl, rfl, rfl, rfl, rfl, rfl, rfl, rfl, trivial⟩, hS⟩
  clear hE hS a w; rintro a w ⟨q107, a108, c109, n111, cs112, s105, hle106, rfl, h110, rfl, hE, hS⟩
  replace h0_0 := Sl.mono RApiTrain.mono hle106 h0_0
  replace h78 := Sl.mono RApiStop.mono hle106 h78
  replace h81 := Sl.mono (RL.mono RI.mono) hle106 h81
  replace h88 := Sl.mono RI.mono hle106 h88
  replace h95 := Ev.mono (RL.mono RI.mono) hle106 h95
  replace h0_1 := Sl.mono (RL.mono RI.mono) hle106 h0_1
  refine W.region ?_
  refine vp hS hE rfl rfl fun a hE => ?_
  refine vP hS hE (Gives.fld hE rfl fl111_3) rfl fun a hE => ?_
  refine vP hS hE (Gives.loadB hE 0 rfl rfl rfl ty23) rfl fun a hE => ?_
  obtain ⟨x133, hx134, hq53⟩ := bindS hq53
  refine WL.appS hE hS 1 (runs_plain rfl) rfl rfl (xs := x56.Legs) rfl rfl ap23 RL.one h110 rfl h81 hx134 rfl ?_; clear hE hS a w; intro a135 c136 cs137 a w h138 hE hS
  refine vp hS hE rfl rfl fun a hE => WL.nil ?_
  refine W.region ?_
  refine vP hS hE (Gives.inc hE rfl (by have := h0_0.small; omega)) rfl fun a hE => ?_
  refine vp hS hE rfl rfl fun a hE => WL.nil ?_
  replace hS := hS.tail
  subst hK71
  exact ⟨rest57.length, Nat.lt_succ_self _, rest57, k55 + 1, x133, a135, c136, x133.length, cs137, s105, rfl, hd58, (Sg.Le.trans (Sg.Le.trans hle63 hle87) hle106), hq53, h138, (rfl), hE.pick _ ⟨rfl, rfl, rfl, rfl, rfl, trivial⟩, hS⟩
 clear hE hS a w; rintro a w ⟨q64, a65, c66, n68, cs69, s62, hle63, rfl, h67, rfl, hE, hS⟩
 replace h0_0 := Sl.mono RApiTrain.mono hle63 h0_0
 replace h0_1 := Sl.mono (RL.mono RI.mono) hle63 h0_1
 refine W.seq (W.region (vp hS hE rfl rfl fun a hE => ?_))
 refine vP hS hE (Gives.fld hE rfl fl25_1) rfl fun a hE => ?_
 refine vP hS hE (Gives.loadB hE 1 rfl rfl rfl ty23) rfl fun a hE => ?_
 obtain ⟨x139, hx140, hr⟩ := bindS hr
 refine WL.appS hE hS 0 (runs_plain rfl) rfl rfl (xs := x0.Turns) rfl rfl ap23 RL.one h67 rfl h0_1 hx140 rfl ?_; clear hE hS a w; intro a141 c142 cs143 a w h144 hE hS
 refine vp hS hE rfl rfl fun a hE => WL.nil ?_
 refine W.ret ?_
 refine finG (fn := Tryz.f101) (rs := [.tmp 2]) (vs := [_]) hE rfl ⟨rfl, trivial⟩ ?_
 obtain rfl := Option.some.inj hr
 replace hS := hS.dropAt 1
 exact ⟨a141, c142, x139.length, cs143, s62, rfl, hle63, h144, (rfl), hS⟩
set_option maxHeartbeats 8000000 in
theorem Fishref2within_ok  {w : World} {s : Sg} {R : List HP} {x0 : Int} {x1 : Int} {x2 : Int} (hS : St w s (R))  {r : Bool} (hr : Fishref2within x0 x1 x2 = r) :
  Calls Tryz.prog 51 [vi x0, vi x1, vi x2].toArray w (fun e w => e = .returned (.bool r) ∧ St w s (R)) := by
 refine enter Tryz.func51 rfl rfl rfl fun a hE => ?_
 rw [Fishref2within] at hr
 refine W.seq (W.region (vp hS hE rfl rfl fun a hE => WL.nil ?_))
 refine W.seq ?_
 obtain ⟨q52, hq51, hr⟩ := bndS hr
 refine W.cut (fun a w => ∃ (q55 : Bool), q55 = q52 ∧ Rep a 15 [(6, .bool q55)] ∧ St w s (R)) ?_ ?_
 ·refine W.gen fun K56 hK56 => ?_
  refine W.region ?_
  refine v2 hS hE rfl rfl rfl rfl fun a hE => ?_
  refine v2 hS hE rfl rfl rfl rfl fun a hE => ?_
  rcases Bool.eq_false_or_eq_true (decide (x0 ≥ x1)) with hg57 | hg57
  ·replace hq51 := iteT hg57 hq51
   refine WL.vS hS hE (runs_if hE rfl rfl rfl hg57) (Gives.p hE rfl) rfl fun a hE => ?_
   refine WL.vS hS hE (runs_if hE rfl rfl rfl hg57) (Gives.p hE rfl) rfl fun a hE => ?_
   refine WL.vS hS hE (runs_if hE rfl rfl rfl hg57) (Gives.p hE rfl) rfl fun a hE => ?_
   refine vP hS hE (Gives.pickT hE rfl hg57 rfl) rfl fun a hE => ?_
   refine vp hS hE rfl rfl fun a hE => WL.nil ?_
   subst hK56
   exact ⟨decide (x0 ≤ x2), hq51, hE.pick _ ⟨rfl, trivial⟩, hS⟩
  replace hq51 := iteF hg57 hq51
  refine nO hE rfl rfl rfl (by rw [hg57]; decide) rfl fun a hE => ?_
  refine nO hE rfl rfl rfl (by rw [hg57]; decide) rfl fun a hE => ?_
  refine nO hE rfl rfl rfl (by rw [hg57]; decide) rfl fun a hE => ?_
  refine vP hS hE (Gives.pickF hE rfl hg57 rfl) rfl fun a hE => ?_
  refine vp hS hE rfl rfl fun a hE => WL.nil ?_
  subst hK56
  exact ⟨false, hq51, hE.pick _ ⟨rfl, trivial⟩, hS⟩
 clear hE hS a w; rintro a w ⟨q55, rfl, hE, hS⟩
 refine W.ret ?_
 refine finG (fn := Tryz.f51) (rs := [.tmp 6]) (vs := [_]) hE rfl ⟨rfl, trivial⟩ ?_
 subst hr
 exact ⟨rfl, hS⟩
set_option maxHeartbeats 8000000 in
theorem Fishref2TextFault_ok  {w : World} {s : Sg} {R : List HP} {x0 : ApiDay} {a0_0 : Option Addr} {c0_0 : Nat} {a0_1 : Option Addr} {c0_1 : Nat} (hS : St w s (R)) (h0_0 : Sl 4 RApiTrain s a0_0 c0_0 x0.Trains) (h0_1 : Sl 1 (RL 1 (RI .i64)) s a0_1 c0_1 x0.Turns) {r : Int} (hr : Fishref2TextFault x0 = some r) :
  Calls Tryz.prog 50 [.agg (List.toArray [.slice a0_0 x0.Trains.length c0_0, .slice a0_1 x0.Turns.length c0_1])].toArray w (fun e w => e = .returned (vi r) ∧ St w s (R)) := by
 refine enter Tryz.func50 rfl rfl rfl fun a hE => ?_
 rw [Fishref2TextFault] at hr
 refine W.seq (W.region ?_)
 refine WL.box hE hS (runs_plain rfl) rfl rfl rfl ?_; clear hE hS a w; intro b51 a w hE hS
 refine vp hS hE rfl rfl fun a hE => WL.nil ?_
 refine W.seq ?_
 refine W.seq ?_
 obtain ⟨q53, hq52, hr⟩ := bndS hr
 refine W.cut (fun a w => ∃ (q56 : Bool), q56 = q53 ∧ Rep a 105 [(1, pp b51), (24, .bool q56)] ∧ St w s (pc b51 #[.slice a0_0 x0.Trains.length c0_0, .slice a0_1 x0.Turns.length c0_1] 25 :: R)) ?_ ?_
 ·refine W.gen fun K57 hK57 => ?_
  refine W.region ?_
  refine vP hS hE (Gives.fld hE rfl fl25_0) rfl fun a hE => ?_
  refine vP hS hE (Gives.loadB hE 0 rfl rfl rfl ty22) rfl fun a hE => ?_
  refine vP hS hE (Gives.len hE rfl sl22) rfl fun a hE => ?_
  refine v2 hS hE rfl rfl rfl rfl fun a hE => ?_
  rcases Bool.eq_false_or_eq_true (decide (((x0.Trains).length : Int) > 12)) with hg58 | hg58
  ·replace hq52 := iteT hg58 hq52
   refine nO hE rfl rfl rfl (by rw [hg58]; decide) rfl fun a hE => ?_
   refine nO hE rfl rfl rfl (by rw [hg58]; decide) rfl fun a hE => ?_
   refine nO hE rfl rfl rfl (by rw [hg58]; decide) rfl fun a hE => ?_
   refine nO hE rfl rfl rfl (by rw [hg58]; decide) rfl fun a hE => ?_
   refine vP hS hE (Gives.pickT hE rfl hg58 rfl) rfl fun a hE => WL.nil ?_
   subst hK57
   exact ⟨true, hq52, hE.pick _ ⟨rfl, rfl, trivial⟩, hS⟩
  replace hq52 := iteF hg58 hq52
  refine WL.vS hS hE (runs_if hE rfl rfl rfl hg58) (Gives.fld hE rfl fl25_1) rfl fun a hE => ?_
  refine WL.vS hS hE (runs_if hE rfl rfl rfl hg58) (Gives.loadB hE 0 rfl rfl rfl ty23) rfl fun a hE => ?_
  refine WL.vS hS hE (runs_if hE rfl rfl rfl hg58) (Gives.len hE rfl sl23) rfl fun a hE => ?_
  refine WL.vS hS hE (runs_if hE rfl rfl rfl hg58) (Gives.p hE rfl) rfl fun a hE => ?_
  refine vP hS hE (Gives.pickF hE rfl hg58 rfl) rfl fun a hE => WL.nil ?_
  subst hK57
  exact ⟨decide (((x0.Turns).length : Int) > 8), hq52, hE.pick _ ⟨rfl, rfl, trivial⟩, hS⟩
 clear hE hS a w; rintro a w ⟨q56, rfl, hE, hS⟩
 refine W.cond hE rfl (fun hc59 => ?_) (fun hc59 => ?_)
 ·replace hr := iteT hc59 hr
  refine W.seq (W.region (vp hS hE rfl rfl fun a hE => WL.nil ?_))
  refine W.ret ?_
  refine finG (fn := Tryz.f50) (rs := [.tmp 2]) (vs := [_]) hE rfl ⟨rfl, trivial⟩ ?_
  obtain rfl := Option.some.inj hr
  replace hS := hS.tail
  exact ⟨rfl, hS⟩
 replace hr := iteF hc59 hr
 refine W.skip ?_
 refine W.seq ?_
 refine W.seq (W.region (vP hS hE (Gives.fld hE rfl fl25_0) rfl fun a hE => ?_))
 refine vP hS hE (Gives.loadB hE 0 rfl rfl rfl ty22) rfl fun a hE => ?_
 refine vP hS hE (Gives.len hE rfl sl22) rfl fun a hE => ?_
 refine vp hS hE rfl rfl fun a hE => WL.nil ?_
 obtain ⟨q61, hq60, hr⟩ := bndS hr
 refine W.cut (fun a w => (.next ()) = q61 ∧ Rep a 105 [(1, pp b51)] ∧ St w s (pc b51 #[.slice a0_0 x0.Trains.length c0_0, .slice a0_1 x0.Turns.length c0_1] 25 :: R)) ?_ ?_
 ·refine W.block ?_
  refine W.loop (fun m a w => ∃ (rest64 : List ApiTrain) (k62 : Nat), rest64.length = m ∧ x0.Trains.drop k62 = rest64 ∧ Fishref2TextFault.loop1 rest64 = q61 ∧ Rep a 105 [(1, pp b51), (26, .slice a0_0 x0.Trains.length c0_0), (27, vi ((x0.Trains).length : Int)), (28, vi ((k62 : Nat) : Int))] ∧ St w s (pc b51 #[.slice a0_0 x0.Trains.length c0_0, .slice a0_1 x0.Turns.length c0_1] 25 :: R)) (m := x0.Trains.length) ⟨x0.Trains, 0, rfl, rfl, hq60, hE.pick _ ⟨rfl, rfl, rfl, rfl, trivial⟩, hS⟩ ?_
  clear hE hS a w hq60; rintro m68 a w ⟨rest64, k62, rfl, hd65, hq60, hE, hS⟩
  refine W.gen fun K71 hK71 => ?_
  rcases rest64 with _ | ⟨x63, rest64⟩
  ·have hlt66 := drop_nil hd65
   refine W.seq (W.region (vp hS hE rfl rfl fun a hE => WL.nil ?_))
   refine W.seq ?_
   refine W.condF hE rfl (decide_eq_false (by omega)) ?_
   subst hK71
   refine W.exit rfl ?_
   exact ⟨hq60, hE.pick _ ⟨rfl, trivial⟩, hS⟩
  obtain ⟨hlt66, hx67, hd65⟩ := drop_cons hd65
  rw [Fishref2TextFault.loop1] at hq60
  refine W.seq (W.region (vp hS hE rfl rfl fun a hE => WL.nil ?_))
  refine W.seq ?_
  refine W.condT hE rfl (decide_eq_true (by omega)) ?_
  refine W.skip ?_
  refine W.seq ?_
  refine W.block ?_
  refine W.seq (W.region ?_)
  obtain ⟨cs72, hl73, hR74, hat75⟩ := h0_0.at hx67
  obtain ⟨a76, c77, a79, c80, rfl, h78, h81⟩ := hR74
  refine vP hS hE (Gives.idx hE k62 rfl rfl sl22 rfl hlt66 (h0_0.aok hlt66)) rfl fun a hE => ?_
  refine vP hS hE (Gives.loadA hE rfl (fun w h => hat75 w _ h) ty111) rfl fun a hE => ?_
  refine WL.alloc hE hS (runs_plain rfl) zr111 rfl ?_; clear hE hS a w; intro b82 a w hE hS
  refine WL.storeI hE hS 0 rfl [vi x63.No, vi x63.Stock, .slice a76 x63.Stops.length c77, .slice a79 x63.Legs.length c80] (runs_plain rfl) rfl rfl rfl ty111 rfl rfl rfl rfl ?_; clear hE hS a w; intro a w hE hS
  refine WL.nil ?_
  refine W.seq ?_
  refine W.seq ?_
  obtain ⟨q84, hq83, hq60⟩ := bndS hq60
  refine W.cut (fun a w => ∃ (q87 : Bool), q87 = q84 ∧ Rep a 105 [(1, pp b51), (4, pp b82), (26, .slice a0_0 x0.Trains.length c0_0), (27, vi ((x0.Trains).length : Int)), (28, vi ((k62 : Nat) : Int)), (45, .bool q87)] ∧ St w s (pc b82 #[vi x63.No, vi x63.Stock, .slice a76 x63.Stops.length c77, .slice a79 x63.Legs.length c80] 111 :: pc b51 #[.slice a0_0 x0.Trains.length c0_0, .slice a0_1 x0.Turns.length c0_1] 25 :: R)) ?_ ?_
  ·refine W.gen fun K88 hK88 => ?_
   refine W.region ?_
   refine vP hS hE (Gives.fld hE rfl fl111_2) rfl fun a hE => ?_
   refine vP hS hE (Gives.loadB hE 0 rfl rfl rfl ty109) rfl fun a hE => ?_
   refine vP hS hE (Gives.len hE rfl sl109) rfl fun a hE => ?_
   refine v2 hS hE rfl rfl rfl rfl fun a hE => ?_
   rcases Bool.eq_false_or_eq_true (((x63.Stops).length : Int) == 0) with hg89 | hg89
   ·replace hq83 := iteT hg89 hq83
    refine nO hE rfl rfl rfl (by rw [hg89]; decide) rfl fun a hE => ?_
    refine nO hE rfl rfl rfl (by rw [hg89]; decide) rfl fun a hE => ?_
    refine nO hE rfl rfl rfl (by rw [hg89]; decide) rfl fun a hE => ?_
    refine nO hE rfl rfl rfl (by rw [hg89]; decide) rfl fun a hE => ?_
    refine nO hE rfl rfl rfl (by rw [hg89]; decide) rfl fun a hE => ?_
    refine nO hE rfl rfl rfl (by rw [hg89]; decide) rfl fun a hE => ?_
    refine nO hE rfl rfl rfl (by rw [hg89]; decide) rfl fun a hE => ?_
    refine nO hE rfl rfl rfl (by rw [hg89]; decide) rfl fun a hE => ?_
    refine vP hS hE (Gives.pickT hE rfl hg89 rfl) rfl fun a hE => WL.nil ?_
    subst hK88
    exact ⟨true, hq83, hE.pick _ ⟨rfl, rfl, rfl, rfl, rfl, rfl, trivial⟩, hS⟩
   replace hq83 := iteF hg89 hq83
   refine WL.vS hS hE (runs_if hE rfl rfl rfl hg89) (Gives.fld hE rfl fl111_3) rfl fun a hE => ?_
   refine WL.vS hS hE (runs_if hE rfl rfl rfl hg89) (Gives.loadB hE 0 rfl rfl rfl ty23) rfl fun a hE => ?_
   refine WL.vS hS hE (runs_if hE rfl rfl rfl hg89) (Gives.len hE rfl sl23) rfl fun a hE => ?_
   refine WL.vS hS hE (runs_if hE rfl rfl rfl hg89) (Gives.fld hE rfl fl111_2) rfl fun a hE => ?_
   refine WL.vS hS hE (runs_if hE rfl rfl rfl hg89) (Gives.loadB hE 0 rfl rfl rfl ty109) rfl fun a hE => ?_
   refine WL.vS hS hE (runs_if hE rfl rfl rfl hg89) (Gives.len hE rfl sl109) rfl fun a hE => ?_
   refine WL.vS hS hE (runs_if hE rfl rfl rfl hg89) (Gives.p hE rfl) rfl fun a hE => ?_
   refine WL.vS hS hE (runs_if hE rfl rfl rfl hg89) (Gives.p hE rfl) rfl fun a hE => ?_
   refine vP hS hE (Gives.pickF hE rfl hg89 rfl) rfl fun a hE => WL.nil ?_
   subst hK88
   exact ⟨(((x63.Legs).length : Int) != (w64 (((x63.Stops).length : Int) - 1))), hq83, hE.pick _ ⟨rfl, rfl, rfl, rfl, rfl, rfl, trivial⟩, hS⟩
  clear hE hS a w; rintro a w ⟨q87, rfl, hE, hS⟩
  refine W.cond hE rfl (fun hc90 => ?_) (fun hc90 => ?_)
  ·replace hq60 := iteT hc90 hq60
   refine W.seq (W.region (vp hS hE rfl rfl fun a hE => WL.nil ?_))
   refine W.ret ?_
   subst hK71
   rw [← hq60] at hr
   dsimp only at hr
   refine finG (fn := Tryz.f50) (rs := [.tmp 2]) (vs := [_]) hE rfl ⟨rfl, trivial⟩ ?_
   obtain rfl := Option.some.inj hr
   replace hS := hS.tail
   replace hS := hS.tail
   exact ⟨rfl, hS⟩
  replace hq60 := iteF hc90 hq60
  refine W.skip ?_
  refine W.seq ?_
  refine W.seq (W.region (vP hS hE (Gives.fld hE rfl fl111_3) rfl fun a hE => ?_))
  refine vP hS hE (Gives.loadB hE 0 rfl rfl rfl ty23) rfl fun a hE => ?_
  refine vP hS hE (Gives.len hE rfl sl23) rfl fun a hE => ?_
  refine vp hS hE rfl rfl fun a hE => WL.nil ?_
  obtain ⟨q92, hq91, hq60⟩ := bndS hq60
  refine W.cut (fun a w => (.next ()) = q92 ∧ Rep a 105 [(1, pp b51), (4, pp b82), (26, .slice a0_0 x0.Trains.length c0_0), (27, vi ((x0.Trains).length : Int)), (28, vi ((k62 : Nat) : Int))] ∧ St w s (pc b82 #[vi x63.No, vi x63.Stock, .slice a76 x63.Stops.length c77, .slice a79 x63.Legs.length c80] 111 :: pc b51 #[.slice a0_0 x0.Trains.length c0_0, .slice a0_1 x0.Turns.length c0_1] 25 :: R)) ?_ ?_
  ·refine W.block ?_
   refine W.loop (fun m a w => ∃ (rest95 : List (List Int)) (k93 : Nat), rest95.length = m ∧ x63.Legs.drop k93 = rest95 ∧ Fishref2TextFault.loop2 rest95 = q92 ∧ Rep a 105 [(1, pp b51), (4, pp b82), (26, .slice a0_0 x0.Trains.length c0_0), (27, vi ((x0.Trains).length : Int)), (28, vi ((k62 : Nat) : Int)), (47, .slice a79 x63.Legs.length c80), (48, vi ((x63.Legs).length : Int)), (49, vi ((k93 : Nat) : Int))] ∧ St w s (pc b82 #[vi x63.No, vi x63.Stock, .slice a76 x63.Stops.length c77, .slice a79 x63.Legs.length c80] 111 :: pc b51 #[.slice a0_0 x0.Trains.length c0_0, .slice a0_1 x0.Turns.length c0_1] 25 :: R)) (m := x63.Legs.length) ⟨x63.Legs, 0, rfl, rfl, hq91, hE.pick _ ⟨rfl, rfl, rfl, rfl, rfl, rfl, rfl, rfl, trivial⟩, hS⟩ ?_
   clear hE hS a w hq91; rintro m99 a w ⟨rest95, k93, rfl, hd96, hq91, hE, hS⟩
   refine W.gen fun K102 hK102 => ?_
   rcases rest95 with _ | ⟨x94, rest95⟩
   ·have hlt97 := drop_nil hd96
    refine W.seq (W.region (vp hS hE rfl rfl fun a hE => WL.nil ?_))
    refine W.seq ?_
    refine W.condF hE rfl (decide_eq_false (by omega)) ?_
    subst hK102
    refine W.exit rfl ?_
    exact ⟨hq91, hE.pick _ ⟨rfl, rfl, rfl, rfl, rfl, trivial⟩, hS⟩
   obtain ⟨hlt97, hx98, hd96⟩ := drop_cons hd96
   rw [Fishref2TextFault.loop2] at hq91
   refine W.seq (W.region (vp hS hE rfl rfl fun a hE => WL.nil ?_))
   refine W.seq ?_
   refine W.condT hE rfl (decide_eq_true (by omega)) ?_
   refine W.skip ?_
   refine W.seq ?_
   refine W.block ?_
   refine W.seq (W.region ?_)
   obtain ⟨cs103, hl104, hR105, hat106⟩ := h81.at hx98
   obtain ⟨a107, c108, rfl, h109⟩ := hR105
   refine vP hS hE (Gives.idx hE k93 rfl rfl sl23 rfl hlt97 (h81.aok hlt97)) rfl fun a hE => ?_
   refine vP hS hE (Gives.load1 hE rfl (fun w h => hat106 w _ h) ty65) rfl fun a hE => ?_
   refine vp hS hE rfl rfl fun a hE => WL.nil ?_
   refine W.seq (W.region (vp hS hE rfl rfl fun a hE => ?_))
   refine vP hS hE (Gives.len hE rfl sl65) rfl fun a hE => ?_
   refine vp hS hE rfl rfl fun a hE => WL.nil ?_
   refine W.cond hE rfl (fun hc110 => ?_) (fun hc110 => ?_)
   ·replace hq91 := iteT hc110 hq91
    refine W.seq (W.region (vp hS hE rfl rfl fun a hE => WL.nil ?_))
    refine W.ret ?_
    subst hK102
    subst hK71
    rw [← hq91] at hq60
    dsimp only at hq60
    rw [← hq60] at hr
    dsimp only at hr
    refine finG (fn := Tryz.f50) (rs := [.tmp 2]) (vs := [_]) hE rfl ⟨rfl, trivial⟩ ?_
    obtain rfl := Option.some.inj hr
    replace hS := hS.tail
    replace hS := hS.tail
    exact ⟨rfl, hS⟩
   replace hq91 := iteF hc110 hq91
   refine W.skip ?_
   refine W.region ?_
   refine vP hS hE (Gives.inc hE rfl (by have := h81.small; omega)) rfl fun a hE => ?_
   refine vp hS hE rfl rfl fun a hE => WL.nil ?_
   subst hK102
   exact ⟨rest95.length, Nat.lt_succ_self _, rest95, k93 + 1, rfl, hd96, hq91, hE.pick _ ⟨rfl, rfl, rfl, rfl, rfl, rfl, rfl, rfl, trivial⟩, hS⟩
  clear hE hS a w; rintro a w ⟨rfl, hE, hS⟩
  dsimp only at hq60
  refine W.seq ?_
  refine W.seq (W.region (vP hS hE (Gives.fld hE rfl fl111_2) rfl fun a hE => ?_))
  refine vP hS hE (Gives.loadB hE 0 rfl rfl rfl ty109) rfl fun a hE => ?_
  refine vP hS hE (Gives.len hE rfl sl109) rfl fun a hE => ?_
  refine vp hS hE rfl rfl fun a hE => WL.nil ?_
  refine W.cond hE rfl (fun hc111 => ?_) (fun hc111 => ?_)
  ·replace hq60 := iteT hc111 hq60
   refine W.seq (W.region (vp hS hE rfl rfl fun a hE => WL.nil ?_))
   refine W.ret ?_
   subst hK71
   rw [← hq60] at hr
   dsimp only at hr
   refine finG (fn := Tryz.f50) (rs := [.tmp 2]) (vs := [_]) hE rfl ⟨rfl, trivial⟩ ?_
   obtain rfl := Option.some.inj hr
   replace hS := hS.tail
   replace hS := hS.tail
   exact ⟨rfl, hS⟩
  replace hq60 := iteF hc111 hq60
  refine W.skip ?_
  refine W.seq (W.region (vP hS hE (Gives.fld hE rfl fl111_3) rfl fun a hE => ?_))
  refine vP hS hE (Gives.loadB hE 0 rfl rfl rfl ty23) rfl fun a hE => ?_
  refine vP hS hE (Gives.len hE rfl sl23) rfl fun a hE => ?_
  refine vp hS hE rfl rfl fun a hE => WL.nil ?_
  obtain ⟨q113, hq112, hq60⟩ := bndS hq60
  refine W.cut (fun a w => (.next ()) = q113 ∧ Rep a 105 [(1, pp b51), (26, .slice a0_0 x0.Trains.length c0_0), (27, vi ((x0.Trains).length : Int)), (28, vi ((k62 : Nat) : Int))] ∧ St w s (pc b82 #[vi x63.No, vi x63.Stock, .slice a76 x63.Stops.length c77, .slice a79 x63.Legs.length c80] 111 :: pc b51 #[.slice a0_0 x0.Trains.length c0_0, .slice a0_1 x0.Turns.length c0_1] 25 :: R)) ?_ ?_
  ·refine W.block ?_
   refine W.loop (fun m a w => ∃ (rest116 : List (List Int)) (k114 : Nat), rest116.length = m ∧ x63.Legs.drop k114 = rest116 ∧ Fishref2TextFault.loop3 rest116 = q113 ∧ Rep a 105 [(1, pp b51), (26, .slice a0_0 x0.Trains.length c0_0), (27, vi ((x0.Trains).length : Int)), (28, vi ((k62 : Nat) : Int)), (62, .slice a79 x63.Legs.length c80), (63, vi ((x63.Legs).length : Int)), (64, vi ((k114 : Nat) : Int))] ∧ St w s (pc b82 #[vi x63.No, vi x63.Stock, .slice a76 x63.Stops.length c77, .slice a79 x63.Legs.length c80] 111 :: pc b51 #[.slice a0_0 x0.Trains.length c0_0, .slice a0_1 x0.Turns.length c0_1] 25 :: R)) (m := x63.Legs.length) ⟨x63.Legs, 0, rfl, rfl, hq112, hE.pick _ ⟨rfl, rfl, rfl, rfl, rfl, rfl, rfl, trivial⟩, hS⟩ ?_
   clear hE hS a w hq112; rintro m120 a w ⟨rest116, k114, rfl, hd117, hq112, hE, hS⟩
   refine W.gen fun K123 hK123 => ?_
   rcases rest116 with _ | ⟨x115, rest116⟩
   ·have hlt118 := drop_nil hd117
    refine W.seq (W.region (vp hS hE rfl rfl fun a hE => WL.nil ?_))
    refine W.seq ?_
    refine W.condF hE rfl (decide_eq_false (by omega)) ?_
    subst hK123
    refine W.exit rfl ?_
    exact ⟨hq112, hE.pick _ ⟨rfl, rfl, rfl, rfl, trivial⟩, hS⟩
   obtain ⟨hlt118, hx119, hd117⟩ := drop_cons hd117
   rw [Fishref2TextFault.loop3] at hq112
   refine W.seq (W.region (vp hS hE rfl rfl fun a hE => WL.nil ?_))
   refine W.seq ?_
   refine W.condT hE rfl (decide_eq_true (by omega)) ?_
   refine W.skip ?_
   refine W.seq ?_
   refine W.block ?_
   refine W.seq (W.region ?_)
   obtain ⟨cs124, hl125, hR126, hat127⟩ := h81.at hx119
   obtain ⟨a128, c129, rfl, h130⟩ := hR126
   refine vP hS hE (Gives.idx hE k114 rfl rfl sl23 rfl hlt118 (h81.aok hlt118)) rfl fun a hE => ?_
   refine vP hS hE (Gives.load1 hE rfl (fun w h => hat127 w _ h) ty65) rfl fun a hE => ?_
   refine vp hS hE rfl rfl fun a hE => WL.nil ?_
   refine W.seq (W.region (vp hS hE rfl rfl fun a hE => ?_))
   refine vP hS hE (Gives.len hE rfl sl65) rfl fun a hE => ?_
   refine vp hS hE rfl rfl fun a hE => WL.nil ?_
   refine W.cond hE rfl (fun hc131 => ?_) (fun hc131 => ?_)
   ·replace hq112 := iteT hc131 hq112
    refine W.seq (W.region (vp hS hE rfl rfl fun a hE => WL.nil ?_))
    refine W.ret ?_
    subst hK123
    subst hK71
    rw [← hq112] at hq60
    dsimp only at hq60
    rw [← hq60] at hr
    dsimp only at hr
    refine finG (fn := Tryz.f50) (rs := [.tmp 2]) (vs := [_]) hE rfl ⟨rfl, trivial⟩ ?_
    obtain rfl := Option.some.inj hr
    replace hS := hS.tail
    replace hS := hS.tail
    exact ⟨rfl, hS⟩
   replace hq112 := iteF hc131 hq112
   refine W.skip ?_
   refine W.region ?_
   refine vP hS hE (Gives.inc hE rfl (by have := h81.small; omega)) rfl fun a hE => ?_
   refine vp hS hE rfl rfl fun a hE => WL.nil ?_
   subst hK123
   exact ⟨rest116.length, Nat.lt_succ_self _, rest116, k114 + 1, rfl, hd117, hq112, hE.pick _ ⟨rfl, rfl, rfl, rfl, rfl, rfl, rfl, trivial⟩, hS⟩
  clear hE hS a w; rintro a w ⟨rfl, hE, hS⟩
  dsimp only at hq60
  refine W.region ?_
  refine vP hS hE (Gives.inc hE rfl (by have := h0_0.small; omega)) rfl fun a hE => ?_
  refine vp hS hE rfl rfl fun a hE => WL.nil ?_
  replace hS := hS.tail
  subst hK71
  exact ⟨rest64.length, Nat.lt_succ_self _, rest64, k62 + 1, rfl, hd65, hq60, hE.pick _ ⟨rfl, rfl, rfl, rfl, trivial⟩, hS⟩
 clear hE hS a w; rintro a w ⟨rfl, hE, hS⟩
 dsimp only at hr
 refine W.seq ?_
 refine W.seq (W.region (vP hS hE (Gives.fld hE rfl fl25_1) rfl fun a hE => ?_))
 refine vP hS hE (Gives.loadB hE 0 rfl rfl rfl ty23) rfl fun a hE => ?_
 refine vP hS hE (Gives.len hE rfl sl23) rfl fun a hE => ?_
 refine vp hS hE rfl rfl fun a hE => WL.nil ?_
 obtain ⟨q133, hq132, hr⟩ := bndS hr
 refine W.cut (fun a w => (.next ()) = q133 ∧ Rep a 105 [(1, pp b51)] ∧ St w s (pc b51 #[.slice a0_0 x0.Trains.length c0_0, .slice a0_1 x0.Turns.length c0_1] 25 :: R)) ?_ ?_
 ·refine W.block ?_
  refine W.loop (fun m a w => ∃ (rest136 : List (List Int)) (k134 : Nat), rest136.length = m ∧ x0.Turns.drop k134 = rest136 ∧ Fishref2TextFault.loop4 rest136 = q133 ∧ Rep a 105 [(1, pp b51), (74, .slice a0_1 x0.Turns.length c0_1), (75, vi ((x0.Turns).length : Int)), (76, vi ((k134 : Nat) : Int))] ∧ St w s (pc b51 #[.slice a0_0 x0.Trains.length c0_0, .slice a0_1 x0.Turns.length c0_1] 25 :: R)) (m := x0.Turns.length) ⟨x0.Turns, 0, rfl, rfl, hq132, hE.pick _ ⟨rfl, rfl, rfl, rfl, trivial⟩, hS⟩ ?_
  clear hE hS a w hq132; rintro m140 a w ⟨rest136, k134, rfl, hd137, hq132, hE, hS⟩
  refine W.gen fun K143 hK143 => ?_
  rcases rest136 with _ | ⟨x135, rest136⟩
  ·have hlt138 := drop_nil hd137
   refine W.seq (W.region (vp hS hE rfl rfl fun a hE => WL.nil ?_))
   refine W.seq ?_
   refine W.condF hE rfl (decide_eq_false (by omega)) ?_
   subst hK143
   refine W.exit rfl ?_
   exact ⟨hq132, hE.pick _ ⟨rfl, trivial⟩, hS⟩
  obtain ⟨hlt138, hx139, hd137⟩ := drop_cons hd137
  rw [Fishref2TextFault.loop4] at hq132
  refine W.seq (W.region (vp hS hE rfl rfl fun a hE => WL.nil ?_))
  refine W.seq ?_
  refine W.condT hE rfl (decide_eq_true (by omega)) ?_
  refine W.skip ?_
  refine W.seq ?_
  refine W.block ?_
  refine W.seq (W.region ?_)
  obtain ⟨cs144, hl145, hR146, hat147⟩ := h0_1.at hx139
  obtain ⟨a148, c149, rfl, h150⟩ := hR146
  refine vP hS hE (Gives.idx hE k134 rfl rfl sl23 rfl hlt138 (h0_1.aok hlt138)) rfl fun a hE => ?_
  refine vP hS hE (Gives.load1 hE rfl (fun w h => hat147 w _ h) ty65) rfl fun a hE => ?_
  refine vp hS hE rfl rfl fun a hE => WL.nil ?_
  refine W.seq ?_
  refine W.seq (W.region (vp hS hE rfl rfl fun a hE => ?_))
  refine vP hS hE (Gives.len hE rfl sl65) rfl fun a hE => ?_
  refine vp hS hE rfl rfl fun a hE => WL.nil ?_
  refine W.cond hE rfl (fun hc151 => ?_) (fun hc151 => ?_)
  ·replace hq132 := iteT hc151 hq132
   refine W.seq (W.region (vp hS hE rfl rfl fun a hE => WL.nil ?_))
   refine W.ret ?_
   subst hK143
   rw [← hq132] at hr
   dsimp only at hr
   refine finG (fn := Tryz.f50) (rs := [.tmp 2]) (vs := [_]) hE rfl ⟨rfl, trivial⟩ ?_
   obtain rfl := Option.some.inj hr
   replace hS := hS.tail
   exact ⟨rfl, hS⟩
  replace hq132 := iteF hc151 hq132
  refine W.skip ?_
  refine W.seq (W.region (vp hS hE rfl rfl fun a hE => ?_))
  refine vP hS hE (Gives.len hE rfl sl65) rfl fun a hE => ?_
  refine vp hS hE rfl rfl fun a hE => WL.nil ?_
  refine W.cond hE rfl (fun hc152 => ?_) (fun hc152 => ?_)
  ·replace hq132 := iteT hc152 hq132
   refine W.seq (W.region (vp hS hE rfl rfl fun a hE => WL.nil ?_))
   refine W.ret ?_
   subst hK143
   rw [← hq132] at hr
   dsimp only at hr
   refine finG (fn := Tryz.f50) (rs := [.tmp 2]) (vs := [_]) hE rfl ⟨rfl, trivial⟩ ?_
   obtain rfl := Option.some.inj hr
   replace hS := hS.tail
   exact ⟨rfl, hS⟩
  replace hq132 := iteF hc152 hq132
  refine W.skip ?_
  refine W.region ?_
  refine vP hS hE (Gives.inc hE rfl (by have := h0_1.small; omega)) rfl fun a hE => ?_
  refine vp hS hE rfl rfl fun a hE => WL.nil ?_
  subst hK143
  exact ⟨rest136.length, Nat.lt_succ_self _, rest136, k134 + 1, rfl, hd137, hq132, hE.pick _ ⟨rfl, rfl, rfl, rfl, trivial⟩, hS⟩
 clear hE hS a w; rintro a w ⟨rfl, hE, hS⟩
 dsimp only at hr
 refine W.seq ?_
 refine W.seq (W.region (vP hS hE (Gives.loadBA hE 0 rfl rfl ty25) rfl fun a hE => ?_))
 obtain ⟨q153, hq154, hr⟩ := bindS hr
 have hc_ := Fishref2numbersIn_ok hS h0_0 h0_1 hq154
 refine WL.fnq hE (hc_) (runs_plain rfl) bd101 rfl rfl rfl ?_
 clear hE hS hc_; rintro e w ⟨a155, c156, n157, cs158, s161, rfl, hle162, h159, rfl, hS⟩; refine ⟨_, rfl, ?_⟩; clear a; intro a hE
 replace h0_0 := Sl.mono RApiTrain.mono hle162 h0_0
 replace h0_1 := Sl.mono (RL.mono RI.mono) hle162 h0_1
 refine vP hS hE (Gives.len hE rfl sl23) rfl fun a hE => ?_
 refine vp hS hE rfl rfl fun a hE => WL.nil ?_
 have hb174 : q153.length ≤ 9223372036854775807 := by have := hS.vecCap 0 rfl; unfold maxLen at this; omega
 obtain ⟨q164, hq163, hr⟩ := bindS hr
 refine W.cut (fun a w => (.next ()) = q164 ∧ Rep a 105 [] ∧ St w s161 (vecC 65 1 a155 c156 q153.length cs158 :: pc b51 #[.slice a0_0 x0.Trains.length c0_0, .slice a0_1 x0.Turns.length c0_1] 25 :: R)) ?_ ?_
 ·refine W.block ?_
  refine W.loop (fun m a w => ∃ (rest167 : Nat) (k165 : Nat), rest167 = m ∧ k165 + rest167 = q153.length ∧ Fishref2TextFault.loop5 q153 rest167 k165 = some q164 ∧ Rep a 105 [(88, .slice a155 q153.length c156), (89, vi ((q153.length : Nat) : Int)), (90, vi ((k165 : Nat) : Int))] ∧ St w s161 (vecC 65 1 a155 c156 q153.length cs158 :: pc b51 #[.slice a0_0 x0.Trains.length c0_0, .slice a0_1 x0.Turns.length c0_1] 25 :: R)) (m := q153.length) ⟨q153.length, 0, rfl, by omega, hq163, hE.pick _ ⟨rfl, rfl, rfl, trivial⟩, hS⟩ ?_
  clear hE hS a w hq163; rintro m171 a w ⟨rest167, k165, rfl, hd168, hq163, hE, hS⟩
  refine W.gen fun K175 hK175 => ?_
  rcases rest167 with _ | rest167
  ·skip
   refine W.seq (W.region (vp hS hE rfl rfl fun a hE => WL.nil ?_))
   refine W.seq ?_
   refine W.condF hE rfl (decide_eq_false (by omega)) ?_
   subst hK175
   refine W.exit rfl ?_
   exact ⟨Option.some.inj hq163, hE.pick _ trivial, hS⟩
  have hlt169 : k165 < q153.length := by omega
  rw [Fishref2TextFault.loop5] at hq163
  refine W.seq (W.region (vp hS hE rfl rfl fun a hE => WL.nil ?_))
  refine W.seq ?_
  refine W.condT hE rfl (decide_eq_true (by omega)) ?_
  refine W.skip ?_
  refine W.seq ?_
  refine W.block ?_
  refine W.seq (W.region ?_)
  obtain ⟨x176, hx177, hq163⟩ := bindS hq163
  obtain ⟨hi178, hlt179, hy180⟩ := gx_some hx177
  obtain ⟨vs181, hl182, hR183, hd184, hget185⟩ := h159.at hy180
  obtain ⟨a186, c187, rfl, h188⟩ := hR183
  refine vP hS hE (Gives.idx hE ((((k165 : Nat) : Int)).toNat) rfl rfl sl23 hi178 (by omega) (hS.vecAok 0 rfl (by omega : (((k165 : Nat) : Int)).toNat < q153.length))) rfl fun a hE => ?_
  refine vP hS hE (Gives.load1 hE rfl (fun w h => St.vecSees h 0 rfl ((((k165 : Nat) : Int)).toNat * 1) _ hget185) ty65) rfl fun a hE => ?_
  refine vp hS hE rfl rfl fun a hE => WL.nil ?_
  refine W.seq (W.region (vp hS hE rfl rfl fun a hE => ?_))
  refine vP hS hE (Gives.len hE rfl sl65) rfl fun a hE => ?_
  refine vp hS hE rfl rfl fun a hE => WL.nil ?_
  obtain ⟨q190, hq189, hq163⟩ := bndS hq163
  refine W.cut (fun a w => (.next ()) = q190 ∧ Rep a 105 [(88, .slice a155 q153.length c156), (89, vi ((q153.length : Nat) : Int)), (90, vi ((k165 : Nat) : Int))] ∧ St w s161 (vecC 65 1 a155 c156 q153.length cs158 :: pc b51 #[.slice a0_0 x0.Trains.length c0_0, .slice a0_1 x0.Turns.length c0_1] 25 :: R)) ?_ ?_
  ·refine W.block ?_
   refine W.loop (fun m a w => ∃ (rest193 : List Int) (k191 : Nat), rest193.length = m ∧ x176.drop k191 = rest193 ∧ Fishref2TextFault.loop6 rest193 = q190 ∧ Rep a 105 [(88, .slice a155 q153.length c156), (89, vi ((q153.length : Nat) : Int)), (90, vi ((k165 : Nat) : Int)), (94, .slice a186 x176.length c187), (95, vi ((x176).length : Int)), (96, vi ((k191 : Nat) : Int))] ∧ St w s161 (vecC 65 1 a155 c156 q153.length cs158 :: pc b51 #[.slice a0_0 x0.Trains.length c0_0, .slice a0_1 x0.Turns.length c0_1] 25 :: R)) (m := x176.length) ⟨x176, 0, rfl, rfl, hq189, hE.pick _ ⟨rfl, rfl, rfl, rfl, rfl, rfl, trivial⟩, hS⟩ ?_
   clear hE hS a w hq189; rintro m197 a w ⟨rest193, k191, rfl, hd194, hq189, hE, hS⟩
   refine W.gen fun K200 hK200 => ?_
   rcases rest193 with _ | ⟨x192, rest193⟩
   ·have hlt195 := drop_nil hd194
    refine W.seq (W.region (vp hS hE rfl rfl fun a hE => WL.nil ?_))
    refine W.seq ?_
    refine W.condF hE rfl (decide_eq_false (by omega)) ?_
    subst hK200
    refine W.exit rfl ?_
    exact ⟨hq189, hE.pick _ ⟨rfl, rfl, rfl, trivial⟩, hS⟩
   obtain ⟨hlt195, hx196, hd194⟩ := drop_cons hd194
   rw [Fishref2TextFault.loop6] at hq189
   refine W.seq (W.region (vp hS hE rfl rfl fun a hE => WL.nil ?_))
   refine W.seq ?_
   refine W.condT hE rfl (decide_eq_true (by omega)) ?_
   refine W.skip ?_
   refine W.seq ?_
   refine W.block ?_
   refine W.seq (W.region ?_)
   obtain ⟨cs201, hl202, hR203, hat204⟩ := h188.at hx196
   subst hR203
   refine vP hS hE (Gives.idx hE k191 rfl rfl sl65 rfl hlt195 (h188.aok hlt195)) rfl fun a hE => ?_
   refine vP hS hE (Gives.load1 hE rfl (fun w h => hat204 w _ h) ty3) rfl fun a hE => ?_
   refine vp hS hE rfl rfl fun a hE => WL.nil ?_
   refine W.seq (W.region (vp hS hE rfl rfl fun a hE => ?_))
   refine WL.fnq hE (Fishref2within_ok hS  rfl (r := Fishref2within x192 0 999999)) (runs_plain rfl) bd51 rfl rfl rfl ?_
   clear hE hS; rintro e w ⟨rfl, hS⟩; refine ⟨_, rfl, ?_⟩; clear a; intro a hE
   refine vp hS hE rfl rfl fun a hE => WL.nil ?_
   refine W.cond hE rfl (fun hc205 => ?_) (fun hc205 => ?_)
   ·replace hq189 := iteT hc205 hq189
    refine W.seq (W.region (vp hS hE rfl rfl fun a hE => WL.nil ?_))
    refine W.ret ?_
    subst hK200
    subst hK175
    rw [← hq189] at hq163
    dsimp only at hq163
    rw [← Option.some.inj hq163] at hr
    dsimp only at hr
    refine finG (fn := Tryz.f50) (rs := [.tmp 2]) (vs := [_]) hE rfl ⟨rfl, trivial⟩ ?_
    obtain rfl := Option.some.inj hr
    replace hS := hS.tail
    replace hS := hS.tail
    exact ⟨rfl, (hS.down hle162)⟩
   replace hq189 := iteF hc205 hq189
   refine W.skip ?_
   refine W.region ?_
   refine vP hS hE (Gives.inc hE rfl (by have := h188.small; omega)) rfl fun a hE => ?_
   refine vp hS hE rfl rfl fun a hE => WL.nil ?_
   subst hK200
   exact ⟨rest193.length, Nat.lt_succ_self _, rest193, k191 + 1, rfl, hd194, hq189, hE.pick _ ⟨rfl, rfl, rfl, rfl, rfl, rfl, trivial⟩, hS⟩
  clear hE hS a w; rintro a w ⟨rfl, hE, hS⟩
  dsimp only at hq163
  refine W.region ?_
  refine vP hS hE (Gives.inc hE rfl (by omega)) rfl fun a hE => ?_
  refine vp hS hE rfl rfl fun a hE => WL.nil ?_
  subst hK175
  exact ⟨rest167, Nat.lt_succ_self _, rest167, k165 + 1, rfl, (by omega), hq163, hE.pick _ ⟨rfl, rfl, rfl, trivial⟩, hS⟩
 clear hE hS a w; rintro a w ⟨rfl, hE, hS⟩
 dsimp only at hr
 refine W.seq (W.region (vp hS hE rfl rfl fun a hE => WL.nil ?_))
 refine W.ret ?_
 refine finG (fn := Tryz.f50) (rs := [.tmp 2]) (vs := [_]) hE rfl ⟨rfl, trivial⟩ ?_
 obtain rfl := Option.some.inj hr
 replace hS := hS.tail
 replace hS := hS.tail
 exact ⟨rfl, (hS.down hle162)⟩
set_option maxHeartbeats 8000000 in
theorem Fishref2GuideFault_ok  {w : World} {s : Sg} {R : List HP} {x0 : ApiDay} {a0_0 : Option Addr} {c0_0 : Nat} {a0_1 : Option Addr} {c0_1 : Nat} (hS : St w s (R)) (h0_0 : Sl 4 RApiTrain s a0_0 c0_0 x0.Trains) (h0_1 : Sl 1 (RL 1 (RI .i64)) s a0_1 c0_1 x0.Turns) {r : Int} (hr : Fishref2GuideFault x0 = some r) :
  Calls Tryz.prog 8 [.agg (List.toArray [.slice a0_0 x0.Trains.length c0_0, .slice a0_1 x0.Turns.length c0_1])].toArray w (fun e w => e = .returned (vi r) ∧ St w s (R)) := by
 refine enter Tryz.func8 rfl rfl rfl fun a hE => ?_
 rw [Fishref2GuideFault] at hr
 refine W.seq (W.region ?_)
 refine WL.box hE hS (runs_plain rfl) rfl rfl rfl ?_; clear hE hS a w; intro b51 a w hE hS
 refine vp hS hE rfl rfl fun a hE => WL.nil ?_
 refine W.seq ?_
 refine W.seq (W.region (vP hS hE (Gives.loadBA hE 0 rfl rfl ty25) rfl fun a hE => ?_))
 obtain ⟨q52, hq53, hr⟩ := bindS hr
 have hc_ := Fishref2TextFault_ok hS h0_0 h0_1 hq53
 refine WL.fnq hE (hc_) (runs_plain rfl) bd50 rfl rfl rfl ?_
 clear hE hS hc_; rintro e w ⟨rfl, hS⟩; refine ⟨_, rfl, ?_⟩; clear a; intro a hE
 refine vp hS hE rfl rfl fun a hE => WL.nil ?_
 refine W.seq (W.region (v2 hS hE rfl rfl rfl rfl fun a hE => WL.nil ?_))
 refine W.cond hE rfl (fun hc54 => ?_) (fun hc54 => ?_)
 ·replace hr := iteT hc54 hr
  refine W.seq (W.region (v2 hS hE rfl rfl rfl rfl fun a hE => WL.nil ?_))
  refine W.ret ?_
  refine finG (fn := Tryz.f8) (rs := [.tmp 2]) (vs := [_]) hE rfl ⟨rfl, trivial⟩ ?_
  obtain rfl := Option.some.inj hr
  replace hS := hS.tail
  exact ⟨rfl, hS⟩
 replace hr := iteF hc54 hr
 refine W.skip ?_
 refine W.seq ?_
 refine W.seq (W.region (vP hS hE (Gives.fld hE rfl fl25_0) rfl fun a hE => ?_))
 refine vP hS hE (Gives.loadB hE 0 rfl rfl rfl ty22) rfl fun a hE => ?_
 refine vP hS hE (Gives.len hE rfl sl22) rfl fun a hE => ?_
 refine vp hS hE rfl rfl fun a hE => WL.nil ?_
 obtain ⟨q56, hq55, hr⟩ := bindS hr
 refine W.cut (fun a w => (.next ()) = q56 ∧ Rep a 93 [] ∧ St w s (pc b51 #[.slice a0_0 x0.Trains.length c0_0, .slice a0_1 x0.Turns.length c0_1] 25 :: R)) ?_ ?_
 ·refine W.block ?_
  refine W.loop (fun m a w => ∃ (rest59 : List ApiTrain) (k57 : Nat), rest59.length = m ∧ x0.Trains.drop k57 = rest59 ∧ Fishref2GuideFault.loop1 x0 rest59 k57 = some q56 ∧ Rep a 93 [(1, pp b51), (16, .slice a0_0 x0.Trains.length c0_0), (17, vi ((x0.Trains).length : Int)), (18, vi ((k57 : Nat) : Int))] ∧ St w s (pc b51 #[.slice a0_0 x0.Trains.length c0_0, .slice a0_1 x0.Turns.length c0_1] 25 :: R)) (m := x0.Trains.length) ⟨x0.Trains, 0, rfl, rfl, hq55, hE.pick _ ⟨rfl, rfl, rfl, rfl, trivial⟩, hS⟩ ?_
  clear hE hS a w hq55; rintro m63 a w ⟨rest59, k57, rfl, hd60, hq55, hE, hS⟩
  refine W.gen fun K66 hK66 => ?_
  rcases rest59 with _ | ⟨x58, rest59⟩
  ·have hlt61 := drop_nil hd60
   refine W.seq (W.region (vp hS hE rfl rfl fun a hE => WL.nil ?_))
   refine W.seq ?_
   refine W.condF hE rfl (decide_eq_false (by omega)) ?_
   subst hK66
   refine W.exit rfl ?_
   exact ⟨Option.some.inj hq55, hE.pick _ trivial, hS⟩
  obtain ⟨hlt61, hx62, hd60⟩ := drop_cons hd60
  rw [Fishref2GuideFault.loop1] at hq55
  refine W.seq (W.region (vp hS hE rfl rfl fun a hE => WL.nil ?_))
  refine W.seq ?_
  refine W.condT hE rfl (decide_eq_true (by omega)) ?_
  refine W.skip ?_
  refine W.seq ?_
  refine W.block ?_
  refine W.seq (W.region (vp hS hE rfl rfl fun a hE => ?_))
  obtain ⟨cs67, hl68, hR69, hat70⟩ := h0_0.at hx62
  obtain ⟨a71, c72, a74, c75, rfl, h73, h76⟩ := hR69
  refine vP hS hE (Gives.idx hE k57 rfl rfl sl22 rfl hlt61 (h0_0.aok hlt61)) rfl fun a hE => ?_
  refine vP hS hE (Gives.loadA hE rfl (fun w h => hat70 w _ h) ty111) rfl fun a hE => ?_
  refine WL.alloc hE hS (runs_plain rfl) zr111 rfl ?_; clear hE hS a w; intro b77 a w hE hS
  refine vp hS hE rfl rfl fun a hE => ?_
  refine WL.storeI hE hS 0 rfl [vi x58.No, vi x58.Stock, .slice a71 x58.Stops.length c72, .slice a74 x58.Legs.length c75] (runs_plain rfl) rfl rfl rfl ty111 rfl rfl rfl rfl ?_; clear hE hS a w; intro a w hE hS
  refine WL.nil ?_
  refine W.seq ?_
  refine W.seq (W.region (vP hS hE (Gives.fld hE rfl fl111_0) rfl fun a hE => ?_))
  refine vP hS hE (Gives.loadB hE 0 rfl rfl rfl ty3) rfl fun a hE => ?_
  refine WL.fnq hE (Fishref2within_ok hS  rfl (r := Fishref2within x58.No 1 9999)) (runs_plain rfl) bd51 rfl rfl rfl ?_
  clear hE hS; rintro e w ⟨rfl, hS⟩; refine ⟨_, rfl, ?_⟩; clear a; intro a hE
  refine vp hS hE rfl rfl fun a hE => WL.nil ?_
  refine W.cond hE rfl (fun hc78 => ?_) (fun hc78 => ?_)
  ·replace hq55 := iteT hc78 hq55
   refine W.seq (W.region (vp hS hE rfl rfl fun a hE => WL.nil ?_))
   refine W.ret ?_
   subst hK66
   rw [← Option.some.inj hq55] at hr
   dsimp only at hr
   refine finG (fn := Tryz.f8) (rs := [.tmp 2]) (vs := [_]) hE rfl ⟨rfl, trivial⟩ ?_
   obtain rfl := Option.some.inj hr
   replace hS := hS.tail
   replace hS := hS.tail
   exact ⟨rfl, hS⟩
  replace hq55 := iteF hc78 hq55
  refine W.skip ?_
  refine W.seq ?_
  refine W.seq (W.region (vP hS hE (Gives.fld hE rfl fl25_0) rfl fun a hE => ?_))
  refine vP hS hE (Gives.loadB hE 1 rfl rfl rfl ty22) rfl fun a hE => ?_
  refine vp hS hE rfl rfl fun a hE => ?_
  obtain ⟨x79, hx80, hq55⟩ := bindS hq55
  obtain ⟨a81, c82, heq83, h84⟩ := h0_0.cut hx80
  obtain ⟨h85, h86, h87, _⟩ := cutl_some hx80
  refine vP hS hE (Gives.slH hE sl22 rfl rfl h86 (Int.le_trans h87 (by have := h0_0.len; omega)) heq83) rfl fun a hE => ?_
  refine vP hS hE (Gives.len hE rfl sl22) rfl fun a hE => ?_
  refine vp hS hE rfl rfl fun a hE => WL.nil ?_
  obtain ⟨q89, hq88, hq55⟩ := bndS hq55
  refine W.cut (fun a w => (.next ()) = q89 ∧ Rep a 93 [(1, pp b51), (5, pp b77), (16, .slice a0_0 x0.Trains.length c0_0), (17, vi ((x0.Trains).length : Int)), (18, vi ((k57 : Nat) : Int))] ∧ St w s (pc b77 #[vi x58.No, vi x58.Stock, .slice a71 x58.Stops.length c72, .slice a74 x58.Legs.length c75] 111 :: pc b51 #[.slice a0_0 x0.Trains.length c0_0, .slice a0_1 x0.Turns.length c0_1] 25 :: R)) ?_ ?_
  ·refine W.block ?_
   refine W.loop (fun m a w => ∃ (rest92 : List ApiTrain) (k90 : Nat), rest92.length = m ∧ x79.drop k90 = rest92 ∧ Fishref2GuideFault.loop2 x58 rest92 = q89 ∧ Rep a 93 [(1, pp b51), (5, pp b77), (16, .slice a0_0 x0.Trains.length c0_0), (17, vi ((x0.Trains).length : Int)), (18, vi ((k57 : Nat) : Int)), (30, .slice a81 x79.length c82), (31, vi ((x79).length : Int)), (32, vi ((k90 : Nat) : Int))] ∧ St w s (pc b77 #[vi x58.No, vi x58.Stock, .slice a71 x58.Stops.length c72, .slice a74 x58.Legs.length c75] 111 :: pc b51 #[.slice a0_0 x0.Trains.length c0_0, .slice a0_1 x0.Turns.length c0_1] 25 :: R)) (m := x79.length) ⟨x79, 0, rfl, rfl, hq88, hE.pick _ ⟨rfl, rfl, rfl, rfl, rfl, rfl, rfl, rfl, trivial⟩, hS⟩ ?_
   clear hE hS a w hq88; rintro m96 a w ⟨rest92, k90, rfl, hd93, hq88, hE, hS⟩
   refine W.gen fun K99 hK99 => ?_
   rcases rest92 with _ | ⟨x91, rest92⟩
   ·have hlt94 := drop_nil hd93
    refine W.seq (W.region (vp hS hE rfl rfl fun a hE => WL.nil ?_))
    refine W.seq ?_
    refine W.condF hE rfl (decide_eq_false (by omega)) ?_
    subst hK99
    refine W.exit rfl ?_
    exact ⟨hq88, hE.pick _ ⟨rfl, rfl, rfl, rfl, rfl, trivial⟩, hS⟩
   obtain ⟨hlt94, hx95, hd93⟩ := drop_cons hd93
   rw [Fishref2GuideFault.loop2] at hq88
   refine W.seq (W.region (vp hS hE rfl rfl fun a hE => WL.nil ?_))
   refine W.seq ?_
   refine W.condT hE rfl (decide_eq_true (by omega)) ?_
   refine W.skip ?_
   refine W.seq ?_
   refine W.block ?_
   refine W.seq (W.region ?_)
   obtain ⟨cs100, hl101, hR102, hat103⟩ := h84.at hx95
   obtain ⟨a104, c105, a107, c108, rfl, h106, h109⟩ := hR102
   refine vP hS hE (Gives.idx hE k90 rfl rfl sl22 rfl hlt94 (h84.aok hlt94)) rfl fun a hE => ?_
   refine vP hS hE (Gives.loadA hE rfl (fun w h => hat103 w _ h) ty111) rfl fun a hE => ?_
   refine WL.alloc hE hS (runs_plain rfl) zr111 rfl ?_; clear hE hS a w; intro b110 a w hE hS
   refine WL.storeI hE hS 0 rfl [vi x91.No, vi x91.Stock, .slice a104 x91.Stops.length c105, .slice a107 x91.Legs.length c108] (runs_plain rfl) rfl rfl rfl ty111 rfl rfl rfl rfl ?_; clear hE hS a w; intro a w hE hS
   refine WL.nil ?_
   refine W.seq (W.region (vP hS hE (Gives.fld hE rfl fl111_0) rfl fun a hE => ?_))
   refine vP hS hE (Gives.loadB hE 0 rfl rfl rfl ty3) rfl fun a hE => ?_
   refine vP hS hE (Gives.fld hE rfl fl111_0) rfl fun a hE => ?_
   refine vP hS hE (Gives.loadB hE 1 rfl rfl rfl ty3) rfl fun a hE => ?_
   refine vp hS hE rfl rfl fun a hE => WL.nil ?_
   refine W.cond hE rfl (fun hc111 => ?_) (fun hc111 => ?_)
   ·replace hq88 := iteT hc111 hq88
    refine W.seq (W.region (vp hS hE rfl rfl fun a hE => WL.nil ?_))
    refine W.ret ?_
    subst hK99
    subst hK66
    rw [← hq88] at hq55
    dsimp only at hq55
    rw [← Option.some.inj hq55] at hr
    dsimp only at hr
    refine finG (fn := Tryz.f8) (rs := [.tmp 2]) (vs := [_]) hE rfl ⟨rfl, trivial⟩ ?_
    obtain rfl := Option.some.inj hr
    replace hS := hS.tail
    replace hS := hS.tail
    replace hS := hS.tail
    exact ⟨rfl, hS⟩
   replace hq88 := iteF hc111 hq88
   refine W.skip ?_
   refine W.region ?_
   refine vP hS hE (Gives.inc hE rfl (by have := h84.small; omega)) rfl fun a hE => ?_
   refine vp hS hE rfl rfl fun a hE => WL.nil ?_
   replace hS := hS.tail
   subst hK99
   exact ⟨rest92.length, Nat.lt_succ_self _, rest92, k90 + 1, rfl, hd93, hq88, hE.pick _ ⟨rfl, rfl, rfl, rfl, rfl, rfl, rfl, rfl, trivial⟩, hS⟩
  clear hE hS a w; rintro a w ⟨rfl, hE, hS⟩
  dsimp only at hq55
  refine W.seq ?_
  refine W.seq (W.region (vP hS hE (Gives.fld hE rfl fl111_2) rfl fun a hE => ?_))
  refine vP hS hE (Gives.loadB hE 0 rfl rfl rfl ty109) rfl fun a hE => ?_
  refine vP hS hE (Gives.len hE rfl sl109) rfl fun a hE => ?_
  refine vp hS hE rfl rfl fun a hE => WL.nil ?_
  refine W.cond hE rfl (fun hc112 => ?_) (fun hc112 => ?_)
  ·replace hq55 := iteT hc112 hq55
   refine W.seq (W.region (vp hS hE rfl rfl fun a hE => WL.nil ?_))
   refine W.ret ?_
   subst hK66
   rw [← Option.some.inj hq55] at hr
   dsimp only at hr
   refine finG (fn := Tryz.f8) (rs := [.tmp 2]) (vs := [_]) hE rfl ⟨rfl, trivial⟩ ?_
   obtain rfl := Option.some.inj hr
   replace hS := hS.tail
   replace hS := hS.tail
   exact ⟨rfl, hS⟩
  replace hq55 := iteF hc112 hq55
  refine W.skip ?_
  refine W.seq (W.region (vP hS hE (Gives.fld hE rfl fl111_2) rfl fun a hE => ?_))
  refine vP hS hE (Gives.loadB hE 0 rfl rfl rfl ty109) rfl fun a hE => ?_
  refine vP hS hE (Gives.len hE rfl sl109) rfl fun a hE => ?_
  refine vp hS hE rfl rfl fun a hE => WL.nil ?_
  obtain ⟨q114, hq113, hq55⟩ := bindS hq55
  refine W.cut (fun a w => (.next ()) = q114 ∧ Rep a 93 [(1, pp b51), (16, .slice a0_0 x0.Trains.length c0_0), (17, vi ((x0.Trains).length : Int)), (18, vi ((k57 : Nat) : Int))] ∧ St w s (pc b77 #[vi x58.No, vi x58.Stock, .slice a71 x58.Stops.length c72, .slice a74 x58.Legs.length c75] 111 :: pc b51 #[.slice a0_0 x0.Trains.length c0_0, .slice a0_1 x0.Turns.length c0_1] 25 :: R)) ?_ ?_
  ·refine W.block ?_
   refine W.loop (fun m a w => ∃ (rest117 : List ApiStop) (k115 : Nat), rest117.length = m ∧ x58.Stops.drop k115 = rest117 ∧ Fishref2GuideFault.loop3 x58 rest117 k115 = some q114 ∧ Rep a 93 [(1, pp b51), (5, pp b77), (16, .slice a0_0 x0.Trains.length c0_0), (17, vi ((x0.Trains).length : Int)), (18, vi ((k57 : Nat) : Int)), (47, .slice a71 x58.Stops.length c72), (48, vi ((x58.Stops).length : Int)), (49, vi ((k115 : Nat) : Int))] ∧ St w s (pc b77 #[vi x58.No, vi x58.Stock, .slice a71 x58.Stops.length c72, .slice a74 x58.Legs.length c75] 111 :: pc b51 #[.slice a0_0 x0.Trains.length c0_0, .slice a0_1 x0.Turns.length c0_1] 25 :: R)) (m := x58.Stops.length) ⟨x58.Stops, 0, rfl, rfl, hq113, hE.pick _ ⟨rfl, rfl, rfl, rfl, rfl, rfl, rfl, rfl, trivial⟩, hS⟩ ?_
   clear hE hS a w hq113; rintro m121 a w ⟨rest117, k115, rfl, hd118, hq113, hE, hS⟩
   refine W.gen fun K124 hK124 => ?_
   rcases rest117 with _ | ⟨x116, rest117⟩
   ·have hlt119 := drop_nil hd118
    refine W.seq (W.region (vp hS hE rfl rfl fun a hE => WL.nil ?_))
    refine W.seq ?_
    refine W.condF hE rfl (decide_eq_false (by omega)) ?_
    subst hK124
    refine W.exit rfl ?_
    exact ⟨Option.some.inj hq113, hE.pick _ ⟨rfl, rfl, rfl, rfl, trivial⟩, hS⟩
   obtain ⟨hlt119, hx120, hd118⟩ := drop_cons hd118
   rw [Fishref2GuideFault.loop3] at hq113
   refine W.seq (W.region (vp hS hE rfl rfl fun a hE => WL.nil ?_))
   refine W.seq ?_
   refine W.condT hE rfl (decide_eq_true (by omega)) ?_
   refine W.skip ?_
   refine W.seq ?_
   refine W.block ?_
   refine W.seq (W.region (vp hS hE rfl rfl fun a hE => ?_))
   obtain ⟨cs125, hl126, hR127, hat128⟩ := h73.at hx120
   subst hR127
   refine vP hS hE (Gives.idx hE k115 rfl rfl sl109 rfl hlt119 (h73.aok hlt119)) rfl fun a hE => ?_
   refine vP hS hE (Gives.loadA hE rfl (fun w h => hat128 w _ h) ty99) rfl fun a hE => ?_
   refine WL.alloc hE hS (runs_plain rfl) zr99 rfl ?_; clear hE hS a w; intro b129 a w hE hS
   refine vp hS hE rfl rfl fun a hE => ?_
   refine WL.storeI hE hS 0 rfl (ApiStop.cells x116) (runs_plain rfl) rfl rfl rfl ty99 rfl rfl rfl rfl ?_; clear hE hS a w; intro a w hE hS
   refine WL.nil ?_
   refine W.seq ?_
   refine W.seq ?_
   obtain ⟨q131, hq130, hq113⟩ := bndS hq113
   refine W.cut (fun a w => ∃ (q134 : Bool), q134 = q131 ∧ Rep a 93 [(1, pp b51), (5, pp b77), (8, vi ((k115 : Nat) : Int)), (9, pp b129), (16, .slice a0_0 x0.Trains.length c0_0), (17, vi ((x0.Trains).length : Int)), (18, vi ((k57 : Nat) : Int)), (47, .slice a71 x58.Stops.length c72), (48, vi ((x58.Stops).length : Int)), (49, vi ((k115 : Nat) : Int)), (69, .bool q134)] ∧ St w s (pc b129 (ApiStop.cells x116).toArray 99 :: pc b77 #[vi x58.No, vi x58.Stock, .slice a71 x58.Stops.length c72, .slice a74 x58.Legs.length c75] 111 :: pc b51 #[.slice a0_0 x0.Trains.length c0_0, .slice a0_1 x0.Turns.length c0_1] 25 :: R)) ?_ ?_
   ·refine W.gen fun K135 hK135 => ?_
    refine W.region ?_
    refine vP hS hE (Gives.fld hE rfl fl99_0) rfl fun a hE => ?_
    refine vP hS hE (Gives.loadB hE 0 rfl rfl rfl ty3) rfl fun a hE => ?_
    refine WL.fnq hE (Fishref2within_ok hS  rfl (r := Fishref2within x116.Station 0 11)) (runs_plain rfl) bd51 rfl rfl rfl ?_
    clear hE hS; rintro e w ⟨rfl, hS⟩; refine ⟨_, rfl, ?_⟩; clear a; intro a hE
    refine v2 hS hE rfl rfl rfl rfl fun a hE => ?_
    rcases Bool.eq_false_or_eq_true (!(Fishref2within x116.Station 0 11)) with hg136 | hg136
    ·replace hq130 := iteT hg136 hq130
     refine nO hE rfl rfl rfl (by rw [hg136]; decide) rfl fun a hE => ?_
     refine nO hE rfl rfl rfl (by rw [hg136]; decide) rfl fun a hE => ?_
     refine nO hE rfl rfl rfl (by rw [hg136]; decide) rfl fun a hE => ?_
     refine nO hE rfl rfl rfl (by rw [hg136]; decide) rfl fun a hE => ?_
     refine vP hS hE (Gives.pickT hE rfl hg136 rfl) rfl fun a hE => ?_
     refine vp hS hE rfl rfl fun a hE => ?_
     refine nO hE rfl rfl rfl (by decide) rfl fun a hE => ?_
     refine nO hE rfl rfl rfl (by decide) rfl fun a hE => ?_
     refine nO hE rfl rfl rfl (by decide) rfl fun a hE => ?_
     refine nO hE rfl rfl rfl (by decide) rfl fun a hE => ?_
     refine vP hS hE (Gives.pickT hE rfl rfl rfl) rfl fun a hE => WL.nil ?_
     subst hK135
     exact ⟨true, hq130, hE.pick _ ⟨rfl, rfl, rfl, rfl, rfl, rfl, rfl, rfl, rfl, rfl, rfl, trivial⟩, hS⟩
    replace hq130 := iteF hg136 hq130
    refine WL.vS hS hE (runs_if hE rfl rfl rfl hg136) (Gives.fld hE rfl fl99_2) rfl fun a hE => ?_
    refine WL.vS hS hE (runs_if hE rfl rfl rfl hg136) (Gives.loadB hE 0 rfl rfl rfl ty3) rfl fun a hE => ?_
    refine WL.fnq hE (Fishref2within_ok hS  rfl (r := Fishref2within x116.Arr 0 28800)) (runs_if hE rfl rfl rfl hg136) bd51 rfl rfl rfl ?_
    clear hE hS; rintro e w ⟨rfl, hS⟩; refine ⟨_, rfl, ?_⟩; clear a; intro a hE
    refine WL.vS hS hE (runs_if hE rfl rfl rfl hg136) (Gives.p hE rfl) rfl fun a hE => ?_
    refine vP hS hE (Gives.pickF hE rfl hg136 rfl) rfl fun a hE => ?_
    refine vp hS hE rfl rfl fun a hE => ?_
    rcases Bool.eq_false_or_eq_true (!(Fishref2within x116.Arr 0 28800)) with hg137 | hg137
    ·replace hq130 := iteT hg137 hq130
     refine nO hE rfl rfl rfl (by rw [hg137]; decide) rfl fun a hE => ?_
     refine nO hE rfl rfl rfl (by rw [hg137]; decide) rfl fun a hE => ?_
     refine nO hE rfl rfl rfl (by rw [hg137]; decide) rfl fun a hE => ?_
     refine nO hE rfl rfl rfl (by rw [hg137]; decide) rfl fun a hE => ?_
     refine vP hS hE (Gives.pickT hE rfl hg137 rfl) rfl fun a hE => WL.nil ?_
     subst hK135
     exact ⟨true, hq130, hE.pick _ ⟨rfl, rfl, rfl, rfl, rfl, rfl, rfl, rfl, rfl, rfl, rfl, trivial⟩, hS⟩
    replace hq130 := iteF hg137 hq130
    refine WL.vS hS hE (runs_if hE rfl rfl rfl hg137) (Gives.fld hE rfl fl99_3) rfl fun a hE => ?_
    refine WL.vS hS hE (runs_if hE rfl rfl rfl hg137) (Gives.loadB hE 0 rfl rfl rfl ty3) rfl fun a hE => ?_
    refine WL.fnq hE (Fishref2within_ok hS  rfl (r := Fishref2within x116.Dep 0 28800)) (runs_if hE rfl rfl rfl hg137) bd51 rfl rfl rfl ?_
    clear hE hS; rintro e w ⟨rfl, hS⟩; refine ⟨_, rfl, ?_⟩; clear a; intro a hE
    refine WL.vS hS hE (runs_if hE rfl rfl rfl hg137) (Gives.p hE rfl) rfl fun a hE => ?_
    refine vP hS hE (Gives.pickF hE rfl hg137 rfl) rfl fun a hE => WL.nil ?_
    subst hK135
    exact ⟨!(Fishref2within x116.Dep 0 28800), hq130, hE.pick _ ⟨rfl, rfl, rfl, rfl, rfl, rfl, rfl, rfl, rfl, rfl, rfl, trivial⟩, hS⟩
   clear hE hS a w; rintro a w ⟨q134, rfl, hE, hS⟩
   refine W.cond hE rfl (fun hc138 => ?_) (fun hc138 => ?_)
   ·replace hq113 := iteT hc138 hq113
    refine W.seq (W.region (vp hS hE rfl rfl fun a hE => WL.nil ?_))
    refine W.ret ?_
    subst hK124
    subst hK66
    rw [← Option.some.inj hq113] at hq55
    dsimp only at hq55
    rw [← Option.some.inj hq55] at hr
    dsimp only at hr
    refine finG (fn := Tryz.f8) (rs := [.tmp 2]) (vs := [_]) hE rfl ⟨rfl, trivial⟩ ?_
    obtain rfl := Option.some.inj hr
    replace hS := hS.tail
    replace hS := hS.tail
    replace hS := hS.tail
    exact ⟨rfl, hS⟩
   replace hq113 := iteF hc138 hq113
   refine W.skip ?_
   refine W.seq ?_
   obtain ⟨q140, hq139, hq113⟩ := bindS hq113
   refine W.cut (fun a w => ∃ (q143 : Bool), q143 = q140 ∧ Rep a 93 [(1, pp b51), (5, pp b77), (16, .slice a0_0 x0.Trains.length c0_0), (17, vi ((x0.Trains).length : Int)), (18, vi ((k57 : Nat) : Int)), (47, .slice a71 x58.Stops.length c72), (48, vi ((x58.Stops).length : Int)), (49, vi ((k115 : Nat) : Int)), (90, .bool q143)] ∧ St w s (pc b129 (ApiStop.cells x116).toArray 99 :: pc b77 #[vi x58.No, vi x58.Stock, .slice a71 x58.Stops.length c72, .slice a74 x58.Legs.length c75] 111 :: pc b51 #[.slice a0_0 x0.Trains.length c0_0, .slice a0_1 x0.Turns.length c0_1] 25 :: R)) ?_ ?_
   ·refine W.gen fun K144 hK144 => ?_
    refine W.regionQ (C := fun w => St w s (pc b129 (ApiStop.cells x116).toArray 99 :: pc b77 #[vi x58.No, vi x58.Stock, .slice a71 x58.Stops.length c72, .slice a74 x58.Legs.length c75] 111 :: pc b51 #[.slice a0_0 x0.Trains.length c0_0, .slice a0_1 x0.Turns.length c0_1] 25 :: R)) mixed (by kernel_rfl) hS.drew ?_
    refine qP hE (Gives.fld hE rfl fl99_3) rfl fun a hE => ?_
    refine qP hE (Gives.loadB hE 0 rfl rfl rfl ty3) rfl fun a hE => ?_
    refine qP hE (Gives.fld hE rfl fl99_2) rfl fun a hE => ?_
    refine qP hE (Gives.loadB hE 0 rfl rfl rfl ty3) rfl fun a hE => ?_
    refine qP hE (Gives.p hE rfl) rfl fun a hE => ?_
    refine qP hE (Gives.p hE rfl) rfl fun a hE => ?_
    rcases Bool.eq_false_or_eq_true (decide (x116.Dep < x116.Arr)) with hg145 | hg145
    ·replace hq139 := iteT hg145 hq139
     refine QL.no hE (runs_not hE rfl rfl rfl (by rw [hg145]; decide)) rfl fun a hE => ?_
     refine QL.no hE (runs_not hE rfl rfl rfl (by rw [hg145]; decide)) rfl fun a hE => ?_
     refine QL.no hE (runs_not hE rfl rfl rfl (by rw [hg145]; decide)) rfl fun a hE => ?_
     refine QL.no hE (runs_undef hE rfl rfl rfl) rfl fun a hE => ?_
     refine QL.no hE (runs_undef hE rfl rfl rfl) rfl fun a hE => ?_
     refine QL.no hE (runs_undef hE rfl rfl rfl) rfl fun a hE => ?_
     refine QL.no hE (runs_undef hE rfl rfl rfl) rfl fun a hE => ?_
     refine QL.no hE (runs_undef hE rfl rfl rfl) rfl fun a hE => ?_
     refine QL.no hE (runs_undef hE rfl rfl rfl) rfl fun a hE => ?_
     refine QL.no hE (runs_undef hE rfl rfl rfl) rfl fun a hE => ?_
     refine QL.no hE (runs_undef hE rfl rfl rfl) rfl fun a hE => ?_
     refine QL.no hE (runs_undef hE rfl rfl rfl) rfl fun a hE => ?_
     refine QL.no hE (runs_undef hE rfl rfl rfl) rfl fun a hE => ?_
     refine QL.no hE (runs_not hE rfl rfl rfl (by rw [hg145]; decide)) rfl fun a hE => ?_
     refine qP hE (Gives.pickT hE rfl hg145 rfl) rfl fun a hE => ?_
     refine QL.nil ?_; clear hS w; intro w hS
     subst hK144
     exact ⟨true, Option.some.inj hq139, hE.pick _ ⟨rfl, rfl, rfl, rfl, rfl, rfl, rfl, rfl, rfl, trivial⟩, hS⟩
    replace hq139 := iteF hg145 hq139
    refine QL.v hE (runs_if hE rfl rfl rfl hg145) (Gives.p hE rfl) rfl fun a hE => ?_
    refine QL.v hE (runs_if hE rfl rfl rfl hg145) (Gives.p hE rfl) rfl fun a hE => ?_
    refine QL.v hE (runs_if hE rfl rfl rfl hg145) (Gives.p hE rfl) rfl fun a hE => ?_
    rcases Bool.eq_false_or_eq_true (decide (((k115 : Nat) : Int) > 0)) with hg146 | hg146
    ·replace hq139 := iteT hg146 hq139
     refine QL.v hE (runs_if hE rfl rfl rfl hg146) (Gives.fld hE rfl fl99_2) rfl fun a hE => ?_
     refine QL.v hE (runs_if hE rfl rfl rfl hg146) (Gives.loadB hE 0 rfl rfl rfl ty3) rfl fun a hE => ?_
     refine QL.v hE (runs_if hE rfl rfl rfl hg146) (Gives.fld hE rfl fl111_2) rfl fun a hE => ?_
     refine QL.v hE (runs_if hE rfl rfl rfl hg146) (Gives.loadB hE 1 rfl rfl rfl ty109) rfl fun a hE => ?_
     refine QL.v hE (runs_if hE rfl rfl rfl hg146) (Gives.p hE rfl) rfl fun a hE => ?_
     refine QL.v hE (runs_if hE rfl rfl rfl hg146) (Gives.p hE rfl) rfl fun a hE => ?_
     obtain ⟨x147, hx148, hq139⟩ := bindS hq139
     obtain ⟨hi149, hlt150, hy151⟩ := gx_some hx148
     obtain ⟨cs152, hl153, hR154, hat155⟩ := h73.at hy151
     subst hR154
     refine QL.v hE (runs_if hE rfl rfl rfl hg146) (Gives.idx hE (w64 (((k115 : Nat) : Int) - 1)).toNat rfl rfl sl109 hi149 hlt150 (h73.aok hlt150)) rfl fun a hE => ?_
     refine QL.v hE (runs_if hE rfl rfl rfl hg146) (Gives.fld hE rfl fl99_3) rfl fun a hE => ?_
     refine QL.v hE (runs_if hE rfl rfl rfl hg146) (Gives.load1 hE rfl (fun w h => (hat155 w _ h).one rfl) ty3) rfl fun a hE => ?_
     refine QL.v hE (runs_if hE rfl rfl rfl hg146) (Gives.p hE rfl) rfl fun a hE => ?_
     refine QL.v hE (runs_if hE rfl rfl rfl hg145) (Gives.pickT hE rfl hg146 rfl) rfl fun a hE => ?_
     refine qP hE (Gives.pickF hE rfl hg145 rfl) rfl fun a hE => ?_
     refine QL.nil ?_; clear hS w; intro w hS
     subst hK144
     exact ⟨decide (x116.Arr ≤ x147.Dep), Option.some.inj hq139, hE.pick _ ⟨rfl, rfl, rfl, rfl, rfl, rfl, rfl, rfl, rfl, trivial⟩, hS⟩
    replace hq139 := iteF hg146 hq139
    refine QL.no hE (runs_not hE rfl rfl rfl (by rw [hg146]; decide)) rfl fun a hE => ?_
    refine QL.no hE (runs_not hE rfl rfl rfl (by rw [hg146]; decide)) rfl fun a hE => ?_
    refine QL.no hE (runs_not hE rfl rfl rfl (by rw [hg146]; decide)) rfl fun a hE => ?_
    refine QL.no hE (runs_not hE rfl rfl rfl (by rw [hg146]; decide)) rfl fun a hE => ?_
    refine QL.no hE (runs_not hE rfl rfl rfl (by rw [hg146]; decide)) rfl fun a hE => ?_
    refine QL.no hE (runs_not hE rfl rfl rfl (by rw [hg146]; decide)) rfl fun a hE => ?_
    refine QL.no hE (runs_not hE rfl rfl rfl (by rw [hg146]; decide)) rfl fun a hE => ?_
    refine QL.no hE (runs_not hE rfl rfl rfl (by rw [hg146]; decide)) rfl fun a hE => ?_
    refine QL.no hE (runs_not hE rfl rfl rfl (by rw [hg146]; decide)) rfl fun a hE => ?_
    refine QL.no hE (runs_not hE rfl rfl rfl (by rw [hg146]; decide)) rfl fun a hE => ?_
    refine QL.v hE (runs_if hE rfl rfl rfl hg145) (Gives.pickF hE rfl hg146 rfl) rfl fun a hE => ?_
    refine qP hE (Gives.pickF hE rfl hg145 rfl) rfl fun a hE => ?_
    refine QL.nil ?_; clear hS w; intro w hS
    subst hK144
    exact ⟨false, Option.some.inj hq139, hE.pick _ ⟨rfl, rfl, rfl, rfl, rfl, rfl, rfl, rfl, rfl, trivial⟩, hS⟩
   clear hE hS a w; rintro a w ⟨q143, rfl, hE, hS⟩
   refine W.cond hE rfl (fun hc156 => ?_) (fun hc156 => ?_)
   ·replace hq113 := iteT hc156 hq113
    refine W.seq (W.region (vp hS hE rfl rfl fun a hE => WL.nil ?_))
    refine W.ret ?_
    subst hK124
    subst hK66
    rw [← Option.some.inj hq113] at hq55
    dsimp only at hq55
    rw [← Option.some.inj hq55] at hr
    dsimp only at hr
    refine finG (fn := Tryz.f8) (rs := [.tmp 2]) (vs := [_]) hE rfl ⟨rfl, trivial⟩ ?_
    obtain rfl := Option.some.inj hr
    replace hS := hS.tail
    replace hS := hS.tail
    replace hS := hS.tail
    exact ⟨rfl, hS⟩
   replace hq113 := iteF hc156 hq113
   refine W.skip ?_
   refine W.region ?_
   refine vP hS hE (Gives.inc hE rfl (by have := h73.small; omega)) rfl fun a hE => ?_
   refine vp hS hE rfl rfl fun a hE => WL.nil ?_
   replace hS := hS.tail
   subst hK124
   exact ⟨rest117.length, Nat.lt_succ_self _, rest117, k115 + 1, rfl, hd118, hq113, hE.pick _ ⟨rfl, rfl, rfl, rfl, rfl, rfl, rfl, rfl, trivial⟩, hS⟩
  clear hE hS a w; rintro a w ⟨rfl, hE, hS⟩
  dsimp only at hq55
  refine W.region ?_
  refine vP hS hE (Gives.inc hE rfl (by have := h0_0.small; omega)) rfl fun a hE => ?_
  refine vp hS hE rfl rfl fun a hE => WL.nil ?_
  replace hS := hS.tail
  subst hK66
  exact ⟨rest59.length, Nat.lt_succ_self _, rest59, k57 + 1, rfl, hd60, hq55, hE.pick _ ⟨rfl, rfl, rfl, rfl, trivial⟩, hS⟩
 clear hE hS a w; rintro a w ⟨rfl, hE, hS⟩
 dsimp only at hr
 refine W.seq (W.region (vp hS hE rfl rfl fun a hE => WL.nil ?_))
 refine W.ret ?_
 refine finG (fn := Tryz.f8) (rs := [.tmp 2]) (vs := [_]) hE rfl ⟨rfl, trivial⟩ ?_
 obtain rfl := Option.some.inj hr
 replace hS := hS.tail
 exact ⟨rfl, hS⟩
set_option maxHeartbeats 8000000 in
theorem Fishlaw2small_1_ok  {w : World} {s : Sg} {R : List HP} {x0 : Int} {x1 : Int} {x2 : Int} (hS : St w s (R))  {r : ApiStop} (hr : Fishlaw2small_1 x0 x1 x2 = r) :
  Calls Tryz.prog 102 [vi x0, vi x1, vi x2].toArray w (fun e w => ∃ (cs0 : List Value) (t : Sg), e = .returned (.agg cs0.toArray) ∧ s.Le t ∧ RApiStop t cs0 r ∧ St w t (R)) := by
 refine enter Tryz.func102 rfl rfl rfl fun a hE => ?_
 rw [Fishlaw2small_1] at hr
 refine W.seq (W.region ?_)
 refine WL.alloc hE hS (runs_plain rfl) zr99 rfl ?_; clear hE hS a w; intro b51 a w hE hS
 refine WL.nil ?_
 refine W.seq (W.region (v2 hS hE rfl rfl rfl rfl fun a hE => ?_))
 refine vp hS hE rfl rfl fun a hE => ?_
 refine vP hS hE (Gives.build hE (vs := [(0, vi x0), (2, vi x1), (3, vi x2)]) [vi x0, vi 0, vi x1, vi x2] rfl (by kernel_rfl)) rfl fun a hE => ?_
 refine WL.storeI hE hS 0 rfl [vi x0, vi 0, vi x1, vi x2] (runs_plain rfl) rfl rfl rfl ty99 rfl rfl rfl rfl ?_; clear hE hS a w; intro a w hE hS
 refine WL.nil ?_
 refine W.ret ?_
 refine finG (fn := Tryz.f102) (rs := [.cell 6 99]) (vs := [_]) hE rfl ⟨⟨_, rfl, .inl ⟨_, rfl, hS.seesAt 0 rfl, ty99⟩⟩, trivial⟩ ?_
 subst hr
 replace hS := hS.tail
 exact ⟨_, s, rfl, (Sg.Le.refl _), rfl, hS⟩
end Go.Proofs.YtpcebngchmgckaaGreatDoor
