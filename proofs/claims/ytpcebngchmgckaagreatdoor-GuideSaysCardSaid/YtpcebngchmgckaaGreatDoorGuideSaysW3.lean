/- The walks of the functions that GuideSays reaches: each call comes to what its mirror says. The conditions are those of each contract. -/
import Derived.Test.YtpcebngchmgckaaGreatDoorProg
import Derived.Test.YtpcebngchmgckaaGreatDoorFpTight
import Derived.Test.YtpcebngchmgckaaGreatDoorGuideSaysM
import Derived.Test.YtpcebngchmgckaaGreatDoorFpAllT
import Derived.Test.YtpcebngchmgckaaGreatDoorGuideSaysS
import Derived.Test.YtpcebngchmgckaaGreatDoorFpMapS
import Derived.Test.YtpcebngchmgckaaGreatDoorFpBytes
import Derived.Test.YtpcebngchmgckaaGreatDoorFpFld
import Derived.Test.YtpcebngchmgckaaGreatDoorFpMapG
import Derived.Test.YtpcebngchmgckaaGreatDoorFpMapV
import Derived.Test.YtpcebngchmgckaaGreatDoorFpMaps
import Derived.Test.YtpcebngchmgckaaGreatDoorFpOrd
import Derived.Test.YtpcebngchmgckaaGreatDoorFpRf
import Derived.Test.YtpcebngchmgckaaGreatDoorFpRng
import Derived.Test.YtpcebngchmgckaaGreatDoorGuideSaysW2
set_option maxRecDepth 10000
namespace Go.Proofs.YtpcebngchmgckaaGreatDoor
open Go Go.Fp
set_option maxHeartbeats 8000000 in
theorem Fishref1hasEnd_ok  {w : World} {s : Sg} {R : List HP} {x0 : ApiNet} {a0_0 : Option Addr} {c0_0 : Nat} {a0_1 : Option Addr} {c0_1 : Nat} {a0_2 : Option Addr} {c0_2 : Nat} {a0_3 : Option Addr} {c0_3 : Nat} {a0_4 : Option Addr} {c0_4 : Nat} {x1 : Int} {x2 : Int} (hS : St w s (R)) (_h0_0 : Sl 1 RS s a0_0 c0_0 x0.Stations) (h0_1 : Sl 7 RApiSection s a0_1 c0_1 x0.Sections) (_h0_2 : Sl 4 RApiLink s a0_2 c0_2 x0.Links) (_h0_3 : Sl 2 RApiSignal s a0_3 c0_3 x0.Signals) (_h0_4 : Sl 2 RApiGate s a0_4 c0_4 x0.Gates) {r : Bool} (hr : Fishref1hasEnd x0 x1 x2 = some r) :
  Calls Tryz.prog 120 [.agg (List.toArray [.slice a0_0 x0.Stations.length c0_0, .slice a0_1 x0.Sections.length c0_1, .slice a0_2 x0.Links.length c0_2, .slice a0_3 x0.Signals.length c0_3, .slice a0_4 x0.Gates.length c0_4]), vi x1, vi x2].toArray w (fun e w => e = .returned (.bool r) ∧ St w s (R)) := by
 refine enter Tryz.func120 rfl rfl rfl fun a hE => ?_
 rw [Fishref1hasEnd] at hr
 refine W.seq (W.region ?_)
 refine WL.box hE hS (runs_plain rfl) rfl rfl rfl ?_; clear hE hS a w; intro b51 a w hE hS
 refine vp hS hE rfl rfl fun a hE => WL.nil ?_
 refine W.seq ?_
 obtain ⟨q53, hq52, hr⟩ := bindS hr
 refine W.cut (fun a w => ∃ (q56 : Bool), q56 = q53 ∧ Rep a 31 [(6, .bool q56)] ∧ St w s (pc b51 #[.slice a0_0 x0.Stations.length c0_0, .slice a0_1 x0.Sections.length c0_1, .slice a0_2 x0.Links.length c0_2, .slice a0_3 x0.Signals.length c0_3, .slice a0_4 x0.Gates.length c0_4] 53 :: R)) ?_ ?_
 ·refine W.gen fun K57 hK57 => ?_
  refine W.region ?_
  refine v2 hS hE rfl rfl rfl rfl fun a hE => ?_
  refine vp hS hE rfl rfl fun a hE => ?_
  rcases Bool.eq_false_or_eq_true (decide (x1 ≥ 0)) with hg58 | hg58
  ·replace hq52 := iteT hg58 hq52
   refine WL.vS hS hE (runs_if hE rfl rfl rfl hg58) (Gives.p hE rfl) rfl fun a hE => ?_
   refine WL.vS hS hE (runs_if hE rfl rfl rfl hg58) (Gives.fld hE rfl fl53_1) rfl fun a hE => ?_
   refine WL.vS hS hE (runs_if hE rfl rfl rfl hg58) (Gives.loadB hE 0 rfl rfl rfl ty48) rfl fun a hE => ?_
   refine WL.vS hS hE (runs_if hE rfl rfl rfl hg58) (Gives.len hE rfl sl48) rfl fun a hE => ?_
   refine WL.vS hS hE (runs_if hE rfl rfl rfl hg58) (Gives.p hE rfl) rfl fun a hE => ?_
   refine vP hS hE (Gives.pickT hE rfl hg58 rfl) rfl fun a hE => ?_
   refine vp hS hE rfl rfl fun a hE => ?_
   rcases Bool.eq_false_or_eq_true (decide (x1 < ((x0.Sections).length : Int))) with hg59 | hg59
   ·replace hq52 := iteT hg59 hq52
    refine WL.vS hS hE (runs_if hE rfl rfl rfl hg59) (Gives.p hE rfl) rfl fun a hE => ?_
    refine WL.vS hS hE (runs_if hE rfl rfl rfl hg59) (Gives.p hE rfl) rfl fun a hE => ?_
    refine vP hS hE (Gives.pickT hE rfl hg59 rfl) rfl fun a hE => ?_
    refine vp hS hE rfl rfl fun a hE => ?_
    rcases Bool.eq_false_or_eq_true (decide (x2 ≥ 0)) with hg60 | hg60
    ·replace hq52 := iteT hg60 hq52
     refine WL.vS hS hE (runs_if hE rfl rfl rfl hg60) (Gives.p hE rfl) rfl fun a hE => ?_
     refine WL.vS hS hE (runs_if hE rfl rfl rfl hg60) (Gives.fld hE rfl fl53_1) rfl fun a hE => ?_
     refine WL.vS hS hE (runs_if hE rfl rfl rfl hg60) (Gives.loadB hE 0 rfl rfl rfl ty48) rfl fun a hE => ?_
     refine WL.vS hS hE (runs_if hE rfl rfl rfl hg60) (Gives.p hE rfl) rfl fun a hE => ?_
     obtain ⟨x61, hx62, hq52⟩ := bindS hq52
     obtain ⟨hi63, hlt64, hy65⟩ := gx_some hx62
     obtain ⟨cs66, hl67, hR68, hat69⟩ := h0_1.at hy65
     subst hR68
     refine WL.vS hS hE (runs_if hE rfl rfl rfl hg60) (Gives.idx hE (x1).toNat rfl rfl sl48 hi63 hlt64 (h0_1.aok hlt64)) rfl fun a hE => ?_
     refine WL.vS hS hE (runs_if hE rfl rfl rfl hg60) (Gives.fld hE rfl fl151_0) rfl fun a hE => ?_
     refine WL.vS hS hE (runs_if hE rfl rfl rfl hg60) (Gives.load1 hE rfl (fun w h => (hat69 w _ h).one rfl) ty3) rfl fun a hE => ?_
     obtain ⟨q70, hq71, hq52⟩ := bindS hq52
     have hc_ := Fishref1EndsOf_ok hS  hq71
     refine WL.fnq hE (hc_) (runs_if hE rfl rfl rfl hg60) bd165 rfl rfl rfl ?_
     clear hE hS hc_; rintro e w ⟨rfl, hS⟩; refine ⟨_, rfl, ?_⟩; clear a; intro a hE
     refine WL.vS hS hE (runs_if hE rfl rfl rfl hg60) (Gives.p hE rfl) rfl fun a hE => ?_
     refine vP hS hE (Gives.pickT hE rfl hg60 rfl) rfl fun a hE => ?_
     refine vp hS hE rfl rfl fun a hE => WL.nil ?_
     subst hK57
     exact ⟨decide (x2 < q70), Option.some.inj hq52, hE.pick _ ⟨rfl, trivial⟩, hS⟩
    replace hq52 := iteF hg60 hq52
    refine nO hE rfl rfl rfl (by rw [hg60]; decide) rfl fun a hE => ?_
    refine nO hE rfl rfl rfl (by rw [hg60]; decide) rfl fun a hE => ?_
    refine nO hE rfl rfl rfl (by rw [hg60]; decide) rfl fun a hE => ?_
    refine nO hE rfl rfl rfl (by rw [hg60]; decide) rfl fun a hE => ?_
    refine nO hE rfl rfl rfl (by rw [hg60]; decide) rfl fun a hE => ?_
    refine nO hE rfl rfl rfl (by rw [hg60]; decide) rfl fun a hE => ?_
    refine nO hE rfl rfl rfl (by rw [hg60]; decide) rfl fun a hE => ?_
    refine nO hE rfl rfl rfl (by rw [hg60]; decide) rfl fun a hE => ?_
    refine nO hE rfl rfl rfl (by rw [hg60]; decide) rfl fun a hE => ?_
    refine vP hS hE (Gives.pickF hE rfl hg60 rfl) rfl fun a hE => ?_
    refine vp hS hE rfl rfl fun a hE => WL.nil ?_
    subst hK57
    exact ⟨false, Option.some.inj hq52, hE.pick _ ⟨rfl, trivial⟩, hS⟩
   replace hq52 := iteF hg59 hq52
   refine nO hE rfl rfl rfl (by rw [hg59]; decide) rfl fun a hE => ?_
   refine nO hE rfl rfl rfl (by rw [hg59]; decide) rfl fun a hE => ?_
   refine vP hS hE (Gives.pickF hE rfl hg59 rfl) rfl fun a hE => ?_
   refine vp hS hE rfl rfl fun a hE => ?_
   refine nO hE rfl rfl rfl (by decide) rfl fun a hE => ?_
   refine nO hE rfl rfl rfl (by decide) rfl fun a hE => ?_
   refine nO hE rfl rfl rfl (by decide) rfl fun a hE => ?_
   refine nO hE rfl rfl rfl (by decide) rfl fun a hE => ?_
   refine nO hE rfl rfl rfl (by decide) rfl fun a hE => ?_
   refine nO hE rfl rfl rfl (by decide) rfl fun a hE => ?_
   refine nO hE rfl rfl rfl (by decide) rfl fun a hE => ?_
   refine nO hE rfl rfl rfl (by decide) rfl fun a hE => ?_
   refine nO hE rfl rfl rfl (by decide) rfl fun a hE => ?_
   refine vP hS hE (Gives.pickF hE rfl rfl rfl) rfl fun a hE => ?_
   refine vp hS hE rfl rfl fun a hE => WL.nil ?_
   subst hK57
   exact ⟨false, Option.some.inj hq52, hE.pick _ ⟨rfl, trivial⟩, hS⟩
  replace hq52 := iteF hg58 hq52
  refine nO hE rfl rfl rfl (by rw [hg58]; decide) rfl fun a hE => ?_
  refine nO hE rfl rfl rfl (by rw [hg58]; decide) rfl fun a hE => ?_
  refine nO hE rfl rfl rfl (by rw [hg58]; decide) rfl fun a hE => ?_
  refine nO hE rfl rfl rfl (by rw [hg58]; decide) rfl fun a hE => ?_
  refine nO hE rfl rfl rfl (by rw [hg58]; decide) rfl fun a hE => ?_
  refine vP hS hE (Gives.pickF hE rfl hg58 rfl) rfl fun a hE => ?_
  refine vp hS hE rfl rfl fun a hE => ?_
  refine nO hE rfl rfl rfl (by decide) rfl fun a hE => ?_
  refine nO hE rfl rfl rfl (by decide) rfl fun a hE => ?_
  refine vP hS hE (Gives.pickF hE rfl rfl rfl) rfl fun a hE => ?_
  refine vp hS hE rfl rfl fun a hE => ?_
  refine nO hE rfl rfl rfl (by decide) rfl fun a hE => ?_
  refine nO hE rfl rfl rfl (by decide) rfl fun a hE => ?_
  refine nO hE rfl rfl rfl (by decide) rfl fun a hE => ?_
  refine nO hE rfl rfl rfl (by decide) rfl fun a hE => ?_
  refine nO hE rfl rfl rfl (by decide) rfl fun a hE => ?_
  refine nO hE rfl rfl rfl (by decide) rfl fun a hE => ?_
  refine nO hE rfl rfl rfl (by decide) rfl fun a hE => ?_
  refine nO hE rfl rfl rfl (by decide) rfl fun a hE => ?_
  refine nO hE rfl rfl rfl (by decide) rfl fun a hE => ?_
  refine vP hS hE (Gives.pickF hE rfl rfl rfl) rfl fun a hE => ?_
  refine vp hS hE rfl rfl fun a hE => WL.nil ?_
  subst hK57
  exact ⟨false, Option.some.inj hq52, hE.pick _ ⟨rfl, trivial⟩, hS⟩
 clear hE hS a w; rintro a w ⟨q56, rfl, hE, hS⟩
 refine W.ret ?_
 refine finG (fn := Tryz.f120) (rs := [.tmp 6]) (vs := [_]) hE rfl ⟨rfl, trivial⟩ ?_
 obtain rfl := Option.some.inj hr
 replace hS := hS.tail
 exact ⟨rfl, hS⟩
set_option maxHeartbeats 8000000 in
theorem Fishref1less_ok  {w : World} {s : Sg} {R : List HP} {x0 : Int} {x1 : Int} {x2 : Int} {x3 : Int} (hS : St w s (R))  {r : Bool} (hr : Fishref1less x0 x1 x2 x3 = r) :
  Calls Tryz.prog 121 [vi x0, vi x1, vi x2, vi x3].toArray w (fun e w => e = .returned (.bool r) ∧ St w s (R)) := by
 refine enter Tryz.func121 rfl rfl rfl fun a hE => ?_
 rw [Fishref1less] at hr
 refine W.seq (W.region (vp hS hE rfl rfl fun a hE => WL.nil ?_))
 refine W.seq ?_
 obtain ⟨q52, hq51, hr⟩ := bndS hr
 refine W.cut (fun a w => ∃ (q55 : Bool), q55 = q52 ∧ Rep a 22 [(8, .bool q55)] ∧ St w s (R)) ?_ ?_
 ·refine W.gen fun K56 hK56 => ?_
  refine W.region ?_
  refine v2 hS hE rfl rfl rfl rfl fun a hE => ?_
  refine v2 hS hE rfl rfl rfl rfl fun a hE => ?_
  rcases Bool.eq_false_or_eq_true (decide (x0 < x2)) with hg57 | hg57
  ·replace hq51 := iteT hg57 hq51
   refine nO hE rfl rfl rfl (by rw [hg57]; decide) rfl fun a hE => ?_
   refine nO hE rfl rfl rfl (by rw [hg57]; decide) rfl fun a hE => ?_
   refine nO hE rfl rfl rfl (by rw [hg57]; decide) rfl fun a hE => ?_
   refine nO hE rfl rfl rfl (by rw [hg57]; decide) rfl fun a hE => ?_
   refine WL.no hE (runs_undef hE rfl rfl rfl) rfl fun a hE => ?_
   refine WL.no hE (runs_undef hE rfl rfl rfl) rfl fun a hE => ?_
   refine WL.no hE (runs_undef hE rfl rfl rfl) rfl fun a hE => ?_
   refine nO hE rfl rfl rfl (by rw [hg57]; decide) rfl fun a hE => ?_
   refine vP hS hE (Gives.pickT hE rfl hg57 rfl) rfl fun a hE => ?_
   refine vp hS hE rfl rfl fun a hE => WL.nil ?_
   subst hK56
   exact ⟨true, hq51, hE.pick _ ⟨rfl, trivial⟩, hS⟩
  replace hq51 := iteF hg57 hq51
  refine WL.vS hS hE (runs_if hE rfl rfl rfl hg57) (Gives.p hE rfl) rfl fun a hE => ?_
  refine WL.vS hS hE (runs_if hE rfl rfl rfl hg57) (Gives.p hE rfl) rfl fun a hE => ?_
  refine WL.vS hS hE (runs_if hE rfl rfl rfl hg57) (Gives.p hE rfl) rfl fun a hE => ?_
  refine WL.vS hS hE (runs_if hE rfl rfl rfl hg57) (Gives.p hE rfl) rfl fun a hE => ?_
  rcases Bool.eq_false_or_eq_true (x0 == x2) with hg58 | hg58
  ·replace hq51 := iteT hg58 hq51
   refine WL.vS hS hE (runs_if hE rfl rfl rfl hg58) (Gives.p hE rfl) rfl fun a hE => ?_
   refine WL.vS hS hE (runs_if hE rfl rfl rfl hg58) (Gives.p hE rfl) rfl fun a hE => ?_
   refine WL.vS hS hE (runs_if hE rfl rfl rfl hg58) (Gives.p hE rfl) rfl fun a hE => ?_
   refine WL.vS hS hE (runs_if hE rfl rfl rfl hg57) (Gives.pickT hE rfl hg58 rfl) rfl fun a hE => ?_
   refine vP hS hE (Gives.pickF hE rfl hg57 rfl) rfl fun a hE => ?_
   refine vp hS hE rfl rfl fun a hE => WL.nil ?_
   subst hK56
   exact ⟨decide (x1 < x3), hq51, hE.pick _ ⟨rfl, trivial⟩, hS⟩
  replace hq51 := iteF hg58 hq51
  refine nO hE rfl rfl rfl (by rw [hg58]; decide) rfl fun a hE => ?_
  refine nO hE rfl rfl rfl (by rw [hg58]; decide) rfl fun a hE => ?_
  refine nO hE rfl rfl rfl (by rw [hg58]; decide) rfl fun a hE => ?_
  refine WL.vS hS hE (runs_if hE rfl rfl rfl hg57) (Gives.pickF hE rfl hg58 rfl) rfl fun a hE => ?_
  refine vP hS hE (Gives.pickF hE rfl hg57 rfl) rfl fun a hE => ?_
  refine vp hS hE rfl rfl fun a hE => WL.nil ?_
  subst hK56
  exact ⟨false, hq51, hE.pick _ ⟨rfl, trivial⟩, hS⟩
 clear hE hS a w; rintro a w ⟨q55, rfl, hE, hS⟩
 refine W.ret ?_
 refine finG (fn := Tryz.f121) (rs := [.tmp 8]) (vs := [_]) hE rfl ⟨rfl, trivial⟩ ?_
 subst hr
 exact ⟨rfl, hS⟩
set_option maxHeartbeats 8000000 in
theorem Fishref1checkLink_ok  {w : World} {s : Sg} {R : List HP} {x0 : ApiNet} {a0_0 : Option Addr} {c0_0 : Nat} {a0_1 : Option Addr} {c0_1 : Nat} {a0_2 : Option Addr} {c0_2 : Nat} {a0_3 : Option Addr} {c0_3 : Nat} {a0_4 : Option Addr} {c0_4 : Nat} {x1 : Int} (hS : St w s (R)) (h0_0 : Sl 1 RS s a0_0 c0_0 x0.Stations) (h0_1 : Sl 7 RApiSection s a0_1 c0_1 x0.Sections) (h0_2 : Sl 4 RApiLink s a0_2 c0_2 x0.Links) (h0_3 : Sl 2 RApiSignal s a0_3 c0_3 x0.Signals) (h0_4 : Sl 2 RApiGate s a0_4 c0_4 x0.Gates) {r : Int} (hr : Fishref1checkLink x0 x1 = some r) :
  Calls Tryz.prog 76 [.agg (List.toArray [.slice a0_0 x0.Stations.length c0_0, .slice a0_1 x0.Sections.length c0_1, .slice a0_2 x0.Links.length c0_2, .slice a0_3 x0.Signals.length c0_3, .slice a0_4 x0.Gates.length c0_4]), vi x1].toArray w (fun e w => e = .returned (vi r) ∧ St w s (R)) := by
 refine enter Tryz.func76 rfl rfl rfl fun a hE => ?_
 rw [Fishref1checkLink] at hr
 refine W.seq (W.region ?_)
 refine WL.box hE hS (runs_plain rfl) rfl rfl rfl ?_; clear hE hS a w; intro b51 a w hE hS
 refine vp hS hE rfl rfl fun a hE => WL.nil ?_
 refine W.seq (W.region (vP hS hE (Gives.fld hE rfl fl53_2) rfl fun a hE => ?_))
 refine vP hS hE (Gives.loadB hE 0 rfl rfl rfl ty49) rfl fun a hE => ?_
 refine vp hS hE rfl rfl fun a hE => ?_
 obtain ⟨x52, hx53, hr⟩ := bindS hr
 obtain ⟨hi54, hlt55, hy56⟩ := gx_some hx53
 obtain ⟨cs57, hl58, hR59, hat60⟩ := h0_2.at hy56
 subst hR59
 refine vP hS hE (Gives.idx hE (x1).toNat rfl rfl sl49 hi54 hlt55 (h0_2.aok hlt55)) rfl fun a hE => ?_
 refine vP hS hE (Gives.loadA hE rfl (fun w h => hat60 w _ h) ty198) rfl fun a hE => ?_
 refine WL.alloc hE hS (runs_plain rfl) zr198 rfl ?_; clear hE hS a w; intro b61 a w hE hS
 refine WL.storeI hE hS 0 rfl (ApiLink.cells x52) (runs_plain rfl) rfl rfl rfl ty198 rfl rfl rfl rfl ?_; clear hE hS a w; intro a w hE hS
 refine WL.nil ?_
 refine W.seq ?_
 refine W.seq ?_
 obtain ⟨q63, hq62, hr⟩ := bindS hr
 refine W.cut (fun a w => ∃ (q66 : Bool), q66 = q63 ∧ Rep a 110 [(1, vi x1), (2, pp b51), (5, pp b61), (30, .bool q66)] ∧ St w s (pc b61 (ApiLink.cells x52).toArray 198 :: pc b51 #[.slice a0_0 x0.Stations.length c0_0, .slice a0_1 x0.Sections.length c0_1, .slice a0_2 x0.Links.length c0_2, .slice a0_3 x0.Signals.length c0_3, .slice a0_4 x0.Gates.length c0_4] 53 :: R)) ?_ ?_
 ·refine W.gen fun K67 hK67 => ?_
  refine W.region ?_
  refine vP hS hE (Gives.loadBA hE 1 rfl rfl ty53) rfl fun a hE => ?_
  refine vP hS hE (Gives.fld hE rfl fl198_0) rfl fun a hE => ?_
  refine vP hS hE (Gives.loadB hE 0 rfl rfl rfl ty3) rfl fun a hE => ?_
  refine vP hS hE (Gives.fld hE rfl fl198_1) rfl fun a hE => ?_
  refine vP hS hE (Gives.loadB hE 0 rfl rfl rfl ty3) rfl fun a hE => ?_
  obtain ⟨q68, hq69, hq62⟩ := bindS hq62
  have hc_ := Fishref1hasEnd_ok hS h0_0 h0_1 h0_2 h0_3 h0_4 hq69
  refine WL.fnq hE (hc_) (runs_plain rfl) bd120 rfl rfl rfl ?_
  clear hE hS hc_; rintro e w ⟨rfl, hS⟩; refine ⟨_, rfl, ?_⟩; clear a; intro a hE
  refine v2 hS hE rfl rfl rfl rfl fun a hE => ?_
  rcases Bool.eq_false_or_eq_true !q68 with hg70 | hg70
  ·replace hq62 := iteT hg70 hq62
   refine nO hE rfl rfl rfl (by rw [hg70]; decide) rfl fun a hE => ?_
   refine nO hE rfl rfl rfl (by rw [hg70]; decide) rfl fun a hE => ?_
   refine nO hE rfl rfl rfl (by rw [hg70]; decide) rfl fun a hE => ?_
   refine nO hE rfl rfl rfl (by rw [hg70]; decide) rfl fun a hE => ?_
   refine nO hE rfl rfl rfl (by rw [hg70]; decide) rfl fun a hE => ?_
   refine nO hE rfl rfl rfl (by rw [hg70]; decide) rfl fun a hE => ?_
   refine nO hE rfl rfl rfl (by rw [hg70]; decide) rfl fun a hE => ?_
   refine vP hS hE (Gives.pickT hE rfl hg70 rfl) rfl fun a hE => WL.nil ?_
   subst hK67
   exact ⟨true, Option.some.inj hq62, hE.pick _ ⟨rfl, rfl, rfl, rfl, trivial⟩, hS⟩
  replace hq62 := iteF hg70 hq62
  refine WL.vS hS hE (runs_if hE rfl rfl rfl hg70) (Gives.loadBA hE 1 rfl rfl ty53) rfl fun a hE => ?_
  refine WL.vS hS hE (runs_if hE rfl rfl rfl hg70) (Gives.fld hE rfl fl198_2) rfl fun a hE => ?_
  refine WL.vS hS hE (runs_if hE rfl rfl rfl hg70) (Gives.loadB hE 0 rfl rfl rfl ty3) rfl fun a hE => ?_
  refine WL.vS hS hE (runs_if hE rfl rfl rfl hg70) (Gives.fld hE rfl fl198_3) rfl fun a hE => ?_
  refine WL.vS hS hE (runs_if hE rfl rfl rfl hg70) (Gives.loadB hE 0 rfl rfl rfl ty3) rfl fun a hE => ?_
  obtain ⟨q71, hq72, hq62⟩ := bindS hq62
  have hc_ := Fishref1hasEnd_ok hS h0_0 h0_1 h0_2 h0_3 h0_4 hq72
  refine WL.fnq hE (hc_) (runs_if hE rfl rfl rfl hg70) bd120 rfl rfl rfl ?_
  clear hE hS hc_; rintro e w ⟨rfl, hS⟩; refine ⟨_, rfl, ?_⟩; clear a; intro a hE
  refine WL.vS hS hE (runs_if hE rfl rfl rfl hg70) (Gives.p hE rfl) rfl fun a hE => ?_
  refine vP hS hE (Gives.pickF hE rfl hg70 rfl) rfl fun a hE => WL.nil ?_
  subst hK67
  exact ⟨!q71, Option.some.inj hq62, hE.pick _ ⟨rfl, rfl, rfl, rfl, trivial⟩, hS⟩
 clear hE hS a w; rintro a w ⟨q66, rfl, hE, hS⟩
 refine W.cond hE rfl (fun hc73 => ?_) (fun hc73 => ?_)
 ·replace hr := iteT hc73 hr
  refine W.seq (W.region (vp hS hE rfl rfl fun a hE => WL.nil ?_))
  refine W.ret ?_
  refine finG (fn := Tryz.f76) (rs := [.tmp 4]) (vs := [_]) hE rfl ⟨rfl, trivial⟩ ?_
  obtain rfl := Option.some.inj hr
  replace hS := hS.tail
  replace hS := hS.tail
  exact ⟨rfl, hS⟩
 replace hr := iteF hc73 hr
 refine W.skip ?_
 refine W.seq ?_
 refine W.seq (W.region (vP hS hE (Gives.fld hE rfl fl198_0) rfl fun a hE => ?_))
 refine vP hS hE (Gives.loadB hE 0 rfl rfl rfl ty3) rfl fun a hE => ?_
 refine vP hS hE (Gives.fld hE rfl fl198_2) rfl fun a hE => ?_
 refine vP hS hE (Gives.loadB hE 0 rfl rfl rfl ty3) rfl fun a hE => ?_
 refine vp hS hE rfl rfl fun a hE => WL.nil ?_
 refine W.cond hE rfl (fun hc74 => ?_) (fun hc74 => ?_)
 ·replace hr := iteT hc74 hr
  refine W.seq (W.region (vp hS hE rfl rfl fun a hE => WL.nil ?_))
  refine W.ret ?_
  refine finG (fn := Tryz.f76) (rs := [.tmp 4]) (vs := [_]) hE rfl ⟨rfl, trivial⟩ ?_
  obtain rfl := Option.some.inj hr
  replace hS := hS.tail
  replace hS := hS.tail
  exact ⟨rfl, hS⟩
 replace hr := iteF hc74 hr
 refine W.skip ?_
 refine W.seq ?_
 refine W.seq ?_
 obtain ⟨q76, hq75, hr⟩ := bindS hr
 refine W.cut (fun a w => ∃ (q79 : Bool), q79 = q76 ∧ Rep a 110 [(1, vi x1), (2, pp b51), (5, pp b61), (66, .bool q79)] ∧ St w s (pc b61 (ApiLink.cells x52).toArray 198 :: pc b51 #[.slice a0_0 x0.Stations.length c0_0, .slice a0_1 x0.Sections.length c0_1, .slice a0_2 x0.Links.length c0_2, .slice a0_3 x0.Signals.length c0_3, .slice a0_4 x0.Gates.length c0_4] 53 :: R)) ?_ ?_
 ·refine W.gen fun K80 hK80 => ?_
  refine W.regionQ (C := fun w => St w s (pc b61 (ApiLink.cells x52).toArray 198 :: pc b51 #[.slice a0_0 x0.Stations.length c0_0, .slice a0_1 x0.Sections.length c0_1, .slice a0_2 x0.Links.length c0_2, .slice a0_3 x0.Signals.length c0_3, .slice a0_4 x0.Gates.length c0_4] 53 :: R)) mixed (by kernel_rfl) hS.drew ?_
  refine qP hE (Gives.fld hE rfl fl198_0) rfl fun a hE => ?_
  refine qP hE (Gives.loadB hE 0 rfl rfl rfl ty3) rfl fun a hE => ?_
  refine qP hE (Gives.fld hE rfl fl198_2) rfl fun a hE => ?_
  refine qP hE (Gives.loadB hE 0 rfl rfl rfl ty3) rfl fun a hE => ?_
  refine qP hE (Gives.p hE rfl) rfl fun a hE => ?_
  refine qP hE (Gives.p hE rfl) rfl fun a hE => ?_
  rcases Bool.eq_false_or_eq_true (decide (x52.A > x52.B)) with hg81 | hg81
  ·replace hq75 := iteT hg81 hq75
   refine QL.no hE (runs_not hE rfl rfl rfl (by rw [hg81]; decide)) rfl fun a hE => ?_
   refine QL.no hE (runs_not hE rfl rfl rfl (by rw [hg81]; decide)) rfl fun a hE => ?_
   refine QL.no hE (runs_not hE rfl rfl rfl (by rw [hg81]; decide)) rfl fun a hE => ?_
   refine QL.no hE (runs_undef hE rfl rfl rfl) rfl fun a hE => ?_
   refine QL.no hE (runs_undef hE rfl rfl rfl) rfl fun a hE => ?_
   refine QL.no hE (runs_undef hE rfl rfl rfl) rfl fun a hE => ?_
   refine QL.no hE (runs_undef hE rfl rfl rfl) rfl fun a hE => ?_
   refine QL.no hE (runs_undef hE rfl rfl rfl) rfl fun a hE => ?_
   refine QL.no hE (runs_undef hE rfl rfl rfl) rfl fun a hE => ?_
   refine QL.no hE (runs_undef hE rfl rfl rfl) rfl fun a hE => ?_
   refine QL.no hE (runs_undef hE rfl rfl rfl) rfl fun a hE => ?_
   refine QL.no hE (runs_undef hE rfl rfl rfl) rfl fun a hE => ?_
   refine QL.no hE (runs_undef hE rfl rfl rfl) rfl fun a hE => ?_
   refine QL.no hE (runs_undef hE rfl rfl rfl) rfl fun a hE => ?_
   refine QL.no hE (runs_undef hE rfl rfl rfl) rfl fun a hE => ?_
   refine QL.no hE (runs_undef hE rfl rfl rfl) rfl fun a hE => ?_
   refine QL.no hE (runs_undef hE rfl rfl rfl) rfl fun a hE => ?_
   refine QL.no hE (runs_undef hE rfl rfl rfl) rfl fun a hE => ?_
   refine QL.no hE (runs_undef hE rfl rfl rfl) rfl fun a hE => ?_
   refine QL.no hE (runs_undef hE rfl rfl rfl) rfl fun a hE => ?_
   refine QL.no hE (runs_undef hE rfl rfl rfl) rfl fun a hE => ?_
   refine QL.no hE (runs_undef hE rfl rfl rfl) rfl fun a hE => ?_
   refine QL.no hE (runs_undef hE rfl rfl rfl) rfl fun a hE => ?_
   refine QL.no hE (runs_not hE rfl rfl rfl (by rw [hg81]; decide)) rfl fun a hE => ?_
   refine qP hE (Gives.pickT hE rfl hg81 rfl) rfl fun a hE => ?_
   refine QL.nil ?_; clear hS w; intro w hS
   subst hK80
   exact ⟨true, Option.some.inj hq75, hE.pick _ ⟨rfl, rfl, rfl, rfl, trivial⟩, hS⟩
  replace hq75 := iteF hg81 hq75
  refine QL.v hE (runs_if hE rfl rfl rfl hg81) (Gives.p hE rfl) rfl fun a hE => ?_
  refine QL.v hE (runs_if hE rfl rfl rfl hg81) (Gives.p hE rfl) rfl fun a hE => ?_
  refine QL.v hE (runs_if hE rfl rfl rfl hg81) (Gives.p hE rfl) rfl fun a hE => ?_
  rcases Bool.eq_false_or_eq_true (decide (x1 > 0)) with hg82 | hg82
  ·replace hq75 := iteT hg82 hq75
   refine QL.v hE (runs_if hE rfl rfl rfl hg82) (Gives.fld hE rfl fl53_2) rfl fun a hE => ?_
   refine QL.v hE (runs_if hE rfl rfl rfl hg82) (Gives.loadB hE 1 rfl rfl rfl ty49) rfl fun a hE => ?_
   refine QL.v hE (runs_if hE rfl rfl rfl hg82) (Gives.p hE rfl) rfl fun a hE => ?_
   refine QL.v hE (runs_if hE rfl rfl rfl hg82) (Gives.p hE rfl) rfl fun a hE => ?_
   obtain ⟨x83, hx84, hq75⟩ := bindS hq75
   obtain ⟨hi85, hlt86, hy87⟩ := gx_some hx84
   obtain ⟨cs88, hl89, hR90, hat91⟩ := h0_2.at hy87
   subst hR90
   refine QL.v hE (runs_if hE rfl rfl rfl hg82) (Gives.idx hE (w64 (x1 - 1)).toNat rfl rfl sl49 hi85 hlt86 (h0_2.aok hlt86)) rfl fun a hE => ?_
   refine QL.v hE (runs_if hE rfl rfl rfl hg82) (Gives.fld hE rfl fl198_0) rfl fun a hE => ?_
   refine QL.v hE (runs_if hE rfl rfl rfl hg82) (Gives.load1 hE rfl (fun w h => (hat91 w _ h).one rfl) ty3) rfl fun a hE => ?_
   refine QL.v hE (runs_if hE rfl rfl rfl hg82) (Gives.fld hE rfl fl53_2) rfl fun a hE => ?_
   refine QL.v hE (runs_if hE rfl rfl rfl hg82) (Gives.loadB hE 1 rfl rfl rfl ty49) rfl fun a hE => ?_
   refine QL.v hE (runs_if hE rfl rfl rfl hg82) (Gives.p hE rfl) rfl fun a hE => ?_
   refine QL.v hE (runs_if hE rfl rfl rfl hg82) (Gives.p hE rfl) rfl fun a hE => ?_
   obtain ⟨x92, hx93, hq75⟩ := bindS hq75
   obtain ⟨hi94, hlt95, hy96⟩ := gx_some hx93
   obtain ⟨cs97, hl98, hR99, hat100⟩ := h0_2.at hy96
   subst hR99
   refine QL.v hE (runs_if hE rfl rfl rfl hg82) (Gives.idx hE (w64 (x1 - 1)).toNat rfl rfl sl49 hi94 hlt95 (h0_2.aok hlt95)) rfl fun a hE => ?_
   refine QL.v hE (runs_if hE rfl rfl rfl hg82) (Gives.fld hE rfl fl198_1) rfl fun a hE => ?_
   refine QL.v hE (runs_if hE rfl rfl rfl hg82) (Gives.load1 hE rfl (fun w h => (hat100 w _ h).one rfl) ty3) rfl fun a hE => ?_
   refine QL.v hE (runs_if hE rfl rfl rfl hg82) (Gives.fld hE rfl fl198_0) rfl fun a hE => ?_
   refine QL.v hE (runs_if hE rfl rfl rfl hg82) (Gives.loadB hE 0 rfl rfl rfl ty3) rfl fun a hE => ?_
   refine QL.v hE (runs_if hE rfl rfl rfl hg82) (Gives.fld hE rfl fl198_1) rfl fun a hE => ?_
   refine QL.v hE (runs_if hE rfl rfl rfl hg82) (Gives.loadB hE 0 rfl rfl rfl ty3) rfl fun a hE => ?_
   refine QL.fnq hE (fun w hS => Fishref1less_ok hS  rfl (r := Fishref1less x83.A x92.EndA x52.A x52.EndA)) (runs_if hE rfl rfl rfl hg82) bd121 rfl rfl rfl fun a hE => ?_
   refine QL.v hE (runs_if hE rfl rfl rfl hg82) (Gives.p hE rfl) rfl fun a hE => ?_
   refine QL.v hE (runs_if hE rfl rfl rfl hg81) (Gives.pickT hE rfl hg82 rfl) rfl fun a hE => ?_
   refine qP hE (Gives.pickF hE rfl hg81 rfl) rfl fun a hE => ?_
   refine QL.nil ?_; clear hS w; intro w hS
   subst hK80
   exact ⟨!(Fishref1less x83.A x92.EndA x52.A x52.EndA), Option.some.inj hq75, hE.pick _ ⟨rfl, rfl, rfl, rfl, trivial⟩, hS⟩
  replace hq75 := iteF hg82 hq75
  refine QL.no hE (runs_not hE rfl rfl rfl (by rw [hg82]; decide)) rfl fun a hE => ?_
  refine QL.no hE (runs_not hE rfl rfl rfl (by rw [hg82]; decide)) rfl fun a hE => ?_
  refine QL.no hE (runs_not hE rfl rfl rfl (by rw [hg82]; decide)) rfl fun a hE => ?_
  refine QL.no hE (runs_not hE rfl rfl rfl (by rw [hg82]; decide)) rfl fun a hE => ?_
  refine QL.no hE (runs_not hE rfl rfl rfl (by rw [hg82]; decide)) rfl fun a hE => ?_
  refine QL.no hE (runs_not hE rfl rfl rfl (by rw [hg82]; decide)) rfl fun a hE => ?_
  refine QL.no hE (runs_not hE rfl rfl rfl (by rw [hg82]; decide)) rfl fun a hE => ?_
  refine QL.no hE (runs_not hE rfl rfl rfl (by rw [hg82]; decide)) rfl fun a hE => ?_
  refine QL.no hE (runs_not hE rfl rfl rfl (by rw [hg82]; decide)) rfl fun a hE => ?_
  refine QL.no hE (runs_not hE rfl rfl rfl (by rw [hg82]; decide)) rfl fun a hE => ?_
  refine QL.no hE (runs_not hE rfl rfl rfl (by rw [hg82]; decide)) rfl fun a hE => ?_
  refine QL.no hE (runs_not hE rfl rfl rfl (by rw [hg82]; decide)) rfl fun a hE => ?_
  refine QL.no hE (runs_not hE rfl rfl rfl (by rw [hg82]; decide)) rfl fun a hE => ?_
  refine QL.no hE (runs_not hE rfl rfl rfl (by rw [hg82]; decide)) rfl fun a hE => ?_
  refine QL.no hE (runs_not hE rfl rfl rfl (by rw [hg82]; decide)) rfl fun a hE => ?_
  refine QL.no hE (runs_not hE rfl rfl rfl (by rw [hg82]; decide)) rfl fun a hE => ?_
  refine QL.no hE (runs_not hE rfl rfl rfl (by rw [hg82]; decide)) rfl fun a hE => ?_
  refine QL.no hE (runs_not hE rfl rfl rfl (by rw [hg82]; decide)) rfl fun a hE => ?_
  refine QL.no hE (runs_not hE rfl rfl rfl (by rw [hg82]; decide)) rfl fun a hE => ?_
  refine QL.no hE (runs_not hE rfl rfl rfl (by rw [hg82]; decide)) rfl fun a hE => ?_
  refine QL.v hE (runs_if hE rfl rfl rfl hg81) (Gives.pickF hE rfl hg82 rfl) rfl fun a hE => ?_
  refine qP hE (Gives.pickF hE rfl hg81 rfl) rfl fun a hE => ?_
  refine QL.nil ?_; clear hS w; intro w hS
  subst hK80
  exact ⟨false, Option.some.inj hq75, hE.pick _ ⟨rfl, rfl, rfl, rfl, trivial⟩, hS⟩
 clear hE hS a w; rintro a w ⟨q79, rfl, hE, hS⟩
 refine W.cond hE rfl (fun hc101 => ?_) (fun hc101 => ?_)
 ·replace hr := iteT hc101 hr
  refine W.seq (W.region (vp hS hE rfl rfl fun a hE => WL.nil ?_))
  refine W.ret ?_
  refine finG (fn := Tryz.f76) (rs := [.tmp 4]) (vs := [_]) hE rfl ⟨rfl, trivial⟩ ?_
  obtain rfl := Option.some.inj hr
  replace hS := hS.tail
  replace hS := hS.tail
  exact ⟨rfl, hS⟩
 replace hr := iteF hc101 hr
 refine W.skip ?_
 refine W.seq ?_
 refine W.seq (W.region (vP hS hE (Gives.fld hE rfl fl53_2) rfl fun a hE => ?_))
 refine vP hS hE (Gives.loadB hE 1 rfl rfl rfl ty49) rfl fun a hE => ?_
 refine vp hS hE rfl rfl fun a hE => ?_
 obtain ⟨x102, hx103, hr⟩ := bindS hr
 obtain ⟨a104, c105, heq106, h107⟩ := h0_2.cut hx103
 obtain ⟨h108, h109, h110, _⟩ := cutl_some hx103
 refine vP hS hE (Gives.slH hE sl49 rfl rfl h109 (Int.le_trans h110 (by have := h0_2.len; omega)) heq106) rfl fun a hE => ?_
 refine vP hS hE (Gives.len hE rfl sl49) rfl fun a hE => ?_
 refine vp hS hE rfl rfl fun a hE => WL.nil ?_
 obtain ⟨q112, hq111, hr⟩ := bndS hr
 refine W.cut (fun a w => ∃ (s120 : Sg), s.Le s120 ∧ (.next ()) = q112 ∧ Rep a 110 [] ∧ St w s120 (pc b61 (ApiLink.cells x52).toArray 198 :: pc b51 #[.slice a0_0 x0.Stations.length c0_0, .slice a0_1 x0.Sections.length c0_1, .slice a0_2 x0.Links.length c0_2, .slice a0_3 x0.Signals.length c0_3, .slice a0_4 x0.Gates.length c0_4] 53 :: R)) ?_ ?_
 ·refine W.block ?_
  refine W.loop (fun m a w => ∃ (rest115 : List ApiLink) (k113 : Nat), ∃ (s120 : Sg), rest115.length = m ∧ x102.drop k113 = rest115 ∧ s.Le s120 ∧ Fishref1checkLink.loop1 x52 rest115 = q112 ∧ Rep a 110 [(5, pp b61), (70, .slice a104 x102.length c105), (71, vi ((x102).length : Int)), (72, vi ((k113 : Nat) : Int))] ∧ St w s120 (pc b61 (ApiLink.cells x52).toArray 198 :: pc b51 #[.slice a0_0 x0.Stations.length c0_0, .slice a0_1 x0.Sections.length c0_1, .slice a0_2 x0.Links.length c0_2, .slice a0_3 x0.Signals.length c0_3, .slice a0_4 x0.Gates.length c0_4] 53 :: R)) (m := x102.length) ⟨x102, 0, s, rfl, rfl, (Sg.Le.refl _), hq111, hE.pick _ ⟨rfl, rfl, rfl, rfl, trivial⟩, hS⟩ ?_
  clear hE hS a w hq111; rintro m119 a w ⟨rest115, k113, s120, rfl, hd116, hle121, hq111, hE, hS⟩
  refine W.gen fun K122 hK122 => ?_
  replace h0_2 := Sl.mono RApiLink.mono hle121 h0_2
  replace h107 := Sl.mono RApiLink.mono hle121 h107
  replace h0_0 := Sl.mono RS.mono hle121 h0_0
  replace h0_1 := Sl.mono RApiSection.mono hle121 h0_1
  replace h0_3 := Sl.mono RApiSignal.mono hle121 h0_3
  replace h0_4 := Sl.mono RApiGate.mono hle121 h0_4
  rcases rest115 with _ | ⟨x114, rest115⟩
  ·have hlt117 := drop_nil hd116
   refine W.seq (W.region (vp hS hE rfl rfl fun a hE => WL.nil ?_))
   refine W.seq ?_
   refine W.condF hE rfl (decide_eq_false (by omega)) ?_
   subst hK122
   refine W.exit rfl ?_
   exact ⟨s120, hle121, hq111, hE.pick _ trivial, hS⟩
  obtain ⟨hlt117, hx118, hd116⟩ := drop_cons hd116
  rw [Fishref1checkLink.loop1] at hq111
  refine W.seq (W.region (vp hS hE rfl rfl fun a hE => WL.nil ?_))
  refine W.seq ?_
  refine W.condT hE rfl (decide_eq_true (by omega)) ?_
  refine W.skip ?_
  refine W.seq ?_
  refine W.block ?_
  refine W.seq (W.region ?_)
  obtain ⟨cs123, hl124, hR125, hat126⟩ := h107.at hx118
  subst hR125
  refine vP hS hE (Gives.idx hE k113 rfl rfl sl49 rfl hlt117 (h107.aok hlt117)) rfl fun a hE => ?_
  refine vP hS hE (Gives.loadA hE rfl (fun w h => hat126 w _ h) ty198) rfl fun a hE => ?_
  refine WL.alloc hE hS (runs_plain rfl) zr198 rfl ?_; clear hE hS a w; intro b127 a w hE hS
  refine WL.storeI hE hS 0 rfl (ApiLink.cells x114) (runs_plain rfl) rfl rfl rfl ty198 rfl rfl rfl rfl ?_; clear hE hS a w; intro a w hE hS
  refine WL.nil ?_
  refine W.seq (W.region (vP hS hE (Gives.fld hE rfl fl198_0) rfl fun a hE => ?_))
  refine vP hS hE (Gives.loadB hE 0 rfl rfl rfl ty3) rfl fun a hE => ?_
  refine vP hS hE (Gives.fld hE rfl fl198_1) rfl fun a hE => ?_
  refine vP hS hE (Gives.loadB hE 0 rfl rfl rfl ty3) rfl fun a hE => ?_
  refine vP hS hE (Gives.build hE (vs := [(0, vi x114.A), (1, vi x114.EndA)]) [vi x114.A, vi x114.EndA] rfl (by kernel_rfl)) rfl fun a hE => ?_
  refine vP hS hE (Gives.fld hE rfl fl198_2) rfl fun a hE => ?_
  refine vP hS hE (Gives.loadB hE 0 rfl rfl rfl ty3) rfl fun a hE => ?_
  refine vP hS hE (Gives.fld hE rfl fl198_3) rfl fun a hE => ?_
  refine vP hS hE (Gives.loadB hE 0 rfl rfl rfl ty3) rfl fun a hE => ?_
  refine vP hS hE (Gives.build hE (vs := [(0, vi x114.B), (1, vi x114.EndB)]) [vi x114.B, vi x114.EndB] rfl (by kernel_rfl)) rfl fun a hE => ?_
  refine WL.lit hE hS (e := 148) (es := 2) (vs := [(0, .agg (List.toArray [vi x114.A, vi x114.EndA])), (1, .agg (List.toArray [vi x114.B, vi x114.EndB]))]) (cs := [vi x114.A, vi x114.EndA, vi x114.B, vi x114.EndB]) (runs_plain rfl) rfl (by kernel_rfl) rfl ?_; clear hE hS a w; intro b128 a w hE hS
  replace hS := hS.ptVec (es := 2) (m := 2) rfl (by decide)
  have h130 : Ev 2 RAr2i64 s120 [vi x114.A, vi x114.EndA, vi x114.B, vi x114.EndB] [(Ar2i64.mk x114.A x114.EndA), (Ar2i64.mk x114.B x114.EndB)] := (Ev.cons (c1 := [vi x114.A, vi x114.EndA]) rfl rfl (Ev.cons (c1 := [vi x114.B, vi x114.EndB]) rfl rfl (Ev.nil)))
  have hF := hS.fixD RAr2i64.mono 0 rfl h130 (rfl); clear hS; obtain ⟨s131, hle132, hS, h133⟩ := hF
  replace h107 := Sl.mono RApiLink.mono hle132 h107
  replace h0_0 := Sl.mono RS.mono hle132 h0_0
  replace h0_1 := Sl.mono RApiSection.mono hle132 h0_1
  replace h0_2 := Sl.mono RApiLink.mono hle132 h0_2
  replace h0_3 := Sl.mono RApiSignal.mono hle132 h0_3
  replace h0_4 := Sl.mono RApiGate.mono hle132 h0_4
  refine vP hS hE (Gives.len hE rfl sl201) rfl fun a hE => ?_
  refine vp hS hE rfl rfl fun a hE => WL.nil ?_
  obtain ⟨q135, hq134, hq111⟩ := bndS hq111
  refine W.cut (fun a w => (.next ()) = q135 ∧ Rep a 110 [(5, pp b61), (70, .slice a104 x102.length c105), (71, vi ((x102).length : Int)), (72, vi ((k113 : Nat) : Int))] ∧ St w s131 (pc b127 (ApiLink.cells x114).toArray 198 :: pc b61 (ApiLink.cells x52).toArray 198 :: pc b51 #[.slice a0_0 x0.Stations.length c0_0, .slice a0_1 x0.Sections.length c0_1, .slice a0_2 x0.Links.length c0_2, .slice a0_3 x0.Signals.length c0_3, .slice a0_4 x0.Gates.length c0_4] 53 :: R)) ?_ ?_
  ·refine W.block ?_
   refine W.loop (fun m a w => ∃ (rest138 : List Ar2i64) (k136 : Nat), rest138.length = m ∧ [(Ar2i64.mk x114.A x114.EndA), (Ar2i64.mk x114.B x114.EndB)].drop k136 = rest138 ∧ Fishref1checkLink.loop2 x52 rest138 = q135 ∧ Rep a 110 [(5, pp b61), (70, .slice a104 x102.length c105), (71, vi ((x102).length : Int)), (72, vi ((k113 : Nat) : Int)), (86, .slice (some ⟨b128, 0, none⟩) 2 2), (87, vi (([(Ar2i64.mk x114.A x114.EndA), (Ar2i64.mk x114.B x114.EndB)]).length : Int)), (88, vi ((k136 : Nat) : Int))] ∧ St w s131 (pc b127 (ApiLink.cells x114).toArray 198 :: pc b61 (ApiLink.cells x52).toArray 198 :: pc b51 #[.slice a0_0 x0.Stations.length c0_0, .slice a0_1 x0.Sections.length c0_1, .slice a0_2 x0.Links.length c0_2, .slice a0_3 x0.Signals.length c0_3, .slice a0_4 x0.Gates.length c0_4] 53 :: R)) (m := [(Ar2i64.mk x114.A x114.EndA), (Ar2i64.mk x114.B x114.EndB)].length) ⟨[(Ar2i64.mk x114.A x114.EndA), (Ar2i64.mk x114.B x114.EndB)], 0, rfl, rfl, hq134, hE.pick _ ⟨rfl, rfl, rfl, rfl, rfl, rfl, rfl, trivial⟩, hS⟩ ?_
   clear hE hS a w hq134; rintro m142 a w ⟨rest138, k136, rfl, hd139, hq134, hE, hS⟩
   refine W.gen fun K145 hK145 => ?_
   rcases rest138 with _ | ⟨x137, rest138⟩
   ·have hlt140 := drop_nil hd139
    refine W.seq (W.region (vp hS hE rfl rfl fun a hE => WL.nil ?_))
    refine W.seq ?_
    refine W.condF hE rfl (decide_eq_false (by omega)) ?_
    subst hK145
    refine W.exit rfl ?_
    exact ⟨hq134, hE.pick _ ⟨rfl, rfl, rfl, rfl, trivial⟩, hS⟩
   obtain ⟨hlt140, hx141, hd139⟩ := drop_cons hd139
   rw [Fishref1checkLink.loop2] at hq134
   refine W.seq (W.region (vp hS hE rfl rfl fun a hE => WL.nil ?_))
   refine W.seq ?_
   refine W.condT hE rfl (decide_eq_true (by omega)) ?_
   refine W.skip ?_
   refine W.seq ?_
   refine W.block ?_
   refine W.seq (W.region ?_)
   obtain ⟨cs146, hl147, hR148, hat149⟩ := h133.at hx141
   subst hR148
   refine vP hS hE (Gives.idx hE k136 rfl rfl sl201 rfl hlt140 (h133.aok hlt140)) rfl fun a hE => ?_
   refine vP hS hE (Gives.loadA hE rfl (fun w h => hat149 w _ h) ty148) rfl fun a hE => ?_
   refine WL.alloc hE hS (runs_plain rfl) zr148 rfl ?_; clear hE hS a w; intro b150 a w hE hS
   refine WL.storeI hE hS 0 rfl (Ar2i64.cells x137) (runs_plain rfl) rfl rfl rfl ty148 rfl rfl rfl rfl ?_; clear hE hS a w; intro a w hE hS
   refine WL.nil ?_
   refine W.seq ?_
   obtain ⟨q152, hq151, hq134⟩ := bndS hq134
   refine W.cut (fun a w => ∃ (q155 : Bool), q155 = q152 ∧ Rep a 110 [(5, pp b61), (70, .slice a104 x102.length c105), (71, vi ((x102).length : Int)), (72, vi ((k113 : Nat) : Int)), (86, .slice (some ⟨b128, 0, none⟩) 2 2), (87, vi (([(Ar2i64.mk x114.A x114.EndA), (Ar2i64.mk x114.B x114.EndB)]).length : Int)), (88, vi ((k136 : Nat) : Int)), (107, .bool q155)] ∧ St w s131 (pc b150 (Ar2i64.cells x137).toArray 148 :: pc b127 (ApiLink.cells x114).toArray 198 :: pc b61 (ApiLink.cells x52).toArray 198 :: pc b51 #[.slice a0_0 x0.Stations.length c0_0, .slice a0_1 x0.Sections.length c0_1, .slice a0_2 x0.Links.length c0_2, .slice a0_3 x0.Signals.length c0_3, .slice a0_4 x0.Gates.length c0_4] 53 :: R)) ?_ ?_
   ·refine W.gen fun K156 hK156 => ?_
    refine W.region ?_
    refine vP hS hE (Gives.loadBA hE 0 rfl rfl ty148) rfl fun a hE => ?_
    refine vP hS hE (Gives.fld hE rfl fl198_0) rfl fun a hE => ?_
    refine vP hS hE (Gives.loadB hE 2 rfl rfl rfl ty3) rfl fun a hE => ?_
    refine vP hS hE (Gives.fld hE rfl fl198_1) rfl fun a hE => ?_
    refine vP hS hE (Gives.loadB hE 2 rfl rfl rfl ty3) rfl fun a hE => ?_
    refine vP hS hE (Gives.build hE (vs := [(0, vi x52.A), (1, vi x52.EndA)]) [vi x52.A, vi x52.EndA] rfl (by kernel_rfl)) rfl fun a hE => ?_
    refine vP hS hE (show Gives _ _ _ _ (Value.bool ((x137.f0 == x52.A) && (x137.f1 == x52.EndA))) from Gives.eqAr hE [.i .i64 x137.f0, .i .i64 x137.f1] [.i .i64 x52.A, .i .i64 x52.EndA] ae148 rfl rfl rfl rfl rfl rfl (by intro l hl; simp at hl; rcases hl with rfl | rfl <;> rfl) (by intro l hl; simp at hl; rcases hl with rfl | rfl <;> rfl)) rfl fun a hE => ?_
    refine vp hS hE rfl rfl fun a hE => ?_
    rcases Bool.eq_false_or_eq_true ((x137.f0 == x52.A) && (x137.f1 == x52.EndA)) with hg157 | hg157
    ·replace hq151 := iteT hg157 hq151
     refine nO hE rfl rfl rfl (by rw [hg157]; decide) rfl fun a hE => ?_
     refine nO hE rfl rfl rfl (by rw [hg157]; decide) rfl fun a hE => ?_
     refine nO hE rfl rfl rfl (by rw [hg157]; decide) rfl fun a hE => ?_
     refine nO hE rfl rfl rfl (by rw [hg157]; decide) rfl fun a hE => ?_
     refine nO hE rfl rfl rfl (by rw [hg157]; decide) rfl fun a hE => ?_
     refine nO hE rfl rfl rfl (by rw [hg157]; decide) rfl fun a hE => ?_
     refine nO hE rfl rfl rfl (by rw [hg157]; decide) rfl fun a hE => ?_
     refine vP hS hE (Gives.pickT hE rfl hg157 rfl) rfl fun a hE => WL.nil ?_
     subst hK156
     exact ⟨true, hq151, hE.pick _ ⟨rfl, rfl, rfl, rfl, rfl, rfl, rfl, rfl, trivial⟩, hS⟩
    replace hq151 := iteF hg157 hq151
    refine WL.vS hS hE (runs_if hE rfl rfl rfl hg157) (Gives.loadBA hE 0 rfl rfl ty148) rfl fun a hE => ?_
    refine WL.vS hS hE (runs_if hE rfl rfl rfl hg157) (Gives.fld hE rfl fl198_2) rfl fun a hE => ?_
    refine WL.vS hS hE (runs_if hE rfl rfl rfl hg157) (Gives.loadB hE 2 rfl rfl rfl ty3) rfl fun a hE => ?_
    refine WL.vS hS hE (runs_if hE rfl rfl rfl hg157) (Gives.fld hE rfl fl198_3) rfl fun a hE => ?_
    refine WL.vS hS hE (runs_if hE rfl rfl rfl hg157) (Gives.loadB hE 2 rfl rfl rfl ty3) rfl fun a hE => ?_
    refine WL.vS hS hE (runs_if hE rfl rfl rfl hg157) (Gives.build hE (vs := [(0, vi x52.B), (1, vi x52.EndB)]) [vi x52.B, vi x52.EndB] rfl (by kernel_rfl)) rfl fun a hE => ?_
    refine WL.vS hS hE (runs_if hE rfl rfl rfl hg157) (show Gives _ _ _ _ (Value.bool ((x137.f0 == x52.B) && (x137.f1 == x52.EndB))) from Gives.eqAr hE [.i .i64 x137.f0, .i .i64 x137.f1] [.i .i64 x52.B, .i .i64 x52.EndB] ae148 rfl rfl rfl rfl rfl rfl (by intro l hl; simp at hl; rcases hl with rfl | rfl <;> rfl) (by intro l hl; simp at hl; rcases hl with rfl | rfl <;> rfl)) rfl fun a hE => ?_
    refine vP hS hE (Gives.pickF hE rfl hg157 rfl) rfl fun a hE => WL.nil ?_
    subst hK156
    exact ⟨((x137.f0 == x52.B) && (x137.f1 == x52.EndB)), hq151, hE.pick _ ⟨rfl, rfl, rfl, rfl, rfl, rfl, rfl, rfl, trivial⟩, hS⟩
   clear hE hS a w; rintro a w ⟨q155, rfl, hE, hS⟩
   refine W.cond hE rfl (fun hc158 => ?_) (fun hc158 => ?_)
   ·replace hq134 := iteT hc158 hq134
    refine W.seq (W.region (vp hS hE rfl rfl fun a hE => WL.nil ?_))
    refine W.ret ?_
    subst hK145
    subst hK122
    rw [← hq134] at hq111
    dsimp only at hq111
    rw [← hq111] at hr
    dsimp only at hr
    refine finG (fn := Tryz.f76) (rs := [.tmp 4]) (vs := [_]) hE rfl ⟨rfl, trivial⟩ ?_
    obtain rfl := Option.some.inj hr
    replace hS := hS.tail
    replace hS := hS.tail
    replace hS := hS.tail
    replace hS := hS.tail
    exact ⟨rfl, (hS.down (Sg.Le.trans hle121 hle132))⟩
   replace hq134 := iteF hc158 hq134
   refine W.skip ?_
   refine W.region ?_
   refine vP hS hE (Gives.inc hE rfl (by have := h133.small; omega)) rfl fun a hE => ?_
   refine vp hS hE rfl rfl fun a hE => WL.nil ?_
   replace hS := hS.tail
   subst hK145
   exact ⟨rest138.length, Nat.lt_succ_self _, rest138, k136 + 1, rfl, hd139, hq134, hE.pick _ ⟨rfl, rfl, rfl, rfl, rfl, rfl, rfl, trivial⟩, hS⟩
  clear hE hS a w; rintro a w ⟨rfl, hE, hS⟩
  dsimp only at hq111
  refine W.region ?_
  refine vP hS hE (Gives.inc hE rfl (by have := h107.small; omega)) rfl fun a hE => ?_
  refine vp hS hE rfl rfl fun a hE => WL.nil ?_
  replace hS := hS.tail
  subst hK122
  exact ⟨rest115.length, Nat.lt_succ_self _, rest115, k113 + 1, s131, rfl, hd116, (Sg.Le.trans hle121 hle132), hq111, hE.pick _ ⟨rfl, rfl, rfl, rfl, trivial⟩, hS⟩
 clear hE hS a w; rintro a w ⟨s120, hle121, rfl, hE, hS⟩
 dsimp only at hr
 replace h0_2 := Sl.mono RApiLink.mono hle121 h0_2
 replace h107 := Sl.mono RApiLink.mono hle121 h107
 replace h0_0 := Sl.mono RS.mono hle121 h0_0
 replace h0_1 := Sl.mono RApiSection.mono hle121 h0_1
 replace h0_3 := Sl.mono RApiSignal.mono hle121 h0_3
 replace h0_4 := Sl.mono RApiGate.mono hle121 h0_4
 refine W.seq (W.region (vp hS hE rfl rfl fun a hE => WL.nil ?_))
 refine W.ret ?_
 refine finG (fn := Tryz.f76) (rs := [.tmp 4]) (vs := [_]) hE rfl ⟨rfl, trivial⟩ ?_
 obtain rfl := Option.some.inj hr
 replace hS := hS.tail
 replace hS := hS.tail
 exact ⟨rfl, (hS.down hle121)⟩
set_option maxHeartbeats 8000000 in
theorem Fishref1next_ok  {w : World} {s : Sg} {R : List HP} {x0 : ApiNet} {a0_0 : Option Addr} {c0_0 : Nat} {a0_1 : Option Addr} {c0_1 : Nat} {a0_2 : Option Addr} {c0_2 : Nat} {a0_3 : Option Addr} {c0_3 : Nat} {a0_4 : Option Addr} {c0_4 : Nat} {x1 : Int} {x2 : Int} (hS : St w s (R)) (_h0_0 : Sl 1 RS s a0_0 c0_0 x0.Stations) (_h0_1 : Sl 7 RApiSection s a0_1 c0_1 x0.Sections) (h0_2 : Sl 4 RApiLink s a0_2 c0_2 x0.Links) (_h0_3 : Sl 2 RApiSignal s a0_3 c0_3 x0.Signals) (_h0_4 : Sl 2 RApiGate s a0_4 c0_4 x0.Gates) {r : Int × Int × Bool} (hr : Fishref1next x0 x1 x2 = r) :
  Calls Tryz.prog 122 [.agg (List.toArray [.slice a0_0 x0.Stations.length c0_0, .slice a0_1 x0.Sections.length c0_1, .slice a0_2 x0.Links.length c0_2, .slice a0_3 x0.Signals.length c0_3, .slice a0_4 x0.Gates.length c0_4]), vi x1, vi x2].toArray w (fun e w => e = .returned (.tuple #[vi r.1, vi r.2.1, .bool r.2.2]) ∧ St w s (R)) := by
 refine enter Tryz.func122 rfl rfl rfl fun a hE => ?_
 rw [Fishref1next] at hr
 refine W.seq (W.region ?_)
 refine WL.box hE hS (runs_plain rfl) rfl rfl rfl ?_; clear hE hS a w; intro b51 a w hE hS
 refine v2 hS hE rfl rfl rfl rfl fun a hE => ?_
 refine vp hS hE rfl rfl fun a hE => WL.nil ?_
 refine W.seq ?_
 refine W.seq (W.region (vP hS hE (Gives.fld hE rfl fl53_2) rfl fun a hE => ?_))
 refine vP hS hE (Gives.loadB hE 0 rfl rfl rfl ty49) rfl fun a hE => ?_
 refine vP hS hE (Gives.len hE rfl sl49) rfl fun a hE => ?_
 refine vp hS hE rfl rfl fun a hE => WL.nil ?_
 obtain ⟨q53, hq52, hr⟩ := bndS hr
 refine W.cut (fun a w => (.next ()) = q53 ∧ Rep a 47 [] ∧ St w s (pc b51 #[.slice a0_0 x0.Stations.length c0_0, .slice a0_1 x0.Sections.length c0_1, .slice a0_2 x0.Links.length c0_2, .slice a0_3 x0.Signals.length c0_3, .slice a0_4 x0.Gates.length c0_4] 53 :: R)) ?_ ?_
 ·refine W.block ?_
  refine W.loop (fun m a w => ∃ (rest56 : List ApiLink) (k54 : Nat), rest56.length = m ∧ x0.Links.drop k54 = rest56 ∧ Fishref1next.loop1 x1 x2 rest56 = q53 ∧ Rep a 47 [(1, vi x1), (2, vi x2), (12, .slice a0_2 x0.Links.length c0_2), (13, vi ((x0.Links).length : Int)), (14, vi ((k54 : Nat) : Int))] ∧ St w s (pc b51 #[.slice a0_0 x0.Stations.length c0_0, .slice a0_1 x0.Sections.length c0_1, .slice a0_2 x0.Links.length c0_2, .slice a0_3 x0.Signals.length c0_3, .slice a0_4 x0.Gates.length c0_4] 53 :: R)) (m := x0.Links.length) ⟨x0.Links, 0, rfl, rfl, hq52, hE.pick _ ⟨rfl, rfl, rfl, rfl, rfl, trivial⟩, hS⟩ ?_
  clear hE hS a w hq52; rintro m60 a w ⟨rest56, k54, rfl, hd57, hq52, hE, hS⟩
  refine W.gen fun K63 hK63 => ?_
  rcases rest56 with _ | ⟨x55, rest56⟩
  ·have hlt58 := drop_nil hd57
   refine W.seq (W.region (vp hS hE rfl rfl fun a hE => WL.nil ?_))
   refine W.seq ?_
   refine W.condF hE rfl (decide_eq_false (by omega)) ?_
   subst hK63
   refine W.exit rfl ?_
   exact ⟨hq52, hE.pick _ trivial, hS⟩
  obtain ⟨hlt58, hx59, hd57⟩ := drop_cons hd57
  rw [Fishref1next.loop1] at hq52
  refine W.seq (W.region (vp hS hE rfl rfl fun a hE => WL.nil ?_))
  refine W.seq ?_
  refine W.condT hE rfl (decide_eq_true (by omega)) ?_
  refine W.skip ?_
  refine W.seq ?_
  refine W.block ?_
  refine W.seq (W.region ?_)
  obtain ⟨cs64, hl65, hR66, hat67⟩ := h0_2.at hx59
  subst hR66
  refine vP hS hE (Gives.idx hE k54 rfl rfl sl49 rfl hlt58 (h0_2.aok hlt58)) rfl fun a hE => ?_
  refine vP hS hE (Gives.loadA hE rfl (fun w h => hat67 w _ h) ty198) rfl fun a hE => ?_
  refine WL.alloc hE hS (runs_plain rfl) zr198 rfl ?_; clear hE hS a w; intro b68 a w hE hS
  refine WL.storeI hE hS 0 rfl (ApiLink.cells x55) (runs_plain rfl) rfl rfl rfl ty198 rfl rfl rfl rfl ?_; clear hE hS a w; intro a w hE hS
  refine WL.nil ?_
  refine W.seq ?_
  refine W.seq ?_
  obtain ⟨q70, hq69, hq52⟩ := bndS hq52
  refine W.cut (fun a w => ∃ (q73 : Bool), q73 = q70 ∧ Rep a 47 [(1, vi x1), (2, vi x2), (10, pp b68), (12, .slice a0_2 x0.Links.length c0_2), (13, vi ((x0.Links).length : Int)), (14, vi ((k54 : Nat) : Int)), (27, .bool q73)] ∧ St w s (pc b68 (ApiLink.cells x55).toArray 198 :: pc b51 #[.slice a0_0 x0.Stations.length c0_0, .slice a0_1 x0.Sections.length c0_1, .slice a0_2 x0.Links.length c0_2, .slice a0_3 x0.Signals.length c0_3, .slice a0_4 x0.Gates.length c0_4] 53 :: R)) ?_ ?_
  ·refine W.gen fun K74 hK74 => ?_
   refine W.region ?_
   refine vP hS hE (Gives.fld hE rfl fl198_0) rfl fun a hE => ?_
   refine vP hS hE (Gives.loadB hE 0 rfl rfl rfl ty3) rfl fun a hE => ?_
   refine v2 hS hE rfl rfl rfl rfl fun a hE => ?_
   refine vp hS hE rfl rfl fun a hE => ?_
   rcases Bool.eq_false_or_eq_true (x55.A == x1) with hg75 | hg75
   ·replace hq69 := iteT hg75 hq69
    refine WL.vS hS hE (runs_if hE rfl rfl rfl hg75) (Gives.fld hE rfl fl198_1) rfl fun a hE => ?_
    refine WL.vS hS hE (runs_if hE rfl rfl rfl hg75) (Gives.loadB hE 0 rfl rfl rfl ty3) rfl fun a hE => ?_
    refine WL.vS hS hE (runs_if hE rfl rfl rfl hg75) (Gives.p hE rfl) rfl fun a hE => ?_
    refine WL.vS hS hE (runs_if hE rfl rfl rfl hg75) (Gives.p hE rfl) rfl fun a hE => ?_
    refine vP hS hE (Gives.pickT hE rfl hg75 rfl) rfl fun a hE => WL.nil ?_
    subst hK74
    exact ⟨(x55.EndA == x2), hq69, hE.pick _ ⟨rfl, rfl, rfl, rfl, rfl, rfl, rfl, trivial⟩, hS⟩
   replace hq69 := iteF hg75 hq69
   refine nO hE rfl rfl rfl (by rw [hg75]; decide) rfl fun a hE => ?_
   refine nO hE rfl rfl rfl (by rw [hg75]; decide) rfl fun a hE => ?_
   refine nO hE rfl rfl rfl (by rw [hg75]; decide) rfl fun a hE => ?_
   refine nO hE rfl rfl rfl (by rw [hg75]; decide) rfl fun a hE => ?_
   refine vP hS hE (Gives.pickF hE rfl hg75 rfl) rfl fun a hE => WL.nil ?_
   subst hK74
   exact ⟨false, hq69, hE.pick _ ⟨rfl, rfl, rfl, rfl, rfl, rfl, rfl, trivial⟩, hS⟩
  clear hE hS a w; rintro a w ⟨q73, rfl, hE, hS⟩
  refine W.cond hE rfl (fun hc76 => ?_) (fun hc76 => ?_)
  ·replace hq52 := iteT hc76 hq52
   refine W.seq ?_
   refine W.regionQ (C := fun w => St w s (pc b68 (ApiLink.cells x55).toArray 198 :: pc b51 #[.slice a0_0 x0.Stations.length c0_0, .slice a0_1 x0.Sections.length c0_1, .slice a0_2 x0.Links.length c0_2, .slice a0_3 x0.Signals.length c0_3, .slice a0_4 x0.Gates.length c0_4] 53 :: R)) mixed (by kernel_rfl) hS.drew ?_
   refine qP hE (Gives.fld hE rfl fl198_2) rfl fun a hE => ?_
   refine qP hE (Gives.loadB hE 0 rfl rfl rfl ty3) rfl fun a hE => ?_
   refine qP hE (Gives.fld hE rfl fl198_3) rfl fun a hE => ?_
   refine qP hE (Gives.loadB hE 0 rfl rfl rfl ty3) rfl fun a hE => ?_
   refine qP hE (Gives.p hE rfl) rfl fun a hE => ?_
   refine qP hE (Gives.p hE rfl) rfl fun a hE => ?_
   refine qP hE (Gives.p hE rfl) rfl fun a hE => ?_
   refine QL.nil ?_; clear hS w; intro w hS
   refine W.ret ?_
   subst hK63
   rw [← hq52] at hr
   dsimp only at hr
   refine finG (fn := Tryz.f122) (rs := [.tmp 6, .tmp 7, .tmp 8]) (vs := [_, _, _]) hE rfl ⟨rfl, rfl, rfl, trivial⟩ ?_
   subst hr
   replace hS := hS.tail
   replace hS := hS.tail
   exact ⟨rfl, hS⟩
  replace hq52 := iteF hc76 hq52
  refine W.skip ?_
  refine W.seq ?_
  obtain ⟨q78, hq77, hq52⟩ := bndS hq52
  refine W.cut (fun a w => ∃ (q81 : Bool), q81 = q78 ∧ Rep a 47 [(1, vi x1), (2, vi x2), (10, pp b68), (12, .slice a0_2 x0.Links.length c0_2), (13, vi ((x0.Links).length : Int)), (14, vi ((k54 : Nat) : Int)), (41, .bool q81)] ∧ St w s (pc b68 (ApiLink.cells x55).toArray 198 :: pc b51 #[.slice a0_0 x0.Stations.length c0_0, .slice a0_1 x0.Sections.length c0_1, .slice a0_2 x0.Links.length c0_2, .slice a0_3 x0.Signals.length c0_3, .slice a0_4 x0.Gates.length c0_4] 53 :: R)) ?_ ?_
  ·refine W.gen fun K82 hK82 => ?_
   refine W.region ?_
   refine vP hS hE (Gives.fld hE rfl fl198_2) rfl fun a hE => ?_
   refine vP hS hE (Gives.loadB hE 0 rfl rfl rfl ty3) rfl fun a hE => ?_
   refine v2 hS hE rfl rfl rfl rfl fun a hE => ?_
   refine vp hS hE rfl rfl fun a hE => ?_
   rcases Bool.eq_false_or_eq_true (x55.B == x1) with hg83 | hg83
   ·replace hq77 := iteT hg83 hq77
    refine WL.vS hS hE (runs_if hE rfl rfl rfl hg83) (Gives.fld hE rfl fl198_3) rfl fun a hE => ?_
    refine WL.vS hS hE (runs_if hE rfl rfl rfl hg83) (Gives.loadB hE 0 rfl rfl rfl ty3) rfl fun a hE => ?_
    refine WL.vS hS hE (runs_if hE rfl rfl rfl hg83) (Gives.p hE rfl) rfl fun a hE => ?_
    refine WL.vS hS hE (runs_if hE rfl rfl rfl hg83) (Gives.p hE rfl) rfl fun a hE => ?_
    refine vP hS hE (Gives.pickT hE rfl hg83 rfl) rfl fun a hE => WL.nil ?_
    subst hK82
    exact ⟨(x55.EndB == x2), hq77, hE.pick _ ⟨rfl, rfl, rfl, rfl, rfl, rfl, rfl, trivial⟩, hS⟩
   replace hq77 := iteF hg83 hq77
   refine nO hE rfl rfl rfl (by rw [hg83]; decide) rfl fun a hE => ?_
   refine nO hE rfl rfl rfl (by rw [hg83]; decide) rfl fun a hE => ?_
   refine nO hE rfl rfl rfl (by rw [hg83]; decide) rfl fun a hE => ?_
   refine nO hE rfl rfl rfl (by rw [hg83]; decide) rfl fun a hE => ?_
   refine vP hS hE (Gives.pickF hE rfl hg83 rfl) rfl fun a hE => WL.nil ?_
   subst hK82
   exact ⟨false, hq77, hE.pick _ ⟨rfl, rfl, rfl, rfl, rfl, rfl, rfl, trivial⟩, hS⟩
  clear hE hS a w; rintro a w ⟨q81, rfl, hE, hS⟩
  refine W.cond hE rfl (fun hc84 => ?_) (fun hc84 => ?_)
  ·replace hq52 := iteT hc84 hq52
   refine W.seq ?_
   refine W.regionQ (C := fun w => St w s (pc b68 (ApiLink.cells x55).toArray 198 :: pc b51 #[.slice a0_0 x0.Stations.length c0_0, .slice a0_1 x0.Sections.length c0_1, .slice a0_2 x0.Links.length c0_2, .slice a0_3 x0.Signals.length c0_3, .slice a0_4 x0.Gates.length c0_4] 53 :: R)) mixed (by kernel_rfl) hS.drew ?_
   refine qP hE (Gives.fld hE rfl fl198_0) rfl fun a hE => ?_
   refine qP hE (Gives.loadB hE 0 rfl rfl rfl ty3) rfl fun a hE => ?_
   refine qP hE (Gives.fld hE rfl fl198_1) rfl fun a hE => ?_
   refine qP hE (Gives.loadB hE 0 rfl rfl rfl ty3) rfl fun a hE => ?_
   refine qP hE (Gives.p hE rfl) rfl fun a hE => ?_
   refine qP hE (Gives.p hE rfl) rfl fun a hE => ?_
   refine qP hE (Gives.p hE rfl) rfl fun a hE => ?_
   refine QL.nil ?_; clear hS w; intro w hS
   refine W.ret ?_
   subst hK63
   rw [← hq52] at hr
   dsimp only at hr
   refine finG (fn := Tryz.f122) (rs := [.tmp 6, .tmp 7, .tmp 8]) (vs := [_, _, _]) hE rfl ⟨rfl, rfl, rfl, trivial⟩ ?_
   subst hr
   replace hS := hS.tail
   replace hS := hS.tail
   exact ⟨rfl, hS⟩
  replace hq52 := iteF hc84 hq52
  refine W.skip ?_
  refine W.region ?_
  refine vP hS hE (Gives.inc hE rfl (by have := h0_2.small; omega)) rfl fun a hE => ?_
  refine vp hS hE rfl rfl fun a hE => WL.nil ?_
  replace hS := hS.tail
  subst hK63
  exact ⟨rest56.length, Nat.lt_succ_self _, rest56, k54 + 1, rfl, hd57, hq52, hE.pick _ ⟨rfl, rfl, rfl, rfl, rfl, trivial⟩, hS⟩
 clear hE hS a w; rintro a w ⟨rfl, hE, hS⟩
 dsimp only at hr
 refine W.seq (W.region (v2 hS hE rfl rfl rfl rfl fun a hE => ?_))
 refine vp hS hE rfl rfl fun a hE => WL.nil ?_
 refine W.ret ?_
 refine finG (fn := Tryz.f122) (rs := [.tmp 6, .tmp 7, .tmp 8]) (vs := [_, _, _]) hE rfl ⟨rfl, rfl, rfl, trivial⟩ ?_
 subst hr
 replace hS := hS.tail
 exact ⟨rfl, hS⟩
set_option maxHeartbeats 8000000 in
theorem Fishref1checkRest_ok  {w : World} {s : Sg} {R : List HP} {x0 : ApiNet} {a0_0 : Option Addr} {c0_0 : Nat} {a0_1 : Option Addr} {c0_1 : Nat} {a0_2 : Option Addr} {c0_2 : Nat} {a0_3 : Option Addr} {c0_3 : Nat} {a0_4 : Option Addr} {c0_4 : Nat} (hS : St w s (R)) (h0_0 : Sl 1 RS s a0_0 c0_0 x0.Stations) (h0_1 : Sl 7 RApiSection s a0_1 c0_1 x0.Sections) (h0_2 : Sl 4 RApiLink s a0_2 c0_2 x0.Links) (h0_3 : Sl 2 RApiSignal s a0_3 c0_3 x0.Signals) (h0_4 : Sl 2 RApiGate s a0_4 c0_4 x0.Gates) {r : Int} (hr : Fishref1checkRest x0 = some r) :
  Calls Tryz.prog 77 [.agg (List.toArray [.slice a0_0 x0.Stations.length c0_0, .slice a0_1 x0.Sections.length c0_1, .slice a0_2 x0.Links.length c0_2, .slice a0_3 x0.Signals.length c0_3, .slice a0_4 x0.Gates.length c0_4])].toArray w (fun e w => e = .returned (vi r) ∧ St w s (R)) := by
 refine enter Tryz.func77 rfl rfl rfl fun a hE => ?_
 rw [Fishref1checkRest] at hr
 refine W.seq (W.region ?_)
 refine WL.box hE hS (runs_plain rfl) rfl rfl rfl ?_; clear hE hS a w; intro b51 a w hE hS
 refine vp hS hE rfl rfl fun a hE => WL.nil ?_
 refine W.seq ?_
 refine W.seq (W.region (vP hS hE (Gives.fld hE rfl fl53_3) rfl fun a hE => ?_))
 refine vP hS hE (Gives.loadB hE 0 rfl rfl rfl ty50) rfl fun a hE => ?_
 refine vP hS hE (Gives.len hE rfl sl50) rfl fun a hE => ?_
 refine vp hS hE rfl rfl fun a hE => WL.nil ?_
 obtain ⟨q53, hq52, hr⟩ := bindS hr
 refine W.cut (fun a w => (.next ()) = q53 ∧ Rep a 122 [(1, pp b51)] ∧ St w s (pc b51 #[.slice a0_0 x0.Stations.length c0_0, .slice a0_1 x0.Sections.length c0_1, .slice a0_2 x0.Links.length c0_2, .slice a0_3 x0.Signals.length c0_3, .slice a0_4 x0.Gates.length c0_4] 53 :: R)) ?_ ?_
 ·refine W.block ?_
  refine W.loop (fun m a w => ∃ (rest56 : List ApiSignal) (k54 : Nat), rest56.length = m ∧ x0.Signals.drop k54 = rest56 ∧ Fishref1checkRest.loop1 x0 rest56 k54 = some q53 ∧ Rep a 122 [(1, pp b51), (11, .slice a0_3 x0.Signals.length c0_3), (12, vi ((x0.Signals).length : Int)), (13, vi ((k54 : Nat) : Int))] ∧ St w s (pc b51 #[.slice a0_0 x0.Stations.length c0_0, .slice a0_1 x0.Sections.length c0_1, .slice a0_2 x0.Links.length c0_2, .slice a0_3 x0.Signals.length c0_3, .slice a0_4 x0.Gates.length c0_4] 53 :: R)) (m := x0.Signals.length) ⟨x0.Signals, 0, rfl, rfl, hq52, hE.pick _ ⟨rfl, rfl, rfl, rfl, trivial⟩, hS⟩ ?_
  clear hE hS a w hq52; rintro m60 a w ⟨rest56, k54, rfl, hd57, hq52, hE, hS⟩
  refine W.gen fun K63 hK63 => ?_
  rcases rest56 with _ | ⟨x55, rest56⟩
  ·have hlt58 := drop_nil hd57
   refine W.seq (W.region (vp hS hE rfl rfl fun a hE => WL.nil ?_))
   refine W.seq ?_
   refine W.condF hE rfl (decide_eq_false (by omega)) ?_
   subst hK63
   refine W.exit rfl ?_
   exact ⟨Option.some.inj hq52, hE.pick _ ⟨rfl, trivial⟩, hS⟩
  obtain ⟨hlt58, hx59, hd57⟩ := drop_cons hd57
  rw [Fishref1checkRest.loop1] at hq52
  refine W.seq (W.region (vp hS hE rfl rfl fun a hE => WL.nil ?_))
  refine W.seq ?_
  refine W.condT hE rfl (decide_eq_true (by omega)) ?_
  refine W.skip ?_
  refine W.seq ?_
  refine W.block ?_
  refine W.seq (W.region (vp hS hE rfl rfl fun a hE => ?_))
  obtain ⟨cs64, hl65, hR66, hat67⟩ := h0_3.at hx59
  subst hR66
  refine vP hS hE (Gives.idx hE k54 rfl rfl sl50 rfl hlt58 (h0_3.aok hlt58)) rfl fun a hE => ?_
  refine vP hS hE (Gives.loadA hE rfl (fun w h => hat67 w _ h) ty203) rfl fun a hE => ?_
  refine WL.alloc hE hS (runs_plain rfl) zr203 rfl ?_; clear hE hS a w; intro b68 a w hE hS
  refine vp hS hE rfl rfl fun a hE => ?_
  refine WL.storeI hE hS 0 rfl (ApiSignal.cells x55) (runs_plain rfl) rfl rfl rfl ty203 rfl rfl rfl rfl ?_; clear hE hS a w; intro a w hE hS
  refine WL.nil ?_
  refine W.seq ?_
  refine W.seq (W.region (vP hS hE (Gives.loadBA hE 1 rfl rfl ty53) rfl fun a hE => ?_))
  refine vP hS hE (Gives.fld hE rfl fl203_0) rfl fun a hE => ?_
  refine vP hS hE (Gives.loadB hE 0 rfl rfl rfl ty3) rfl fun a hE => ?_
  refine vP hS hE (Gives.fld hE rfl fl203_1) rfl fun a hE => ?_
  refine vP hS hE (Gives.loadB hE 0 rfl rfl rfl ty3) rfl fun a hE => ?_
  obtain ⟨q69, hq70, hq52⟩ := bindS hq52
  have hc_ := Fishref1hasEnd_ok hS h0_0 h0_1 h0_2 h0_3 h0_4 hq70
  refine WL.fnq hE (hc_) (runs_plain rfl) bd120 rfl rfl rfl ?_
  clear hE hS hc_; rintro e w ⟨rfl, hS⟩; refine ⟨_, rfl, ?_⟩; clear a; intro a hE
  refine vp hS hE rfl rfl fun a hE => WL.nil ?_
  refine W.cond hE rfl (fun hc71 => ?_) (fun hc71 => ?_)
  ·replace hq52 := iteT hc71 hq52
   refine W.seq (W.region (vp hS hE rfl rfl fun a hE => WL.nil ?_))
   refine W.ret ?_
   subst hK63
   rw [← Option.some.inj hq52] at hr
   dsimp only at hr
   refine finG (fn := Tryz.f77) (rs := [.tmp 2]) (vs := [_]) hE rfl ⟨rfl, trivial⟩ ?_
   obtain rfl := Option.some.inj hr
   replace hS := hS.tail
   replace hS := hS.tail
   exact ⟨rfl, hS⟩
  replace hq52 := iteF hc71 hq52
  refine W.skip ?_
  refine W.seq ?_
  refine W.seq (W.region (vP hS hE (Gives.loadBA hE 1 rfl rfl ty53) rfl fun a hE => ?_))
  refine vP hS hE (Gives.fld hE rfl fl203_0) rfl fun a hE => ?_
  refine vP hS hE (Gives.loadB hE 0 rfl rfl rfl ty3) rfl fun a hE => ?_
  refine vP hS hE (Gives.fld hE rfl fl203_1) rfl fun a hE => ?_
  refine vP hS hE (Gives.loadB hE 0 rfl rfl rfl ty3) rfl fun a hE => ?_
  obtain ⟨q72, hq73, hq52⟩ := bndS hq52
  have hc_ := Fishref1next_ok hS h0_0 h0_1 h0_2 h0_3 h0_4 hq73
  refine WL.fnq hE (hc_) (runs_plain rfl) bd122 rfl rfl rfl ?_
  clear hE hS hc_; rintro e w ⟨rfl, hS⟩; refine ⟨_, rfl, ?_⟩; clear a; intro a hE
  refine v2 hS hE rfl rfl rfl rfl fun a hE => ?_
  refine v2 hS hE rfl rfl rfl rfl fun a hE => ?_
  refine v2 hS hE rfl rfl rfl rfl fun a hE => ?_
  refine vp hS hE rfl rfl fun a hE => WL.nil ?_
  refine W.seq ?_
  obtain ⟨q75, hq74, hq52⟩ := bindS hq52
  refine W.cut (fun a w => ∃ (q78 : Bool), q78 = q75 ∧ Rep a 122 [(1, pp b51), (3, vi ((k54 : Nat) : Int)), (4, pp b68), (11, .slice a0_3 x0.Signals.length c0_3), (12, vi ((x0.Signals).length : Int)), (13, vi ((k54 : Nat) : Int)), (46, .bool q78)] ∧ St w s (pc b68 (ApiSignal.cells x55).toArray 203 :: pc b51 #[.slice a0_0 x0.Stations.length c0_0, .slice a0_1 x0.Sections.length c0_1, .slice a0_2 x0.Links.length c0_2, .slice a0_3 x0.Signals.length c0_3, .slice a0_4 x0.Gates.length c0_4] 53 :: R)) ?_ ?_
  ·refine W.gen fun K79 hK79 => ?_
   refine W.region ?_
   refine vP hS hE (Gives.fld hE rfl fl53_1) rfl fun a hE => ?_
   refine vP hS hE (Gives.loadB hE 1 rfl rfl rfl ty48) rfl fun a hE => ?_
   refine vP hS hE (Gives.fld hE rfl fl203_0) rfl fun a hE => ?_
   refine vP hS hE (Gives.loadB hE 0 rfl rfl rfl ty3) rfl fun a hE => ?_
   obtain ⟨x80, hx81, hq74⟩ := bindS hq74
   obtain ⟨hi82, hlt83, hy84⟩ := gx_some hx81
   obtain ⟨cs85, hl86, hR87, hat88⟩ := h0_1.at hy84
   subst hR87
   refine vP hS hE (Gives.idx hE (x55.Section).toNat rfl rfl sl48 hi82 hlt83 (h0_1.aok hlt83)) rfl fun a hE => ?_
   refine vP hS hE (Gives.fld hE rfl fl151_0) rfl fun a hE => ?_
   refine vP hS hE (Gives.load1 hE rfl (fun w h => (hat88 w _ h).one rfl) ty3) rfl fun a hE => ?_
   refine v2 hS hE rfl rfl rfl rfl fun a hE => ?_
   rcases Bool.eq_false_or_eq_true (x80.Kind != 1) with hg89 | hg89
   ·replace hq74 := iteT hg89 hq74
    refine nO hE rfl rfl rfl (by rw [hg89]; decide) rfl fun a hE => ?_
    refine nO hE rfl rfl rfl (by rw [hg89]; decide) rfl fun a hE => ?_
    refine vP hS hE (Gives.pickT hE rfl hg89 rfl) rfl fun a hE => WL.nil ?_
    subst hK79
    exact ⟨true, Option.some.inj hq74, hE.pick _ ⟨rfl, rfl, rfl, rfl, rfl, rfl, rfl, trivial⟩, hS⟩
   replace hq74 := iteF hg89 hq74
   refine WL.vS hS hE (runs_if hE rfl rfl rfl hg89) (Gives.p hE rfl) rfl fun a hE => ?_
   refine WL.vS hS hE (runs_if hE rfl rfl rfl hg89) (Gives.p hE rfl) rfl fun a hE => ?_
   refine vP hS hE (Gives.pickF hE rfl hg89 rfl) rfl fun a hE => WL.nil ?_
   subst hK79
   exact ⟨!q72.2.2, Option.some.inj hq74, hE.pick _ ⟨rfl, rfl, rfl, rfl, rfl, rfl, rfl, trivial⟩, hS⟩
  clear hE hS a w; rintro a w ⟨q78, rfl, hE, hS⟩
  refine W.cond hE rfl (fun hc90 => ?_) (fun hc90 => ?_)
  ·replace hq52 := iteT hc90 hq52
   refine W.seq (W.region (vp hS hE rfl rfl fun a hE => WL.nil ?_))
   refine W.ret ?_
   subst hK63
   rw [← Option.some.inj hq52] at hr
   dsimp only at hr
   refine finG (fn := Tryz.f77) (rs := [.tmp 2]) (vs := [_]) hE rfl ⟨rfl, trivial⟩ ?_
   obtain rfl := Option.some.inj hr
   replace hS := hS.tail
   replace hS := hS.tail
   exact ⟨rfl, hS⟩
  replace hq52 := iteF hc90 hq52
  refine W.skip ?_
  refine W.seq ?_
  obtain ⟨q92, hq91, hq52⟩ := bindS hq52
  refine W.cut (fun a w => ∃ (q95 : Bool), q95 = q92 ∧ Rep a 122 [(1, pp b51), (11, .slice a0_3 x0.Signals.length c0_3), (12, vi ((x0.Signals).length : Int)), (13, vi ((k54 : Nat) : Int)), (70, .bool q95)] ∧ St w s (pc b68 (ApiSignal.cells x55).toArray 203 :: pc b51 #[.slice a0_0 x0.Stations.length c0_0, .slice a0_1 x0.Sections.length c0_1, .slice a0_2 x0.Links.length c0_2, .slice a0_3 x0.Signals.length c0_3, .slice a0_4 x0.Gates.length c0_4] 53 :: R)) ?_ ?_
  ·refine W.gen fun K96 hK96 => ?_
   refine W.regionQ (C := fun w => St w s (pc b68 (ApiSignal.cells x55).toArray 203 :: pc b51 #[.slice a0_0 x0.Stations.length c0_0, .slice a0_1 x0.Sections.length c0_1, .slice a0_2 x0.Links.length c0_2, .slice a0_3 x0.Signals.length c0_3, .slice a0_4 x0.Gates.length c0_4] 53 :: R)) mixed (by kernel_rfl) hS.drew ?_
   refine qP hE (Gives.p hE rfl) rfl fun a hE => ?_
   refine qP hE (Gives.p hE rfl) rfl fun a hE => ?_
   refine qP hE (Gives.p hE rfl) rfl fun a hE => ?_
   rcases Bool.eq_false_or_eq_true (decide (((k54 : Nat) : Int) > 0)) with hg97 | hg97
   ·replace hq91 := iteT hg97 hq91
    refine QL.v hE (runs_if hE rfl rfl rfl hg97) (Gives.fld hE rfl fl53_3) rfl fun a hE => ?_
    refine QL.v hE (runs_if hE rfl rfl rfl hg97) (Gives.loadB hE 1 rfl rfl rfl ty50) rfl fun a hE => ?_
    refine QL.v hE (runs_if hE rfl rfl rfl hg97) (Gives.p hE rfl) rfl fun a hE => ?_
    refine QL.v hE (runs_if hE rfl rfl rfl hg97) (Gives.p hE rfl) rfl fun a hE => ?_
    obtain ⟨x98, hx99, hq91⟩ := bindS hq91
    obtain ⟨hi100, hlt101, hy102⟩ := gx_some hx99
    obtain ⟨cs103, hl104, hR105, hat106⟩ := h0_3.at hy102
    subst hR105
    refine QL.v hE (runs_if hE rfl rfl rfl hg97) (Gives.idx hE (w64 (((k54 : Nat) : Int) - 1)).toNat rfl rfl sl50 hi100 hlt101 (h0_3.aok hlt101)) rfl fun a hE => ?_
    refine QL.v hE (runs_if hE rfl rfl rfl hg97) (Gives.fld hE rfl fl203_0) rfl fun a hE => ?_
    refine QL.v hE (runs_if hE rfl rfl rfl hg97) (Gives.load1 hE rfl (fun w h => (hat106 w _ h).one rfl) ty3) rfl fun a hE => ?_
    refine QL.v hE (runs_if hE rfl rfl rfl hg97) (Gives.fld hE rfl fl53_3) rfl fun a hE => ?_
    refine QL.v hE (runs_if hE rfl rfl rfl hg97) (Gives.loadB hE 1 rfl rfl rfl ty50) rfl fun a hE => ?_
    refine QL.v hE (runs_if hE rfl rfl rfl hg97) (Gives.p hE rfl) rfl fun a hE => ?_
    refine QL.v hE (runs_if hE rfl rfl rfl hg97) (Gives.p hE rfl) rfl fun a hE => ?_
    obtain ⟨x107, hx108, hq91⟩ := bindS hq91
    obtain ⟨hi109, hlt110, hy111⟩ := gx_some hx108
    obtain ⟨cs112, hl113, hR114, hat115⟩ := h0_3.at hy111
    subst hR114
    refine QL.v hE (runs_if hE rfl rfl rfl hg97) (Gives.idx hE (w64 (((k54 : Nat) : Int) - 1)).toNat rfl rfl sl50 hi109 hlt110 (h0_3.aok hlt110)) rfl fun a hE => ?_
    refine QL.v hE (runs_if hE rfl rfl rfl hg97) (Gives.fld hE rfl fl203_1) rfl fun a hE => ?_
    refine QL.v hE (runs_if hE rfl rfl rfl hg97) (Gives.load1 hE rfl (fun w h => (hat115 w _ h).one rfl) ty3) rfl fun a hE => ?_
    refine QL.v hE (runs_if hE rfl rfl rfl hg97) (Gives.fld hE rfl fl203_0) rfl fun a hE => ?_
    refine QL.v hE (runs_if hE rfl rfl rfl hg97) (Gives.loadB hE 0 rfl rfl rfl ty3) rfl fun a hE => ?_
    refine QL.v hE (runs_if hE rfl rfl rfl hg97) (Gives.fld hE rfl fl203_1) rfl fun a hE => ?_
    refine QL.v hE (runs_if hE rfl rfl rfl hg97) (Gives.loadB hE 0 rfl rfl rfl ty3) rfl fun a hE => ?_
    refine QL.fnq hE (fun w hS => Fishref1less_ok hS  rfl (r := Fishref1less x98.Section x107.End x55.Section x55.End)) (runs_if hE rfl rfl rfl hg97) bd121 rfl rfl rfl fun a hE => ?_
    refine QL.v hE (runs_if hE rfl rfl rfl hg97) (Gives.p hE rfl) rfl fun a hE => ?_
    refine qP hE (Gives.pickT hE rfl hg97 rfl) rfl fun a hE => ?_
    refine QL.nil ?_; clear hS w; intro w hS
    subst hK96
    exact ⟨!(Fishref1less x98.Section x107.End x55.Section x55.End), Option.some.inj hq91, hE.pick _ ⟨rfl, rfl, rfl, rfl, rfl, trivial⟩, hS⟩
   replace hq91 := iteF hg97 hq91
   refine QL.no hE (runs_not hE rfl rfl rfl (by rw [hg97]; decide)) rfl fun a hE => ?_
   refine QL.no hE (runs_not hE rfl rfl rfl (by rw [hg97]; decide)) rfl fun a hE => ?_
   refine QL.no hE (runs_not hE rfl rfl rfl (by rw [hg97]; decide)) rfl fun a hE => ?_
   refine QL.no hE (runs_not hE rfl rfl rfl (by rw [hg97]; decide)) rfl fun a hE => ?_
   refine QL.no hE (runs_not hE rfl rfl rfl (by rw [hg97]; decide)) rfl fun a hE => ?_
   refine QL.no hE (runs_not hE rfl rfl rfl (by rw [hg97]; decide)) rfl fun a hE => ?_
   refine QL.no hE (runs_not hE rfl rfl rfl (by rw [hg97]; decide)) rfl fun a hE => ?_
   refine QL.no hE (runs_not hE rfl rfl rfl (by rw [hg97]; decide)) rfl fun a hE => ?_
   refine QL.no hE (runs_not hE rfl rfl rfl (by rw [hg97]; decide)) rfl fun a hE => ?_
   refine QL.no hE (runs_not hE rfl rfl rfl (by rw [hg97]; decide)) rfl fun a hE => ?_
   refine QL.no hE (runs_not hE rfl rfl rfl (by rw [hg97]; decide)) rfl fun a hE => ?_
   refine QL.no hE (runs_not hE rfl rfl rfl (by rw [hg97]; decide)) rfl fun a hE => ?_
   refine QL.no hE (runs_not hE rfl rfl rfl (by rw [hg97]; decide)) rfl fun a hE => ?_
   refine QL.no hE (runs_not hE rfl rfl rfl (by rw [hg97]; decide)) rfl fun a hE => ?_
   refine QL.no hE (runs_not hE rfl rfl rfl (by rw [hg97]; decide)) rfl fun a hE => ?_
   refine QL.no hE (runs_not hE rfl rfl rfl (by rw [hg97]; decide)) rfl fun a hE => ?_
   refine QL.no hE (runs_not hE rfl rfl rfl (by rw [hg97]; decide)) rfl fun a hE => ?_
   refine QL.no hE (runs_not hE rfl rfl rfl (by rw [hg97]; decide)) rfl fun a hE => ?_
   refine QL.no hE (runs_not hE rfl rfl rfl (by rw [hg97]; decide)) rfl fun a hE => ?_
   refine QL.no hE (runs_not hE rfl rfl rfl (by rw [hg97]; decide)) rfl fun a hE => ?_
   refine qP hE (Gives.pickF hE rfl hg97 rfl) rfl fun a hE => ?_
   refine QL.nil ?_; clear hS w; intro w hS
   subst hK96
   exact ⟨false, Option.some.inj hq91, hE.pick _ ⟨rfl, rfl, rfl, rfl, rfl, trivial⟩, hS⟩
  clear hE hS a w; rintro a w ⟨q95, rfl, hE, hS⟩
  refine W.cond hE rfl (fun hc116 => ?_) (fun hc116 => ?_)
  ·replace hq52 := iteT hc116 hq52
   refine W.seq (W.region (vp hS hE rfl rfl fun a hE => WL.nil ?_))
   refine W.ret ?_
   subst hK63
   rw [← Option.some.inj hq52] at hr
   dsimp only at hr
   refine finG (fn := Tryz.f77) (rs := [.tmp 2]) (vs := [_]) hE rfl ⟨rfl, trivial⟩ ?_
   obtain rfl := Option.some.inj hr
   replace hS := hS.tail
   replace hS := hS.tail
   exact ⟨rfl, hS⟩
  replace hq52 := iteF hc116 hq52
  refine W.skip ?_
  refine W.region ?_
  refine vP hS hE (Gives.inc hE rfl (by have := h0_3.small; omega)) rfl fun a hE => ?_
  refine vp hS hE rfl rfl fun a hE => WL.nil ?_
  replace hS := hS.tail
  subst hK63
  exact ⟨rest56.length, Nat.lt_succ_self _, rest56, k54 + 1, rfl, hd57, hq52, hE.pick _ ⟨rfl, rfl, rfl, rfl, trivial⟩, hS⟩
 clear hE hS a w; rintro a w ⟨rfl, hE, hS⟩
 dsimp only at hr
 refine W.seq ?_
 refine W.seq (W.region (vP hS hE (Gives.fld hE rfl fl53_4) rfl fun a hE => ?_))
 refine vP hS hE (Gives.loadB hE 0 rfl rfl rfl ty51) rfl fun a hE => ?_
 refine vP hS hE (Gives.len hE rfl sl51) rfl fun a hE => ?_
 refine vp hS hE rfl rfl fun a hE => WL.nil ?_
 obtain ⟨q118, hq117, hr⟩ := bindS hr
 refine W.cut (fun a w => (.next ()) = q118 ∧ Rep a 122 [] ∧ St w s (pc b51 #[.slice a0_0 x0.Stations.length c0_0, .slice a0_1 x0.Sections.length c0_1, .slice a0_2 x0.Links.length c0_2, .slice a0_3 x0.Signals.length c0_3, .slice a0_4 x0.Gates.length c0_4] 53 :: R)) ?_ ?_
 ·refine W.block ?_
  refine W.loop (fun m a w => ∃ (rest121 : List ApiGate) (k119 : Nat), rest121.length = m ∧ x0.Gates.drop k119 = rest121 ∧ Fishref1checkRest.loop2 x0 rest121 k119 = some q118 ∧ Rep a 122 [(1, pp b51), (73, .slice a0_4 x0.Gates.length c0_4), (74, vi ((x0.Gates).length : Int)), (75, vi ((k119 : Nat) : Int))] ∧ St w s (pc b51 #[.slice a0_0 x0.Stations.length c0_0, .slice a0_1 x0.Sections.length c0_1, .slice a0_2 x0.Links.length c0_2, .slice a0_3 x0.Signals.length c0_3, .slice a0_4 x0.Gates.length c0_4] 53 :: R)) (m := x0.Gates.length) ⟨x0.Gates, 0, rfl, rfl, hq117, hE.pick _ ⟨rfl, rfl, rfl, rfl, trivial⟩, hS⟩ ?_
  clear hE hS a w hq117; rintro m125 a w ⟨rest121, k119, rfl, hd122, hq117, hE, hS⟩
  refine W.gen fun K128 hK128 => ?_
  rcases rest121 with _ | ⟨x120, rest121⟩
  ·have hlt123 := drop_nil hd122
   refine W.seq (W.region (vp hS hE rfl rfl fun a hE => WL.nil ?_))
   refine W.seq ?_
   refine W.condF hE rfl (decide_eq_false (by omega)) ?_
   subst hK128
   refine W.exit rfl ?_
   exact ⟨Option.some.inj hq117, hE.pick _ trivial, hS⟩
  obtain ⟨hlt123, hx124, hd122⟩ := drop_cons hd122
  rw [Fishref1checkRest.loop2] at hq117
  refine W.seq (W.region (vp hS hE rfl rfl fun a hE => WL.nil ?_))
  refine W.seq ?_
  refine W.condT hE rfl (decide_eq_true (by omega)) ?_
  refine W.skip ?_
  refine W.seq ?_
  refine W.block ?_
  refine W.seq (W.region (vp hS hE rfl rfl fun a hE => ?_))
  obtain ⟨cs129, hl130, hR131, hat132⟩ := h0_4.at hx124
  subst hR131
  refine vP hS hE (Gives.idx hE k119 rfl rfl sl51 rfl hlt123 (h0_4.aok hlt123)) rfl fun a hE => ?_
  refine vP hS hE (Gives.loadA hE rfl (fun w h => hat132 w _ h) ty207) rfl fun a hE => ?_
  refine WL.alloc hE hS (runs_plain rfl) zr207 rfl ?_; clear hE hS a w; intro b133 a w hE hS
  refine vp hS hE rfl rfl fun a hE => ?_
  refine WL.storeI hE hS 0 rfl (ApiGate.cells x120) (runs_plain rfl) rfl rfl rfl ty207 rfl rfl rfl rfl ?_; clear hE hS a w; intro a w hE hS
  refine WL.nil ?_
  refine W.seq ?_
  refine W.seq ?_
  obtain ⟨q135, hq134, hq117⟩ := bndS hq117
  refine W.cut (fun a w => ∃ (q138 : Bool), q138 = q135 ∧ Rep a 122 [(1, pp b51), (8, vi ((k119 : Nat) : Int)), (9, pp b133), (73, .slice a0_4 x0.Gates.length c0_4), (74, vi ((x0.Gates).length : Int)), (75, vi ((k119 : Nat) : Int)), (90, .bool q138)] ∧ St w s (pc b133 (ApiGate.cells x120).toArray 207 :: pc b51 #[.slice a0_0 x0.Stations.length c0_0, .slice a0_1 x0.Sections.length c0_1, .slice a0_2 x0.Links.length c0_2, .slice a0_3 x0.Signals.length c0_3, .slice a0_4 x0.Gates.length c0_4] 53 :: R)) ?_ ?_
  ·refine W.gen fun K139 hK139 => ?_
   refine W.region ?_
   refine vP hS hE (Gives.fld hE rfl fl207_0) rfl fun a hE => ?_
   refine vP hS hE (Gives.loadB hE 0 rfl rfl rfl ty3) rfl fun a hE => ?_
   refine v2 hS hE rfl rfl rfl rfl fun a hE => ?_
   rcases Bool.eq_false_or_eq_true (decide (x120.Section < 0)) with hg140 | hg140
   ·replace hq134 := iteT hg140 hq134
    refine nO hE rfl rfl rfl (by rw [hg140]; decide) rfl fun a hE => ?_
    refine nO hE rfl rfl rfl (by rw [hg140]; decide) rfl fun a hE => ?_
    refine nO hE rfl rfl rfl (by rw [hg140]; decide) rfl fun a hE => ?_
    refine nO hE rfl rfl rfl (by rw [hg140]; decide) rfl fun a hE => ?_
    refine nO hE rfl rfl rfl (by rw [hg140]; decide) rfl fun a hE => ?_
    refine nO hE rfl rfl rfl (by rw [hg140]; decide) rfl fun a hE => ?_
    refine vP hS hE (Gives.pickT hE rfl hg140 rfl) rfl fun a hE => WL.nil ?_
    subst hK139
    exact ⟨true, hq134, hE.pick _ ⟨rfl, rfl, rfl, rfl, rfl, rfl, rfl, trivial⟩, hS⟩
   replace hq134 := iteF hg140 hq134
   refine WL.vS hS hE (runs_if hE rfl rfl rfl hg140) (Gives.fld hE rfl fl207_0) rfl fun a hE => ?_
   refine WL.vS hS hE (runs_if hE rfl rfl rfl hg140) (Gives.loadB hE 0 rfl rfl rfl ty3) rfl fun a hE => ?_
   refine WL.vS hS hE (runs_if hE rfl rfl rfl hg140) (Gives.fld hE rfl fl53_1) rfl fun a hE => ?_
   refine WL.vS hS hE (runs_if hE rfl rfl rfl hg140) (Gives.loadB hE 1 rfl rfl rfl ty48) rfl fun a hE => ?_
   refine WL.vS hS hE (runs_if hE rfl rfl rfl hg140) (Gives.len hE rfl sl48) rfl fun a hE => ?_
   refine WL.vS hS hE (runs_if hE rfl rfl rfl hg140) (Gives.p hE rfl) rfl fun a hE => ?_
   refine vP hS hE (Gives.pickF hE rfl hg140 rfl) rfl fun a hE => WL.nil ?_
   subst hK139
   exact ⟨decide (x120.Section ≥ ((x0.Sections).length : Int)), hq134, hE.pick _ ⟨rfl, rfl, rfl, rfl, rfl, rfl, rfl, trivial⟩, hS⟩
  clear hE hS a w; rintro a w ⟨q138, rfl, hE, hS⟩
  refine W.cond hE rfl (fun hc141 => ?_) (fun hc141 => ?_)
  ·replace hq117 := iteT hc141 hq117
   refine W.seq (W.region (vp hS hE rfl rfl fun a hE => WL.nil ?_))
   refine W.ret ?_
   subst hK128
   rw [← Option.some.inj hq117] at hr
   dsimp only at hr
   refine finG (fn := Tryz.f77) (rs := [.tmp 2]) (vs := [_]) hE rfl ⟨rfl, trivial⟩ ?_
   obtain rfl := Option.some.inj hr
   replace hS := hS.tail
   replace hS := hS.tail
   exact ⟨rfl, hS⟩
  replace hq117 := iteF hc141 hq117
  refine W.skip ?_
  refine W.seq ?_
  refine W.seq (W.region (vP hS hE (Gives.fld hE rfl fl53_1) rfl fun a hE => ?_))
  refine vP hS hE (Gives.loadB hE 1 rfl rfl rfl ty48) rfl fun a hE => ?_
  refine vP hS hE (Gives.fld hE rfl fl207_0) rfl fun a hE => ?_
  refine vP hS hE (Gives.loadB hE 0 rfl rfl rfl ty3) rfl fun a hE => ?_
  obtain ⟨x142, hx143, hq117⟩ := bindS hq117
  obtain ⟨hi144, hlt145, hy146⟩ := gx_some hx143
  obtain ⟨cs147, hl148, hR149, hat150⟩ := h0_1.at hy146
  subst hR149
  refine vP hS hE (Gives.idx hE (x120.Section).toNat rfl rfl sl48 hi144 hlt145 (h0_1.aok hlt145)) rfl fun a hE => ?_
  refine vP hS hE (Gives.fld hE rfl fl151_0) rfl fun a hE => ?_
  refine vP hS hE (Gives.load1 hE rfl (fun w h => (hat150 w _ h).one rfl) ty3) rfl fun a hE => ?_
  refine vp hS hE rfl rfl fun a hE => WL.nil ?_
  refine W.cond hE rfl (fun hc151 => ?_) (fun hc151 => ?_)
  ·replace hq117 := iteT hc151 hq117
   refine W.seq (W.region (vp hS hE rfl rfl fun a hE => WL.nil ?_))
   refine W.ret ?_
   subst hK128
   rw [← Option.some.inj hq117] at hr
   dsimp only at hr
   refine finG (fn := Tryz.f77) (rs := [.tmp 2]) (vs := [_]) hE rfl ⟨rfl, trivial⟩ ?_
   obtain rfl := Option.some.inj hr
   replace hS := hS.tail
   replace hS := hS.tail
   exact ⟨rfl, hS⟩
  replace hq117 := iteF hc151 hq117
  refine W.skip ?_
  refine W.seq ?_
  refine W.seq ?_
  obtain ⟨q153, hq152, hq117⟩ := bndS hq117
  refine W.cut (fun a w => ∃ (q156 : Bool), q156 = q153 ∧ Rep a 122 [(1, pp b51), (8, vi ((k119 : Nat) : Int)), (9, pp b133), (73, .slice a0_4 x0.Gates.length c0_4), (74, vi ((x0.Gates).length : Int)), (75, vi ((k119 : Nat) : Int)), (106, .bool q156)] ∧ St w s (pc b133 (ApiGate.cells x120).toArray 207 :: pc b51 #[.slice a0_0 x0.Stations.length c0_0, .slice a0_1 x0.Sections.length c0_1, .slice a0_2 x0.Links.length c0_2, .slice a0_3 x0.Signals.length c0_3, .slice a0_4 x0.Gates.length c0_4] 53 :: R)) ?_ ?_
  ·refine W.gen fun K157 hK157 => ?_
   refine W.region ?_
   refine vP hS hE (Gives.fld hE rfl fl207_1) rfl fun a hE => ?_
   refine vP hS hE (Gives.loadB hE 0 rfl rfl rfl ty3) rfl fun a hE => ?_
   refine v2 hS hE rfl rfl rfl rfl fun a hE => ?_
   rcases Bool.eq_false_or_eq_true (decide (x120.Close < 1)) with hg158 | hg158
   ·replace hq152 := iteT hg158 hq152
    refine nO hE rfl rfl rfl (by rw [hg158]; decide) rfl fun a hE => ?_
    refine nO hE rfl rfl rfl (by rw [hg158]; decide) rfl fun a hE => ?_
    refine nO hE rfl rfl rfl (by rw [hg158]; decide) rfl fun a hE => ?_
    refine vP hS hE (Gives.pickT hE rfl hg158 rfl) rfl fun a hE => WL.nil ?_
    subst hK157
    exact ⟨true, hq152, hE.pick _ ⟨rfl, rfl, rfl, rfl, rfl, rfl, rfl, trivial⟩, hS⟩
   replace hq152 := iteF hg158 hq152
   refine WL.vS hS hE (runs_if hE rfl rfl rfl hg158) (Gives.fld hE rfl fl207_1) rfl fun a hE => ?_
   refine WL.vS hS hE (runs_if hE rfl rfl rfl hg158) (Gives.loadB hE 0 rfl rfl rfl ty3) rfl fun a hE => ?_
   refine WL.vS hS hE (runs_if hE rfl rfl rfl hg158) (Gives.p hE rfl) rfl fun a hE => ?_
   refine vP hS hE (Gives.pickF hE rfl hg158 rfl) rfl fun a hE => WL.nil ?_
   subst hK157
   exact ⟨decide (x120.Close > 12), hq152, hE.pick _ ⟨rfl, rfl, rfl, rfl, rfl, rfl, rfl, trivial⟩, hS⟩
  clear hE hS a w; rintro a w ⟨q156, rfl, hE, hS⟩
  refine W.cond hE rfl (fun hc159 => ?_) (fun hc159 => ?_)
  ·replace hq117 := iteT hc159 hq117
   refine W.seq (W.region (vp hS hE rfl rfl fun a hE => WL.nil ?_))
   refine W.ret ?_
   subst hK128
   rw [← Option.some.inj hq117] at hr
   dsimp only at hr
   refine finG (fn := Tryz.f77) (rs := [.tmp 2]) (vs := [_]) hE rfl ⟨rfl, trivial⟩ ?_
   obtain rfl := Option.some.inj hr
   replace hS := hS.tail
   replace hS := hS.tail
   exact ⟨rfl, hS⟩
  replace hq117 := iteF hc159 hq117
  refine W.skip ?_
  refine W.seq ?_
  obtain ⟨q161, hq160, hq117⟩ := bindS hq117
  refine W.cut (fun a w => ∃ (q164 : Bool), q164 = q161 ∧ Rep a 122 [(1, pp b51), (73, .slice a0_4 x0.Gates.length c0_4), (74, vi ((x0.Gates).length : Int)), (75, vi ((k119 : Nat) : Int)), (120, .bool q164)] ∧ St w s (pc b133 (ApiGate.cells x120).toArray 207 :: pc b51 #[.slice a0_0 x0.Stations.length c0_0, .slice a0_1 x0.Sections.length c0_1, .slice a0_2 x0.Links.length c0_2, .slice a0_3 x0.Signals.length c0_3, .slice a0_4 x0.Gates.length c0_4] 53 :: R)) ?_ ?_
  ·refine W.gen fun K165 hK165 => ?_
   refine W.regionQ (C := fun w => St w s (pc b133 (ApiGate.cells x120).toArray 207 :: pc b51 #[.slice a0_0 x0.Stations.length c0_0, .slice a0_1 x0.Sections.length c0_1, .slice a0_2 x0.Links.length c0_2, .slice a0_3 x0.Signals.length c0_3, .slice a0_4 x0.Gates.length c0_4] 53 :: R)) mixed (by kernel_rfl) hS.drew ?_
   refine qP hE (Gives.p hE rfl) rfl fun a hE => ?_
   refine qP hE (Gives.p hE rfl) rfl fun a hE => ?_
   refine qP hE (Gives.p hE rfl) rfl fun a hE => ?_
   rcases Bool.eq_false_or_eq_true (decide (((k119 : Nat) : Int) > 0)) with hg166 | hg166
   ·replace hq160 := iteT hg166 hq160
    refine QL.v hE (runs_if hE rfl rfl rfl hg166) (Gives.fld hE rfl fl53_4) rfl fun a hE => ?_
    refine QL.v hE (runs_if hE rfl rfl rfl hg166) (Gives.loadB hE 1 rfl rfl rfl ty51) rfl fun a hE => ?_
    refine QL.v hE (runs_if hE rfl rfl rfl hg166) (Gives.p hE rfl) rfl fun a hE => ?_
    refine QL.v hE (runs_if hE rfl rfl rfl hg166) (Gives.p hE rfl) rfl fun a hE => ?_
    obtain ⟨x167, hx168, hq160⟩ := bindS hq160
    obtain ⟨hi169, hlt170, hy171⟩ := gx_some hx168
    obtain ⟨cs172, hl173, hR174, hat175⟩ := h0_4.at hy171
    subst hR174
    refine QL.v hE (runs_if hE rfl rfl rfl hg166) (Gives.idx hE (w64 (((k119 : Nat) : Int) - 1)).toNat rfl rfl sl51 hi169 hlt170 (h0_4.aok hlt170)) rfl fun a hE => ?_
    refine QL.v hE (runs_if hE rfl rfl rfl hg166) (Gives.fld hE rfl fl207_0) rfl fun a hE => ?_
    refine QL.v hE (runs_if hE rfl rfl rfl hg166) (Gives.load1 hE rfl (fun w h => (hat175 w _ h).one rfl) ty3) rfl fun a hE => ?_
    refine QL.v hE (runs_if hE rfl rfl rfl hg166) (Gives.fld hE rfl fl207_0) rfl fun a hE => ?_
    refine QL.v hE (runs_if hE rfl rfl rfl hg166) (Gives.loadB hE 0 rfl rfl rfl ty3) rfl fun a hE => ?_
    refine QL.v hE (runs_if hE rfl rfl rfl hg166) (Gives.p hE rfl) rfl fun a hE => ?_
    refine qP hE (Gives.pickT hE rfl hg166 rfl) rfl fun a hE => ?_
    refine QL.nil ?_; clear hS w; intro w hS
    subst hK165
    exact ⟨decide (x167.Section ≥ x120.Section), Option.some.inj hq160, hE.pick _ ⟨rfl, rfl, rfl, rfl, rfl, trivial⟩, hS⟩
   replace hq160 := iteF hg166 hq160
   refine QL.no hE (runs_not hE rfl rfl rfl (by rw [hg166]; decide)) rfl fun a hE => ?_
   refine QL.no hE (runs_not hE rfl rfl rfl (by rw [hg166]; decide)) rfl fun a hE => ?_
   refine QL.no hE (runs_not hE rfl rfl rfl (by rw [hg166]; decide)) rfl fun a hE => ?_
   refine QL.no hE (runs_not hE rfl rfl rfl (by rw [hg166]; decide)) rfl fun a hE => ?_
   refine QL.no hE (runs_not hE rfl rfl rfl (by rw [hg166]; decide)) rfl fun a hE => ?_
   refine QL.no hE (runs_not hE rfl rfl rfl (by rw [hg166]; decide)) rfl fun a hE => ?_
   refine QL.no hE (runs_not hE rfl rfl rfl (by rw [hg166]; decide)) rfl fun a hE => ?_
   refine QL.no hE (runs_not hE rfl rfl rfl (by rw [hg166]; decide)) rfl fun a hE => ?_
   refine QL.no hE (runs_not hE rfl rfl rfl (by rw [hg166]; decide)) rfl fun a hE => ?_
   refine QL.no hE (runs_not hE rfl rfl rfl (by rw [hg166]; decide)) rfl fun a hE => ?_
   refine qP hE (Gives.pickF hE rfl hg166 rfl) rfl fun a hE => ?_
   refine QL.nil ?_; clear hS w; intro w hS
   subst hK165
   exact ⟨false, Option.some.inj hq160, hE.pick _ ⟨rfl, rfl, rfl, rfl, rfl, trivial⟩, hS⟩
  clear hE hS a w; rintro a w ⟨q164, rfl, hE, hS⟩
  refine W.cond hE rfl (fun hc176 => ?_) (fun hc176 => ?_)
  ·replace hq117 := iteT hc176 hq117
   refine W.seq (W.region (vp hS hE rfl rfl fun a hE => WL.nil ?_))
   refine W.ret ?_
   subst hK128
   rw [← Option.some.inj hq117] at hr
   dsimp only at hr
   refine finG (fn := Tryz.f77) (rs := [.tmp 2]) (vs := [_]) hE rfl ⟨rfl, trivial⟩ ?_
   obtain rfl := Option.some.inj hr
   replace hS := hS.tail
   replace hS := hS.tail
   exact ⟨rfl, hS⟩
  replace hq117 := iteF hc176 hq117
  refine W.skip ?_
  refine W.region ?_
  refine vP hS hE (Gives.inc hE rfl (by have := h0_4.small; omega)) rfl fun a hE => ?_
  refine vp hS hE rfl rfl fun a hE => WL.nil ?_
  replace hS := hS.tail
  subst hK128
  exact ⟨rest121.length, Nat.lt_succ_self _, rest121, k119 + 1, rfl, hd122, hq117, hE.pick _ ⟨rfl, rfl, rfl, rfl, trivial⟩, hS⟩
 clear hE hS a w; rintro a w ⟨rfl, hE, hS⟩
 dsimp only at hr
 refine W.seq (W.region (vp hS hE rfl rfl fun a hE => WL.nil ?_))
 refine W.ret ?_
 refine finG (fn := Tryz.f77) (rs := [.tmp 2]) (vs := [_]) hE rfl ⟨rfl, trivial⟩ ?_
 obtain rfl := Option.some.inj hr
 replace hS := hS.tail
 exact ⟨rfl, hS⟩
set_option maxHeartbeats 8000000 in
theorem Fishref1CheckNet_ok {fu : Nat}  {w : World} {s : Sg} {R : List HP} {x0 : ApiNet} {a0_0 : Option Addr} {c0_0 : Nat} {a0_1 : Option Addr} {c0_1 : Nat} {a0_2 : Option Addr} {c0_2 : Nat} {a0_3 : Option Addr} {c0_3 : Nat} {a0_4 : Option Addr} {c0_4 : Nat} (hS : St w s (R)) (h0_0 : Sl 1 RS s a0_0 c0_0 x0.Stations) (h0_1 : Sl 7 RApiSection s a0_1 c0_1 x0.Sections) (h0_2 : Sl 4 RApiLink s a0_2 c0_2 x0.Links) (h0_3 : Sl 2 RApiSignal s a0_3 c0_3 x0.Signals) (h0_4 : Sl 2 RApiGate s a0_4 c0_4 x0.Gates) {r : Int} (hr : Fishref1CheckNet fu x0 = some r) :
  Calls Tryz.prog 19 [.agg (List.toArray [.slice a0_0 x0.Stations.length c0_0, .slice a0_1 x0.Sections.length c0_1, .slice a0_2 x0.Links.length c0_2, .slice a0_3 x0.Signals.length c0_3, .slice a0_4 x0.Gates.length c0_4])].toArray w (fun e w => e = .returned (vi r) ∧ St w s (R)) := by
 refine enter Tryz.func19 rfl rfl rfl fun a hE => ?_
 rw [Fishref1CheckNet] at hr
 refine W.seq (W.region ?_)
 refine WL.box hE hS (runs_plain rfl) rfl rfl rfl ?_; clear hE hS a w; intro b51 a w hE hS
 refine vp hS hE rfl rfl fun a hE => WL.nil ?_
 refine W.seq ?_
 refine W.seq (W.region (vP hS hE (Gives.fld hE rfl fl53_1) rfl fun a hE => ?_))
 refine vP hS hE (Gives.loadB hE 0 rfl rfl rfl ty48) rfl fun a hE => ?_
 refine vP hS hE (Gives.len hE rfl sl48) rfl fun a hE => ?_
 refine vp hS hE rfl rfl fun a hE => WL.nil ?_
 refine W.cond hE rfl (fun hc52 => ?_) (fun hc52 => ?_)
 ·replace hr := iteT hc52 hr
  refine W.seq (W.region (vp hS hE rfl rfl fun a hE => WL.nil ?_))
  refine W.ret ?_
  refine finG (fn := Tryz.f19) (rs := [.tmp 2]) (vs := [_]) hE rfl ⟨rfl, trivial⟩ ?_
  obtain rfl := Option.some.inj hr
  replace hS := hS.tail
  exact ⟨rfl, hS⟩
 replace hr := iteF hc52 hr
 refine W.skip ?_
 refine W.seq ?_
 refine W.seq ?_
 obtain ⟨q54, hq53, hr⟩ := bndS hr
 refine W.cut (fun a w => ∃ (q57 : Bool), q57 = q54 ∧ Rep a 100 [(1, pp b51), (43, .bool q57)] ∧ St w s (pc b51 #[.slice a0_0 x0.Stations.length c0_0, .slice a0_1 x0.Sections.length c0_1, .slice a0_2 x0.Links.length c0_2, .slice a0_3 x0.Signals.length c0_3, .slice a0_4 x0.Gates.length c0_4] 53 :: R)) ?_ ?_
 ·refine W.gen fun K58 hK58 => ?_
  refine W.region ?_
  refine vP hS hE (Gives.fld hE rfl fl53_0) rfl fun a hE => ?_
  refine vP hS hE (Gives.loadB hE 0 rfl rfl rfl ty47) rfl fun a hE => ?_
  refine vP hS hE (Gives.len hE rfl sl47) rfl fun a hE => ?_
  refine v2 hS hE rfl rfl rfl rfl fun a hE => ?_
  rcases Bool.eq_false_or_eq_true (decide (((x0.Stations).length : Int) > 12)) with hg59 | hg59
  ·replace hq53 := iteT hg59 hq53
   refine nO hE rfl rfl rfl (by rw [hg59]; decide) rfl fun a hE => ?_
   refine nO hE rfl rfl rfl (by rw [hg59]; decide) rfl fun a hE => ?_
   refine nO hE rfl rfl rfl (by rw [hg59]; decide) rfl fun a hE => ?_
   refine nO hE rfl rfl rfl (by rw [hg59]; decide) rfl fun a hE => ?_
   refine vP hS hE (Gives.pickT hE rfl hg59 rfl) rfl fun a hE => ?_
   refine vp hS hE rfl rfl fun a hE => ?_
   refine nO hE rfl rfl rfl (by decide) rfl fun a hE => ?_
   refine nO hE rfl rfl rfl (by decide) rfl fun a hE => ?_
   refine nO hE rfl rfl rfl (by decide) rfl fun a hE => ?_
   refine nO hE rfl rfl rfl (by decide) rfl fun a hE => ?_
   refine vP hS hE (Gives.pickT hE rfl rfl rfl) rfl fun a hE => ?_
   refine vp hS hE rfl rfl fun a hE => ?_
   refine nO hE rfl rfl rfl (by decide) rfl fun a hE => ?_
   refine nO hE rfl rfl rfl (by decide) rfl fun a hE => ?_
   refine nO hE rfl rfl rfl (by decide) rfl fun a hE => ?_
   refine nO hE rfl rfl rfl (by decide) rfl fun a hE => ?_
   refine vP hS hE (Gives.pickT hE rfl rfl rfl) rfl fun a hE => ?_
   refine vp hS hE rfl rfl fun a hE => ?_
   refine nO hE rfl rfl rfl (by decide) rfl fun a hE => ?_
   refine nO hE rfl rfl rfl (by decide) rfl fun a hE => ?_
   refine nO hE rfl rfl rfl (by decide) rfl fun a hE => ?_
   refine nO hE rfl rfl rfl (by decide) rfl fun a hE => ?_
   refine vP hS hE (Gives.pickT hE rfl rfl rfl) rfl fun a hE => WL.nil ?_
   subst hK58
   exact ⟨true, hq53, hE.pick _ ⟨rfl, rfl, trivial⟩, hS⟩
  replace hq53 := iteF hg59 hq53
  refine WL.vS hS hE (runs_if hE rfl rfl rfl hg59) (Gives.fld hE rfl fl53_1) rfl fun a hE => ?_
  refine WL.vS hS hE (runs_if hE rfl rfl rfl hg59) (Gives.loadB hE 0 rfl rfl rfl ty48) rfl fun a hE => ?_
  refine WL.vS hS hE (runs_if hE rfl rfl rfl hg59) (Gives.len hE rfl sl48) rfl fun a hE => ?_
  refine WL.vS hS hE (runs_if hE rfl rfl rfl hg59) (Gives.p hE rfl) rfl fun a hE => ?_
  refine vP hS hE (Gives.pickF hE rfl hg59 rfl) rfl fun a hE => ?_
  refine vp hS hE rfl rfl fun a hE => ?_
  rcases Bool.eq_false_or_eq_true (decide (((x0.Sections).length : Int) > 60)) with hg60 | hg60
  ·replace hq53 := iteT hg60 hq53
   refine nO hE rfl rfl rfl (by rw [hg60]; decide) rfl fun a hE => ?_
   refine nO hE rfl rfl rfl (by rw [hg60]; decide) rfl fun a hE => ?_
   refine nO hE rfl rfl rfl (by rw [hg60]; decide) rfl fun a hE => ?_
   refine nO hE rfl rfl rfl (by rw [hg60]; decide) rfl fun a hE => ?_
   refine vP hS hE (Gives.pickT hE rfl hg60 rfl) rfl fun a hE => ?_
   refine vp hS hE rfl rfl fun a hE => ?_
   refine nO hE rfl rfl rfl (by decide) rfl fun a hE => ?_
   refine nO hE rfl rfl rfl (by decide) rfl fun a hE => ?_
   refine nO hE rfl rfl rfl (by decide) rfl fun a hE => ?_
   refine nO hE rfl rfl rfl (by decide) rfl fun a hE => ?_
   refine vP hS hE (Gives.pickT hE rfl rfl rfl) rfl fun a hE => ?_
   refine vp hS hE rfl rfl fun a hE => ?_
   refine nO hE rfl rfl rfl (by decide) rfl fun a hE => ?_
   refine nO hE rfl rfl rfl (by decide) rfl fun a hE => ?_
   refine nO hE rfl rfl rfl (by decide) rfl fun a hE => ?_
   refine nO hE rfl rfl rfl (by decide) rfl fun a hE => ?_
   refine vP hS hE (Gives.pickT hE rfl rfl rfl) rfl fun a hE => WL.nil ?_
   subst hK58
   exact ⟨true, hq53, hE.pick _ ⟨rfl, rfl, trivial⟩, hS⟩
  replace hq53 := iteF hg60 hq53
  refine WL.vS hS hE (runs_if hE rfl rfl rfl hg60) (Gives.fld hE rfl fl53_2) rfl fun a hE => ?_
  refine WL.vS hS hE (runs_if hE rfl rfl rfl hg60) (Gives.loadB hE 0 rfl rfl rfl ty49) rfl fun a hE => ?_
  refine WL.vS hS hE (runs_if hE rfl rfl rfl hg60) (Gives.len hE rfl sl49) rfl fun a hE => ?_
  refine WL.vS hS hE (runs_if hE rfl rfl rfl hg60) (Gives.p hE rfl) rfl fun a hE => ?_
  refine vP hS hE (Gives.pickF hE rfl hg60 rfl) rfl fun a hE => ?_
  refine vp hS hE rfl rfl fun a hE => ?_
  rcases Bool.eq_false_or_eq_true (decide (((x0.Links).length : Int) > 90)) with hg61 | hg61
  ·replace hq53 := iteT hg61 hq53
   refine nO hE rfl rfl rfl (by rw [hg61]; decide) rfl fun a hE => ?_
   refine nO hE rfl rfl rfl (by rw [hg61]; decide) rfl fun a hE => ?_
   refine nO hE rfl rfl rfl (by rw [hg61]; decide) rfl fun a hE => ?_
   refine nO hE rfl rfl rfl (by rw [hg61]; decide) rfl fun a hE => ?_
   refine vP hS hE (Gives.pickT hE rfl hg61 rfl) rfl fun a hE => ?_
   refine vp hS hE rfl rfl fun a hE => ?_
   refine nO hE rfl rfl rfl (by decide) rfl fun a hE => ?_
   refine nO hE rfl rfl rfl (by decide) rfl fun a hE => ?_
   refine nO hE rfl rfl rfl (by decide) rfl fun a hE => ?_
   refine nO hE rfl rfl rfl (by decide) rfl fun a hE => ?_
   refine vP hS hE (Gives.pickT hE rfl rfl rfl) rfl fun a hE => WL.nil ?_
   subst hK58
   exact ⟨true, hq53, hE.pick _ ⟨rfl, rfl, trivial⟩, hS⟩
  replace hq53 := iteF hg61 hq53
  refine WL.vS hS hE (runs_if hE rfl rfl rfl hg61) (Gives.fld hE rfl fl53_3) rfl fun a hE => ?_
  refine WL.vS hS hE (runs_if hE rfl rfl rfl hg61) (Gives.loadB hE 0 rfl rfl rfl ty50) rfl fun a hE => ?_
  refine WL.vS hS hE (runs_if hE rfl rfl rfl hg61) (Gives.len hE rfl sl50) rfl fun a hE => ?_
  refine WL.vS hS hE (runs_if hE rfl rfl rfl hg61) (Gives.p hE rfl) rfl fun a hE => ?_
  refine vP hS hE (Gives.pickF hE rfl hg61 rfl) rfl fun a hE => ?_
  refine vp hS hE rfl rfl fun a hE => ?_
  rcases Bool.eq_false_or_eq_true (decide (((x0.Signals).length : Int) > 40)) with hg62 | hg62
  ·replace hq53 := iteT hg62 hq53
   refine nO hE rfl rfl rfl (by rw [hg62]; decide) rfl fun a hE => ?_
   refine nO hE rfl rfl rfl (by rw [hg62]; decide) rfl fun a hE => ?_
   refine nO hE rfl rfl rfl (by rw [hg62]; decide) rfl fun a hE => ?_
   refine nO hE rfl rfl rfl (by rw [hg62]; decide) rfl fun a hE => ?_
   refine vP hS hE (Gives.pickT hE rfl hg62 rfl) rfl fun a hE => WL.nil ?_
   subst hK58
   exact ⟨true, hq53, hE.pick _ ⟨rfl, rfl, trivial⟩, hS⟩
  replace hq53 := iteF hg62 hq53
  refine WL.vS hS hE (runs_if hE rfl rfl rfl hg62) (Gives.fld hE rfl fl53_4) rfl fun a hE => ?_
  refine WL.vS hS hE (runs_if hE rfl rfl rfl hg62) (Gives.loadB hE 0 rfl rfl rfl ty51) rfl fun a hE => ?_
  refine WL.vS hS hE (runs_if hE rfl rfl rfl hg62) (Gives.len hE rfl sl51) rfl fun a hE => ?_
  refine WL.vS hS hE (runs_if hE rfl rfl rfl hg62) (Gives.p hE rfl) rfl fun a hE => ?_
  refine vP hS hE (Gives.pickF hE rfl hg62 rfl) rfl fun a hE => WL.nil ?_
  subst hK58
  exact ⟨decide (((x0.Gates).length : Int) > 8), hq53, hE.pick _ ⟨rfl, rfl, trivial⟩, hS⟩
 clear hE hS a w; rintro a w ⟨q57, rfl, hE, hS⟩
 refine W.cond hE rfl (fun hc63 => ?_) (fun hc63 => ?_)
 ·replace hr := iteT hc63 hr
  refine W.seq (W.region (vp hS hE rfl rfl fun a hE => WL.nil ?_))
  refine W.ret ?_
  refine finG (fn := Tryz.f19) (rs := [.tmp 2]) (vs := [_]) hE rfl ⟨rfl, trivial⟩ ?_
  obtain rfl := Option.some.inj hr
  replace hS := hS.tail
  exact ⟨rfl, hS⟩
 replace hr := iteF hc63 hr
 refine W.skip ?_
 refine W.seq ?_
 refine W.seq (W.region (vP hS hE (Gives.fld hE rfl fl53_0) rfl fun a hE => ?_))
 refine vP hS hE (Gives.loadB hE 0 rfl rfl rfl ty47) rfl fun a hE => ?_
 refine vP hS hE (Gives.len hE rfl sl47) rfl fun a hE => ?_
 refine vp hS hE rfl rfl fun a hE => WL.nil ?_
 obtain ⟨q65, hq64, hr⟩ := bindS hr
 refine W.cut (fun a w => (.next ()) = q65 ∧ Rep a 100 [(1, pp b51)] ∧ St w s (pc b51 #[.slice a0_0 x0.Stations.length c0_0, .slice a0_1 x0.Sections.length c0_1, .slice a0_2 x0.Links.length c0_2, .slice a0_3 x0.Signals.length c0_3, .slice a0_4 x0.Gates.length c0_4] 53 :: R)) ?_ ?_
 ·refine W.block ?_
  refine W.loop (fun m a w => ∃ (rest68 : List ByteArray) (k66 : Nat), rest68.length = m ∧ x0.Stations.drop k66 = rest68 ∧ Fishref1CheckNet.loop1 x0 fu rest68 k66 = some q65 ∧ Rep a 100 [(1, pp b51), (45, .slice a0_0 x0.Stations.length c0_0), (46, vi ((x0.Stations).length : Int)), (47, vi ((k66 : Nat) : Int))] ∧ St w s (pc b51 #[.slice a0_0 x0.Stations.length c0_0, .slice a0_1 x0.Sections.length c0_1, .slice a0_2 x0.Links.length c0_2, .slice a0_3 x0.Signals.length c0_3, .slice a0_4 x0.Gates.length c0_4] 53 :: R)) (m := x0.Stations.length) ⟨x0.Stations, 0, rfl, rfl, hq64, hE.pick _ ⟨rfl, rfl, rfl, rfl, trivial⟩, hS⟩ ?_
  clear hE hS a w hq64; rintro m72 a w ⟨rest68, k66, rfl, hd69, hq64, hE, hS⟩
  refine W.gen fun K75 hK75 => ?_
  rcases rest68 with _ | ⟨x67, rest68⟩
  ·have hlt70 := drop_nil hd69
   refine W.seq (W.region (vp hS hE rfl rfl fun a hE => WL.nil ?_))
   refine W.seq ?_
   refine W.condF hE rfl (decide_eq_false (by omega)) ?_
   subst hK75
   refine W.exit rfl ?_
   exact ⟨Option.some.inj hq64, hE.pick _ ⟨rfl, trivial⟩, hS⟩
  obtain ⟨hlt70, hx71, hd69⟩ := drop_cons hd69
  rw [Fishref1CheckNet.loop1] at hq64
  refine W.seq (W.region (vp hS hE rfl rfl fun a hE => WL.nil ?_))
  refine W.seq ?_
  refine W.condT hE rfl (decide_eq_true (by omega)) ?_
  refine W.skip ?_
  refine W.seq ?_
  refine W.block ?_
  refine W.seq (W.region (vp hS hE rfl rfl fun a hE => ?_))
  obtain ⟨cs76, hl77, hR78, hat79⟩ := h0_0.at hx71
  subst hR78
  refine vP hS hE (Gives.idx hE k66 rfl rfl sl47 rfl hlt70 (h0_0.aok hlt70)) rfl fun a hE => ?_
  refine vP hS hE (Gives.load1 hE rfl (fun w h => hat79 w _ h) ty9) rfl fun a hE => ?_
  refine v2 hS hE rfl rfl rfl rfl fun a hE => WL.nil ?_
  refine W.seq ?_
  refine W.seq (W.region (vp hS hE rfl rfl fun a hE => ?_))
  obtain ⟨q80, hq81, hq64⟩ := bindS hq64
  have hc_ := Fishref1name_ok hS  hq81
  refine WL.fnq hE (hc_) (runs_plain rfl) bd74 rfl rfl rfl ?_
  clear hE hS hc_; rintro e w ⟨rfl, hS⟩; refine ⟨_, rfl, ?_⟩; clear a; intro a hE
  refine vp hS hE rfl rfl fun a hE => WL.nil ?_
  refine W.cond hE rfl (fun hc82 => ?_) (fun hc82 => ?_)
  ·replace hq64 := iteT hc82 hq64
   refine W.seq (W.region (vp hS hE rfl rfl fun a hE => WL.nil ?_))
   refine W.ret ?_
   subst hK75
   rw [← Option.some.inj hq64] at hr
   dsimp only at hr
   refine finG (fn := Tryz.f19) (rs := [.tmp 2]) (vs := [_]) hE rfl ⟨rfl, trivial⟩ ?_
   obtain rfl := Option.some.inj hr
   replace hS := hS.tail
   exact ⟨rfl, hS⟩
  replace hq64 := iteF hc82 hq64
  refine W.skip ?_
  refine W.seq (W.region (vP hS hE (Gives.fld hE rfl fl53_0) rfl fun a hE => ?_))
  refine vP hS hE (Gives.loadB hE 0 rfl rfl rfl ty47) rfl fun a hE => ?_
  refine vp hS hE rfl rfl fun a hE => ?_
  obtain ⟨x83, hx84, hq64⟩ := bindS hq64
  obtain ⟨a85, c86, heq87, h88⟩ := h0_0.cut hx84
  obtain ⟨h89, h90, h91, _⟩ := cutl_some hx84
  refine vP hS hE (Gives.slH hE sl47 rfl rfl h90 (Int.le_trans h91 (by have := h0_0.len; omega)) heq87) rfl fun a hE => ?_
  refine vP hS hE (Gives.len hE rfl sl47) rfl fun a hE => ?_
  refine vp hS hE rfl rfl fun a hE => WL.nil ?_
  obtain ⟨q93, hq92, hq64⟩ := bndS hq64
  refine W.cut (fun a w => (.next ()) = q93 ∧ Rep a 100 [(1, pp b51), (45, .slice a0_0 x0.Stations.length c0_0), (46, vi ((x0.Stations).length : Int)), (47, vi ((k66 : Nat) : Int))] ∧ St w s (pc b51 #[.slice a0_0 x0.Stations.length c0_0, .slice a0_1 x0.Sections.length c0_1, .slice a0_2 x0.Links.length c0_2, .slice a0_3 x0.Signals.length c0_3, .slice a0_4 x0.Gates.length c0_4] 53 :: R)) ?_ ?_
  ·refine W.block ?_
   refine W.loop (fun m a w => ∃ (rest96 : List ByteArray) (k94 : Nat), rest96.length = m ∧ x83.drop k94 = rest96 ∧ Fishref1CheckNet.loop2 x67 rest96 = q93 ∧ Rep a 100 [(1, pp b51), (4, .string x67), (45, .slice a0_0 x0.Stations.length c0_0), (46, vi ((x0.Stations).length : Int)), (47, vi ((k66 : Nat) : Int)), (58, .slice a85 x83.length c86), (59, vi ((x83).length : Int)), (60, vi ((k94 : Nat) : Int))] ∧ St w s (pc b51 #[.slice a0_0 x0.Stations.length c0_0, .slice a0_1 x0.Sections.length c0_1, .slice a0_2 x0.Links.length c0_2, .slice a0_3 x0.Signals.length c0_3, .slice a0_4 x0.Gates.length c0_4] 53 :: R)) (m := x83.length) ⟨x83, 0, rfl, rfl, hq92, hE.pick _ ⟨rfl, rfl, rfl, rfl, rfl, rfl, rfl, rfl, trivial⟩, hS⟩ ?_
   clear hE hS a w hq92; rintro m100 a w ⟨rest96, k94, rfl, hd97, hq92, hE, hS⟩
   refine W.gen fun K103 hK103 => ?_
   rcases rest96 with _ | ⟨x95, rest96⟩
   ·have hlt98 := drop_nil hd97
    refine W.seq (W.region (vp hS hE rfl rfl fun a hE => WL.nil ?_))
    refine W.seq ?_
    refine W.condF hE rfl (decide_eq_false (by omega)) ?_
    subst hK103
    refine W.exit rfl ?_
    exact ⟨hq92, hE.pick _ ⟨rfl, rfl, rfl, rfl, trivial⟩, hS⟩
   obtain ⟨hlt98, hx99, hd97⟩ := drop_cons hd97
   rw [Fishref1CheckNet.loop2] at hq92
   refine W.seq (W.region (vp hS hE rfl rfl fun a hE => WL.nil ?_))
   refine W.seq ?_
   refine W.condT hE rfl (decide_eq_true (by omega)) ?_
   refine W.skip ?_
   refine W.seq ?_
   refine W.block ?_
   refine W.seq (W.region ?_)
   obtain ⟨cs104, hl105, hR106, hat107⟩ := h88.at hx99
   subst hR106
   refine vP hS hE (Gives.idx hE k94 rfl rfl sl47 rfl hlt98 (h88.aok hlt98)) rfl fun a hE => ?_
   refine vP hS hE (Gives.load1 hE rfl (fun w h => hat107 w _ h) ty9) rfl fun a hE => ?_
   refine vp hS hE rfl rfl fun a hE => WL.nil ?_
   refine W.seq (W.region (v2 hS hE rfl rfl rfl rfl fun a hE => ?_))
   refine vP hS hE (Gives.eqSt hE rfl rfl) rfl fun a hE => WL.nil ?_
   refine W.cond hE rfl (fun hc108 => ?_) (fun hc108 => ?_)
   ·replace hq92 := iteT hc108 hq92
    refine W.seq (W.region (vp hS hE rfl rfl fun a hE => WL.nil ?_))
    refine W.ret ?_
    subst hK103
    subst hK75
    rw [← hq92] at hq64
    dsimp only at hq64
    rw [← Option.some.inj hq64] at hr
    dsimp only at hr
    refine finG (fn := Tryz.f19) (rs := [.tmp 2]) (vs := [_]) hE rfl ⟨rfl, trivial⟩ ?_
    obtain rfl := Option.some.inj hr
    replace hS := hS.tail
    exact ⟨rfl, hS⟩
   replace hq92 := iteF hc108 hq92
   refine W.skip ?_
   refine W.region ?_
   refine vP hS hE (Gives.inc hE rfl (by have := h88.small; omega)) rfl fun a hE => ?_
   refine vp hS hE rfl rfl fun a hE => WL.nil ?_
   subst hK103
   exact ⟨rest96.length, Nat.lt_succ_self _, rest96, k94 + 1, rfl, hd97, hq92, hE.pick _ ⟨rfl, rfl, rfl, rfl, rfl, rfl, rfl, rfl, trivial⟩, hS⟩
  clear hE hS a w; rintro a w ⟨rfl, hE, hS⟩
  dsimp only at hq64
  refine W.region ?_
  refine vP hS hE (Gives.inc hE rfl (by have := h0_0.small; omega)) rfl fun a hE => ?_
  refine vp hS hE rfl rfl fun a hE => WL.nil ?_
  subst hK75
  exact ⟨rest68.length, Nat.lt_succ_self _, rest68, k66 + 1, rfl, hd69, hq64, hE.pick _ ⟨rfl, rfl, rfl, rfl, trivial⟩, hS⟩
 clear hE hS a w; rintro a w ⟨rfl, hE, hS⟩
 dsimp only at hr
 refine W.seq ?_
 refine W.seq (W.region (vP hS hE (Gives.fld hE rfl fl53_1) rfl fun a hE => ?_))
 refine vP hS hE (Gives.loadB hE 0 rfl rfl rfl ty48) rfl fun a hE => ?_
 refine vP hS hE (Gives.len hE rfl sl48) rfl fun a hE => ?_
 refine vp hS hE rfl rfl fun a hE => WL.nil ?_
 obtain ⟨q110, hq109, hr⟩ := bndS hr
 refine W.cut (fun a w => (.next ()) = q110 ∧ Rep a 100 [(1, pp b51)] ∧ St w s (pc b51 #[.slice a0_0 x0.Stations.length c0_0, .slice a0_1 x0.Sections.length c0_1, .slice a0_2 x0.Links.length c0_2, .slice a0_3 x0.Signals.length c0_3, .slice a0_4 x0.Gates.length c0_4] 53 :: R)) ?_ ?_
 ·refine W.block ?_
  refine W.loop (fun m a w => ∃ (rest113 : List ApiSection) (k111 : Nat), rest113.length = m ∧ x0.Sections.drop k111 = rest113 ∧ Fishref1CheckNet.loop3 x0 rest113 = q110 ∧ Rep a 100 [(1, pp b51), (70, .slice a0_1 x0.Sections.length c0_1), (71, vi ((x0.Sections).length : Int)), (72, vi ((k111 : Nat) : Int))] ∧ St w s (pc b51 #[.slice a0_0 x0.Stations.length c0_0, .slice a0_1 x0.Sections.length c0_1, .slice a0_2 x0.Links.length c0_2, .slice a0_3 x0.Signals.length c0_3, .slice a0_4 x0.Gates.length c0_4] 53 :: R)) (m := x0.Sections.length) ⟨x0.Sections, 0, rfl, rfl, hq109, hE.pick _ ⟨rfl, rfl, rfl, rfl, trivial⟩, hS⟩ ?_
  clear hE hS a w hq109; rintro m117 a w ⟨rest113, k111, rfl, hd114, hq109, hE, hS⟩
  refine W.gen fun K120 hK120 => ?_
  rcases rest113 with _ | ⟨x112, rest113⟩
  ·have hlt115 := drop_nil hd114
   refine W.seq (W.region (vp hS hE rfl rfl fun a hE => WL.nil ?_))
   refine W.seq ?_
   refine W.condF hE rfl (decide_eq_false (by omega)) ?_
   subst hK120
   refine W.exit rfl ?_
   exact ⟨hq109, hE.pick _ ⟨rfl, trivial⟩, hS⟩
  obtain ⟨hlt115, hx116, hd114⟩ := drop_cons hd114
  rw [Fishref1CheckNet.loop3] at hq109
  refine W.seq (W.region (vp hS hE rfl rfl fun a hE => WL.nil ?_))
  refine W.seq ?_
  refine W.condT hE rfl (decide_eq_true (by omega)) ?_
  refine W.skip ?_
  refine W.seq ?_
  refine W.block ?_
  refine W.seq (W.region ?_)
  obtain ⟨cs121, hl122, hR123, hat124⟩ := h0_1.at hx116
  subst hR123
  refine vP hS hE (Gives.idx hE k111 rfl rfl sl48 rfl hlt115 (h0_1.aok hlt115)) rfl fun a hE => ?_
  refine vP hS hE (Gives.loadA hE rfl (fun w h => hat124 w _ h) ty151) rfl fun a hE => ?_
  refine WL.alloc hE hS (runs_plain rfl) zr151 rfl ?_; clear hE hS a w; intro b125 a w hE hS
  refine WL.storeI hE hS 0 rfl (ApiSection.cells x112) (runs_plain rfl) rfl rfl rfl ty151 rfl rfl rfl rfl ?_; clear hE hS a w; intro a w hE hS
  refine WL.nil ?_
  refine W.seq (W.region (vP hS hE (Gives.loadBA hE 0 rfl rfl ty151) rfl fun a hE => ?_))
  refine vP hS hE (Gives.fld hE rfl fl53_0) rfl fun a hE => ?_
  refine vP hS hE (Gives.loadB hE 1 rfl rfl rfl ty47) rfl fun a hE => ?_
  refine vP hS hE (Gives.len hE rfl sl47) rfl fun a hE => ?_
  refine WL.fnq hE (Fishref1checkSection_ok hS  rfl (r := Fishref1checkSection x112 ((x0.Stations).length : Int))) (runs_plain rfl) bd75 rfl rfl rfl ?_
  clear hE hS; rintro e w ⟨rfl, hS⟩; refine ⟨_, rfl, ?_⟩; clear a; intro a hE
  refine vp hS hE rfl rfl fun a hE => WL.nil ?_
  refine W.seq (W.region (v2 hS hE rfl rfl rfl rfl fun a hE => WL.nil ?_))
  refine W.cond hE rfl (fun hc126 => ?_) (fun hc126 => ?_)
  ·replace hq109 := iteT hc126 hq109
   refine W.seq (W.region (v2 hS hE rfl rfl rfl rfl fun a hE => WL.nil ?_))
   refine W.ret ?_
   subst hK120
   rw [← hq109] at hr
   dsimp only at hr
   refine finG (fn := Tryz.f19) (rs := [.tmp 2]) (vs := [_]) hE rfl ⟨rfl, trivial⟩ ?_
   obtain rfl := Option.some.inj hr
   replace hS := hS.tail
   replace hS := hS.tail
   exact ⟨rfl, hS⟩
  replace hq109 := iteF hc126 hq109
  refine W.skip ?_
  refine W.region ?_
  refine vP hS hE (Gives.inc hE rfl (by have := h0_1.small; omega)) rfl fun a hE => ?_
  refine vp hS hE rfl rfl fun a hE => WL.nil ?_
  replace hS := hS.tail
  subst hK120
  exact ⟨rest113.length, Nat.lt_succ_self _, rest113, k111 + 1, rfl, hd114, hq109, hE.pick _ ⟨rfl, rfl, rfl, rfl, trivial⟩, hS⟩
 clear hE hS a w; rintro a w ⟨rfl, hE, hS⟩
 dsimp only at hr
 refine W.seq ?_
 refine W.seq (W.region (vP hS hE (Gives.fld hE rfl fl53_2) rfl fun a hE => ?_))
 refine vP hS hE (Gives.loadB hE 0 rfl rfl rfl ty49) rfl fun a hE => ?_
 refine vP hS hE (Gives.len hE rfl sl49) rfl fun a hE => ?_
 refine vp hS hE rfl rfl fun a hE => WL.nil ?_
 obtain ⟨q128, hq127, hr⟩ := bindS hr
 refine W.cut (fun a w => (.next ()) = q128 ∧ Rep a 100 [(1, pp b51)] ∧ St w s (pc b51 #[.slice a0_0 x0.Stations.length c0_0, .slice a0_1 x0.Sections.length c0_1, .slice a0_2 x0.Links.length c0_2, .slice a0_3 x0.Signals.length c0_3, .slice a0_4 x0.Gates.length c0_4] 53 :: R)) ?_ ?_
 ·refine W.block ?_
  refine W.loop (fun m a w => ∃ (rest131 : List ApiLink) (k129 : Nat), rest131.length = m ∧ x0.Links.drop k129 = rest131 ∧ Fishref1CheckNet.loop4 x0 rest131 k129 = some q128 ∧ Rep a 100 [(1, pp b51), (87, vi ((x0.Links).length : Int)), (88, vi ((k129 : Nat) : Int))] ∧ St w s (pc b51 #[.slice a0_0 x0.Stations.length c0_0, .slice a0_1 x0.Sections.length c0_1, .slice a0_2 x0.Links.length c0_2, .slice a0_3 x0.Signals.length c0_3, .slice a0_4 x0.Gates.length c0_4] 53 :: R)) (m := x0.Links.length) ⟨x0.Links, 0, rfl, rfl, hq127, hE.pick _ ⟨rfl, rfl, rfl, trivial⟩, hS⟩ ?_
  clear hE hS a w hq127; rintro m135 a w ⟨rest131, k129, rfl, hd132, hq127, hE, hS⟩
  refine W.gen fun K138 hK138 => ?_
  rcases rest131 with _ | ⟨x130, rest131⟩
  ·have hlt133 := drop_nil hd132
   refine W.seq (W.region (vp hS hE rfl rfl fun a hE => WL.nil ?_))
   refine W.seq ?_
   refine W.condF hE rfl (decide_eq_false (by omega)) ?_
   subst hK138
   refine W.exit rfl ?_
   exact ⟨Option.some.inj hq127, hE.pick _ ⟨rfl, trivial⟩, hS⟩
  obtain ⟨hlt133, hx134, hd132⟩ := drop_cons hd132
  rw [Fishref1CheckNet.loop4] at hq127
  refine W.seq (W.region (vp hS hE rfl rfl fun a hE => WL.nil ?_))
  refine W.seq ?_
  refine W.condT hE rfl (decide_eq_true (by omega)) ?_
  refine W.skip ?_
  refine W.seq ?_
  refine W.block ?_
  refine W.seq (W.region (v2 hS hE rfl rfl rfl rfl fun a hE => WL.nil ?_))
  refine W.seq (W.region (vP hS hE (Gives.loadBA hE 0 rfl rfl ty53) rfl fun a hE => ?_))
  refine vp hS hE rfl rfl fun a hE => ?_
  obtain ⟨q139, hq140, hq127⟩ := bindS hq127
  have hc_ := Fishref1checkLink_ok hS h0_0 h0_1 h0_2 h0_3 h0_4 hq140
  refine WL.fnq hE (hc_) (runs_plain rfl) bd76 rfl rfl rfl ?_
  clear hE hS hc_; rintro e w ⟨rfl, hS⟩; refine ⟨_, rfl, ?_⟩; clear a; intro a hE
  refine vp hS hE rfl rfl fun a hE => WL.nil ?_
  refine W.seq (W.region (v2 hS hE rfl rfl rfl rfl fun a hE => WL.nil ?_))
  refine W.cond hE rfl (fun hc141 => ?_) (fun hc141 => ?_)
  ·replace hq127 := iteT hc141 hq127
   refine W.seq (W.region (v2 hS hE rfl rfl rfl rfl fun a hE => WL.nil ?_))
   refine W.ret ?_
   subst hK138
   rw [← Option.some.inj hq127] at hr
   dsimp only at hr
   refine finG (fn := Tryz.f19) (rs := [.tmp 2]) (vs := [_]) hE rfl ⟨rfl, trivial⟩ ?_
   obtain rfl := Option.some.inj hr
   replace hS := hS.tail
   exact ⟨rfl, hS⟩
  replace hq127 := iteF hc141 hq127
  refine W.skip ?_
  refine W.region ?_
  refine vP hS hE (Gives.inc hE rfl (by have := h0_2.small; omega)) rfl fun a hE => ?_
  refine vp hS hE rfl rfl fun a hE => WL.nil ?_
  subst hK138
  exact ⟨rest131.length, Nat.lt_succ_self _, rest131, k129 + 1, rfl, hd132, hq127, hE.pick _ ⟨rfl, rfl, rfl, trivial⟩, hS⟩
 clear hE hS a w; rintro a w ⟨rfl, hE, hS⟩
 dsimp only at hr
 refine W.seq (W.region (vP hS hE (Gives.loadBA hE 0 rfl rfl ty53) rfl fun a hE => ?_))
 obtain ⟨q142, hq143, hr⟩ := bindS hr
 have hc_ := Fishref1checkRest_ok hS h0_0 h0_1 h0_2 h0_3 h0_4 hq143
 refine WL.fnq hE (hc_) (runs_plain rfl) bd77 rfl rfl rfl ?_
 clear hE hS hc_; rintro e w ⟨rfl, hS⟩; refine ⟨_, rfl, ?_⟩; clear a; intro a hE
 refine vp hS hE rfl rfl fun a hE => WL.nil ?_
 refine W.ret ?_
 refine finG (fn := Tryz.f19) (rs := [.tmp 2]) (vs := [_]) hE rfl ⟨rfl, trivial⟩ ?_
 obtain rfl := Option.some.inj hr
 replace hS := hS.tail
 exact ⟨rfl, hS⟩
set_option maxHeartbeats 8000000 in
theorem Fishlaw2small_1_ok  {w : World} {s : Sg} {R : List HP} {x0 : Int} {x1 : Int} {x2 : Int} (hS : St w s (R))  {r : ApiStop} (hr : Fishlaw2small_1 x0 x1 x2 = r) :
  Calls Tryz.prog 102 [vi x0, vi x1, vi x2].toArray w (fun e w => ∃ (cs0 : List Value) (t : Sg), e = .returned (.agg cs0.toArray) ∧ s.Le t ∧ RApiStop t cs0 r ∧ St w t (R)) := by
 refine enter Tryz.func102 rfl rfl rfl fun a hE => ?_
 rw [Fishlaw2small_1] at hr
 refine W.seq (W.region ?_)
 refine WL.alloc hE hS (runs_plain rfl) zr99 rfl ?_; clear hE hS a w; intro b51 a w hE hS
 refine WL.nil ?_
 refine W.seq (W.region (v2 hS hE rfl rfl rfl rfl fun a hE => ?_))
 refine vp hS hE rfl rfl fun a hE => ?_
 refine vP hS hE (Gives.build hE (vs := [(0, vi x0), (2, vi x1), (3, vi x2)]) [vi x0, vi 0, vi x1, vi x2] rfl (by kernel_rfl)) rfl fun a hE => ?_
 refine WL.storeI hE hS 0 rfl [vi x0, vi 0, vi x1, vi x2] (runs_plain rfl) rfl rfl rfl ty99 rfl rfl rfl rfl ?_; clear hE hS a w; intro a w hE hS
 refine WL.nil ?_
 refine W.ret ?_
 refine finG (fn := Tryz.f102) (rs := [.cell 6 99]) (vs := [_]) hE rfl ⟨⟨_, rfl, .inl ⟨_, rfl, hS.seesAt 0 rfl, ty99⟩⟩, trivial⟩ ?_
 subst hr
 replace hS := hS.tail
 exact ⟨_, s, rfl, (Sg.Le.refl _), rfl, hS⟩
set_option maxHeartbeats 8000000 in
theorem Fishlaw2small_ok  {w : World} {s : Sg} {R : List HP}  (hS : St w s (R))  {r : ApiDay} (hr : Fishlaw2small = r) :
  Calls Tryz.prog 53 [].toArray w (fun e w => ∃ (cs0 : List Value) (t : Sg), e = .returned (.agg cs0.toArray) ∧ s.Le t ∧ RApiDay t cs0 r ∧ St w t (R)) := by
 refine enter Tryz.func53 rfl rfl rfl fun a hE => ?_
 rw [Fishlaw2small] at hr
 refine W.seq (W.region ?_)
 refine WL.alloc hE hS (runs_plain rfl) zr25 rfl ?_; clear hE hS a w; intro b51 a w hE hS
 refine WL.nil ?_
 refine W.seq (W.region (vp hS hE rfl rfl fun a hE => WL.nil ?_))
 refine W.seq (W.region (vp hS hE rfl rfl fun a hE => ?_))
 obtain ⟨q52, hq53, hr⟩ := bndS hr
 have hc_ := Fishlaw2small_1_ok hS  hq53
 refine WL.fnw hE (hc_) rfl (runs_plain rfl) bd102 rfl rfl rfl ?_
 clear hE hS hc_; rintro e w ⟨cs54, s56, rfl, hle57, h55, hS⟩; refine ⟨_, rfl, ?_⟩; clear a; intro a hE
 subst h55
 refine vp hS hE rfl rfl fun a hE => ?_
 obtain ⟨q58, hq59, hr⟩ := bndS hr
 have hc_ := Fishlaw2small_1_ok hS  hq59
 refine WL.fnw hE (hc_) rfl (runs_plain rfl) bd102 rfl rfl rfl ?_
 clear hE hS hc_; rintro e w ⟨cs60, s62, rfl, hle63, h61, hS⟩; refine ⟨_, rfl, ?_⟩; clear a; intro a hE
 subst h61
 refine vp hS hE rfl rfl fun a hE => ?_
 obtain ⟨q64, hq65, hr⟩ := bndS hr
 have hc_ := Fishlaw2small_1_ok hS  hq65
 refine WL.fnw hE (hc_) rfl (runs_plain rfl) bd102 rfl rfl rfl ?_
 clear hE hS hc_; rintro e w ⟨cs66, s68, rfl, hle69, h67, hS⟩; refine ⟨_, rfl, ?_⟩; clear a; intro a hE
 subst h67
 refine WL.lit hE hS (e := 99) (es := 4) (vs := [(0, .agg (ApiStop.cells q52).toArray), (1, .agg (ApiStop.cells q58).toArray), (2, .agg (ApiStop.cells q64).toArray)]) (cs := [vi q52.Station, vi q52.Track, vi q52.Arr, vi q52.Dep, vi q58.Station, vi q58.Track, vi q58.Arr, vi q58.Dep, vi q64.Station, vi q64.Track, vi q64.Arr, vi q64.Dep]) (runs_plain rfl) rfl (by kernel_rfl) rfl ?_; clear hE hS a w; intro b70 a w hE hS
 replace hS := hS.ptVec (es := 4) (m := 3) rfl (by decide)
 have h72 : Ev 4 RApiStop s68 [vi q52.Station, vi q52.Track, vi q52.Arr, vi q52.Dep, vi q58.Station, vi q58.Track, vi q58.Arr, vi q58.Dep, vi q64.Station, vi q64.Track, vi q64.Arr, vi q64.Dep] [q52, q58, q64] := (Ev.cons (c1 := [vi q52.Station, vi q52.Track, vi q52.Arr, vi q52.Dep]) rfl rfl (Ev.cons (c1 := [vi q58.Station, vi q58.Track, vi q58.Arr, vi q58.Dep]) rfl rfl (Ev.cons (c1 := [vi q64.Station, vi q64.Track, vi q64.Arr, vi q64.Dep]) rfl rfl (Ev.nil))))
 have hF := hS.fixD RApiStop.mono 0 rfl h72 (rfl); clear hS; obtain ⟨s73, hle74, hS, h75⟩ := hF
 refine WL.lit hE hS (e := 3) (es := 1) (vs := [(0, vi 0)]) (cs := [vi 0]) (runs_plain rfl) rfl (by kernel_rfl) rfl ?_; clear hE hS a w; intro b76 a w hE hS
 replace hS := hS.ptVec (es := 1) (m := 1) rfl (by decide)
 have h78 : Ev 1 (RI .i64) s73 [vi 0] [0] := (Ev.cons (c1 := [vi 0]) rfl rfl (Ev.nil))
 have hF := hS.fixD RI.mono 0 rfl h78 (rfl); clear hS; obtain ⟨s79, hle80, hS, h81⟩ := hF
 replace h75 := Sl.mono RApiStop.mono hle80 h75
 refine WL.lit hE hS (e := 3) (es := 1) (vs := [(0, vi 1)]) (cs := [vi 1]) (runs_plain rfl) rfl (by kernel_rfl) rfl ?_; clear hE hS a w; intro b82 a w hE hS
 replace hS := hS.ptVec (es := 1) (m := 1) rfl (by decide)
 have h84 : Ev 1 (RI .i64) s79 [vi 1] [1] := (Ev.cons (c1 := [vi 1]) rfl rfl (Ev.nil))
 have hF := hS.fixD RI.mono 0 rfl h84 (rfl); clear hS; obtain ⟨s85, hle86, hS, h87⟩ := hF
 replace h75 := Sl.mono RApiStop.mono hle86 h75
 replace h81 := Sl.mono RI.mono hle86 h81
 refine WL.lit hE hS (e := 65) (es := 1) (vs := [(0, .slice (some ⟨b76, 0, none⟩) 1 1), (1, .slice (some ⟨b82, 0, none⟩) 1 1)]) (cs := [.slice (some ⟨b76, 0, none⟩) 1 1, .slice (some ⟨b82, 0, none⟩) 1 1]) (runs_plain rfl) rfl (by kernel_rfl) rfl ?_; clear hE hS a w; intro b88 a w hE hS
 replace hS := hS.ptVec (es := 1) (m := 2) rfl (by decide)
 have h90 : Ev 1 (RL 1 (RI .i64)) s85 [.slice (some ⟨b76, 0, none⟩) 1 1, .slice (some ⟨b82, 0, none⟩) 1 1] [[0], [1]] := (Ev.cons (c1 := [.slice (some ⟨b76, 0, none⟩) 1 1]) ⟨_, _, rfl, h81⟩ rfl (Ev.cons (c1 := [.slice (some ⟨b82, 0, none⟩) 1 1]) ⟨_, _, rfl, h87⟩ rfl (Ev.nil)))
 have hF := hS.fixD (RL.mono RI.mono) 0 rfl h90 (rfl); clear hS; obtain ⟨s91, hle92, hS, h93⟩ := hF
 replace h75 := Sl.mono RApiStop.mono hle92 h75
 replace h81 := Sl.mono RI.mono hle92 h81
 replace h87 := Sl.mono RI.mono hle92 h87
 refine vP hS hE (Gives.build hE (vs := [(0, vi 1), (2, .slice (some ⟨b70, 0, none⟩) 3 3), (3, .slice (some ⟨b88, 0, none⟩) 2 2)]) [vi 1, vi 0, .slice (some ⟨b70, 0, none⟩) 3 3, .slice (some ⟨b88, 0, none⟩) 2 2] rfl (by kernel_rfl)) rfl fun a hE => ?_
 refine vp hS hE rfl rfl fun a hE => ?_
 obtain ⟨q94, hq95, hr⟩ := bndS hr
 have hc_ := Fishlaw2small_1_ok hS  hq95
 refine WL.fnw hE (hc_) rfl (runs_plain rfl) bd102 rfl rfl rfl ?_
 clear hE hS hc_; rintro e w ⟨cs96, s98, rfl, hle99, h97, hS⟩; refine ⟨_, rfl, ?_⟩; clear a; intro a hE
 replace h75 := Sl.mono RApiStop.mono hle99 h75
 replace h81 := Sl.mono RI.mono hle99 h81
 replace h87 := Sl.mono RI.mono hle99 h87
 replace h93 := Sl.mono (RL.mono RI.mono) hle99 h93
 subst h97
 refine vp hS hE rfl rfl fun a hE => ?_
 obtain ⟨q100, hq101, hr⟩ := bndS hr
 have hc_ := Fishlaw2small_1_ok hS  hq101
 refine WL.fnw hE (hc_) rfl (runs_plain rfl) bd102 rfl rfl rfl ?_
 clear hE hS hc_; rintro e w ⟨cs102, s104, rfl, hle105, h103, hS⟩; refine ⟨_, rfl, ?_⟩; clear a; intro a hE
 replace h75 := Sl.mono RApiStop.mono hle105 h75
 replace h81 := Sl.mono RI.mono hle105 h81
 replace h87 := Sl.mono RI.mono hle105 h87
 replace h93 := Sl.mono (RL.mono RI.mono) hle105 h93
 subst h103
 refine WL.lit hE hS (e := 99) (es := 4) (vs := [(0, .agg (ApiStop.cells q94).toArray), (1, .agg (ApiStop.cells q100).toArray)]) (cs := [vi q94.Station, vi q94.Track, vi q94.Arr, vi q94.Dep, vi q100.Station, vi q100.Track, vi q100.Arr, vi q100.Dep]) (runs_plain rfl) rfl (by kernel_rfl) rfl ?_; clear hE hS a w; intro b106 a w hE hS
 replace hS := hS.ptVec (es := 4) (m := 2) rfl (by decide)
 have h108 : Ev 4 RApiStop s104 [vi q94.Station, vi q94.Track, vi q94.Arr, vi q94.Dep, vi q100.Station, vi q100.Track, vi q100.Arr, vi q100.Dep] [q94, q100] := (Ev.cons (c1 := [vi q94.Station, vi q94.Track, vi q94.Arr, vi q94.Dep]) rfl rfl (Ev.cons (c1 := [vi q100.Station, vi q100.Track, vi q100.Arr, vi q100.Dep]) rfl rfl (Ev.nil)))
 have hF := hS.fixD RApiStop.mono 0 rfl h108 (rfl); clear hS; obtain ⟨s109, hle110, hS, h111⟩ := hF
 replace h75 := Sl.mono RApiStop.mono hle110 h75
 replace h81 := Sl.mono RI.mono hle110 h81
 replace h87 := Sl.mono RI.mono hle110 h87
 replace h93 := Sl.mono (RL.mono RI.mono) hle110 h93
 refine WL.lit hE hS (e := 3) (es := 1) (vs := [(0, vi 2)]) (cs := [vi 2]) (runs_plain rfl) rfl (by kernel_rfl) rfl ?_; clear hE hS a w; intro b112 a w hE hS
 replace hS := hS.ptVec (es := 1) (m := 1) rfl (by decide)
 have h114 : Ev 1 (RI .i64) s109 [vi 2] [2] := (Ev.cons (c1 := [vi 2]) rfl rfl (Ev.nil))
 have hF := hS.fixD RI.mono 0 rfl h114 (rfl); clear hS; obtain ⟨s115, hle116, hS, h117⟩ := hF
 replace h75 := Sl.mono RApiStop.mono hle116 h75
 replace h81 := Sl.mono RI.mono hle116 h81
 replace h87 := Sl.mono RI.mono hle116 h87
 replace h93 := Sl.mono (RL.mono RI.mono) hle116 h93
 replace h111 := Sl.mono RApiStop.mono hle116 h111
 refine WL.lit hE hS (e := 65) (es := 1) (vs := [(0, .slice (some ⟨b112, 0, none⟩) 1 1)]) (cs := [.slice (some ⟨b112, 0, none⟩) 1 1]) (runs_plain rfl) rfl (by kernel_rfl) rfl ?_; clear hE hS a w; intro b118 a w hE hS
 replace hS := hS.ptVec (es := 1) (m := 1) rfl (by decide)
 have h120 : Ev 1 (RL 1 (RI .i64)) s115 [.slice (some ⟨b112, 0, none⟩) 1 1] [[2]] := (Ev.cons (c1 := [.slice (some ⟨b112, 0, none⟩) 1 1]) ⟨_, _, rfl, h117⟩ rfl (Ev.nil))
 have hF := hS.fixD (RL.mono RI.mono) 0 rfl h120 (rfl); clear hS; obtain ⟨s121, hle122, hS, h123⟩ := hF
 replace h75 := Sl.mono RApiStop.mono hle122 h75
 replace h81 := Sl.mono RI.mono hle122 h81
 replace h87 := Sl.mono RI.mono hle122 h87
 replace h93 := Sl.mono (RL.mono RI.mono) hle122 h93
 replace h111 := Sl.mono RApiStop.mono hle122 h111
 replace h117 := Sl.mono RI.mono hle122 h117
 refine vP hS hE (Gives.build hE (vs := [(0, vi 2), (2, .slice (some ⟨b106, 0, none⟩) 2 2), (3, .slice (some ⟨b118, 0, none⟩) 1 1)]) [vi 2, vi 0, .slice (some ⟨b106, 0, none⟩) 2 2, .slice (some ⟨b118, 0, none⟩) 1 1] rfl (by kernel_rfl)) rfl fun a hE => ?_
 refine WL.lit hE hS (e := 111) (es := 4) (vs := [(0, .agg (List.toArray [vi 1, vi 0, .slice (some ⟨b70, 0, none⟩) 3 3, .slice (some ⟨b88, 0, none⟩) 2 2])), (1, .agg (List.toArray [vi 2, vi 0, .slice (some ⟨b106, 0, none⟩) 2 2, .slice (some ⟨b118, 0, none⟩) 1 1]))]) (cs := [vi 1, vi 0, .slice (some ⟨b70, 0, none⟩) 3 3, .slice (some ⟨b88, 0, none⟩) 2 2, vi 2, vi 0, .slice (some ⟨b106, 0, none⟩) 2 2, .slice (some ⟨b118, 0, none⟩) 1 1]) (runs_plain rfl) rfl (by kernel_rfl) rfl ?_; clear hE hS a w; intro b124 a w hE hS
 replace hS := hS.ptVec (es := 4) (m := 2) rfl (by decide)
 have h126 : Ev 4 RApiTrain s121 [vi 1, vi 0, .slice (some ⟨b70, 0, none⟩) 3 3, .slice (some ⟨b88, 0, none⟩) 2 2, vi 2, vi 0, .slice (some ⟨b106, 0, none⟩) 2 2, .slice (some ⟨b118, 0, none⟩) 1 1] [(ApiTrain.mk 1 0 [q52, q58, q64] [[0], [1]]), (ApiTrain.mk 2 0 [q94, q100] [[2]])] := (Ev.cons (c1 := [vi 1, vi 0, .slice (some ⟨b70, 0, none⟩) 3 3, .slice (some ⟨b88, 0, none⟩) 2 2]) ⟨_, _, _, _, rfl, h75, h93⟩ rfl (Ev.cons (c1 := [vi 2, vi 0, .slice (some ⟨b106, 0, none⟩) 2 2, .slice (some ⟨b118, 0, none⟩) 1 1]) ⟨_, _, _, _, rfl, h111, h123⟩ rfl (Ev.nil)))
 have hF := hS.fixD RApiTrain.mono 0 rfl h126 (rfl); clear hS; obtain ⟨s127, hle128, hS, h129⟩ := hF
 replace h75 := Sl.mono RApiStop.mono hle128 h75
 replace h81 := Sl.mono RI.mono hle128 h81
 replace h87 := Sl.mono RI.mono hle128 h87
 replace h93 := Sl.mono (RL.mono RI.mono) hle128 h93
 replace h111 := Sl.mono RApiStop.mono hle128 h111
 replace h117 := Sl.mono RI.mono hle128 h117
 replace h123 := Sl.mono (RL.mono RI.mono) hle128 h123
 refine vP hS hE (Gives.build hE (vs := [(0, .slice (some ⟨b124, 0, none⟩) 2 2)]) [.slice (some ⟨b124, 0, none⟩) 2 2, .slice none 0 0] rfl (by kernel_rfl)) rfl fun a hE => ?_
 refine WL.storeI hE hS 0 rfl [.slice (some ⟨b124, 0, none⟩) 2 2, .slice none 0 0] (runs_plain rfl) rfl rfl rfl ty25 rfl rfl rfl rfl ?_; clear hE hS a w; intro a w hE hS
 refine WL.nil ?_
 refine W.ret ?_
 refine finG (fn := Tryz.f53) (rs := [.cell 0 25]) (vs := [_]) hE rfl ⟨⟨_, rfl, .inl ⟨_, rfl, hS.seesAt 0 rfl, ty25⟩⟩, trivial⟩ ?_
 subst hr
 replace hS := hS.tail
 exact ⟨_, s127, rfl, (Sg.Le.trans (Sg.Le.trans (Sg.Le.trans (Sg.Le.trans (Sg.Le.trans (Sg.Le.trans (Sg.Le.trans (Sg.Le.trans (Sg.Le.trans (Sg.Le.trans (Sg.Le.trans (Sg.Le.trans hle57 hle63) hle69) hle74) hle80) hle86) hle92) hle99) hle105) hle110) hle116) hle122) hle128), ⟨_, _, _, _, rfl, h129, Sl.nil⟩, hS⟩
set_option maxHeartbeats 8000000 in
theorem GuidecheckLeast_ok  {w : World} {s : Sg} {R : List HP} {x0 : ApiDay} {a0_0 : Option Addr} {c0_0 : Nat} {a0_1 : Option Addr} {c0_1 : Nat} {x1 : Int} (hS : St w s (R)) (hTab : TabS Tryz.prog s) (h0_0 : Sl 4 RApiTrain s a0_0 c0_0 x0.Trains) (h0_1 : Sl 1 (RL 1 (RI .i64)) s a0_1 c0_1 x0.Turns) {r : Int} (hr : GuidecheckLeast x0 x1 = some r) :
  Calls Tryz.prog 79 [.agg (List.toArray [.slice a0_0 x0.Trains.length c0_0, .slice a0_1 x0.Turns.length c0_1]), vi x1].toArray w (fun e w => e = .returned (vi r) ∧ St w s (R)) := by
 refine enter Tryz.func79 rfl rfl rfl fun a hE => ?_
 rw [GuidecheckLeast] at hr
 refine W.seq (W.region ?_)
 refine WL.box hE hS (runs_plain rfl) rfl rfl rfl ?_; clear hE hS a w; intro b51 a w hE hS
 refine vp hS hE rfl rfl fun a hE => WL.nil ?_
 refine W.seq ?_
 refine W.seq (W.region (vP hS hE (Gives.loadBA hE 0 rfl rfl ty25) rfl fun a hE => ?_))
 obtain ⟨q52, hq53, hr⟩ := bindS hr
 have hc_ := GuideCheck_ok hS (TabS.mono (Sg.Le.refl _) hTab) h0_0 h0_1 hq53
 refine WL.fnq hE (hc_) (runs_plain rfl) bd60 rfl rfl rfl ?_
 clear hE hS hc_; rintro e w ⟨rfl, hS⟩; refine ⟨_, rfl, ?_⟩; clear a; intro a hE
 refine vp hS hE rfl rfl fun a hE => WL.nil ?_
 refine W.seq (W.region (v2 hS hE rfl rfl rfl rfl fun a hE => WL.nil ?_))
 refine W.cond hE rfl (fun hc54 => ?_) (fun hc54 => ?_)
 ·replace hr := iteT hc54 hr
  refine W.seq (W.region (v2 hS hE rfl rfl rfl rfl fun a hE => WL.nil ?_))
  refine W.ret ?_
  refine finG (fn := Tryz.f79) (rs := [.tmp 4]) (vs := [_]) hE rfl ⟨rfl, trivial⟩ ?_
  obtain rfl := Option.some.inj hr
  replace hS := hS.tail
  exact ⟨rfl, hS⟩
 replace hr := iteF hc54 hr
 refine W.skip ?_
 refine W.seq ?_
 refine W.seq (W.region (vp hS hE rfl rfl fun a hE => ?_))
 refine WL.fnq hE (Guidewithin_ok hS  rfl (r := Guidewithin x1 0 28800)) (runs_plain rfl) bd61 rfl rfl rfl ?_
 clear hE hS; rintro e w ⟨rfl, hS⟩; refine ⟨_, rfl, ?_⟩; clear a; intro a hE
 refine vp hS hE rfl rfl fun a hE => WL.nil ?_
 refine W.cond hE rfl (fun hc55 => ?_) (fun hc55 => ?_)
 ·replace hr := iteT hc55 hr
  refine W.seq (W.region (vp hS hE rfl rfl fun a hE => WL.nil ?_))
  refine W.ret ?_
  refine finG (fn := Tryz.f79) (rs := [.tmp 4]) (vs := [_]) hE rfl ⟨rfl, trivial⟩ ?_
  obtain rfl := Option.some.inj hr
  replace hS := hS.tail
  exact ⟨rfl, hS⟩
 replace hr := iteF hc55 hr
 refine W.skip ?_
 refine W.seq (W.region (vp hS hE rfl rfl fun a hE => WL.nil ?_))
 refine W.ret ?_
 refine finG (fn := Tryz.f79) (rs := [.tmp 4]) (vs := [_]) hE rfl ⟨rfl, trivial⟩ ?_
 obtain rfl := Option.some.inj hr
 replace hS := hS.tail
 exact ⟨rfl, hS⟩
set_option maxHeartbeats 8000000 in
theorem Guidecheck_ok  {w : World} {s : Sg} {R : List HP} {x0 : ApiDay} {a0_0 : Option Addr} {c0_0 : Nat} {a0_1 : Option Addr} {c0_1 : Nat} {x1 : Int} {x2 : Int} {x3 : Int} {x4 : List Int} {a4 : Option Addr} {c4 : Nat} (hS : St w s (R)) (hTab : TabS Tryz.prog s) (h0_0 : Sl 4 RApiTrain s a0_0 c0_0 x0.Trains) (h0_1 : Sl 1 (RL 1 (RI .i64)) s a0_1 c0_1 x0.Turns) (h4 : Sl 1 (RI .i64) s a4 c4 x4) {r : Int} (hr : Guidecheck x0 x1 x2 x3 x4 = some r) :
  Calls Tryz.prog 38 [.agg (List.toArray [.slice a0_0 x0.Trains.length c0_0, .slice a0_1 x0.Turns.length c0_1]), vi x1, vi x2, vi x3, .slice a4 x4.length c4].toArray w (fun e w => e = .returned (vi r) ∧ St w s (R)) := by
 refine enter Tryz.func38 rfl rfl rfl fun a hE => ?_
 rw [Guidecheck] at hr
 refine W.seq (W.region ?_)
 refine WL.box hE hS (runs_plain rfl) rfl rfl rfl ?_; clear hE hS a w; intro b51 a w hE hS
 refine vp hS hE rfl rfl fun a hE => WL.nil ?_
 refine W.seq ?_
 refine W.seq (W.region (vP hS hE (Gives.loadBA hE 0 rfl rfl ty25) rfl fun a hE => ?_))
 refine vp hS hE rfl rfl fun a hE => ?_
 obtain ⟨q52, hq53, hr⟩ := bindS hr
 have hc_ := GuidecheckLeast_ok hS (TabS.mono (Sg.Le.refl _) hTab) h0_0 h0_1 hq53
 refine WL.fnq hE (hc_) (runs_plain rfl) bd79 rfl rfl rfl ?_
 clear hE hS hc_; rintro e w ⟨rfl, hS⟩; refine ⟨_, rfl, ?_⟩; clear a; intro a hE
 refine vp hS hE rfl rfl fun a hE => WL.nil ?_
 refine W.seq (W.region (v2 hS hE rfl rfl rfl rfl fun a hE => WL.nil ?_))
 refine W.cond hE rfl (fun hc54 => ?_) (fun hc54 => ?_)
 ·replace hr := iteT hc54 hr
  refine W.seq (W.region (v2 hS hE rfl rfl rfl rfl fun a hE => WL.nil ?_))
  refine W.ret ?_
  refine finG (fn := Tryz.f38) (rs := [.tmp 10]) (vs := [_]) hE rfl ⟨rfl, trivial⟩ ?_
  obtain rfl := Option.some.inj hr
  replace hS := hS.tail
  exact ⟨rfl, hS⟩
 replace hr := iteF hc54 hr
 refine W.skip ?_
 refine W.seq ?_
 refine W.seq ?_
 obtain ⟨q56, hq55, hr⟩ := bndS hr
 refine W.cut (fun a w => ∃ (q59 : Bool), q59 = q56 ∧ Rep a 41 [(2, vi x2), (3, vi x3), (4, .slice a4 x4.length c4), (27, .bool q59)] ∧ St w s (pc b51 #[.slice a0_0 x0.Trains.length c0_0, .slice a0_1 x0.Turns.length c0_1] 25 :: R)) ?_ ?_
 ·refine W.gen fun K60 hK60 => ?_
  refine W.region ?_
  refine vp hS hE rfl rfl fun a hE => ?_
  refine WL.fnq hE (Guidewithin_ok hS  rfl (r := Guidewithin x2 0 11)) (runs_plain rfl) bd61 rfl rfl rfl ?_
  clear hE hS; rintro e w ⟨rfl, hS⟩; refine ⟨_, rfl, ?_⟩; clear a; intro a hE
  refine v2 hS hE rfl rfl rfl rfl fun a hE => ?_
  rcases Bool.eq_false_or_eq_true (!(Guidewithin x2 0 11)) with hg61 | hg61
  ·replace hq55 := iteT hg61 hq55
   refine nO hE rfl rfl rfl (by rw [hg61]; decide) rfl fun a hE => ?_
   refine nO hE rfl rfl rfl (by rw [hg61]; decide) rfl fun a hE => ?_
   refine nO hE rfl rfl rfl (by rw [hg61]; decide) rfl fun a hE => ?_
   refine vP hS hE (Gives.pickT hE rfl hg61 rfl) rfl fun a hE => WL.nil ?_
   subst hK60
   exact ⟨true, hq55, hE.pick _ ⟨rfl, rfl, rfl, rfl, trivial⟩, hS⟩
  replace hq55 := iteF hg61 hq55
  refine WL.vS hS hE (runs_if hE rfl rfl rfl hg61) (Gives.p hE rfl) rfl fun a hE => ?_
  refine WL.fnq hE (Guidewithin_ok hS  rfl (r := Guidewithin x3 0 11)) (runs_if hE rfl rfl rfl hg61) bd61 rfl rfl rfl ?_
  clear hE hS; rintro e w ⟨rfl, hS⟩; refine ⟨_, rfl, ?_⟩; clear a; intro a hE
  refine WL.vS hS hE (runs_if hE rfl rfl rfl hg61) (Gives.p hE rfl) rfl fun a hE => ?_
  refine vP hS hE (Gives.pickF hE rfl hg61 rfl) rfl fun a hE => WL.nil ?_
  subst hK60
  exact ⟨!(Guidewithin x3 0 11), hq55, hE.pick _ ⟨rfl, rfl, rfl, rfl, trivial⟩, hS⟩
 clear hE hS a w; rintro a w ⟨q59, rfl, hE, hS⟩
 refine W.cond hE rfl (fun hc62 => ?_) (fun hc62 => ?_)
 ·replace hr := iteT hc62 hr
  refine W.seq (W.region (vp hS hE rfl rfl fun a hE => WL.nil ?_))
  refine W.ret ?_
  refine finG (fn := Tryz.f38) (rs := [.tmp 10]) (vs := [_]) hE rfl ⟨rfl, trivial⟩ ?_
  obtain rfl := Option.some.inj hr
  replace hS := hS.tail
  exact ⟨rfl, hS⟩
 replace hr := iteF hc62 hr
 refine W.skip ?_
 refine W.seq ?_
 refine W.seq (W.region (v2 hS hE rfl rfl rfl rfl fun a hE => ?_))
 refine vp hS hE rfl rfl fun a hE => WL.nil ?_
 refine W.cond hE rfl (fun hc63 => ?_) (fun hc63 => ?_)
 ·replace hr := iteT hc63 hr
  refine W.seq (W.region (vp hS hE rfl rfl fun a hE => WL.nil ?_))
  refine W.ret ?_
  refine finG (fn := Tryz.f38) (rs := [.tmp 10]) (vs := [_]) hE rfl ⟨rfl, trivial⟩ ?_
  obtain rfl := Option.some.inj hr
  replace hS := hS.tail
  exact ⟨rfl, hS⟩
 replace hr := iteF hc63 hr
 refine W.skip ?_
 refine W.seq ?_
 refine W.seq (W.region (vp hS hE rfl rfl fun a hE => ?_))
 refine vP hS hE (Gives.len hE rfl sl65) rfl fun a hE => ?_
 refine vp hS hE rfl rfl fun a hE => WL.nil ?_
 obtain ⟨q65, hq64, hr⟩ := bndS hr
 refine W.cut (fun a w => (.next ()) = q65 ∧ Rep a 41 [] ∧ St w s (pc b51 #[.slice a0_0 x0.Trains.length c0_0, .slice a0_1 x0.Turns.length c0_1] 25 :: R)) ?_ ?_
 ·refine W.block ?_
  refine W.loop (fun m a w => ∃ (rest68 : List Int) (k66 : Nat), rest68.length = m ∧ x4.drop k66 = rest68 ∧ Guidecheck.loop1 rest68 = q65 ∧ Rep a 41 [(31, .slice a4 x4.length c4), (32, vi ((x4).length : Int)), (33, vi ((k66 : Nat) : Int))] ∧ St w s (pc b51 #[.slice a0_0 x0.Trains.length c0_0, .slice a0_1 x0.Turns.length c0_1] 25 :: R)) (m := x4.length) ⟨x4, 0, rfl, rfl, hq64, hE.pick _ ⟨rfl, rfl, rfl, trivial⟩, hS⟩ ?_
  clear hE hS a w hq64; rintro m72 a w ⟨rest68, k66, rfl, hd69, hq64, hE, hS⟩
  refine W.gen fun K75 hK75 => ?_
  rcases rest68 with _ | ⟨x67, rest68⟩
  ·have hlt70 := drop_nil hd69
   refine W.seq (W.region (vp hS hE rfl rfl fun a hE => WL.nil ?_))
   refine W.seq ?_
   refine W.condF hE rfl (decide_eq_false (by omega)) ?_
   subst hK75
   refine W.exit rfl ?_
   exact ⟨hq64, hE.pick _ trivial, hS⟩
  obtain ⟨hlt70, hx71, hd69⟩ := drop_cons hd69
  rw [Guidecheck.loop1] at hq64
  refine W.seq (W.region (vp hS hE rfl rfl fun a hE => WL.nil ?_))
  refine W.seq ?_
  refine W.condT hE rfl (decide_eq_true (by omega)) ?_
  refine W.skip ?_
  refine W.seq ?_
  refine W.block ?_
  refine W.seq (W.region ?_)
  obtain ⟨cs76, hl77, hR78, hat79⟩ := h4.at hx71
  subst hR78
  refine vP hS hE (Gives.idx hE k66 rfl rfl sl65 rfl hlt70 (h4.aok hlt70)) rfl fun a hE => ?_
  refine vP hS hE (Gives.load1 hE rfl (fun w h => hat79 w _ h) ty3) rfl fun a hE => ?_
  refine vp hS hE rfl rfl fun a hE => WL.nil ?_
  refine W.seq (W.region (vp hS hE rfl rfl fun a hE => ?_))
  refine WL.fnq hE (Guidewithin_ok hS  rfl (r := Guidewithin x67 0 28800)) (runs_plain rfl) bd61 rfl rfl rfl ?_
  clear hE hS; rintro e w ⟨rfl, hS⟩; refine ⟨_, rfl, ?_⟩; clear a; intro a hE
  refine vp hS hE rfl rfl fun a hE => WL.nil ?_
  refine W.cond hE rfl (fun hc80 => ?_) (fun hc80 => ?_)
  ·replace hq64 := iteT hc80 hq64
   refine W.seq (W.region (vp hS hE rfl rfl fun a hE => WL.nil ?_))
   refine W.ret ?_
   subst hK75
   rw [← hq64] at hr
   dsimp only at hr
   refine finG (fn := Tryz.f38) (rs := [.tmp 10]) (vs := [_]) hE rfl ⟨rfl, trivial⟩ ?_
   obtain rfl := Option.some.inj hr
   replace hS := hS.tail
   exact ⟨rfl, hS⟩
  replace hq64 := iteF hc80 hq64
  refine W.skip ?_
  refine W.region ?_
  refine vP hS hE (Gives.inc hE rfl (by have := h4.small; omega)) rfl fun a hE => ?_
  refine vp hS hE rfl rfl fun a hE => WL.nil ?_
  subst hK75
  exact ⟨rest68.length, Nat.lt_succ_self _, rest68, k66 + 1, rfl, hd69, hq64, hE.pick _ ⟨rfl, rfl, rfl, trivial⟩, hS⟩
 clear hE hS a w; rintro a w ⟨rfl, hE, hS⟩
 dsimp only at hr
 refine W.seq (W.region (vp hS hE rfl rfl fun a hE => WL.nil ?_))
 refine W.ret ?_
 refine finG (fn := Tryz.f38) (rs := [.tmp 10]) (vs := [_]) hE rfl ⟨rfl, trivial⟩ ?_
 obtain rfl := Option.some.inj hr
 replace hS := hS.tail
 exact ⟨rfl, hS⟩
theorem pt_at0 {α : Type} {es : Nat} {R : Rd α} {s : Sg} {b : Nat} {v : α} (h : Pt es R s (some ⟨b, 0, none⟩) (some v)) : ∃ cs, s.At b 0 cs ∧ R s cs v := by
 obtain ⟨b', o', cs, e, _, h3, h4⟩ := h
 injection e with e
 injection e with e1 e2
 subst e1; subst e2
 exact ⟨cs, h3, h4⟩
set_option maxHeartbeats 4000000 in
theorem rides1_ok {s : Sg} {bn bo bs ba : Nat} {cn : List Value} {n : GuideNet} {station at_ nt : Int} (hn : s.At bn 0 cn) (hcn : RGuideNet s cn n) (hnt : s.At bo 0 [vi nt]) (hst : s.At bs 0 [vi station]) (hat : s.At ba 0 [vi at_]) :
  Iter Tryz.prog 100 [pp bn, pp bo, pp bs, pp ba] (fun x => [Value.agg (GuideRide.cells x).toArray]) s (ridesT station at_ nt n.Day.Trains 0) := by
 intro y I X hI hY w t Q h0 hS
 obtain ⟨a0, c0, a1, c1, rfl, hTr, hTu⟩ := hcn
 have cell : ∀ {u : Sg} {b o : Nat} {cs : List Value} {v : Value} (k : Nat), s.Le u → s.At b o cs → cs[k]? = some v → ∀ w rs, St w u rs → Sees w b (o + k) [v] := by
  intro u b o cs v k hle h hk w rs hS j x hj
  cases j with
  | zero => simp at hj; subst hj; have := hS.sees (h.mono hle) k v hk; simpa using this
  | succ j => simp at hj
 have hle := hI _ _ _ h0
 refine enter Tryz.func100 rfl rfl rfl fun a hE => ?_
 refine W.seq (W.region (vP hS hE (Gives.fld hE rfl fl91_0) rfl fun a hE => ?_))
 refine vP hS hE (Gives.fld hE rfl fl25_0) rfl fun a hE => ?_
 refine vP hS hE (Gives.load1 hE rfl (fun w h => cell 0 hle hn rfl w _ h) ty22) rfl fun a hE => ?_
 refine vP hS hE (Gives.len hE rfl sl22) rfl fun a hE => ?_
 refine vp hS hE rfl rfl fun a hE => WL.nil ?_
 refine W.block ?_
 refine W.loop (fun m a w => ∃ (rest : List ApiTrain) (k : Nat) (pre : List GuideRide) (u : Sg) (Q : List HP), rest.length = m ∧ n.Day.Trains.drop k = rest ∧ ridesT station at_ nt n.Day.Trains 0 = pre ++ ridesT station at_ nt rest k ∧ I pre u Q ∧ Rep a 59 [(0, .func (.yield y) #[] #[]), (1, pp bn), (2, pp bo), (3, pp bs), (4, pp ba), (13, .slice a0 n.Day.Trains.length c0), (14, vi ((n.Day.Trains.length : Nat) : Int)), (15, vi (k : Int))] ∧ St w u Q) (m := n.Day.Trains.length) ⟨n.Day.Trains, 0, [], t, Q, rfl, rfl, rfl, h0, hE.pick _ ⟨rfl, rfl, rfl, rfl, rfl, rfl, rfl, rfl, trivial⟩, hS⟩ ?_
 clear hE hS h0 hle a w t Q; rintro m a w ⟨rest, k, pre, u, Q, rfl, hd, hl, hp, hE, hS⟩
 have hle := hI _ _ _ hp
 refine W.gen fun K hK => ?_
 have hrd : K.rd = none := by rw [← hK]
 rcases rest with _ | ⟨x, rest⟩
 ·have hlt := drop_nil hd
  refine W.seq (W.region (vp hS hE rfl rfl fun a hE => WL.nil ?_))
  refine W.seq ?_
  refine W.condF hE rfl (decide_eq_false (by omega)) ?_
  subst hK
  refine W.exit rfl ?_
  refine fin0 hE rfl ⟨⟨_, rfl⟩, .inl ⟨u, Q, ?_, hS⟩⟩
  rw [hl, ridesT, List.append_nil]; exact hp
 obtain ⟨hlt, hx, hd⟩ := drop_cons hd
 rw [ridesT] at hl
 refine W.seq (W.region (vp hS hE rfl rfl fun a hE => WL.nil ?_))
 refine W.seq ?_
 refine W.condT hE rfl (decide_eq_true (by omega)) ?_
 refine W.skip ?_
 refine W.seq ?_
 refine W.block ?_
 obtain ⟨ct, hctl, hctA, hct⟩ := hTr.el k x hx
 obtain ⟨ta, tc, tb, te, rfl, hSt, hLe⟩ := hct
 refine W.seq (W.region (vp hS hE rfl rfl fun a hE => ?_))
 refine vP hS hE (Gives.idx hE k rfl rfl sl22 rfl hlt ((Sl.mono RApiTrain.mono hle hTr).aok (k := k) hlt)) rfl fun a hE => ?_
 refine vP hS hE (Gives.loadA hE rfl (fun w h => h.sees (hctA.mono hle)) ty111) rfl fun a hE => ?_
 refine WL.alloc hE hS (runs_plain rfl) zr111 rfl ?_; clear hE hS a w; intro bt a w hE hS
 refine vp hS hE rfl rfl fun a hE => ?_
 refine WL.storeI hE hS 0 rfl [vi x.No, vi x.Stock, .slice ta x.Stops.length tc, .slice tb x.Legs.length te] (runs_plain rfl) rfl rfl rfl ty111 rfl rfl rfl rfl ?_; clear hE hS a w; intro a w hE hS
 refine WL.nil ?_
 refine W.seq ?_
 refine W.seq (W.region (vp hS hE rfl rfl fun a hE => ?_))
 refine vP hS hE (Gives.load1 hE rfl (fun w h => cell 0 hle hnt rfl w _ h) ty3) rfl fun a hE => ?_
 refine vp hS hE rfl rfl fun a hE => WL.nil ?_
 refine W.cond hE rfl (fun hc => ?_) (fun hc => ?_)
 ·refine W.exit rfl ?_
  have hc : (k : Int) = nt := by simpa using hc
  rw [if_pos hc, List.nil_append] at hl
  replace hS := hS.tail
  refine W.region ?_
  refine vP hS hE (Gives.inc hE rfl (by have := hTr.small; omega)) rfl fun a hE => ?_
  refine vp hS hE rfl rfl fun a hE => WL.nil ?_
  subst hK
  exact ⟨rest.length, Nat.lt_succ_self _, rest, k + 1, pre, u, Q, rfl, hd, hl, hp, hE.pick _ ⟨rfl, rfl, rfl, rfl, rfl, rfl, rfl, rfl, trivial⟩, hS⟩
 have hc : ¬ (k : Int) = nt := by simpa using hc
 rw [if_neg hc] at hl
 refine W.skip ?_
 refine W.seq (W.region (vP hS hE (Gives.fld hE rfl fl111_2) rfl fun a hE => ?_))
 refine vP hS hE (Gives.loadB hE 0 rfl rfl rfl ty109) rfl fun a hE => ?_
 refine vP hS hE (Gives.len hE rfl sl109) rfl fun a hE => ?_
 refine vp hS hE rfl rfl fun a hE => WL.nil ?_
 refine W.block ?_
 refine W.loop (fun m a w => ∃ (rest2 : List ApiStop) (k2 : Nat) (pre2 : List GuideRide) (u2 : Sg) (Q2 : List HP), rest2.length = m ∧ x.Stops.drop k2 = rest2 ∧ ridesT station at_ nt n.Day.Trains 0 = pre2 ++ (ridesS station at_ k x.Stops.length rest2 k2 ++ ridesT station at_ nt rest (k + 1)) ∧ I pre2 u2 Q2 ∧ Rep a 59 [(0, .func (.yield y) #[] #[]), (1, pp bn), (2, pp bo), (3, pp bs), (4, pp ba), (13, .slice a0 n.Day.Trains.length c0), (14, vi ((n.Day.Trains.length : Nat) : Int)), (15, vi (k : Int)), (6, vi (k : Int)), (7, pp bt), (24, .slice ta x.Stops.length tc), (25, vi ((x.Stops.length : Nat) : Int)), (26, vi (k2 : Int))] ∧ St w u2 (pt bt (Obj.cells [Value.int .i64 x.No, Value.int .i64 x.Stock, Value.slice ta x.Stops.length tc, Value.slice tb x.Legs.length te].toArray 111 (0, 0)) :: Q2)) (m := x.Stops.length) ⟨x.Stops, 0, pre, u, Q, rfl, rfl, hl, hp, hE.pick _ ⟨rfl, rfl, rfl, rfl, rfl, rfl, rfl, rfl, rfl, rfl, rfl, rfl, rfl, trivial⟩, hS⟩ ?_
 clear hE hS a w hp hl hle pre; rintro m2 a w ⟨rest2, k2, pre, u2, Q2, rfl, hd2, hl, hp, hE, hS⟩
 have hle := hI _ _ _ hp
 refine W.gen fun K2 hK2 => ?_
 have hrd2 : K2.rd = none := by rw [← hK2]; exact hrd
 rcases rest2 with _ | ⟨z, rest2⟩
 ·have hlt2 := drop_nil hd2
  rw [ridesS, List.nil_append] at hl
  refine W.seq (W.region (vp hS hE rfl rfl fun a hE => WL.nil ?_))
  refine W.seq ?_
  refine W.condF hE rfl (decide_eq_false (by omega)) ?_
  subst hK2
  refine W.exit rfl ?_
  replace hS := hS.tail
  refine W.region ?_
  refine vP hS hE (Gives.inc hE rfl (by have := hTr.small; omega)) rfl fun a hE => ?_
  refine vp hS hE rfl rfl fun a hE => WL.nil ?_
  subst hK
  exact ⟨rest.length, Nat.lt_succ_self _, rest, k + 1, pre, u2, Q2, rfl, hd, hl, hp, hE.pick _ ⟨rfl, rfl, rfl, rfl, rfl, rfl, rfl, rfl, trivial⟩, hS⟩
 obtain ⟨hlt2, hx2, hd2⟩ := drop_cons hd2
 rw [ridesS] at hl
 refine W.seq (W.region (vp hS hE rfl rfl fun a hE => WL.nil ?_))
 refine W.seq ?_
 refine W.condT hE rfl (decide_eq_true (by omega)) ?_
 refine W.skip ?_
 refine W.seq ?_
 refine W.block ?_
 obtain ⟨cz, hczl, hcz, hczS⟩ := (Sl.mono RApiStop.mono hle hSt).at hx2
 subst hcz
 refine W.seq (W.region (vp hS hE rfl rfl fun a hE => ?_))
 refine vP hS hE (Gives.idx hE k2 rfl rfl sl109 rfl hlt2 ((Sl.mono RApiStop.mono hle hSt).aok (k := k2) hlt2)) rfl fun a hE => ?_
 refine vP hS hE (Gives.loadA hE rfl (fun w h => hczS w _ h) ty99) rfl fun a hE => ?_
 refine WL.alloc hE hS (runs_plain rfl) zr99 rfl ?_; clear hE hS a w; intro bz a w hE hS
 refine vp hS hE rfl rfl fun a hE => ?_
 refine WL.storeI hE hS 0 rfl (ApiStop.cells z) (vs := ApiStop.cells z) (runs_plain rfl) rfl rfl rfl ty99 rfl rfl rfl rfl ?_; clear hE hS a w; intro a w hE hS
 refine WL.nil ?_
 refine W.seq ?_
 refine W.seq (W.region (vP hS hE (Gives.fld hE rfl fl99_0) rfl fun a hE => ?_))
 refine vP hS hE (Gives.loadB hE 0 rfl rfl rfl ty3) rfl fun a hE => ?_
 refine vP hS hE (Gives.load1 hE rfl (fun w h => cell 0 hle hst rfl w _ h) ty3) rfl fun a hE => ?_
 refine v2 hS hE rfl rfl rfl rfl fun a hE => ?_
 by_cases hc3 : z.Station = station
 ·have hb3 : (z.Station != station) = false := by simpa using hc3
  refine WL.vS hS hE (runs_if hE rfl rfl rfl hb3) (Gives.fld hE rfl fl99_3) rfl fun a hE => ?_
  refine WL.vS hS hE (runs_if hE rfl rfl rfl hb3) (Gives.loadB hE 0 rfl rfl rfl ty3) rfl fun a hE => ?_
  refine WL.vS hS hE (runs_if hE rfl rfl rfl hb3) (Gives.load1 hE rfl (fun w h => cell 0 hle hat rfl w _ h) ty3) rfl fun a hE => ?_
  refine WL.vS hS hE (runs_if hE rfl rfl rfl hb3) (Gives.p hE rfl) rfl fun a hE => ?_
  refine vP hS hE (Gives.pickF hE rfl hb3 rfl) rfl fun a hE => WL.nil ?_
  refine W.cond hE rfl (fun hc4 => ?_) (fun hc4 => ?_)
  ·refine W.exit rfl ?_
   have hc4 : z.Dep < at_ := by simpa using hc4
   rw [if_pos (Or.inr hc4), List.nil_append] at hl
   replace hS := hS.tail
   refine W.region ?_
   refine vP hS hE (Gives.inc hE rfl (by have := hSt.small; omega)) rfl fun a hE => ?_
   refine vp hS hE rfl rfl fun a hE => WL.nil ?_
   subst hK2
   exact ⟨rest2.length, Nat.lt_succ_self _, rest2, k2 + 1, pre, u2, Q2, rfl, hd2, hl, hp, hE.pick _ ⟨rfl, rfl, rfl, rfl, rfl, rfl, rfl, rfl, rfl, rfl, rfl, rfl, rfl, trivial⟩, hS⟩
  have hc4 : ¬ z.Dep < at_ := by simpa using hc4
  rw [if_neg (show ¬ (z.Station ≠ station ∨ z.Dep < at_) from fun h => h.elim (fun h => h hc3) hc4), List.append_assoc] at hl
  refine W.skip ?_
  refine W.seq (W.region (vp hS hE rfl rfl fun a hE => ?_))
  refine vP hS hE (Gives.inc hE rfl (by have := hSt.small; omega)) rfl fun a hE => ?_
  refine vp hS hE rfl rfl fun a hE => WL.nil ?_
  refine W.block ?_
  refine W.loop (fun m a w => ∃ (r3 k3 : Nat) (pre3 : List GuideRide) (u3 : Sg) (Q3 : List HP), r3 = m ∧ k3 + r3 = x.Stops.length ∧ ridesT station at_ nt n.Day.Trains 0 = pre3 ++ (ridesF k k2 r3 k3 ++ (ridesS station at_ k x.Stops.length rest2 (k2 + 1) ++ ridesT station at_ nt rest (k + 1))) ∧ I pre3 u3 Q3 ∧ Rep a 59 [(0, .func (.yield y) #[] #[]), (1, pp bn), (2, pp bo), (3, pp bs), (4, pp ba), (13, .slice a0 n.Day.Trains.length c0), (14, vi ((n.Day.Trains.length : Nat) : Int)), (15, vi (k : Int)), (6, vi (k : Int)), (7, pp bt), (24, .slice ta x.Stops.length tc), (25, vi ((x.Stops.length : Nat) : Int)), (26, vi (k2 : Int)), (8, vi (k2 : Int)), (9, pp bz), (10, vi (k3 : Int))] ∧ St w u3 (pt bz (Obj.cells (ApiStop.cells z).toArray 99 (0, 0)) :: pt bt (Obj.cells [Value.int .i64 x.No, Value.int .i64 x.Stock, Value.slice ta x.Stops.length tc, Value.slice tb x.Legs.length te].toArray 111 (0, 0)) :: Q3)) (m := x.Stops.length - (k2 + 1)) ⟨x.Stops.length - (k2 + 1), k2 + 1, pre, u2, Q2, rfl, by omega, hl, hp, hE.pick _ ⟨rfl, rfl, rfl, rfl, rfl, rfl, rfl, rfl, rfl, rfl, rfl, rfl, rfl, rfl, rfl, rfl, trivial⟩, hS⟩ ?_
  clear hE hS a w hp hl hle pre; rintro m3 a w ⟨r3, k3, pre, u3, Q3, rfl, hd3, hl, hp, hE, hS⟩
  have hle := hI _ _ _ hp
  refine W.gen fun K3 hK3 => ?_
  have hrd3 : K3.rd = none := by rw [← hK3]; exact hrd2
  refine W.seq ?_
  refine W.seq (W.region (vp hS hE rfl rfl fun a hE => ?_))
  refine vP hS hE (Gives.fld hE rfl fl111_2) rfl fun a hE => ?_
  refine vP hS hE (Gives.loadB hE 1 rfl rfl rfl ty109) rfl fun a hE => ?_
  refine vP hS hE (Gives.len hE rfl sl109) rfl fun a hE => ?_
  refine vp hS hE rfl rfl fun a hE => WL.nil ?_
  rcases r3 with _ | r3
  ·rw [ridesF, List.nil_append] at hl
   refine W.condF hE rfl (decide_eq_false (by omega)) ?_
   subst hK3
   refine W.exit rfl ?_
   replace hS := hS.tail
   refine W.region ?_
   refine vP hS hE (Gives.inc hE rfl (by have := hSt.small; omega)) rfl fun a hE => ?_
   refine vp hS hE rfl rfl fun a hE => WL.nil ?_
   subst hK2
   exact ⟨rest2.length, Nat.lt_succ_self _, rest2, k2 + 1, pre, u3, Q3, rfl, hd2, hl, hp, hE.pick _ ⟨rfl, rfl, rfl, rfl, rfl, rfl, rfl, rfl, rfl, rfl, rfl, rfl, rfl, trivial⟩, hS⟩
  rw [ridesF, List.cons_append] at hl
  refine W.condT hE rfl (decide_eq_true (by omega)) ?_
  refine W.skip ?_
  refine W.seq ?_
  refine W.block ?_
  refine W.seq ?_
  refine W.regionY ?_
  refine WLY.vS hrd3 hS hE (runs_plain rfl) (Gives.p hE rfl) rfl fun a hE => ?_
  refine WLY.vS hrd3 hS hE (runs_plain rfl) (Gives.p hE rfl) rfl fun a hE => ?_
  refine WLY.vS hrd3 hS hE (runs_plain rfl) (Gives.p hE rfl) rfl fun a hE => ?_
  refine WLY.vS hrd3 hS hE (runs_plain rfl) (Gives.p hE rfl) rfl fun a hE => ?_
  refine WLY.vS hrd3 hS hE (runs_plain rfl) (Gives.build hE (vs := [(0, vi (k : Int)), (1, vi (k2 : Int)), (2, vi (k3 : Int))]) (GuideRide.cells ⟨(k : Int), (k2 : Int), (k3 : Int)⟩) rfl (by kernel_rfl)) rfl fun a hE => ?_
  have hpre : pre ++ [⟨(k : Int), (k2 : Int), (k3 : Int)⟩] <+: ridesT station at_ nt n.Day.Trains 0 := ⟨_, by rw [hl, List.append_assoc]; rfl⟩
  refine WLY.yield hrd3 hE rfl rfl (runs_plain rfl) rfl (hY pre ⟨(k : Int), (k2 : Int), (k3 : Int)⟩ u3 Q3 [pt bz (Obj.cells (ApiStop.cells z).toArray 99 (0, 0)), pt bt (Obj.cells [Value.int .i64 x.No, Value.int .i64 x.Stock, Value.slice ta x.Stops.length tc, Value.slice tb x.Legs.length te].toArray 111 (0, 0))] w hpre hp hS) ?_
  clear hE hS a w; rintro e w (⟨rfl, u4, Q4, hp4, hS⟩ | ⟨rfl, u4, Q4, hX, hS⟩)
  ·refine ⟨_, rfl, fun a hE => ?_⟩
   refine WLY.vS hrd3 hS hE (runs_plain rfl) (Gives.p hE rfl) rfl fun a hE => ?_
   refine WLY.nil ?_
   refine W.condF hE rfl rfl ?_
   refine W.skip ?_
   refine W.region ?_
   refine vp hS hE rfl rfl fun a hE => ?_
   refine vP hS hE (Gives.inc hE rfl (by have := hSt.small; omega)) rfl fun a hE => ?_
   refine vp hS hE rfl rfl fun a hE => WL.nil ?_
   subst hK3
   exact ⟨r3, Nat.lt_succ_self _, r3, k3 + 1, _, u4, Q4, rfl, by omega, (by rw [hl, List.append_assoc]; rfl), hp4, hE.pick _ ⟨rfl, rfl, rfl, rfl, rfl, rfl, rfl, rfl, rfl, rfl, rfl, rfl, rfl, rfl, rfl, rfl, trivial⟩, hS⟩
  refine ⟨_, rfl, fun a hE => ?_⟩
  refine WLY.vS hrd3 hS hE (runs_plain rfl) (Gives.p hE rfl) rfl fun a hE => ?_
  refine WLY.nil ?_
  refine W.condT hE rfl rfl ?_
  refine W.ret ?_
  subst hK3 hK2 hK
  exact fin0 hE rfl ⟨⟨_, rfl⟩, .inr ⟨u4, Q4, hX, hS.tail.tail⟩⟩
 have hb3 : (z.Station != station) = true := by simpa using hc3
 refine nO hE rfl rfl rfl (by rw [hb3]; decide) rfl fun a hE => ?_
 refine nO hE rfl rfl rfl (by rw [hb3]; decide) rfl fun a hE => ?_
 refine nO hE rfl rfl rfl (by rw [hb3]; decide) rfl fun a hE => ?_
 refine nO hE rfl rfl rfl (by rw [hb3]; decide) rfl fun a hE => ?_
 refine vP hS hE (Gives.pickT hE rfl hb3 rfl) rfl fun a hE => WL.nil ?_
 refine W.condT hE rfl rfl ?_
 refine W.exit rfl ?_
 rw [if_pos (Or.inl hc3), List.nil_append] at hl
 replace hS := hS.tail
 refine W.region ?_
 refine vP hS hE (Gives.inc hE rfl (by have := hSt.small; omega)) rfl fun a hE => ?_
 refine vp hS hE rfl rfl fun a hE => WL.nil ?_
 subst hK2
 exact ⟨rest2.length, Nat.lt_succ_self _, rest2, k2 + 1, pre, u2, Q2, rfl, hd2, hl, hp, hE.pick _ ⟨rfl, rfl, rfl, rfl, rfl, rfl, rfl, rfl, rfl, rfl, rfl, rfl, rfl, trivial⟩, hS⟩
theorem rides_it {s : Sg} {bn bo bs ba : Nat} {n : GuideNet} {station at_ nt : Int} (hn : Pt 3 RGuideNet s (some ⟨bn, 0, none⟩) (some n)) (hnt : Pt 1 (RI .i64) s (some ⟨bo, 0, none⟩) (some nt)) (hst : Pt 1 (RI .i64) s (some ⟨bs, 0, none⟩) (some station)) (hat : Pt 1 (RI .i64) s (some ⟨ba, 0, none⟩) (some at_)) :
  Iter Tryz.prog 100 [pp bn, pp bo, pp bs, pp ba] (fun x => [Value.agg (GuideRide.cells x).toArray]) s (ridesT station at_ nt n.Day.Trains 0) := by
 obtain ⟨cn, h1, h2⟩ := pt_at0 hn
 obtain ⟨c1, h3, rfl⟩ := pt_at0 hnt
 obtain ⟨c2, h4, rfl⟩ := pt_at0 hst
 obtain ⟨c3, h5, rfl⟩ := pt_at0 hat
 exact rides1_ok h1 h2 h3 h4 h5

set_option maxHeartbeats 8000000 in
theorem GuideNetrides_ok  {w : World} {s : Sg} {R : List HP} {x0 : GuideNet} {a0_0 : Option Addr} {c0_0 : Nat} {a0_1 : Option Addr} {c0_1 : Nat} {x1 : Int} {x2 : Int} {x3 : Int} (hS : St w s (R)) (h0_0 : Sl 4 RApiTrain s a0_0 c0_0 x0.Day.Trains) (h0_1 : Sl 1 (RL 1 (RI .i64)) s a0_1 c0_1 x0.Day.Turns) {r : (List GuideRide)} (hr : GuideNetrides x0 x1 x2 x3 = r) :
  Calls Tryz.prog 49 [.agg (List.toArray [.slice a0_0 x0.Day.Trains.length c0_0, .slice a0_1 x0.Day.Turns.length c0_1, vi x0.least]), vi x1, vi x2, vi x3].toArray w (fun e w => ∃ (lb0 : List Value) (t : Sg), e = .returned (.func (.func 100) #[] lb0.toArray) ∧ s.Le t ∧ Iter Tryz.prog 100 lb0 (fun x => [Value.agg (GuideRide.cells x).toArray]) t r ∧ St w t (R)) := by
 refine enter Tryz.func49 rfl rfl rfl fun a hE => ?_
 rw [GuideNetrides] at hr
 refine W.seq (W.region ?_)
 refine WL.box hE hS (runs_plain rfl) rfl rfl rfl ?_; clear hE hS a w; intro b51 a w hE hS
 refine WL.box hE hS (runs_plain rfl) rfl rfl rfl ?_; clear hE hS a w; intro b52 a w hE hS
 refine WL.box hE hS (runs_plain rfl) rfl rfl rfl ?_; clear hE hS a w; intro b53 a w hE hS
 refine WL.box hE hS (runs_plain rfl) rfl rfl rfl ?_; clear hE hS a w; intro b54 a w hE hS
 refine vp hS hE rfl rfl fun a hE => WL.nil ?_
 refine W.seq (W.region (vP hS hE (Gives.mkfn hE (vs := [pp b51, pp b54, pp b52, pp b53]) rfl) rfl fun a hE => ?_))
 refine vp hS hE rfl rfl fun a hE => WL.nil ?_
 refine W.ret ?_
 have hF := hS.fixB (es := 3) (Rr := RGuideNet) (v := x0) RGuideNet.mono 3 rfl rfl ⟨_, _, _, _, rfl, h0_0, h0_1⟩; clear hS; obtain ⟨s55, hle56, hS, h57⟩ := hF
 replace h0_0 := Sl.mono RApiTrain.mono hle56 h0_0
 replace h0_1 := Sl.mono (RL.mono RI.mono) hle56 h0_1
 have hF := hS.fixB (es := 1) (Rr := RI .i64) (v := x3) RI.mono 0 rfl rfl rfl; clear hS; obtain ⟨s58, hle59, hS, h60⟩ := hF
 replace h0_0 := Sl.mono RApiTrain.mono hle59 h0_0
 replace h0_1 := Sl.mono (RL.mono RI.mono) hle59 h0_1
 replace h57 := Pt.mono RGuideNet.mono hle59 h57
 have hF := hS.fixB (es := 1) (Rr := RI .i64) (v := x1) RI.mono 1 rfl rfl rfl; clear hS; obtain ⟨s61, hle62, hS, h63⟩ := hF
 replace h0_0 := Sl.mono RApiTrain.mono hle62 h0_0
 replace h0_1 := Sl.mono (RL.mono RI.mono) hle62 h0_1
 replace h57 := Pt.mono RGuideNet.mono hle62 h57
 replace h60 := Pt.mono RI.mono hle62 h60
 have hF := hS.fixB (es := 1) (Rr := RI .i64) (v := x2) RI.mono 0 rfl rfl rfl; clear hS; obtain ⟨s64, hle65, hS, h66⟩ := hF
 replace h0_0 := Sl.mono RApiTrain.mono hle65 h0_0
 replace h0_1 := Sl.mono (RL.mono RI.mono) hle65 h0_1
 replace h57 := Pt.mono RGuideNet.mono hle65 h57
 replace h63 := Pt.mono RI.mono hle65 h63
 replace h60 := Pt.mono RI.mono hle65 h60
 have h67 := rides_it h57 h60 h63 h66
 refine finG (fn := Tryz.f49) (rs := [.tmp 8]) (vs := [_]) hE rfl ⟨rfl, trivial⟩ ?_
 subst hr
 exact ⟨[pp b51, pp b54, pp b52, pp b53], s64, rfl, (Sg.Le.trans (Sg.Le.trans (Sg.Le.trans hle56 hle59) hle62) hle65), h67, hS⟩
set_option maxHeartbeats 8000000 in
theorem GuideNeton_ok  {w : World} {s : Sg} {R : List HP} {x0 : GuideNet} {a0_0 : Option Addr} {c0_0 : Nat} {a0_1 : Option Addr} {c0_1 : Nat} {x1 : GuideRide} (hS : St w s (R)) (h0_0 : Sl 4 RApiTrain s a0_0 c0_0 x0.Day.Trains) (_h0_1 : Sl 1 (RL 1 (RI .i64)) s a0_1 c0_1 x0.Day.Turns) {r : ApiStop} (hr : GuideNeton x0 x1 = some r) :
  Calls Tryz.prog 44 [.agg (List.toArray [.slice a0_0 x0.Day.Trains.length c0_0, .slice a0_1 x0.Day.Turns.length c0_1, vi x0.least]), .agg (GuideRide.cells x1).toArray].toArray w (fun e w => ∃ (cs0 : List Value) (t : Sg), e = .returned (.agg cs0.toArray) ∧ s.Le t ∧ RApiStop t cs0 r ∧ St w t (R)) := by
 refine enter Tryz.func44 rfl rfl rfl fun a hE => ?_
 rw [GuideNeton] at hr
 refine W.seq (W.region ?_)
 refine WL.box hE hS (runs_plain rfl) rfl rfl rfl ?_; clear hE hS a w; intro b51 a w hE hS
 refine WL.box hE hS (runs_plain rfl) rfl rfl rfl ?_; clear hE hS a w; intro b52 a w hE hS
 refine WL.alloc hE hS (runs_plain rfl) zr99 rfl ?_; clear hE hS a w; intro b53 a w hE hS
 refine WL.nil ?_
 refine W.seq ?_
 refine W.gen fun K54 hK54 => ?_
 refine W.regionE (sel (fun w => St w s (pc b53 #[vi 0, vi 0, vi 0, vi 0] 99 :: pc b52 (GuideRide.cells x1).toArray 95 :: pc b51 #[.slice a0_0 x0.Day.Trains.length c0_0, .slice a0_1 x0.Day.Turns.length c0_1, vi x0.least] 91 :: R)) (fun w => St w s (pc b52 (GuideRide.cells x1).toArray 95 :: pc b51 #[.slice a0_0 x0.Day.Trains.length c0_0, .slice a0_1 x0.Day.Turns.length c0_1, vi x0.least] 91 :: R))) (fun b i => cond b ([0, 1, 2, 3, 4, 5, 6, 7, 8, 9, 10, 11].contains i) ([0, 1, 2, 3, 4, 5, 6, 7, 8, 9, 10, 11, 12].contains i)) mixed ?_
 replace hS := hS.drew
 refine tP (i := 0) hE rfl (by kernel_rfl) (Gives.fld hE rfl fl91_0) rfl hS (hS.tail) fun a hE => ?_
 refine tP (i := 1) hE rfl (by kernel_rfl) (Gives.fld hE rfl fl25_0) rfl hS (hS.tail) fun a hE => ?_
 refine tT (i := 2) true rfl hE rfl (by kernel_rfl) (Gives.loadB hE 2 rfl rfl rfl ty22) rfl hS (hS.tail) fun a hE => ?_
 refine tP (i := 3) hE rfl (by kernel_rfl) (Gives.fld hE rfl fl95_0) rfl hS (hS.tail) fun a hE => ?_
 refine tT (i := 4) true rfl hE rfl (by kernel_rfl) (Gives.loadB hE 1 rfl rfl rfl ty3) rfl hS (hS.tail) fun a hE => ?_
 obtain ⟨x55, hx56, hr⟩ := bindS hr
 obtain ⟨hi57, hlt58, hy59⟩ := gx_some hx56
 obtain ⟨cs60, hl61, hR62, hat63⟩ := h0_0.at hy59
 obtain ⟨a64, c65, a67, c68, rfl, h66, h69⟩ := hR62
 refine tP (i := 5) hE rfl (by kernel_rfl) (Gives.idx hE (x1.Train).toNat rfl rfl sl22 hi57 hlt58 (h0_0.aok hlt58)) rfl hS (hS.tail) fun a hE => ?_
 refine tP (i := 6) hE rfl (by kernel_rfl) (Gives.fld hE rfl fl111_2) rfl hS (hS.tail) fun a hE => ?_
 refine tT (i := 7) true rfl hE rfl (by kernel_rfl) (Gives.load1 hE rfl (fun w h => (hat63 w _ h).one rfl) ty109) rfl hS (hS.tail) fun a hE => ?_
 refine tP (i := 8) hE rfl (by kernel_rfl) (Gives.fld hE rfl fl95_1) rfl hS (hS.tail) fun a hE => ?_
 refine tT (i := 9) true rfl hE rfl (by kernel_rfl) (Gives.loadB hE 1 rfl rfl rfl ty3) rfl hS (hS.tail) fun a hE => ?_
 obtain ⟨x70, hx71, hr⟩ := bindS hr
 obtain ⟨hi72, hlt73, hy74⟩ := gx_some hx71
 obtain ⟨cs75, hl76, hR77, hat78⟩ := h66.at hy74
 subst hR77
 refine tP (i := 10) hE rfl (by kernel_rfl) (Gives.idx hE (x1.On).toNat rfl rfl sl109 hi72 hlt73 (h66.aok hlt73)) rfl hS (hS.tail) fun a hE => ?_
 refine tT (i := 11) true rfl hE rfl (by kernel_rfl) (Gives.loadA hE rfl (fun w h => hat78 w _ h) ty99) rfl hS (hS.tail) fun a hE => ?_
 refine Rg.one (i := 12) false true rfl (by kernel_rfl) (by kernel_rfl) (by kernel_rfl) ?_
 refine WL.storeI hE hS 0 rfl (ApiStop.cells x70) (runs_plain rfl) rfl rfl rfl ty99 rfl rfl rfl rfl ?_; clear hE hS a w; intro a w hE hS
 refine WL.nil ?_
 refine ⟨⟨fun h => absurd h (by decide), fun _ => (hS.tail)⟩, ?_⟩
 refine Rg.done (by kernel_rfl) ?_
 subst hK54
 refine W.ret ?_
 refine finG (fn := Tryz.f44) (rs := [.cell 4 99]) (vs := [_]) hE rfl ⟨⟨_, rfl, .inl ⟨_, rfl, hS.seesAt 0 rfl, ty99⟩⟩, trivial⟩ ?_
 obtain rfl := Option.some.inj hr
 replace hS := hS.tail
 replace hS := hS.tail
 replace hS := hS.tail
 exact ⟨_, s, rfl, (Sg.Le.refl _), rfl, hS⟩
set_option maxHeartbeats 8000000 in
theorem GuideNetoff_ok  {w : World} {s : Sg} {R : List HP} {x0 : GuideNet} {a0_0 : Option Addr} {c0_0 : Nat} {a0_1 : Option Addr} {c0_1 : Nat} {x1 : GuideRide} (hS : St w s (R)) (h0_0 : Sl 4 RApiTrain s a0_0 c0_0 x0.Day.Trains) (_h0_1 : Sl 1 (RL 1 (RI .i64)) s a0_1 c0_1 x0.Day.Turns) {r : ApiStop} (hr : GuideNetoff x0 x1 = some r) :
  Calls Tryz.prog 43 [.agg (List.toArray [.slice a0_0 x0.Day.Trains.length c0_0, .slice a0_1 x0.Day.Turns.length c0_1, vi x0.least]), .agg (GuideRide.cells x1).toArray].toArray w (fun e w => ∃ (cs0 : List Value) (t : Sg), e = .returned (.agg cs0.toArray) ∧ s.Le t ∧ RApiStop t cs0 r ∧ St w t (R)) := by
 refine enter Tryz.func43 rfl rfl rfl fun a hE => ?_
 rw [GuideNetoff] at hr
 refine W.seq (W.region ?_)
 refine WL.box hE hS (runs_plain rfl) rfl rfl rfl ?_; clear hE hS a w; intro b51 a w hE hS
 refine WL.box hE hS (runs_plain rfl) rfl rfl rfl ?_; clear hE hS a w; intro b52 a w hE hS
 refine WL.alloc hE hS (runs_plain rfl) zr99 rfl ?_; clear hE hS a w; intro b53 a w hE hS
 refine WL.nil ?_
 refine W.seq ?_
 refine W.gen fun K54 hK54 => ?_
 refine W.regionE (sel (fun w => St w s (pc b53 #[vi 0, vi 0, vi 0, vi 0] 99 :: pc b52 (GuideRide.cells x1).toArray 95 :: pc b51 #[.slice a0_0 x0.Day.Trains.length c0_0, .slice a0_1 x0.Day.Turns.length c0_1, vi x0.least] 91 :: R)) (fun w => St w s (pc b52 (GuideRide.cells x1).toArray 95 :: pc b51 #[.slice a0_0 x0.Day.Trains.length c0_0, .slice a0_1 x0.Day.Turns.length c0_1, vi x0.least] 91 :: R))) (fun b i => cond b ([0, 1, 2, 3, 4, 5, 6, 7, 8, 9, 10, 11].contains i) ([0, 1, 2, 3, 4, 5, 6, 7, 8, 9, 10, 11, 12].contains i)) mixed ?_
 replace hS := hS.drew
 refine tP (i := 0) hE rfl (by kernel_rfl) (Gives.fld hE rfl fl91_0) rfl hS (hS.tail) fun a hE => ?_
 refine tP (i := 1) hE rfl (by kernel_rfl) (Gives.fld hE rfl fl25_0) rfl hS (hS.tail) fun a hE => ?_
 refine tT (i := 2) true rfl hE rfl (by kernel_rfl) (Gives.loadB hE 2 rfl rfl rfl ty22) rfl hS (hS.tail) fun a hE => ?_
 refine tP (i := 3) hE rfl (by kernel_rfl) (Gives.fld hE rfl fl95_0) rfl hS (hS.tail) fun a hE => ?_
 refine tT (i := 4) true rfl hE rfl (by kernel_rfl) (Gives.loadB hE 1 rfl rfl rfl ty3) rfl hS (hS.tail) fun a hE => ?_
 obtain ⟨x55, hx56, hr⟩ := bindS hr
 obtain ⟨hi57, hlt58, hy59⟩ := gx_some hx56
 obtain ⟨cs60, hl61, hR62, hat63⟩ := h0_0.at hy59
 obtain ⟨a64, c65, a67, c68, rfl, h66, h69⟩ := hR62
 refine tP (i := 5) hE rfl (by kernel_rfl) (Gives.idx hE (x1.Train).toNat rfl rfl sl22 hi57 hlt58 (h0_0.aok hlt58)) rfl hS (hS.tail) fun a hE => ?_
 refine tP (i := 6) hE rfl (by kernel_rfl) (Gives.fld hE rfl fl111_2) rfl hS (hS.tail) fun a hE => ?_
 refine tT (i := 7) true rfl hE rfl (by kernel_rfl) (Gives.load1 hE rfl (fun w h => (hat63 w _ h).one rfl) ty109) rfl hS (hS.tail) fun a hE => ?_
 refine tP (i := 8) hE rfl (by kernel_rfl) (Gives.fld hE rfl fl95_2) rfl hS (hS.tail) fun a hE => ?_
 refine tT (i := 9) true rfl hE rfl (by kernel_rfl) (Gives.loadB hE 1 rfl rfl rfl ty3) rfl hS (hS.tail) fun a hE => ?_
 obtain ⟨x70, hx71, hr⟩ := bindS hr
 obtain ⟨hi72, hlt73, hy74⟩ := gx_some hx71
 obtain ⟨cs75, hl76, hR77, hat78⟩ := h66.at hy74
 subst hR77
 refine tP (i := 10) hE rfl (by kernel_rfl) (Gives.idx hE (x1.Off).toNat rfl rfl sl109 hi72 hlt73 (h66.aok hlt73)) rfl hS (hS.tail) fun a hE => ?_
 refine tT (i := 11) true rfl hE rfl (by kernel_rfl) (Gives.loadA hE rfl (fun w h => hat78 w _ h) ty99) rfl hS (hS.tail) fun a hE => ?_
 refine Rg.one (i := 12) false true rfl (by kernel_rfl) (by kernel_rfl) (by kernel_rfl) ?_
 refine WL.storeI hE hS 0 rfl (ApiStop.cells x70) (runs_plain rfl) rfl rfl rfl ty99 rfl rfl rfl rfl ?_; clear hE hS a w; intro a w hE hS
 refine WL.nil ?_
 refine ⟨⟨fun h => absurd h (by decide), fun _ => (hS.tail)⟩, ?_⟩
 refine Rg.done (by kernel_rfl) ?_
 subst hK54
 refine W.ret ?_
 refine finG (fn := Tryz.f43) (rs := [.cell 4 99]) (vs := [_]) hE rfl ⟨⟨_, rfl, .inl ⟨_, rfl, hS.seesAt 0 rfl, ty99⟩⟩, trivial⟩ ?_
 obtain rfl := Option.some.inj hr
 replace hS := hS.tail
 replace hS := hS.tail
 replace hS := hS.tail
 exact ⟨_, s, rfl, (Sg.Le.refl _), rfl, hS⟩
set_option maxHeartbeats 8000000 in
theorem GuideNetbehind_ok  {w : World} {s : Sg} {R : List HP} {x0 : GuideNet} {a0_0 : Option Addr} {c0_0 : Nat} {a0_1 : Option Addr} {c0_1 : Nat} {x1 : GuideRide} (hS : St w s (R)) (h0_0 : Sl 4 RApiTrain s a0_0 c0_0 x0.Day.Trains) (h0_1 : Sl 1 (RL 1 (RI .i64)) s a0_1 c0_1 x0.Day.Turns) {r : (List GuideRide)} (hr : GuideNetbehind x0 x1 = some r) :
  Calls Tryz.prog 47 [.agg (List.toArray [.slice a0_0 x0.Day.Trains.length c0_0, .slice a0_1 x0.Day.Turns.length c0_1, vi x0.least]), .agg (GuideRide.cells x1).toArray].toArray w (fun e w => ∃ (lb0 : List Value) (t : Sg), e = .returned (.func (.func 100) #[] lb0.toArray) ∧ s.Le t ∧ Iter Tryz.prog 100 lb0 (fun x => [Value.agg (GuideRide.cells x).toArray]) t r ∧ St w t (R)) := by
 refine enter Tryz.func47 rfl rfl rfl fun a hE => ?_
 rw [GuideNetbehind] at hr
 refine W.seq (W.region ?_)
 refine WL.box hE hS (runs_plain rfl) rfl rfl rfl ?_; clear hE hS a w; intro b51 a w hE hS
 refine WL.box hE hS (runs_plain rfl) rfl rfl rfl ?_; clear hE hS a w; intro b52 a w hE hS
 refine vp hS hE rfl rfl fun a hE => WL.nil ?_
 refine W.seq (W.region (vP hS hE (Gives.loadBA hE 1 rfl rfl ty91) rfl fun a hE => ?_))
 refine vP hS hE (Gives.loadBA hE 0 rfl rfl ty95) rfl fun a hE => ?_
 obtain ⟨q53, hq54, hr⟩ := bindS hr
 have hc_ := GuideNetoff_ok hS h0_0 h0_1 hq54
 refine WL.fnq hE (hc_) (runs_plain rfl) bd43 rfl rfl rfl ?_
 clear hE hS hc_; rintro e w ⟨cs55, s57, rfl, hle58, h56, hS⟩; refine ⟨_, rfl, ?_⟩; clear a; intro a hE
 replace h0_0 := Sl.mono RApiTrain.mono hle58 h0_0
 replace h0_1 := Sl.mono (RL.mono RI.mono) hle58 h0_1
 subst h56
 refine WL.alloc hE hS (runs_plain rfl) zr99 rfl ?_; clear hE hS a w; intro b59 a w hE hS
 refine WL.storeI hE hS 0 rfl (ApiStop.cells q53) (runs_plain rfl) rfl rfl rfl ty99 rfl rfl rfl rfl ?_; clear hE hS a w; intro a w hE hS
 refine WL.nil ?_
 refine W.seq (W.region (vP hS hE (Gives.loadBA hE 2 rfl rfl ty91) rfl fun a hE => ?_))
 refine vP hS hE (Gives.fld hE rfl fl99_0) rfl fun a hE => ?_
 refine vP hS hE (Gives.loadB hE 0 rfl rfl rfl ty3) rfl fun a hE => ?_
 refine vP hS hE (Gives.fld hE rfl fl99_2) rfl fun a hE => ?_
 refine vP hS hE (Gives.loadB hE 0 rfl rfl rfl ty3) rfl fun a hE => ?_
 refine vP hS hE (Gives.fld hE rfl fl91_1) rfl fun a hE => ?_
 refine vP hS hE (Gives.loadB hE 2 rfl rfl rfl ty3) rfl fun a hE => ?_
 refine vp hS hE rfl rfl fun a hE => ?_
 refine vP hS hE (Gives.fld hE rfl fl95_0) rfl fun a hE => ?_
 refine vP hS hE (Gives.loadB hE 1 rfl rfl rfl ty3) rfl fun a hE => ?_
 obtain ⟨q60, hq61, hr⟩ := bndS hr
 have hc_ := GuideNetrides_ok hS h0_0 h0_1 hq61
 refine WL.fnq hE (hc_) (runs_plain rfl) bd49 rfl rfl rfl ?_
 clear hE hS hc_; rintro e w ⟨lb62, s64, rfl, hle65, h63, hS⟩; refine ⟨_, rfl, ?_⟩; clear a; intro a hE
 replace h0_0 := Sl.mono RApiTrain.mono hle65 h0_0
 replace h0_1 := Sl.mono (RL.mono RI.mono) hle65 h0_1
 refine vp hS hE rfl rfl fun a hE => WL.nil ?_
 refine W.ret ?_
 refine finG (fn := Tryz.f47) (rs := [.tmp 4]) (vs := [_]) hE rfl ⟨rfl, trivial⟩ ?_
 obtain rfl := Option.some.inj hr
 replace hS := hS.tail
 replace hS := hS.tail
 replace hS := hS.tail
 exact ⟨lb62, s64, rfl, (Sg.Le.trans hle58 hle65), h63, hS⟩
set_option maxHeartbeats 8000000 in
theorem SlicesAppendSeqLguideRide_v1_ok  {w : World} {s : Sg} {R : List HP} {x0 : List GuideRide} {a_v0 : Option Addr} {c_v0 n_v0 : Nat} {cs_v0 : List Value} {x1 : List GuideRide} {lb1 : List Value} (hS : St w s (vecC 95 3 a_v0 c_v0 n_v0 cs_v0 :: R)) (h_v0 : Ev 3 RGuideRide s cs_v0 x0) (hn_v0 : x0.length = n_v0) (h1 : Iter Tryz.prog 100 lb1 (fun x => [Value.agg (GuideRide.cells x).toArray]) s x1) {r : (List GuideRide)} (hr : SlicesAppendSeqLguideRide_v1 x0 x1 = some r) :
  Calls Tryz.prog 183 [.slice a_v0 n_v0 c_v0, .func (.func 100) #[] lb1.toArray].toArray w (fun e w => ∃ (a0 : Option Addr) (c0 n0 : Nat) (cs0 : List Value) (t : Sg), e = .returned (.slice a0 n0 c0) ∧ s.Le t ∧ Ev 3 RGuideRide t cs0 r ∧ r.length = n0 ∧ St w t (vecC 95 3 a0 c0 n0 cs0 :: R)) := by
 refine enter Tryz.func183 rfl rfl rfl fun a hE => ?_
 rw [SlicesAppendSeqLguideRide_v1] at hr
 subst hn_v0
 refine W.seq (W.region ?_)
 refine WL.box hE hS (runs_plain rfl) rfl rfl rfl ?_; clear hE hS a w; intro b51 a w hE hS
 refine vp hS hE rfl rfl fun a hE => WL.nil ?_
 refine W.seq ?_
 refine W.seq (W.region (vp hS hE rfl rfl fun a hE => WL.nil ?_))
 refine W.block ?_
 obtain ⟨q53, hq52, hr⟩ := bindS hr
 refine W.cut (fun a w => ∃ (q65 : List GuideRide), ∃ (a66 : Option Addr), ∃ (c67 : Nat), ∃ (n69 : Nat), ∃ (cs70 : List Value), ∃ (D59 : Nat) (s63 : Sg), s.Le s63 ∧ q65 = q53 ∧ Ev 3 RGuideRide s63 cs70 q65 ∧ q65.length = n69 ∧ Rep a 13 [(2, pp b51), (4294967295, vi (D59 : Nat))] ∧ St w s63 (pt D59 (.deferred (some [])) :: pc b51 #[.slice a66 n69 c67] 27 :: vecC 95 3 a66 c67 n69 cs70 :: R)) ?_ ?_
 ·refine W.rangeFunc (l := x1) (ps := [7]) [] rfl hE rfl hS rfl h1 bd100 (fun _ => rfl) rfl (fun pre56 s63 Q_ => ∃ (rest55 : List GuideRide), ∃ (q65 : List GuideRide), ∃ (a66 : Option Addr), ∃ (c67 : Nat), ∃ (n69 : Nat), ∃ (cs70 : List Value), x1 = pre56 ++ rest55 ∧ SlicesAppendSeqLguideRide_v1.loop1 rest55 q65 = some q53 ∧ s.Le s63 ∧ Ev 3 RGuideRide s63 cs70 q65 ∧ q65.length = n69 ∧ Q_ = pc b51 #[.slice a66 n69 c67] 27 :: vecC 95 3 a66 c67 n69 cs70 :: R) (fun _ _ _ => False) (fun _ _ _ h => (by obtain ⟨rest55, q65, a66, c67, n69, cs70, _, _, hle_, _⟩ := h; exact hle_)) ⟨x1, x0, a_v0, c_v0, x0.length, cs_v0, rfl, hq52, Sg.Le.refl _, h_v0, (rfl), rfl⟩ (fun x54 (b72 : Nat) => [(2, pp b51), (5, pp b72)]) (fun x54 (b72 : Nat) => [pc b72 (GuideRide.cells x54).toArray 95]) ?_ ?_ ?_ ?_
  ·intro x54 a w t62 R L60 hE hS
   refine W.region ?_
   refine WL.alloc hE hS (runs_plain rfl) zr95 rfl ?_; clear hE hS a w; intro b72 a w hE hS
   refine WL.storeI hE hS 0 rfl (GuideRide.cells x54) (runs_plain rfl) rfl rfl rfl ty95 rfl rfl rfl rfl ?_; clear hE hS a w; intro a w hE hS
   refine WL.nil ?_
   exact ⟨b72, hE.pick _ ⟨rfl, rfl, trivial⟩, hS⟩
  ·intro pre56 x54 b72 s63 Q_ T_ L60 a w hpre_ hI_ hE hS
   obtain ⟨rest55, q65, a66, c67, n69, cs70, hl57, hq52, hle64, h68, rfl, rfl⟩ := hI_
   obtain ⟨rest55, rfl⟩ := pre_next hl57 hpre_
   rw [SlicesAppendSeqLguideRide_v1.loop1] at hq52
   replace hS : St w s63 (pc b72 (GuideRide.cells x54).toArray 95 :: pc b51 #[.slice a66 q65.length c67] 27 :: vecC 95 3 a66 c67 q65.length cs70 :: (R ++ T_)) := hS
   generalize hT73 : R ++ T_ = R at hS
   refine W.gen fun K74 hK74 => ?_
   replace h1 := Iter.mono hle64 h1
   replace h_v0 := Ev.mono RGuideRide.mono hle64 h_v0
   refine W.block ?_
   refine W.region ?_
   refine vP hS hE (Gives.loadB hE 1 rfl rfl rfl ty27) rfl fun a hE => ?_
   refine vP hS hE (Gives.loadBA hE 0 rfl rfl ty95) rfl fun a hE => ?_
   refine WL.lit hE hS (e := 95) (es := 3) (vs := [(0, .agg (GuideRide.cells x54).toArray)]) (cs := [vi x54.Train, vi x54.On, vi x54.Off]) (runs_plain rfl) rfl (by kernel_rfl) rfl ?_; clear hE hS a w; intro b75 a w hE hS
   obtain ⟨x76, hx77, hq52⟩ := bindS hq52
   refine WL.appD hE hS 2 (m := 1) (runs_plain rfl) rfl rfl rfl ap27 rfl h68 rfl (xs := [x54]) (Ev.cons (c1 := [vi x54.Train, vi x54.On, vi x54.Off]) rfl rfl (Ev.nil)) rfl rfl hx77 rfl ?_; clear hE hS a w; intro a78 c79 cs80 a w h81 hE hS
   refine WL.storeI hE hS 1 rfl [.slice a78 x76.length c79] (runs_plain rfl) rfl rfl rfl ty27 rfl rfl rfl rfl ?_; clear hE hS a w; intro a w hE hS
   refine WL.nil ?_
   replace hS := hS.tail
   subst hK74
   subst hT73
   exact ⟨s63, _, ⟨rest55, x76, a78, c79, x76.length, cs80, hl57.trans (by simp), hq52, hle64, h81, (rfl), rfl⟩, hS⟩
  ·intro s63 Q_ D59 a w hI_ hE hS
   obtain ⟨rest55, q65, a66, c67, n69, cs70, hl57, hq52, hle64, h68, rfl, rfl⟩ := hI_
   obtain rfl := pre_end hl57
   rw [SlicesAppendSeqLguideRide_v1.loop1] at hq52
   exact ⟨q65, _, _, _, _, D59, s63, hle64, Option.some.inj hq52, h68, rfl, hE.pick _ ⟨rfl, rfl, trivial⟩, hS⟩
  exact fun _ _ _ _ _ _ _ h => h.elim
 clear hE hS a w; rintro a w ⟨q65, a66, c67, n69, cs70, D59, s63, hle64, rfl, h68, rfl, hE, hS⟩
 replace h1 := Iter.mono hle64 h1
 replace h_v0 := Ev.mono RGuideRide.mono hle64 h_v0
 refine W.seq (W.region (vP hS hE (Gives.loadB hE 1 rfl rfl rfl ty27) rfl fun a hE => ?_))
 refine vp hS hE rfl rfl fun a hE => WL.nil ?_
 refine W.ret ?_
 refine finGM (fn := Tryz.f183) (rs := [.tmp 4]) (vs := [.slice a66 q65.length c67]) hE hS 0 rfl rfl ?_
 clear hS; intro w hS
 refine ⟨⟨rfl, trivial⟩, ?_⟩
 obtain rfl := Option.some.inj hr
 replace hS := hS.tail
 exact ⟨a66, c67, q65.length, cs70, s63, rfl, hle64, h68, rfl, hS⟩
set_option maxHeartbeats 8000000 in
theorem GuideNetends_ok  {w : World} {s : Sg} {R : List HP} {x0 : GuideNet} {a0_0 : Option Addr} {c0_0 : Nat} {a0_1 : Option Addr} {c0_1 : Nat} {x1 : List GuideRide} {a1 : Option Addr} {c1 : Nat} (hS : St w s (R)) (h0_0 : Sl 4 RApiTrain s a0_0 c0_0 x0.Day.Trains) (h0_1 : Sl 1 (RL 1 (RI .i64)) s a0_1 c0_1 x0.Day.Turns) (h1 : Sl 3 RGuideRide s a1 c1 x1) {r : (List (List (GuidePlace × Bool)))} (hr : GuideNetends x0 x1 = some r) :
  Calls Tryz.prog 167 [.agg (List.toArray [.slice a0_0 x0.Day.Trains.length c0_0, .slice a0_1 x0.Day.Turns.length c0_1, vi x0.least]), .slice a1 x1.length c1].toArray w (fun e w => ∃ (bs0 : List Nat) (t : Sg), e = .returned (.agg (mcells 4 bs0).toArray) ∧ s.Le t ∧ bs0.length = 4 ∧ St w t (mapsV keyGuidePlace.f Value.bool bs0 r :: R)) := by
 refine enter Tryz.func167 rfl rfl rfl fun a hE => ?_
 rw [GuideNetends] at hr
 refine W.seq (W.region ?_)
 refine WL.box hE hS (runs_plain rfl) rfl rfl rfl ?_; clear hE hS a w; intro b51 a w hE hS
 refine WL.alloc hE hS (runs_plain rfl) zr264 rfl ?_; clear hE hS a w; intro b52 a w hE hS
 replace hS : St w s (pc b52 (mcells 4 []).toArray 264 :: pc b51 #[.slice a0_0 x0.Day.Trains.length c0_0, .slice a0_1 x0.Day.Turns.length c0_1, vi x0.least] 91 :: R) := hS
 refine WL.nil ?_
 refine W.seq (W.region ?_)
 refine WL.alloc hE hS (runs_plain rfl) zr264 rfl ?_; clear hE hS a w; intro b53 a w hE hS
 replace hS := hS.mapsNil (fk := keyGuidePlace.f) (fv := Value.bool)
 replace hS : St w s (mapsV keyGuidePlace.f Value.bool [] [] :: pc b53 (mcells 4 []).toArray 264 :: pc b52 (mcells 4 []).toArray 264 :: pc b51 #[.slice a0_0 x0.Day.Trains.length c0_0, .slice a0_1 x0.Day.Turns.length c0_1, vi x0.least] 91 :: R) := hS
 refine WL.nil ?_
 refine W.seq (W.region (v2 hS hE rfl rfl rfl rfl fun a hE => WL.nil ?_))
 refine W.seq ?_
 refine W.seq (W.region (vp hS hE rfl rfl fun a hE => WL.nil ?_))
 obtain ⟨q55, hq54, hr⟩ := bindS hr
 refine W.cut (fun a w => ∃ (q65 : List GuideRide), ∃ (q69 : List (List (GuidePlace × Bool))), ∃ (a66 : Option Addr), ∃ (c67 : Nat), ∃ (bs70 : List Nat), ∃ (s63 : Sg), s.Le s63 ∧ (q65, q69) = q55 ∧ Sl 3 RGuideRide s63 a66 c67 q65 ∧ Rep a 48 [(4, pp b52), (5, pp b53)] ∧ St w s63 (mapsV keyGuidePlace.f Value.bool bs70 q69 :: pc b53 (mcells 4 bs70).toArray 264 :: pc b52 (mcells 4 []).toArray 264 :: pc b51 #[.slice a0_0 x0.Day.Trains.length c0_0, .slice a0_1 x0.Day.Turns.length c0_1, vi x0.least] 91 :: R)) ?_ ?_
 ·refine W.block ?_
  refine W.loop (fun m a w => ∃ (rest58 : Nat) (k56 : Nat), ∃ (q65 : List GuideRide), ∃ (q69 : List (List (GuidePlace × Bool))), ∃ (a66 : Option Addr), ∃ (c67 : Nat), ∃ (bs70 : List Nat), ∃ (s63 : Sg), rest58 = m ∧ k56 + rest58 = 4 ∧ s.Le s63 ∧ GuideNetends.loop1 x0 rest58 k56 q65 q69 = some q55 ∧ Sl 3 RGuideRide s63 a66 c67 q65 ∧ Rep a 48 [(2, pp b51), (4, pp b52), (5, pp b53), (6, .slice a66 q65.length c67), (13, vi ((k56 : Nat) : Int))] ∧ St w s63 (mapsV keyGuidePlace.f Value.bool bs70 q69 :: pc b53 (mcells 4 bs70).toArray 264 :: pc b52 (mcells 4 []).toArray 264 :: pc b51 #[.slice a0_0 x0.Day.Trains.length c0_0, .slice a0_1 x0.Day.Turns.length c0_1, vi x0.least] 91 :: R)) (m := 4) ⟨4, 0, x1, [], a1, c1, [], s, rfl, by omega, (Sg.Le.refl _), hq54, h1, hE.pick _ ⟨rfl, rfl, rfl, rfl, rfl, trivial⟩, hS⟩ ?_
  clear hE hS a w hq54; rintro m62 a w ⟨rest58, k56, q65, q69, a66, c67, bs70, s63, rfl, hd59, hle64, hq54, h68, hE, hS⟩
  refine W.gen fun K71 hK71 => ?_
  replace h0_0 := Sl.mono RApiTrain.mono hle64 h0_0
  replace h0_1 := Sl.mono (RL.mono RI.mono) hle64 h0_1
  replace h1 := Sl.mono RGuideRide.mono hle64 h1
  rcases rest58 with _ | rest58
  ·skip
   refine W.seq (W.region (vp hS hE rfl rfl fun a hE => WL.nil ?_))
   refine W.seq ?_
   refine W.condF hE rfl (decide_eq_false (by omega)) ?_
   subst hK71
   refine W.exit rfl ?_
   exact ⟨q65, q69, a66, c67, bs70, s63, hle64, Option.some.inj hq54, h68, hE.pick _ ⟨rfl, rfl, trivial⟩, hS⟩
  have hlt60 : k56 < 4 := by omega
  rw [GuideNetends.loop1] at hq54
  refine W.seq (W.region (vp hS hE rfl rfl fun a hE => WL.nil ?_))
  refine W.seq ?_
  refine W.condT hE rfl (decide_eq_true (by omega)) ?_
  refine W.skip ?_
  refine W.seq ?_
  refine W.block ?_
  refine W.seq (W.region (v2 hS hE rfl rfl rfl rfl fun a hE => WL.nil ?_))
  refine W.seq (W.region (vp hS hE rfl rfl fun a hE => ?_))
  refine WL.mkMap (fk := keyGuidePlace.f) (fv := Value.bool) hE hS (runs_plain rfl) rfl ?_; clear hE hS a w; intro b72 a w hE hS
  obtain ⟨_, hx73, hq54⟩ := bindS hq54
  obtain ⟨h74, h75⟩ := mst_some hx73
  have hl76 := hS.mapsLen 1 rfl
  refine vP hS hE (Gives.idxA hE (bs70).length rfl rfl ar264 (by rw [hl76]; exact h74) (by rw [hl76]; exact h75) ⟨_, _, rfl⟩) rfl fun a hE => ?_
  refine WL.storeM hE hS 2 rfl (runs_plain rfl) rfl rfl ty263 (by rw [hl76]; exact h75) rfl ?_; clear hE hS a w; intro a w hE hS
  replace hS := hS.mapsSnoc 1 0 rfl rfl
  refine WL.nil ?_
  refine W.seq (W.region ?_)
  replace hS := hS.vecNil 95 3
  refine vp hS hE rfl rfl fun a hE => WL.nil ?_
  refine W.seq ?_
  refine W.seq (W.region (vp hS hE rfl rfl fun a hE => ?_))
  refine vP hS hE (Gives.len hE rfl sl27) rfl fun a hE => ?_
  refine vp hS hE rfl rfl fun a hE => WL.nil ?_
  obtain ⟨q79, hq78, hq54⟩ := bindS hq54
  refine W.cut (fun a w => ∃ (q89 : List GuideRide), ∃ (q96 : List (List (GuidePlace × Bool))), ∃ (a90 : Option Addr), ∃ (c91 : Nat), ∃ (n93 : Nat), ∃ (cs94 : List Value), ∃ (bs97 : List Nat), ∃ (s87 : Sg), s63.Le s87 ∧ (q89, q96) = q79 ∧ Ev 3 RGuideRide s87 cs94 q89 ∧ q89.length = n93 ∧ Rep a 48 [(2, pp b51), (4, pp b52), (5, pp b53), (8, .slice a90 n93 c91), (13, vi ((k56 : Nat) : Int))] ∧ St w s87 (vecC 95 3 a90 c91 n93 cs94 :: mapsV keyGuidePlace.f Value.bool bs97 q96 :: pc b53 (mcells 4 bs97).toArray 264 :: pc b52 (mcells 4 []).toArray 264 :: pc b51 #[.slice a0_0 x0.Day.Trains.length c0_0, .slice a0_1 x0.Day.Turns.length c0_1, vi x0.least] 91 :: R)) ?_ ?_
  ·refine W.block ?_
   refine W.loop (fun m a w => ∃ (rest82 : List GuideRide) (k80 : Nat), ∃ (q89 : List GuideRide), ∃ (q96 : List (List (GuidePlace × Bool))), ∃ (a90 : Option Addr), ∃ (c91 : Nat), ∃ (n93 : Nat), ∃ (cs94 : List Value), ∃ (bs97 : List Nat), ∃ (s87 : Sg), rest82.length = m ∧ q65.drop k80 = rest82 ∧ s63.Le s87 ∧ GuideNetends.loop2 x0 k56 rest82 q89 q96 = some q79 ∧ Ev 3 RGuideRide s87 cs94 q89 ∧ q89.length = n93 ∧ Rep a 48 [(2, pp b51), (4, pp b52), (5, pp b53), (7, vi ((k56 : Nat) : Int)), (8, .slice a90 n93 c91), (13, vi ((k56 : Nat) : Int)), (19, .slice a66 q65.length c67), (20, vi ((q65).length : Int)), (21, vi ((k80 : Nat) : Int))] ∧ St w s87 (vecC 95 3 a90 c91 n93 cs94 :: mapsV keyGuidePlace.f Value.bool bs97 q96 :: pc b53 (mcells 4 bs97).toArray 264 :: pc b52 (mcells 4 []).toArray 264 :: pc b51 #[.slice a0_0 x0.Day.Trains.length c0_0, .slice a0_1 x0.Day.Turns.length c0_1, vi x0.least] 91 :: R)) (m := q65.length) ⟨q65, 0, [], (q69 ++ [[]]), none, 0, 0, [], (bs70 ++ [b72]), s63, rfl, rfl, (Sg.Le.refl _), hq78, (Ev.nil), (rfl), hE.pick _ ⟨rfl, rfl, rfl, rfl, rfl, rfl, rfl, rfl, rfl, trivial⟩, hS⟩ ?_
   clear hE hS a w hq78; rintro m86 a w ⟨rest82, k80, q89, q96, a90, c91, n93, cs94, bs97, s87, rfl, hd83, hle88, hq78, h92, rfl, hE, hS⟩
   refine W.gen fun K98 hK98 => ?_
   replace h68 := Sl.mono RGuideRide.mono hle88 h68
   replace h0_0 := Sl.mono RApiTrain.mono hle88 h0_0
   replace h0_1 := Sl.mono (RL.mono RI.mono) hle88 h0_1
   rcases rest82 with _ | ⟨x81, rest82⟩
   ·have hlt84 := drop_nil hd83
    refine W.seq (W.region (vp hS hE rfl rfl fun a hE => WL.nil ?_))
    refine W.seq ?_
    refine W.condF hE rfl (decide_eq_false (by omega)) ?_
    subst hK98
    refine W.exit rfl ?_
    exact ⟨q89, q96, a90, c91, q89.length, cs94, bs97, s87, hle88, Option.some.inj hq78, h92, rfl, hE.pick _ ⟨rfl, rfl, rfl, rfl, rfl, trivial⟩, hS⟩
   obtain ⟨hlt84, hx85, hd83⟩ := drop_cons hd83
   rw [GuideNetends.loop2] at hq78
   refine W.seq (W.region (vp hS hE rfl rfl fun a hE => WL.nil ?_))
   refine W.seq ?_
   refine W.condT hE rfl (decide_eq_true (by omega)) ?_
   refine W.skip ?_
   refine W.seq ?_
   refine W.block ?_
   refine W.seq (W.region ?_)
   obtain ⟨cs99, hl100, hR101, hat102⟩ := h68.at hx85
   subst hR101
   refine vP hS hE (Gives.idx hE k80 rfl rfl sl27 rfl hlt84 (h68.aok hlt84)) rfl fun a hE => ?_
   refine vP hS hE (Gives.loadA hE rfl (fun w h => hat102 w _ h) ty95) rfl fun a hE => ?_
   refine WL.alloc hE hS (runs_plain rfl) zr95 rfl ?_; clear hE hS a w; intro b103 a w hE hS
   refine WL.storeI hE hS 0 rfl (GuideRide.cells x81) (runs_plain rfl) rfl rfl rfl ty95 rfl rfl rfl rfl ?_; clear hE hS a w; intro a w hE hS
   refine WL.nil ?_
   refine W.seq (W.region (vP hS hE (Gives.fld hE rfl fl95_0) rfl fun a hE => ?_))
   refine vP hS hE (Gives.loadB hE 0 rfl rfl rfl ty3) rfl fun a hE => ?_
   refine vP hS hE (Gives.fld hE rfl fl95_2) rfl fun a hE => ?_
   refine vP hS hE (Gives.loadB hE 0 rfl rfl rfl ty3) rfl fun a hE => ?_
   refine vP hS hE (Gives.build hE (vs := [(0, vi x81.Train), (1, vi x81.Off)]) [vi x81.Train, vi x81.Off] rfl (by kernel_rfl)) rfl fun a hE => ?_
   refine WL.alloc hE hS (runs_plain rfl) zr267 rfl ?_; clear hE hS a w; intro b104 a w hE hS
   refine WL.storeI hE hS 0 rfl [vi x81.Train, vi x81.Off] (runs_plain rfl) rfl rfl rfl ty267 rfl rfl rfl rfl ?_; clear hE hS a w; intro a w hE hS
   refine WL.nil ?_
   refine W.seq ?_
   refine W.seq ?_
   refine W.regionQ (C := fun w => St w s87 (pc b104 #[vi x81.Train, vi x81.Off] 267 :: pc b103 (GuideRide.cells x81).toArray 95 :: vecC 95 3 a90 c91 q89.length cs94 :: mapsV keyGuidePlace.f Value.bool bs97 q96 :: pc b53 (mcells 4 bs97).toArray 264 :: pc b52 (mcells 4 []).toArray 264 :: pc b51 #[.slice a0_0 x0.Day.Trains.length c0_0, .slice a0_1 x0.Day.Turns.length c0_1, vi x0.least] 91 :: R)) mixed (by kernel_rfl) hS.drew ?_
   refine qP hE (Gives.p hE rfl) rfl fun a hE => ?_
   obtain ⟨x105, hx106, hq78⟩ := bindS hq78
   obtain ⟨hi107, hlt108, hy109⟩ := mgx_some hx106
   obtain ⟨b110, hb111⟩ := hS.mapsAt 3 rfl hy109
   refine qP hE (Gives.idxA hE ((((k56 : Nat) : Int)).toNat) rfl rfl ar264 hi107 hlt108 ⟨_, _, rfl⟩) rfl fun a hE => ?_
   refine qP hE (Gives.load1 hE rfl (fun w h => St.mapsSees h 4 rfl hb111) ty263) rfl fun a hE => ?_
   refine qP hE (Gives.loadBA hE 0 rfl rfl ty267) rfl fun a hE => ?_
   refine qP hE (Gives.mapsGetS keyGuidePlace hE 3 (k := (GuidePlace.mk x81.Train x81.Off)) (z := false) hb111 hy109 rfl rfl rfl mp263 zm4) rfl fun a hE => ?_
   refine QL.nil ?_; clear hS w; intro w hS
   refine W.cond hE rfl (fun hc112 => ?_) (fun hc112 => ?_)
   ·replace hq78 := iteT hc112 hq78
    refine W.exit rfl ?_
    refine W.region ?_
    refine vP hS hE (Gives.inc hE rfl (by have := h68.small; omega)) rfl fun a hE => ?_
    refine vp hS hE rfl rfl fun a hE => WL.nil ?_
    replace hS := hS.tail
    replace hS := hS.tail
    subst hK98
    exact ⟨rest82.length, Nat.lt_succ_self _, rest82, k80 + 1, q89, q96, a90, c91, q89.length, cs94, bs97, s87, rfl, hd83, hle88, hq78, h92, rfl, hE.pick _ ⟨rfl, rfl, rfl, rfl, rfl, rfl, rfl, rfl, rfl, trivial⟩, hS⟩
   replace hq78 := iteF hc112 hq78
   refine W.skip ?_
   refine W.seq ?_
   refine W.gen fun K113 hK113 => ?_
   refine W.regionE (sel (fun w => St w s87 (pc b104 #[vi x81.Train, vi x81.Off] 267 :: pc b103 (GuideRide.cells x81).toArray 95 :: vecC 95 3 a90 c91 q89.length cs94 :: mapsV keyGuidePlace.f Value.bool bs97 q96 :: pc b53 (mcells 4 bs97).toArray 264 :: pc b52 (mcells 4 []).toArray 264 :: pc b51 #[.slice a0_0 x0.Day.Trains.length c0_0, .slice a0_1 x0.Day.Turns.length c0_1, vi x0.least] 91 :: R)) (fun w => St w s87 (pc b104 #[vi x81.Train, vi x81.Off] 267 :: pc b103 (GuideRide.cells x81).toArray 95 :: vecC 95 3 a90 c91 q89.length cs94 :: pc b52 (mcells 4 []).toArray 264 :: pc b51 #[.slice a0_0 x0.Day.Trains.length c0_0, .slice a0_1 x0.Day.Turns.length c0_1, vi x0.least] 91 :: R))) (fun b i => cond b ([0, 1, 2, 3].contains i) ([0, 1, 2, 3, 4].contains i)) mixed ?_
   replace hS := hS.drew
   refine tP (i := 0) hE rfl (by kernel_rfl) (Gives.p hE rfl) rfl hS ((hS.dropAt 3).dropAt 3) fun a hE => ?_
   obtain ⟨x114, hx115, hq78⟩ := bindS hq78
   obtain ⟨hi116, hlt117, hy118⟩ := mgx_some hx115
   obtain ⟨b119, hb120⟩ := hS.mapsAt 3 rfl hy118
   refine tP (i := 1) hE rfl (by kernel_rfl) (Gives.idxA hE ((((k56 : Nat) : Int)).toNat) rfl rfl ar264 hi116 hlt117 ⟨_, _, rfl⟩) rfl hS ((hS.dropAt 3).dropAt 3) fun a hE => ?_
   refine tT (i := 2) true rfl hE rfl (by kernel_rfl) (Gives.load1 hE rfl (fun w h => St.mapsSees h 4 rfl hb120) ty263) rfl hS ((hS.dropAt 3).dropAt 3) fun a hE => ?_
   have hT := tw_sel (A := fun w => St w s87 _) (B := fun w => St w s87 _) (w := _) (x := true) (y := true) (fun _ => hS) (fun _ => ((hS.dropAt 3).dropAt 3))
   have hF := hS; replace hS := hS
   refine Rg.take (i := 3) true rfl hE rfl (by kernel_rfl) (runs_plain rfl) (Gives.loadBA hE 0 rfl rfl ty267) rfl hT fun a hE => ?_
   replace hS := hF; clear hF hT
   refine Rg.one (i := 4) false true rfl (by kernel_rfl) (by kernel_rfl) (by kernel_rfl) ?_
   refine WL.mapsSetS keyGuidePlace hE hS 3 (k := (GuidePlace.mk x81.Train x81.Off)) (v := true) (.inl rfl) hb120 hy118 (runs_plain rfl) rfl rfl rfl rfl mp263 rfl ?_; clear hE hS a w; intro a w hE hS
   refine WL.nil ?_
   refine ⟨⟨fun h => absurd h (by decide), fun _ => ((hS.dropAt 3).dropAt 3)⟩, ?_⟩
   refine Rg.done (by kernel_rfl) ?_
   subst hK113
   refine W.region ?_
   refine vp hS hE rfl rfl fun a hE => ?_
   refine vP hS hE (Gives.loadBA hE 6 rfl rfl ty91) rfl fun a hE => ?_
   refine vP hS hE (Gives.loadBA hE 1 rfl rfl ty95) rfl fun a hE => ?_
   obtain ⟨q121, hq122, hq78⟩ := bindS hq78
   have hc_ := GuideNetbehind_ok hS h0_0 h0_1 hq122
   refine WL.fnq hE (hc_) (runs_plain rfl) bd47 rfl rfl rfl ?_
   clear hE hS hc_; rintro e w ⟨lb123, s125, rfl, hle126, h124, hS⟩; refine ⟨_, rfl, ?_⟩; clear a; intro a hE
   replace h68 := Sl.mono RGuideRide.mono hle126 h68
   replace h0_0 := Sl.mono RApiTrain.mono hle126 h0_0
   replace h0_1 := Sl.mono (RL.mono RI.mono) hle126 h0_1
   replace h92 := Ev.mono RGuideRide.mono hle126 h92
   obtain ⟨q127, hq128, hq78⟩ := bindS hq78
   replace hS := hS.front 2 rfl
   have hc_ := SlicesAppendSeqLguideRide_v1_ok hS h92 rfl h124 hq128
   refine WL.fnq hE (hc_) (runs_plain rfl) bd183 rfl rfl rfl ?_
   clear hE hS hc_; rintro e w ⟨a129, c130, n131, cs132, s135, rfl, hle136, h133, rfl, hS⟩; refine ⟨_, rfl, ?_⟩; clear a; intro a hE
   replace h68 := Sl.mono RGuideRide.mono hle136 h68
   replace h0_0 := Sl.mono RApiTrain.mono hle136 h0_0
   replace h0_1 := Sl.mono (RL.mono RI.mono) hle136 h0_1
   replace h124 := Iter.mono hle136 h124
   replace h92 := Ev.mono RGuideRide.mono hle136 h92
   refine vp hS hE rfl rfl fun a hE => WL.nil ?_
   refine W.region ?_
   refine vP hS hE (Gives.inc hE rfl (by have := h68.small; omega)) rfl fun a hE => ?_
   refine vp hS hE rfl rfl fun a hE => WL.nil ?_
   replace hS := hS.dropAt 1
   replace hS := hS.dropAt 1
   subst hK98
   exact ⟨rest82.length, Nat.lt_succ_self _, rest82, k80 + 1, q127, (q96.set ((((k56 : Nat) : Int)).toNat) (mput x114 (GuidePlace.mk x81.Train x81.Off) true)), a129, c130, q127.length, cs132, bs97, s135, rfl, hd83, (Sg.Le.trans (Sg.Le.trans hle88 hle126) hle136), hq78, h133, rfl, hE.pick _ ⟨rfl, rfl, rfl, rfl, rfl, rfl, rfl, rfl, rfl, trivial⟩, hS⟩
  clear hE hS a w; rintro a w ⟨q89, q96, a90, c91, n93, cs94, bs97, s87, hle88, rfl, h92, rfl, hE, hS⟩
  dsimp only at hq54
  replace h68 := Sl.mono RGuideRide.mono hle88 h68
  replace h0_0 := Sl.mono RApiTrain.mono hle88 h0_0
  replace h0_1 := Sl.mono (RL.mono RI.mono) hle88 h0_1
  refine W.region ?_
  refine v2 hS hE rfl rfl rfl rfl fun a hE => WL.nil ?_
  refine W.region ?_
  refine vP hS hE (Gives.inc hE rfl (by omega)) rfl fun a hE => ?_
  refine vp hS hE rfl rfl fun a hE => WL.nil ?_
  have hF := hS.fixD RGuideRide.mono 0 rfl h92 rfl; clear hS; obtain ⟨s137, hle138, hS, h139⟩ := hF
  replace h0_0 := Sl.mono RApiTrain.mono hle138 h0_0
  replace h0_1 := Sl.mono (RL.mono RI.mono) hle138 h0_1
  subst hK71
  exact ⟨rest58, Nat.lt_succ_self _, rest58, k56 + 1, q89, q96, a90, c91, bs97, s137, rfl, (by omega), (Sg.Le.trans (Sg.Le.trans hle64 hle88) hle138), hq54, h139, hE.pick _ ⟨rfl, rfl, rfl, rfl, rfl, trivial⟩, hS⟩
 clear hE hS a w; rintro a w ⟨q65, q69, a66, c67, bs70, s63, hle64, rfl, h68, hE, hS⟩
 dsimp only at hr
 replace h0_0 := Sl.mono RApiTrain.mono hle64 h0_0
 replace h0_1 := Sl.mono (RL.mono RI.mono) hle64 h0_1
 replace h1 := Sl.mono RGuideRide.mono hle64 h1
 refine W.seq (W.region ?_)
 obtain ⟨_, hx140, hr⟩ := bindS hr
 have hl141 : (bs70).length = 4 := (hS.mapsLen 0 rfl).trans (mall_some hx140)
 refine vP hS hE (Gives.loadBA hE 1 rfl rfl (by rw [mcells_len (by omega)]; exact ty264)) rfl fun a hE => ?_
 refine WL.storeMA hE hS 2 rfl (runs_plain rfl) rfl rfl ty264 (by decide) (by omega) rfl ?_; clear hE hS a w; intro a w hE hS
 refine WL.nil ?_
 refine W.ret ?_
 refine finG (fn := Tryz.f167) (rs := [.cell 4 264]) (vs := [_]) hE rfl ⟨⟨_, rfl, .inl ⟨_, rfl, hS.seesAt 2 rfl, (by rw [mcells_len (by omega)]; exact ty264)⟩⟩, trivial⟩ ?_
 obtain rfl := Option.some.inj hr
 replace hS := hS.dropAt 1
 replace hS := hS.dropAt 1
 replace hS := hS.dropAt 1
 exact ⟨bs70, s63, rfl, hle64, hl141, hS⟩
set_option maxHeartbeats 8000000 in
theorem MathBitsLen64_ok  {w : World} {s : Sg} {R : List HP} {x0 : Int} (hS : St w s (R))  {r : Int} (hr : MathBitsLen64 x0 = some r) :
  Calls Tryz.prog 157 [.int .u64 x0].toArray w (fun e w => e = .returned (vi r) ∧ St w s (R)) := by
 refine enter Tryz.func157 rfl rfl rfl fun a hE => ?_
 rw [MathBitsLen64] at hr
 refine W.seq (W.region (vp hS hE rfl rfl fun a hE => WL.nil ?_))
 refine W.seq ?_
 refine W.seq (W.region (v2 hS hE rfl rfl rfl rfl fun a hE => WL.nil ?_))
 obtain ⟨q52, hq51, hr⟩ := bndS hr
 refine W.cut (fun a w => ∃ (q55 : Int), ∃ (q56 : Int), (q55, q56) = q52 ∧ Rep a 25 [(0, .int .u64 q55), (2, vi q56)] ∧ St w s (R)) ?_ ?_
 ·refine W.gen fun K57 hK57 => ?_
  refine W.cond hE rfl (fun hc58 => ?_) (fun hc58 => ?_)
  ·replace hq51 := iteT hc58 hq51
   refine W.seq (W.region (vp hS hE rfl rfl fun a hE => ?_))
   refine vP hS hE (Gives.shr hE rfl rfl (by decide)) rfl fun a hE => ?_
   refine vp hS hE rfl rfl fun a hE => WL.nil ?_
   refine W.region ?_
   refine vp hS hE rfl rfl fun a hE => WL.nil ?_
   subst hK57
   exact ⟨Int.fdiv x0 (2 ^ (min (Int.toNat 32) (IntKind.bits .u64))), 32, hq51, hE.pick _ ⟨rfl, rfl, trivial⟩, hS⟩
  replace hq51 := iteF hc58 hq51
  refine W.skip ?_
  subst hK57
  exact ⟨x0, 0, hq51, hE.pick _ ⟨rfl, rfl, trivial⟩, hS⟩
 clear hE hS a w; rintro a w ⟨q55, q56, rfl, hE, hS⟩
 dsimp only at hr
 refine W.seq ?_
 refine W.seq (W.region (v2 hS hE rfl rfl rfl rfl fun a hE => WL.nil ?_))
 obtain ⟨q60, hq59, hr⟩ := bndS hr
 refine W.cut (fun a w => ∃ (q63 : Int), ∃ (q64 : Int), (q63, q64) = q60 ∧ Rep a 25 [(0, .int .u64 q63), (2, vi q64)] ∧ St w s (R)) ?_ ?_
 ·refine W.gen fun K65 hK65 => ?_
  refine W.cond hE rfl (fun hc66 => ?_) (fun hc66 => ?_)
  ·replace hq59 := iteT hc66 hq59
   refine W.seq (W.region (vp hS hE rfl rfl fun a hE => ?_))
   refine vP hS hE (Gives.shr hE rfl rfl (by decide)) rfl fun a hE => ?_
   refine vp hS hE rfl rfl fun a hE => WL.nil ?_
   refine W.region ?_
   refine v2 hS hE rfl rfl rfl rfl fun a hE => ?_
   refine vp hS hE rfl rfl fun a hE => WL.nil ?_
   subst hK65
   exact ⟨Int.fdiv q55 (2 ^ (min (Int.toNat 16) (IntKind.bits .u64))), w64 (q56 + 16), hq59, hE.pick _ ⟨rfl, rfl, trivial⟩, hS⟩
  replace hq59 := iteF hc66 hq59
  refine W.skip ?_
  subst hK65
  exact ⟨q55, q56, hq59, hE.pick _ ⟨rfl, rfl, trivial⟩, hS⟩
 clear hE hS a w; rintro a w ⟨q63, q64, rfl, hE, hS⟩
 dsimp only at hr
 refine W.seq ?_
 refine W.seq (W.region (v2 hS hE rfl rfl rfl rfl fun a hE => WL.nil ?_))
 obtain ⟨q68, hq67, hr⟩ := bndS hr
 refine W.cut (fun a w => ∃ (q71 : Int), ∃ (q72 : Int), (q71, q72) = q68 ∧ Rep a 25 [(0, .int .u64 q71), (2, vi q72)] ∧ St w s (R)) ?_ ?_
 ·refine W.gen fun K73 hK73 => ?_
  refine W.cond hE rfl (fun hc74 => ?_) (fun hc74 => ?_)
  ·replace hq67 := iteT hc74 hq67
   refine W.seq (W.region (vp hS hE rfl rfl fun a hE => ?_))
   refine vP hS hE (Gives.shr hE rfl rfl (by decide)) rfl fun a hE => ?_
   refine vp hS hE rfl rfl fun a hE => WL.nil ?_
   refine W.region ?_
   refine v2 hS hE rfl rfl rfl rfl fun a hE => ?_
   refine vp hS hE rfl rfl fun a hE => WL.nil ?_
   subst hK73
   exact ⟨Int.fdiv q63 (2 ^ (min (Int.toNat 8) (IntKind.bits .u64))), w64 (q64 + 8), hq67, hE.pick _ ⟨rfl, rfl, trivial⟩, hS⟩
  replace hq67 := iteF hc74 hq67
  refine W.skip ?_
  subst hK73
  exact ⟨q63, q64, hq67, hE.pick _ ⟨rfl, rfl, trivial⟩, hS⟩
 clear hE hS a w; rintro a w ⟨q71, q72, rfl, hE, hS⟩
 dsimp only at hr
 refine W.seq (W.region (v2 hS hE rfl rfl rfl rfl fun a hE => ?_))
 refine vP hS hE (Gives.conv hE rfl hu248 ui5) rfl fun a hE => ?_
 obtain ⟨x75, hx76, hr⟩ := bindS hr
 refine vP hS hE (Gives.idxS hE st9 rfl rfl hx76) rfl fun a hE => ?_
 refine vP hS hE (Gives.conv hE rfl hu5 ui3) rfl fun a hE => ?_
 refine v2 hS hE rfl rfl rfl rfl fun a hE => WL.nil ?_
 refine W.ret ?_
 refine finG (fn := Tryz.f157) (rs := [.tmp 2]) (vs := [_]) hE rfl ⟨rfl, trivial⟩ ?_
 obtain rfl := Option.some.inj hr
 exact ⟨rfl, hS⟩
set_option maxHeartbeats 8000000 in
theorem MathBitsLen_ok  {w : World} {s : Sg} {R : List HP} {x0 : Int} (hS : St w s (R))  {r : Int} (hr : MathBitsLen x0 = some r) :
  Calls Tryz.prog 110 [.int .u64 x0].toArray w (fun e w => e = .returned (vi r) ∧ St w s (R)) := by
 refine enter Tryz.func110 rfl rfl rfl fun a hE => ?_
 rw [MathBitsLen] at hr
 refine W.seq (W.region (vp hS hE rfl rfl fun a hE => WL.nil ?_))
 refine W.seq ?_
 refine W.condF hE rfl rfl ?_
 refine W.skip ?_
 refine W.seq (W.region (vp hS hE rfl rfl fun a hE => ?_))
 obtain ⟨q51, hq52, hr⟩ := bindS hr
 have hc_ := MathBitsLen64_ok hS  hq52
 refine WL.fnq hE (hc_) (runs_plain rfl) bd157 rfl rfl rfl ?_
 clear hE hS hc_; rintro e w ⟨rfl, hS⟩; refine ⟨_, rfl, ?_⟩; clear a; intro a hE
 refine vp hS hE rfl rfl fun a hE => WL.nil ?_
 refine W.ret ?_
 refine finG (fn := Tryz.f110) (rs := [.tmp 2]) (vs := [_]) hE rfl ⟨rfl, trivial⟩ ?_
 obtain rfl := Option.some.inj hr
 exact ⟨rfl, hS⟩
set_option maxHeartbeats 8000000 in
theorem GuidecomparePoints_ok  {w : World} {s : Sg} {R : List HP} {x0 : GuidePoint} {x1 : GuidePoint} (hS : St w s (R))  {r : Int} (hr : GuidecomparePoints x0 x1 = r) :
  Calls Tryz.prog 169 [.agg (GuidePoint.cells x0).toArray, .agg (GuidePoint.cells x1).toArray].toArray w (fun e w => e = .returned (vi r) ∧ St w s (R)) := by
 refine enter Tryz.func169 rfl rfl rfl fun a hE => ?_
 rw [GuidecomparePoints] at hr
 refine W.seq (W.region ?_)
 refine WL.box hE hS (runs_plain rfl) rfl rfl rfl ?_; clear hE hS a w; intro b51 a w hE hS
 refine WL.box hE hS (runs_plain rfl) rfl rfl rfl ?_; clear hE hS a w; intro b52 a w hE hS
 refine vp hS hE rfl rfl fun a hE => WL.nil ?_
 refine W.seq ?_
 refine W.gen fun K53 hK53 => ?_
 refine W.regionE (dup (fun w => St w s (pc b52 (GuidePoint.cells x1).toArray 216 :: pc b51 (GuidePoint.cells x0).toArray 216 :: R))) (fun b i => cond b ([0, 1, 2, 3, 4, 5, 6, 7, 8, 9, 10, 11, 12, 13, 14, 15, 16, 17].contains i) ([0, 1, 2, 3, 4, 5, 6, 7, 8, 9, 10, 11, 12, 13, 14, 15, 16, 17].contains i)) mixed ?_
 replace hS := hS.drew
 refine tP (i := 0) hE rfl (by kernel_rfl) (Gives.fld hE rfl fl216_0) rfl hS hS fun a hE => ?_
 refine tT (i := 1) true rfl hE rfl (by kernel_rfl) (Gives.loadB hE 1 rfl rfl rfl ty3) rfl hS hS fun a hE => ?_
 refine tP (i := 2) hE rfl (by kernel_rfl) (Gives.fld hE rfl fl216_0) rfl hS hS fun a hE => ?_
 refine tT (i := 3) true rfl hE rfl (by kernel_rfl) (Gives.loadB hE 0 rfl rfl rfl ty3) rfl hS hS fun a hE => ?_
 refine tP (i := 5) hE rfl (by kernel_rfl) (Gives.fld hE rfl fl216_1) rfl hS hS fun a hE => ?_
 refine tT (i := 6) true rfl hE rfl (by kernel_rfl) (Gives.loadB hE 1 rfl rfl rfl ty3) rfl hS hS fun a hE => ?_
 refine tP (i := 7) hE rfl (by kernel_rfl) (Gives.fld hE rfl fl216_1) rfl hS hS fun a hE => ?_
 refine tT (i := 8) true rfl hE rfl (by kernel_rfl) (Gives.loadB hE 0 rfl rfl rfl ty3) rfl hS hS fun a hE => ?_
 refine tP (i := 10) hE rfl (by kernel_rfl) (Gives.fld hE rfl fl216_2) rfl hS hS fun a hE => ?_
 refine tT (i := 11) true rfl hE rfl (by kernel_rfl) (Gives.loadB hE 1 rfl rfl rfl ty3) rfl hS hS fun a hE => ?_
 refine tP (i := 12) hE rfl (by kernel_rfl) (Gives.fld hE rfl fl216_2) rfl hS hS fun a hE => ?_
 refine tT (i := 13) true rfl hE rfl (by kernel_rfl) (Gives.loadB hE 0 rfl rfl rfl ty3) rfl hS hS fun a hE => ?_
 refine Rg.one (i := 4) true true rfl (by kernel_rfl) (by kernel_rfl) (by kernel_rfl) ?_
 refine WL.fnq hE (CmpCompareint_ok hS  rfl (r := CmpCompareint x0.Dep x1.Dep)) (runs_plain rfl) bd42 rfl rfl rfl ?_
 clear hE hS; rintro e w ⟨rfl, hS⟩; refine ⟨_, rfl, ?_⟩; clear a; intro a hE
 refine WL.nil ?_
 refine ⟨⟨fun _ => hS, fun _ => hS⟩, ?_⟩
 refine Rg.one (i := 9) true true rfl (by kernel_rfl) (by kernel_rfl) (by kernel_rfl) ?_
 refine WL.fnq hE (CmpCompareint_ok hS  rfl (r := CmpCompareint x0.Arr x1.Arr)) (runs_plain rfl) bd42 rfl rfl rfl ?_
 clear hE hS; rintro e w ⟨rfl, hS⟩; refine ⟨_, rfl, ?_⟩; clear a; intro a hE
 refine WL.nil ?_
 refine ⟨⟨fun _ => hS, fun _ => hS⟩, ?_⟩
 refine Rg.one (i := 14) true true rfl (by kernel_rfl) (by kernel_rfl) (by kernel_rfl) ?_
 refine WL.fnq hE (CmpCompareint_ok hS  rfl (r := CmpCompareint x0.Rides x1.Rides)) (runs_plain rfl) bd42 rfl rfl rfl ?_
 clear hE hS; rintro e w ⟨rfl, hS⟩; refine ⟨_, rfl, ?_⟩; clear a; intro a hE
 refine WL.nil ?_
 refine ⟨⟨fun _ => hS, fun _ => hS⟩, ?_⟩
 refine Rg.one (i := 15) true true rfl (by kernel_rfl) (by kernel_rfl) (by kernel_rfl) ?_
 refine WL.lit hE hS (e := 3) (es := 1) (vs := [(0, vi (CmpCompareint x0.Dep x1.Dep)), (1, vi (CmpCompareint x0.Arr x1.Arr)), (2, vi (CmpCompareint x0.Rides x1.Rides))]) (cs := [vi (CmpCompareint x0.Dep x1.Dep), vi (CmpCompareint x0.Arr x1.Arr), vi (CmpCompareint x0.Rides x1.Rides)]) (runs_plain rfl) rfl (by kernel_rfl) rfl ?_; clear hE hS a w; intro b54 a w hE hS
 replace hS := hS.ptVec (es := 1) (m := 3) rfl (by decide)
 have h56 : Ev 1 (RI .i64) s [vi (CmpCompareint x0.Dep x1.Dep), vi (CmpCompareint x0.Arr x1.Arr), vi (CmpCompareint x0.Rides x1.Rides)] [(CmpCompareint x0.Dep x1.Dep), (CmpCompareint x0.Arr x1.Arr), (CmpCompareint x0.Rides x1.Rides)] := (Ev.cons (c1 := [vi (CmpCompareint x0.Dep x1.Dep)]) rfl rfl (Ev.cons (c1 := [vi (CmpCompareint x0.Arr x1.Arr)]) rfl rfl (Ev.cons (c1 := [vi (CmpCompareint x0.Rides x1.Rides)]) rfl rfl (Ev.nil))))
 have hF := hS.fixD RI.mono 0 rfl h56 (rfl); clear hS; obtain ⟨s57, hle58, hS, h59⟩ := hF
 refine WL.nil ?_
 refine ⟨⟨fun _ => (St.down hle58 hS), fun _ => (St.down hle58 hS)⟩, ?_⟩
 refine Rg.one (i := 16) true true rfl (by kernel_rfl) (by kernel_rfl) (by kernel_rfl) ?_
 refine WL.fnq hE (CmpOrint_ok hS h59 rfl (r := CmpOrint [(CmpCompareint x0.Dep x1.Dep), (CmpCompareint x0.Arr x1.Arr), (CmpCompareint x0.Rides x1.Rides)])) (runs_plain rfl) bd41 rfl rfl rfl ?_
 clear hE hS; rintro e w ⟨rfl, hS⟩; refine ⟨_, rfl, ?_⟩; clear a; intro a hE
 refine WL.nil ?_
 refine ⟨⟨fun _ => (St.down hle58 hS), fun _ => (St.down hle58 hS)⟩, ?_⟩
 refine tP (i := 17) hE rfl (by kernel_rfl) (Gives.p hE rfl) rfl (St.down hle58 hS) (St.down hle58 hS) fun a hE => ?_
 refine Rg.done (by kernel_rfl) ?_
 subst hK53
 refine W.ret ?_
 refine finG (fn := Tryz.f169) (rs := [.tmp 4]) (vs := [_]) hE rfl ⟨rfl, trivial⟩ ?_
 subst hr
 replace hS := hS.tail
 replace hS := hS.tail
 exact ⟨rfl, (hS.down hle58)⟩
end Go.Proofs.YtpcebngchmgckaaGreatDoor
