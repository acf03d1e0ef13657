/- The walks of the functions that GuideSays reaches: each call comes to what its mirror says. The conditions are those of each contract. -/
import Derived.Test.YtpcebngchmgckaaGreatDoorProg
import Derived.Test.YtpcebngchmgckaaGreatDoorFpTight
import Derived.Test.YtpcebngchmgckaaGreatDoorGuideSaysM
import Derived.Test.YtpcebngchmgckaaGreatDoorFpAllT
import Derived.Test.YtpcebngchmgckaaGreatDoorGuideSaysS
import Derived.Test.YtpcebngchmgckaaGreatDoorFpMapS
import Derived.Test.YtpcebngchmgckaaGreatDoorFpBytes
import Derived.Test.YtpcebngchmgckaaGreatDoorFpFld
import Derived.Test.YtpcebngchmgckaaGreatDoorFpMapG
import Derived.Test.YtpcebngchmgckaaGreatDoorFpMapV
import Derived.Test.YtpcebngchmgckaaGreatDoorFpMaps
import Derived.Test.YtpcebngchmgckaaGreatDoorFpOrd
import Derived.Test.YtpcebngchmgckaaGreatDoorFpRf
import Derived.Test.YtpcebngchmgckaaGreatDoorFpRng
import Derived.Test.YtpcebngchmgckaaGreatDoorGuideSaysW1
set_option maxRecDepth 10000
namespace Go.Proofs.YtpcebngchmgckaaGreatDoor
open Go Go.Fp
set_option maxHeartbeats 8000000 in
theorem GuideBoardText_ok  {w : World} {s : Sg} {R : List HP} {x0 : ApiNet} {a0_0 : Option Addr} {c0_0 : Nat} {a0_1 : Option Addr} {c0_1 : Nat} {a0_2 : Option Addr} {c0_2 : Nat} {a0_3 : Option Addr} {c0_3 : Nat} {a0_4 : Option Addr} {c0_4 : Nat} {x1 : List GuideLine} {a1 : Option Addr} {c1 : Nat} (hS : St w s (R)) (hTab : TabS Tryz.prog s) (h0_0 : Sl 1 RS s a0_0 c0_0 x0.Stations) (h0_1 : Sl 7 RApiSection s a0_1 c0_1 x0.Sections) (h0_2 : Sl 4 RApiLink s a0_2 c0_2 x0.Links) (h0_3 : Sl 2 RApiSignal s a0_3 c0_3 x0.Signals) (h0_4 : Sl 2 RApiGate s a0_4 c0_4 x0.Gates) (h1 : Sl 6 RGuideLine s a1 c1 x1) {r : ByteArray × Int} (hr : GuideBoardText x0 x1 = some r) :
  Calls Tryz.prog 17 [.agg (List.toArray [.slice a0_0 x0.Stations.length c0_0, .slice a0_1 x0.Sections.length c0_1, .slice a0_2 x0.Links.length c0_2, .slice a0_3 x0.Signals.length c0_3, .slice a0_4 x0.Gates.length c0_4]), .slice a1 x1.length c1].toArray w (fun e w => e = .returned (.tuple #[.string r.1, vi r.2]) ∧ St w s (R)) := by
 refine enter Tryz.func17 rfl rfl rfl fun a hE => ?_
 rw [GuideBoardText] at hr
 refine W.seq (W.region ?_)
 refine WL.box hE hS (runs_plain rfl) rfl rfl rfl ?_; clear hE hS a w; intro b51 a w hE hS
 refine v2 hS hE rfl rfl rfl rfl fun a hE => WL.nil ?_
 refine W.seq ?_
 refine W.seq (W.region (vP hS hE (Gives.loadBA hE 0 rfl rfl ty53) rfl fun a hE => ?_))
 obtain ⟨q52, hq53, hr⟩ := bindS hr
 have hc_ := LineCheck_ok hS h0_0 h0_1 h0_2 h0_3 h0_4 hq53
 refine WL.fnq hE (hc_) (runs_plain rfl) bd69 rfl rfl rfl ?_
 clear hE hS hc_; rintro e w ⟨rfl, hS⟩; refine ⟨_, rfl, ?_⟩; clear a; intro a hE
 refine vp hS hE rfl rfl fun a hE => WL.nil ?_
 refine W.seq (W.region (v2 hS hE rfl rfl rfl rfl fun a hE => WL.nil ?_))
 refine W.cond hE rfl (fun hc54 => ?_) (fun hc54 => ?_)
 ·replace hr := iteT hc54 hr
  refine W.seq (W.region (v2 hS hE rfl rfl rfl rfl fun a hE => ?_))
  refine vp hS hE rfl rfl fun a hE => WL.nil ?_
  refine W.ret ?_
  refine finG (fn := Tryz.f17) (rs := [.tmp 4, .tmp 5]) (vs := [_, _]) hE rfl ⟨rfl, rfl, trivial⟩ ?_
  obtain rfl := Option.some.inj hr
  replace hS := hS.tail
  exact ⟨rfl, hS⟩
 replace hr := iteF hc54 hr
 refine W.skip ?_
 refine W.seq ?_
 refine W.seq (W.region (vp hS hE rfl rfl fun a hE => ?_))
 refine vP hS hE (Gives.len hE rfl sl39) rfl fun a hE => ?_
 refine vp hS hE rfl rfl fun a hE => WL.nil ?_
 refine W.cond hE rfl (fun hc55 => ?_) (fun hc55 => ?_)
 ·replace hr := iteT hc55 hr
  refine W.seq (W.region (v2 hS hE rfl rfl rfl rfl fun a hE => WL.nil ?_))
  refine W.ret ?_
  refine finG (fn := Tryz.f17) (rs := [.tmp 4, .tmp 5]) (vs := [_, _]) hE rfl ⟨rfl, rfl, trivial⟩ ?_
  obtain rfl := Option.some.inj hr
  replace hS := hS.tail
  exact ⟨rfl, hS⟩
 replace hr := iteF hc55 hr
 refine W.skip ?_
 refine W.seq (W.region ?_)
 refine WL.alloc hE hS (runs_plain rfl) zr141 rfl ?_; clear hE hS a w; intro b56 a w hE hS
 replace hS := hS.sbNew 5
 refine WL.nil ?_
 refine W.seq ?_
 refine W.seq (W.region (vp hS hE rfl rfl fun a hE => ?_))
 refine vP hS hE (Gives.len hE rfl sl39) rfl fun a hE => ?_
 refine vp hS hE rfl rfl fun a hE => WL.nil ?_
 obtain ⟨q58, hq57, hr⟩ := bindS hr
 refine W.cut (fun a w => ∃ (q68 : ByteArray), (.next q68) = q58 ∧ Rep a 99 [(7, pp b56)] ∧ St w s (sbC 141 5 b56 q68 :: pc b51 #[.slice a0_0 x0.Stations.length c0_0, .slice a0_1 x0.Sections.length c0_1, .slice a0_2 x0.Links.length c0_2, .slice a0_3 x0.Signals.length c0_3, .slice a0_4 x0.Gates.length c0_4] 53 :: R)) ?_ ?_
 ·refine W.block ?_
  refine W.loop (fun m a w => ∃ (rest61 : List GuideLine) (k59 : Nat), ∃ (q68 : ByteArray), rest61.length = m ∧ x1.drop k59 = rest61 ∧ GuideBoardText.loop1 x0 rest61 q68 = some q58 ∧ Rep a 99 [(2, pp b51), (7, pp b56), (18, .slice a1 x1.length c1), (19, vi ((x1).length : Int)), (20, vi ((k59 : Nat) : Int))] ∧ St w s (sbC 141 5 b56 q68 :: pc b51 #[.slice a0_0 x0.Stations.length c0_0, .slice a0_1 x0.Sections.length c0_1, .slice a0_2 x0.Links.length c0_2, .slice a0_3 x0.Signals.length c0_3, .slice a0_4 x0.Gates.length c0_4] 53 :: R)) (m := x1.length) ⟨x1, 0, ByteArray.empty, rfl, rfl, hq57, hE.pick _ ⟨rfl, rfl, rfl, rfl, rfl, trivial⟩, hS⟩ ?_
  clear hE hS a w hq57; rintro m65 a w ⟨rest61, k59, q68, rfl, hd62, hq57, hE, hS⟩
  refine W.gen fun K69 hK69 => ?_
  rcases rest61 with _ | ⟨x60, rest61⟩
  ·have hlt63 := drop_nil hd62
   refine W.seq (W.region (vp hS hE rfl rfl fun a hE => WL.nil ?_))
   refine W.seq ?_
   refine W.condF hE rfl (decide_eq_false (by omega)) ?_
   subst hK69
   refine W.exit rfl ?_
   exact ⟨q68, Option.some.inj hq57, hE.pick _ ⟨rfl, trivial⟩, hS⟩
  obtain ⟨hlt63, hx64, hd62⟩ := drop_cons hd62
  rw [GuideBoardText.loop1] at hq57
  refine W.seq (W.region (vp hS hE rfl rfl fun a hE => WL.nil ?_))
  refine W.seq ?_
  refine W.condT hE rfl (decide_eq_true (by omega)) ?_
  refine W.skip ?_
  refine W.seq ?_
  refine W.block ?_
  refine W.seq (W.region ?_)
  obtain ⟨cs70, hl71, hR72, hat73⟩ := h1.at hx64
  subst hR72
  refine vP hS hE (Gives.idx hE k59 rfl rfl sl39 rfl hlt63 (h1.aok hlt63)) rfl fun a hE => ?_
  refine vP hS hE (Gives.loadA hE rfl (fun w h => hat73 w _ h) ty44) rfl fun a hE => ?_
  refine WL.alloc hE hS (runs_plain rfl) zr44 rfl ?_; clear hE hS a w; intro b74 a w hE hS
  refine WL.storeI hE hS 0 rfl (GuideLine.cells x60) (runs_plain rfl) rfl rfl rfl ty44 rfl rfl rfl rfl ?_; clear hE hS a w; intro a w hE hS
  refine WL.nil ?_
  refine W.seq ?_
  refine W.block ?_
  refine W.seq ?_
  obtain ⟨q76, hq75, hq57⟩ := bndS hq57
  refine W.cut (fun a w => ∃ (q79 : Bool), q79 = q76 ∧ Rep a 99 [(2, pp b51), (7, pp b56), (9, pp b74), (18, .slice a1 x1.length c1), (19, vi ((x1).length : Int)), (20, vi ((k59 : Nat) : Int)), (24, .bool q79)] ∧ St w s (pc b74 (GuideLine.cells x60).toArray 44 :: sbC 141 5 b56 q68 :: pc b51 #[.slice a0_0 x0.Stations.length c0_0, .slice a0_1 x0.Sections.length c0_1, .slice a0_2 x0.Links.length c0_2, .slice a0_3 x0.Signals.length c0_3, .slice a0_4 x0.Gates.length c0_4] 53 :: R)) ?_ ?_
  ·refine W.gen fun K80 hK80 => ?_
   refine W.region ?_
   refine vP hS hE (Gives.fld hE rfl fl44_0) rfl fun a hE => ?_
   refine vP hS hE (Gives.loadB hE 0 rfl rfl rfl ty3) rfl fun a hE => ?_
   refine WL.fnq hE (Guidewithin_ok hS  rfl (r := Guidewithin x60.Time 0 28800)) (runs_plain rfl) bd61 rfl rfl rfl ?_
   clear hE hS; rintro e w ⟨rfl, hS⟩; refine ⟨_, rfl, ?_⟩; clear a; intro a hE
   refine v2 hS hE rfl rfl rfl rfl fun a hE => ?_
   rcases Bool.eq_false_or_eq_true (!(Guidewithin x60.Time 0 28800)) with hg81 | hg81
   ·replace hq75 := iteT hg81 hq75
    refine nO hE rfl rfl rfl (by rw [hg81]; decide) rfl fun a hE => ?_
    refine nO hE rfl rfl rfl (by rw [hg81]; decide) rfl fun a hE => ?_
    refine nO hE rfl rfl rfl (by rw [hg81]; decide) rfl fun a hE => ?_
    refine nO hE rfl rfl rfl (by rw [hg81]; decide) rfl fun a hE => ?_
    refine vP hS hE (Gives.pickT hE rfl hg81 rfl) rfl fun a hE => ?_
    refine vp hS hE rfl rfl fun a hE => ?_
    refine nO hE rfl rfl rfl (by decide) rfl fun a hE => ?_
    refine nO hE rfl rfl rfl (by decide) rfl fun a hE => ?_
    refine nO hE rfl rfl rfl (by decide) rfl fun a hE => ?_
    refine nO hE rfl rfl rfl (by decide) rfl fun a hE => ?_
    refine vP hS hE (Gives.pickT hE rfl rfl rfl) rfl fun a hE => ?_
    refine vp hS hE rfl rfl fun a hE => WL.nil ?_
    subst hK80
    exact ⟨true, hq75, hE.pick _ ⟨rfl, rfl, rfl, rfl, rfl, rfl, rfl, trivial⟩, hS⟩
   replace hq75 := iteF hg81 hq75
   refine WL.vS hS hE (runs_if hE rfl rfl rfl hg81) (Gives.fld hE rfl fl44_1) rfl fun a hE => ?_
   refine WL.vS hS hE (runs_if hE rfl rfl rfl hg81) (Gives.loadB hE 0 rfl rfl rfl ty3) rfl fun a hE => ?_
   refine WL.fnq hE (Guidewithin_ok hS  rfl (r := Guidewithin x60.Late 0 28800)) (runs_if hE rfl rfl rfl hg81) bd61 rfl rfl rfl ?_
   clear hE hS; rintro e w ⟨rfl, hS⟩; refine ⟨_, rfl, ?_⟩; clear a; intro a hE
   refine WL.vS hS hE (runs_if hE rfl rfl rfl hg81) (Gives.p hE rfl) rfl fun a hE => ?_
   refine vP hS hE (Gives.pickF hE rfl hg81 rfl) rfl fun a hE => ?_
   refine vp hS hE rfl rfl fun a hE => ?_
   rcases Bool.eq_false_or_eq_true (!(Guidewithin x60.Late 0 28800)) with hg82 | hg82
   ·replace hq75 := iteT hg82 hq75
    refine nO hE rfl rfl rfl (by rw [hg82]; decide) rfl fun a hE => ?_
    refine nO hE rfl rfl rfl (by rw [hg82]; decide) rfl fun a hE => ?_
    refine nO hE rfl rfl rfl (by rw [hg82]; decide) rfl fun a hE => ?_
    refine nO hE rfl rfl rfl (by rw [hg82]; decide) rfl fun a hE => ?_
    refine vP hS hE (Gives.pickT hE rfl hg82 rfl) rfl fun a hE => ?_
    refine vp hS hE rfl rfl fun a hE => WL.nil ?_
    subst hK80
    exact ⟨true, hq75, hE.pick _ ⟨rfl, rfl, rfl, rfl, rfl, rfl, rfl, trivial⟩, hS⟩
   replace hq75 := iteF hg82 hq75
   refine WL.vS hS hE (runs_if hE rfl rfl rfl hg82) (Gives.fld hE rfl fl44_2) rfl fun a hE => ?_
   refine WL.vS hS hE (runs_if hE rfl rfl rfl hg82) (Gives.loadB hE 0 rfl rfl rfl ty3) rfl fun a hE => ?_
   refine WL.fnq hE (Guidewithin_ok hS  rfl (r := Guidewithin x60.No 1 9999)) (runs_if hE rfl rfl rfl hg82) bd61 rfl rfl rfl ?_
   clear hE hS; rintro e w ⟨rfl, hS⟩; refine ⟨_, rfl, ?_⟩; clear a; intro a hE
   refine WL.vS hS hE (runs_if hE rfl rfl rfl hg82) (Gives.p hE rfl) rfl fun a hE => ?_
   refine vP hS hE (Gives.pickF hE rfl hg82 rfl) rfl fun a hE => ?_
   refine vp hS hE rfl rfl fun a hE => WL.nil ?_
   subst hK80
   exact ⟨!(Guidewithin x60.No 1 9999), hq75, hE.pick _ ⟨rfl, rfl, rfl, rfl, rfl, rfl, rfl, trivial⟩, hS⟩
  clear hE hS a w; rintro a w ⟨q79, rfl, hE, hS⟩
  refine W.cond hE rfl (fun hc83 => ?_) (fun hc83 => ?_)
  ·replace hq57 := iteT hc83 hq57
   refine W.seq (W.region (v2 hS hE rfl rfl rfl rfl fun a hE => WL.nil ?_))
   refine W.ret ?_
   subst hK69
   rw [← Option.some.inj hq57] at hr
   dsimp only at hr
   refine finG (fn := Tryz.f17) (rs := [.tmp 4, .tmp 5]) (vs := [_, _]) hE rfl ⟨rfl, rfl, trivial⟩ ?_
   obtain rfl := Option.some.inj hr
   replace hS := hS.tail
   replace hS := hS.tail
   replace hS := hS.tail
   exact ⟨rfl, hS⟩
  replace hq57 := iteF hc83 hq57
  refine W.seq (W.region (vP hS hE (Gives.fld hE rfl fl44_3) rfl fun a hE => ?_))
  refine vP hS hE (Gives.loadB hE 0 rfl rfl rfl ty3) rfl fun a hE => ?_
  refine vP hS hE (Gives.fld hE rfl fl53_0) rfl fun a hE => ?_
  refine vP hS hE (Gives.loadB hE 2 rfl rfl rfl ty47) rfl fun a hE => ?_
  refine vP hS hE (Gives.len hE rfl sl47) rfl fun a hE => ?_
  refine vp hS hE rfl rfl fun a hE => ?_
  refine WL.fnq hE (Guidewithin_ok hS  rfl (r := Guidewithin x60.To 0 (w64 (((x0.Stations).length : Int) - 1)))) (runs_plain rfl) bd61 rfl rfl rfl ?_
  clear hE hS; rintro e w ⟨rfl, hS⟩; refine ⟨_, rfl, ?_⟩; clear a; intro a hE
  refine v2 hS hE rfl rfl rfl rfl fun a hE => WL.nil ?_
  refine W.cond hE rfl (fun hc84 => ?_) (fun hc84 => ?_)
  ·replace hq57 := iteT hc84 hq57
   refine W.seq (W.region (v2 hS hE rfl rfl rfl rfl fun a hE => WL.nil ?_))
   refine W.ret ?_
   subst hK69
   rw [← Option.some.inj hq57] at hr
   dsimp only at hr
   refine finG (fn := Tryz.f17) (rs := [.tmp 4, .tmp 5]) (vs := [_, _]) hE rfl ⟨rfl, rfl, trivial⟩ ?_
   obtain rfl := Option.some.inj hr
   replace hS := hS.tail
   replace hS := hS.tail
   replace hS := hS.tail
   exact ⟨rfl, hS⟩
  replace hq57 := iteF hc84 hq57
  refine W.seq ?_
  obtain ⟨q86, hq85, hq57⟩ := bndS hq57
  refine W.cut (fun a w => ∃ (q89 : Bool), q89 = q86 ∧ Rep a 99 [(2, pp b51), (7, pp b56), (9, pp b74), (18, .slice a1 x1.length c1), (19, vi ((x1).length : Int)), (20, vi ((k59 : Nat) : Int)), (50, .bool q89)] ∧ St w s (pc b74 (GuideLine.cells x60).toArray 44 :: sbC 141 5 b56 q68 :: pc b51 #[.slice a0_0 x0.Stations.length c0_0, .slice a0_1 x0.Sections.length c0_1, .slice a0_2 x0.Links.length c0_2, .slice a0_3 x0.Signals.length c0_3, .slice a0_4 x0.Gates.length c0_4] 53 :: R)) ?_ ?_
  ·refine W.gen fun K90 hK90 => ?_
   refine W.region ?_
   refine vP hS hE (Gives.fld hE rfl fl44_5) rfl fun a hE => ?_
   refine vP hS hE (Gives.loadB hE 0 rfl rfl rfl ty4) rfl fun a hE => ?_
   refine v2 hS hE rfl rfl rfl rfl fun a hE => ?_
   rcases Bool.eq_false_or_eq_true !x60.Ends with hg91 | hg91
   ·replace hq85 := iteT hg91 hq85
    refine WL.vS hS hE (runs_if hE rfl rfl rfl hg91) (Gives.fld hE rfl fl44_4) rfl fun a hE => ?_
    refine WL.vS hS hE (runs_if hE rfl rfl rfl hg91) (Gives.loadB hE 0 rfl rfl rfl ty3) rfl fun a hE => ?_
    refine WL.fnq hE (Guidewithin_ok hS  rfl (r := Guidewithin x60.Track 0 59)) (runs_if hE rfl rfl rfl hg91) bd61 rfl rfl rfl ?_
    clear hE hS; rintro e w ⟨rfl, hS⟩; refine ⟨_, rfl, ?_⟩; clear a; intro a hE
    refine WL.vS hS hE (runs_if hE rfl rfl rfl hg91) (Gives.p hE rfl) rfl fun a hE => ?_
    refine vP hS hE (Gives.pickT hE rfl hg91 rfl) rfl fun a hE => ?_
    refine vp hS hE rfl rfl fun a hE => WL.nil ?_
    subst hK90
    exact ⟨!(Guidewithin x60.Track 0 59), hq85, hE.pick _ ⟨rfl, rfl, rfl, rfl, rfl, rfl, rfl, trivial⟩, hS⟩
   replace hq85 := iteF hg91 hq85
   refine nO hE rfl rfl rfl (by rw [hg91]; decide) rfl fun a hE => ?_
   refine nO hE rfl rfl rfl (by rw [hg91]; decide) rfl fun a hE => ?_
   refine nO hE rfl rfl rfl (by rw [hg91]; decide) rfl fun a hE => ?_
   refine nO hE rfl rfl rfl (by rw [hg91]; decide) rfl fun a hE => ?_
   refine vP hS hE (Gives.pickF hE rfl hg91 rfl) rfl fun a hE => ?_
   refine vp hS hE rfl rfl fun a hE => WL.nil ?_
   subst hK90
   exact ⟨false, hq85, hE.pick _ ⟨rfl, rfl, rfl, rfl, rfl, rfl, rfl, trivial⟩, hS⟩
  clear hE hS a w; rintro a w ⟨q89, rfl, hE, hS⟩
  refine W.cond hE rfl (fun hc92 => ?_) (fun hc92 => ?_)
  ·replace hq57 := iteT hc92 hq57
   refine W.seq (W.region (v2 hS hE rfl rfl rfl rfl fun a hE => WL.nil ?_))
   refine W.ret ?_
   subst hK69
   rw [← Option.some.inj hq57] at hr
   dsimp only at hr
   refine finG (fn := Tryz.f17) (rs := [.tmp 4, .tmp 5]) (vs := [_, _]) hE rfl ⟨rfl, rfl, trivial⟩ ?_
   obtain rfl := Option.some.inj hr
   replace hS := hS.tail
   replace hS := hS.tail
   replace hS := hS.tail
   exact ⟨rfl, hS⟩
  replace hq57 := iteF hc92 hq57
  refine W.skip ?_
  refine W.seq ?_
  refine W.gen fun K93 hK93 => ?_
  refine W.regionE (sel (fun w => St w s (pc b74 (GuideLine.cells x60).toArray 44 :: sbC 141 5 b56 q68 :: pc b51 #[.slice a0_0 x0.Stations.length c0_0, .slice a0_1 x0.Sections.length c0_1, .slice a0_2 x0.Links.length c0_2, .slice a0_3 x0.Signals.length c0_3, .slice a0_4 x0.Gates.length c0_4] 53 :: R)) (fun w => St w s (pc b74 (GuideLine.cells x60).toArray 44 :: pc b51 #[.slice a0_0 x0.Stations.length c0_0, .slice a0_1 x0.Sections.length c0_1, .slice a0_2 x0.Links.length c0_2, .slice a0_3 x0.Signals.length c0_3, .slice a0_4 x0.Gates.length c0_4] 53 :: R))) (fun b i => cond b ([0, 1, 2, 3, 4, 5, 6, 7, 8, 9, 10, 11, 12, 13, 14, 15, 16].contains i) ([0, 1, 2, 3, 4, 5, 6, 7, 8, 9, 10, 11, 12, 13, 14, 15, 16, 17].contains i)) mixed ?_
  replace hS := hS.drew
  refine tP (i := 0) hE rfl (by kernel_rfl) (Gives.fld hE rfl fl44_0) rfl hS (hS.dropAt 1) fun a hE => ?_
  have hT := tw_sel (A := fun w => St w s _) (B := fun w => St w s _) (w := _) (x := true) (y := true) (fun _ => hS) (fun _ => (hS.dropAt 1))
  have hF := hS; replace hS := (hS.dropAt 1)
  refine Rg.take (i := 1) false rfl hE rfl (by kernel_rfl) (runs_plain rfl) (Gives.loadB hE 0 rfl rfl rfl ty3) rfl hT fun a hE => ?_
  replace hS := hF; clear hF hT
  refine tP (i := 4) hE rfl (by kernel_rfl) (Gives.fld hE rfl fl44_2) rfl hS (hS.dropAt 1) fun a hE => ?_
  have hT := tw_sel (A := fun w => St w s _) (B := fun w => St w s _) (w := _) (x := true) (y := true) (fun _ => hS) (fun _ => (hS.dropAt 1))
  have hF := hS; replace hS := (hS.dropAt 1)
  refine Rg.take (i := 5) false rfl hE rfl (by kernel_rfl) (runs_plain rfl) (Gives.loadB hE 0 rfl rfl rfl ty3) rfl hT fun a hE => ?_
  replace hS := hF; clear hF hT
  refine tP (i := 9) hE rfl (by kernel_rfl) (Gives.fld hE rfl fl53_0) rfl hS (hS.dropAt 1) fun a hE => ?_
  have hT := tw_sel (A := fun w => St w s _) (B := fun w => St w s _) (w := _) (x := true) (y := true) (fun _ => hS) (fun _ => (hS.dropAt 1))
  have hF := hS; replace hS := (hS.dropAt 1)
  refine Rg.take (i := 10) false rfl hE rfl (by kernel_rfl) (runs_plain rfl) (Gives.loadB hE 1 rfl rfl rfl ty47) rfl hT fun a hE => ?_
  replace hS := hF; clear hF hT
  refine tP (i := 11) hE rfl (by kernel_rfl) (Gives.fld hE rfl fl44_3) rfl hS (hS.dropAt 1) fun a hE => ?_
  have hT := tw_sel (A := fun w => St w s _) (B := fun w => St w s _) (w := _) (x := true) (y := true) (fun _ => hS) (fun _ => (hS.dropAt 1))
  have hF := hS; replace hS := (hS.dropAt 1)
  refine Rg.take (i := 12) false rfl hE rfl (by kernel_rfl) (runs_plain rfl) (Gives.loadB hE 0 rfl rfl rfl ty3) rfl hT fun a hE => ?_
  replace hS := hF; clear hF hT
  obtain ⟨x94, hx95, hq57⟩ := bindS hq57
  obtain ⟨hi96, hlt97, hy98⟩ := gx_some hx95
  obtain ⟨cs99, hl100, hR101, hat102⟩ := h0_0.at hy98
  subst hR101
  refine tP (i := 13) hE rfl (by kernel_rfl) (Gives.idx hE (x60.To).toNat rfl rfl sl47 hi96 hlt97 (h0_0.aok hlt97)) rfl hS (hS.dropAt 1) fun a hE => ?_
  have hT := tw_sel (A := fun w => St w s _) (B := fun w => St w s _) (w := _) (x := true) (y := true) (fun _ => hS) (fun _ => (hS.dropAt 1))
  have hF := hS; replace hS := (hS.dropAt 1)
  refine Rg.take (i := 14) false rfl hE rfl (by kernel_rfl) (runs_plain rfl) (Gives.load1 hE rfl (fun w h => hat102 w _ h) ty9) rfl hT fun a hE => ?_
  replace hS := hF; clear hF hT
  refine Rg.one (i := 2) true true rfl (by kernel_rfl) (by kernel_rfl) (by kernel_rfl) ?_
  obtain ⟨q103, hq104, hq57⟩ := bindS hq57
  have hc_ := Guideclock_ok hS (TabS.mono (Sg.Le.refl _) hTab) hq104
  refine WL.fnq hE (hc_) (runs_plain rfl) bd71 rfl rfl rfl ?_
  clear hE hS hc_; rintro e w ⟨rfl, hS⟩; refine ⟨_, rfl, ?_⟩; clear a; intro a hE
  refine WL.nil ?_
  refine ⟨⟨fun _ => hS, fun _ => (hS.dropAt 1)⟩, ?_⟩
  obtain ⟨x105, hx106, hq57⟩ := bindS hq57
  refine tP (i := 3) hE rfl (by kernel_rfl) (Gives.catS hE rfl rfl hx106) rfl hS (hS.dropAt 1) fun a hE => ?_
  refine Rg.one (i := 6) true true rfl (by kernel_rfl) (by kernel_rfl) (by kernel_rfl) ?_
  obtain ⟨q107, hq108, hq57⟩ := bindS hq57
  refine WL.fnq hE (itoa_ok hS (TabS.mono (Sg.Le.refl _) hTab) hq108) (runs_plain rfl) bd72 rfl rfl rfl ?_
  clear hE hS; rintro e w ⟨rfl, hS⟩; refine ⟨_, rfl, ?_⟩; clear a; intro a hE
  refine WL.nil ?_
  refine ⟨⟨fun _ => hS, fun _ => (hS.dropAt 1)⟩, ?_⟩
  obtain ⟨x109, hx110, hq57⟩ := bindS hq57
  refine tP (i := 7) hE rfl (by kernel_rfl) (Gives.catS hE rfl rfl hx110) rfl hS (hS.dropAt 1) fun a hE => ?_
  obtain ⟨x111, hx112, hq57⟩ := bindS hq57
  refine tP (i := 8) hE rfl (by kernel_rfl) (Gives.catS hE rfl rfl hx112) rfl hS (hS.dropAt 1) fun a hE => ?_
  obtain ⟨x113, hx114, hq57⟩ := bindS hq57
  refine tP (i := 15) hE rfl (by kernel_rfl) (Gives.catS hE rfl rfl hx114) rfl hS (hS.dropAt 1) fun a hE => ?_
  obtain ⟨x115, hx116, hq57⟩ := bindS hq57
  refine tP (i := 16) hE rfl (by kernel_rfl) (Gives.catS hE rfl rfl hx116) rfl hS (hS.dropAt 1) fun a hE => ?_
  refine Rg.one (i := 17) false true rfl (by kernel_rfl) (by kernel_rfl) (by kernel_rfl) ?_
  replace hS := hS.front 1 rfl
  obtain ⟨q117, hq118, hq57⟩ := bindS hq57
  refine WL.fnq hE (sbWrite_ok hS hq118) (runs_plain rfl) bd70 rfl rfl rfl ?_
  clear hE hS; rintro e w ⟨rfl, hS⟩; refine ⟨_, rfl, ?_⟩; clear a; intro a hE
  refine WL.nil ?_
  refine ⟨⟨fun h => absurd h (by decide), fun _ => (hS.tail)⟩, ?_⟩
  refine Rg.done (by kernel_rfl) ?_
  subst hK93
  refine W.seq ?_
  refine W.seq (W.region (vP hS hE (Gives.fld hE rfl fl44_5) rfl fun a hE => ?_))
  refine vP hS hE (Gives.loadB hE 1 rfl rfl rfl ty4) rfl fun a hE => WL.nil ?_
  refine W.cond hE rfl (fun hc119 => ?_) (fun hc119 => ?_)
  ·replace hq57 := iteT hc119 hq57
   refine W.region ?_
   obtain ⟨q120, hq121, hq57⟩ := bindS hq57
   refine WL.fnq hE (sbWrite_ok hS hq121) (runs_plain rfl) bd70 rfl rfl rfl ?_
   clear hE hS; rintro e w ⟨rfl, hS⟩; refine ⟨_, rfl, ?_⟩; clear a; intro a hE
   refine WL.nil ?_
   refine W.region ?_
   obtain ⟨q122, hq123, hq57⟩ := bindS hq57
   refine WL.fnq hE (sbWrite_ok hS hq123) (runs_plain rfl) bd70 rfl rfl rfl ?_
   clear hE hS; rintro e w ⟨rfl, hS⟩; refine ⟨_, rfl, ?_⟩; clear a; intro a hE
   refine WL.nil ?_
   refine W.region ?_
   refine vP hS hE (Gives.inc hE rfl (by have := h1.small; omega)) rfl fun a hE => ?_
   refine vp hS hE rfl rfl fun a hE => WL.nil ?_
   replace hS := hS.dropAt 1
   subst hK69
   exact ⟨rest61.length, Nat.lt_succ_self _, rest61, k59 + 1, q122, rfl, hd62, hq57, hE.pick _ ⟨rfl, rfl, rfl, rfl, rfl, trivial⟩, hS⟩
  replace hq57 := iteF hc119 hq57
  refine W.seq (W.region (vP hS hE (Gives.fld hE rfl fl44_4) rfl fun a hE => ?_))
  refine vP hS hE (Gives.loadB hE 1 rfl rfl rfl ty3) rfl fun a hE => ?_
  obtain ⟨q124, hq125, hq57⟩ := bindS hq57
  refine WL.fnq hE (itoa_ok hS (TabS.mono (Sg.Le.refl _) hTab) hq125) (runs_plain rfl) bd72 rfl rfl rfl ?_
  clear hE hS; rintro e w ⟨rfl, hS⟩; refine ⟨_, rfl, ?_⟩; clear a; intro a hE
  obtain ⟨x126, hx127, hq57⟩ := bindS hq57
  refine vP hS hE (Gives.catS hE rfl rfl hx127) rfl fun a hE => ?_
  obtain ⟨q128, hq129, hq57⟩ := bindS hq57
  refine WL.fnq hE (sbWrite_ok hS hq129) (runs_plain rfl) bd70 rfl rfl rfl ?_
  clear hE hS; rintro e w ⟨rfl, hS⟩; refine ⟨_, rfl, ?_⟩; clear a; intro a hE
  refine WL.nil ?_
  refine W.seq (W.region (vP hS hE (Gives.fld hE rfl fl44_1) rfl fun a hE => ?_))
  refine vP hS hE (Gives.loadB hE 1 rfl rfl rfl ty3) rfl fun a hE => ?_
  refine vp hS hE rfl rfl fun a hE => WL.nil ?_
  refine W.cond hE rfl (fun hc130 => ?_) (fun hc130 => ?_)
  ·replace hq57 := iteT hc130 hq57
   refine W.region ?_
   refine vP hS hE (Gives.fld hE rfl fl44_1) rfl fun a hE => ?_
   refine vP hS hE (Gives.loadB hE 1 rfl rfl rfl ty3) rfl fun a hE => ?_
   refine vp hS hE rfl rfl fun a hE => ?_
   obtain ⟨q131, hq132, hq57⟩ := bindS hq57
   refine WL.fnq hE (itoa_ok hS (TabS.mono (Sg.Le.refl _) hTab) hq132) (runs_plain rfl) bd72 rfl rfl rfl ?_
   clear hE hS; rintro e w ⟨rfl, hS⟩; refine ⟨_, rfl, ?_⟩; clear a; intro a hE
   obtain ⟨x133, hx134, hq57⟩ := bindS hq57
   refine vP hS hE (Gives.catS hE rfl rfl hx134) rfl fun a hE => ?_
   obtain ⟨x135, hx136, hq57⟩ := bindS hq57
   refine vP hS hE (Gives.catS hE rfl rfl hx136) rfl fun a hE => ?_
   obtain ⟨q137, hq138, hq57⟩ := bindS hq57
   refine WL.fnq hE (sbWrite_ok hS hq138) (runs_plain rfl) bd70 rfl rfl rfl ?_
   clear hE hS; rintro e w ⟨rfl, hS⟩; refine ⟨_, rfl, ?_⟩; clear a; intro a hE
   refine WL.nil ?_
   refine W.region ?_
   obtain ⟨q139, hq140, hq57⟩ := bindS hq57
   refine WL.fnq hE (sbWrite_ok hS hq140) (runs_plain rfl) bd70 rfl rfl rfl ?_
   clear hE hS; rintro e w ⟨rfl, hS⟩; refine ⟨_, rfl, ?_⟩; clear a; intro a hE
   refine WL.nil ?_
   refine W.region ?_
   refine vP hS hE (Gives.inc hE rfl (by have := h1.small; omega)) rfl fun a hE => ?_
   refine vp hS hE rfl rfl fun a hE => WL.nil ?_
   replace hS := hS.dropAt 1
   subst hK69
   exact ⟨rest61.length, Nat.lt_succ_self _, rest61, k59 + 1, q139, rfl, hd62, hq57, hE.pick _ ⟨rfl, rfl, rfl, rfl, rfl, trivial⟩, hS⟩
  replace hq57 := iteF hc130 hq57
  refine W.skip ?_
  refine W.region ?_
  obtain ⟨q141, hq142, hq57⟩ := bindS hq57
  refine WL.fnq hE (sbWrite_ok hS hq142) (runs_plain rfl) bd70 rfl rfl rfl ?_
  clear hE hS; rintro e w ⟨rfl, hS⟩; refine ⟨_, rfl, ?_⟩; clear a; intro a hE
  refine WL.nil ?_
  refine W.region ?_
  refine vP hS hE (Gives.inc hE rfl (by have := h1.small; omega)) rfl fun a hE => ?_
  refine vp hS hE rfl rfl fun a hE => WL.nil ?_
  replace hS := hS.dropAt 1
  subst hK69
  exact ⟨rest61.length, Nat.lt_succ_self _, rest61, k59 + 1, q141, rfl, hd62, hq57, hE.pick _ ⟨rfl, rfl, rfl, rfl, rfl, trivial⟩, hS⟩
 clear hE hS a w; rintro a w ⟨q68, rfl, hE, hS⟩
 dsimp only at hr
 refine W.seq (W.region ?_)
 refine WL.fnq hE (sbString_ok hS) (runs_plain rfl) bd73 rfl rfl rfl ?_
 clear hE hS; rintro e w ⟨rfl, hS⟩; refine ⟨_, rfl, ?_⟩; clear a; intro a hE
 refine v2 hS hE rfl rfl rfl rfl fun a hE => WL.nil ?_
 refine W.ret ?_
 refine finG (fn := Tryz.f17) (rs := [.tmp 4, .tmp 5]) (vs := [_, _]) hE rfl ⟨rfl, rfl, trivial⟩ ?_
 obtain rfl := Option.some.inj hr
 replace hS := hS.tail
 exact ⟨rfl, hS⟩
set_option maxHeartbeats 8000000 in
theorem Planform_ok  {w : World} {s : Sg} {R : List HP} {x0 : ApiDay} {a0_0 : Option Addr} {c0_0 : Nat} {a0_1 : Option Addr} {c0_1 : Nat} (hS : St w s (R)) (h0_0 : Sl 4 RApiTrain s a0_0 c0_0 x0.Trains) (h0_1 : Sl 1 (RL 1 (RI .i64)) s a0_1 c0_1 x0.Turns) {r : Int} (hr : Planform x0 = r) :
  Calls Tryz.prog 142 [.agg (List.toArray [.slice a0_0 x0.Trains.length c0_0, .slice a0_1 x0.Turns.length c0_1])].toArray w (fun e w => e = .returned (vi r) ∧ St w s (R)) := by
 refine enter Tryz.func142 rfl rfl rfl fun a hE => ?_
 rw [Planform] at hr
 refine W.seq (W.region ?_)
 refine WL.box hE hS (runs_plain rfl) rfl rfl rfl ?_; clear hE hS a w; intro b51 a w hE hS
 refine vp hS hE rfl rfl fun a hE => WL.nil ?_
 refine W.seq ?_
 refine W.seq ?_
 obtain ⟨q53, hq52, hr⟩ := bndS hr
 refine W.cut (fun a w => ∃ (q56 : Bool), q56 = q53 ∧ Rep a 85 [(1, pp b51), (20, .bool q56)] ∧ St w s (pc b51 #[.slice a0_0 x0.Trains.length c0_0, .slice a0_1 x0.Turns.length c0_1] 25 :: R)) ?_ ?_
 ·refine W.gen fun K57 hK57 => ?_
  refine W.region ?_
  refine vP hS hE (Gives.fld hE rfl fl25_0) rfl fun a hE => ?_
  refine vP hS hE (Gives.loadB hE 0 rfl rfl rfl ty22) rfl fun a hE => ?_
  refine vP hS hE (Gives.len hE rfl sl22) rfl fun a hE => ?_
  refine v2 hS hE rfl rfl rfl rfl fun a hE => ?_
  rcases Bool.eq_false_or_eq_true (decide (((x0.Trains).length : Int) > 12)) with hg58 | hg58
  ·replace hq52 := iteT hg58 hq52
   refine nO hE rfl rfl rfl (by rw [hg58]; decide) rfl fun a hE => ?_
   refine nO hE rfl rfl rfl (by rw [hg58]; decide) rfl fun a hE => ?_
   refine nO hE rfl rfl rfl (by rw [hg58]; decide) rfl fun a hE => ?_
   refine nO hE rfl rfl rfl (by rw [hg58]; decide) rfl fun a hE => ?_
   refine vP hS hE (Gives.pickT hE rfl hg58 rfl) rfl fun a hE => WL.nil ?_
   subst hK57
   exact ⟨true, hq52, hE.pick _ ⟨rfl, rfl, trivial⟩, hS⟩
  replace hq52 := iteF hg58 hq52
  refine WL.vS hS hE (runs_if hE rfl rfl rfl hg58) (Gives.fld hE rfl fl25_1) rfl fun a hE => ?_
  refine WL.vS hS hE (runs_if hE rfl rfl rfl hg58) (Gives.loadB hE 0 rfl rfl rfl ty23) rfl fun a hE => ?_
  refine WL.vS hS hE (runs_if hE rfl rfl rfl hg58) (Gives.len hE rfl sl23) rfl fun a hE => ?_
  refine WL.vS hS hE (runs_if hE rfl rfl rfl hg58) (Gives.p hE rfl) rfl fun a hE => ?_
  refine vP hS hE (Gives.pickF hE rfl hg58 rfl) rfl fun a hE => WL.nil ?_
  subst hK57
  exact ⟨decide (((x0.Turns).length : Int) > 8), hq52, hE.pick _ ⟨rfl, rfl, trivial⟩, hS⟩
 clear hE hS a w; rintro a w ⟨q56, rfl, hE, hS⟩
 refine W.cond hE rfl (fun hc59 => ?_) (fun hc59 => ?_)
 ·replace hr := iteT hc59 hr
  refine W.seq (W.region (vp hS hE rfl rfl fun a hE => WL.nil ?_))
  refine W.ret ?_
  refine finG (fn := Tryz.f142) (rs := [.tmp 2]) (vs := [_]) hE rfl ⟨rfl, trivial⟩ ?_
  subst hr
  replace hS := hS.tail
  exact ⟨rfl, hS⟩
 replace hr := iteF hc59 hr
 refine W.skip ?_
 refine W.seq ?_
 refine W.seq (W.region (vP hS hE (Gives.fld hE rfl fl25_0) rfl fun a hE => ?_))
 refine vP hS hE (Gives.loadB hE 0 rfl rfl rfl ty22) rfl fun a hE => ?_
 refine vP hS hE (Gives.len hE rfl sl22) rfl fun a hE => ?_
 refine vp hS hE rfl rfl fun a hE => WL.nil ?_
 obtain ⟨q61, hq60, hr⟩ := bndS hr
 refine W.cut (fun a w => (.next ()) = q61 ∧ Rep a 85 [(1, pp b51)] ∧ St w s (pc b51 #[.slice a0_0 x0.Trains.length c0_0, .slice a0_1 x0.Turns.length c0_1] 25 :: R)) ?_ ?_
 ·refine W.block ?_
  refine W.loop (fun m a w => ∃ (rest64 : List ApiTrain) (k62 : Nat), rest64.length = m ∧ x0.Trains.drop k62 = rest64 ∧ Planform.loop1 rest64 = q61 ∧ Rep a 85 [(1, pp b51), (22, .slice a0_0 x0.Trains.length c0_0), (23, vi ((x0.Trains).length : Int)), (24, vi ((k62 : Nat) : Int))] ∧ St w s (pc b51 #[.slice a0_0 x0.Trains.length c0_0, .slice a0_1 x0.Turns.length c0_1] 25 :: R)) (m := x0.Trains.length) ⟨x0.Trains, 0, rfl, rfl, hq60, hE.pick _ ⟨rfl, rfl, rfl, rfl, trivial⟩, hS⟩ ?_
  clear hE hS a w hq60; rintro m68 a w ⟨rest64, k62, rfl, hd65, hq60, hE, hS⟩
  refine W.gen fun K71 hK71 => ?_
  rcases rest64 with _ | ⟨x63, rest64⟩
  ·have hlt66 := drop_nil hd65
   refine W.seq (W.region (vp hS hE rfl rfl fun a hE => WL.nil ?_))
   refine W.seq ?_
   refine W.condF hE rfl (decide_eq_false (by omega)) ?_
   subst hK71
   refine W.exit rfl ?_
   exact ⟨hq60, hE.pick _ ⟨rfl, trivial⟩, hS⟩
  obtain ⟨hlt66, hx67, hd65⟩ := drop_cons hd65
  rw [Planform.loop1] at hq60
  refine W.seq (W.region (vp hS hE rfl rfl fun a hE => WL.nil ?_))
  refine W.seq ?_
  refine W.condT hE rfl (decide_eq_true (by omega)) ?_
  refine W.skip ?_
  refine W.seq ?_
  refine W.block ?_
  refine W.seq (W.region ?_)
  obtain ⟨cs72, hl73, hR74, hat75⟩ := h0_0.at hx67
  obtain ⟨a76, c77, a79, c80, rfl, h78, h81⟩ := hR74
  refine vP hS hE (Gives.idx hE k62 rfl rfl sl22 rfl hlt66 (h0_0.aok hlt66)) rfl fun a hE => ?_
  refine vP hS hE (Gives.loadA hE rfl (fun w h => hat75 w _ h) ty111) rfl fun a hE => ?_
  refine WL.alloc hE hS (runs_plain rfl) zr111 rfl ?_; clear hE hS a w; intro b82 a w hE hS
  refine WL.storeI hE hS 0 rfl [vi x63.No, vi x63.Stock, .slice a76 x63.Stops.length c77, .slice a79 x63.Legs.length c80] (runs_plain rfl) rfl rfl rfl ty111 rfl rfl rfl rfl ?_; clear hE hS a w; intro a w hE hS
  refine WL.nil ?_
  refine W.seq ?_
  refine W.seq ?_
  obtain ⟨q84, hq83, hq60⟩ := bndS hq60
  refine W.cut (fun a w => ∃ (q87 : Bool), q87 = q84 ∧ Rep a 85 [(1, pp b51), (4, pp b82), (22, .slice a0_0 x0.Trains.length c0_0), (23, vi ((x0.Trains).length : Int)), (24, vi ((k62 : Nat) : Int)), (41, .bool q87)] ∧ St w s (pc b82 #[vi x63.No, vi x63.Stock, .slice a76 x63.Stops.length c77, .slice a79 x63.Legs.length c80] 111 :: pc b51 #[.slice a0_0 x0.Trains.length c0_0, .slice a0_1 x0.Turns.length c0_1] 25 :: R)) ?_ ?_
  ·refine W.gen fun K88 hK88 => ?_
   refine W.region ?_
   refine vP hS hE (Gives.fld hE rfl fl111_2) rfl fun a hE => ?_
   refine vP hS hE (Gives.loadB hE 0 rfl rfl rfl ty109) rfl fun a hE => ?_
   refine vP hS hE (Gives.len hE rfl sl109) rfl fun a hE => ?_
   refine v2 hS hE rfl rfl rfl rfl fun a hE => ?_
   rcases Bool.eq_false_or_eq_true (((x63.Stops).length : Int) == 0) with hg89 | hg89
   ·replace hq83 := iteT hg89 hq83
    refine nO hE rfl rfl rfl (by rw [hg89]; decide) rfl fun a hE => ?_
    refine nO hE rfl rfl rfl (by rw [hg89]; decide) rfl fun a hE => ?_
    refine nO hE rfl rfl rfl (by rw [hg89]; decide) rfl fun a hE => ?_
    refine nO hE rfl rfl rfl (by rw [hg89]; decide) rfl fun a hE => ?_
    refine nO hE rfl rfl rfl (by rw [hg89]; decide) rfl fun a hE => ?_
    refine nO hE rfl rfl rfl (by rw [hg89]; decide) rfl fun a hE => ?_
    refine nO hE rfl rfl rfl (by rw [hg89]; decide) rfl fun a hE => ?_
    refine nO hE rfl rfl rfl (by rw [hg89]; decide) rfl fun a hE => ?_
    refine vP hS hE (Gives.pickT hE rfl hg89 rfl) rfl fun a hE => WL.nil ?_
    subst hK88
    exact ⟨true, hq83, hE.pick _ ⟨rfl, rfl, rfl, rfl, rfl, rfl, trivial⟩, hS⟩
   replace hq83 := iteF hg89 hq83
   refine WL.vS hS hE (runs_if hE rfl rfl rfl hg89) (Gives.fld hE rfl fl111_3) rfl fun a hE => ?_
   refine WL.vS hS hE (runs_if hE rfl rfl rfl hg89) (Gives.loadB hE 0 rfl rfl rfl ty23) rfl fun a hE => ?_
   refine WL.vS hS hE (runs_if hE rfl rfl rfl hg89) (Gives.len hE rfl sl23) rfl fun a hE => ?_
   refine WL.vS hS hE (runs_if hE rfl rfl rfl hg89) (Gives.fld hE rfl fl111_2) rfl fun a hE => ?_
   refine WL.vS hS hE (runs_if hE rfl rfl rfl hg89) (Gives.loadB hE 0 rfl rfl rfl ty109) rfl fun a hE => ?_
   refine WL.vS hS hE (runs_if hE rfl rfl rfl hg89) (Gives.len hE rfl sl109) rfl fun a hE => ?_
   refine WL.vS hS hE (runs_if hE rfl rfl rfl hg89) (Gives.p hE rfl) rfl fun a hE => ?_
   refine WL.vS hS hE (runs_if hE rfl rfl rfl hg89) (Gives.p hE rfl) rfl fun a hE => ?_
   refine vP hS hE (Gives.pickF hE rfl hg89 rfl) rfl fun a hE => WL.nil ?_
   subst hK88
   exact ⟨(((x63.Legs).length : Int) != (w64 (((x63.Stops).length : Int) - 1))), hq83, hE.pick _ ⟨rfl, rfl, rfl, rfl, rfl, rfl, trivial⟩, hS⟩
  clear hE hS a w; rintro a w ⟨q87, rfl, hE, hS⟩
  refine W.cond hE rfl (fun hc90 => ?_) (fun hc90 => ?_)
  ·replace hq60 := iteT hc90 hq60
   refine W.seq (W.region (vp hS hE rfl rfl fun a hE => WL.nil ?_))
   refine W.ret ?_
   subst hK71
   rw [← hq60] at hr
   dsimp only at hr
   refine finG (fn := Tryz.f142) (rs := [.tmp 2]) (vs := [_]) hE rfl ⟨rfl, trivial⟩ ?_
   subst hr
   replace hS := hS.tail
   replace hS := hS.tail
   exact ⟨rfl, hS⟩
  replace hq60 := iteF hc90 hq60
  refine W.skip ?_
  refine W.seq ?_
  refine W.seq (W.region (vP hS hE (Gives.fld hE rfl fl111_3) rfl fun a hE => ?_))
  refine vP hS hE (Gives.loadB hE 0 rfl rfl rfl ty23) rfl fun a hE => ?_
  refine vP hS hE (Gives.len hE rfl sl23) rfl fun a hE => ?_
  refine vp hS hE rfl rfl fun a hE => WL.nil ?_
  obtain ⟨q92, hq91, hq60⟩ := bndS hq60
  refine W.cut (fun a w => (.next ()) = q92 ∧ Rep a 85 [(1, pp b51), (4, pp b82), (22, .slice a0_0 x0.Trains.length c0_0), (23, vi ((x0.Trains).length : Int)), (24, vi ((k62 : Nat) : Int))] ∧ St w s (pc b82 #[vi x63.No, vi x63.Stock, .slice a76 x63.Stops.length c77, .slice a79 x63.Legs.length c80] 111 :: pc b51 #[.slice a0_0 x0.Trains.length c0_0, .slice a0_1 x0.Turns.length c0_1] 25 :: R)) ?_ ?_
  ·refine W.block ?_
   refine W.loop (fun m a w => ∃ (rest95 : List (List Int)) (k93 : Nat), rest95.length = m ∧ x63.Legs.drop k93 = rest95 ∧ Planform.loop2 rest95 = q92 ∧ Rep a 85 [(1, pp b51), (4, pp b82), (22, .slice a0_0 x0.Trains.length c0_0), (23, vi ((x0.Trains).length : Int)), (24, vi ((k62 : Nat) : Int)), (43, .slice a79 x63.Legs.length c80), (44, vi ((x63.Legs).length : Int)), (45, vi ((k93 : Nat) : Int))] ∧ St w s (pc b82 #[vi x63.No, vi x63.Stock, .slice a76 x63.Stops.length c77, .slice a79 x63.Legs.length c80] 111 :: pc b51 #[.slice a0_0 x0.Trains.length c0_0, .slice a0_1 x0.Turns.length c0_1] 25 :: R)) (m := x63.Legs.length) ⟨x63.Legs, 0, rfl, rfl, hq91, hE.pick _ ⟨rfl, rfl, rfl, rfl, rfl, rfl, rfl, rfl, trivial⟩, hS⟩ ?_
   clear hE hS a w hq91; rintro m99 a w ⟨rest95, k93, rfl, hd96, hq91, hE, hS⟩
   refine W.gen fun K102 hK102 => ?_
   rcases rest95 with _ | ⟨x94, rest95⟩
   ·have hlt97 := drop_nil hd96
    refine W.seq (W.region (vp hS hE rfl rfl fun a hE => WL.nil ?_))
    refine W.seq ?_
    refine W.condF hE rfl (decide_eq_false (by omega)) ?_
    subst hK102
    refine W.exit rfl ?_
    exact ⟨hq91, hE.pick _ ⟨rfl, rfl, rfl, rfl, rfl, trivial⟩, hS⟩
   obtain ⟨hlt97, hx98, hd96⟩ := drop_cons hd96
   rw [Planform.loop2] at hq91
   refine W.seq (W.region (vp hS hE rfl rfl fun a hE => WL.nil ?_))
   refine W.seq ?_
   refine W.condT hE rfl (decide_eq_true (by omega)) ?_
   refine W.skip ?_
   refine W.seq ?_
   refine W.block ?_
   refine W.seq (W.region ?_)
   obtain ⟨cs103, hl104, hR105, hat106⟩ := h81.at hx98
   obtain ⟨a107, c108, rfl, h109⟩ := hR105
   refine vP hS hE (Gives.idx hE k93 rfl rfl sl23 rfl hlt97 (h81.aok hlt97)) rfl fun a hE => ?_
   refine vP hS hE (Gives.load1 hE rfl (fun w h => hat106 w _ h) ty65) rfl fun a hE => ?_
   refine vp hS hE rfl rfl fun a hE => WL.nil ?_
   refine W.seq (W.region (vp hS hE rfl rfl fun a hE => ?_))
   refine vP hS hE (Gives.len hE rfl sl65) rfl fun a hE => ?_
   refine vp hS hE rfl rfl fun a hE => WL.nil ?_
   refine W.cond hE rfl (fun hc110 => ?_) (fun hc110 => ?_)
   ·replace hq91 := iteT hc110 hq91
    refine W.seq (W.region (vp hS hE rfl rfl fun a hE => WL.nil ?_))
    refine W.ret ?_
    subst hK102
    subst hK71
    rw [← hq91] at hq60
    dsimp only at hq60
    rw [← hq60] at hr
    dsimp only at hr
    refine finG (fn := Tryz.f142) (rs := [.tmp 2]) (vs := [_]) hE rfl ⟨rfl, trivial⟩ ?_
    subst hr
    replace hS := hS.tail
    replace hS := hS.tail
    exact ⟨rfl, hS⟩
   replace hq91 := iteF hc110 hq91
   refine W.skip ?_
   refine W.region ?_
   refine vP hS hE (Gives.inc hE rfl (by have := h81.small; omega)) rfl fun a hE => ?_
   refine vp hS hE rfl rfl fun a hE => WL.nil ?_
   subst hK102
   exact ⟨rest95.length, Nat.lt_succ_self _, rest95, k93 + 1, rfl, hd96, hq91, hE.pick _ ⟨rfl, rfl, rfl, rfl, rfl, rfl, rfl, rfl, trivial⟩, hS⟩
  clear hE hS a w; rintro a w ⟨rfl, hE, hS⟩
  dsimp only at hq60
  refine W.seq ?_
  refine W.seq (W.region (vP hS hE (Gives.fld hE rfl fl111_2) rfl fun a hE => ?_))
  refine vP hS hE (Gives.loadB hE 0 rfl rfl rfl ty109) rfl fun a hE => ?_
  refine vP hS hE (Gives.len hE rfl sl109) rfl fun a hE => ?_
  refine vp hS hE rfl rfl fun a hE => WL.nil ?_
  refine W.cond hE rfl (fun hc111 => ?_) (fun hc111 => ?_)
  ·replace hq60 := iteT hc111 hq60
   refine W.seq (W.region (vp hS hE rfl rfl fun a hE => WL.nil ?_))
   refine W.ret ?_
   subst hK71
   rw [← hq60] at hr
   dsimp only at hr
   refine finG (fn := Tryz.f142) (rs := [.tmp 2]) (vs := [_]) hE rfl ⟨rfl, trivial⟩ ?_
   subst hr
   replace hS := hS.tail
   replace hS := hS.tail
   exact ⟨rfl, hS⟩
  replace hq60 := iteF hc111 hq60
  refine W.skip ?_
  refine W.seq (W.region (vP hS hE (Gives.fld hE rfl fl111_3) rfl fun a hE => ?_))
  refine vP hS hE (Gives.loadB hE 0 rfl rfl rfl ty23) rfl fun a hE => ?_
  refine vP hS hE (Gives.len hE rfl sl23) rfl fun a hE => ?_
  refine vp hS hE rfl rfl fun a hE => WL.nil ?_
  obtain ⟨q113, hq112, hq60⟩ := bndS hq60
  refine W.cut (fun a w => (.next ()) = q113 ∧ Rep a 85 [(1, pp b51), (22, .slice a0_0 x0.Trains.length c0_0), (23, vi ((x0.Trains).length : Int)), (24, vi ((k62 : Nat) : Int))] ∧ St w s (pc b82 #[vi x63.No, vi x63.Stock, .slice a76 x63.Stops.length c77, .slice a79 x63.Legs.length c80] 111 :: pc b51 #[.slice a0_0 x0.Trains.length c0_0, .slice a0_1 x0.Turns.length c0_1] 25 :: R)) ?_ ?_
  ·refine W.block ?_
   refine W.loop (fun m a w => ∃ (rest116 : List (List Int)) (k114 : Nat), rest116.length = m ∧ x63.Legs.drop k114 = rest116 ∧ Planform.loop3 rest116 = q113 ∧ Rep a 85 [(1, pp b51), (22, .slice a0_0 x0.Trains.length c0_0), (23, vi ((x0.Trains).length : Int)), (24, vi ((k62 : Nat) : Int)), (58, .slice a79 x63.Legs.length c80), (59, vi ((x63.Legs).length : Int)), (60, vi ((k114 : Nat) : Int))] ∧ St w s (pc b82 #[vi x63.No, vi x63.Stock, .slice a76 x63.Stops.length c77, .slice a79 x63.Legs.length c80] 111 :: pc b51 #[.slice a0_0 x0.Trains.length c0_0, .slice a0_1 x0.Turns.length c0_1] 25 :: R)) (m := x63.Legs.length) ⟨x63.Legs, 0, rfl, rfl, hq112, hE.pick _ ⟨rfl, rfl, rfl, rfl, rfl, rfl, rfl, trivial⟩, hS⟩ ?_
   clear hE hS a w hq112; rintro m120 a w ⟨rest116, k114, rfl, hd117, hq112, hE, hS⟩
   refine W.gen fun K123 hK123 => ?_
   rcases rest116 with _ | ⟨x115, rest116⟩
   ·have hlt118 := drop_nil hd117
    refine W.seq (W.region (vp hS hE rfl rfl fun a hE => WL.nil ?_))
    refine W.seq ?_
    refine W.condF hE rfl (decide_eq_false (by omega)) ?_
    subst hK123
    refine W.exit rfl ?_
    exact ⟨hq112, hE.pick _ ⟨rfl, rfl, rfl, rfl, trivial⟩, hS⟩
   obtain ⟨hlt118, hx119, hd117⟩ := drop_cons hd117
   rw [Planform.loop3] at hq112
   refine W.seq (W.region (vp hS hE rfl rfl fun a hE => WL.nil ?_))
   refine W.seq ?_
   refine W.condT hE rfl (decide_eq_true (by omega)) ?_
   refine W.skip ?_
   refine W.seq ?_
   refine W.block ?_
   refine W.seq (W.region ?_)
   obtain ⟨cs124, hl125, hR126, hat127⟩ := h81.at hx119
   obtain ⟨a128, c129, rfl, h130⟩ := hR126
   refine vP hS hE (Gives.idx hE k114 rfl rfl sl23 rfl hlt118 (h81.aok hlt118)) rfl fun a hE => ?_
   refine vP hS hE (Gives.load1 hE rfl (fun w h => hat127 w _ h) ty65) rfl fun a hE => ?_
   refine vp hS hE rfl rfl fun a hE => WL.nil ?_
   refine W.seq (W.region (vp hS hE rfl rfl fun a hE => ?_))
   refine vP hS hE (Gives.len hE rfl sl65) rfl fun a hE => ?_
   refine vp hS hE rfl rfl fun a hE => WL.nil ?_
   refine W.cond hE rfl (fun hc131 => ?_) (fun hc131 => ?_)
   ·replace hq112 := iteT hc131 hq112
    refine W.seq (W.region (vp hS hE rfl rfl fun a hE => WL.nil ?_))
    refine W.ret ?_
    subst hK123
    subst hK71
    rw [← hq112] at hq60
    dsimp only at hq60
    rw [← hq60] at hr
    dsimp only at hr
    refine finG (fn := Tryz.f142) (rs := [.tmp 2]) (vs := [_]) hE rfl ⟨rfl, trivial⟩ ?_
    subst hr
    replace hS := hS.tail
    replace hS := hS.tail
    exact ⟨rfl, hS⟩
   replace hq112 := iteF hc131 hq112
   refine W.skip ?_
   refine W.region ?_
   refine vP hS hE (Gives.inc hE rfl (by have := h81.small; omega)) rfl fun a hE => ?_
   refine vp hS hE rfl rfl fun a hE => WL.nil ?_
   subst hK123
   exact ⟨rest116.length, Nat.lt_succ_self _, rest116, k114 + 1, rfl, hd117, hq112, hE.pick _ ⟨rfl, rfl, rfl, rfl, rfl, rfl, rfl, trivial⟩, hS⟩
  clear hE hS a w; rintro a w ⟨rfl, hE, hS⟩
  dsimp only at hq60
  refine W.region ?_
  refine vP hS hE (Gives.inc hE rfl (by have := h0_0.small; omega)) rfl fun a hE => ?_
  refine vp hS hE rfl rfl fun a hE => WL.nil ?_
  replace hS := hS.tail
  subst hK71
  exact ⟨rest64.length, Nat.lt_succ_self _, rest64, k62 + 1, rfl, hd65, hq60, hE.pick _ ⟨rfl, rfl, rfl, rfl, trivial⟩, hS⟩
 clear hE hS a w; rintro a w ⟨rfl, hE, hS⟩
 dsimp only at hr
 refine W.seq ?_
 refine W.seq (W.region (vP hS hE (Gives.fld hE rfl fl25_1) rfl fun a hE => ?_))
 refine vP hS hE (Gives.loadB hE 0 rfl rfl rfl ty23) rfl fun a hE => ?_
 refine vP hS hE (Gives.len hE rfl sl23) rfl fun a hE => ?_
 refine vp hS hE rfl rfl fun a hE => WL.nil ?_
 obtain ⟨q133, hq132, hr⟩ := bndS hr
 refine W.cut (fun a w => (.next ()) = q133 ∧ Rep a 85 [] ∧ St w s (pc b51 #[.slice a0_0 x0.Trains.length c0_0, .slice a0_1 x0.Turns.length c0_1] 25 :: R)) ?_ ?_
 ·refine W.block ?_
  refine W.loop (fun m a w => ∃ (rest136 : List (List Int)) (k134 : Nat), rest136.length = m ∧ x0.Turns.drop k134 = rest136 ∧ Planform.loop4 rest136 = q133 ∧ Rep a 85 [(70, .slice a0_1 x0.Turns.length c0_1), (71, vi ((x0.Turns).length : Int)), (72, vi ((k134 : Nat) : Int))] ∧ St w s (pc b51 #[.slice a0_0 x0.Trains.length c0_0, .slice a0_1 x0.Turns.length c0_1] 25 :: R)) (m := x0.Turns.length) ⟨x0.Turns, 0, rfl, rfl, hq132, hE.pick _ ⟨rfl, rfl, rfl, trivial⟩, hS⟩ ?_
  clear hE hS a w hq132; rintro m140 a w ⟨rest136, k134, rfl, hd137, hq132, hE, hS⟩
  refine W.gen fun K143 hK143 => ?_
  rcases rest136 with _ | ⟨x135, rest136⟩
  ·have hlt138 := drop_nil hd137
   refine W.seq (W.region (vp hS hE rfl rfl fun a hE => WL.nil ?_))
   refine W.seq ?_
   refine W.condF hE rfl (decide_eq_false (by omega)) ?_
   subst hK143
   refine W.exit rfl ?_
   exact ⟨hq132, hE.pick _ trivial, hS⟩
  obtain ⟨hlt138, hx139, hd137⟩ := drop_cons hd137
  rw [Planform.loop4] at hq132
  refine W.seq (W.region (vp hS hE rfl rfl fun a hE => WL.nil ?_))
  refine W.seq ?_
  refine W.condT hE rfl (decide_eq_true (by omega)) ?_
  refine W.skip ?_
  refine W.seq ?_
  refine W.block ?_
  refine W.seq (W.region ?_)
  obtain ⟨cs144, hl145, hR146, hat147⟩ := h0_1.at hx139
  obtain ⟨a148, c149, rfl, h150⟩ := hR146
  refine vP hS hE (Gives.idx hE k134 rfl rfl sl23 rfl hlt138 (h0_1.aok hlt138)) rfl fun a hE => ?_
  refine vP hS hE (Gives.load1 hE rfl (fun w h => hat147 w _ h) ty65) rfl fun a hE => ?_
  refine vp hS hE rfl rfl fun a hE => WL.nil ?_
  refine W.block ?_
  refine W.seq (W.region (vp hS hE rfl rfl fun a hE => ?_))
  refine vP hS hE (Gives.len hE rfl sl65) rfl fun a hE => ?_
  refine v2 hS hE rfl rfl rfl rfl fun a hE => WL.nil ?_
  refine W.cond hE rfl (fun hc151 => ?_) (fun hc151 => ?_)
  ·replace hq132 := iteT hc151 hq132
   refine W.seq (W.region (vp hS hE rfl rfl fun a hE => WL.nil ?_))
   refine W.ret ?_
   subst hK143
   rw [← hq132] at hr
   dsimp only at hr
   refine finG (fn := Tryz.f142) (rs := [.tmp 2]) (vs := [_]) hE rfl ⟨rfl, trivial⟩ ?_
   subst hr
   replace hS := hS.tail
   exact ⟨rfl, hS⟩
  replace hq132 := iteF hc151 hq132
  refine W.seq (W.region (vp hS hE rfl rfl fun a hE => ?_))
  refine vP hS hE (Gives.len hE rfl sl65) rfl fun a hE => ?_
  refine v2 hS hE rfl rfl rfl rfl fun a hE => WL.nil ?_
  refine W.cond hE rfl (fun hc152 => ?_) (fun hc152 => ?_)
  ·replace hq132 := iteT hc152 hq132
   refine W.seq (W.region (vp hS hE rfl rfl fun a hE => WL.nil ?_))
   refine W.ret ?_
   subst hK143
   rw [← hq132] at hr
   dsimp only at hr
   refine finG (fn := Tryz.f142) (rs := [.tmp 2]) (vs := [_]) hE rfl ⟨rfl, trivial⟩ ?_
   subst hr
   replace hS := hS.tail
   exact ⟨rfl, hS⟩
  replace hq132 := iteF hc152 hq132
  refine W.skip ?_
  refine W.region ?_
  refine vP hS hE (Gives.inc hE rfl (by have := h0_1.small; omega)) rfl fun a hE => ?_
  refine vp hS hE rfl rfl fun a hE => WL.nil ?_
  subst hK143
  exact ⟨rest136.length, Nat.lt_succ_self _, rest136, k134 + 1, rfl, hd137, hq132, hE.pick _ ⟨rfl, rfl, rfl, trivial⟩, hS⟩
 clear hE hS a w; rintro a w ⟨rfl, hE, hS⟩
 dsimp only at hr
 refine W.seq (W.region (vp hS hE rfl rfl fun a hE => WL.nil ?_))
 refine W.ret ?_
 refine finG (fn := Tryz.f142) (rs := [.tmp 2]) (vs := [_]) hE rfl ⟨rfl, trivial⟩ ?_
 subst hr
 replace hS := hS.tail
 exact ⟨rfl, hS⟩
set_option maxHeartbeats 8000000 in
theorem Planwithin_ok  {w : World} {s : Sg} {R : List HP} {x0 : Int} {x1 : Int} {x2 : Int} (hS : St w s (R))  {r : Bool} (hr : Planwithin x0 x1 x2 = r) :
  Calls Tryz.prog 144 [vi x0, vi x1, vi x2].toArray w (fun e w => e = .returned (.bool r) ∧ St w s (R)) := by
 refine enter Tryz.func144 rfl rfl rfl fun a hE => ?_
 rw [Planwithin] at hr
 refine W.seq (W.region (vp hS hE rfl rfl fun a hE => WL.nil ?_))
 refine W.seq ?_
 obtain ⟨q52, hq51, hr⟩ := bndS hr
 refine W.cut (fun a w => ∃ (q55 : Bool), q55 = q52 ∧ Rep a 15 [(6, .bool q55)] ∧ St w s (R)) ?_ ?_
 ·refine W.gen fun K56 hK56 => ?_
  refine W.region ?_
  refine v2 hS hE rfl rfl rfl rfl fun a hE => ?_
  refine v2 hS hE rfl rfl rfl rfl fun a hE => ?_
  rcases Bool.eq_false_or_eq_true (decide (x0 ≥ x1)) with hg57 | hg57
  ·replace hq51 := iteT hg57 hq51
   refine WL.vS hS hE (runs_if hE rfl rfl rfl hg57) (Gives.p hE rfl) rfl fun a hE => ?_
   refine WL.vS hS hE (runs_if hE rfl rfl rfl hg57) (Gives.p hE rfl) rfl fun a hE => ?_
   refine WL.vS hS hE (runs_if hE rfl rfl rfl hg57) (Gives.p hE rfl) rfl fun a hE => ?_
   refine vP hS hE (Gives.pickT hE rfl hg57 rfl) rfl fun a hE => ?_
   refine vp hS hE rfl rfl fun a hE => WL.nil ?_
   subst hK56
   exact ⟨decide (x0 ≤ x2), hq51, hE.pick _ ⟨rfl, trivial⟩, hS⟩
  replace hq51 := iteF hg57 hq51
  refine nO hE rfl rfl rfl (by rw [hg57]; decide) rfl fun a hE => ?_
  refine nO hE rfl rfl rfl (by rw [hg57]; decide) rfl fun a hE => ?_
  refine nO hE rfl rfl rfl (by rw [hg57]; decide) rfl fun a hE => ?_
  refine vP hS hE (Gives.pickF hE rfl hg57 rfl) rfl fun a hE => ?_
  refine vp hS hE rfl rfl fun a hE => WL.nil ?_
  subst hK56
  exact ⟨false, hq51, hE.pick _ ⟨rfl, trivial⟩, hS⟩
 clear hE hS a w; rintro a w ⟨q55, rfl, hE, hS⟩
 refine W.ret ?_
 refine finG (fn := Tryz.f144) (rs := [.tmp 6]) (vs := [_]) hE rfl ⟨rfl, trivial⟩ ?_
 subst hr
 exact ⟨rfl, hS⟩
set_option maxHeartbeats 8000000 in
theorem Plansentence_ok  {w : World} {s : Sg} {R : List HP} {x0 : ByteArray} {x1 : List Int} {a1 : Option Addr} {c1 : Nat} (hS : St w s (R)) (hTab : TabS Tryz.prog s) (h1 : Sl 1 (RI .i64) s a1 c1 x1) {r : ByteArray} (hr : Plansentence x0 x1 = some r) :
  Calls Tryz.prog 145 [.string x0, .slice a1 x1.length c1].toArray w (fun e w => e = .returned (.string r) ∧ St w s (R)) := by
 refine enter Tryz.func145 rfl rfl rfl fun a hE => ?_
 rw [Plansentence] at hr
 refine W.seq (W.region (vp hS hE rfl rfl fun a hE => WL.nil ?_))
 refine W.seq ?_
 refine W.seq (W.region (vp hS hE rfl rfl fun a hE => ?_))
 refine vP hS hE (Gives.len hE rfl sl65) rfl fun a hE => ?_
 refine vp hS hE rfl rfl fun a hE => WL.nil ?_
 obtain ⟨q52, hq51, hr⟩ := bindS hr
 refine W.cut (fun a w => ∃ (q62 : ByteArray), q62 = q52 ∧ Rep a 21 [(0, .string q62)] ∧ St w s (R)) ?_ ?_
 ·refine W.block ?_
  refine W.loop (fun m a w => ∃ (rest55 : List Int) (k53 : Nat), ∃ (q62 : ByteArray), rest55.length = m ∧ x1.drop k53 = rest55 ∧ Plansentence.loop1 rest55 q62 = some q52 ∧ Rep a 21 [(0, .string q62), (7, .slice a1 x1.length c1), (8, vi ((x1).length : Int)), (9, vi ((k53 : Nat) : Int))] ∧ St w s (R)) (m := x1.length) ⟨x1, 0, x0, rfl, rfl, hq51, hE.pick _ ⟨rfl, rfl, rfl, rfl, trivial⟩, hS⟩ ?_
  clear hE hS a w hq51; rintro m59 a w ⟨rest55, k53, q62, rfl, hd56, hq51, hE, hS⟩
  refine W.gen fun K63 hK63 => ?_
  rcases rest55 with _ | ⟨x54, rest55⟩
  ·have hlt57 := drop_nil hd56
   refine W.seq (W.region (vp hS hE rfl rfl fun a hE => WL.nil ?_))
   refine W.seq ?_
   refine W.condF hE rfl (decide_eq_false (by omega)) ?_
   subst hK63
   refine W.exit rfl ?_
   exact ⟨q62, Option.some.inj hq51, hE.pick _ ⟨rfl, trivial⟩, hS⟩
  obtain ⟨hlt57, hx58, hd56⟩ := drop_cons hd56
  rw [Plansentence.loop1] at hq51
  refine W.seq (W.region (vp hS hE rfl rfl fun a hE => WL.nil ?_))
  refine W.seq ?_
  refine W.condT hE rfl (decide_eq_true (by omega)) ?_
  refine W.skip ?_
  refine W.seq ?_
  refine W.block ?_
  refine W.seq (W.region ?_)
  obtain ⟨cs64, hl65, hR66, hat67⟩ := h1.at hx58
  subst hR66
  refine vP hS hE (Gives.idx hE k53 rfl rfl sl65 rfl hlt57 (h1.aok hlt57)) rfl fun a hE => ?_
  refine vP hS hE (Gives.load1 hE rfl (fun w h => hat67 w _ h) ty3) rfl fun a hE => ?_
  refine vp hS hE rfl rfl fun a hE => WL.nil ?_
  refine W.region ?_
  refine v2 hS hE rfl rfl rfl rfl fun a hE => ?_
  obtain ⟨q68, hq69, hq51⟩ := bindS hq51
  refine WL.fnq hE (itoa_ok hS (TabS.mono (Sg.Le.refl _) hTab) hq69) (runs_plain rfl) bd72 rfl rfl rfl ?_
  clear hE hS; rintro e w ⟨rfl, hS⟩; refine ⟨_, rfl, ?_⟩; clear a; intro a hE
  obtain ⟨x70, hx71, hq51⟩ := bindS hq51
  refine vP hS hE (Gives.catS hE rfl rfl hx71) rfl fun a hE => ?_
  obtain ⟨x72, hx73, hq51⟩ := bindS hq51
  refine vP hS hE (Gives.catS hE rfl rfl hx73) rfl fun a hE => ?_
  refine vp hS hE rfl rfl fun a hE => WL.nil ?_
  refine W.region ?_
  refine vP hS hE (Gives.inc hE rfl (by have := h1.small; omega)) rfl fun a hE => ?_
  refine vp hS hE rfl rfl fun a hE => WL.nil ?_
  subst hK63
  exact ⟨rest55.length, Nat.lt_succ_self _, rest55, k53 + 1, x72, rfl, hd56, hq51, hE.pick _ ⟨rfl, rfl, rfl, rfl, trivial⟩, hS⟩
 clear hE hS a w; rintro a w ⟨q62, rfl, hE, hS⟩
 refine W.seq (W.region (vp hS hE rfl rfl fun a hE => ?_))
 obtain ⟨x74, hx75, hr⟩ := bindS hr
 refine vP hS hE (Gives.catS hE rfl rfl hx75) rfl fun a hE => ?_
 refine vp hS hE rfl rfl fun a hE => WL.nil ?_
 refine W.ret ?_
 refine finG (fn := Tryz.f145) (rs := [.tmp 4]) (vs := [_]) hE rfl ⟨rfl, trivial⟩ ?_
 obtain rfl := Option.some.inj hr
 exact ⟨rfl, hS⟩
set_option maxHeartbeats 8000000 in
theorem PlanText_1_v1_ok  {w : World} {s : Sg} {R : List HP} {pb0 : Nat} {pb1 : Nat} {x0 : ByteArray} {x1 : List Int} {a1 : Option Addr} {c1 : Nat} {y0 : Bool} {y1_0 : ByteArray} (hS : St w s (pc pb0 #[.bool y0] 4 :: sbC 141 5 pb1 y1_0 :: R)) (hTab : TabS Tryz.prog s) (h1 : Sl 1 (RI .i64) s a1 c1 x1) {r : Bool × ByteArray} (hr : PlanText_1_v1 x0 x1 y0 y1_0 = some r) :
  Calls Tryz.prog 143 [.string x0, .slice a1 x1.length c1, pp pb0, pp pb1].toArray w (fun e w => e = .returned (.tuple #[]) ∧ St w s (pc pb0 #[.bool r.1] 4 :: sbC 141 5 pb1 r.2 :: R)) := by
 refine enter Tryz.func143 rfl rfl rfl fun a hE => ?_
 rw [PlanText_1_v1] at hr
 refine W.seq ?_
 refine W.seq (W.region (vp hS hE rfl rfl fun a hE => ?_))
 refine vP hS hE (Gives.len hE rfl sl65) rfl fun a hE => ?_
 refine vp hS hE rfl rfl fun a hE => WL.nil ?_
 obtain ⟨q54, hq53, hr⟩ := bndS hr
 refine W.cut (fun a w => ∃ (q64 : Bool), q64 = q54 ∧ Rep a 24 [(0, .string x0), (1, .slice a1 x1.length c1), (3, pp pb1)] ∧ St w s (pc pb0 #[.bool q64] 4 :: sbC 141 5 pb1 y1_0 :: R)) ?_ ?_
 ·refine W.block ?_
  refine W.loop (fun m a w => ∃ (rest57 : List Int) (k55 : Nat), ∃ (q64 : Bool), rest57.length = m ∧ x1.drop k55 = rest57 ∧ PlanText_1_v1.loop1 rest57 q64 = q54 ∧ Rep a 24 [(0, .string x0), (1, .slice a1 x1.length c1), (2, pp pb0), (3, pp pb1), (8, .slice a1 x1.length c1), (9, vi ((x1).length : Int)), (10, vi ((k55 : Nat) : Int))] ∧ St w s (pc pb0 #[.bool q64] 4 :: sbC 141 5 pb1 y1_0 :: R)) (m := x1.length) ⟨x1, 0, y0, rfl, rfl, hq53, hE.pick _ ⟨rfl, rfl, rfl, rfl, rfl, rfl, rfl, trivial⟩, hS⟩ ?_
  clear hE hS a w hq53; rintro m61 a w ⟨rest57, k55, q64, rfl, hd58, hq53, hE, hS⟩
  refine W.gen fun K65 hK65 => ?_
  rcases rest57 with _ | ⟨x56, rest57⟩
  ·have hlt59 := drop_nil hd58
   refine W.seq (W.region (vp hS hE rfl rfl fun a hE => WL.nil ?_))
   refine W.seq ?_
   refine W.condF hE rfl (decide_eq_false (by omega)) ?_
   subst hK65
   refine W.exit rfl ?_
   exact ⟨q64, hq53, hE.pick _ ⟨rfl, rfl, rfl, trivial⟩, hS⟩
  obtain ⟨hlt59, hx60, hd58⟩ := drop_cons hd58
  rw [PlanText_1_v1.loop1] at hq53
  refine W.seq (W.region (vp hS hE rfl rfl fun a hE => WL.nil ?_))
  refine W.seq ?_
  refine W.condT hE rfl (decide_eq_true (by omega)) ?_
  refine W.skip ?_
  refine W.seq ?_
  refine W.block ?_
  refine W.seq (W.region ?_)
  obtain ⟨cs66, hl67, hR68, hat69⟩ := h1.at hx60
  subst hR68
  refine vP hS hE (Gives.idx hE k55 rfl rfl sl65 rfl hlt59 (h1.aok hlt59)) rfl fun a hE => ?_
  refine vP hS hE (Gives.load1 hE rfl (fun w h => hat69 w _ h) ty3) rfl fun a hE => ?_
  refine vp hS hE rfl rfl fun a hE => WL.nil ?_
  obtain ⟨q71, hq70, hq53⟩ := bndS hq53
  refine W.cut (fun a w => ∃ (q74 : Bool), q74 = q71 ∧ Rep a 24 [(0, .string x0), (1, .slice a1 x1.length c1), (2, pp pb0), (3, pp pb1), (8, .slice a1 x1.length c1), (9, vi ((x1).length : Int)), (10, vi ((k55 : Nat) : Int))] ∧ St w s (pc pb0 #[.bool q74] 4 :: sbC 141 5 pb1 y1_0 :: R)) ?_ ?_
  ·refine W.gen fun K75 hK75 => ?_
   refine W.region ?_
   refine vP hS hE (Gives.loadB hE 0 rfl rfl rfl ty4) rfl fun a hE => ?_
   refine vp hS hE rfl rfl fun a hE => ?_
   rcases Bool.eq_false_or_eq_true q64 with hg76 | hg76
   ·replace hq70 := iteT hg76 hq70
    refine WL.vS hS hE (runs_if hE rfl rfl rfl hg76) (Gives.p hE rfl) rfl fun a hE => ?_
    refine WL.fnq hE (Planwithin_ok hS  rfl (r := Planwithin x56 0 999999)) (runs_if hE rfl rfl rfl hg76) bd144 rfl rfl rfl ?_
    clear hE hS; rintro e w ⟨rfl, hS⟩; refine ⟨_, rfl, ?_⟩; clear a; intro a hE
    refine vP hS hE (Gives.pickT hE rfl hg76 rfl) rfl fun a hE => ?_
    refine WL.storeI hE hS 0 rfl [.bool (Planwithin x56 0 999999)] (runs_plain rfl) rfl rfl rfl ty4 rfl rfl rfl rfl ?_; clear hE hS a w; intro a w hE hS
    refine WL.nil ?_
    subst hK75
    exact ⟨(Planwithin x56 0 999999), hq70, hE.pick _ ⟨rfl, rfl, rfl, rfl, rfl, rfl, rfl, trivial⟩, hS⟩
   replace hq70 := iteF hg76 hq70
   refine nO hE rfl rfl rfl (by rw [hg76]; decide) rfl fun a hE => ?_
   refine nO hE rfl rfl rfl (by rw [hg76]; decide) rfl fun a hE => ?_
   refine vP hS hE (Gives.pickF hE rfl hg76 rfl) rfl fun a hE => ?_
   refine WL.storeI hE hS 0 rfl [.bool false] (runs_plain rfl) rfl rfl rfl ty4 rfl rfl rfl rfl ?_; clear hE hS a w; intro a w hE hS
   refine WL.nil ?_
   subst hK75
   exact ⟨false, hq70, hE.pick _ ⟨rfl, rfl, rfl, rfl, rfl, rfl, rfl, trivial⟩, hS⟩
  clear hE hS a w; rintro a w ⟨q74, rfl, hE, hS⟩
  refine W.region ?_
  refine vP hS hE (Gives.inc hE rfl (by have := h1.small; omega)) rfl fun a hE => ?_
  refine vp hS hE rfl rfl fun a hE => WL.nil ?_
  subst hK65
  exact ⟨rest57.length, Nat.lt_succ_self _, rest57, k55 + 1, q74, rfl, hd58, hq53, hE.pick _ ⟨rfl, rfl, rfl, rfl, rfl, rfl, rfl, trivial⟩, hS⟩
 clear hE hS a w; rintro a w ⟨q64, rfl, hE, hS⟩
 refine W.region ?_
 refine v2 hS hE rfl rfl rfl rfl fun a hE => ?_
 obtain ⟨q77, hq78, hr⟩ := bindS hr
 have hc_ := Plansentence_ok hS (TabS.mono (Sg.Le.refl _) hTab) h1 hq78
 refine WL.fnq hE (hc_) (runs_plain rfl) bd145 rfl rfl rfl ?_
 clear hE hS hc_; rintro e w ⟨rfl, hS⟩; refine ⟨_, rfl, ?_⟩; clear a; intro a hE
 replace hS := hS.front 1 rfl
 obtain ⟨q79, hq80, hr⟩ := bindS hr
 refine WL.fnq hE (sbWrite_ok hS hq80) (runs_plain rfl) bd70 rfl rfl rfl ?_
 clear hE hS; rintro e w ⟨rfl, hS⟩; refine ⟨_, rfl, ?_⟩; clear a; intro a hE
 refine WL.nil ?_
 refine finG (fn := Tryz.f143) (rs := []) (vs := []) hE rfl trivial ?_
 obtain rfl := Option.some.inj hr
 replace hS := hS.front 1 rfl
 exact ⟨rfl, hS⟩
set_option maxHeartbeats 8000000 in
theorem PlanText_ok  {w : World} {s : Sg} {R : List HP} {x0 : ApiDay} {a0_0 : Option Addr} {c0_0 : Nat} {a0_1 : Option Addr} {c0_1 : Nat} (hS : St w s (R)) (hTab : TabS Tryz.prog s) (h0_0 : Sl 4 RApiTrain s a0_0 c0_0 x0.Trains) (h0_1 : Sl 1 (RL 1 (RI .i64)) s a0_1 c0_1 x0.Turns) {r : ByteArray × Int} (hr : PlanText x0 = some r) :
  Calls Tryz.prog 105 [.agg (List.toArray [.slice a0_0 x0.Trains.length c0_0, .slice a0_1 x0.Turns.length c0_1])].toArray w (fun e w => e = .returned (.tuple #[.string r.1, vi r.2]) ∧ St w s (R)) := by
 refine enter Tryz.func105 rfl rfl rfl fun a hE => ?_
 rw [PlanText] at hr
 refine W.seq (W.region ?_)
 refine WL.box hE hS (runs_plain rfl) rfl rfl rfl ?_; clear hE hS a w; intro b51 a w hE hS
 refine v2 hS hE rfl rfl rfl rfl fun a hE => WL.nil ?_
 refine W.seq ?_
 refine W.seq (W.region (vP hS hE (Gives.loadBA hE 0 rfl rfl ty25) rfl fun a hE => ?_))
 refine WL.fnq hE (Planform_ok hS h0_0 h0_1 rfl (r := Planform x0)) (runs_plain rfl) bd142 rfl rfl rfl ?_
 clear hE hS; rintro e w ⟨rfl, hS⟩; refine ⟨_, rfl, ?_⟩; clear a; intro a hE
 refine vp hS hE rfl rfl fun a hE => WL.nil ?_
 refine W.seq (W.region (v2 hS hE rfl rfl rfl rfl fun a hE => WL.nil ?_))
 refine W.cond hE rfl (fun hc52 => ?_) (fun hc52 => ?_)
 ·replace hr := iteT hc52 hr
  refine W.seq (W.region (v2 hS hE rfl rfl rfl rfl fun a hE => ?_))
  refine vp hS hE rfl rfl fun a hE => WL.nil ?_
  refine W.ret ?_
  refine finG (fn := Tryz.f105) (rs := [.tmp 2, .tmp 3]) (vs := [_, _]) hE rfl ⟨rfl, rfl, trivial⟩ ?_
  obtain rfl := Option.some.inj hr
  replace hS := hS.tail
  exact ⟨rfl, hS⟩
 replace hr := iteF hc52 hr
 refine W.skip ?_
 refine W.seq (W.region ?_)
 refine WL.alloc hE hS (runs_plain rfl) zr141 rfl ?_; clear hE hS a w; intro b53 a w hE hS
 replace hS := hS.sbNew 5
 refine WL.nil ?_
 refine W.seq (W.region ?_)
 refine WL.alloc hE hS (runs_plain rfl) zr4 rfl ?_; clear hE hS a w; intro b54 a w hE hS
 refine WL.storeI hE hS 0 rfl [.bool true] (runs_plain rfl) rfl rfl rfl ty4 rfl rfl rfl rfl ?_; clear hE hS a w; intro a w hE hS
 refine WL.nil ?_
 refine W.seq (W.region (vP hS hE (Gives.mkfn hE (vs := [pp b54, pp b53]) rfl) rfl fun a hE => ?_))
 refine vp hS hE rfl rfl fun a hE => WL.nil ?_
 refine W.seq ?_
 refine W.seq (W.region (vP hS hE (Gives.fld hE rfl fl25_0) rfl fun a hE => ?_))
 refine vP hS hE (Gives.loadB hE 2 rfl rfl rfl ty22) rfl fun a hE => ?_
 refine vP hS hE (Gives.len hE rfl sl22) rfl fun a hE => ?_
 refine vp hS hE rfl rfl fun a hE => WL.nil ?_
 obtain ⟨q56, hq55, hr⟩ := bindS hr
 refine W.cut (fun a w => ∃ (q66 : ByteArray), ∃ (q67 : Bool), ∃ (s64 : Sg), s.Le s64 ∧ (q66, q67) = q56 ∧ Rep a 81 [(1, pp b51), (5, pp b53), (6, pp b54), (7, .func (.func 143) #[] #[pp b54, pp b53])] ∧ St w s64 (pc b54 #[.bool q67] 4 :: sbC 141 5 b53 q66 :: pc b51 #[.slice a0_0 x0.Trains.length c0_0, .slice a0_1 x0.Turns.length c0_1] 25 :: R)) ?_ ?_
 ·refine W.block ?_
  refine W.loop (fun m a w => ∃ (rest59 : List ApiTrain) (k57 : Nat), ∃ (q66 : ByteArray), ∃ (q67 : Bool), ∃ (s64 : Sg), rest59.length = m ∧ x0.Trains.drop k57 = rest59 ∧ s.Le s64 ∧ PlanText.loop1 rest59 q66 q67 = some q56 ∧ Rep a 81 [(1, pp b51), (5, pp b53), (6, pp b54), (7, .func (.func 143) #[] #[pp b54, pp b53]), (23, .slice a0_0 x0.Trains.length c0_0), (24, vi ((x0.Trains).length : Int)), (25, vi ((k57 : Nat) : Int))] ∧ St w s64 (pc b54 #[.bool q67] 4 :: sbC 141 5 b53 q66 :: pc b51 #[.slice a0_0 x0.Trains.length c0_0, .slice a0_1 x0.Turns.length c0_1] 25 :: R)) (m := x0.Trains.length) ⟨x0.Trains, 0, ByteArray.empty, true, s, rfl, rfl, (Sg.Le.refl _), hq55, hE.pick _ ⟨rfl, rfl, rfl, rfl, rfl, rfl, rfl, trivial⟩, hS⟩ ?_
  clear hE hS a w hq55; rintro m63 a w ⟨rest59, k57, q66, q67, s64, rfl, hd60, hle65, hq55, hE, hS⟩
  refine W.gen fun K68 hK68 => ?_
  replace h0_0 := Sl.mono RApiTrain.mono hle65 h0_0
  replace h0_1 := Sl.mono (RL.mono RI.mono) hle65 h0_1
  rcases rest59 with _ | ⟨x58, rest59⟩
  ·have hlt61 := drop_nil hd60
   refine W.seq (W.region (vp hS hE rfl rfl fun a hE => WL.nil ?_))
   refine W.seq ?_
   refine W.condF hE rfl (decide_eq_false (by omega)) ?_
   subst hK68
   refine W.exit rfl ?_
   exact ⟨q66, q67, s64, hle65, Option.some.inj hq55, hE.pick _ ⟨rfl, rfl, rfl, rfl, trivial⟩, hS⟩
  obtain ⟨hlt61, hx62, hd60⟩ := drop_cons hd60
  rw [PlanText.loop1] at hq55
  refine W.seq (W.region (vp hS hE rfl rfl fun a hE => WL.nil ?_))
  refine W.seq ?_
  refine W.condT hE rfl (decide_eq_true (by omega)) ?_
  refine W.skip ?_
  refine W.seq ?_
  refine W.block ?_
  refine W.seq (W.region ?_)
  obtain ⟨cs69, hl70, hR71, hat72⟩ := h0_0.at hx62
  obtain ⟨a73, c74, a76, c77, rfl, h75, h78⟩ := hR71
  refine vP hS hE (Gives.idx hE k57 rfl rfl sl22 rfl hlt61 (h0_0.aok hlt61)) rfl fun a hE => ?_
  refine vP hS hE (Gives.loadA hE rfl (fun w h => hat72 w _ h) ty111) rfl fun a hE => ?_
  refine WL.alloc hE hS (runs_plain rfl) zr111 rfl ?_; clear hE hS a w; intro b79 a w hE hS
  refine WL.storeI hE hS 0 rfl [vi x58.No, vi x58.Stock, .slice a73 x58.Stops.length c74, .slice a76 x58.Legs.length c77] (runs_plain rfl) rfl rfl rfl ty111 rfl rfl rfl rfl ?_; clear hE hS a w; intro a w hE hS
  refine WL.nil ?_
  refine W.seq (W.region (vp hS hE rfl rfl fun a hE => ?_))
  refine vP hS hE (Gives.fld hE rfl fl111_0) rfl fun a hE => ?_
  refine vP hS hE (Gives.loadB hE 0 rfl rfl rfl ty3) rfl fun a hE => ?_
  refine vP hS hE (Gives.fld hE rfl fl111_1) rfl fun a hE => ?_
  refine vP hS hE (Gives.loadB hE 0 rfl rfl rfl ty3) rfl fun a hE => ?_
  refine WL.lit hE hS (e := 3) (es := 1) (vs := [(0, vi x58.No), (1, vi x58.Stock)]) (cs := [vi x58.No, vi x58.Stock]) (runs_plain rfl) rfl (by kernel_rfl) rfl ?_; clear hE hS a w; intro b80 a w hE hS
  replace hS := hS.ptVec (es := 1) (m := 2) rfl (by decide)
  have h82 : Ev 1 (RI .i64) s64 [vi x58.No, vi x58.Stock] [x58.No, x58.Stock] := (Ev.cons (c1 := [vi x58.No]) rfl rfl (Ev.cons (c1 := [vi x58.Stock]) rfl rfl (Ev.nil)))
  have hF := hS.fixD RI.mono 0 rfl h82 (rfl); clear hS; obtain ⟨s83, hle84, hS, h85⟩ := hF
  replace h0_0 := Sl.mono RApiTrain.mono hle84 h0_0
  replace h75 := Sl.mono RApiStop.mono hle84 h75
  replace h78 := Sl.mono (RL.mono RI.mono) hle84 h78
  replace h0_1 := Sl.mono (RL.mono RI.mono) hle84 h0_1
  obtain ⟨q86, hq87, hq55⟩ := bindS hq55
  replace hS := hS.front 2 rfl
  replace hS := hS.front 2 rfl
  have hc_ := PlanText_1_v1_ok hS (TabS.mono (Sg.Le.trans hle65 hle84) hTab) h85 hq87
  refine WL.fnw hE (hc_) rfl (runs_plain rfl) bd143 rfl rfl rfl ?_
  clear hE hS hc_; rintro e w ⟨rfl, hS⟩; refine ⟨_, rfl, ?_⟩; clear a; intro a hE
  refine WL.nil ?_
  refine W.seq ?_
  refine W.seq (W.region (vP hS hE (Gives.fld hE rfl fl111_2) rfl fun a hE => ?_))
  refine vP hS hE (Gives.loadB hE 2 rfl rfl rfl ty109) rfl fun a hE => ?_
  refine vP hS hE (Gives.len hE rfl sl109) rfl fun a hE => ?_
  refine vp hS hE rfl rfl fun a hE => WL.nil ?_
  obtain ⟨q89, hq88, hq55⟩ := bindS hq55
  refine W.cut (fun a w => ∃ (q99 : ByteArray), ∃ (q100 : Bool), ∃ (s97 : Sg), s83.Le s97 ∧ (q99, q100) = q89 ∧ Rep a 81 [(1, pp b51), (5, pp b53), (6, pp b54), (7, .func (.func 143) #[] #[pp b54, pp b53]), (9, pp b79), (23, .slice a0_0 x0.Trains.length c0_0), (24, vi ((x0.Trains).length : Int)), (25, vi ((k57 : Nat) : Int))] ∧ St w s97 (pc b54 #[.bool q100] 4 :: sbC 141 5 b53 q99 :: pc b79 #[vi x58.No, vi x58.Stock, .slice a73 x58.Stops.length c74, .slice a76 x58.Legs.length c77] 111 :: pc b51 #[.slice a0_0 x0.Trains.length c0_0, .slice a0_1 x0.Turns.length c0_1] 25 :: R)) ?_ ?_
  ·refine W.block ?_
   refine W.loop (fun m a w => ∃ (rest92 : List ApiStop) (k90 : Nat), ∃ (q99 : ByteArray), ∃ (q100 : Bool), ∃ (s97 : Sg), rest92.length = m ∧ x58.Stops.drop k90 = rest92 ∧ s83.Le s97 ∧ PlanText.loop2 rest92 q99 q100 = some q89 ∧ Rep a 81 [(1, pp b51), (5, pp b53), (6, pp b54), (7, .func (.func 143) #[] #[pp b54, pp b53]), (9, pp b79), (23, .slice a0_0 x0.Trains.length c0_0), (24, vi ((x0.Trains).length : Int)), (25, vi ((k57 : Nat) : Int)), (37, .slice a73 x58.Stops.length c74), (38, vi ((x58.Stops).length : Int)), (39, vi ((k90 : Nat) : Int))] ∧ St w s97 (pc b54 #[.bool q100] 4 :: sbC 141 5 b53 q99 :: pc b79 #[vi x58.No, vi x58.Stock, .slice a73 x58.Stops.length c74, .slice a76 x58.Legs.length c77] 111 :: pc b51 #[.slice a0_0 x0.Trains.length c0_0, .slice a0_1 x0.Turns.length c0_1] 25 :: R)) (m := x58.Stops.length) ⟨x58.Stops, 0, q86.2, q86.1, s83, rfl, rfl, (Sg.Le.refl _), hq88, hE.pick _ ⟨rfl, rfl, rfl, rfl, rfl, rfl, rfl, rfl, rfl, rfl, rfl, trivial⟩, hS⟩ ?_
   clear hE hS a w hq88; rintro m96 a w ⟨rest92, k90, q99, q100, s97, rfl, hd93, hle98, hq88, hE, hS⟩
   refine W.gen fun K101 hK101 => ?_
   replace h0_0 := Sl.mono RApiTrain.mono hle98 h0_0
   replace h75 := Sl.mono RApiStop.mono hle98 h75
   replace h78 := Sl.mono (RL.mono RI.mono) hle98 h78
   replace h85 := Sl.mono RI.mono hle98 h85
   replace h0_1 := Sl.mono (RL.mono RI.mono) hle98 h0_1
   rcases rest92 with _ | ⟨x91, rest92⟩
   ·have hlt94 := drop_nil hd93
    refine W.seq (W.region (vp hS hE rfl rfl fun a hE => WL.nil ?_))
    refine W.seq ?_
    refine W.condF hE rfl (decide_eq_false (by omega)) ?_
    subst hK101
    refine W.exit rfl ?_
    exact ⟨q99, q100, s97, hle98, Option.some.inj hq88, hE.pick _ ⟨rfl, rfl, rfl, rfl, rfl, rfl, rfl, rfl, trivial⟩, hS⟩
   obtain ⟨hlt94, hx95, hd93⟩ := drop_cons hd93
   rw [PlanText.loop2] at hq88
   refine W.seq (W.region (vp hS hE rfl rfl fun a hE => WL.nil ?_))
   refine W.seq ?_
   refine W.condT hE rfl (decide_eq_true (by omega)) ?_
   refine W.skip ?_
   refine W.seq ?_
   refine W.block ?_
   refine W.seq (W.region ?_)
   obtain ⟨cs102, hl103, hR104, hat105⟩ := h75.at hx95
   subst hR104
   refine vP hS hE (Gives.idx hE k90 rfl rfl sl109 rfl hlt94 (h75.aok hlt94)) rfl fun a hE => ?_
   refine vP hS hE (Gives.loadA hE rfl (fun w h => hat105 w _ h) ty99) rfl fun a hE => ?_
   refine WL.alloc hE hS (runs_plain rfl) zr99 rfl ?_; clear hE hS a w; intro b106 a w hE hS
   refine WL.storeI hE hS 0 rfl (ApiStop.cells x91) (runs_plain rfl) rfl rfl rfl ty99 rfl rfl rfl rfl ?_; clear hE hS a w; intro a w hE hS
   refine WL.nil ?_
   refine W.region ?_
   refine vp hS hE rfl rfl fun a hE => ?_
   refine vP hS hE (Gives.fld hE rfl fl99_0) rfl fun a hE => ?_
   refine vP hS hE (Gives.loadB hE 0 rfl rfl rfl ty3) rfl fun a hE => ?_
   refine vP hS hE (Gives.fld hE rfl fl99_1) rfl fun a hE => ?_
   refine vP hS hE (Gives.loadB hE 0 rfl rfl rfl ty3) rfl fun a hE => ?_
   refine vP hS hE (Gives.fld hE rfl fl99_2) rfl fun a hE => ?_
   refine vP hS hE (Gives.loadB hE 0 rfl rfl rfl ty3) rfl fun a hE => ?_
   refine vP hS hE (Gives.fld hE rfl fl99_3) rfl fun a hE => ?_
   refine vP hS hE (Gives.loadB hE 0 rfl rfl rfl ty3) rfl fun a hE => ?_
   refine WL.lit hE hS (e := 3) (es := 1) (vs := [(0, vi x91.Station), (1, vi x91.Track), (2, vi x91.Arr), (3, vi x91.Dep)]) (cs := [vi x91.Station, vi x91.Track, vi x91.Arr, vi x91.Dep]) (runs_plain rfl) rfl (by kernel_rfl) rfl ?_; clear hE hS a w; intro b107 a w hE hS
   replace hS := hS.ptVec (es := 1) (m := 4) rfl (by decide)
   have h109 : Ev 1 (RI .i64) s97 [vi x91.Station, vi x91.Track, vi x91.Arr, vi x91.Dep] [x91.Station, x91.Track, x91.Arr, x91.Dep] := (Ev.cons (c1 := [vi x91.Station]) rfl rfl (Ev.cons (c1 := [vi x91.Track]) rfl rfl (Ev.cons (c1 := [vi x91.Arr]) rfl rfl (Ev.cons (c1 := [vi x91.Dep]) rfl rfl (Ev.nil)))))
   have hF := hS.fixD RI.mono 0 rfl h109 (rfl); clear hS; obtain ⟨s110, hle111, hS, h112⟩ := hF
   replace h0_0 := Sl.mono RApiTrain.mono hle111 h0_0
   replace h75 := Sl.mono RApiStop.mono hle111 h75
   replace h78 := Sl.mono (RL.mono RI.mono) hle111 h78
   replace h0_1 := Sl.mono (RL.mono RI.mono) hle111 h0_1
   obtain ⟨q113, hq114, hq88⟩ := bindS hq88
   replace hS := hS.front 2 rfl
   replace hS := hS.front 2 rfl
   have hc_ := PlanText_1_v1_ok hS (TabS.mono (Sg.Le.trans (Sg.Le.trans (Sg.Le.trans hle65 hle84) hle98) hle111) hTab) h112 hq114
   refine WL.fnw hE (hc_) rfl (runs_plain rfl) bd143 rfl rfl rfl ?_
   clear hE hS hc_; rintro e w ⟨rfl, hS⟩; refine ⟨_, rfl, ?_⟩; clear a; intro a hE
   refine WL.nil ?_
   refine W.region ?_
   refine vP hS hE (Gives.inc hE rfl (by have := h75.small; omega)) rfl fun a hE => ?_
   refine vp hS hE rfl rfl fun a hE => WL.nil ?_
   replace hS := hS.dropAt 2
   subst hK101
   exact ⟨rest92.length, Nat.lt_succ_self _, rest92, k90 + 1, q113.2, q113.1, s110, rfl, hd93, (Sg.Le.trans hle98 hle111), hq88, hE.pick _ ⟨rfl, rfl, rfl, rfl, rfl, rfl, rfl, rfl, rfl, rfl, rfl, trivial⟩, hS⟩
  clear hE hS a w; rintro a w ⟨q99, q100, s97, hle98, rfl, hE, hS⟩
  dsimp only at hq55
  replace h0_0 := Sl.mono RApiTrain.mono hle98 h0_0
  replace h75 := Sl.mono RApiStop.mono hle98 h75
  replace h78 := Sl.mono (RL.mono RI.mono) hle98 h78
  replace h85 := Sl.mono RI.mono hle98 h85
  replace h0_1 := Sl.mono (RL.mono RI.mono) hle98 h0_1
  refine W.seq (W.region (vP hS hE (Gives.fld hE rfl fl111_3) rfl fun a hE => ?_))
  refine vP hS hE (Gives.loadB hE 2 rfl rfl rfl ty23) rfl fun a hE => ?_
  refine vP hS hE (Gives.len hE rfl sl23) rfl fun a hE => ?_
  refine vp hS hE rfl rfl fun a hE => WL.nil ?_
  obtain ⟨q116, hq115, hq55⟩ := bindS hq55
  refine W.cut (fun a w => ∃ (q126 : ByteArray), ∃ (q127 : Bool), (q126, q127) = q116 ∧ Rep a 81 [(1, pp b51), (5, pp b53), (6, pp b54), (7, .func (.func 143) #[] #[pp b54, pp b53]), (23, .slice a0_0 x0.Trains.length c0_0), (24, vi ((x0.Trains).length : Int)), (25, vi ((k57 : Nat) : Int))] ∧ St w s97 (pc b54 #[.bool q127] 4 :: sbC 141 5 b53 q126 :: pc b79 #[vi x58.No, vi x58.Stock, .slice a73 x58.Stops.length c74, .slice a76 x58.Legs.length c77] 111 :: pc b51 #[.slice a0_0 x0.Trains.length c0_0, .slice a0_1 x0.Turns.length c0_1] 25 :: R)) ?_ ?_
  ·refine W.block ?_
   refine W.loop (fun m a w => ∃ (rest119 : List (List Int)) (k117 : Nat), ∃ (q126 : ByteArray), ∃ (q127 : Bool), rest119.length = m ∧ x58.Legs.drop k117 = rest119 ∧ PlanText.loop3 rest119 q126 q127 = some q116 ∧ Rep a 81 [(1, pp b51), (5, pp b53), (6, pp b54), (7, .func (.func 143) #[] #[pp b54, pp b53]), (23, .slice a0_0 x0.Trains.length c0_0), (24, vi ((x0.Trains).length : Int)), (25, vi ((k57 : Nat) : Int)), (56, .slice a76 x58.Legs.length c77), (57, vi ((x58.Legs).length : Int)), (58, vi ((k117 : Nat) : Int))] ∧ St w s97 (pc b54 #[.bool q127] 4 :: sbC 141 5 b53 q126 :: pc b79 #[vi x58.No, vi x58.Stock, .slice a73 x58.Stops.length c74, .slice a76 x58.Legs.length c77] 111 :: pc b51 #[.slice a0_0 x0.Trains.length c0_0, .slice a0_1 x0.Turns.length c0_1] 25 :: R)) (m := x58.Legs.length) ⟨x58.Legs, 0, q99, q100, rfl, rfl, hq115, hE.pick _ ⟨rfl, rfl, rfl, rfl, rfl, rfl, rfl, rfl, rfl, rfl, trivial⟩, hS⟩ ?_
   clear hE hS a w hq115; rintro m123 a w ⟨rest119, k117, q126, q127, rfl, hd120, hq115, hE, hS⟩
   refine W.gen fun K128 hK128 => ?_
   rcases rest119 with _ | ⟨x118, rest119⟩
   ·have hlt121 := drop_nil hd120
    refine W.seq (W.region (vp hS hE rfl rfl fun a hE => WL.nil ?_))
    refine W.seq ?_
    refine W.condF hE rfl (decide_eq_false (by omega)) ?_
    subst hK128
    refine W.exit rfl ?_
    exact ⟨q126, q127, Option.some.inj hq115, hE.pick _ ⟨rfl, rfl, rfl, rfl, rfl, rfl, rfl, trivial⟩, hS⟩
   obtain ⟨hlt121, hx122, hd120⟩ := drop_cons hd120
   rw [PlanText.loop3] at hq115
   refine W.seq (W.region (vp hS hE rfl rfl fun a hE => WL.nil ?_))
   refine W.seq ?_
   refine W.condT hE rfl (decide_eq_true (by omega)) ?_
   refine W.skip ?_
   refine W.seq ?_
   refine W.block ?_
   refine W.seq (W.region ?_)
   obtain ⟨cs129, hl130, hR131, hat132⟩ := h78.at hx122
   obtain ⟨a133, c134, rfl, h135⟩ := hR131
   refine vP hS hE (Gives.idx hE k117 rfl rfl sl23 rfl hlt121 (h78.aok hlt121)) rfl fun a hE => ?_
   refine vP hS hE (Gives.load1 hE rfl (fun w h => hat132 w _ h) ty65) rfl fun a hE => ?_
   refine vp hS hE rfl rfl fun a hE => WL.nil ?_
   refine W.region ?_
   refine v2 hS hE rfl rfl rfl rfl fun a hE => ?_
   obtain ⟨q136, hq137, hq115⟩ := bindS hq115
   have hc_ := PlanText_1_v1_ok hS (TabS.mono (Sg.Le.trans (Sg.Le.trans hle65 hle84) hle98) hTab) h135 hq137
   refine WL.fnw hE (hc_) rfl (runs_plain rfl) bd143 rfl rfl rfl ?_
   clear hE hS hc_; rintro e w ⟨rfl, hS⟩; refine ⟨_, rfl, ?_⟩; clear a; intro a hE
   refine WL.nil ?_
   refine W.region ?_
   refine vP hS hE (Gives.inc hE rfl (by have := h78.small; omega)) rfl fun a hE => ?_
   refine vp hS hE rfl rfl fun a hE => WL.nil ?_
   subst hK128
   exact ⟨rest119.length, Nat.lt_succ_self _, rest119, k117 + 1, q136.2, q136.1, rfl, hd120, hq115, hE.pick _ ⟨rfl, rfl, rfl, rfl, rfl, rfl, rfl, rfl, rfl, rfl, trivial⟩, hS⟩
  clear hE hS a w; rintro a w ⟨q126, q127, rfl, hE, hS⟩
  dsimp only at hq55
  refine W.region ?_
  refine vP hS hE (Gives.inc hE rfl (by have := h0_0.small; omega)) rfl fun a hE => ?_
  refine vp hS hE rfl rfl fun a hE => WL.nil ?_
  replace hS := hS.dropAt 2
  subst hK68
  exact ⟨rest59.length, Nat.lt_succ_self _, rest59, k57 + 1, q126, q127, s97, rfl, hd60, (Sg.Le.trans (Sg.Le.trans hle65 hle84) hle98), hq55, hE.pick _ ⟨rfl, rfl, rfl, rfl, rfl, rfl, rfl, trivial⟩, hS⟩
 clear hE hS a w; rintro a w ⟨q66, q67, s64, hle65, rfl, hE, hS⟩
 dsimp only at hr
 replace h0_0 := Sl.mono RApiTrain.mono hle65 h0_0
 replace h0_1 := Sl.mono (RL.mono RI.mono) hle65 h0_1
 refine W.seq ?_
 refine W.seq (W.region (vP hS hE (Gives.fld hE rfl fl25_1) rfl fun a hE => ?_))
 refine vP hS hE (Gives.loadB hE 2 rfl rfl rfl ty23) rfl fun a hE => ?_
 refine vP hS hE (Gives.len hE rfl sl23) rfl fun a hE => ?_
 refine vp hS hE rfl rfl fun a hE => WL.nil ?_
 obtain ⟨q139, hq138, hr⟩ := bindS hr
 refine W.cut (fun a w => ∃ (q149 : ByteArray), ∃ (q150 : Bool), (q149, q150) = q139 ∧ Rep a 81 [(5, pp b53), (6, pp b54)] ∧ St w s64 (pc b54 #[.bool q150] 4 :: sbC 141 5 b53 q149 :: pc b51 #[.slice a0_0 x0.Trains.length c0_0, .slice a0_1 x0.Turns.length c0_1] 25 :: R)) ?_ ?_
 ·refine W.block ?_
  refine W.loop (fun m a w => ∃ (rest142 : List (List Int)) (k140 : Nat), ∃ (q149 : ByteArray), ∃ (q150 : Bool), rest142.length = m ∧ x0.Turns.drop k140 = rest142 ∧ PlanText.loop4 rest142 q149 q150 = some q139 ∧ Rep a 81 [(5, pp b53), (6, pp b54), (7, .func (.func 143) #[] #[pp b54, pp b53]), (68, .slice a0_1 x0.Turns.length c0_1), (69, vi ((x0.Turns).length : Int)), (70, vi ((k140 : Nat) : Int))] ∧ St w s64 (pc b54 #[.bool q150] 4 :: sbC 141 5 b53 q149 :: pc b51 #[.slice a0_0 x0.Trains.length c0_0, .slice a0_1 x0.Turns.length c0_1] 25 :: R)) (m := x0.Turns.length) ⟨x0.Turns, 0, q66, q67, rfl, rfl, hq138, hE.pick _ ⟨rfl, rfl, rfl, rfl, rfl, rfl, trivial⟩, hS⟩ ?_
  clear hE hS a w hq138; rintro m146 a w ⟨rest142, k140, q149, q150, rfl, hd143, hq138, hE, hS⟩
  refine W.gen fun K151 hK151 => ?_
  rcases rest142 with _ | ⟨x141, rest142⟩
  ·have hlt144 := drop_nil hd143
   refine W.seq (W.region (vp hS hE rfl rfl fun a hE => WL.nil ?_))
   refine W.seq ?_
   refine W.condF hE rfl (decide_eq_false (by omega)) ?_
   subst hK151
   refine W.exit rfl ?_
   exact ⟨q149, q150, Option.some.inj hq138, hE.pick _ ⟨rfl, rfl, trivial⟩, hS⟩
  obtain ⟨hlt144, hx145, hd143⟩ := drop_cons hd143
  rw [PlanText.loop4] at hq138
  refine W.seq (W.region (vp hS hE rfl rfl fun a hE => WL.nil ?_))
  refine W.seq ?_
  refine W.condT hE rfl (decide_eq_true (by omega)) ?_
  refine W.skip ?_
  refine W.seq ?_
  refine W.block ?_
  refine W.seq (W.region ?_)
  obtain ⟨cs152, hl153, hR154, hat155⟩ := h0_1.at hx145
  obtain ⟨a156, c157, rfl, h158⟩ := hR154
  refine vP hS hE (Gives.idx hE k140 rfl rfl sl23 rfl hlt144 (h0_1.aok hlt144)) rfl fun a hE => ?_
  refine vP hS hE (Gives.load1 hE rfl (fun w h => hat155 w _ h) ty65) rfl fun a hE => ?_
  refine vp hS hE rfl rfl fun a hE => WL.nil ?_
  refine W.region ?_
  refine v2 hS hE rfl rfl rfl rfl fun a hE => ?_
  obtain ⟨q159, hq160, hq138⟩ := bindS hq138
  have hc_ := PlanText_1_v1_ok hS (TabS.mono hle65 hTab) h158 hq160
  refine WL.fnw hE (hc_) rfl (runs_plain rfl) bd143 rfl rfl rfl ?_
  clear hE hS hc_; rintro e w ⟨rfl, hS⟩; refine ⟨_, rfl, ?_⟩; clear a; intro a hE
  refine WL.nil ?_
  refine W.region ?_
  refine vP hS hE (Gives.inc hE rfl (by have := h0_1.small; omega)) rfl fun a hE => ?_
  refine vp hS hE rfl rfl fun a hE => WL.nil ?_
  subst hK151
  exact ⟨rest142.length, Nat.lt_succ_self _, rest142, k140 + 1, q159.2, q159.1, rfl, hd143, hq138, hE.pick _ ⟨rfl, rfl, rfl, rfl, rfl, rfl, trivial⟩, hS⟩
 clear hE hS a w; rintro a w ⟨q149, q150, rfl, hE, hS⟩
 dsimp only at hr
 refine W.seq ?_
 refine W.seq (W.region (vP hS hE (Gives.loadB hE 0 rfl rfl rfl ty4) rfl fun a hE => ?_))
 refine vp hS hE rfl rfl fun a hE => WL.nil ?_
 refine W.cond hE rfl (fun hc161 => ?_) (fun hc161 => ?_)
 ·replace hr := iteT hc161 hr
  refine W.seq (W.region (v2 hS hE rfl rfl rfl rfl fun a hE => WL.nil ?_))
  refine W.ret ?_
  refine finG (fn := Tryz.f105) (rs := [.tmp 2, .tmp 3]) (vs := [_, _]) hE rfl ⟨rfl, rfl, trivial⟩ ?_
  obtain rfl := Option.some.inj hr
  replace hS := hS.tail
  replace hS := hS.tail
  replace hS := hS.tail
  exact ⟨rfl, (hS.down hle65)⟩
 replace hr := iteF hc161 hr
 refine W.skip ?_
 refine W.seq (W.region ?_)
 replace hS := hS.front 1 rfl
 refine WL.fnq hE (sbString_ok hS) (runs_plain rfl) bd73 rfl rfl rfl ?_
 clear hE hS; rintro e w ⟨rfl, hS⟩; refine ⟨_, rfl, ?_⟩; clear a; intro a hE
 refine v2 hS hE rfl rfl rfl rfl fun a hE => WL.nil ?_
 refine W.ret ?_
 refine finG (fn := Tryz.f105) (rs := [.tmp 2, .tmp 3]) (vs := [_, _]) hE rfl ⟨rfl, rfl, trivial⟩ ?_
 obtain rfl := Option.some.inj hr
 replace hS := hS.tail
 replace hS := hS.tail
 exact ⟨rfl, (hS.down hle65)⟩
set_option maxHeartbeats 8000000 in
theorem GuideCheck_ok  {w : World} {s : Sg} {R : List HP} {x0 : ApiDay} {a0_0 : Option Addr} {c0_0 : Nat} {a0_1 : Option Addr} {c0_1 : Nat} (hS : St w s (R)) (hTab : TabS Tryz.prog s) (h0_0 : Sl 4 RApiTrain s a0_0 c0_0 x0.Trains) (h0_1 : Sl 1 (RL 1 (RI .i64)) s a0_1 c0_1 x0.Turns) {r : Int} (hr : GuideCheck x0 = some r) :
  Calls Tryz.prog 60 [.agg (List.toArray [.slice a0_0 x0.Trains.length c0_0, .slice a0_1 x0.Turns.length c0_1])].toArray w (fun e w => e = .returned (vi r) ∧ St w s (R)) := by
 refine enter Tryz.func60 rfl rfl rfl fun a hE => ?_
 rw [GuideCheck] at hr
 refine W.seq (W.region ?_)
 refine WL.box hE hS (runs_plain rfl) rfl rfl rfl ?_; clear hE hS a w; intro b51 a w hE hS
 refine vp hS hE rfl rfl fun a hE => WL.nil ?_
 refine W.seq ?_
 refine W.seq (W.region (vP hS hE (Gives.loadBA hE 0 rfl rfl ty25) rfl fun a hE => ?_))
 obtain ⟨q52, hq53, hr⟩ := bindS hr
 have hc_ := PlanText_ok hS (TabS.mono (Sg.Le.refl _) hTab) h0_0 h0_1 hq53
 refine WL.fnq hE (hc_) (runs_plain rfl) bd105 rfl rfl rfl ?_
 clear hE hS hc_; rintro e w ⟨rfl, hS⟩; refine ⟨_, rfl, ?_⟩; clear a; intro a hE
 refine v2 hS hE rfl rfl rfl rfl fun a hE => ?_
 refine v2 hS hE rfl rfl rfl rfl fun a hE => ?_
 refine vp hS hE rfl rfl fun a hE => WL.nil ?_
 refine W.seq (W.region (v2 hS hE rfl rfl rfl rfl fun a hE => WL.nil ?_))
 refine W.cond hE rfl (fun hc54 => ?_) (fun hc54 => ?_)
 ·replace hr := iteT hc54 hr
  refine W.seq (W.region (v2 hS hE rfl rfl rfl rfl fun a hE => WL.nil ?_))
  refine W.ret ?_
  refine finG (fn := Tryz.f60) (rs := [.tmp 2]) (vs := [_]) hE rfl ⟨rfl, trivial⟩ ?_
  obtain rfl := Option.some.inj hr
  replace hS := hS.tail
  exact ⟨rfl, hS⟩
 replace hr := iteF hc54 hr
 refine W.skip ?_
 refine W.seq (W.region ?_)
 refine WL.mkMap (fk := keyI.f) (fv := Value.bool) hE hS (runs_plain rfl) rfl ?_; clear hE hS a w; intro b55 a w hE hS
 refine vp hS hE rfl rfl fun a hE => WL.nil ?_
 refine W.seq ?_
 refine W.seq (W.region (vP hS hE (Gives.fld hE rfl fl25_0) rfl fun a hE => ?_))
 refine vP hS hE (Gives.loadB hE 1 rfl rfl rfl ty22) rfl fun a hE => ?_
 refine vP hS hE (Gives.len hE rfl sl22) rfl fun a hE => ?_
 refine vp hS hE rfl rfl fun a hE => WL.nil ?_
 obtain ⟨q57, hq56, hr⟩ := bindS hr
 refine W.cut (fun a w => ∃ (q67 : List (Int × Bool)), (.next q67) = q57 ∧ Rep a 93 [] ∧ St w s (mapC keyI.f Value.bool b55 q67 :: pc b51 #[.slice a0_0 x0.Trains.length c0_0, .slice a0_1 x0.Turns.length c0_1] 25 :: R)) ?_ ?_
 ·refine W.block ?_
  refine W.loop (fun m a w => ∃ (rest60 : List ApiTrain) (k58 : Nat), ∃ (q67 : List (Int × Bool)), rest60.length = m ∧ x0.Trains.drop k58 = rest60 ∧ GuideCheck.loop1 rest60 q67 = some q57 ∧ Rep a 93 [(5, .map (some b55)), (20, .slice a0_0 x0.Trains.length c0_0), (21, vi ((x0.Trains).length : Int)), (22, vi ((k58 : Nat) : Int))] ∧ St w s (mapC keyI.f Value.bool b55 q67 :: pc b51 #[.slice a0_0 x0.Trains.length c0_0, .slice a0_1 x0.Turns.length c0_1] 25 :: R)) (m := x0.Trains.length) ⟨x0.Trains, 0, [], rfl, rfl, hq56, hE.pick _ ⟨rfl, rfl, rfl, rfl, trivial⟩, hS⟩ ?_
  clear hE hS a w hq56; rintro m64 a w ⟨rest60, k58, q67, rfl, hd61, hq56, hE, hS⟩
  refine W.gen fun K68 hK68 => ?_
  rcases rest60 with _ | ⟨x59, rest60⟩
  ·have hlt62 := drop_nil hd61
   refine W.seq (W.region (vp hS hE rfl rfl fun a hE => WL.nil ?_))
   refine W.seq ?_
   refine W.condF hE rfl (decide_eq_false (by omega)) ?_
   subst hK68
   refine W.exit rfl ?_
   exact ⟨q67, Option.some.inj hq56, hE.pick _ trivial, hS⟩
  obtain ⟨hlt62, hx63, hd61⟩ := drop_cons hd61
  rw [GuideCheck.loop1] at hq56
  refine W.seq (W.region (vp hS hE rfl rfl fun a hE => WL.nil ?_))
  refine W.seq ?_
  refine W.condT hE rfl (decide_eq_true (by omega)) ?_
  refine W.skip ?_
  refine W.seq ?_
  refine W.block ?_
  refine W.seq (W.region ?_)
  obtain ⟨cs69, hl70, hR71, hat72⟩ := h0_0.at hx63
  obtain ⟨a73, c74, a76, c77, rfl, h75, h78⟩ := hR71
  refine vP hS hE (Gives.idx hE k58 rfl rfl sl22 rfl hlt62 (h0_0.aok hlt62)) rfl fun a hE => ?_
  refine vP hS hE (Gives.loadA hE rfl (fun w h => hat72 w _ h) ty111) rfl fun a hE => ?_
  refine WL.alloc hE hS (runs_plain rfl) zr111 rfl ?_; clear hE hS a w; intro b79 a w hE hS
  refine WL.storeI hE hS 0 rfl [vi x59.No, vi x59.Stock, .slice a73 x59.Stops.length c74, .slice a76 x59.Legs.length c77] (runs_plain rfl) rfl rfl rfl ty111 rfl rfl rfl rfl ?_; clear hE hS a w; intro a w hE hS
  refine WL.nil ?_
  refine W.seq ?_
  refine W.block ?_
  refine W.seq (W.region (vP hS hE (Gives.fld hE rfl fl111_0) rfl fun a hE => ?_))
  refine vP hS hE (Gives.loadB hE 0 rfl rfl rfl ty3) rfl fun a hE => ?_
  refine WL.fnq hE (Guidewithin_ok hS  rfl (r := Guidewithin x59.No 1 9999)) (runs_plain rfl) bd61 rfl rfl rfl ?_
  clear hE hS; rintro e w ⟨rfl, hS⟩; refine ⟨_, rfl, ?_⟩; clear a; intro a hE
  refine v2 hS hE rfl rfl rfl rfl fun a hE => WL.nil ?_
  refine W.cond hE rfl (fun hc80 => ?_) (fun hc80 => ?_)
  ·replace hq56 := iteT hc80 hq56
   refine W.seq (W.region (vp hS hE rfl rfl fun a hE => WL.nil ?_))
   refine W.ret ?_
   subst hK68
   rw [← Option.some.inj hq56] at hr
   dsimp only at hr
   refine finG (fn := Tryz.f60) (rs := [.tmp 2]) (vs := [_]) hE rfl ⟨rfl, trivial⟩ ?_
   obtain rfl := Option.some.inj hr
   replace hS := hS.tail
   replace hS := hS.tail
   replace hS := hS.tail
   exact ⟨rfl, hS⟩
  replace hq56 := iteF hc80 hq56
  refine W.seq (W.region (vp hS hE rfl rfl fun a hE => ?_))
  refine vP hS hE (Gives.fld hE rfl fl111_0) rfl fun a hE => ?_
  refine vP hS hE (Gives.loadB hE 0 rfl rfl rfl ty3) rfl fun a hE => ?_
  refine vP hS hE (Gives.mapGet keyI hE 1 (k := x59.No) (z := false) rfl rfl rfl mp125 zm4) rfl fun a hE => ?_
  refine vp hS hE rfl rfl fun a hE => WL.nil ?_
  refine W.cond hE rfl (fun hc81 => ?_) (fun hc81 => ?_)
  ·replace hq56 := iteT hc81 hq56
   refine W.seq (W.region (vp hS hE rfl rfl fun a hE => WL.nil ?_))
   refine W.ret ?_
   subst hK68
   rw [← Option.some.inj hq56] at hr
   dsimp only at hr
   refine finG (fn := Tryz.f60) (rs := [.tmp 2]) (vs := [_]) hE rfl ⟨rfl, trivial⟩ ?_
   obtain rfl := Option.some.inj hr
   replace hS := hS.tail
   replace hS := hS.tail
   replace hS := hS.tail
   exact ⟨rfl, hS⟩
  replace hq56 := iteF hc81 hq56
  refine W.seq (W.region (vP hS hE (Gives.fld hE rfl fl111_2) rfl fun a hE => ?_))
  refine vP hS hE (Gives.loadB hE 0 rfl rfl rfl ty109) rfl fun a hE => ?_
  refine vP hS hE (Gives.len hE rfl sl109) rfl fun a hE => ?_
  refine v2 hS hE rfl rfl rfl rfl fun a hE => WL.nil ?_
  refine W.cond hE rfl (fun hc82 => ?_) (fun hc82 => ?_)
  ·replace hq56 := iteT hc82 hq56
   refine W.seq (W.region (vp hS hE rfl rfl fun a hE => WL.nil ?_))
   refine W.ret ?_
   subst hK68
   rw [← Option.some.inj hq56] at hr
   dsimp only at hr
   refine finG (fn := Tryz.f60) (rs := [.tmp 2]) (vs := [_]) hE rfl ⟨rfl, trivial⟩ ?_
   obtain rfl := Option.some.inj hr
   replace hS := hS.tail
   replace hS := hS.tail
   replace hS := hS.tail
   exact ⟨rfl, hS⟩
  replace hq56 := iteF hc82 hq56
  refine W.skip ?_
  refine W.seq (W.region (vp hS hE rfl rfl fun a hE => ?_))
  refine vP hS hE (Gives.fld hE rfl fl111_0) rfl fun a hE => ?_
  refine vP hS hE (Gives.loadB hE 0 rfl rfl rfl ty3) rfl fun a hE => ?_
  refine WL.mapSet keyI hE hS 1 (k := x59.No) (v := true) (.inl rfl) (runs_plain rfl) rfl rfl rfl rfl mp125 rfl ?_; clear hE hS a w; intro a w hE hS
  refine WL.nil ?_
  refine W.seq (W.region (vP hS hE (Gives.fld hE rfl fl111_2) rfl fun a hE => ?_))
  refine vP hS hE (Gives.loadB hE 0 rfl rfl rfl ty109) rfl fun a hE => ?_
  refine vP hS hE (Gives.len hE rfl sl109) rfl fun a hE => ?_
  refine vp hS hE rfl rfl fun a hE => WL.nil ?_
  obtain ⟨q84, hq83, hq56⟩ := bindS hq56
  refine W.cut (fun a w => (.next ()) = q84 ∧ Rep a 93 [(5, .map (some b55)), (20, .slice a0_0 x0.Trains.length c0_0), (21, vi ((x0.Trains).length : Int)), (22, vi ((k58 : Nat) : Int))] ∧ St w s (pc b79 #[vi x59.No, vi x59.Stock, .slice a73 x59.Stops.length c74, .slice a76 x59.Legs.length c77] 111 :: mapC keyI.f Value.bool b55 (mput q67 x59.No true) :: pc b51 #[.slice a0_0 x0.Trains.length c0_0, .slice a0_1 x0.Turns.length c0_1] 25 :: R)) ?_ ?_
  ·refine W.block ?_
   refine W.loop (fun m a w => ∃ (rest87 : List ApiStop) (k85 : Nat), rest87.length = m ∧ x59.Stops.drop k85 = rest87 ∧ GuideCheck.loop2 x59 rest87 k85 = some q84 ∧ Rep a 93 [(5, .map (some b55)), (7, pp b79), (20, .slice a0_0 x0.Trains.length c0_0), (21, vi ((x0.Trains).length : Int)), (22, vi ((k58 : Nat) : Int)), (45, .slice a73 x59.Stops.length c74), (46, vi ((x59.Stops).length : Int)), (47, vi ((k85 : Nat) : Int))] ∧ St w s (pc b79 #[vi x59.No, vi x59.Stock, .slice a73 x59.Stops.length c74, .slice a76 x59.Legs.length c77] 111 :: mapC keyI.f Value.bool b55 (mput q67 x59.No true) :: pc b51 #[.slice a0_0 x0.Trains.length c0_0, .slice a0_1 x0.Turns.length c0_1] 25 :: R)) (m := x59.Stops.length) ⟨x59.Stops, 0, rfl, rfl, hq83, hE.pick _ ⟨rfl, rfl, rfl, rfl, rfl, rfl, rfl, rfl, trivial⟩, hS⟩ ?_
   clear hE hS a w hq83; rintro m91 a w ⟨rest87, k85, rfl, hd88, hq83, hE, hS⟩
   refine W.gen fun K94 hK94 => ?_
   rcases rest87 with _ | ⟨x86, rest87⟩
   ·have hlt89 := drop_nil hd88
    refine W.seq (W.region (vp hS hE rfl rfl fun a hE => WL.nil ?_))
    refine W.seq ?_
    refine W.condF hE rfl (decide_eq_false (by omega)) ?_
    subst hK94
    refine W.exit rfl ?_
    exact ⟨Option.some.inj hq83, hE.pick _ ⟨rfl, rfl, rfl, rfl, trivial⟩, hS⟩
   obtain ⟨hlt89, hx90, hd88⟩ := drop_cons hd88
   rw [GuideCheck.loop2] at hq83
   refine W.seq (W.region (vp hS hE rfl rfl fun a hE => WL.nil ?_))
   refine W.seq ?_
   refine W.condT hE rfl (decide_eq_true (by omega)) ?_
   refine W.skip ?_
   refine W.seq ?_
   refine W.block ?_
   refine W.seq (W.region (vp hS hE rfl rfl fun a hE => ?_))
   obtain ⟨cs95, hl96, hR97, hat98⟩ := h75.at hx90
   subst hR97
   refine vP hS hE (Gives.idx hE k85 rfl rfl sl109 rfl hlt89 (h75.aok hlt89)) rfl fun a hE => ?_
   refine vP hS hE (Gives.loadA hE rfl (fun w h => hat98 w _ h) ty99) rfl fun a hE => ?_
   refine WL.alloc hE hS (runs_plain rfl) zr99 rfl ?_; clear hE hS a w; intro b99 a w hE hS
   refine vp hS hE rfl rfl fun a hE => ?_
   refine WL.storeI hE hS 0 rfl (ApiStop.cells x86) (runs_plain rfl) rfl rfl rfl ty99 rfl rfl rfl rfl ?_; clear hE hS a w; intro a w hE hS
   refine WL.nil ?_
   refine W.block ?_
   refine W.seq ?_
   obtain ⟨q101, hq100, hq83⟩ := bndS hq83
   refine W.cut (fun a w => ∃ (q104 : Bool), q104 = q101 ∧ Rep a 93 [(5, .map (some b55)), (7, pp b79), (8, vi ((k85 : Nat) : Int)), (9, pp b99), (20, .slice a0_0 x0.Trains.length c0_0), (21, vi ((x0.Trains).length : Int)), (22, vi ((k58 : Nat) : Int)), (45, .slice a73 x59.Stops.length c74), (46, vi ((x59.Stops).length : Int)), (47, vi ((k85 : Nat) : Int)), (52, .bool q104)] ∧ St w s (pc b99 (ApiStop.cells x86).toArray 99 :: pc b79 #[vi x59.No, vi x59.Stock, .slice a73 x59.Stops.length c74, .slice a76 x59.Legs.length c77] 111 :: mapC keyI.f Value.bool b55 (mput q67 x59.No true) :: pc b51 #[.slice a0_0 x0.Trains.length c0_0, .slice a0_1 x0.Turns.length c0_1] 25 :: R)) ?_ ?_
   ·refine W.gen fun K105 hK105 => ?_
    refine W.region ?_
    refine vP hS hE (Gives.fld hE rfl fl99_0) rfl fun a hE => ?_
    refine vP hS hE (Gives.loadB hE 0 rfl rfl rfl ty3) rfl fun a hE => ?_
    refine WL.fnq hE (Guidewithin_ok hS  rfl (r := Guidewithin x86.Station 0 11)) (runs_plain rfl) bd61 rfl rfl rfl ?_
    clear hE hS; rintro e w ⟨rfl, hS⟩; refine ⟨_, rfl, ?_⟩; clear a; intro a hE
    refine v2 hS hE rfl rfl rfl rfl fun a hE => ?_
    rcases Bool.eq_false_or_eq_true (!(Guidewithin x86.Station 0 11)) with hg106 | hg106
    ·replace hq100 := iteT hg106 hq100
     refine nO hE rfl rfl rfl (by rw [hg106]; decide) rfl fun a hE => ?_
     refine nO hE rfl rfl rfl (by rw [hg106]; decide) rfl fun a hE => ?_
     refine nO hE rfl rfl rfl (by rw [hg106]; decide) rfl fun a hE => ?_
     refine nO hE rfl rfl rfl (by rw [hg106]; decide) rfl fun a hE => ?_
     refine vP hS hE (Gives.pickT hE rfl hg106 rfl) rfl fun a hE => ?_
     refine vp hS hE rfl rfl fun a hE => ?_
     refine nO hE rfl rfl rfl (by decide) rfl fun a hE => ?_
     refine nO hE rfl rfl rfl (by decide) rfl fun a hE => ?_
     refine nO hE rfl rfl rfl (by decide) rfl fun a hE => ?_
     refine nO hE rfl rfl rfl (by decide) rfl fun a hE => ?_
     refine vP hS hE (Gives.pickT hE rfl rfl rfl) rfl fun a hE => ?_
     refine vp hS hE rfl rfl fun a hE => WL.nil ?_
     subst hK105
     exact ⟨true, hq100, hE.pick _ ⟨rfl, rfl, rfl, rfl, rfl, rfl, rfl, rfl, rfl, rfl, rfl, trivial⟩, hS⟩
    replace hq100 := iteF hg106 hq100
    refine WL.vS hS hE (runs_if hE rfl rfl rfl hg106) (Gives.fld hE rfl fl99_2) rfl fun a hE => ?_
    refine WL.vS hS hE (runs_if hE rfl rfl rfl hg106) (Gives.loadB hE 0 rfl rfl rfl ty3) rfl fun a hE => ?_
    refine WL.fnq hE (Guidewithin_ok hS  rfl (r := Guidewithin x86.Arr 0 28800)) (runs_if hE rfl rfl rfl hg106) bd61 rfl rfl rfl ?_
    clear hE hS; rintro e w ⟨rfl, hS⟩; refine ⟨_, rfl, ?_⟩; clear a; intro a hE
    refine WL.vS hS hE (runs_if hE rfl rfl rfl hg106) (Gives.p hE rfl) rfl fun a hE => ?_
    refine vP hS hE (Gives.pickF hE rfl hg106 rfl) rfl fun a hE => ?_
    refine vp hS hE rfl rfl fun a hE => ?_
    rcases Bool.eq_false_or_eq_true (!(Guidewithin x86.Arr 0 28800)) with hg107 | hg107
    ·replace hq100 := iteT hg107 hq100
     refine nO hE rfl rfl rfl (by rw [hg107]; decide) rfl fun a hE => ?_
     refine nO hE rfl rfl rfl (by rw [hg107]; decide) rfl fun a hE => ?_
     refine nO hE rfl rfl rfl (by rw [hg107]; decide) rfl fun a hE => ?_
     refine nO hE rfl rfl rfl (by rw [hg107]; decide) rfl fun a hE => ?_
     refine vP hS hE (Gives.pickT hE rfl hg107 rfl) rfl fun a hE => ?_
     refine vp hS hE rfl rfl fun a hE => WL.nil ?_
     subst hK105
     exact ⟨true, hq100, hE.pick _ ⟨rfl, rfl, rfl, rfl, rfl, rfl, rfl, rfl, rfl, rfl, rfl, trivial⟩, hS⟩
    replace hq100 := iteF hg107 hq100
    refine WL.vS hS hE (runs_if hE rfl rfl rfl hg107) (Gives.fld hE rfl fl99_3) rfl fun a hE => ?_
    refine WL.vS hS hE (runs_if hE rfl rfl rfl hg107) (Gives.loadB hE 0 rfl rfl rfl ty3) rfl fun a hE => ?_
    refine WL.fnq hE (Guidewithin_ok hS  rfl (r := Guidewithin x86.Dep 0 28800)) (runs_if hE rfl rfl rfl hg107) bd61 rfl rfl rfl ?_
    clear hE hS; rintro e w ⟨rfl, hS⟩; refine ⟨_, rfl, ?_⟩; clear a; intro a hE
    refine WL.vS hS hE (runs_if hE rfl rfl rfl hg107) (Gives.p hE rfl) rfl fun a hE => ?_
    refine vP hS hE (Gives.pickF hE rfl hg107 rfl) rfl fun a hE => ?_
    refine vp hS hE rfl rfl fun a hE => WL.nil ?_
    subst hK105
    exact ⟨!(Guidewithin x86.Dep 0 28800), hq100, hE.pick _ ⟨rfl, rfl, rfl, rfl, rfl, rfl, rfl, rfl, rfl, rfl, rfl, trivial⟩, hS⟩
   clear hE hS a w; rintro a w ⟨q104, rfl, hE, hS⟩
   refine W.cond hE rfl (fun hc108 => ?_) (fun hc108 => ?_)
   ·replace hq83 := iteT hc108 hq83
    refine W.seq (W.region (vp hS hE rfl rfl fun a hE => WL.nil ?_))
    refine W.ret ?_
    subst hK94
    subst hK68
    rw [← Option.some.inj hq83] at hq56
    dsimp only at hq56
    rw [← Option.some.inj hq56] at hr
    dsimp only at hr
    refine finG (fn := Tryz.f60) (rs := [.tmp 2]) (vs := [_]) hE rfl ⟨rfl, trivial⟩ ?_
    obtain rfl := Option.some.inj hr
    replace hS := hS.tail
    replace hS := hS.tail
    replace hS := hS.tail
    replace hS := hS.tail
    exact ⟨rfl, hS⟩
   replace hq83 := iteF hc108 hq83
   refine W.seq ?_
   obtain ⟨q110, hq109, hq83⟩ := bindS hq83
   refine W.cut (fun a w => ∃ (q113 : Bool), q113 = q110 ∧ Rep a 93 [(5, .map (some b55)), (7, pp b79), (20, .slice a0_0 x0.Trains.length c0_0), (21, vi ((x0.Trains).length : Int)), (22, vi ((k58 : Nat) : Int)), (45, .slice a73 x59.Stops.length c74), (46, vi ((x59.Stops).length : Int)), (47, vi ((k85 : Nat) : Int)), (69, .bool q113)] ∧ St w s (pc b99 (ApiStop.cells x86).toArray 99 :: pc b79 #[vi x59.No, vi x59.Stock, .slice a73 x59.Stops.length c74, .slice a76 x59.Legs.length c77] 111 :: mapC keyI.f Value.bool b55 (mput q67 x59.No true) :: pc b51 #[.slice a0_0 x0.Trains.length c0_0, .slice a0_1 x0.Turns.length c0_1] 25 :: R)) ?_ ?_
   ·refine W.gen fun K114 hK114 => ?_
    refine W.regionQ (C := fun w => St w s (pc b99 (ApiStop.cells x86).toArray 99 :: pc b79 #[vi x59.No, vi x59.Stock, .slice a73 x59.Stops.length c74, .slice a76 x59.Legs.length c77] 111 :: mapC keyI.f Value.bool b55 (mput q67 x59.No true) :: pc b51 #[.slice a0_0 x0.Trains.length c0_0, .slice a0_1 x0.Turns.length c0_1] 25 :: R)) mixed (by kernel_rfl) hS.drew ?_
    refine qP hE (Gives.fld hE rfl fl99_3) rfl fun a hE => ?_
    refine qP hE (Gives.loadB hE 0 rfl rfl rfl ty3) rfl fun a hE => ?_
    refine qP hE (Gives.fld hE rfl fl99_2) rfl fun a hE => ?_
    refine qP hE (Gives.loadB hE 0 rfl rfl rfl ty3) rfl fun a hE => ?_
    refine qP hE (Gives.p hE rfl) rfl fun a hE => ?_
    refine qP hE (Gives.p hE rfl) rfl fun a hE => ?_
    rcases Bool.eq_false_or_eq_true (decide (x86.Dep < x86.Arr)) with hg115 | hg115
    ·replace hq109 := iteT hg115 hq109
     refine QL.no hE (runs_not hE rfl rfl rfl (by rw [hg115]; decide)) rfl fun a hE => ?_
     refine QL.no hE (runs_not hE rfl rfl rfl (by rw [hg115]; decide)) rfl fun a hE => ?_
     refine QL.no hE (runs_not hE rfl rfl rfl (by rw [hg115]; decide)) rfl fun a hE => ?_
     refine QL.no hE (runs_undef hE rfl rfl rfl) rfl fun a hE => ?_
     refine QL.no hE (runs_undef hE rfl rfl rfl) rfl fun a hE => ?_
     refine QL.no hE (runs_undef hE rfl rfl rfl) rfl fun a hE => ?_
     refine QL.no hE (runs_undef hE rfl rfl rfl) rfl fun a hE => ?_
     refine QL.no hE (runs_undef hE rfl rfl rfl) rfl fun a hE => ?_
     refine QL.no hE (runs_undef hE rfl rfl rfl) rfl fun a hE => ?_
     refine QL.no hE (runs_undef hE rfl rfl rfl) rfl fun a hE => ?_
     refine QL.no hE (runs_undef hE rfl rfl rfl) rfl fun a hE => ?_
     refine QL.no hE (runs_undef hE rfl rfl rfl) rfl fun a hE => ?_
     refine QL.no hE (runs_undef hE rfl rfl rfl) rfl fun a hE => ?_
     refine QL.no hE (runs_not hE rfl rfl rfl (by rw [hg115]; decide)) rfl fun a hE => ?_
     refine qP hE (Gives.pickT hE rfl hg115 rfl) rfl fun a hE => ?_
     refine qP hE (Gives.p hE rfl) rfl fun a hE => ?_
     refine QL.nil ?_; clear hS w; intro w hS
     subst hK114
     exact ⟨true, Option.some.inj hq109, hE.pick _ ⟨rfl, rfl, rfl, rfl, rfl, rfl, rfl, rfl, rfl, trivial⟩, hS⟩
    replace hq109 := iteF hg115 hq109
    refine QL.v hE (runs_if hE rfl rfl rfl hg115) (Gives.p hE rfl) rfl fun a hE => ?_
    refine QL.v hE (runs_if hE rfl rfl rfl hg115) (Gives.p hE rfl) rfl fun a hE => ?_
    refine QL.v hE (runs_if hE rfl rfl rfl hg115) (Gives.p hE rfl) rfl fun a hE => ?_
    rcases Bool.eq_false_or_eq_true (decide (((k85 : Nat) : Int) > 0)) with hg116 | hg116
    ·replace hq109 := iteT hg116 hq109
     refine QL.v hE (runs_if hE rfl rfl rfl hg116) (Gives.fld hE rfl fl99_2) rfl fun a hE => ?_
     refine QL.v hE (runs_if hE rfl rfl rfl hg116) (Gives.loadB hE 0 rfl rfl rfl ty3) rfl fun a hE => ?_
     refine QL.v hE (runs_if hE rfl rfl rfl hg116) (Gives.fld hE rfl fl111_2) rfl fun a hE => ?_
     refine QL.v hE (runs_if hE rfl rfl rfl hg116) (Gives.loadB hE 1 rfl rfl rfl ty109) rfl fun a hE => ?_
     refine QL.v hE (runs_if hE rfl rfl rfl hg116) (Gives.p hE rfl) rfl fun a hE => ?_
     refine QL.v hE (runs_if hE rfl rfl rfl hg116) (Gives.p hE rfl) rfl fun a hE => ?_
     obtain ⟨x117, hx118, hq109⟩ := bindS hq109
     obtain ⟨hi119, hlt120, hy121⟩ := gx_some hx118
     obtain ⟨cs122, hl123, hR124, hat125⟩ := h75.at hy121
     subst hR124
     refine QL.v hE (runs_if hE rfl rfl rfl hg116) (Gives.idx hE (w64 (((k85 : Nat) : Int) - 1)).toNat rfl rfl sl109 hi119 hlt120 (h75.aok hlt120)) rfl fun a hE => ?_
     refine QL.v hE (runs_if hE rfl rfl rfl hg116) (Gives.fld hE rfl fl99_3) rfl fun a hE => ?_
     refine QL.v hE (runs_if hE rfl rfl rfl hg116) (Gives.load1 hE rfl (fun w h => (hat125 w _ h).one rfl) ty3) rfl fun a hE => ?_
     refine QL.v hE (runs_if hE rfl rfl rfl hg116) (Gives.p hE rfl) rfl fun a hE => ?_
     refine QL.v hE (runs_if hE rfl rfl rfl hg115) (Gives.pickT hE rfl hg116 rfl) rfl fun a hE => ?_
     refine qP hE (Gives.pickF hE rfl hg115 rfl) rfl fun a hE => ?_
     refine qP hE (Gives.p hE rfl) rfl fun a hE => ?_
     refine QL.nil ?_; clear hS w; intro w hS
     subst hK114
     exact ⟨decide (x86.Arr ≤ x117.Dep), Option.some.inj hq109, hE.pick _ ⟨rfl, rfl, rfl, rfl, rfl, rfl, rfl, rfl, rfl, trivial⟩, hS⟩
    replace hq109 := iteF hg116 hq109
    refine QL.no hE (runs_not hE rfl rfl rfl (by rw [hg116]; decide)) rfl fun a hE => ?_
    refine QL.no hE (runs_not hE rfl rfl rfl (by rw [hg116]; decide)) rfl fun a hE => ?_
    refine QL.no hE (runs_not hE rfl rfl rfl (by rw [hg116]; decide)) rfl fun a hE => ?_
    refine QL.no hE (runs_not hE rfl rfl rfl (by rw [hg116]; decide)) rfl fun a hE => ?_
    refine QL.no hE (runs_not hE rfl rfl rfl (by rw [hg116]; decide)) rfl fun a hE => ?_
    refine QL.no hE (runs_not hE rfl rfl rfl (by rw [hg116]; decide)) rfl fun a hE => ?_
    refine QL.no hE (runs_not hE rfl rfl rfl (by rw [hg116]; decide)) rfl fun a hE => ?_
    refine QL.no hE (runs_not hE rfl rfl rfl (by rw [hg116]; decide)) rfl fun a hE => ?_
    refine QL.no hE (runs_not hE rfl rfl rfl (by rw [hg116]; decide)) rfl fun a hE => ?_
    refine QL.no hE (runs_not hE rfl rfl rfl (by rw [hg116]; decide)) rfl fun a hE => ?_
    refine QL.v hE (runs_if hE rfl rfl rfl hg115) (Gives.pickF hE rfl hg116 rfl) rfl fun a hE => ?_
    refine qP hE (Gives.pickF hE rfl hg115 rfl) rfl fun a hE => ?_
    refine qP hE (Gives.p hE rfl) rfl fun a hE => ?_
    refine QL.nil ?_; clear hS w; intro w hS
    subst hK114
    exact ⟨false, Option.some.inj hq109, hE.pick _ ⟨rfl, rfl, rfl, rfl, rfl, rfl, rfl, rfl, rfl, trivial⟩, hS⟩
   clear hE hS a w; rintro a w ⟨q113, rfl, hE, hS⟩
   refine W.cond hE rfl (fun hc126 => ?_) (fun hc126 => ?_)
   ·replace hq83 := iteT hc126 hq83
    refine W.seq (W.region (vp hS hE rfl rfl fun a hE => WL.nil ?_))
    refine W.ret ?_
    subst hK94
    subst hK68
    rw [← Option.some.inj hq83] at hq56
    dsimp only at hq56
    rw [← Option.some.inj hq56] at hr
    dsimp only at hr
    refine finG (fn := Tryz.f60) (rs := [.tmp 2]) (vs := [_]) hE rfl ⟨rfl, trivial⟩ ?_
    obtain rfl := Option.some.inj hr
    replace hS := hS.tail
    replace hS := hS.tail
    replace hS := hS.tail
    replace hS := hS.tail
    exact ⟨rfl, hS⟩
   replace hq83 := iteF hc126 hq83
   refine W.skip ?_
   refine W.region ?_
   refine vP hS hE (Gives.inc hE rfl (by have := h75.small; omega)) rfl fun a hE => ?_
   refine vp hS hE rfl rfl fun a hE => WL.nil ?_
   replace hS := hS.tail
   subst hK94
   exact ⟨rest87.length, Nat.lt_succ_self _, rest87, k85 + 1, rfl, hd88, hq83, hE.pick _ ⟨rfl, rfl, rfl, rfl, rfl, rfl, rfl, rfl, trivial⟩, hS⟩
  clear hE hS a w; rintro a w ⟨rfl, hE, hS⟩
  dsimp only at hq56
  refine W.region ?_
  refine vP hS hE (Gives.inc hE rfl (by have := h0_0.small; omega)) rfl fun a hE => ?_
  refine vp hS hE rfl rfl fun a hE => WL.nil ?_
  replace hS := hS.tail
  subst hK68
  exact ⟨rest60.length, Nat.lt_succ_self _, rest60, k58 + 1, (mput q67 x59.No true), rfl, hd61, hq56, hE.pick _ ⟨rfl, rfl, rfl, rfl, trivial⟩, hS⟩
 clear hE hS a w; rintro a w ⟨q67, rfl, hE, hS⟩
 dsimp only at hr
 refine W.seq (W.region (vp hS hE rfl rfl fun a hE => WL.nil ?_))
 refine W.ret ?_
 refine finG (fn := Tryz.f60) (rs := [.tmp 2]) (vs := [_]) hE rfl ⟨rfl, trivial⟩ ?_
 obtain rfl := Option.some.inj hr
 replace hS := hS.tail
 replace hS := hS.tail
 exact ⟨rfl, hS⟩
set_option maxHeartbeats 8000000 in
theorem GuideSay_ok  {w : World} {s : Sg} {R : List HP} {x0 : ApiNet} {a0_0 : Option Addr} {c0_0 : Nat} {a0_1 : Option Addr} {c0_1 : Nat} {a0_2 : Option Addr} {c0_2 : Nat} {a0_3 : Option Addr} {c0_3 : Nat} {a0_4 : Option Addr} {c0_4 : Nat} {x1 : GuideMessage} {x2 : GuidePromise} {a2_0 : Option Addr} {c2_0 : Nat} {x3 : ApiDay} {a3_0 : Option Addr} {c3_0 : Nat} {a3_1 : Option Addr} {c3_1 : Nat} (hS : St w s (R)) (hTab : TabS Tryz.prog s) (h0_0 : Sl 1 RS s a0_0 c0_0 x0.Stations) (h0_1 : Sl 7 RApiSection s a0_1 c0_1 x0.Sections) (h0_2 : Sl 4 RApiLink s a0_2 c0_2 x0.Links) (h0_3 : Sl 2 RApiSignal s a0_3 c0_3 x0.Signals) (h0_4 : Sl 2 RApiGate s a0_4 c0_4 x0.Gates) (h2_0 : Sl 3 RGuideRide s a2_0 c2_0 x2.Journey.Rides) (h3_0 : Sl 4 RApiTrain s a3_0 c3_0 x3.Trains) (h3_1 : Sl 1 (RL 1 (RI .i64)) s a3_1 c3_1 x3.Turns) {r : ByteArray × Int} (hr : GuideSay x0 x1 x2 x3 = some r) :
  Calls Tryz.prog 18 [.agg (List.toArray [.slice a0_0 x0.Stations.length c0_0, .slice a0_1 x0.Sections.length c0_1, .slice a0_2 x0.Links.length c0_2, .slice a0_3 x0.Signals.length c0_3, .slice a0_4 x0.Gates.length c0_4]), .agg (GuideMessage.cells x1).toArray, .agg (List.toArray [vi x2.From, vi x2.To, vi x2.Dep, vi x2.Arr, vi x2.State, .slice a2_0 x2.Journey.Rides.length c2_0]), .agg (List.toArray [.slice a3_0 x3.Trains.length c3_0, .slice a3_1 x3.Turns.length c3_1])].toArray w (fun e w => e = .returned (.tuple #[.string r.1, vi r.2]) ∧ St w s (R)) := by
 refine enter Tryz.func18 rfl rfl rfl fun a hE => ?_
 rw [GuideSay] at hr
 refine W.seq (W.region ?_)
 refine WL.box hE hS (runs_plain rfl) rfl rfl rfl ?_; clear hE hS a w; intro b51 a w hE hS
 refine WL.box hE hS (runs_plain rfl) rfl rfl rfl ?_; clear hE hS a w; intro b52 a w hE hS
 refine WL.box hE hS (runs_plain rfl) rfl rfl rfl ?_; clear hE hS a w; intro b53 a w hE hS
 refine WL.box hE hS (runs_plain rfl) rfl rfl rfl ?_; clear hE hS a w; intro b54 a w hE hS
 refine v2 hS hE rfl rfl rfl rfl fun a hE => WL.nil ?_
 refine W.seq ?_
 refine W.seq (W.region (vP hS hE (Gives.loadBA hE 3 rfl rfl ty53) rfl fun a hE => ?_))
 obtain ⟨q55, hq56, hr⟩ := bindS hr
 have hc_ := LineCheck_ok hS h0_0 h0_1 h0_2 h0_3 h0_4 hq56
 refine WL.fnq hE (hc_) (runs_plain rfl) bd69 rfl rfl rfl ?_
 clear hE hS hc_; rintro e w ⟨rfl, hS⟩; refine ⟨_, rfl, ?_⟩; clear a; intro a hE
 refine vp hS hE rfl rfl fun a hE => WL.nil ?_
 refine W.seq (W.region (v2 hS hE rfl rfl rfl rfl fun a hE => WL.nil ?_))
 refine W.cond hE rfl (fun hc57 => ?_) (fun hc57 => ?_)
 ·replace hr := iteT hc57 hr
  refine W.seq (W.region (v2 hS hE rfl rfl rfl rfl fun a hE => ?_))
  refine vp hS hE rfl rfl fun a hE => WL.nil ?_
  refine W.ret ?_
  refine finG (fn := Tryz.f18) (rs := [.tmp 8, .tmp 9]) (vs := [_, _]) hE rfl ⟨rfl, rfl, trivial⟩ ?_
  obtain rfl := Option.some.inj hr
  replace hS := hS.tail
  replace hS := hS.tail
  replace hS := hS.tail
  replace hS := hS.tail
  exact ⟨rfl, hS⟩
 replace hr := iteF hc57 hr
 refine W.skip ?_
 refine W.seq ?_
 refine W.seq (W.region (vP hS hE (Gives.loadBA hE 0 rfl rfl ty25) rfl fun a hE => ?_))
 obtain ⟨q58, hq59, hr⟩ := bindS hr
 have hc_ := GuideCheck_ok hS (TabS.mono (Sg.Le.refl _) hTab) h3_0 h3_1 hq59
 refine WL.fnq hE (hc_) (runs_plain rfl) bd60 rfl rfl rfl ?_
 clear hE hS hc_; rintro e w ⟨rfl, hS⟩; refine ⟨_, rfl, ?_⟩; clear a; intro a hE
 refine vp hS hE rfl rfl fun a hE => WL.nil ?_
 refine W.seq (W.region (v2 hS hE rfl rfl rfl rfl fun a hE => WL.nil ?_))
 refine W.cond hE rfl (fun hc60 => ?_) (fun hc60 => ?_)
 ·replace hr := iteT hc60 hr
  refine W.seq (W.region (v2 hS hE rfl rfl rfl rfl fun a hE => ?_))
  refine vp hS hE rfl rfl fun a hE => WL.nil ?_
  refine W.ret ?_
  refine finG (fn := Tryz.f18) (rs := [.tmp 8, .tmp 9]) (vs := [_, _]) hE rfl ⟨rfl, rfl, trivial⟩ ?_
  obtain rfl := Option.some.inj hr
  replace hS := hS.tail
  replace hS := hS.tail
  replace hS := hS.tail
  replace hS := hS.tail
  exact ⟨rfl, hS⟩
 replace hr := iteF hc60 hr
 refine W.skip ?_
 refine W.seq ?_
 refine W.seq (W.region (vP hS hE (Gives.fld hE rfl fl55_3) rfl fun a hE => ?_))
 refine vP hS hE (Gives.loadB hE 2 rfl rfl rfl ty3) rfl fun a hE => ?_
 refine WL.fnq hE (Guidewithin_ok hS  rfl (r := Guidewithin x1.Kind 1 4)) (runs_plain rfl) bd61 rfl rfl rfl ?_
 clear hE hS; rintro e w ⟨rfl, hS⟩; refine ⟨_, rfl, ?_⟩; clear a; intro a hE
 refine vp hS hE rfl rfl fun a hE => WL.nil ?_
 refine W.cond hE rfl (fun hc61 => ?_) (fun hc61 => ?_)
 ·replace hr := iteT hc61 hr
  refine W.seq (W.region (v2 hS hE rfl rfl rfl rfl fun a hE => WL.nil ?_))
  refine W.ret ?_
  refine finG (fn := Tryz.f18) (rs := [.tmp 8, .tmp 9]) (vs := [_, _]) hE rfl ⟨rfl, rfl, trivial⟩ ?_
  obtain rfl := Option.some.inj hr
  replace hS := hS.tail
  replace hS := hS.tail
  replace hS := hS.tail
  replace hS := hS.tail
  exact ⟨rfl, hS⟩
 replace hr := iteF hc61 hr
 refine W.skip ?_
 refine W.seq ?_
 refine W.seq (W.region (vP hS hE (Gives.fld hE rfl fl55_2) rfl fun a hE => ?_))
 refine vP hS hE (Gives.loadB hE 2 rfl rfl rfl ty3) rfl fun a hE => ?_
 refine vP hS hE (Gives.fld hE rfl fl57_5) rfl fun a hE => ?_
 refine vP hS hE (Gives.fld hE rfl fl29_0) rfl fun a hE => ?_
 refine vP hS hE (Gives.loadB hE 1 rfl rfl rfl ty27) rfl fun a hE => ?_
 refine vP hS hE (Gives.len hE rfl sl27) rfl fun a hE => ?_
 refine vp hS hE rfl rfl fun a hE => ?_
 refine WL.fnq hE (Guidewithin_ok hS  rfl (r := Guidewithin x1.Ride 0 (w64 (((x2.Journey.Rides).length : Int) - 1)))) (runs_plain rfl) bd61 rfl rfl rfl ?_
 clear hE hS; rintro e w ⟨rfl, hS⟩; refine ⟨_, rfl, ?_⟩; clear a; intro a hE
 refine vp hS hE rfl rfl fun a hE => WL.nil ?_
 refine W.cond hE rfl (fun hc62 => ?_) (fun hc62 => ?_)
 ·replace hr := iteT hc62 hr
  refine W.seq (W.region (v2 hS hE rfl rfl rfl rfl fun a hE => WL.nil ?_))
  refine W.ret ?_
  refine finG (fn := Tryz.f18) (rs := [.tmp 8, .tmp 9]) (vs := [_, _]) hE rfl ⟨rfl, rfl, trivial⟩ ?_
  obtain rfl := Option.some.inj hr
  replace hS := hS.tail
  replace hS := hS.tail
  replace hS := hS.tail
  replace hS := hS.tail
  exact ⟨rfl, hS⟩
 replace hr := iteF hc62 hr
 refine W.skip ?_
 refine W.seq (W.region (vP hS hE (Gives.fld hE rfl fl57_5) rfl fun a hE => ?_))
 refine vP hS hE (Gives.fld hE rfl fl29_0) rfl fun a hE => ?_
 refine vP hS hE (Gives.loadB hE 1 rfl rfl rfl ty27) rfl fun a hE => ?_
 refine vP hS hE (Gives.fld hE rfl fl55_2) rfl fun a hE => ?_
 refine vP hS hE (Gives.loadB hE 2 rfl rfl rfl ty3) rfl fun a hE => ?_
 obtain ⟨x63, hx64, hr⟩ := bindS hr
 obtain ⟨hi65, hlt66, hy67⟩ := gx_some hx64
 obtain ⟨cs68, hl69, hR70, hat71⟩ := h2_0.at hy67
 subst hR70
 refine vP hS hE (Gives.idx hE (x1.Ride).toNat rfl rfl sl27 hi65 hlt66 (h2_0.aok hlt66)) rfl fun a hE => ?_
 refine vP hS hE (Gives.loadA hE rfl (fun w h => hat71 w _ h) ty95) rfl fun a hE => ?_
 refine WL.alloc hE hS (runs_plain rfl) zr95 rfl ?_; clear hE hS a w; intro b72 a w hE hS
 refine WL.storeI hE hS 0 rfl (GuideRide.cells x63) (runs_plain rfl) rfl rfl rfl ty95 rfl rfl rfl rfl ?_; clear hE hS a w; intro a w hE hS
 refine WL.nil ?_
 refine W.seq ?_
 refine W.seq (W.region (vP hS hE (Gives.fld hE rfl fl95_0) rfl fun a hE => ?_))
 refine vP hS hE (Gives.loadB hE 0 rfl rfl rfl ty3) rfl fun a hE => ?_
 refine vP hS hE (Gives.fld hE rfl fl25_0) rfl fun a hE => ?_
 refine vP hS hE (Gives.loadB hE 1 rfl rfl rfl ty22) rfl fun a hE => ?_
 refine vP hS hE (Gives.len hE rfl sl22) rfl fun a hE => ?_
 refine vp hS hE rfl rfl fun a hE => ?_
 refine WL.fnq hE (Guidewithin_ok hS  rfl (r := Guidewithin x63.Train 0 (w64 (((x3.Trains).length : Int) - 1)))) (runs_plain rfl) bd61 rfl rfl rfl ?_
 clear hE hS; rintro e w ⟨rfl, hS⟩; refine ⟨_, rfl, ?_⟩; clear a; intro a hE
 refine vp hS hE rfl rfl fun a hE => WL.nil ?_
 refine W.cond hE rfl (fun hc73 => ?_) (fun hc73 => ?_)
 ·replace hr := iteT hc73 hr
  refine W.seq (W.region (v2 hS hE rfl rfl rfl rfl fun a hE => WL.nil ?_))
  refine W.ret ?_
  refine finG (fn := Tryz.f18) (rs := [.tmp 8, .tmp 9]) (vs := [_, _]) hE rfl ⟨rfl, rfl, trivial⟩ ?_
  obtain rfl := Option.some.inj hr
  replace hS := hS.tail
  replace hS := hS.tail
  replace hS := hS.tail
  replace hS := hS.tail
  replace hS := hS.tail
  exact ⟨rfl, hS⟩
 replace hr := iteF hc73 hr
 refine W.skip ?_
 refine W.seq (W.region (vP hS hE (Gives.fld hE rfl fl25_0) rfl fun a hE => ?_))
 refine vP hS hE (Gives.loadB hE 1 rfl rfl rfl ty22) rfl fun a hE => ?_
 refine vP hS hE (Gives.fld hE rfl fl95_0) rfl fun a hE => ?_
 refine vP hS hE (Gives.loadB hE 0 rfl rfl rfl ty3) rfl fun a hE => ?_
 obtain ⟨x74, hx75, hr⟩ := bindS hr
 obtain ⟨hi76, hlt77, hy78⟩ := gx_some hx75
 obtain ⟨cs79, hl80, hR81, hat82⟩ := h3_0.at hy78
 obtain ⟨a83, c84, a86, c87, rfl, h85, h88⟩ := hR81
 refine vP hS hE (Gives.idx hE (x63.Train).toNat rfl rfl sl22 hi76 hlt77 (h3_0.aok hlt77)) rfl fun a hE => ?_
 refine vP hS hE (Gives.loadA hE rfl (fun w h => hat82 w _ h) ty111) rfl fun a hE => ?_
 refine WL.alloc hE hS (runs_plain rfl) zr111 rfl ?_; clear hE hS a w; intro b89 a w hE hS
 refine WL.storeI hE hS 0 rfl [vi x74.No, vi x74.Stock, .slice a83 x74.Stops.length c84, .slice a86 x74.Legs.length c87] (runs_plain rfl) rfl rfl rfl ty111 rfl rfl rfl rfl ?_; clear hE hS a w; intro a w hE hS
 refine WL.nil ?_
 refine W.seq ?_
 refine W.seq (W.region (vP hS hE (Gives.fld hE rfl fl95_1) rfl fun a hE => ?_))
 refine vP hS hE (Gives.loadB hE 1 rfl rfl rfl ty3) rfl fun a hE => ?_
 refine vP hS hE (Gives.fld hE rfl fl95_2) rfl fun a hE => ?_
 refine vP hS hE (Gives.loadB hE 1 rfl rfl rfl ty3) rfl fun a hE => ?_
 refine vP hS hE (Gives.build hE (vs := [(0, vi x63.On), (1, vi x63.Off)]) [vi x63.On, vi x63.Off] rfl (by kernel_rfl)) rfl fun a hE => ?_
 refine vp hS hE rfl rfl fun a hE => WL.nil ?_
 obtain ⟨q91, hq90, hr⟩ := bindS hr
 refine W.cut (fun a w => (.next ()) = q91 ∧ Rep a 157 [(4, pp b51), (5, pp b52), (12, pp b72), (13, pp b89)] ∧ St w s (pc b89 #[vi x74.No, vi x74.Stock, .slice a83 x74.Stops.length c84, .slice a86 x74.Legs.length c87] 111 :: pc b72 (GuideRide.cells x63).toArray 95 :: pc b54 #[.slice a3_0 x3.Trains.length c3_0, .slice a3_1 x3.Turns.length c3_1] 25 :: pc b53 #[vi x2.From, vi x2.To, vi x2.Dep, vi x2.Arr, vi x2.State, .slice a2_0 x2.Journey.Rides.length c2_0] 57 :: pc b52 (GuideMessage.cells x1).toArray 55 :: pc b51 #[.slice a0_0 x0.Stations.length c0_0, .slice a0_1 x0.Sections.length c0_1, .slice a0_2 x0.Links.length c0_2, .slice a0_3 x0.Signals.length c0_3, .slice a0_4 x0.Gates.length c0_4] 53 :: R)) ?_ ?_
 ·refine W.block ?_
  refine W.loop (fun m a w => ∃ (rest94 : List Int) (k92 : Nat), rest94.length = m ∧ [x63.On, x63.Off].drop k92 = rest94 ∧ GuideSay.loop1 x0 x74 rest94 = some q91 ∧ Rep a 157 [(4, pp b51), (5, pp b52), (12, pp b72), (13, pp b89), (67, .agg (List.toArray [vi x63.On, vi x63.Off])), (68, vi ((k92 : Nat) : Int))] ∧ St w s (pc b89 #[vi x74.No, vi x74.Stock, .slice a83 x74.Stops.length c84, .slice a86 x74.Legs.length c87] 111 :: pc b72 (GuideRide.cells x63).toArray 95 :: pc b54 #[.slice a3_0 x3.Trains.length c3_0, .slice a3_1 x3.Turns.length c3_1] 25 :: pc b53 #[vi x2.From, vi x2.To, vi x2.Dep, vi x2.Arr, vi x2.State, .slice a2_0 x2.Journey.Rides.length c2_0] 57 :: pc b52 (GuideMessage.cells x1).toArray 55 :: pc b51 #[.slice a0_0 x0.Stations.length c0_0, .slice a0_1 x0.Sections.length c0_1, .slice a0_2 x0.Links.length c0_2, .slice a0_3 x0.Signals.length c0_3, .slice a0_4 x0.Gates.length c0_4] 53 :: R)) (m := [x63.On, x63.Off].length) ⟨[x63.On, x63.Off], 0, rfl, rfl, hq90, hE.pick _ ⟨rfl, rfl, rfl, rfl, rfl, rfl, trivial⟩, hS⟩ ?_
  clear hE hS a w hq90; rintro m98 a w ⟨rest94, k92, rfl, hd95, hq90, hE, hS⟩
  refine W.gen fun K101 hK101 => ?_
  rcases rest94 with _ | ⟨x93, rest94⟩
  ·have hlt96 : 2 ≤ k92 := drop_nil hd95
   refine W.seq (W.region (vp hS hE rfl rfl fun a hE => WL.nil ?_))
   refine W.seq ?_
   refine W.condF hE rfl (decide_eq_false (by omega)) ?_
   subst hK101
   refine W.exit rfl ?_
   exact ⟨Option.some.inj hq90, hE.pick _ ⟨rfl, rfl, rfl, rfl, trivial⟩, hS⟩
  obtain ⟨hlt96, hx97, hd95⟩ := drop_cons hd95
  replace hlt96 : k92 < 2 := hlt96
  rw [GuideSay.loop1] at hq90
  refine W.seq (W.region (vp hS hE rfl rfl fun a hE => WL.nil ?_))
  refine W.seq ?_
  refine W.condT hE rfl (decide_eq_true (by omega)) ?_
  refine W.skip ?_
  refine W.seq ?_
  refine W.block ?_
  refine W.seq (W.region (vP hS hE (Gives.indexM hE (f := (Value.int .i64)) (l := [x63.On, x63.Off]) (k := k92) ar148 rfl rfl rfl rfl hx97) rfl fun a hE => ?_))
  refine vp hS hE rfl rfl fun a hE => WL.nil ?_
  refine W.seq ?_
  obtain ⟨q103, hq102, hq90⟩ := bindS hq90
  refine W.cut (fun a w => ∃ (q106 : Bool), q106 = q103 ∧ Rep a 157 [(4, pp b51), (5, pp b52), (12, pp b72), (13, pp b89), (67, .agg (List.toArray [vi x63.On, vi x63.Off])), (68, vi ((k92 : Nat) : Int)), (91, .bool q106)] ∧ St w s (pc b89 #[vi x74.No, vi x74.Stock, .slice a83 x74.Stops.length c84, .slice a86 x74.Legs.length c87] 111 :: pc b72 (GuideRide.cells x63).toArray 95 :: pc b54 #[.slice a3_0 x3.Trains.length c3_0, .slice a3_1 x3.Turns.length c3_1] 25 :: pc b53 #[vi x2.From, vi x2.To, vi x2.Dep, vi x2.Arr, vi x2.State, .slice a2_0 x2.Journey.Rides.length c2_0] 57 :: pc b52 (GuideMessage.cells x1).toArray 55 :: pc b51 #[.slice a0_0 x0.Stations.length c0_0, .slice a0_1 x0.Sections.length c0_1, .slice a0_2 x0.Links.length c0_2, .slice a0_3 x0.Signals.length c0_3, .slice a0_4 x0.Gates.length c0_4] 53 :: R)) ?_ ?_
  ·refine W.gen fun K107 hK107 => ?_
   refine W.regionQ (C := fun w => St w s (pc b89 #[vi x74.No, vi x74.Stock, .slice a83 x74.Stops.length c84, .slice a86 x74.Legs.length c87] 111 :: pc b72 (GuideRide.cells x63).toArray 95 :: pc b54 #[.slice a3_0 x3.Trains.length c3_0, .slice a3_1 x3.Turns.length c3_1] 25 :: pc b53 #[vi x2.From, vi x2.To, vi x2.Dep, vi x2.Arr, vi x2.State, .slice a2_0 x2.Journey.Rides.length c2_0] 57 :: pc b52 (GuideMessage.cells x1).toArray 55 :: pc b51 #[.slice a0_0 x0.Stations.length c0_0, .slice a0_1 x0.Sections.length c0_1, .slice a0_2 x0.Links.length c0_2, .slice a0_3 x0.Signals.length c0_3, .slice a0_4 x0.Gates.length c0_4] 53 :: R)) mixed (by kernel_rfl) hS.drew ?_
   refine qP hE (Gives.p hE rfl) rfl fun a hE => ?_
   refine qP hE (Gives.fld hE rfl fl111_2) rfl fun a hE => ?_
   refine qP hE (Gives.loadB hE 0 rfl rfl rfl ty109) rfl fun a hE => ?_
   refine qP hE (Gives.len hE rfl sl109) rfl fun a hE => ?_
   refine qP hE (Gives.p hE rfl) rfl fun a hE => ?_
   refine QL.fnq hE (fun w hS => Guidewithin_ok hS  rfl (r := Guidewithin x93 0 (w64 (((x74.Stops).length : Int) - 1)))) (runs_plain rfl) bd61 rfl rfl rfl fun a hE => ?_
   refine qP hE (Gives.p hE rfl) rfl fun a hE => ?_
   refine qP hE (Gives.p hE rfl) rfl fun a hE => ?_
   rcases Bool.eq_false_or_eq_true (!(Guidewithin x93 0 (w64 (((x74.Stops).length : Int) - 1)))) with hg108 | hg108
   ·replace hq102 := iteT hg108 hq102
    refine QL.no hE (runs_not hE rfl rfl rfl (by rw [hg108]; decide)) rfl fun a hE => ?_
    refine QL.no hE (runs_not hE rfl rfl rfl (by rw [hg108]; decide)) rfl fun a hE => ?_
    refine QL.no hE (runs_not hE rfl rfl rfl (by rw [hg108]; decide)) rfl fun a hE => ?_
    refine QL.no hE (runs_not hE rfl rfl rfl (by rw [hg108]; decide)) rfl fun a hE => ?_
    refine QL.no hE (runs_not hE rfl rfl rfl (by rw [hg108]; decide)) rfl fun a hE => ?_
    refine QL.no hE (runs_not hE rfl rfl rfl (by rw [hg108]; decide)) rfl fun a hE => ?_
    refine QL.no hE (runs_not hE rfl rfl rfl (by rw [hg108]; decide)) rfl fun a hE => ?_
    refine QL.no hE (runs_not hE rfl rfl rfl (by rw [hg108]; decide)) rfl fun a hE => ?_
    refine QL.no hE (runs_not hE rfl rfl rfl (by rw [hg108]; decide)) rfl fun a hE => ?_
    refine QL.no hE (runs_not hE rfl rfl rfl (by rw [hg108]; decide)) rfl fun a hE => ?_
    refine QL.no hE (runs_not hE rfl rfl rfl (by rw [hg108]; decide)) rfl fun a hE => ?_
    refine QL.no hE (runs_not hE rfl rfl rfl (by rw [hg108]; decide)) rfl fun a hE => ?_
    refine qP hE (Gives.pickT hE rfl hg108 rfl) rfl fun a hE => ?_
    refine QL.nil ?_; clear hS w; intro w hS
    subst hK107
    exact ⟨true, Option.some.inj hq102, hE.pick _ ⟨rfl, rfl, rfl, rfl, rfl, rfl, rfl, trivial⟩, hS⟩
   replace hq102 := iteF hg108 hq102
   refine QL.v hE (runs_if hE rfl rfl rfl hg108) (Gives.fld hE rfl fl111_2) rfl fun a hE => ?_
   refine QL.v hE (runs_if hE rfl rfl rfl hg108) (Gives.loadB hE 0 rfl rfl rfl ty109) rfl fun a hE => ?_
   refine QL.v hE (runs_if hE rfl rfl rfl hg108) (Gives.p hE rfl) rfl fun a hE => ?_
   obtain ⟨x109, hx110, hq102⟩ := bindS hq102
   obtain ⟨hi111, hlt112, hy113⟩ := gx_some hx110
   obtain ⟨cs114, hl115, hR116, hat117⟩ := h85.at hy113
   subst hR116
   refine QL.v hE (runs_if hE rfl rfl rfl hg108) (Gives.idx hE (x93).toNat rfl rfl sl109 hi111 hlt112 (h85.aok hlt112)) rfl fun a hE => ?_
   refine QL.v hE (runs_if hE rfl rfl rfl hg108) (Gives.fld hE rfl fl99_0) rfl fun a hE => ?_
   refine QL.v hE (runs_if hE rfl rfl rfl hg108) (Gives.load1 hE rfl (fun w h => (hat117 w _ h).one rfl) ty3) rfl fun a hE => ?_
   refine QL.v hE (runs_if hE rfl rfl rfl hg108) (Gives.fld hE rfl fl53_0) rfl fun a hE => ?_
   refine QL.v hE (runs_if hE rfl rfl rfl hg108) (Gives.loadB hE 5 rfl rfl rfl ty47) rfl fun a hE => ?_
   refine QL.v hE (runs_if hE rfl rfl rfl hg108) (Gives.len hE rfl sl47) rfl fun a hE => ?_
   refine QL.v hE (runs_if hE rfl rfl rfl hg108) (Gives.p hE rfl) rfl fun a hE => ?_
   refine QL.fnq hE (fun w hS => Guidewithin_ok hS  rfl (r := Guidewithin x109.Station 0 (w64 (((x0.Stations).length : Int) - 1)))) (runs_if hE rfl rfl rfl hg108) bd61 rfl rfl rfl fun a hE => ?_
   refine QL.v hE (runs_if hE rfl rfl rfl hg108) (Gives.p hE rfl) rfl fun a hE => ?_
   refine qP hE (Gives.pickF hE rfl hg108 rfl) rfl fun a hE => ?_
   refine QL.nil ?_; clear hS w; intro w hS
   subst hK107
   exact ⟨!(Guidewithin x109.Station 0 (w64 (((x0.Stations).length : Int) - 1))), Option.some.inj hq102, hE.pick _ ⟨rfl, rfl, rfl, rfl, rfl, rfl, rfl, trivial⟩, hS⟩
  clear hE hS a w; rintro a w ⟨q106, rfl, hE, hS⟩
  refine W.cond hE rfl (fun hc118 => ?_) (fun hc118 => ?_)
  ·replace hq90 := iteT hc118 hq90
   refine W.seq (W.region (v2 hS hE rfl rfl rfl rfl fun a hE => WL.nil ?_))
   refine W.ret ?_
   subst hK101
   rw [← Option.some.inj hq90] at hr
   dsimp only at hr
   refine finG (fn := Tryz.f18) (rs := [.tmp 8, .tmp 9]) (vs := [_, _]) hE rfl ⟨rfl, rfl, trivial⟩ ?_
   obtain rfl := Option.some.inj hr
   replace hS := hS.tail
   replace hS := hS.tail
   replace hS := hS.tail
   replace hS := hS.tail
   replace hS := hS.tail
   replace hS := hS.tail
   exact ⟨rfl, hS⟩
  replace hq90 := iteF hc118 hq90
  refine W.skip ?_
  refine W.region ?_
  refine vP hS hE (Gives.inc hE rfl (by omega)) rfl fun a hE => ?_
  refine vp hS hE rfl rfl fun a hE => WL.nil ?_
  subst hK101
  exact ⟨rest94.length, Nat.lt_succ_self _, rest94, k92 + 1, rfl, hd95, hq90, hE.pick _ ⟨rfl, rfl, rfl, rfl, rfl, rfl, trivial⟩, hS⟩
 clear hE hS a w; rintro a w ⟨rfl, hE, hS⟩
 dsimp only at hr
 refine W.seq ?_
 refine W.seq (W.region (vP hS hE (Gives.fld hE rfl fl55_4) rfl fun a hE => ?_))
 refine vP hS hE (Gives.loadB hE 4 rfl rfl rfl ty3) rfl fun a hE => ?_
 refine WL.fnq hE (Guidewithin_ok hS  rfl (r := Guidewithin x1.Value 0 28800)) (runs_plain rfl) bd61 rfl rfl rfl ?_
 clear hE hS; rintro e w ⟨rfl, hS⟩; refine ⟨_, rfl, ?_⟩; clear a; intro a hE
 refine vp hS hE rfl rfl fun a hE => WL.nil ?_
 refine W.cond hE rfl (fun hc119 => ?_) (fun hc119 => ?_)
 ·replace hr := iteT hc119 hr
  refine W.seq (W.region (v2 hS hE rfl rfl rfl rfl fun a hE => WL.nil ?_))
  refine W.ret ?_
  refine finG (fn := Tryz.f18) (rs := [.tmp 8, .tmp 9]) (vs := [_, _]) hE rfl ⟨rfl, rfl, trivial⟩ ?_
  obtain rfl := Option.some.inj hr
  replace hS := hS.tail
  replace hS := hS.tail
  replace hS := hS.tail
  replace hS := hS.tail
  replace hS := hS.tail
  replace hS := hS.tail
  exact ⟨rfl, hS⟩
 replace hr := iteF hc119 hr
 refine W.skip ?_
 refine W.seq ?_
 refine W.regionQ (C := fun w => St w s (pc b89 #[vi x74.No, vi x74.Stock, .slice a83 x74.Stops.length c84, .slice a86 x74.Legs.length c87] 111 :: pc b72 (GuideRide.cells x63).toArray 95 :: pc b54 #[.slice a3_0 x3.Trains.length c3_0, .slice a3_1 x3.Turns.length c3_1] 25 :: pc b53 #[vi x2.From, vi x2.To, vi x2.Dep, vi x2.Arr, vi x2.State, .slice a2_0 x2.Journey.Rides.length c2_0] 57 :: pc b52 (GuideMessage.cells x1).toArray 55 :: pc b51 #[.slice a0_0 x0.Stations.length c0_0, .slice a0_1 x0.Sections.length c0_1, .slice a0_2 x0.Links.length c0_2, .slice a0_3 x0.Signals.length c0_3, .slice a0_4 x0.Gates.length c0_4] 53 :: R)) mixed (by kernel_rfl) hS.drew ?_
 refine qP hE (Gives.fld hE rfl fl53_0) rfl fun a hE => ?_
 refine qP hE (Gives.loadB hE 5 rfl rfl rfl ty47) rfl fun a hE => ?_
 refine qP hE (Gives.fld hE rfl fl111_2) rfl fun a hE => ?_
 refine qP hE (Gives.loadB hE 0 rfl rfl rfl ty109) rfl fun a hE => ?_
 refine qP hE (Gives.fld hE rfl fl95_1) rfl fun a hE => ?_
 refine qP hE (Gives.loadB hE 1 rfl rfl rfl ty3) rfl fun a hE => ?_
 obtain ⟨x120, hx121, hr⟩ := bindS hr
 obtain ⟨hi122, hlt123, hy124⟩ := gx_some hx121
 obtain ⟨cs125, hl126, hR127, hat128⟩ := h85.at hy124
 subst hR127
 refine qP hE (Gives.idx hE (x63.On).toNat rfl rfl sl109 hi122 hlt123 (h85.aok hlt123)) rfl fun a hE => ?_
 refine qP hE (Gives.fld hE rfl fl99_0) rfl fun a hE => ?_
 refine qP hE (Gives.load1 hE rfl (fun w h => (hat128 w _ h).one rfl) ty3) rfl fun a hE => ?_
 obtain ⟨x129, hx130, hr⟩ := bindS hr
 obtain ⟨hi131, hlt132, hy133⟩ := gx_some hx130
 obtain ⟨cs134, hl135, hR136, hat137⟩ := h0_0.at hy133
 subst hR136
 refine qP hE (Gives.idx hE (x120.Station).toNat rfl rfl sl47 hi131 hlt132 (h0_0.aok hlt132)) rfl fun a hE => ?_
 refine qP hE (Gives.load1 hE rfl (fun w h => hat137 w _ h) ty9) rfl fun a hE => ?_
 refine qP hE (Gives.fld hE rfl fl53_0) rfl fun a hE => ?_
 refine qP hE (Gives.loadB hE 5 rfl rfl rfl ty47) rfl fun a hE => ?_
 refine qP hE (Gives.fld hE rfl fl111_2) rfl fun a hE => ?_
 refine qP hE (Gives.loadB hE 0 rfl rfl rfl ty109) rfl fun a hE => ?_
 refine qP hE (Gives.fld hE rfl fl95_2) rfl fun a hE => ?_
 refine qP hE (Gives.loadB hE 1 rfl rfl rfl ty3) rfl fun a hE => ?_
 obtain ⟨x138, hx139, hr⟩ := bindS hr
 obtain ⟨hi140, hlt141, hy142⟩ := gx_some hx139
 obtain ⟨cs143, hl144, hR145, hat146⟩ := h85.at hy142
 subst hR145
 refine qP hE (Gives.idx hE (x63.Off).toNat rfl rfl sl109 hi140 hlt141 (h85.aok hlt141)) rfl fun a hE => ?_
 refine qP hE (Gives.fld hE rfl fl99_0) rfl fun a hE => ?_
 refine qP hE (Gives.load1 hE rfl (fun w h => (hat146 w _ h).one rfl) ty3) rfl fun a hE => ?_
 obtain ⟨x147, hx148, hr⟩ := bindS hr
 obtain ⟨hi149, hlt150, hy151⟩ := gx_some hx148
 obtain ⟨cs152, hl153, hR154, hat155⟩ := h0_0.at hy151
 subst hR154
 refine qP hE (Gives.idx hE (x138.Station).toNat rfl rfl sl47 hi149 hlt150 (h0_0.aok hlt150)) rfl fun a hE => ?_
 refine qP hE (Gives.load1 hE rfl (fun w h => hat155 w _ h) ty9) rfl fun a hE => ?_
 refine qP hE (Gives.p hE rfl) rfl fun a hE => ?_
 refine qP hE (Gives.p hE rfl) rfl fun a hE => ?_
 refine QL.nil ?_; clear hS w; intro w hS
 refine W.seq (W.region (vP hS hE (Gives.fld hE rfl fl111_0) rfl fun a hE => ?_))
 refine vP hS hE (Gives.loadB hE 0 rfl rfl rfl ty3) rfl fun a hE => ?_
 obtain ⟨q156, hq157, hr⟩ := bindS hr
 refine WL.fnq hE (itoa_ok hS (TabS.mono (Sg.Le.refl _) hTab) hq157) (runs_plain rfl) bd72 rfl rfl rfl ?_
 clear hE hS; rintro e w ⟨rfl, hS⟩; refine ⟨_, rfl, ?_⟩; clear a; intro a hE
 obtain ⟨x158, hx159, hr⟩ := bindS hr
 refine vP hS hE (Gives.catS hE rfl rfl hx159) rfl fun a hE => ?_
 refine vp hS hE rfl rfl fun a hE => WL.nil ?_
 refine W.seq ?_
 refine W.seq (W.region (vP hS hE (Gives.fld hE rfl fl55_3) rfl fun a hE => ?_))
 refine vP hS hE (Gives.loadB hE 4 rfl rfl rfl ty3) rfl fun a hE => WL.nil ?_
 refine W.block ?_
 refine W.seq (W.region (v2 hS hE rfl rfl rfl rfl fun a hE => WL.nil ?_))
 refine W.cond hE rfl (fun hc160 => ?_) (fun hc160 => ?_)
 ·replace hr := iteT hc160 hr
  refine W.seq (W.region (vp hS hE rfl rfl fun a hE => ?_))
  obtain ⟨x161, hx162, hr⟩ := bindS hr
  refine vP hS hE (Gives.catS hE rfl rfl hx162) rfl fun a hE => ?_
  refine vp hS hE rfl rfl fun a hE => ?_
  obtain ⟨x163, hx164, hr⟩ := bindS hr
  refine vP hS hE (Gives.catS hE rfl rfl hx164) rfl fun a hE => ?_
  refine v2 hS hE rfl rfl rfl rfl fun a hE => WL.nil ?_
  refine W.ret ?_
  refine finG (fn := Tryz.f18) (rs := [.tmp 8, .tmp 9]) (vs := [_, _]) hE rfl ⟨rfl, rfl, trivial⟩ ?_
  obtain rfl := Option.some.inj hr
  replace hS := hS.tail
  replace hS := hS.tail
  replace hS := hS.tail
  replace hS := hS.tail
  replace hS := hS.tail
  replace hS := hS.tail
  exact ⟨rfl, hS⟩
 replace hr := iteF hc160 hr
 refine W.seq (W.region (v2 hS hE rfl rfl rfl rfl fun a hE => WL.nil ?_))
 refine W.cond hE rfl (fun hc165 => ?_) (fun hc165 => ?_)
 ·replace hr := iteT hc165 hr
  refine W.seq (W.region (vp hS hE rfl rfl fun a hE => ?_))
  obtain ⟨x166, hx167, hr⟩ := bindS hr
  refine vP hS hE (Gives.catS hE rfl rfl hx167) rfl fun a hE => ?_
  refine vp hS hE rfl rfl fun a hE => ?_
  obtain ⟨x168, hx169, hr⟩ := bindS hr
  refine vP hS hE (Gives.catS hE rfl rfl hx169) rfl fun a hE => ?_
  refine v2 hS hE rfl rfl rfl rfl fun a hE => WL.nil ?_
  refine W.ret ?_
  refine finG (fn := Tryz.f18) (rs := [.tmp 8, .tmp 9]) (vs := [_, _]) hE rfl ⟨rfl, rfl, trivial⟩ ?_
  obtain rfl := Option.some.inj hr
  replace hS := hS.tail
  replace hS := hS.tail
  replace hS := hS.tail
  replace hS := hS.tail
  replace hS := hS.tail
  replace hS := hS.tail
  exact ⟨rfl, hS⟩
 replace hr := iteF hc165 hr
 refine W.seq (W.region (v2 hS hE rfl rfl rfl rfl fun a hE => WL.nil ?_))
 refine W.cond hE rfl (fun hc170 => ?_) (fun hc170 => ?_)
 ·replace hr := iteT hc170 hr
  refine W.seq (W.region (vp hS hE rfl rfl fun a hE => ?_))
  obtain ⟨x171, hx172, hr⟩ := bindS hr
  refine vP hS hE (Gives.catS hE rfl rfl hx172) rfl fun a hE => ?_
  refine vp hS hE rfl rfl fun a hE => ?_
  obtain ⟨x173, hx174, hr⟩ := bindS hr
  refine vP hS hE (Gives.catS hE rfl rfl hx174) rfl fun a hE => ?_
  obtain ⟨x175, hx176, hr⟩ := bindS hr
  refine vP hS hE (Gives.catS hE rfl rfl hx176) rfl fun a hE => ?_
  refine vP hS hE (Gives.fld hE rfl fl55_4) rfl fun a hE => ?_
  refine vP hS hE (Gives.loadB hE 4 rfl rfl rfl ty3) rfl fun a hE => ?_
  obtain ⟨q177, hq178, hr⟩ := bindS hr
  have hc_ := Guideclock_ok hS (TabS.mono (Sg.Le.refl _) hTab) hq178
  refine WL.fnq hE (hc_) (runs_plain rfl) bd71 rfl rfl rfl ?_
  clear hE hS hc_; rintro e w ⟨rfl, hS⟩; refine ⟨_, rfl, ?_⟩; clear a; intro a hE
  obtain ⟨x179, hx180, hr⟩ := bindS hr
  refine vP hS hE (Gives.catS hE rfl rfl hx180) rfl fun a hE => ?_
  refine v2 hS hE rfl rfl rfl rfl fun a hE => WL.nil ?_
  refine W.ret ?_
  refine finG (fn := Tryz.f18) (rs := [.tmp 8, .tmp 9]) (vs := [_, _]) hE rfl ⟨rfl, rfl, trivial⟩ ?_
  obtain rfl := Option.some.inj hr
  replace hS := hS.tail
  replace hS := hS.tail
  replace hS := hS.tail
  replace hS := hS.tail
  replace hS := hS.tail
  replace hS := hS.tail
  exact ⟨rfl, hS⟩
 replace hr := iteF hc170 hr
 refine W.skip ?_
 refine W.seq (W.region (vp hS hE rfl rfl fun a hE => ?_))
 obtain ⟨x181, hx182, hr⟩ := bindS hr
 refine vP hS hE (Gives.catS hE rfl rfl hx182) rfl fun a hE => ?_
 refine vp hS hE rfl rfl fun a hE => ?_
 obtain ⟨x183, hx184, hr⟩ := bindS hr
 refine vP hS hE (Gives.catS hE rfl rfl hx184) rfl fun a hE => ?_
 obtain ⟨x185, hx186, hr⟩ := bindS hr
 refine vP hS hE (Gives.catS hE rfl rfl hx186) rfl fun a hE => ?_
 refine vP hS hE (Gives.fld hE rfl fl55_4) rfl fun a hE => ?_
 refine vP hS hE (Gives.loadB hE 4 rfl rfl rfl ty3) rfl fun a hE => ?_
 obtain ⟨q187, hq188, hr⟩ := bindS hr
 refine WL.fnq hE (itoa_ok hS (TabS.mono (Sg.Le.refl _) hTab) hq188) (runs_plain rfl) bd72 rfl rfl rfl ?_
 clear hE hS; rintro e w ⟨rfl, hS⟩; refine ⟨_, rfl, ?_⟩; clear a; intro a hE
 obtain ⟨x189, hx190, hr⟩ := bindS hr
 refine vP hS hE (Gives.catS hE rfl rfl hx190) rfl fun a hE => ?_
 refine v2 hS hE rfl rfl rfl rfl fun a hE => WL.nil ?_
 refine W.ret ?_
 refine finG (fn := Tryz.f18) (rs := [.tmp 8, .tmp 9]) (vs := [_, _]) hE rfl ⟨rfl, rfl, trivial⟩ ?_
 obtain rfl := Option.some.inj hr
 replace hS := hS.tail
 replace hS := hS.tail
 replace hS := hS.tail
 replace hS := hS.tail
 replace hS := hS.tail
 replace hS := hS.tail
 exact ⟨rfl, hS⟩
set_option maxHeartbeats 8000000 in
theorem Fishref1name_ok {fu : Nat}  {w : World} {s : Sg} {R : List HP} {x0 : ByteArray} (hS : St w s (R))  {r : Bool} (hr : Fishref1name fu x0 = some r) :
  Calls Tryz.prog 74 [.string x0].toArray w (fun e w => e = .returned (.bool r) ∧ St w s (R)) := by
 refine enter Tryz.func74 rfl rfl rfl fun a hE => ?_
 rw [Fishref1name] at hr
 refine W.seq (W.region (vp hS hE rfl rfl fun a hE => WL.nil ?_))
 refine W.seq ?_
 refine W.seq (W.region (vp hS hE rfl rfl fun a hE => WL.nil ?_))
 obtain ⟨q52, hq51, hr⟩ := bindS hr
 refine W.cut (fun a w => ∃ (q57 : Int), (.next q57) = q52 ∧ Rep a 28 [(0, .string x0)] ∧ St w s (R)) ?_ ?_
 ·refine W.block ?_
  refine W.loop (fun m a w => ∃ (n53 : Nat), ∃ (q57 : Int), n53 = m ∧ Fishref1name.loop1 x0 n53 q57 = some q52 ∧ Rep a 28 [(0, .string x0), (3, vi q57)] ∧ St w s (R)) (m := fu) ⟨fu, 0, rfl, hq51, hE.pick _ ⟨rfl, rfl, trivial⟩, hS⟩ ?_
  clear hE hS a w hq51; rintro m54 a w ⟨n53, q57, rfl, hq51, hE, hS⟩
  refine W.gen fun K58 hK58 => ?_
  rcases n53 with _ | n53
  ·rw [Fishref1name.loop1] at hq51; exact absurd hq51 (by simp)
  rw [Fishref1name.loop1] at hq51
  refine W.seq ?_
  refine W.seq (W.region (v2 hS hE rfl rfl rfl rfl fun a hE => ?_))
  refine vP hS hE (Gives.lenS hE rfl st9) rfl fun a hE => ?_
  refine vp hS hE rfl rfl fun a hE => WL.nil ?_
  refine W.cond hE rfl (fun hc59 => ?_) (fun hc59 => ?_)
  ·replace hq51 := iteT hc59 hq51
   refine W.skip ?_
   refine W.seq ?_
   refine W.block ?_
   refine W.seq ?_
   obtain ⟨q61, hq60, hq51⟩ := bindS hq51
   refine W.cut (fun a w => ∃ (q64 : Bool), q64 = q61 ∧ Rep a 28 [(0, .string x0), (3, vi q57), (19, .bool q64)] ∧ St w s (R)) ?_ ?_
   ·refine W.gen fun K65 hK65 => ?_
    refine W.region ?_
    refine v2 hS hE rfl rfl rfl rfl fun a hE => ?_
    obtain ⟨x66, hx67, hq60⟩ := bindS hq60
    refine vP hS hE (Gives.idxS hE st9 rfl rfl hx67) rfl fun a hE => ?_
    refine v2 hS hE rfl rfl rfl rfl fun a hE => ?_
    rcases Bool.eq_false_or_eq_true (decide (x66 < 97)) with hg68 | hg68
    ·replace hq60 := iteT hg68 hq60
     refine nO hE rfl rfl rfl (by rw [hg68]; decide) rfl fun a hE => ?_
     refine nO hE rfl rfl rfl (by rw [hg68]; decide) rfl fun a hE => ?_
     refine nO hE rfl rfl rfl (by rw [hg68]; decide) rfl fun a hE => ?_
     refine nO hE rfl rfl rfl (by rw [hg68]; decide) rfl fun a hE => ?_
     refine vP hS hE (Gives.pickT hE rfl hg68 rfl) rfl fun a hE => WL.nil ?_
     subst hK65
     exact ⟨true, Option.some.inj hq60, hE.pick _ ⟨rfl, rfl, rfl, trivial⟩, hS⟩
    replace hq60 := iteF hg68 hq60
    refine WL.vS hS hE (runs_if hE rfl rfl rfl hg68) (Gives.p hE rfl) rfl fun a hE => ?_
    refine WL.vS hS hE (runs_if hE rfl rfl rfl hg68) (Gives.p hE rfl) rfl fun a hE => ?_
    obtain ⟨x69, hx70, hq60⟩ := bindS hq60
    refine WL.vS hS hE (runs_if hE rfl rfl rfl hg68) (Gives.idxS hE st9 rfl rfl hx70) rfl fun a hE => ?_
    refine WL.vS hS hE (runs_if hE rfl rfl rfl hg68) (Gives.p hE rfl) rfl fun a hE => ?_
    refine vP hS hE (Gives.pickF hE rfl hg68 rfl) rfl fun a hE => WL.nil ?_
    subst hK65
    exact ⟨decide (x69 > 122), Option.some.inj hq60, hE.pick _ ⟨rfl, rfl, rfl, trivial⟩, hS⟩
   clear hE hS a w; rintro a w ⟨q64, rfl, hE, hS⟩
   refine W.cond hE rfl (fun hc71 => ?_) (fun hc71 => ?_)
   ·replace hq51 := iteT hc71 hq51
    refine W.seq (W.region (vp hS hE rfl rfl fun a hE => WL.nil ?_))
    refine W.ret ?_
    subst hK58
    rw [← Option.some.inj hq51] at hr
    dsimp only at hr
    refine finG (fn := Tryz.f74) (rs := [.tmp 2]) (vs := [_]) hE rfl ⟨rfl, trivial⟩ ?_
    obtain rfl := Option.some.inj hr
    exact ⟨rfl, hS⟩
   replace hq51 := iteF hc71 hq51
   refine W.skip ?_
   refine W.region ?_
   refine v2 hS hE rfl rfl rfl rfl fun a hE => ?_
   refine vp hS hE rfl rfl fun a hE => WL.nil ?_
   subst hK58
   exact ⟨n53, Nat.lt_succ_self _, n53, (w64 (q57 + 1)), rfl, hq51, hE.pick _ ⟨rfl, rfl, trivial⟩, hS⟩
  replace hq51 := iteF hc59 hq51
  subst hK58
  refine W.exit rfl ?_
  exact ⟨q57, Option.some.inj hq51, hE.pick _ ⟨rfl, trivial⟩, hS⟩
 clear hE hS a w; rintro a w ⟨q57, rfl, hE, hS⟩
 dsimp only at hr
 refine W.seq ?_
 obtain ⟨q73, hq72, hr⟩ := bndS hr
 refine W.cut (fun a w => ∃ (q76 : Bool), q76 = q73 ∧ Rep a 28 [(2, .bool q76)] ∧ St w s (R)) ?_ ?_
 ·refine W.gen fun K77 hK77 => ?_
  refine W.region ?_
  refine vp hS hE rfl rfl fun a hE => ?_
  refine vP hS hE (Gives.lenS hE rfl st9) rfl fun a hE => ?_
  refine v2 hS hE rfl rfl rfl rfl fun a hE => ?_
  rcases Bool.eq_false_or_eq_true (decide (((x0.size : Nat) : Int) ≥ 1)) with hg78 | hg78
  ·replace hq72 := iteT hg78 hq72
   refine WL.vS hS hE (runs_if hE rfl rfl rfl hg78) (Gives.p hE rfl) rfl fun a hE => ?_
   refine WL.vS hS hE (runs_if hE rfl rfl rfl hg78) (Gives.lenS hE rfl st9) rfl fun a hE => ?_
   refine WL.vS hS hE (runs_if hE rfl rfl rfl hg78) (Gives.p hE rfl) rfl fun a hE => ?_
   refine vP hS hE (Gives.pickT hE rfl hg78 rfl) rfl fun a hE => ?_
   refine vp hS hE rfl rfl fun a hE => WL.nil ?_
   subst hK77
   exact ⟨decide (((x0.size : Nat) : Int) ≤ 12), hq72, hE.pick _ ⟨rfl, trivial⟩, hS⟩
  replace hq72 := iteF hg78 hq72
  refine nO hE rfl rfl rfl (by rw [hg78]; decide) rfl fun a hE => ?_
  refine nO hE rfl rfl rfl (by rw [hg78]; decide) rfl fun a hE => ?_
  refine nO hE rfl rfl rfl (by rw [hg78]; decide) rfl fun a hE => ?_
  refine vP hS hE (Gives.pickF hE rfl hg78 rfl) rfl fun a hE => ?_
  refine vp hS hE rfl rfl fun a hE => WL.nil ?_
  subst hK77
  exact ⟨false, hq72, hE.pick _ ⟨rfl, trivial⟩, hS⟩
 clear hE hS a w; rintro a w ⟨q76, rfl, hE, hS⟩
 refine W.ret ?_
 refine finG (fn := Tryz.f74) (rs := [.tmp 2]) (vs := [_]) hE rfl ⟨rfl, trivial⟩ ?_
 obtain rfl := Option.some.inj hr
 exact ⟨rfl, hS⟩
set_option maxHeartbeats 8000000 in
theorem Fishref1checkSection_ok  {w : World} {s : Sg} {R : List HP} {x0 : ApiSection} {x1 : Int} (hS : St w s (R))  {r : Int} (hr : Fishref1checkSection x0 x1 = r) :
  Calls Tryz.prog 75 [.agg (ApiSection.cells x0).toArray, vi x1].toArray w (fun e w => e = .returned (vi r) ∧ St w s (R)) := by
 refine enter Tryz.func75 rfl rfl rfl fun a hE => ?_
 rw [Fishref1checkSection] at hr
 refine W.seq (W.region ?_)
 refine WL.box hE hS (runs_plain rfl) rfl rfl rfl ?_; clear hE hS a w; intro b51 a w hE hS
 refine vp hS hE rfl rfl fun a hE => WL.nil ?_
 refine W.seq ?_
 refine W.seq ?_
 obtain ⟨q53, hq52, hr⟩ := bndS hr
 refine W.cut (fun a w => ∃ (q56 : Bool), q56 = q53 ∧ Rep a 100 [(1, vi x1), (2, pp b51), (12, .bool q56)] ∧ St w s (pc b51 (ApiSection.cells x0).toArray 151 :: R)) ?_ ?_
 ·refine W.gen fun K57 hK57 => ?_
  refine W.region ?_
  refine vP hS hE (Gives.fld hE rfl fl151_0) rfl fun a hE => ?_
  refine vP hS hE (Gives.loadB hE 0 rfl rfl rfl ty3) rfl fun a hE => ?_
  refine v2 hS hE rfl rfl rfl rfl fun a hE => ?_
  rcases Bool.eq_false_or_eq_true (decide (x0.Kind < 1)) with hg58 | hg58
  ·replace hq52 := iteT hg58 hq52
   refine nO hE rfl rfl rfl (by rw [hg58]; decide) rfl fun a hE => ?_
   refine nO hE rfl rfl rfl (by rw [hg58]; decide) rfl fun a hE => ?_
   refine nO hE rfl rfl rfl (by rw [hg58]; decide) rfl fun a hE => ?_
   refine vP hS hE (Gives.pickT hE rfl hg58 rfl) rfl fun a hE => WL.nil ?_
   subst hK57
   exact ⟨true, hq52, hE.pick _ ⟨rfl, rfl, rfl, trivial⟩, hS⟩
  replace hq52 := iteF hg58 hq52
  refine WL.vS hS hE (runs_if hE rfl rfl rfl hg58) (Gives.fld hE rfl fl151_0) rfl fun a hE => ?_
  refine WL.vS hS hE (runs_if hE rfl rfl rfl hg58) (Gives.loadB hE 0 rfl rfl rfl ty3) rfl fun a hE => ?_
  refine WL.vS hS hE (runs_if hE rfl rfl rfl hg58) (Gives.p hE rfl) rfl fun a hE => ?_
  refine vP hS hE (Gives.pickF hE rfl hg58 rfl) rfl fun a hE => WL.nil ?_
  subst hK57
  exact ⟨decide (x0.Kind > 3), hq52, hE.pick _ ⟨rfl, rfl, rfl, trivial⟩, hS⟩
 clear hE hS a w; rintro a w ⟨q56, rfl, hE, hS⟩
 refine W.cond hE rfl (fun hc59 => ?_) (fun hc59 => ?_)
 ·replace hr := iteT hc59 hr
  refine W.seq (W.region (vp hS hE rfl rfl fun a hE => WL.nil ?_))
  refine W.ret ?_
  refine finG (fn := Tryz.f75) (rs := [.tmp 4]) (vs := [_]) hE rfl ⟨rfl, trivial⟩ ?_
  subst hr
  replace hS := hS.tail
  exact ⟨rfl, hS⟩
 replace hr := iteF hc59 hr
 refine W.skip ?_
 refine W.seq ?_
 refine W.seq ?_
 obtain ⟨q61, hq60, hr⟩ := bndS hr
 refine W.cut (fun a w => ∃ (q64 : Bool), q64 = q61 ∧ Rep a 100 [(1, vi x1), (2, pp b51), (40, .bool q64)] ∧ St w s (pc b51 (ApiSection.cells x0).toArray 151 :: R)) ?_ ?_
 ·refine W.gen fun K65 hK65 => ?_
  refine W.region ?_
  refine vP hS hE (Gives.fld hE rfl fl151_1) rfl fun a hE => ?_
  refine vP hS hE (Gives.loadB hE 0 rfl rfl rfl ty3) rfl fun a hE => ?_
  refine v2 hS hE rfl rfl rfl rfl fun a hE => ?_
  rcases Bool.eq_false_or_eq_true (decide (x0.Length < 10)) with hg66 | hg66
  ·replace hq60 := iteT hg66 hq60
   refine nO hE rfl rfl rfl (by rw [hg66]; decide) rfl fun a hE => ?_
   refine nO hE rfl rfl rfl (by rw [hg66]; decide) rfl fun a hE => ?_
   refine nO hE rfl rfl rfl (by rw [hg66]; decide) rfl fun a hE => ?_
   refine vP hS hE (Gives.pickT hE rfl hg66 rfl) rfl fun a hE => ?_
   refine vp hS hE rfl rfl fun a hE => ?_
   refine nO hE rfl rfl rfl (by decide) rfl fun a hE => ?_
   refine nO hE rfl rfl rfl (by decide) rfl fun a hE => ?_
   refine nO hE rfl rfl rfl (by decide) rfl fun a hE => ?_
   refine vP hS hE (Gives.pickT hE rfl rfl rfl) rfl fun a hE => ?_
   refine vp hS hE rfl rfl fun a hE => ?_
   refine nO hE rfl rfl rfl (by decide) rfl fun a hE => ?_
   refine nO hE rfl rfl rfl (by decide) rfl fun a hE => ?_
   refine nO hE rfl rfl rfl (by decide) rfl fun a hE => ?_
   refine vP hS hE (Gives.pickT hE rfl rfl rfl) rfl fun a hE => ?_
   refine vp hS hE rfl rfl fun a hE => ?_
   refine nO hE rfl rfl rfl (by decide) rfl fun a hE => ?_
   refine nO hE rfl rfl rfl (by decide) rfl fun a hE => ?_
   refine nO hE rfl rfl rfl (by decide) rfl fun a hE => ?_
   refine vP hS hE (Gives.pickT hE rfl rfl rfl) rfl fun a hE => ?_
   refine vp hS hE rfl rfl fun a hE => ?_
   refine nO hE rfl rfl rfl (by decide) rfl fun a hE => ?_
   refine nO hE rfl rfl rfl (by decide) rfl fun a hE => ?_
   refine nO hE rfl rfl rfl (by decide) rfl fun a hE => ?_
   refine vP hS hE (Gives.pickT hE rfl rfl rfl) rfl fun a hE => WL.nil ?_
   subst hK65
   exact ⟨true, hq60, hE.pick _ ⟨rfl, rfl, rfl, trivial⟩, hS⟩
  replace hq60 := iteF hg66 hq60
  refine WL.vS hS hE (runs_if hE rfl rfl rfl hg66) (Gives.fld hE rfl fl151_1) rfl fun a hE => ?_
  refine WL.vS hS hE (runs_if hE rfl rfl rfl hg66) (Gives.loadB hE 0 rfl rfl rfl ty3) rfl fun a hE => ?_
  refine WL.vS hS hE (runs_if hE rfl rfl rfl hg66) (Gives.p hE rfl) rfl fun a hE => ?_
  refine vP hS hE (Gives.pickF hE rfl hg66 rfl) rfl fun a hE => ?_
  refine vp hS hE rfl rfl fun a hE => ?_
  rcases Bool.eq_false_or_eq_true (decide (x0.Length > 3000)) with hg67 | hg67
  ·replace hq60 := iteT hg67 hq60
   refine nO hE rfl rfl rfl (by rw [hg67]; decide) rfl fun a hE => ?_
   refine nO hE rfl rfl rfl (by rw [hg67]; decide) rfl fun a hE => ?_
   refine nO hE rfl rfl rfl (by rw [hg67]; decide) rfl fun a hE => ?_
   refine vP hS hE (Gives.pickT hE rfl hg67 rfl) rfl fun a hE => ?_
   refine vp hS hE rfl rfl fun a hE => ?_
   refine nO hE rfl rfl rfl (by decide) rfl fun a hE => ?_
   refine nO hE rfl rfl rfl (by decide) rfl fun a hE => ?_
   refine nO hE rfl rfl rfl (by decide) rfl fun a hE => ?_
   refine vP hS hE (Gives.pickT hE rfl rfl rfl) rfl fun a hE => ?_
   refine vp hS hE rfl rfl fun a hE => ?_
   refine nO hE rfl rfl rfl (by decide) rfl fun a hE => ?_
   refine nO hE rfl rfl rfl (by decide) rfl fun a hE => ?_
   refine nO hE rfl rfl rfl (by decide) rfl fun a hE => ?_
   refine vP hS hE (Gives.pickT hE rfl rfl rfl) rfl fun a hE => ?_
   refine vp hS hE rfl rfl fun a hE => ?_
   refine nO hE rfl rfl rfl (by decide) rfl fun a hE => ?_
   refine nO hE rfl rfl rfl (by decide) rfl fun a hE => ?_
   refine nO hE rfl rfl rfl (by decide) rfl fun a hE => ?_
   refine vP hS hE (Gives.pickT hE rfl rfl rfl) rfl fun a hE => WL.nil ?_
   subst hK65
   exact ⟨true, hq60, hE.pick _ ⟨rfl, rfl, rfl, trivial⟩, hS⟩
  replace hq60 := iteF hg67 hq60
  refine WL.vS hS hE (runs_if hE rfl rfl rfl hg67) (Gives.fld hE rfl fl151_2) rfl fun a hE => ?_
  refine WL.vS hS hE (runs_if hE rfl rfl rfl hg67) (Gives.loadB hE 0 rfl rfl rfl ty3) rfl fun a hE => ?_
  refine WL.vS hS hE (runs_if hE rfl rfl rfl hg67) (Gives.p hE rfl) rfl fun a hE => ?_
  refine vP hS hE (Gives.pickF hE rfl hg67 rfl) rfl fun a hE => ?_
  refine vp hS hE rfl rfl fun a hE => ?_
  rcases Bool.eq_false_or_eq_true (decide (x0.Grade < (-40))) with hg68 | hg68
  ·replace hq60 := iteT hg68 hq60
   refine nO hE rfl rfl rfl (by rw [hg68]; decide) rfl fun a hE => ?_
   refine nO hE rfl rfl rfl (by rw [hg68]; decide) rfl fun a hE => ?_
   refine nO hE rfl rfl rfl (by rw [hg68]; decide) rfl fun a hE => ?_
   refine vP hS hE (Gives.pickT hE rfl hg68 rfl) rfl fun a hE => ?_
   refine vp hS hE rfl rfl fun a hE => ?_
   refine nO hE rfl rfl rfl (by decide) rfl fun a hE => ?_
   refine nO hE rfl rfl rfl (by decide) rfl fun a hE => ?_
   refine nO hE rfl rfl rfl (by decide) rfl fun a hE => ?_
   refine vP hS hE (Gives.pickT hE rfl rfl rfl) rfl fun a hE => ?_
   refine vp hS hE rfl rfl fun a hE => ?_
   refine nO hE rfl rfl rfl (by decide) rfl fun a hE => ?_
   refine nO hE rfl rfl rfl (by decide) rfl fun a hE => ?_
   refine nO hE rfl rfl rfl (by decide) rfl fun a hE => ?_
   refine vP hS hE (Gives.pickT hE rfl rfl rfl) rfl fun a hE => WL.nil ?_
   subst hK65
   exact ⟨true, hq60, hE.pick _ ⟨rfl, rfl, rfl, trivial⟩, hS⟩
  replace hq60 := iteF hg68 hq60
  refine WL.vS hS hE (runs_if hE rfl rfl rfl hg68) (Gives.fld hE rfl fl151_2) rfl fun a hE => ?_
  refine WL.vS hS hE (runs_if hE rfl rfl rfl hg68) (Gives.loadB hE 0 rfl rfl rfl ty3) rfl fun a hE => ?_
  refine WL.vS hS hE (runs_if hE rfl rfl rfl hg68) (Gives.p hE rfl) rfl fun a hE => ?_
  refine vP hS hE (Gives.pickF hE rfl hg68 rfl) rfl fun a hE => ?_
  refine vp hS hE rfl rfl fun a hE => ?_
  rcases Bool.eq_false_or_eq_true (decide (x0.Grade > 40)) with hg69 | hg69
  ·replace hq60 := iteT hg69 hq60
   refine nO hE rfl rfl rfl (by rw [hg69]; decide) rfl fun a hE => ?_
   refine nO hE rfl rfl rfl (by rw [hg69]; decide) rfl fun a hE => ?_
   refine nO hE rfl rfl rfl (by rw [hg69]; decide) rfl fun a hE => ?_
   refine vP hS hE (Gives.pickT hE rfl hg69 rfl) rfl fun a hE => ?_
   refine vp hS hE rfl rfl fun a hE => ?_
   refine nO hE rfl rfl rfl (by decide) rfl fun a hE => ?_
   refine nO hE rfl rfl rfl (by decide) rfl fun a hE => ?_
   refine nO hE rfl rfl rfl (by decide) rfl fun a hE => ?_
   refine vP hS hE (Gives.pickT hE rfl rfl rfl) rfl fun a hE => WL.nil ?_
   subst hK65
   exact ⟨true, hq60, hE.pick _ ⟨rfl, rfl, rfl, trivial⟩, hS⟩
  replace hq60 := iteF hg69 hq60
  refine WL.vS hS hE (runs_if hE rfl rfl rfl hg69) (Gives.fld hE rfl fl151_3) rfl fun a hE => ?_
  refine WL.vS hS hE (runs_if hE rfl rfl rfl hg69) (Gives.loadB hE 0 rfl rfl rfl ty3) rfl fun a hE => ?_
  refine WL.vS hS hE (runs_if hE rfl rfl rfl hg69) (Gives.p hE rfl) rfl fun a hE => ?_
  refine vP hS hE (Gives.pickF hE rfl hg69 rfl) rfl fun a hE => ?_
  refine vp hS hE rfl rfl fun a hE => ?_
  rcases Bool.eq_false_or_eq_true (decide (x0.Speed < 300)) with hg70 | hg70
  ·replace hq60 := iteT hg70 hq60
   refine nO hE rfl rfl rfl (by rw [hg70]; decide) rfl fun a hE => ?_
   refine nO hE rfl rfl rfl (by rw [hg70]; decide) rfl fun a hE => ?_
   refine nO hE rfl rfl rfl (by rw [hg70]; decide) rfl fun a hE => ?_
   refine vP hS hE (Gives.pickT hE rfl hg70 rfl) rfl fun a hE => WL.nil ?_
   subst hK65
   exact ⟨true, hq60, hE.pick _ ⟨rfl, rfl, rfl, trivial⟩, hS⟩
  replace hq60 := iteF hg70 hq60
  refine WL.vS hS hE (runs_if hE rfl rfl rfl hg70) (Gives.fld hE rfl fl151_3) rfl fun a hE => ?_
  refine WL.vS hS hE (runs_if hE rfl rfl rfl hg70) (Gives.loadB hE 0 rfl rfl rfl ty3) rfl fun a hE => ?_
  refine WL.vS hS hE (runs_if hE rfl rfl rfl hg70) (Gives.p hE rfl) rfl fun a hE => ?_
  refine vP hS hE (Gives.pickF hE rfl hg70 rfl) rfl fun a hE => WL.nil ?_
  subst hK65
  exact ⟨decide (x0.Speed > 6000), hq60, hE.pick _ ⟨rfl, rfl, rfl, trivial⟩, hS⟩
 clear hE hS a w; rintro a w ⟨q64, rfl, hE, hS⟩
 refine W.cond hE rfl (fun hc71 => ?_) (fun hc71 => ?_)
 ·replace hr := iteT hc71 hr
  refine W.seq (W.region (vp hS hE rfl rfl fun a hE => WL.nil ?_))
  refine W.ret ?_
  refine finG (fn := Tryz.f75) (rs := [.tmp 4]) (vs := [_]) hE rfl ⟨rfl, trivial⟩ ?_
  subst hr
  replace hS := hS.tail
  exact ⟨rfl, hS⟩
 replace hr := iteF hc71 hr
 refine W.skip ?_
 refine W.seq ?_
 refine W.seq ?_
 obtain ⟨q73, hq72, hr⟩ := bndS hr
 refine W.cut (fun a w => ∃ (q76 : Bool), q76 = q73 ∧ Rep a 100 [(2, pp b51), (71, .bool q76)] ∧ St w s (pc b51 (ApiSection.cells x0).toArray 151 :: R)) ?_ ?_
 ·refine W.gen fun K77 hK77 => ?_
  refine W.region ?_
  refine vP hS hE (Gives.fld hE rfl fl151_0) rfl fun a hE => ?_
  refine vP hS hE (Gives.loadB hE 0 rfl rfl rfl ty3) rfl fun a hE => ?_
  refine v2 hS hE rfl rfl rfl rfl fun a hE => ?_
  rcases Bool.eq_false_or_eq_true (x0.Kind == 2) with hg78 | hg78
  ·replace hq72 := iteT hg78 hq72
   refine WL.vS hS hE (runs_if hE rfl rfl rfl hg78) (Gives.fld hE rfl fl151_4) rfl fun a hE => ?_
   refine WL.vS hS hE (runs_if hE rfl rfl rfl hg78) (Gives.loadB hE 0 rfl rfl rfl ty3) rfl fun a hE => ?_
   refine WL.vS hS hE (runs_if hE rfl rfl rfl hg78) (Gives.p hE rfl) rfl fun a hE => ?_
   refine WL.vS hS hE (runs_if hE rfl rfl rfl hg78) (Gives.p hE rfl) rfl fun a hE => ?_
   rcases Bool.eq_false_or_eq_true (decide (x0.Slow < 300)) with hg79 | hg79
   ·replace hq72 := iteT hg79 hq72
    refine nO hE rfl rfl rfl (by rw [hg79]; decide) rfl fun a hE => ?_
    refine nO hE rfl rfl rfl (by rw [hg79]; decide) rfl fun a hE => ?_
    refine nO hE rfl rfl rfl (by rw [hg79]; decide) rfl fun a hE => ?_
    refine nO hE rfl rfl rfl (by rw [hg79]; decide) rfl fun a hE => ?_
    refine nO hE rfl rfl rfl (by rw [hg79]; decide) rfl fun a hE => ?_
    refine WL.vS hS hE (runs_if hE rfl rfl rfl hg78) (Gives.pickT hE rfl hg79 rfl) rfl fun a hE => ?_
    refine vP hS hE (Gives.pickT hE rfl hg78 rfl) rfl fun a hE => ?_
    refine vp hS hE rfl rfl fun a hE => ?_
    refine nO hE rfl rfl rfl (by decide) rfl fun a hE => ?_
    refine nO hE rfl rfl rfl (by decide) rfl fun a hE => ?_
    refine nO hE rfl rfl rfl (by decide) rfl fun a hE => ?_
    refine nO hE rfl rfl rfl (by decide) rfl fun a hE => ?_
    refine WL.no hE (runs_undef hE rfl rfl rfl) rfl fun a hE => ?_
    refine WL.no hE (runs_undef hE rfl rfl rfl) rfl fun a hE => ?_
    refine WL.no hE (runs_undef hE rfl rfl rfl) rfl fun a hE => ?_
    refine WL.no hE (runs_undef hE rfl rfl rfl) rfl fun a hE => ?_
    refine WL.no hE (runs_undef hE rfl rfl rfl) rfl fun a hE => ?_
    refine WL.no hE (runs_undef hE rfl rfl rfl) rfl fun a hE => ?_
    refine WL.no hE (runs_undef hE rfl rfl rfl) rfl fun a hE => ?_
    refine WL.no hE (runs_undef hE rfl rfl rfl) rfl fun a hE => ?_
    refine WL.no hE (runs_undef hE rfl rfl rfl) rfl fun a hE => ?_
    refine nO hE rfl rfl rfl (by decide) rfl fun a hE => ?_
    refine vP hS hE (Gives.pickT hE rfl rfl rfl) rfl fun a hE => WL.nil ?_
    subst hK77
    exact ⟨true, hq72, hE.pick _ ⟨rfl, rfl, trivial⟩, hS⟩
   replace hq72 := iteF hg79 hq72
   refine WL.vS hS hE (runs_if hE rfl rfl rfl hg79) (Gives.fld hE rfl fl151_4) rfl fun a hE => ?_
   refine WL.vS hS hE (runs_if hE rfl rfl rfl hg79) (Gives.loadB hE 0 rfl rfl rfl ty3) rfl fun a hE => ?_
   refine WL.vS hS hE (runs_if hE rfl rfl rfl hg79) (Gives.fld hE rfl fl151_3) rfl fun a hE => ?_
   refine WL.vS hS hE (runs_if hE rfl rfl rfl hg79) (Gives.loadB hE 0 rfl rfl rfl ty3) rfl fun a hE => ?_
   refine WL.vS hS hE (runs_if hE rfl rfl rfl hg79) (Gives.p hE rfl) rfl fun a hE => ?_
   refine WL.vS hS hE (runs_if hE rfl rfl rfl hg78) (Gives.pickF hE rfl hg79 rfl) rfl fun a hE => ?_
   refine vP hS hE (Gives.pickT hE rfl hg78 rfl) rfl fun a hE => ?_
   refine vp hS hE rfl rfl fun a hE => ?_
   rcases Bool.eq_false_or_eq_true (decide (x0.Slow > x0.Speed)) with hg80 | hg80
   ·replace hq72 := iteT hg80 hq72
    refine nO hE rfl rfl rfl (by rw [hg80]; decide) rfl fun a hE => ?_
    refine nO hE rfl rfl rfl (by rw [hg80]; decide) rfl fun a hE => ?_
    refine nO hE rfl rfl rfl (by rw [hg80]; decide) rfl fun a hE => ?_
    refine nO hE rfl rfl rfl (by rw [hg80]; decide) rfl fun a hE => ?_
    refine WL.no hE (runs_undef hE rfl rfl rfl) rfl fun a hE => ?_
    refine WL.no hE (runs_undef hE rfl rfl rfl) rfl fun a hE => ?_
    refine WL.no hE (runs_undef hE rfl rfl rfl) rfl fun a hE => ?_
    refine WL.no hE (runs_undef hE rfl rfl rfl) rfl fun a hE => ?_
    refine WL.no hE (runs_undef hE rfl rfl rfl) rfl fun a hE => ?_
    refine WL.no hE (runs_undef hE rfl rfl rfl) rfl fun a hE => ?_
    refine WL.no hE (runs_undef hE rfl rfl rfl) rfl fun a hE => ?_
    refine WL.no hE (runs_undef hE rfl rfl rfl) rfl fun a hE => ?_
    refine WL.no hE (runs_undef hE rfl rfl rfl) rfl fun a hE => ?_
    refine nO hE rfl rfl rfl (by rw [hg80]; decide) rfl fun a hE => ?_
    refine vP hS hE (Gives.pickT hE rfl hg80 rfl) rfl fun a hE => WL.nil ?_
    subst hK77
    exact ⟨true, hq72, hE.pick _ ⟨rfl, rfl, trivial⟩, hS⟩
   replace hq72 := iteF hg80 hq72
   refine WL.vS hS hE (runs_if hE rfl rfl rfl hg80) (Gives.fld hE rfl fl151_0) rfl fun a hE => ?_
   refine WL.vS hS hE (runs_if hE rfl rfl rfl hg80) (Gives.loadB hE 0 rfl rfl rfl ty3) rfl fun a hE => ?_
   refine WL.vS hS hE (runs_if hE rfl rfl rfl hg80) (Gives.p hE rfl) rfl fun a hE => ?_
   refine WL.vS hS hE (runs_if hE rfl rfl rfl hg80) (Gives.p hE rfl) rfl fun a hE => ?_
   rcases Bool.eq_false_or_eq_true (x0.Kind == 1) with hg81 | hg81
   ·replace hq72 := iteT hg81 hq72
    refine WL.vS hS hE (runs_if hE rfl rfl rfl hg81) (Gives.fld hE rfl fl151_5) rfl fun a hE => ?_
    refine WL.vS hS hE (runs_if hE rfl rfl rfl hg81) (Gives.loadB hE 0 rfl rfl rfl ty3) rfl fun a hE => ?_
    refine WL.vS hS hE (runs_if hE rfl rfl rfl hg81) (Gives.p hE rfl) rfl fun a hE => ?_
    refine WL.vS hS hE (runs_if hE rfl rfl rfl hg81) (Gives.p hE rfl) rfl fun a hE => ?_
    rcases Bool.eq_false_or_eq_true (decide (x0.Station < 0)) with hg82 | hg82
    ·replace hq72 := iteT hg82 hq72
     refine nO hE rfl rfl rfl (by rw [hg82]; decide) rfl fun a hE => ?_
     refine nO hE rfl rfl rfl (by rw [hg82]; decide) rfl fun a hE => ?_
     refine nO hE rfl rfl rfl (by rw [hg82]; decide) rfl fun a hE => ?_
     refine nO hE rfl rfl rfl (by rw [hg82]; decide) rfl fun a hE => ?_
     refine WL.vS hS hE (runs_if hE rfl rfl rfl hg81) (Gives.pickT hE rfl hg82 rfl) rfl fun a hE => ?_
     refine WL.vS hS hE (runs_if hE rfl rfl rfl hg80) (Gives.pickT hE rfl hg81 rfl) rfl fun a hE => ?_
     refine vP hS hE (Gives.pickF hE rfl hg80 rfl) rfl fun a hE => WL.nil ?_
     subst hK77
     exact ⟨true, hq72, hE.pick _ ⟨rfl, rfl, trivial⟩, hS⟩
    replace hq72 := iteF hg82 hq72
    refine WL.vS hS hE (runs_if hE rfl rfl rfl hg82) (Gives.fld hE rfl fl151_5) rfl fun a hE => ?_
    refine WL.vS hS hE (runs_if hE rfl rfl rfl hg82) (Gives.loadB hE 0 rfl rfl rfl ty3) rfl fun a hE => ?_
    refine WL.vS hS hE (runs_if hE rfl rfl rfl hg82) (Gives.p hE rfl) rfl fun a hE => ?_
    refine WL.vS hS hE (runs_if hE rfl rfl rfl hg82) (Gives.p hE rfl) rfl fun a hE => ?_
    refine WL.vS hS hE (runs_if hE rfl rfl rfl hg81) (Gives.pickF hE rfl hg82 rfl) rfl fun a hE => ?_
    refine WL.vS hS hE (runs_if hE rfl rfl rfl hg80) (Gives.pickT hE rfl hg81 rfl) rfl fun a hE => ?_
    refine vP hS hE (Gives.pickF hE rfl hg80 rfl) rfl fun a hE => WL.nil ?_
    subst hK77
    exact ⟨decide (x0.Station > x1), hq72, hE.pick _ ⟨rfl, rfl, trivial⟩, hS⟩
   replace hq72 := iteF hg81 hq72
   refine nO hE rfl rfl rfl (by rw [hg81]; decide) rfl fun a hE => ?_
   refine nO hE rfl rfl rfl (by rw [hg81]; decide) rfl fun a hE => ?_
   refine nO hE rfl rfl rfl (by rw [hg81]; decide) rfl fun a hE => ?_
   refine nO hE rfl rfl rfl (by rw [hg81]; decide) rfl fun a hE => ?_
   refine WL.no hE (runs_undef hE rfl rfl rfl) rfl fun a hE => ?_
   refine WL.no hE (runs_undef hE rfl rfl rfl) rfl fun a hE => ?_
   refine WL.no hE (runs_undef hE rfl rfl rfl) rfl fun a hE => ?_
   refine WL.no hE (runs_undef hE rfl rfl rfl) rfl fun a hE => ?_
   refine nO hE rfl rfl rfl (by rw [hg81]; decide) rfl fun a hE => ?_
   refine WL.vS hS hE (runs_if hE rfl rfl rfl hg80) (Gives.pickF hE rfl hg81 rfl) rfl fun a hE => ?_
   refine vP hS hE (Gives.pickF hE rfl hg80 rfl) rfl fun a hE => WL.nil ?_
   subst hK77
   exact ⟨false, hq72, hE.pick _ ⟨rfl, rfl, trivial⟩, hS⟩
  replace hq72 := iteF hg78 hq72
  refine nO hE rfl rfl rfl (by rw [hg78]; decide) rfl fun a hE => ?_
  refine nO hE rfl rfl rfl (by rw [hg78]; decide) rfl fun a hE => ?_
  refine nO hE rfl rfl rfl (by rw [hg78]; decide) rfl fun a hE => ?_
  refine nO hE rfl rfl rfl (by rw [hg78]; decide) rfl fun a hE => ?_
  refine WL.no hE (runs_undef hE rfl rfl rfl) rfl fun a hE => ?_
  refine WL.no hE (runs_undef hE rfl rfl rfl) rfl fun a hE => ?_
  refine WL.no hE (runs_undef hE rfl rfl rfl) rfl fun a hE => ?_
  refine WL.no hE (runs_undef hE rfl rfl rfl) rfl fun a hE => ?_
  refine WL.no hE (runs_undef hE rfl rfl rfl) rfl fun a hE => ?_
  refine nO hE rfl rfl rfl (by rw [hg78]; decide) rfl fun a hE => ?_
  refine vP hS hE (Gives.pickF hE rfl hg78 rfl) rfl fun a hE => ?_
  refine vp hS hE rfl rfl fun a hE => ?_
  refine WL.vS hS hE (runs_if hE rfl rfl rfl rfl) (Gives.fld hE rfl fl151_0) rfl fun a hE => ?_
  refine WL.vS hS hE (runs_if hE rfl rfl rfl rfl) (Gives.loadB hE 0 rfl rfl rfl ty3) rfl fun a hE => ?_
  refine WL.vS hS hE (runs_if hE rfl rfl rfl rfl) (Gives.p hE rfl) rfl fun a hE => ?_
  refine WL.vS hS hE (runs_if hE rfl rfl rfl rfl) (Gives.p hE rfl) rfl fun a hE => ?_
  rcases Bool.eq_false_or_eq_true (x0.Kind == 1) with hg83 | hg83
  ·replace hq72 := iteT hg83 hq72
   refine WL.vS hS hE (runs_if hE rfl rfl rfl hg83) (Gives.fld hE rfl fl151_5) rfl fun a hE => ?_
   refine WL.vS hS hE (runs_if hE rfl rfl rfl hg83) (Gives.loadB hE 0 rfl rfl rfl ty3) rfl fun a hE => ?_
   refine WL.vS hS hE (runs_if hE rfl rfl rfl hg83) (Gives.p hE rfl) rfl fun a hE => ?_
   refine WL.vS hS hE (runs_if hE rfl rfl rfl hg83) (Gives.p hE rfl) rfl fun a hE => ?_
   rcases Bool.eq_false_or_eq_true (decide (x0.Station < 0)) with hg84 | hg84
   ·replace hq72 := iteT hg84 hq72
    refine nO hE rfl rfl rfl (by rw [hg84]; decide) rfl fun a hE => ?_
    refine nO hE rfl rfl rfl (by rw [hg84]; decide) rfl fun a hE => ?_
    refine nO hE rfl rfl rfl (by rw [hg84]; decide) rfl fun a hE => ?_
    refine nO hE rfl rfl rfl (by rw [hg84]; decide) rfl fun a hE => ?_
    refine WL.vS hS hE (runs_if hE rfl rfl rfl hg83) (Gives.pickT hE rfl hg84 rfl) rfl fun a hE => ?_
    refine WL.vS hS hE (runs_if hE rfl rfl rfl rfl) (Gives.pickT hE rfl hg83 rfl) rfl fun a hE => ?_
    refine vP hS hE (Gives.pickF hE rfl rfl rfl) rfl fun a hE => WL.nil ?_
    subst hK77
    exact ⟨true, hq72, hE.pick _ ⟨rfl, rfl, trivial⟩, hS⟩
   replace hq72 := iteF hg84 hq72
   refine WL.vS hS hE (runs_if hE rfl rfl rfl hg84) (Gives.fld hE rfl fl151_5) rfl fun a hE => ?_
   refine WL.vS hS hE (runs_if hE rfl rfl rfl hg84) (Gives.loadB hE 0 rfl rfl rfl ty3) rfl fun a hE => ?_
   refine WL.vS hS hE (runs_if hE rfl rfl rfl hg84) (Gives.p hE rfl) rfl fun a hE => ?_
   refine WL.vS hS hE (runs_if hE rfl rfl rfl hg84) (Gives.p hE rfl) rfl fun a hE => ?_
   refine WL.vS hS hE (runs_if hE rfl rfl rfl hg83) (Gives.pickF hE rfl hg84 rfl) rfl fun a hE => ?_
   refine WL.vS hS hE (runs_if hE rfl rfl rfl rfl) (Gives.pickT hE rfl hg83 rfl) rfl fun a hE => ?_
   refine vP hS hE (Gives.pickF hE rfl rfl rfl) rfl fun a hE => WL.nil ?_
   subst hK77
   exact ⟨decide (x0.Station > x1), hq72, hE.pick _ ⟨rfl, rfl, trivial⟩, hS⟩
  replace hq72 := iteF hg83 hq72
  refine nO hE rfl rfl rfl (by rw [hg83]; decide) rfl fun a hE => ?_
  refine nO hE rfl rfl rfl (by rw [hg83]; decide) rfl fun a hE => ?_
  refine nO hE rfl rfl rfl (by rw [hg83]; decide) rfl fun a hE => ?_
  refine nO hE rfl rfl rfl (by rw [hg83]; decide) rfl fun a hE => ?_
  refine WL.no hE (runs_undef hE rfl rfl rfl) rfl fun a hE => ?_
  refine WL.no hE (runs_undef hE rfl rfl rfl) rfl fun a hE => ?_
  refine WL.no hE (runs_undef hE rfl rfl rfl) rfl fun a hE => ?_
  refine WL.no hE (runs_undef hE rfl rfl rfl) rfl fun a hE => ?_
  refine nO hE rfl rfl rfl (by rw [hg83]; decide) rfl fun a hE => ?_
  refine WL.vS hS hE (runs_if hE rfl rfl rfl rfl) (Gives.pickF hE rfl hg83 rfl) rfl fun a hE => ?_
  refine vP hS hE (Gives.pickF hE rfl rfl rfl) rfl fun a hE => WL.nil ?_
  subst hK77
  exact ⟨false, hq72, hE.pick _ ⟨rfl, rfl, trivial⟩, hS⟩
 clear hE hS a w; rintro a w ⟨q76, rfl, hE, hS⟩
 refine W.cond hE rfl (fun hc85 => ?_) (fun hc85 => ?_)
 ·replace hr := iteT hc85 hr
  refine W.seq (W.region (vp hS hE rfl rfl fun a hE => WL.nil ?_))
  refine W.ret ?_
  refine finG (fn := Tryz.f75) (rs := [.tmp 4]) (vs := [_]) hE rfl ⟨rfl, trivial⟩ ?_
  subst hr
  replace hS := hS.tail
  exact ⟨rfl, hS⟩
 replace hr := iteF hc85 hr
 refine W.skip ?_
 refine W.seq ?_
 refine W.seq ?_
 obtain ⟨q87, hq86, hr⟩ := bndS hr
 refine W.cut (fun a w => ∃ (q90 : Bool), q90 = q87 ∧ Rep a 100 [(99, .bool q90)] ∧ St w s (pc b51 (ApiSection.cells x0).toArray 151 :: R)) ?_ ?_
 ·refine W.gen fun K91 hK91 => ?_
  refine W.region ?_
  refine vP hS hE (Gives.fld hE rfl fl151_0) rfl fun a hE => ?_
  refine vP hS hE (Gives.loadB hE 0 rfl rfl rfl ty3) rfl fun a hE => ?_
  refine v2 hS hE rfl rfl rfl rfl fun a hE => ?_
  rcases Bool.eq_false_or_eq_true (x0.Kind != 2) with hg92 | hg92
  ·replace hq86 := iteT hg92 hq86
   refine WL.vS hS hE (runs_if hE rfl rfl rfl hg92) (Gives.fld hE rfl fl151_4) rfl fun a hE => ?_
   refine WL.vS hS hE (runs_if hE rfl rfl rfl hg92) (Gives.loadB hE 0 rfl rfl rfl ty3) rfl fun a hE => ?_
   refine WL.vS hS hE (runs_if hE rfl rfl rfl hg92) (Gives.p hE rfl) rfl fun a hE => ?_
   refine vP hS hE (Gives.pickT hE rfl hg92 rfl) rfl fun a hE => ?_
   refine vp hS hE rfl rfl fun a hE => ?_
   rcases Bool.eq_false_or_eq_true (x0.Slow != 0) with hg93 | hg93
   ·replace hq86 := iteT hg93 hq86
    refine nO hE rfl rfl rfl (by rw [hg93]; decide) rfl fun a hE => ?_
    refine nO hE rfl rfl rfl (by rw [hg93]; decide) rfl fun a hE => ?_
    refine nO hE rfl rfl rfl (by rw [hg93]; decide) rfl fun a hE => ?_
    refine nO hE rfl rfl rfl (by rw [hg93]; decide) rfl fun a hE => ?_
    refine WL.no hE (runs_undef hE rfl rfl rfl) rfl fun a hE => ?_
    refine WL.no hE (runs_undef hE rfl rfl rfl) rfl fun a hE => ?_
    refine WL.no hE (runs_undef hE rfl rfl rfl) rfl fun a hE => ?_
    refine nO hE rfl rfl rfl (by rw [hg93]; decide) rfl fun a hE => ?_
    refine vP hS hE (Gives.pickT hE rfl hg93 rfl) rfl fun a hE => ?_
    refine vp hS hE rfl rfl fun a hE => ?_
    refine nO hE rfl rfl rfl (by decide) rfl fun a hE => ?_
    refine nO hE rfl rfl rfl (by decide) rfl fun a hE => ?_
    refine nO hE rfl rfl rfl (by decide) rfl fun a hE => ?_
    refine nO hE rfl rfl rfl (by decide) rfl fun a hE => ?_
    refine WL.no hE (runs_undef hE rfl rfl rfl) rfl fun a hE => ?_
    refine WL.no hE (runs_undef hE rfl rfl rfl) rfl fun a hE => ?_
    refine WL.no hE (runs_undef hE rfl rfl rfl) rfl fun a hE => ?_
    refine nO hE rfl rfl rfl (by decide) rfl fun a hE => ?_
    refine vP hS hE (Gives.pickT hE rfl rfl rfl) rfl fun a hE => WL.nil ?_
    subst hK91
    exact ⟨true, hq86, hE.pick _ ⟨rfl, trivial⟩, hS⟩
   replace hq86 := iteF hg93 hq86
   refine WL.vS hS hE (runs_if hE rfl rfl rfl hg93) (Gives.fld hE rfl fl151_0) rfl fun a hE => ?_
   refine WL.vS hS hE (runs_if hE rfl rfl rfl hg93) (Gives.loadB hE 0 rfl rfl rfl ty3) rfl fun a hE => ?_
   refine WL.vS hS hE (runs_if hE rfl rfl rfl hg93) (Gives.p hE rfl) rfl fun a hE => ?_
   refine WL.vS hS hE (runs_if hE rfl rfl rfl hg93) (Gives.p hE rfl) rfl fun a hE => ?_
   rcases Bool.eq_false_or_eq_true (x0.Kind != 1) with hg94 | hg94
   ·replace hq86 := iteT hg94 hq86
    refine WL.vS hS hE (runs_if hE rfl rfl rfl hg94) (Gives.fld hE rfl fl151_5) rfl fun a hE => ?_
    refine WL.vS hS hE (runs_if hE rfl rfl rfl hg94) (Gives.loadB hE 0 rfl rfl rfl ty3) rfl fun a hE => ?_
    refine WL.vS hS hE (runs_if hE rfl rfl rfl hg94) (Gives.p hE rfl) rfl fun a hE => ?_
    refine WL.vS hS hE (runs_if hE rfl rfl rfl hg93) (Gives.pickT hE rfl hg94 rfl) rfl fun a hE => ?_
    refine vP hS hE (Gives.pickF hE rfl hg93 rfl) rfl fun a hE => ?_
    refine vp hS hE rfl rfl fun a hE => ?_
    rcases Bool.eq_false_or_eq_true (x0.Station != 0) with hg95 | hg95
    ·replace hq86 := iteT hg95 hq86
     refine nO hE rfl rfl rfl (by rw [hg95]; decide) rfl fun a hE => ?_
     refine nO hE rfl rfl rfl (by rw [hg95]; decide) rfl fun a hE => ?_
     refine nO hE rfl rfl rfl (by rw [hg95]; decide) rfl fun a hE => ?_
     refine nO hE rfl rfl rfl (by rw [hg95]; decide) rfl fun a hE => ?_
     refine WL.no hE (runs_undef hE rfl rfl rfl) rfl fun a hE => ?_
     refine WL.no hE (runs_undef hE rfl rfl rfl) rfl fun a hE => ?_
     refine WL.no hE (runs_undef hE rfl rfl rfl) rfl fun a hE => ?_
     refine nO hE rfl rfl rfl (by rw [hg95]; decide) rfl fun a hE => ?_
     refine vP hS hE (Gives.pickT hE rfl hg95 rfl) rfl fun a hE => WL.nil ?_
     subst hK91
     exact ⟨true, hq86, hE.pick _ ⟨rfl, trivial⟩, hS⟩
    replace hq86 := iteF hg95 hq86
    refine WL.vS hS hE (runs_if hE rfl rfl rfl hg95) (Gives.fld hE rfl fl151_0) rfl fun a hE => ?_
    refine WL.vS hS hE (runs_if hE rfl rfl rfl hg95) (Gives.loadB hE 0 rfl rfl rfl ty3) rfl fun a hE => ?_
    refine WL.vS hS hE (runs_if hE rfl rfl rfl hg95) (Gives.p hE rfl) rfl fun a hE => ?_
    refine WL.vS hS hE (runs_if hE rfl rfl rfl hg95) (Gives.p hE rfl) rfl fun a hE => ?_
    rcases Bool.eq_false_or_eq_true (x0.Kind == 3) with hg96 | hg96
    ·replace hq86 := iteT hg96 hq86
     refine WL.vS hS hE (runs_if hE rfl rfl rfl hg96) (Gives.fld hE rfl fl151_2) rfl fun a hE => ?_
     refine WL.vS hS hE (runs_if hE rfl rfl rfl hg96) (Gives.loadB hE 0 rfl rfl rfl ty3) rfl fun a hE => ?_
     refine WL.vS hS hE (runs_if hE rfl rfl rfl hg96) (Gives.p hE rfl) rfl fun a hE => ?_
     refine WL.vS hS hE (runs_if hE rfl rfl rfl hg95) (Gives.pickT hE rfl hg96 rfl) rfl fun a hE => ?_
     refine vP hS hE (Gives.pickF hE rfl hg95 rfl) rfl fun a hE => WL.nil ?_
     subst hK91
     exact ⟨(x0.Grade != 0), hq86, hE.pick _ ⟨rfl, trivial⟩, hS⟩
    replace hq86 := iteF hg96 hq86
    refine nO hE rfl rfl rfl (by rw [hg96]; decide) rfl fun a hE => ?_
    refine nO hE rfl rfl rfl (by rw [hg96]; decide) rfl fun a hE => ?_
    refine nO hE rfl rfl rfl (by rw [hg96]; decide) rfl fun a hE => ?_
    refine WL.vS hS hE (runs_if hE rfl rfl rfl hg95) (Gives.pickF hE rfl hg96 rfl) rfl fun a hE => ?_
    refine vP hS hE (Gives.pickF hE rfl hg95 rfl) rfl fun a hE => WL.nil ?_
    subst hK91
    exact ⟨false, hq86, hE.pick _ ⟨rfl, trivial⟩, hS⟩
   replace hq86 := iteF hg94 hq86
   refine nO hE rfl rfl rfl (by rw [hg94]; decide) rfl fun a hE => ?_
   refine nO hE rfl rfl rfl (by rw [hg94]; decide) rfl fun a hE => ?_
   refine nO hE rfl rfl rfl (by rw [hg94]; decide) rfl fun a hE => ?_
   refine WL.vS hS hE (runs_if hE rfl rfl rfl hg93) (Gives.pickF hE rfl hg94 rfl) rfl fun a hE => ?_
   refine vP hS hE (Gives.pickF hE rfl hg93 rfl) rfl fun a hE => ?_
   refine vp hS hE rfl rfl fun a hE => ?_
   refine WL.vS hS hE (runs_if hE rfl rfl rfl rfl) (Gives.fld hE rfl fl151_0) rfl fun a hE => ?_
   refine WL.vS hS hE (runs_if hE rfl rfl rfl rfl) (Gives.loadB hE 0 rfl rfl rfl ty3) rfl fun a hE => ?_
   refine WL.vS hS hE (runs_if hE rfl rfl rfl rfl) (Gives.p hE rfl) rfl fun a hE => ?_
   refine WL.vS hS hE (runs_if hE rfl rfl rfl rfl) (Gives.p hE rfl) rfl fun a hE => ?_
   rcases Bool.eq_false_or_eq_true (x0.Kind == 3) with hg97 | hg97
   ·replace hq86 := iteT hg97 hq86
    refine WL.vS hS hE (runs_if hE rfl rfl rfl hg97) (Gives.fld hE rfl fl151_2) rfl fun a hE => ?_
    refine WL.vS hS hE (runs_if hE rfl rfl rfl hg97) (Gives.loadB hE 0 rfl rfl rfl ty3) rfl fun a hE => ?_
    refine WL.vS hS hE (runs_if hE rfl rfl rfl hg97) (Gives.p hE rfl) rfl fun a hE => ?_
    refine WL.vS hS hE (runs_if hE rfl rfl rfl rfl) (Gives.pickT hE rfl hg97 rfl) rfl fun a hE => ?_
    refine vP hS hE (Gives.pickF hE rfl rfl rfl) rfl fun a hE => WL.nil ?_
    subst hK91
    exact ⟨(x0.Grade != 0), hq86, hE.pick _ ⟨rfl, trivial⟩, hS⟩
   replace hq86 := iteF hg97 hq86
   refine nO hE rfl rfl rfl (by rw [hg97]; decide) rfl fun a hE => ?_
   refine nO hE rfl rfl rfl (by rw [hg97]; decide) rfl fun a hE => ?_
   refine nO hE rfl rfl rfl (by rw [hg97]; decide) rfl fun a hE => ?_
   refine WL.vS hS hE (runs_if hE rfl rfl rfl rfl) (Gives.pickF hE rfl hg97 rfl) rfl fun a hE => ?_
   refine vP hS hE (Gives.pickF hE rfl rfl rfl) rfl fun a hE => WL.nil ?_
   subst hK91
   exact ⟨false, hq86, hE.pick _ ⟨rfl, trivial⟩, hS⟩
  replace hq86 := iteF hg92 hq86
  refine nO hE rfl rfl rfl (by rw [hg92]; decide) rfl fun a hE => ?_
  refine nO hE rfl rfl rfl (by rw [hg92]; decide) rfl fun a hE => ?_
  refine nO hE rfl rfl rfl (by rw [hg92]; decide) rfl fun a hE => ?_
  refine vP hS hE (Gives.pickF hE rfl hg92 rfl) rfl fun a hE => ?_
  refine vp hS hE rfl rfl fun a hE => ?_
  refine WL.vS hS hE (runs_if hE rfl rfl rfl rfl) (Gives.fld hE rfl fl151_0) rfl fun a hE => ?_
  refine WL.vS hS hE (runs_if hE rfl rfl rfl rfl) (Gives.loadB hE 0 rfl rfl rfl ty3) rfl fun a hE => ?_
  refine WL.vS hS hE (runs_if hE rfl rfl rfl rfl) (Gives.p hE rfl) rfl fun a hE => ?_
  refine WL.vS hS hE (runs_if hE rfl rfl rfl rfl) (Gives.p hE rfl) rfl fun a hE => ?_
  rcases Bool.eq_false_or_eq_true (x0.Kind != 1) with hg98 | hg98
  ·replace hq86 := iteT hg98 hq86
   refine WL.vS hS hE (runs_if hE rfl rfl rfl hg98) (Gives.fld hE rfl fl151_5) rfl fun a hE => ?_
   refine WL.vS hS hE (runs_if hE rfl rfl rfl hg98) (Gives.loadB hE 0 rfl rfl rfl ty3) rfl fun a hE => ?_
   refine WL.vS hS hE (runs_if hE rfl rfl rfl hg98) (Gives.p hE rfl) rfl fun a hE => ?_
   refine WL.vS hS hE (runs_if hE rfl rfl rfl rfl) (Gives.pickT hE rfl hg98 rfl) rfl fun a hE => ?_
   refine vP hS hE (Gives.pickF hE rfl rfl rfl) rfl fun a hE => ?_
   refine vp hS hE rfl rfl fun a hE => ?_
   rcases Bool.eq_false_or_eq_true (x0.Station != 0) with hg99 | hg99
   ·replace hq86 := iteT hg99 hq86
    refine nO hE rfl rfl rfl (by rw [hg99]; decide) rfl fun a hE => ?_
    refine nO hE rfl rfl rfl (by rw [hg99]; decide) rfl fun a hE => ?_
    refine nO hE rfl rfl rfl (by rw [hg99]; decide) rfl fun a hE => ?_
    refine nO hE rfl rfl rfl (by rw [hg99]; decide) rfl fun a hE => ?_
    refine WL.no hE (runs_undef hE rfl rfl rfl) rfl fun a hE => ?_
    refine WL.no hE (runs_undef hE rfl rfl rfl) rfl fun a hE => ?_
    refine WL.no hE (runs_undef hE rfl rfl rfl) rfl fun a hE => ?_
    refine nO hE rfl rfl rfl (by rw [hg99]; decide) rfl fun a hE => ?_
    refine vP hS hE (Gives.pickT hE rfl hg99 rfl) rfl fun a hE => WL.nil ?_
    subst hK91
    exact ⟨true, hq86, hE.pick _ ⟨rfl, trivial⟩, hS⟩
   replace hq86 := iteF hg99 hq86
   refine WL.vS hS hE (runs_if hE rfl rfl rfl hg99) (Gives.fld hE rfl fl151_0) rfl fun a hE => ?_
   refine WL.vS hS hE (runs_if hE rfl rfl rfl hg99) (Gives.loadB hE 0 rfl rfl rfl ty3) rfl fun a hE => ?_
   refine WL.vS hS hE (runs_if hE rfl rfl rfl hg99) (Gives.p hE rfl) rfl fun a hE => ?_
   refine WL.vS hS hE (runs_if hE rfl rfl rfl hg99) (Gives.p hE rfl) rfl fun a hE => ?_
   rcases Bool.eq_false_or_eq_true (x0.Kind == 3) with hg100 | hg100
   ·replace hq86 := iteT hg100 hq86
    refine WL.vS hS hE (runs_if hE rfl rfl rfl hg100) (Gives.fld hE rfl fl151_2) rfl fun a hE => ?_
    refine WL.vS hS hE (runs_if hE rfl rfl rfl hg100) (Gives.loadB hE 0 rfl rfl rfl ty3) rfl fun a hE => ?_
    refine WL.vS hS hE (runs_if hE rfl rfl rfl hg100) (Gives.p hE rfl) rfl fun a hE => ?_
    refine WL.vS hS hE (runs_if hE rfl rfl rfl hg99) (Gives.pickT hE rfl hg100 rfl) rfl fun a hE => ?_
    refine vP hS hE (Gives.pickF hE rfl hg99 rfl) rfl fun a hE => WL.nil ?_
    subst hK91
    exact ⟨(x0.Grade != 0), hq86, hE.pick _ ⟨rfl, trivial⟩, hS⟩
   replace hq86 := iteF hg100 hq86
   refine nO hE rfl rfl rfl (by rw [hg100]; decide) rfl fun a hE => ?_
   refine nO hE rfl rfl rfl (by rw [hg100]; decide) rfl fun a hE => ?_
   refine nO hE rfl rfl rfl (by rw [hg100]; decide) rfl fun a hE => ?_
   refine WL.vS hS hE (runs_if hE rfl rfl rfl hg99) (Gives.pickF hE rfl hg100 rfl) rfl fun a hE => ?_
   refine vP hS hE (Gives.pickF hE rfl hg99 rfl) rfl fun a hE => WL.nil ?_
   subst hK91
   exact ⟨false, hq86, hE.pick _ ⟨rfl, trivial⟩, hS⟩
  replace hq86 := iteF hg98 hq86
  refine nO hE rfl rfl rfl (by rw [hg98]; decide) rfl fun a hE => ?_
  refine nO hE rfl rfl rfl (by rw [hg98]; decide) rfl fun a hE => ?_
  refine nO hE rfl rfl rfl (by rw [hg98]; decide) rfl fun a hE => ?_
  refine WL.vS hS hE (runs_if hE rfl rfl rfl rfl) (Gives.pickF hE rfl hg98 rfl) rfl fun a hE => ?_
  refine vP hS hE (Gives.pickF hE rfl rfl rfl) rfl fun a hE => ?_
  refine vp hS hE rfl rfl fun a hE => ?_
  refine WL.vS hS hE (runs_if hE rfl rfl rfl rfl) (Gives.fld hE rfl fl151_0) rfl fun a hE => ?_
  refine WL.vS hS hE (runs_if hE rfl rfl rfl rfl) (Gives.loadB hE 0 rfl rfl rfl ty3) rfl fun a hE => ?_
  refine WL.vS hS hE (runs_if hE rfl rfl rfl rfl) (Gives.p hE rfl) rfl fun a hE => ?_
  refine WL.vS hS hE (runs_if hE rfl rfl rfl rfl) (Gives.p hE rfl) rfl fun a hE => ?_
  rcases Bool.eq_false_or_eq_true (x0.Kind == 3) with hg101 | hg101
  ·replace hq86 := iteT hg101 hq86
   refine WL.vS hS hE (runs_if hE rfl rfl rfl hg101) (Gives.fld hE rfl fl151_2) rfl fun a hE => ?_
   refine WL.vS hS hE (runs_if hE rfl rfl rfl hg101) (Gives.loadB hE 0 rfl rfl rfl ty3) rfl fun a hE => ?_
   refine WL.vS hS hE (runs_if hE rfl rfl rfl hg101) (Gives.p hE rfl) rfl fun a hE => ?_
   refine WL.vS hS hE (runs_if hE rfl rfl rfl rfl) (Gives.pickT hE rfl hg101 rfl) rfl fun a hE => ?_
   refine vP hS hE (Gives.pickF hE rfl rfl rfl) rfl fun a hE => WL.nil ?_
   subst hK91
   exact ⟨(x0.Grade != 0), hq86, hE.pick _ ⟨rfl, trivial⟩, hS⟩
  replace hq86 := iteF hg101 hq86
  refine nO hE rfl rfl rfl (by rw [hg101]; decide) rfl fun a hE => ?_
  refine nO hE rfl rfl rfl (by rw [hg101]; decide) rfl fun a hE => ?_
  refine nO hE rfl rfl rfl (by rw [hg101]; decide) rfl fun a hE => ?_
  refine WL.vS hS hE (runs_if hE rfl rfl rfl rfl) (Gives.pickF hE rfl hg101 rfl) rfl fun a hE => ?_
  refine vP hS hE (Gives.pickF hE rfl rfl rfl) rfl fun a hE => WL.nil ?_
  subst hK91
  exact ⟨false, hq86, hE.pick _ ⟨rfl, trivial⟩, hS⟩
 clear hE hS a w; rintro a w ⟨q90, rfl, hE, hS⟩
 refine W.cond hE rfl (fun hc102 => ?_) (fun hc102 => ?_)
 ·replace hr := iteT hc102 hr
  refine W.seq (W.region (vp hS hE rfl rfl fun a hE => WL.nil ?_))
  refine W.ret ?_
  refine finG (fn := Tryz.f75) (rs := [.tmp 4]) (vs := [_]) hE rfl ⟨rfl, trivial⟩ ?_
  subst hr
  replace hS := hS.tail
  exact ⟨rfl, hS⟩
 replace hr := iteF hc102 hr
 refine W.skip ?_
 refine W.seq (W.region (vp hS hE rfl rfl fun a hE => WL.nil ?_))
 refine W.ret ?_
 refine finG (fn := Tryz.f75) (rs := [.tmp 4]) (vs := [_]) hE rfl ⟨rfl, trivial⟩ ?_
 subst hr
 replace hS := hS.tail
 exact ⟨rfl, hS⟩
set_option maxHeartbeats 8000000 in
theorem Fishref1EndsOf_ok  {w : World} {s : Sg} {R : List HP} {x0 : Int} (hS : St w s (R))  {r : Int} (hr : Fishref1EndsOf x0 = some r) :
  Calls Tryz.prog 165 [vi x0].toArray w (fun e w => e = .returned (vi r) ∧ St w s (R)) := by
 refine enter Tryz.func165 rfl rfl rfl fun a hE => ?_
 rw [Fishref1EndsOf] at hr
 refine W.seq (W.region (vp hS hE rfl rfl fun a hE => WL.nil ?_))
 refine W.seq (W.region ?_)
 refine WL.lit hE hS (e := 3) (es := 1) (vs := [(0, vi 0), (1, vi 2), (2, vi 3), (3, vi 4)]) (cs := [vi 0, vi 2, vi 3, vi 4]) (runs_plain rfl) rfl (by kernel_rfl) rfl ?_; clear hE hS a w; intro b51 a w hE hS
 replace hS := hS.ptVec (es := 1) (m := 4) rfl (by decide)
 have h53 : Ev 1 (RI .i64) s [vi 0, vi 2, vi 3, vi 4] [0, 2, 3, 4] := (Ev.cons (c1 := [vi 0]) rfl rfl (Ev.cons (c1 := [vi 2]) rfl rfl (Ev.cons (c1 := [vi 3]) rfl rfl (Ev.cons (c1 := [vi 4]) rfl rfl (Ev.nil)))))
 have hF := hS.fixD RI.mono 0 rfl h53 (rfl); clear hS; obtain ⟨s54, hle55, hS, h56⟩ := hF
 refine vp hS hE rfl rfl fun a hE => ?_
 obtain ⟨x57, hx58, hr⟩ := bindS hr
 obtain ⟨hi59, hlt60, hy61⟩ := gx_some hx58
 obtain ⟨cs62, hl63, hR64, hat65⟩ := h56.at hy61
 subst hR64
 refine vP hS hE (Gives.idx hE (x0).toNat rfl rfl sl65 hi59 hlt60 (h56.aok hlt60)) rfl fun a hE => ?_
 refine vP hS hE (Gives.load1 hE rfl (fun w h => hat65 w _ h) ty3) rfl fun a hE => ?_
 refine vp hS hE rfl rfl fun a hE => WL.nil ?_
 refine W.ret ?_
 refine finG (fn := Tryz.f165) (rs := [.tmp 2]) (vs := [_]) hE rfl ⟨rfl, trivial⟩ ?_
 obtain rfl := Option.some.inj hr
 exact ⟨rfl, (hS.down hle55)⟩
end Go.Proofs.YtpcebngchmgckaaGreatDoor
