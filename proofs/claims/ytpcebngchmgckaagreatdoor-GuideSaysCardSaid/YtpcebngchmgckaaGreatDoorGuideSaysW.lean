/- The walks of the functions that GuideSays reaches: each call comes to what its mirror says. The conditions are those of each contract. -/
import Derived.Test.YtpcebngchmgckaaGreatDoorProg
import Derived.Test.YtpcebngchmgckaaGreatDoorFpTight
import Derived.Test.YtpcebngchmgckaaGreatDoorGuideSaysM
import Derived.Test.YtpcebngchmgckaaGreatDoorFpAllT
import Derived.Test.YtpcebngchmgckaaGreatDoorGuideSaysS
import Derived.Test.YtpcebngchmgckaaGreatDoorFpMapS
import Derived.Test.YtpcebngchmgckaaGreatDoorFpBytes
import Derived.Test.YtpcebngchmgckaaGreatDoorFpFld
import Derived.Test.YtpcebngchmgckaaGreatDoorFpMapG
import Derived.Test.YtpcebngchmgckaaGreatDoorFpMapV
import Derived.Test.YtpcebngchmgckaaGreatDoorFpMaps
import Derived.Test.YtpcebngchmgckaaGreatDoorFpOrd
import Derived.Test.YtpcebngchmgckaaGreatDoorFpRf
import Derived.Test.YtpcebngchmgckaaGreatDoorFpRng
import Derived.Test.YtpcebngchmgckaaGreatDoorGuideSaysW4
set_option maxRecDepth 10000
namespace Go.Proofs.YtpcebngchmgckaaGreatDoor
open Go Go.Fp
set_option maxHeartbeats 8000000 in
theorem Fishref2BoardText_ok  {w : World} {s : Sg} {R : List HP} {x0 : ApiNet} {a0_0 : Option Addr} {c0_0 : Nat} {a0_1 : Option Addr} {c0_1 : Nat} {a0_2 : Option Addr} {c0_2 : Nat} {a0_3 : Option Addr} {c0_3 : Nat} {a0_4 : Option Addr} {c0_4 : Nat} {x1 : List GuideLine} {a1 : Option Addr} {c1 : Nat} (hS : St w s (R)) (hTab : TabS Tryz.prog s) (h0_0 : Sl 1 RS s a0_0 c0_0 x0.Stations) (_h0_1 : Sl 7 RApiSection s a0_1 c0_1 x0.Sections) (_h0_2 : Sl 4 RApiLink s a0_2 c0_2 x0.Links) (_h0_3 : Sl 2 RApiSignal s a0_3 c0_3 x0.Signals) (_h0_4 : Sl 2 RApiGate s a0_4 c0_4 x0.Gates) (h1 : Sl 6 RGuideLine s a1 c1 x1) {r : ByteArray × Int} (hr : Fishref2BoardText x0 x1 = some r) :
  Calls Tryz.prog 20 [.agg (List.toArray [.slice a0_0 x0.Stations.length c0_0, .slice a0_1 x0.Sections.length c0_1, .slice a0_2 x0.Links.length c0_2, .slice a0_3 x0.Signals.length c0_3, .slice a0_4 x0.Gates.length c0_4]), .slice a1 x1.length c1].toArray w (fun e w => e = .returned (.tuple #[.string r.1, vi r.2]) ∧ St w s (R)) := by
 refine enter Tryz.func20 rfl rfl rfl fun a hE => ?_
 rw [Fishref2BoardText] at hr
 refine W.seq (W.region ?_)
 refine WL.box hE hS (runs_plain rfl) rfl rfl rfl ?_; clear hE hS a w; intro b51 a w hE hS
 refine v2 hS hE rfl rfl rfl rfl fun a hE => WL.nil ?_
 refine W.seq ?_
 refine W.seq (W.region (vp hS hE rfl rfl fun a hE => ?_))
 refine vP hS hE (Gives.len hE rfl sl39) rfl fun a hE => ?_
 refine vp hS hE rfl rfl fun a hE => WL.nil ?_
 refine W.cond hE rfl (fun hc52 => ?_) (fun hc52 => ?_)
 ·replace hr := iteT hc52 hr
  refine W.seq (W.region (v2 hS hE rfl rfl rfl rfl fun a hE => WL.nil ?_))
  refine W.ret ?_
  refine finG (fn := Tryz.f20) (rs := [.tmp 4, .tmp 5]) (vs := [_, _]) hE rfl ⟨rfl, rfl, trivial⟩ ?_
  obtain rfl := Option.some.inj hr
  replace hS := hS.tail
  exact ⟨rfl, hS⟩
 replace hr := iteF hc52 hr
 refine W.skip ?_
 refine W.seq (W.region (vp hS hE rfl rfl fun a hE => WL.nil ?_))
 refine W.seq ?_
 refine W.seq (W.region (vp hS hE rfl rfl fun a hE => ?_))
 refine vP hS hE (Gives.len hE rfl sl39) rfl fun a hE => ?_
 refine vp hS hE rfl rfl fun a hE => WL.nil ?_
 obtain ⟨q54, hq53, hr⟩ := bindS hr
 refine W.cut (fun a w => ∃ (q64 : ByteArray), (.next q64) = q54 ∧ Rep a 105 [(6, .string q64)] ∧ St w s (pc b51 #[.slice a0_0 x0.Stations.length c0_0, .slice a0_1 x0.Sections.length c0_1, .slice a0_2 x0.Links.length c0_2, .slice a0_3 x0.Signals.length c0_3, .slice a0_4 x0.Gates.length c0_4] 53 :: R)) ?_ ?_
 ·refine W.block ?_
  refine W.loop (fun m a w => ∃ (rest57 : List GuideLine) (k55 : Nat), ∃ (q64 : ByteArray), rest57.length = m ∧ x1.drop k55 = rest57 ∧ Fishref2BoardText.loop1 x0 rest57 q64 = some q54 ∧ Rep a 105 [(2, pp b51), (6, .string q64), (12, .slice a1 x1.length c1), (13, vi ((x1).length : Int)), (14, vi ((k55 : Nat) : Int))] ∧ St w s (pc b51 #[.slice a0_0 x0.Stations.length c0_0, .slice a0_1 x0.Sections.length c0_1, .slice a0_2 x0.Links.length c0_2, .slice a0_3 x0.Signals.length c0_3, .slice a0_4 x0.Gates.length c0_4] 53 :: R)) (m := x1.length) ⟨x1, 0, (str []), rfl, rfl, hq53, hE.pick _ ⟨rfl, rfl, rfl, rfl, rfl, trivial⟩, hS⟩ ?_
  clear hE hS a w hq53; rintro m61 a w ⟨rest57, k55, q64, rfl, hd58, hq53, hE, hS⟩
  refine W.gen fun K65 hK65 => ?_
  rcases rest57 with _ | ⟨x56, rest57⟩
  ·have hlt59 := drop_nil hd58
   refine W.seq (W.region (vp hS hE rfl rfl fun a hE => WL.nil ?_))
   refine W.seq ?_
   refine W.condF hE rfl (decide_eq_false (by omega)) ?_
   subst hK65
   refine W.exit rfl ?_
   exact ⟨q64, Option.some.inj hq53, hE.pick _ ⟨rfl, trivial⟩, hS⟩
  obtain ⟨hlt59, hx60, hd58⟩ := drop_cons hd58
  rw [Fishref2BoardText.loop1] at hq53
  refine W.seq (W.region (vp hS hE rfl rfl fun a hE => WL.nil ?_))
  refine W.seq ?_
  refine W.condT hE rfl (decide_eq_true (by omega)) ?_
  refine W.skip ?_
  refine W.seq ?_
  refine W.block ?_
  refine W.seq (W.region ?_)
  obtain ⟨cs66, hl67, hR68, hat69⟩ := h1.at hx60
  subst hR68
  refine vP hS hE (Gives.idx hE k55 rfl rfl sl39 rfl hlt59 (h1.aok hlt59)) rfl fun a hE => ?_
  refine vP hS hE (Gives.loadA hE rfl (fun w h => hat69 w _ h) ty44) rfl fun a hE => ?_
  refine WL.alloc hE hS (runs_plain rfl) zr44 rfl ?_; clear hE hS a w; intro b70 a w hE hS
  refine WL.storeI hE hS 0 rfl (GuideLine.cells x56) (runs_plain rfl) rfl rfl rfl ty44 rfl rfl rfl rfl ?_; clear hE hS a w; intro a w hE hS
  refine WL.nil ?_
  refine W.seq ?_
  refine W.seq ?_
  obtain ⟨q72, hq71, hq53⟩ := bndS hq53
  refine W.cut (fun a w => ∃ (q75 : Bool), q75 = q72 ∧ Rep a 105 [(2, pp b51), (6, .string q64), (8, pp b70), (12, .slice a1 x1.length c1), (13, vi ((x1).length : Int)), (14, vi ((k55 : Nat) : Int)), (33, .bool q75)] ∧ St w s (pc b70 (GuideLine.cells x56).toArray 44 :: pc b51 #[.slice a0_0 x0.Stations.length c0_0, .slice a0_1 x0.Sections.length c0_1, .slice a0_2 x0.Links.length c0_2, .slice a0_3 x0.Signals.length c0_3, .slice a0_4 x0.Gates.length c0_4] 53 :: R)) ?_ ?_
  ·refine W.gen fun K76 hK76 => ?_
   refine W.region ?_
   refine vP hS hE (Gives.fld hE rfl fl44_0) rfl fun a hE => ?_
   refine vP hS hE (Gives.loadB hE 0 rfl rfl rfl ty3) rfl fun a hE => ?_
   refine WL.fnq hE (Fishref2within_ok hS  rfl (r := Fishref2within x56.Time 0 28800)) (runs_plain rfl) bd51 rfl rfl rfl ?_
   clear hE hS; rintro e w ⟨rfl, hS⟩; refine ⟨_, rfl, ?_⟩; clear a; intro a hE
   refine v2 hS hE rfl rfl rfl rfl fun a hE => ?_
   rcases Bool.eq_false_or_eq_true (!(Fishref2within x56.Time 0 28800)) with hg77 | hg77
   ·replace hq71 := iteT hg77 hq71
    refine nO hE rfl rfl rfl (by rw [hg77]; decide) rfl fun a hE => ?_
    refine nO hE rfl rfl rfl (by rw [hg77]; decide) rfl fun a hE => ?_
    refine nO hE rfl rfl rfl (by rw [hg77]; decide) rfl fun a hE => ?_
    refine nO hE rfl rfl rfl (by rw [hg77]; decide) rfl fun a hE => ?_
    refine vP hS hE (Gives.pickT hE rfl hg77 rfl) rfl fun a hE => ?_
    refine vp hS hE rfl rfl fun a hE => ?_
    refine nO hE rfl rfl rfl (by decide) rfl fun a hE => ?_
    refine nO hE rfl rfl rfl (by decide) rfl fun a hE => ?_
    refine nO hE rfl rfl rfl (by decide) rfl fun a hE => ?_
    refine nO hE rfl rfl rfl (by decide) rfl fun a hE => ?_
    refine vP hS hE (Gives.pickT hE rfl rfl rfl) rfl fun a hE => WL.nil ?_
    subst hK76
    exact ⟨true, hq71, hE.pick _ ⟨rfl, rfl, rfl, rfl, rfl, rfl, rfl, trivial⟩, hS⟩
   replace hq71 := iteF hg77 hq71
   refine WL.vS hS hE (runs_if hE rfl rfl rfl hg77) (Gives.fld hE rfl fl44_1) rfl fun a hE => ?_
   refine WL.vS hS hE (runs_if hE rfl rfl rfl hg77) (Gives.loadB hE 0 rfl rfl rfl ty3) rfl fun a hE => ?_
   refine WL.fnq hE (Fishref2within_ok hS  rfl (r := Fishref2within x56.Late 0 28800)) (runs_if hE rfl rfl rfl hg77) bd51 rfl rfl rfl ?_
   clear hE hS; rintro e w ⟨rfl, hS⟩; refine ⟨_, rfl, ?_⟩; clear a; intro a hE
   refine WL.vS hS hE (runs_if hE rfl rfl rfl hg77) (Gives.p hE rfl) rfl fun a hE => ?_
   refine vP hS hE (Gives.pickF hE rfl hg77 rfl) rfl fun a hE => ?_
   refine vp hS hE rfl rfl fun a hE => ?_
   rcases Bool.eq_false_or_eq_true (!(Fishref2within x56.Late 0 28800)) with hg78 | hg78
   ·replace hq71 := iteT hg78 hq71
    refine nO hE rfl rfl rfl (by rw [hg78]; decide) rfl fun a hE => ?_
    refine nO hE rfl rfl rfl (by rw [hg78]; decide) rfl fun a hE => ?_
    refine nO hE rfl rfl rfl (by rw [hg78]; decide) rfl fun a hE => ?_
    refine nO hE rfl rfl rfl (by rw [hg78]; decide) rfl fun a hE => ?_
    refine vP hS hE (Gives.pickT hE rfl hg78 rfl) rfl fun a hE => WL.nil ?_
    subst hK76
    exact ⟨true, hq71, hE.pick _ ⟨rfl, rfl, rfl, rfl, rfl, rfl, rfl, trivial⟩, hS⟩
   replace hq71 := iteF hg78 hq71
   refine WL.vS hS hE (runs_if hE rfl rfl rfl hg78) (Gives.fld hE rfl fl44_2) rfl fun a hE => ?_
   refine WL.vS hS hE (runs_if hE rfl rfl rfl hg78) (Gives.loadB hE 0 rfl rfl rfl ty3) rfl fun a hE => ?_
   refine WL.fnq hE (Fishref2within_ok hS  rfl (r := Fishref2within x56.No 1 9999)) (runs_if hE rfl rfl rfl hg78) bd51 rfl rfl rfl ?_
   clear hE hS; rintro e w ⟨rfl, hS⟩; refine ⟨_, rfl, ?_⟩; clear a; intro a hE
   refine WL.vS hS hE (runs_if hE rfl rfl rfl hg78) (Gives.p hE rfl) rfl fun a hE => ?_
   refine vP hS hE (Gives.pickF hE rfl hg78 rfl) rfl fun a hE => WL.nil ?_
   subst hK76
   exact ⟨!(Fishref2within x56.No 1 9999), hq71, hE.pick _ ⟨rfl, rfl, rfl, rfl, rfl, rfl, rfl, trivial⟩, hS⟩
  clear hE hS a w; rintro a w ⟨q75, rfl, hE, hS⟩
  refine W.cond hE rfl (fun hc79 => ?_) (fun hc79 => ?_)
  ·replace hq53 := iteT hc79 hq53
   refine W.seq (W.region (v2 hS hE rfl rfl rfl rfl fun a hE => WL.nil ?_))
   refine W.ret ?_
   subst hK65
   rw [← Option.some.inj hq53] at hr
   dsimp only at hr
   refine finG (fn := Tryz.f20) (rs := [.tmp 4, .tmp 5]) (vs := [_, _]) hE rfl ⟨rfl, rfl, trivial⟩ ?_
   obtain rfl := Option.some.inj hr
   replace hS := hS.tail
   replace hS := hS.tail
   exact ⟨rfl, hS⟩
  replace hq53 := iteF hc79 hq53
  refine W.skip ?_
  refine W.seq ?_
  refine W.seq ?_
  obtain ⟨q81, hq80, hq53⟩ := bndS hq53
  refine W.cut (fun a w => ∃ (q84 : Bool), q84 = q81 ∧ Rep a 105 [(2, pp b51), (6, .string q64), (8, pp b70), (12, .slice a1 x1.length c1), (13, vi ((x1).length : Int)), (14, vi ((k55 : Nat) : Int)), (44, .bool q84)] ∧ St w s (pc b70 (GuideLine.cells x56).toArray 44 :: pc b51 #[.slice a0_0 x0.Stations.length c0_0, .slice a0_1 x0.Sections.length c0_1, .slice a0_2 x0.Links.length c0_2, .slice a0_3 x0.Signals.length c0_3, .slice a0_4 x0.Gates.length c0_4] 53 :: R)) ?_ ?_
  ·refine W.gen fun K85 hK85 => ?_
   refine W.region ?_
   refine vP hS hE (Gives.fld hE rfl fl44_3) rfl fun a hE => ?_
   refine vP hS hE (Gives.loadB hE 0 rfl rfl rfl ty3) rfl fun a hE => ?_
   refine v2 hS hE rfl rfl rfl rfl fun a hE => ?_
   rcases Bool.eq_false_or_eq_true (decide (x56.To < 0)) with hg86 | hg86
   ·replace hq80 := iteT hg86 hq80
    refine nO hE rfl rfl rfl (by rw [hg86]; decide) rfl fun a hE => ?_
    refine nO hE rfl rfl rfl (by rw [hg86]; decide) rfl fun a hE => ?_
    refine nO hE rfl rfl rfl (by rw [hg86]; decide) rfl fun a hE => ?_
    refine nO hE rfl rfl rfl (by rw [hg86]; decide) rfl fun a hE => ?_
    refine nO hE rfl rfl rfl (by rw [hg86]; decide) rfl fun a hE => ?_
    refine nO hE rfl rfl rfl (by rw [hg86]; decide) rfl fun a hE => ?_
    refine vP hS hE (Gives.pickT hE rfl hg86 rfl) rfl fun a hE => WL.nil ?_
    subst hK85
    exact ⟨true, hq80, hE.pick _ ⟨rfl, rfl, rfl, rfl, rfl, rfl, rfl, trivial⟩, hS⟩
   replace hq80 := iteF hg86 hq80
   refine WL.vS hS hE (runs_if hE rfl rfl rfl hg86) (Gives.fld hE rfl fl44_3) rfl fun a hE => ?_
   refine WL.vS hS hE (runs_if hE rfl rfl rfl hg86) (Gives.loadB hE 0 rfl rfl rfl ty3) rfl fun a hE => ?_
   refine WL.vS hS hE (runs_if hE rfl rfl rfl hg86) (Gives.fld hE rfl fl53_0) rfl fun a hE => ?_
   refine WL.vS hS hE (runs_if hE rfl rfl rfl hg86) (Gives.loadB hE 1 rfl rfl rfl ty47) rfl fun a hE => ?_
   refine WL.vS hS hE (runs_if hE rfl rfl rfl hg86) (Gives.len hE rfl sl47) rfl fun a hE => ?_
   refine WL.vS hS hE (runs_if hE rfl rfl rfl hg86) (Gives.p hE rfl) rfl fun a hE => ?_
   refine vP hS hE (Gives.pickF hE rfl hg86 rfl) rfl fun a hE => WL.nil ?_
   subst hK85
   exact ⟨decide (x56.To ≥ ((x0.Stations).length : Int)), hq80, hE.pick _ ⟨rfl, rfl, rfl, rfl, rfl, rfl, rfl, trivial⟩, hS⟩
  clear hE hS a w; rintro a w ⟨q84, rfl, hE, hS⟩
  refine W.cond hE rfl (fun hc87 => ?_) (fun hc87 => ?_)
  ·replace hq53 := iteT hc87 hq53
   refine W.seq (W.region (v2 hS hE rfl rfl rfl rfl fun a hE => WL.nil ?_))
   refine W.ret ?_
   subst hK65
   rw [← Option.some.inj hq53] at hr
   dsimp only at hr
   refine finG (fn := Tryz.f20) (rs := [.tmp 4, .tmp 5]) (vs := [_, _]) hE rfl ⟨rfl, rfl, trivial⟩ ?_
   obtain rfl := Option.some.inj hr
   replace hS := hS.tail
   replace hS := hS.tail
   exact ⟨rfl, hS⟩
  replace hq53 := iteF hc87 hq53
  refine W.skip ?_
  refine W.seq ?_
  refine W.seq ?_
  obtain ⟨q89, hq88, hq53⟩ := bndS hq53
  refine W.cut (fun a w => ∃ (q92 : Bool), q92 = q89 ∧ Rep a 105 [(2, pp b51), (6, .string q64), (8, pp b70), (12, .slice a1 x1.length c1), (13, vi ((x1).length : Int)), (14, vi ((k55 : Nat) : Int)), (53, .bool q92)] ∧ St w s (pc b70 (GuideLine.cells x56).toArray 44 :: pc b51 #[.slice a0_0 x0.Stations.length c0_0, .slice a0_1 x0.Sections.length c0_1, .slice a0_2 x0.Links.length c0_2, .slice a0_3 x0.Signals.length c0_3, .slice a0_4 x0.Gates.length c0_4] 53 :: R)) ?_ ?_
  ·refine W.gen fun K93 hK93 => ?_
   refine W.region ?_
   refine vP hS hE (Gives.fld hE rfl fl44_5) rfl fun a hE => ?_
   refine vP hS hE (Gives.loadB hE 0 rfl rfl rfl ty4) rfl fun a hE => ?_
   refine v2 hS hE rfl rfl rfl rfl fun a hE => ?_
   rcases Bool.eq_false_or_eq_true !x56.Ends with hg94 | hg94
   ·replace hq88 := iteT hg94 hq88
    refine WL.vS hS hE (runs_if hE rfl rfl rfl hg94) (Gives.fld hE rfl fl44_4) rfl fun a hE => ?_
    refine WL.vS hS hE (runs_if hE rfl rfl rfl hg94) (Gives.loadB hE 0 rfl rfl rfl ty3) rfl fun a hE => ?_
    refine WL.fnq hE (Fishref2within_ok hS  rfl (r := Fishref2within x56.Track 0 59)) (runs_if hE rfl rfl rfl hg94) bd51 rfl rfl rfl ?_
    clear hE hS; rintro e w ⟨rfl, hS⟩; refine ⟨_, rfl, ?_⟩; clear a; intro a hE
    refine WL.vS hS hE (runs_if hE rfl rfl rfl hg94) (Gives.p hE rfl) rfl fun a hE => ?_
    refine vP hS hE (Gives.pickT hE rfl hg94 rfl) rfl fun a hE => WL.nil ?_
    subst hK93
    exact ⟨!(Fishref2within x56.Track 0 59), hq88, hE.pick _ ⟨rfl, rfl, rfl, rfl, rfl, rfl, rfl, trivial⟩, hS⟩
   replace hq88 := iteF hg94 hq88
   refine nO hE rfl rfl rfl (by rw [hg94]; decide) rfl fun a hE => ?_
   refine nO hE rfl rfl rfl (by rw [hg94]; decide) rfl fun a hE => ?_
   refine nO hE rfl rfl rfl (by rw [hg94]; decide) rfl fun a hE => ?_
   refine nO hE rfl rfl rfl (by rw [hg94]; decide) rfl fun a hE => ?_
   refine vP hS hE (Gives.pickF hE rfl hg94 rfl) rfl fun a hE => WL.nil ?_
   subst hK93
   exact ⟨false, hq88, hE.pick _ ⟨rfl, rfl, rfl, rfl, rfl, rfl, rfl, trivial⟩, hS⟩
  clear hE hS a w; rintro a w ⟨q92, rfl, hE, hS⟩
  refine W.cond hE rfl (fun hc95 => ?_) (fun hc95 => ?_)
  ·replace hq53 := iteT hc95 hq53
   refine W.seq (W.region (v2 hS hE rfl rfl rfl rfl fun a hE => WL.nil ?_))
   refine W.ret ?_
   subst hK65
   rw [← Option.some.inj hq53] at hr
   dsimp only at hr
   refine finG (fn := Tryz.f20) (rs := [.tmp 4, .tmp 5]) (vs := [_, _]) hE rfl ⟨rfl, rfl, trivial⟩ ?_
   obtain rfl := Option.some.inj hr
   replace hS := hS.tail
   replace hS := hS.tail
   exact ⟨rfl, hS⟩
  replace hq53 := iteF hc95 hq53
  refine W.skip ?_
  refine W.seq ?_
  refine W.regionQ (C := fun w => St w s (pc b70 (GuideLine.cells x56).toArray 44 :: pc b51 #[.slice a0_0 x0.Stations.length c0_0, .slice a0_1 x0.Sections.length c0_1, .slice a0_2 x0.Links.length c0_2, .slice a0_3 x0.Signals.length c0_3, .slice a0_4 x0.Gates.length c0_4] 53 :: R)) mixed (by kernel_rfl) hS.drew ?_
  refine qP hE (Gives.p hE rfl) rfl fun a hE => ?_
  refine qP hE (Gives.fld hE rfl fl44_0) rfl fun a hE => ?_
  refine qP hE (Gives.loadB hE 0 rfl rfl rfl ty3) rfl fun a hE => ?_
  obtain ⟨q96, hq97, hq53⟩ := bindS hq53
  refine QL.fnq hE (fun w hS => Fishref2clock_ok hS (TabS.mono (Sg.Le.refl _) hTab) hq97) (runs_plain rfl) bd78 rfl rfl rfl fun a hE => ?_
  obtain ⟨x98, hx99, hq53⟩ := bindS hq53
  refine qP hE (Gives.catS hE rfl rfl hx99) rfl fun a hE => ?_
  refine qP hE (Gives.fld hE rfl fl44_2) rfl fun a hE => ?_
  refine qP hE (Gives.loadB hE 0 rfl rfl rfl ty3) rfl fun a hE => ?_
  obtain ⟨q100, hq101, hq53⟩ := bindS hq53
  refine QL.fnq hE (fun w hS => itoa_ok hS (TabS.mono (Sg.Le.refl _) hTab) hq101) (runs_plain rfl) bd72 rfl rfl rfl fun a hE => ?_
  obtain ⟨x102, hx103, hq53⟩ := bindS hq53
  refine qP hE (Gives.catS hE rfl rfl hx103) rfl fun a hE => ?_
  obtain ⟨x104, hx105, hq53⟩ := bindS hq53
  refine qP hE (Gives.catS hE rfl rfl hx105) rfl fun a hE => ?_
  refine qP hE (Gives.fld hE rfl fl53_0) rfl fun a hE => ?_
  refine qP hE (Gives.loadB hE 1 rfl rfl rfl ty47) rfl fun a hE => ?_
  refine qP hE (Gives.fld hE rfl fl44_3) rfl fun a hE => ?_
  refine qP hE (Gives.loadB hE 0 rfl rfl rfl ty3) rfl fun a hE => ?_
  obtain ⟨x106, hx107, hq53⟩ := bindS hq53
  obtain ⟨hi108, hlt109, hy110⟩ := gx_some hx107
  obtain ⟨cs111, hl112, hR113, hat114⟩ := h0_0.at hy110
  subst hR113
  refine qP hE (Gives.idx hE (x56.To).toNat rfl rfl sl47 hi108 hlt109 (h0_0.aok hlt109)) rfl fun a hE => ?_
  refine qP hE (Gives.load1 hE rfl (fun w h => hat114 w _ h) ty9) rfl fun a hE => ?_
  obtain ⟨x115, hx116, hq53⟩ := bindS hq53
  refine qP hE (Gives.catS hE rfl rfl hx116) rfl fun a hE => ?_
  obtain ⟨x117, hx118, hq53⟩ := bindS hq53
  refine qP hE (Gives.catS hE rfl rfl hx118) rfl fun a hE => ?_
  obtain ⟨x119, hx120, hq53⟩ := bindS hq53
  refine qP hE (Gives.catS hE rfl rfl hx120) rfl fun a hE => ?_
  refine qP hE (Gives.p hE rfl) rfl fun a hE => ?_
  refine QL.nil ?_; clear hS w; intro w hS
  refine W.seq ?_
  refine W.block ?_
  refine W.seq (W.region (vP hS hE (Gives.fld hE rfl fl44_5) rfl fun a hE => ?_))
  refine vP hS hE (Gives.loadB hE 0 rfl rfl rfl ty4) rfl fun a hE => ?_
  refine vp hS hE rfl rfl fun a hE => WL.nil ?_
  obtain ⟨q122, hq121, hq53⟩ := bindS hq53
  refine W.cut (fun a w => ∃ (q125 : ByteArray), q125 = q122 ∧ Rep a 105 [(2, pp b51), (6, .string q125), (12, .slice a1 x1.length c1), (13, vi ((x1).length : Int)), (14, vi ((k55 : Nat) : Int))] ∧ St w s (pc b70 (GuideLine.cells x56).toArray 44 :: pc b51 #[.slice a0_0 x0.Stations.length c0_0, .slice a0_1 x0.Sections.length c0_1, .slice a0_2 x0.Links.length c0_2, .slice a0_3 x0.Signals.length c0_3, .slice a0_4 x0.Gates.length c0_4] 53 :: R)) ?_ ?_
  ·refine W.gen fun K126 hK126 => ?_
   refine W.cond hE rfl (fun hc127 => ?_) (fun hc127 => ?_)
   ·replace hq121 := iteT hc127 hq121
    refine W.region ?_
    refine vp hS hE rfl rfl fun a hE => ?_
    obtain ⟨x128, hx129, hq121⟩ := bindS hq121
    refine vP hS hE (Gives.catS hE rfl rfl hx129) rfl fun a hE => ?_
    refine vp hS hE rfl rfl fun a hE => WL.nil ?_
    subst hK126
    exact ⟨x128, Option.some.inj hq121, hE.pick _ ⟨rfl, rfl, rfl, rfl, rfl, trivial⟩, hS⟩
   replace hq121 := iteF hc127 hq121
   refine W.seq (W.region (vP hS hE (Gives.fld hE rfl fl44_1) rfl fun a hE => ?_))
   refine vP hS hE (Gives.loadB hE 0 rfl rfl rfl ty3) rfl fun a hE => ?_
   refine v2 hS hE rfl rfl rfl rfl fun a hE => WL.nil ?_
   obtain ⟨q131, hq130, hq121⟩ := bindS hq121
   refine W.cut (fun a w => ∃ (q134 : ByteArray), q134 = q131 ∧ Rep a 105 [(2, pp b51), (6, .string q134), (12, .slice a1 x1.length c1), (13, vi ((x1).length : Int)), (14, vi ((k55 : Nat) : Int))] ∧ St w s (pc b70 (GuideLine.cells x56).toArray 44 :: pc b51 #[.slice a0_0 x0.Stations.length c0_0, .slice a0_1 x0.Sections.length c0_1, .slice a0_2 x0.Links.length c0_2, .slice a0_3 x0.Signals.length c0_3, .slice a0_4 x0.Gates.length c0_4] 53 :: R)) ?_ ?_
   ·refine W.gen fun K135 hK135 => ?_
    refine W.cond hE rfl (fun hc136 => ?_) (fun hc136 => ?_)
    ·replace hq130 := iteT hc136 hq130
     refine W.regionQ (C := fun w => St w s (pc b70 (GuideLine.cells x56).toArray 44 :: pc b51 #[.slice a0_0 x0.Stations.length c0_0, .slice a0_1 x0.Sections.length c0_1, .slice a0_2 x0.Links.length c0_2, .slice a0_3 x0.Signals.length c0_3, .slice a0_4 x0.Gates.length c0_4] 53 :: R)) mixed (by kernel_rfl) hS.drew ?_
     refine qP hE (Gives.p hE rfl) rfl fun a hE => ?_
     refine qP hE (Gives.fld hE rfl fl44_4) rfl fun a hE => ?_
     refine qP hE (Gives.loadB hE 0 rfl rfl rfl ty3) rfl fun a hE => ?_
     obtain ⟨q137, hq138, hq130⟩ := bindS hq130
     refine QL.fnq hE (fun w hS => itoa_ok hS (TabS.mono (Sg.Le.refl _) hTab) hq138) (runs_plain rfl) bd72 rfl rfl rfl fun a hE => ?_
     obtain ⟨x139, hx140, hq130⟩ := bindS hq130
     refine qP hE (Gives.catS hE rfl rfl hx140) rfl fun a hE => ?_
     obtain ⟨x141, hx142, hq130⟩ := bindS hq130
     refine qP hE (Gives.catS hE rfl rfl hx142) rfl fun a hE => ?_
     refine qP hE (Gives.fld hE rfl fl44_1) rfl fun a hE => ?_
     refine qP hE (Gives.loadB hE 0 rfl rfl rfl ty3) rfl fun a hE => ?_
     refine qP hE (Gives.p hE rfl) rfl fun a hE => ?_
     obtain ⟨q143, hq144, hq130⟩ := bindS hq130
     refine QL.fnq hE (fun w hS => itoa_ok hS (TabS.mono (Sg.Le.refl _) hTab) hq144) (runs_plain rfl) bd72 rfl rfl rfl fun a hE => ?_
     obtain ⟨x145, hx146, hq130⟩ := bindS hq130
     refine qP hE (Gives.catS hE rfl rfl hx146) rfl fun a hE => ?_
     obtain ⟨x147, hx148, hq130⟩ := bindS hq130
     refine qP hE (Gives.catS hE rfl rfl hx148) rfl fun a hE => ?_
     obtain ⟨x149, hx150, hq130⟩ := bindS hq130
     refine qP hE (Gives.catS hE rfl rfl hx150) rfl fun a hE => ?_
     refine qP hE (Gives.p hE rfl) rfl fun a hE => ?_
     refine QL.nil ?_; clear hS w; intro w hS
     subst hK135
     exact ⟨x149, Option.some.inj hq130, hE.pick _ ⟨rfl, rfl, rfl, rfl, rfl, trivial⟩, hS⟩
    replace hq130 := iteF hc136 hq130
    refine W.region ?_
    refine vp hS hE rfl rfl fun a hE => ?_
    refine vP hS hE (Gives.fld hE rfl fl44_4) rfl fun a hE => ?_
    refine vP hS hE (Gives.loadB hE 0 rfl rfl rfl ty3) rfl fun a hE => ?_
    obtain ⟨q151, hq152, hq130⟩ := bindS hq130
    refine WL.fnq hE (itoa_ok hS (TabS.mono (Sg.Le.refl _) hTab) hq152) (runs_plain rfl) bd72 rfl rfl rfl ?_
    clear hE hS; rintro e w ⟨rfl, hS⟩; refine ⟨_, rfl, ?_⟩; clear a; intro a hE
    obtain ⟨x153, hx154, hq130⟩ := bindS hq130
    refine vP hS hE (Gives.catS hE rfl rfl hx154) rfl fun a hE => ?_
    obtain ⟨x155, hx156, hq130⟩ := bindS hq130
    refine vP hS hE (Gives.catS hE rfl rfl hx156) rfl fun a hE => ?_
    refine vp hS hE rfl rfl fun a hE => WL.nil ?_
    subst hK135
    exact ⟨x155, Option.some.inj hq130, hE.pick _ ⟨rfl, rfl, rfl, rfl, rfl, trivial⟩, hS⟩
   clear hE hS a w; rintro a w ⟨q134, rfl, hE, hS⟩
   subst hK126
   exact ⟨q134, Option.some.inj hq121, hE.pick _ ⟨rfl, rfl, rfl, rfl, rfl, trivial⟩, hS⟩
  clear hE hS a w; rintro a w ⟨q125, rfl, hE, hS⟩
  refine W.region ?_
  refine vp hS hE rfl rfl fun a hE => ?_
  obtain ⟨x157, hx158, hq53⟩ := bindS hq53
  refine vP hS hE (Gives.catS hE rfl rfl hx158) rfl fun a hE => ?_
  refine vp hS hE rfl rfl fun a hE => WL.nil ?_
  refine W.region ?_
  refine vP hS hE (Gives.inc hE rfl (by have := h1.small; omega)) rfl fun a hE => ?_
  refine vp hS hE rfl rfl fun a hE => WL.nil ?_
  replace hS := hS.tail
  subst hK65
  exact ⟨rest57.length, Nat.lt_succ_self _, rest57, k55 + 1, x157, rfl, hd58, hq53, hE.pick _ ⟨rfl, rfl, rfl, rfl, rfl, trivial⟩, hS⟩
 clear hE hS a w; rintro a w ⟨q64, rfl, hE, hS⟩
 dsimp only at hr
 refine W.seq (W.region (v2 hS hE rfl rfl rfl rfl fun a hE => ?_))
 refine vp hS hE rfl rfl fun a hE => WL.nil ?_
 refine W.ret ?_
 refine finG (fn := Tryz.f20) (rs := [.tmp 4, .tmp 5]) (vs := [_, _]) hE rfl ⟨rfl, rfl, trivial⟩ ?_
 obtain rfl := Option.some.inj hr
 replace hS := hS.tail
 exact ⟨rfl, hS⟩
set_option maxHeartbeats 8000000 in
theorem Fishref2numbersIn_ok  {w : World} {s : Sg} {R : List HP} {x0 : ApiDay} {a0_0 : Option Addr} {c0_0 : Nat} {a0_1 : Option Addr} {c0_1 : Nat} (hS : St w s (R)) (h0_0 : Sl 4 RApiTrain s a0_0 c0_0 x0.Trains) (h0_1 : Sl 1 (RL 1 (RI .i64)) s a0_1 c0_1 x0.Turns) {r : (List (List Int))} (hr : Fishref2numbersIn x0 = some r) :
  Calls Tryz.prog 101 [.agg (List.toArray [.slice a0_0 x0.Trains.length c0_0, .slice a0_1 x0.Turns.length c0_1])].toArray w (fun e w => ∃ (a0 : Option Addr) (c0 n0 : Nat) (cs0 : List Value) (t : Sg), e = .returned (.slice a0 n0 c0) ∧ s.Le t ∧ Ev 1 (RL 1 (RI .i64)) t cs0 r ∧ r.length = n0 ∧ St w t (vecC 65 1 a0 c0 n0 cs0 :: R)) := by
 refine enter Tryz.func101 rfl rfl rfl fun a hE => ?_
 rw [Fishref2numbersIn] at hr
 refine W.seq (W.region ?_)
 refine WL.box hE hS (runs_plain rfl) rfl rfl rfl ?_; clear hE hS a w; intro b51 a w hE hS
 refine vp hS hE rfl rfl fun a hE => WL.nil ?_
 refine W.seq (W.region ?_)
 replace hS := hS.vecNil 65 1
 refine vp hS hE rfl rfl fun a hE => WL.nil ?_
 refine W.seq ?_
 refine W.seq (W.region (vP hS hE (Gives.fld hE rfl fl25_0) rfl fun a hE => ?_))
 refine vP hS hE (Gives.loadB hE 1 rfl rfl rfl ty22) rfl fun a hE => ?_
 refine vP hS hE (Gives.len hE rfl sl22) rfl fun a hE => ?_
 refine vp hS hE rfl rfl fun a hE => WL.nil ?_
 obtain ⟨q54, hq53, hr⟩ := bindS hr
 refine W.cut (fun a w => ∃ (q64 : List (List Int)), ∃ (a65 : Option Addr), ∃ (c66 : Nat), ∃ (n68 : Nat), ∃ (cs69 : List Value), ∃ (s62 : Sg), s.Le s62 ∧ q64 = q54 ∧ Ev 1 (RL 1 (RI .i64)) s62 cs69 q64 ∧ q64.length = n68 ∧ Rep a 52 [(1, pp b51), (3, .slice a65 n68 c66)] ∧ St w s62 (vecC 65 1 a65 c66 n68 cs69 :: pc b51 #[.slice a0_0 x0.Trains.length c0_0, .slice a0_1 x0.Turns.length c0_1] 25 :: R)) ?_ ?_
 ·refine W.block ?_
  refine W.loop (fun m a w => ∃ (rest57 : List ApiTrain) (k55 : Nat), ∃ (q64 : List (List Int)), ∃ (a65 : Option Addr), ∃ (c66 : Nat), ∃ (n68 : Nat), ∃ (cs69 : List Value), ∃ (s62 : Sg), rest57.length = m ∧ x0.Trains.drop k55 = rest57 ∧ s.Le s62 ∧ Fishref2numbersIn.loop1 rest57 q64 = some q54 ∧ Ev 1 (RL 1 (RI .i64)) s62 cs69 q64 ∧ q64.length = n68 ∧ Rep a 52 [(1, pp b51), (3, .slice a65 n68 c66), (9, .slice a0_0 x0.Trains.length c0_0), (10, vi ((x0.Trains).length : Int)), (11, vi ((k55 : Nat) : Int))] ∧ St w s62 (vecC 65 1 a65 c66 n68 cs69 :: pc b51 #[.slice a0_0 x0.Trains.length c0_0, .slice a0_1 x0.Turns.length c0_1] 25 :: R)) (m := x0.Trains.length) ⟨x0.Trains, 0, [], none, 0, 0, [], s, rfl, rfl, (Sg.Le.refl _), hq53, (Ev.nil), (rfl), hE.pick _ ⟨rfl, rfl, rfl, rfl, rfl, trivial⟩, hS⟩ ?_
  clear hE hS a w hq53; rintro m61 a w ⟨rest57, k55, q64, a65, c66, n68, cs69, s62, rfl, hd58, hle63, hq53, h67, rfl, hE, hS⟩
  refine W.gen fun K71 hK71 => ?_
  replace h0_0 := Sl.mono RApiTrain.mono hle63 h0_0
  replace h0_1 := Sl.mono (RL.mono RI.mono) hle63 h0_1
  rcases rest57 with _ | ⟨x56, rest57⟩
  ·have hlt59 := drop_nil hd58
   refine W.seq (W.region (vp hS hE rfl rfl fun a hE => WL.nil ?_))
   refine W.seq ?_
   refine W.condF hE rfl (decide_eq_false (by omega)) ?_
   subst hK71
   refine W.exit rfl ?_
   exact ⟨q64, a65, c66, q64.length, cs69, s62, hle63, Option.some.inj hq53, h67, rfl, hE.pick _ ⟨rfl, rfl, trivial⟩, hS⟩
  obtain ⟨hlt59, hx60, hd58⟩ := drop_cons hd58
  rw [Fishref2numbersIn.loop1] at hq53
  refine W.seq (W.region (vp hS hE rfl rfl fun a hE => WL.nil ?_))
  refine W.seq ?_
  refine W.condT hE rfl (decide_eq_true (by omega)) ?_
  refine W.skip ?_
  refine W.seq ?_
  refine W.block ?_
  refine W.seq (W.region ?_)
  obtain ⟨cs72, hl73, hR74, hat75⟩ := h0_0.at hx60
  obtain ⟨a76, c77, a79, c80, rfl, h78, h81⟩ := hR74
  refine vP hS hE (Gives.idx hE k55 rfl rfl sl22 rfl hlt59 (h0_0.aok hlt59)) rfl fun a hE => ?_
  refine vP hS hE (Gives.loadA hE rfl (fun w h => hat75 w _ h) ty111) rfl fun a hE => ?_
  refine WL.alloc hE hS (runs_plain rfl) zr111 rfl ?_; clear hE hS a w; intro b82 a w hE hS
  refine WL.storeI hE hS 0 rfl [vi x56.No, vi x56.Stock, .slice a76 x56.Stops.length c77, .slice a79 x56.Legs.length c80] (runs_plain rfl) rfl rfl rfl ty111 rfl rfl rfl rfl ?_; clear hE hS a w; intro a w hE hS
  refine WL.nil ?_
  refine W.seq (W.region (vp hS hE rfl rfl fun a hE => ?_))
  refine vP hS hE (Gives.fld hE rfl fl111_0) rfl fun a hE => ?_
  refine vP hS hE (Gives.loadB hE 0 rfl rfl rfl ty3) rfl fun a hE => ?_
  refine vP hS hE (Gives.fld hE rfl fl111_1) rfl fun a hE => ?_
  refine vP hS hE (Gives.loadB hE 0 rfl rfl rfl ty3) rfl fun a hE => ?_
  refine WL.lit hE hS (e := 3) (es := 1) (vs := [(0, vi x56.No), (1, vi x56.Stock)]) (cs := [vi x56.No, vi x56.Stock]) (runs_plain rfl) rfl (by kernel_rfl) rfl ?_; clear hE hS a w; intro b83 a w hE hS
  replace hS := hS.ptVec (es := 1) (m := 2) rfl (by decide)
  have h85 : Ev 1 (RI .i64) s62 [vi x56.No, vi x56.Stock] [x56.No, x56.Stock] := (Ev.cons (c1 := [vi x56.No]) rfl rfl (Ev.cons (c1 := [vi x56.Stock]) rfl rfl (Ev.nil)))
  have hF := hS.fixD RI.mono 0 rfl h85 (rfl); clear hS; obtain ⟨s86, hle87, hS, h88⟩ := hF
  replace h0_0 := Sl.mono RApiTrain.mono hle87 h0_0
  replace h78 := Sl.mono RApiStop.mono hle87 h78
  replace h81 := Sl.mono (RL.mono RI.mono) hle87 h81
  replace h67 := Ev.mono (RL.mono RI.mono) hle87 h67
  replace h0_1 := Sl.mono (RL.mono RI.mono) hle87 h0_1
  refine WL.lit hE hS (e := 65) (es := 1) (vs := [(0, .slice (some ⟨b83, 0, none⟩) 2 2)]) (cs := [.slice (some ⟨b83, 0, none⟩) 2 2]) (runs_plain rfl) rfl (by kernel_rfl) rfl ?_; clear hE hS a w; intro b89 a w hE hS
  obtain ⟨x90, hx91, hq53⟩ := bindS hq53
  refine WL.appD hE hS 1 (m := 1) (runs_plain rfl) rfl rfl rfl ap23 rfl h67 rfl (xs := [[x56.No, x56.Stock]]) (Ev.cons (c1 := [.slice (some ⟨b83, 0, none⟩) 2 2]) ⟨_, _, rfl, h88⟩ rfl (Ev.nil)) rfl rfl hx91 rfl ?_; clear hE hS a w; intro a92 c93 cs94 a w h95 hE hS
  refine vp hS hE rfl rfl fun a hE => WL.nil ?_
  refine W.seq ?_
  refine W.seq (W.region (vP hS hE (Gives.fld hE rfl fl111_2) rfl fun a hE => ?_))
  refine vP hS hE (Gives.loadB hE 0 rfl rfl rfl ty109) rfl fun a hE => ?_
  refine vP hS hE (Gives.len hE rfl sl109) rfl fun a hE => ?_
  refine vp hS hE rfl rfl fun a hE => WL.nil ?_
  obtain ⟨q97, hq96, hq53⟩ := bindS hq53
  refine W.cut (fun a w => ∃ (q107 : List (List Int)), ∃ (a108 : Option Addr), ∃ (c109 : Nat), ∃ (n111 : Nat), ∃ (cs112 : List Value), ∃ (s105 : Sg), s86.Le s105 ∧ q107 = q97 ∧ Ev 1 (RL 1 (RI .i64)) s105 cs112 q107 ∧ q107.length = n111 ∧ Rep a 52 [(1, pp b51), (3, .slice a108 n111 c109), (5, pp b82), (9, .slice a0_0 x0.Trains.length c0_0), (10, vi ((x0.Trains).length : Int)), (11, vi ((k55 : Nat) : Int))] ∧ St w s105 (pc b82 #[vi x56.No, vi x56.Stock, .slice a76 x56.Stops.length c77, .slice a79 x56.Legs.length c80] 111 :: vecC 65 1 a108 c109 n111 cs112 :: pc b51 #[.slice a0_0 x0.Trains.length c0_0, .slice a0_1 x0.Turns.length c0_1] 25 :: R)) ?_ ?_
  ·refine W.block ?_
   refine W.loop (fun m a w => ∃ (rest100 : List ApiStop) (k98 : Nat), ∃ (q107 : List (List Int)), ∃ (a108 : Option Addr), ∃ (c109 : Nat), ∃ (n111 : Nat), ∃ (cs112 : List Value), ∃ (s105 : Sg), rest100.length = m ∧ x56.Stops.drop k98 = rest100 ∧ s86.Le s105 ∧ Fishref2numbersIn.loop2 rest100 q107 = some q97 ∧ Ev 1 (RL 1 (RI .i64)) s105 cs112 q107 ∧ q107.length = n111 ∧ Rep a 52 [(1, pp b51), (3, .slice a108 n111 c109), (5, pp b82), (9, .slice a0_0 x0.Trains.length c0_0), (10, vi ((x0.Trains).length : Int)), (11, vi ((k55 : Nat) : Int)), (24, .slice a76 x56.Stops.length c77), (25, vi ((x56.Stops).length : Int)), (26, vi ((k98 : Nat) : Int))] ∧ St w s105 (pc b82 #[vi x56.No, vi x56.Stock, .slice a76 x56.Stops.length c77, .slice a79 x56.Legs.length c80] 111 :: vecC 65 1 a108 c109 n111 cs112 :: pc b51 #[.slice a0_0 x0.Trains.length c0_0, .slice a0_1 x0.Turns.length c0_1] 25 :: R)) (m := x56.Stops.length) ⟨x56.Stops, 0, x90, a92, c93, x90.length, cs94, s86, rfl, rfl, (Sg.Le.refl _), hq96, h95, (rfl), hE.pick _ ⟨rfl, rfl, rfl, rfl, rfl, rfl, rfl, rfl, rfl, trivial⟩, hS⟩ ?_
   clear hE hS a w hq96; rintro m104 a w ⟨rest100, k98, q107, a108, c109, n111, cs112, s105, rfl, hd101, hle106, hq96, h110, rfl, hE, hS⟩
   refine W.gen fun K114 hK114 => ?_
   replace h0_0 := Sl.mono RApiTrain.mono hle106 h0_0
   replace h78 := Sl.mono RApiStop.mono hle106 h78
   replace h81 := Sl.mono (RL.mono RI.mono) hle106 h81
   replace h88 := Sl.mono RI.mono hle106 h88
   replace h95 := Ev.mono (RL.mono RI.mono) hle106 h95
   replace h0_1 := Sl.mono (RL.mono RI.mono) hle106 h0_1
   rcases rest100 with _ | ⟨x99, rest100⟩
   ·have hlt102 := drop_nil hd101
    refine W.seq (W.region (vp hS hE rfl rfl fun a hE => WL.nil ?_))
    refine W.seq ?_
    refine W.condF hE rfl (decide_eq_false (by omega)) ?_
    subst hK114
    refine W.exit rfl ?_
    exact ⟨q107, a108, c109, q107.length, cs112, s105, hle106, Option.some.inj hq96, h110, rfl, hE.pick _ ⟨rfl, rfl, rfl, rfl, rfl, rfl, trivial⟩, hS⟩
   obtain ⟨hlt102, hx103, hd101⟩ := drop_cons hd101
   rw [Fishref2numbersIn.loop2] at hq96
   refine W.seq (W.region (vp hS hE rfl rfl fun a hE => WL.nil ?_))
   refine W.seq ?_
   refine W.condT hE rfl (decide_eq_true (by omega)) ?_
   refine W.skip ?_
   refine W.seq ?_
   refine W.block ?_
   refine W.seq (W.region ?_)
   obtain ⟨cs115, hl116, hR117, hat118⟩ := h78.at hx103
   subst hR117
   refine vP hS hE (Gives.idx hE k98 rfl rfl sl109 rfl hlt102 (h78.aok hlt102)) rfl fun a hE => ?_
   refine vP hS hE (Gives.loadA hE rfl (fun w h => hat118 w _ h) ty99) rfl fun a hE => ?_
   refine WL.alloc hE hS (runs_plain rfl) zr99 rfl ?_; clear hE hS a w; intro b119 a w hE hS
   refine WL.storeI hE hS 0 rfl (ApiStop.cells x99) (runs_plain rfl) rfl rfl rfl ty99 rfl rfl rfl rfl ?_; clear hE hS a w; intro a w hE hS
   refine WL.nil ?_
   refine W.region ?_
   refine vp hS hE rfl rfl fun a hE => ?_
   refine vP hS hE (Gives.fld hE rfl fl99_0) rfl fun a hE => ?_
   refine vP hS hE (Gives.loadB hE 0 rfl rfl rfl ty3) rfl fun a hE => ?_
   refine vP hS hE (Gives.fld hE rfl fl99_1) rfl fun a hE => ?_
   refine vP hS hE (Gives.loadB hE 0 rfl rfl rfl ty3) rfl fun a hE => ?_
   refine vP hS hE (Gives.fld hE rfl fl99_2) rfl fun a hE => ?_
   refine vP hS hE (Gives.loadB hE 0 rfl rfl rfl ty3) rfl fun a hE => ?_
   refine vP hS hE (Gives.fld hE rfl fl99_3) rfl fun a hE => ?_
   refine vP hS hE (Gives.loadB hE 0 rfl rfl rfl ty3) rfl fun a hE => ?_
   refine WL.lit hE hS (e := 3) (es := 1) (vs := [(0, vi x99.Station), (1, vi x99.Track), (2, vi x99.Arr), (3, vi x99.Dep)]) (cs := [vi x99.Station, vi x99.Track, vi x99.Arr, vi x99.Dep]) (runs_plain rfl) rfl (by kernel_rfl) rfl ?_; clear hE hS a w; intro b120 a w hE hS
   replace hS := hS.ptVec (es := 1) (m := 4) rfl (by decide)
   have h122 : Ev 1 (RI .i64) s105 [vi x99.Station, vi x99.Track, vi x99.Arr, vi x99.Dep] [x99.Station, x99.Track, x99.Arr, x99.Dep] := (Ev.cons (c1 := [vi x99.Station]) rfl rfl (Ev.cons (c1 := [vi x99.Track]) rfl rfl (Ev.cons (c1 := [vi x99.Arr]) rfl rfl (Ev.cons (c1 := [vi x99.Dep]) rfl rfl (Ev.nil)))))
   have hF := hS.fixD RI.mono 0 rfl h122 (rfl); clear hS; obtain ⟨s123, hle124, hS, h125⟩ := hF
   replace h0_0 := Sl.mono RApiTrain.mono hle124 h0_0
   replace h78 := Sl.mono RApiStop.mono hle124 h78
   replace h81 := Sl.mono (RL.mono RI.mono) hle124 h81
   replace h110 := Ev.mono (RL.mono RI.mono) hle124 h110
   replace h0_1 := Sl.mono (RL.mono RI.mono) hle124 h0_1
   refine WL.lit hE hS (e := 65) (es := 1) (vs := [(0, .slice (some ⟨b120, 0, none⟩) 4 4)]) (cs := [.slice (some ⟨b120, 0, none⟩) 4 4]) (runs_plain rfl) rfl (by kernel_rfl) rfl ?_; clear hE hS a w; intro b126 a w hE hS
   obtain ⟨x127, hx128, hq96⟩ := bindS hq96
   refine WL.appD hE hS 2 (m := 1) (runs_plain rfl) rfl rfl rfl ap23 rfl h110 rfl (xs := [[x99.Station, x99.Track, x99.Arr, x99.Dep]]) (Ev.cons (c1 := [.slice (some ⟨b120, 0, none⟩) 4 4]) ⟨_, _, rfl, h125⟩ rfl (Ev.nil)) rfl rfl hx128 rfl ?_; clear hE hS a w; intro a129 c130 cs131 a w h132 hE hS
   refine vp hS hE rfl rfl fun a hE => WL.nil ?_
   refine W.region ?_
   refine vP hS hE (Gives.inc hE rfl (by have := h78.small; omega)) rfl fun a hE => ?_
   refine vp hS hE rfl rfl fun a hE => WL.nil ?_
   replace hS := hS.tail
   subst hK114
   exact ⟨rest100.length, Nat.lt_succ_self _, rest100, k98 + 1, x127, a129, c130, x127.length, cs131, s123, rfl, hd101, (Sg.Le.trans hle106 hle124), hq96, h132, (rfl), hE.pick _ ⟨rfl, rfl, rfl, rfl, rfl, rfl, rfl, rfl, rfl, trivial⟩, hS⟩
  clear hE hS a w; rintro a w ⟨q107, a108, c109, n111, cs112, s105, hle106, rfl, h110, rfl, hE, hS⟩
  replace h0_0 := Sl.mono RApiTrain.mono hle106 h0_0
  replace h78 := Sl.mono RApiStop.mono hle106 h78
  replace h81 := Sl.mono (RL.mono RI.mono) hle106 h81
  replace h88 := Sl.mono RI.mono hle106 h88
  replace h95 := Ev.mono (RL.mono RI.mono) hle106 h95
  replace h0_1 := Sl.mono (RL.mono RI.mono) hle106 h0_1
  refine W.region ?_
  refine vp hS hE rfl rfl fun a hE => ?_
  refine vP hS hE (Gives.fld hE rfl fl111_3) rfl fun a hE => ?_
  refine vP hS hE (Gives.loadB hE 0 rfl rfl rfl ty23) rfl fun a hE => ?_
  obtain ⟨x133, hx134, hq53⟩ := bindS hq53
  refine WL.appS hE hS 1 (runs_plain rfl) rfl rfl (xs := x56.Legs) rfl rfl ap23 RL.one h110 rfl h81 hx134 rfl ?_; clear hE hS a w; intro a135 c136 cs137 a w h138 hE hS
  refine vp hS hE rfl rfl fun a hE => WL.nil ?_
  refine W.region ?_
  refine vP hS hE (Gives.inc hE rfl (by have := h0_0.small; omega)) rfl fun a hE => ?_
  refine vp hS hE rfl rfl fun a hE => WL.nil ?_
  replace hS := hS.tail
  subst hK71
  exact ⟨rest57.length, Nat.lt_succ_self _, rest57, k55 + 1, x133, a135, c136, x133.length, cs137, s105, rfl, hd58, (Sg.Le.trans (Sg.Le.trans hle63 hle87) hle106), hq53, h138, (rfl), hE.pick _ ⟨rfl, rfl, rfl, rfl, rfl, trivial⟩, hS⟩
 clear hE hS a w; rintro a w ⟨q64, a65, c66, n68, cs69, s62, hle63, rfl, h67, rfl, hE, hS⟩
 replace h0_0 := Sl.mono RApiTrain.mono hle63 h0_0
 replace h0_1 := Sl.mono (RL.mono RI.mono) hle63 h0_1
 refine W.seq (W.region (vp hS hE rfl rfl fun a hE => ?_))
 refine vP hS hE (Gives.fld hE rfl fl25_1) rfl fun a hE => ?_
 refine vP hS hE (Gives.loadB hE 1 rfl rfl rfl ty23) rfl fun a hE => ?_
 obtain ⟨x139, hx140, hr⟩ := bindS hr
 refine WL.appS hE hS 0 (runs_plain rfl) rfl rfl (xs := x0.Turns) rfl rfl ap23 RL.one h67 rfl h0_1 hx140 rfl ?_; clear hE hS a w; intro a141 c142 cs143 a w h144 hE hS
 refine vp hS hE rfl rfl fun a hE => WL.nil ?_
 refine W.ret ?_
 refine finG (fn := Tryz.f101) (rs := [.tmp 2]) (vs := [_]) hE rfl ⟨rfl, trivial⟩ ?_
 obtain rfl := Option.some.inj hr
 replace hS := hS.dropAt 1
 exact ⟨a141, c142, x139.length, cs143, s62, rfl, hle63, h144, (rfl), hS⟩
set_option maxHeartbeats 8000000 in
theorem Fishref2TextFault_ok  {w : World} {s : Sg} {R : List HP} {x0 : ApiDay} {a0_0 : Option Addr} {c0_0 : Nat} {a0_1 : Option Addr} {c0_1 : Nat} (hS : St w s (R)) (h0_0 : Sl 4 RApiTrain s a0_0 c0_0 x0.Trains) (h0_1 : Sl 1 (RL 1 (RI .i64)) s a0_1 c0_1 x0.Turns) {r : Int} (hr : Fishref2TextFault x0 = some r) :
  Calls Tryz.prog 50 [.agg (List.toArray [.slice a0_0 x0.Trains.length c0_0, .slice a0_1 x0.Turns.length c0_1])].toArray w (fun e w => e = .returned (vi r) ∧ St w s (R)) := by
 refine enter Tryz.func50 rfl rfl rfl fun a hE => ?_
 rw [Fishref2TextFault] at hr
 refine W.seq (W.region ?_)
 refine WL.box hE hS (runs_plain rfl) rfl rfl rfl ?_; clear hE hS a w; intro b51 a w hE hS
 refine vp hS hE rfl rfl fun a hE => WL.nil ?_
 refine W.seq ?_
 refine W.seq ?_
 obtain ⟨q53, hq52, hr⟩ := bndS hr
 refine W.cut (fun a w => ∃ (q56 : Bool), q56 = q53 ∧ Rep a 105 [(1, pp b51), (24, .bool q56)] ∧ St w s (pc b51 #[.slice a0_0 x0.Trains.length c0_0, .slice a0_1 x0.Turns.length c0_1] 25 :: R)) ?_ ?_
 ·refine W.gen fun K57 hK57 => ?_
  refine W.region ?_
  refine vP hS hE (Gives.fld hE rfl fl25_0) rfl fun a hE => ?_
  refine vP hS hE (Gives.loadB hE 0 rfl rfl rfl ty22) rfl fun a hE => ?_
  refine vP hS hE (Gives.len hE rfl sl22) rfl fun a hE => ?_
  refine v2 hS hE rfl rfl rfl rfl fun a hE => ?_
  rcases Bool.eq_false_or_eq_true (decide (((x0.Trains).length : Int) > 12)) with hg58 | hg58
  ·replace hq52 := iteT hg58 hq52
   refine nO hE rfl rfl rfl (by rw [hg58]; decide) rfl fun a hE => ?_
   refine nO hE rfl rfl rfl (by rw [hg58]; decide) rfl fun a hE => ?_
   refine nO hE rfl rfl rfl (by rw [hg58]; decide) rfl fun a hE => ?_
   refine nO hE rfl rfl rfl (by rw [hg58]; decide) rfl fun a hE => ?_
   refine vP hS hE (Gives.pickT hE rfl hg58 rfl) rfl fun a hE => WL.nil ?_
   subst hK57
   exact ⟨true, hq52, hE.pick _ ⟨rfl, rfl, trivial⟩, hS⟩
  replace hq52 := iteF hg58 hq52
  refine WL.vS hS hE (runs_if hE rfl rfl rfl hg58) (Gives.fld hE rfl fl25_1) rfl fun a hE => ?_
  refine WL.vS hS hE (runs_if hE rfl rfl rfl hg58) (Gives.loadB hE 0 rfl rfl rfl ty23) rfl fun a hE => ?_
  refine WL.vS hS hE (runs_if hE rfl rfl rfl hg58) (Gives.len hE rfl sl23) rfl fun a hE => ?_
  refine WL.vS hS hE (runs_if hE rfl rfl rfl hg58) (Gives.p hE rfl) rfl fun a hE => ?_
  refine vP hS hE (Gives.pickF hE rfl hg58 rfl) rfl fun a hE => WL.nil ?_
  subst hK57
  exact ⟨decide (((x0.Turns).length : Int) > 8), hq52, hE.pick _ ⟨rfl, rfl, trivial⟩, hS⟩
 clear hE hS a w; rintro a w ⟨q56, rfl, hE, hS⟩
 refine W.cond hE rfl (fun hc59 => ?_) (fun hc59 => ?_)
 ·replace hr := iteT hc59 hr
  refine W.seq (W.region (vp hS hE rfl rfl fun a hE => WL.nil ?_))
  refine W.ret ?_
  refine finG (fn := Tryz.f50) (rs := [.tmp 2]) (vs := [_]) hE rfl ⟨rfl, trivial⟩ ?_
  obtain rfl := Option.some.inj hr
  replace hS := hS.tail
  exact ⟨rfl, hS⟩
 replace hr := iteF hc59 hr
 refine W.skip ?_
 refine W.seq ?_
 refine W.seq (W.region (vP hS hE (Gives.fld hE rfl fl25_0) rfl fun a hE => ?_))
 refine vP hS hE (Gives.loadB hE 0 rfl rfl rfl ty22) rfl fun a hE => ?_
 refine vP hS hE (Gives.len hE rfl sl22) rfl fun a hE => ?_
 refine vp hS hE rfl rfl fun a hE => WL.nil ?_
 obtain ⟨q61, hq60, hr⟩ := bndS hr
 refine W.cut (fun a w => (.next ()) = q61 ∧ Rep a 105 [(1, pp b51)] ∧ St w s (pc b51 #[.slice a0_0 x0.Trains.length c0_0, .slice a0_1 x0.Turns.length c0_1] 25 :: R)) ?_ ?_
 ·refine W.block ?_
  refine W.loop (fun m a w => ∃ (rest64 : List ApiTrain) (k62 : Nat), rest64.length = m ∧ x0.Trains.drop k62 = rest64 ∧ Fishref2TextFault.loop1 rest64 = q61 ∧ Rep a 105 [(1, pp b51), (26, .slice a0_0 x0.Trains.length c0_0), (27, vi ((x0.Trains).length : Int)), (28, vi ((k62 : Nat) : Int))] ∧ St w s (pc b51 #[.slice a0_0 x0.Trains.length c0_0, .slice a0_1 x0.Turns.length c0_1] 25 :: R)) (m := x0.Trains.length) ⟨x0.Trains, 0, rfl, rfl, hq60, hE.pick _ ⟨rfl, rfl, rfl, rfl, trivial⟩, hS⟩ ?_
  clear hE hS a w hq60; rintro m68 a w ⟨rest64, k62, rfl, hd65, hq60, hE, hS⟩
  refine W.gen fun K71 hK71 => ?_
  rcases rest64 with _ | ⟨x63, rest64⟩
  ·have hlt66 := drop_nil hd65
   refine W.seq (W.region (vp hS hE rfl rfl fun a hE => WL.nil ?_))
   refine W.seq ?_
   refine W.condF hE rfl (decide_eq_false (by omega)) ?_
   subst hK71
   refine W.exit rfl ?_
   exact ⟨hq60, hE.pick _ ⟨rfl, trivial⟩, hS⟩
  obtain ⟨hlt66, hx67, hd65⟩ := drop_cons hd65
  rw [Fishref2TextFault.loop1] at hq60
  refine W.seq (W.region (vp hS hE rfl rfl fun a hE => WL.nil ?_))
  refine W.seq ?_
  refine W.condT hE rfl (decide_eq_true (by omega)) ?_
  refine W.skip ?_
  refine W.seq ?_
  refine W.block ?_
  refine W.seq (W.region ?_)
  obtain ⟨cs72, hl73, hR74, hat75⟩ := h0_0.at hx67
  obtain ⟨a76, c77, a79, c80, rfl, h78, h81⟩ := hR74
  refine vP hS hE (Gives.idx hE k62 rfl rfl sl22 rfl hlt66 (h0_0.aok hlt66)) rfl fun a hE => ?_
  refine vP hS hE (Gives.loadA hE rfl (fun w h => hat75 w _ h) ty111) rfl fun a hE => ?_
  refine WL.alloc hE hS (runs_plain rfl) zr111 rfl ?_; clear hE hS a w; intro b82 a w hE hS
  refine WL.storeI hE hS 0 rfl [vi x63.No, vi x63.Stock, .slice a76 x63.Stops.length c77, .slice a79 x63.Legs.length c80] (runs_plain rfl) rfl rfl rfl ty111 rfl rfl rfl rfl ?_; clear hE hS a w; intro a w hE hS
  refine WL.nil ?_
  refine W.seq ?_
  refine W.seq ?_
  obtain ⟨q84, hq83, hq60⟩ := bndS hq60
  refine W.cut (fun a w => ∃ (q87 : Bool), q87 = q84 ∧ Rep a 105 [(1, pp b51), (4, pp b82), (26, .slice a0_0 x0.Trains.length c0_0), (27, vi ((x0.Trains).length : Int)), (28, vi ((k62 : Nat) : Int)), (45, .bool q87)] ∧ St w s (pc b82 #[vi x63.No, vi x63.Stock, .slice a76 x63.Stops.length c77, .slice a79 x63.Legs.length c80] 111 :: pc b51 #[.slice a0_0 x0.Trains.length c0_0, .slice a0_1 x0.Turns.length c0_1] 25 :: R)) ?_ ?_
  ·refine W.gen fun K88 hK88 => ?_
   refine W.region ?_
   refine vP hS hE (Gives.fld hE rfl fl111_2) rfl fun a hE => ?_
   refine vP hS hE (Gives.loadB hE 0 rfl rfl rfl ty109) rfl fun a hE => ?_
   refine vP hS hE (Gives.len hE rfl sl109) rfl fun a hE => ?_
   refine v2 hS hE rfl rfl rfl rfl fun a hE => ?_
   rcases Bool.eq_false_or_eq_true (((x63.Stops).length : Int) == 0) with hg89 | hg89
   ·replace hq83 := iteT hg89 hq83
    refine nO hE rfl rfl rfl (by rw [hg89]; decide) rfl fun a hE => ?_
    refine nO hE rfl rfl rfl (by rw [hg89]; decide) rfl fun a hE => ?_
    refine nO hE rfl rfl rfl (by rw [hg89]; decide) rfl fun a hE => ?_
    refine nO hE rfl rfl rfl (by rw [hg89]; decide) rfl fun a hE => ?_
    refine nO hE rfl rfl rfl (by rw [hg89]; decide) rfl fun a hE => ?_
    refine nO hE rfl rfl rfl (by rw [hg89]; decide) rfl fun a hE => ?_
    refine nO hE rfl rfl rfl (by rw [hg89]; decide) rfl fun a hE => ?_
    refine nO hE rfl rfl rfl (by rw [hg89]; decide) rfl fun a hE => ?_
    refine vP hS hE (Gives.pickT hE rfl hg89 rfl) rfl fun a hE => WL.nil ?_
    subst hK88
    exact ⟨true, hq83, hE.pick _ ⟨rfl, rfl, rfl, rfl, rfl, rfl, trivial⟩, hS⟩
   replace hq83 := iteF hg89 hq83
   refine WL.vS hS hE (runs_if hE rfl rfl rfl hg89) (Gives.fld hE rfl fl111_3) rfl fun a hE => ?_
   refine WL.vS hS hE (runs_if hE rfl rfl rfl hg89) (Gives.loadB hE 0 rfl rfl rfl ty23) rfl fun a hE => ?_
   refine WL.vS hS hE (runs_if hE rfl rfl rfl hg89) (Gives.len hE rfl sl23) rfl fun a hE => ?_
   refine WL.vS hS hE (runs_if hE rfl rfl rfl hg89) (Gives.fld hE rfl fl111_2) rfl fun a hE => ?_
   refine WL.vS hS hE (runs_if hE rfl rfl rfl hg89) (Gives.loadB hE 0 rfl rfl rfl ty109) rfl fun a hE => ?_
   refine WL.vS hS hE (runs_if hE rfl rfl rfl hg89) (Gives.len hE rfl sl109) rfl fun a hE => ?_
   refine WL.vS hS hE (runs_if hE rfl rfl rfl hg89) (Gives.p hE rfl) rfl fun a hE => ?_
   refine WL.vS hS hE (runs_if hE rfl rfl rfl hg89) (Gives.p hE rfl) rfl fun a hE => ?_
   refine vP hS hE (Gives.pickF hE rfl hg89 rfl) rfl fun a hE => WL.nil ?_
   subst hK88
   exact ⟨(((x63.Legs).length : Int) != (w64 (((x63.Stops).length : Int) - 1))), hq83, hE.pick _ ⟨rfl, rfl, rfl, rfl, rfl, rfl, trivial⟩, hS⟩
  clear hE hS a w; rintro a w ⟨q87, rfl, hE, hS⟩
  refine W.cond hE rfl (fun hc90 => ?_) (fun hc90 => ?_)
  ·replace hq60 := iteT hc90 hq60
   refine W.seq (W.region (vp hS hE rfl rfl fun a hE => WL.nil ?_))
   refine W.ret ?_
   subst hK71
   rw [← hq60] at hr
   dsimp only at hr
   refine finG (fn := Tryz.f50) (rs := [.tmp 2]) (vs := [_]) hE rfl ⟨rfl, trivial⟩ ?_
   obtain rfl := Option.some.inj hr
   replace hS := hS.tail
   replace hS := hS.tail
   exact ⟨rfl, hS⟩
  replace hq60 := iteF hc90 hq60
  refine W.skip ?_
  refine W.seq ?_
  refine W.seq (W.region (vP hS hE (Gives.fld hE rfl fl111_3) rfl fun a hE => ?_))
  refine vP hS hE (Gives.loadB hE 0 rfl rfl rfl ty23) rfl fun a hE => ?_
  refine vP hS hE (Gives.len hE rfl sl23) rfl fun a hE => ?_
  refine vp hS hE rfl rfl fun a hE => WL.nil ?_
  obtain ⟨q92, hq91, hq60⟩ := bndS hq60
  refine W.cut (fun a w => (.next ()) = q92 ∧ Rep a 105 [(1, pp b51), (4, pp b82), (26, .slice a0_0 x0.Trains.length c0_0), (27, vi ((x0.Trains).length : Int)), (28, vi ((k62 : Nat) : Int))] ∧ St w s (pc b82 #[vi x63.No, vi x63.Stock, .slice a76 x63.Stops.length c77, .slice a79 x63.Legs.length c80] 111 :: pc b51 #[.slice a0_0 x0.Trains.length c0_0, .slice a0_1 x0.Turns.length c0_1] 25 :: R)) ?_ ?_
  ·refine W.block ?_
   refine W.loop (fun m a w => ∃ (rest95 : List (List Int)) (k93 : Nat), rest95.length = m ∧ x63.Legs.drop k93 = rest95 ∧ Fishref2TextFault.loop2 rest95 = q92 ∧ Rep a 105 [(1, pp b51), (4, pp b82), (26, .slice a0_0 x0.Trains.length c0_0), (27, vi ((x0.Trains).length : Int)), (28, vi ((k62 : Nat) : Int)), (47, .slice a79 x63.Legs.length c80), (48, vi ((x63.Legs).length : Int)), (49, vi ((k93 : Nat) : Int))] ∧ St w s (pc b82 #[vi x63.No, vi x63.Stock, .slice a76 x63.Stops.length c77, .slice a79 x63.Legs.length c80] 111 :: pc b51 #[.slice a0_0 x0.Trains.length c0_0, .slice a0_1 x0.Turns.length c0_1] 25 :: R)) (m := x63.Legs.length) ⟨x63.Legs, 0, rfl, rfl, hq91, hE.pick _ ⟨rfl, rfl, rfl, rfl, rfl, rfl, rfl, rfl, trivial⟩, hS⟩ ?_
   clear hE hS a w hq91; rintro m99 a w ⟨rest95, k93, rfl, hd96, hq91, hE, hS⟩
   refine W.gen fun K102 hK102 => ?_
   rcases rest95 with _ | ⟨x94, rest95⟩
   ·have hlt97 := drop_nil hd96
    refine W.seq (W.region (vp hS hE rfl rfl fun a hE => WL.nil ?_))
    refine W.seq ?_
    refine W.condF hE rfl (decide_eq_false (by omega)) ?_
    subst hK102
    refine W.exit rfl ?_
    exact ⟨hq91, hE.pick _ ⟨rfl, rfl, rfl, rfl, rfl, trivial⟩, hS⟩
   obtain ⟨hlt97, hx98, hd96⟩ := drop_cons hd96
   rw [Fishref2TextFault.loop2] at hq91
   refine W.seq (W.region (vp hS hE rfl rfl fun a hE => WL.nil ?_))
   refine W.seq ?_
   refine W.condT hE rfl (decide_eq_true (by omega)) ?_
   refine W.skip ?_
   refine W.seq ?_
   refine W.block ?_
   refine W.seq (W.region ?_)
   obtain ⟨cs103, hl104, hR105, hat106⟩ := h81.at hx98
   obtain ⟨a107, c108, rfl, h109⟩ := hR105
   refine vP hS hE (Gives.idx hE k93 rfl rfl sl23 rfl hlt97 (h81.aok hlt97)) rfl fun a hE => ?_
   refine vP hS hE (Gives.load1 hE rfl (fun w h => hat106 w _ h) ty65) rfl fun a hE => ?_
   refine vp hS hE rfl rfl fun a hE => WL.nil ?_
   refine W.seq (W.region (vp hS hE rfl rfl fun a hE => ?_))
   refine vP hS hE (Gives.len hE rfl sl65) rfl fun a hE => ?_
   refine vp hS hE rfl rfl fun a hE => WL.nil ?_
   refine W.cond hE rfl (fun hc110 => ?_) (fun hc110 => ?_)
   ·replace hq91 := iteT hc110 hq91
    refine W.seq (W.region (vp hS hE rfl rfl fun a hE => WL.nil ?_))
    refine W.ret ?_
    subst hK102
    subst hK71
    rw [← hq91] at hq60
    dsimp only at hq60
    rw [← hq60] at hr
    dsimp only at hr
    refine finG (fn := Tryz.f50) (rs := [.tmp 2]) (vs := [_]) hE rfl ⟨rfl, trivial⟩ ?_
    obtain rfl := Option.some.inj hr
    replace hS := hS.tail
    replace hS := hS.tail
    exact ⟨rfl, hS⟩
   replace hq91 := iteF hc110 hq91
   refine W.skip ?_
   refine W.region ?_
   refine vP hS hE (Gives.inc hE rfl (by have := h81.small; omega)) rfl fun a hE => ?_
   refine vp hS hE rfl rfl fun a hE => WL.nil ?_
   subst hK102
   exact ⟨rest95.length, Nat.lt_succ_self _, rest95, k93 + 1, rfl, hd96, hq91, hE.pick _ ⟨rfl, rfl, rfl, rfl, rfl, rfl, rfl, rfl, trivial⟩, hS⟩
  clear hE hS a w; rintro a w ⟨rfl, hE, hS⟩
  dsimp only at hq60
  refine W.seq ?_
  refine W.seq (W.region (vP hS hE (Gives.fld hE rfl fl111_2) rfl fun a hE => ?_))
  refine vP hS hE (Gives.loadB hE 0 rfl rfl rfl ty109) rfl fun a hE => ?_
  refine vP hS hE (Gives.len hE rfl sl109) rfl fun a hE => ?_
  refine vp hS hE rfl rfl fun a hE => WL.nil ?_
  refine W.cond hE rfl (fun hc111 => ?_) (fun hc111 => ?_)
  ·replace hq60 := iteT hc111 hq60
   refine W.seq (W.region (vp hS hE rfl rfl fun a hE => WL.nil ?_))
   refine W.ret ?_
   subst hK71
   rw [← hq60] at hr
   dsimp only at hr
   refine finG (fn := Tryz.f50) (rs := [.tmp 2]) (vs := [_]) hE rfl ⟨rfl, trivial⟩ ?_
   obtain rfl := Option.some.inj hr
   replace hS := hS.tail
   replace hS := hS.tail
   exact ⟨rfl, hS⟩
  replace hq60 := iteF hc111 hq60
  refine W.skip ?_
  refine W.seq (W.region (vP hS hE (Gives.fld hE rfl fl111_3) rfl fun a hE => ?_))
  refine vP hS hE (Gives.loadB hE 0 rfl rfl rfl ty23) rfl fun a hE => ?_
  refine vP hS hE (Gives.len hE rfl sl23) rfl fun a hE => ?_
  refine vp hS hE rfl rfl fun a hE => WL.nil ?_
  obtain ⟨q113, hq112, hq60⟩ := bndS hq60
  refine W.cut (fun a w => (.next ()) = q113 ∧ Rep a 105 [(1, pp b51), (26, .slice a0_0 x0.Trains.length c0_0), (27, vi ((x0.Trains).length : Int)), (28, vi ((k62 : Nat) : Int))] ∧ St w s (pc b82 #[vi x63.No, vi x63.Stock, .slice a76 x63.Stops.length c77, .slice a79 x63.Legs.length c80] 111 :: pc b51 #[.slice a0_0 x0.Trains.length c0_0, .slice a0_1 x0.Turns.length c0_1] 25 :: R)) ?_ ?_
  ·refine W.block ?_
   refine W.loop (fun m a w => ∃ (rest116 : List (List Int)) (k114 : Nat), rest116.length = m ∧ x63.Legs.drop k114 = rest116 ∧ Fishref2TextFault.loop3 rest116 = q113 ∧ Rep a 105 [(1, pp b51), (26, .slice a0_0 x0.Trains.length c0_0), (27, vi ((x0.Trains).length : Int)), (28, vi ((k62 : Nat) : Int)), (62, .slice a79 x63.Legs.length c80), (63, vi ((x63.Legs).length : Int)), (64, vi ((k114 : Nat) : Int))] ∧ St w s (pc b82 #[vi x63.No, vi x63.Stock, .slice a76 x63.Stops.length c77, .slice a79 x63.Legs.length c80] 111 :: pc b51 #[.slice a0_0 x0.Trains.length c0_0, .slice a0_1 x0.Turns.length c0_1] 25 :: R)) (m := x63.Legs.length) ⟨x63.Legs, 0, rfl, rfl, hq112, hE.pick _ ⟨rfl, rfl, rfl, rfl, rfl, rfl, rfl, trivial⟩, hS⟩ ?_
   clear hE hS a w hq112; rintro m120 a w ⟨rest116, k114, rfl, hd117, hq112, hE, hS⟩
   refine W.gen fun K123 hK123 => ?_
   rcases rest116 with _ | ⟨x115, rest116⟩
   ·have hlt118 := drop_nil hd117
    refine W.seq (W.region (vp hS hE rfl rfl fun a hE => WL.nil ?_))
    refine W.seq ?_
    refine W.condF hE rfl (decide_eq_false (by omega)) ?_
    subst hK123
    refine W.exit rfl ?_
    exact ⟨hq112, hE.pick _ ⟨rfl, rfl, rfl, rfl, trivial⟩, hS⟩
   obtain ⟨hlt118, hx119, hd117⟩ := drop_cons hd117
   rw [Fishref2TextFault.loop3] at hq112
   refine W.seq (W.region (vp hS hE rfl rfl fun a hE => WL.nil ?_))
   refine W.seq ?_
   refine W.condT hE rfl (decide_eq_true (by omega)) ?_
   refine W.skip ?_
   refine W.seq ?_
   refine W.block ?_
   refine W.seq (W.region ?_)
   obtain ⟨cs124, hl125, hR126, hat127⟩ := h81.at hx119
   obtain ⟨a128, c129, rfl, h130⟩ := hR126
   refine vP hS hE (Gives.idx hE k114 rfl rfl sl23 rfl hlt118 (h81.aok hlt118)) rfl fun a hE => ?_
   refine vP hS hE (Gives.load1 hE rfl (fun w h => hat127 w _ h) ty65) rfl fun a hE => ?_
   refine vp hS hE rfl rfl fun a hE => WL.nil ?_
   refine W.seq (W.region (vp hS hE rfl rfl fun a hE => ?_))
   refine vP hS hE (Gives.len hE rfl sl65) rfl fun a hE => ?_
   refine vp hS hE rfl rfl fun a hE => WL.nil ?_
   refine W.cond hE rfl (fun hc131 => ?_) (fun hc131 => ?_)
   ·replace hq112 := iteT hc131 hq112
    refine W.seq (W.region (vp hS hE rfl rfl fun a hE => WL.nil ?_))
    refine W.ret ?_
    subst hK123
    subst hK71
    rw [← hq112] at hq60
    dsimp only at hq60
    rw [← hq60] at hr
    dsimp only at hr
    refine finG (fn := Tryz.f50) (rs := [.tmp 2]) (vs := [_]) hE rfl ⟨rfl, trivial⟩ ?_
    obtain rfl := Option.some.inj hr
    replace hS := hS.tail
    replace hS := hS.tail
    exact ⟨rfl, hS⟩
   replace hq112 := iteF hc131 hq112
   refine W.skip ?_
   refine W.region ?_
   refine vP hS hE (Gives.inc hE rfl (by have := h81.small; omega)) rfl fun a hE => ?_
   refine vp hS hE rfl rfl fun a hE => WL.nil ?_
   subst hK123
   exact ⟨rest116.length, Nat.lt_succ_self _, rest116, k114 + 1, rfl, hd117, hq112, hE.pick _ ⟨rfl, rfl, rfl, rfl, rfl, rfl, rfl, trivial⟩, hS⟩
  clear hE hS a w; rintro a w ⟨rfl, hE, hS⟩
  dsimp only at hq60
  refine W.region ?_
  refine vP hS hE (Gives.inc hE rfl (by have := h0_0.small; omega)) rfl fun a hE => ?_
  refine vp hS hE rfl rfl fun a hE => WL.nil ?_
  replace hS := hS.tail
  subst hK71
  exact ⟨rest64.length, Nat.lt_succ_self _, rest64, k62 + 1, rfl, hd65, hq60, hE.pick _ ⟨rfl, rfl, rfl, rfl, trivial⟩, hS⟩
 clear hE hS a w; rintro a w ⟨rfl, hE, hS⟩
 dsimp only at hr
 refine W.seq ?_
 refine W.seq (W.region (vP hS hE (Gives.fld hE rfl fl25_1) rfl fun a hE => ?_))
 refine vP hS hE (Gives.loadB hE 0 rfl rfl rfl ty23) rfl fun a hE => ?_
 refine vP hS hE (Gives.len hE rfl sl23) rfl fun a hE => ?_
 refine vp hS hE rfl rfl fun a hE => WL.nil ?_
 obtain ⟨q133, hq132, hr⟩ := bndS hr
 refine W.cut (fun a w => (.next ()) = q133 ∧ Rep a 105 [(1, pp b51)] ∧ St w s (pc b51 #[.slice a0_0 x0.Trains.length c0_0, .slice a0_1 x0.Turns.length c0_1] 25 :: R)) ?_ ?_
 ·refine W.block ?_
  refine W.loop (fun m a w => ∃ (rest136 : List (List Int)) (k134 : Nat), rest136.length = m ∧ x0.Turns.drop k134 = rest136 ∧ Fishref2TextFault.loop4 rest136 = q133 ∧ Rep a 105 [(1, pp b51), (74, .slice a0_1 x0.Turns.length c0_1), (75, vi ((x0.Turns).length : Int)), (76, vi ((k134 : Nat) : Int))] ∧ St w s (pc b51 #[.slice a0_0 x0.Trains.length c0_0, .slice a0_1 x0.Turns.length c0_1] 25 :: R)) (m := x0.Turns.length) ⟨x0.Turns, 0, rfl, rfl, hq132, hE.pick _ ⟨rfl, rfl, rfl, rfl, trivial⟩, hS⟩ ?_
  clear hE hS a w hq132; rintro m140 a w ⟨rest136, k134, rfl, hd137, hq132, hE, hS⟩
  refine W.gen fun K143 hK143 => ?_
  rcases rest136 with _ | ⟨x135, rest136⟩
  ·have hlt138 := drop_nil hd137
   refine W.seq (W.region (vp hS hE rfl rfl fun a hE => WL.nil ?_))
   refine W.seq ?_
   refine W.condF hE rfl (decide_eq_false (by omega)) ?_
   subst hK143
   refine W.exit rfl ?_
   exact ⟨hq132, hE.pick _ ⟨rfl, trivial⟩, hS⟩
  obtain ⟨hlt138, hx139, hd137⟩ := drop_cons hd137
  rw [Fishref2TextFault.loop4] at hq132
  refine W.seq (W.region (vp hS hE rfl rfl fun a hE => WL.nil ?_))
  refine W.seq ?_
  refine W.condT hE rfl (decide_eq_true (by omega)) ?_
  refine W.skip ?_
  refine W.seq ?_
  refine W.block ?_
  refine W.seq (W.region ?_)
  obtain ⟨cs144, hl145, hR146, hat147⟩ := h0_1.at hx139
  obtain ⟨a148, c149, rfl, h150⟩ := hR146
  refine vP hS hE (Gives.idx hE k134 rfl rfl sl23 rfl hlt138 (h0_1.aok hlt138)) rfl fun a hE => ?_
  refine vP hS hE (Gives.load1 hE rfl (fun w h => hat147 w _ h) ty65) rfl fun a hE => ?_
  refine vp hS hE rfl rfl fun a hE => WL.nil ?_
  refine W.seq ?_
  refine W.seq (W.region (vp hS hE rfl rfl fun a hE => ?_))
  refine vP hS hE (Gives.len hE rfl sl65) rfl fun a hE => ?_
  refine vp hS hE rfl rfl fun a hE => WL.nil ?_
  refine W.cond hE rfl (fun hc151 => ?_) (fun hc151 => ?_)
  ·replace hq132 := iteT hc151 hq132
   refine W.seq (W.region (vp hS hE rfl rfl fun a hE => WL.nil ?_))
   refine W.ret ?_
   subst hK143
   rw [← hq132] at hr
   dsimp only at hr
   refine finG (fn := Tryz.f50) (rs := [.tmp 2]) (vs := [_]) hE rfl ⟨rfl, trivial⟩ ?_
   obtain rfl := Option.some.inj hr
   replace hS := hS.tail
   exact ⟨rfl, hS⟩
  replace hq132 := iteF hc151 hq132
  refine W.skip ?_
  refine W.seq (W.region (vp hS hE rfl rfl fun a hE => ?_))
  refine vP hS hE (Gives.len hE rfl sl65) rfl fun a hE => ?_
  refine vp hS hE rfl rfl fun a hE => WL.nil ?_
  refine W.cond hE rfl (fun hc152 => ?_) (fun hc152 => ?_)
  ·replace hq132 := iteT hc152 hq132
   refine W.seq (W.region (vp hS hE rfl rfl fun a hE => WL.nil ?_))
   refine W.ret ?_
   subst hK143
   rw [← hq132] at hr
   dsimp only at hr
   refine finG (fn := Tryz.f50) (rs := [.tmp 2]) (vs := [_]) hE rfl ⟨rfl, trivial⟩ ?_
   obtain rfl := Option.some.inj hr
   replace hS := hS.tail
   exact ⟨rfl, hS⟩
  replace hq132 := iteF hc152 hq132
  refine W.skip ?_
  refine W.region ?_
  refine vP hS hE (Gives.inc hE rfl (by have := h0_1.small; omega)) rfl fun a hE => ?_
  refine vp hS hE rfl rfl fun a hE => WL.nil ?_
  subst hK143
  exact ⟨rest136.length, Nat.lt_succ_self _, rest136, k134 + 1, rfl, hd137, hq132, hE.pick _ ⟨rfl, rfl, rfl, rfl, trivial⟩, hS⟩
 clear hE hS a w; rintro a w ⟨rfl, hE, hS⟩
 dsimp only at hr
 refine W.seq ?_
 refine W.seq (W.region (vP hS hE (Gives.loadBA hE 0 rfl rfl ty25) rfl fun a hE => ?_))
 obtain ⟨q153, hq154, hr⟩ := bindS hr
 have hc_ := Fishref2numbersIn_ok hS h0_0 h0_1 hq154
 refine WL.fnq hE (hc_) (runs_plain rfl) bd101 rfl rfl rfl ?_
 clear hE hS hc_; rintro e w ⟨a155, c156, n157, cs158, s161, rfl, hle162, h159, rfl, hS⟩; refine ⟨_, rfl, ?_⟩; clear a; intro a hE
 replace h0_0 := Sl.mono RApiTrain.mono hle162 h0_0
 replace h0_1 := Sl.mono (RL.mono RI.mono) hle162 h0_1
 refine vP hS hE (Gives.len hE rfl sl23) rfl fun a hE => ?_
 refine vp hS hE rfl rfl fun a hE => WL.nil ?_
 have hb174 : q153.length ≤ 9223372036854775807 := by have := hS.vecCap 0 rfl; unfold maxLen at this; omega
 obtain ⟨q164, hq163, hr⟩ := bindS hr
 refine W.cut (fun a w => (.next ()) = q164 ∧ Rep a 105 [] ∧ St w s161 (vecC 65 1 a155 c156 q153.length cs158 :: pc b51 #[.slice a0_0 x0.Trains.length c0_0, .slice a0_1 x0.Turns.length c0_1] 25 :: R)) ?_ ?_
 ·refine W.block ?_
  refine W.loop (fun m a w => ∃ (rest167 : Nat) (k165 : Nat), rest167 = m ∧ k165 + rest167 = q153.length ∧ Fishref2TextFault.loop5 q153 rest167 k165 = some q164 ∧ Rep a 105 [(88, .slice a155 q153.length c156), (89, vi ((q153.length : Nat) : Int)), (90, vi ((k165 : Nat) : Int))] ∧ St w s161 (vecC 65 1 a155 c156 q153.length cs158 :: pc b51 #[.slice a0_0 x0.Trains.length c0_0, .slice a0_1 x0.Turns.length c0_1] 25 :: R)) (m := q153.length) ⟨q153.length, 0, rfl, by omega, hq163, hE.pick _ ⟨rfl, rfl, rfl, trivial⟩, hS⟩ ?_
  clear hE hS a w hq163; rintro m171 a w ⟨rest167, k165, rfl, hd168, hq163, hE, hS⟩
  refine W.gen fun K175 hK175 => ?_
  rcases rest167 with _ | rest167
  ·skip
   refine W.seq (W.region (vp hS hE rfl rfl fun a hE => WL.nil ?_))
   refine W.seq ?_
   refine W.condF hE rfl (decide_eq_false (by omega)) ?_
   subst hK175
   refine W.exit rfl ?_
   exact ⟨Option.some.inj hq163, hE.pick _ trivial, hS⟩
  have hlt169 : k165 < q153.length := by omega
  rw [Fishref2TextFault.loop5] at hq163
  refine W.seq (W.region (vp hS hE rfl rfl fun a hE => WL.nil ?_))
  refine W.seq ?_
  refine W.condT hE rfl (decide_eq_true (by omega)) ?_
  refine W.skip ?_
  refine W.seq ?_
  refine W.block ?_
  refine W.seq (W.region ?_)
  obtain ⟨x176, hx177, hq163⟩ := bindS hq163
  obtain ⟨hi178, hlt179, hy180⟩ := gx_some hx177
  obtain ⟨vs181, hl182, hR183, hd184, hget185⟩ := h159.at hy180
  obtain ⟨a186, c187, rfl, h188⟩ := hR183
  refine vP hS hE (Gives.idx hE ((((k165 : Nat) : Int)).toNat) rfl rfl sl23 hi178 (by omega) (hS.vecAok 0 rfl (by omega : (((k165 : Nat) : Int)).toNat < q153.length))) rfl fun a hE => ?_
  refine vP hS hE (Gives.load1 hE rfl (fun w h => St.vecSees h 0 rfl ((((k165 : Nat) : Int)).toNat * 1) _ hget185) ty65) rfl fun a hE => ?_
  refine vp hS hE rfl rfl fun a hE => WL.nil ?_
  refine W.seq (W.region (vp hS hE rfl rfl fun a hE => ?_))
  refine vP hS hE (Gives.len hE rfl sl65) rfl fun a hE => ?_
  refine vp hS hE rfl rfl fun a hE => WL.nil ?_
  obtain ⟨q190, hq189, hq163⟩ := bndS hq163
  refine W.cut (fun a w => (.next ()) = q190 ∧ Rep a 105 [(88, .slice a155 q153.length c156), (89, vi ((q153.length : Nat) : Int)), (90, vi ((k165 : Nat) : Int))] ∧ St w s161 (vecC 65 1 a155 c156 q153.length cs158 :: pc b51 #[.slice a0_0 x0.Trains.length c0_0, .slice a0_1 x0.Turns.length c0_1] 25 :: R)) ?_ ?_
  ·refine W.block ?_
   refine W.loop (fun m a w => ∃ (rest193 : List Int) (k191 : Nat), rest193.length = m ∧ x176.drop k191 = rest193 ∧ Fishref2TextFault.loop6 rest193 = q190 ∧ Rep a 105 [(88, .slice a155 q153.length c156), (89, vi ((q153.length : Nat) : Int)), (90, vi ((k165 : Nat) : Int)), (94, .slice a186 x176.length c187), (95, vi ((x176).length : Int)), (96, vi ((k191 : Nat) : Int))] ∧ St w s161 (vecC 65 1 a155 c156 q153.length cs158 :: pc b51 #[.slice a0_0 x0.Trains.length c0_0, .slice a0_1 x0.Turns.length c0_1] 25 :: R)) (m := x176.length) ⟨x176, 0, rfl, rfl, hq189, hE.pick _ ⟨rfl, rfl, rfl, rfl, rfl, rfl, trivial⟩, hS⟩ ?_
   clear hE hS a w hq189; rintro m197 a w ⟨rest193, k191, rfl, hd194, hq189, hE, hS⟩
   refine W.gen fun K200 hK200 => ?_
   rcases rest193 with _ | ⟨x192, rest193⟩
   ·have hlt195 := drop_nil hd194
    refine W.seq (W.region (vp hS hE rfl rfl fun a hE => WL.nil ?_))
    refine W.seq ?_
    refine W.condF hE rfl (decide_eq_false (by omega)) ?_
    subst hK200
    refine W.exit rfl ?_
    exact ⟨hq189, hE.pick _ ⟨rfl, rfl, rfl, trivial⟩, hS⟩
   obtain ⟨hlt195, hx196, hd194⟩ := drop_cons hd194
   rw [Fishref2TextFault.loop6] at hq189
   refine W.seq (W.region (vp hS hE rfl rfl fun a hE => WL.nil ?_))
   refine W.seq ?_
   refine W.condT hE rfl (decide_eq_true (by omega)) ?_
   refine W.skip ?_
   refine W.seq ?_
   refine W.block ?_
   refine W.seq (W.region ?_)
   obtain ⟨cs201, hl202, hR203, hat204⟩ := h188.at hx196
   subst hR203
   refine vP hS hE (Gives.idx hE k191 rfl rfl sl65 rfl hlt195 (h188.aok hlt195)) rfl fun a hE => ?_
   refine vP hS hE (Gives.load1 hE rfl (fun w h => hat204 w _ h) ty3) rfl fun a hE => ?_
   refine vp hS hE rfl rfl fun a hE => WL.nil ?_
   refine W.seq (W.region (vp hS hE rfl rfl fun a hE => ?_))
   refine WL.fnq hE (Fishref2within_ok hS  rfl (r := Fishref2within x192 0 999999)) (runs_plain rfl) bd51 rfl rfl rfl ?_
   clear hE hS; rintro e w ⟨rfl, hS⟩; refine ⟨_, rfl, ?_⟩; clear a; intro a hE
   refine vp hS hE rfl rfl fun a hE => WL.nil ?_
   refine W.cond hE rfl (fun hc205 => ?_) (fun hc205 => ?_)
   ·replace hq189 := iteT hc205 hq189
    refine W.seq (W.region (vp hS hE rfl rfl fun a hE => WL.nil ?_))
    refine W.ret ?_
    subst hK200
    subst hK175
    rw [← hq189] at hq163
    dsimp only at hq163
    rw [← Option.some.inj hq163] at hr
    dsimp only at hr
    refine finG (fn := Tryz.f50) (rs := [.tmp 2]) (vs := [_]) hE rfl ⟨rfl, trivial⟩ ?_
    obtain rfl := Option.some.inj hr
    replace hS := hS.tail
    replace hS := hS.tail
    exact ⟨rfl, (hS.down hle162)⟩
   replace hq189 := iteF hc205 hq189
   refine W.skip ?_
   refine W.region ?_
   refine vP hS hE (Gives.inc hE rfl (by have := h188.small; omega)) rfl fun a hE => ?_
   refine vp hS hE rfl rfl fun a hE => WL.nil ?_
   subst hK200
   exact ⟨rest193.length, Nat.lt_succ_self _, rest193, k191 + 1, rfl, hd194, hq189, hE.pick _ ⟨rfl, rfl, rfl, rfl, rfl, rfl, trivial⟩, hS⟩
  clear hE hS a w; rintro a w ⟨rfl, hE, hS⟩
  dsimp only at hq163
  refine W.region ?_
  refine vP hS hE (Gives.inc hE rfl (by omega)) rfl fun a hE => ?_
  refine vp hS hE rfl rfl fun a hE => WL.nil ?_
  subst hK175
  exact ⟨rest167, Nat.lt_succ_self _, rest167, k165 + 1, rfl, (by omega), hq163, hE.pick _ ⟨rfl, rfl, rfl, trivial⟩, hS⟩
 clear hE hS a w; rintro a w ⟨rfl, hE, hS⟩
 dsimp only at hr
 refine W.seq (W.region (vp hS hE rfl rfl fun a hE => WL.nil ?_))
 refine W.ret ?_
 refine finG (fn := Tryz.f50) (rs := [.tmp 2]) (vs := [_]) hE rfl ⟨rfl, trivial⟩ ?_
 obtain rfl := Option.some.inj hr
 replace hS := hS.tail
 replace hS := hS.tail
 exact ⟨rfl, (hS.down hle162)⟩
set_option maxHeartbeats 8000000 in
theorem Fishref2GuideFault_ok  {w : World} {s : Sg} {R : List HP} {x0 : ApiDay} {a0_0 : Option Addr} {c0_0 : Nat} {a0_1 : Option Addr} {c0_1 : Nat} (hS : St w s (R)) (h0_0 : Sl 4 RApiTrain s a0_0 c0_0 x0.Trains) (h0_1 : Sl 1 (RL 1 (RI .i64)) s a0_1 c0_1 x0.Turns) {r : Int} (hr : Fishref2GuideFault x0 = some r) :
  Calls Tryz.prog 8 [.agg (List.toArray [.slice a0_0 x0.Trains.length c0_0, .slice a0_1 x0.Turns.length c0_1])].toArray w (fun e w => e = .returned (vi r) ∧ St w s (R)) := by
 refine enter Tryz.func8 rfl rfl rfl fun a hE => ?_
 rw [Fishref2GuideFault] at hr
 refine W.seq (W.region ?_)
 refine WL.box hE hS (runs_plain rfl) rfl rfl rfl ?_; clear hE hS a w; intro b51 a w hE hS
 refine vp hS hE rfl rfl fun a hE => WL.nil ?_
 refine W.seq ?_
 refine W.seq (W.region (vP hS hE (Gives.loadBA hE 0 rfl rfl ty25) rfl fun a hE => ?_))
 obtain ⟨q52, hq53, hr⟩ := bindS hr
 have hc_ := Fishref2TextFault_ok hS h0_0 h0_1 hq53
 refine WL.fnq hE (hc_) (runs_plain rfl) bd50 rfl rfl rfl ?_
 clear hE hS hc_; rintro e w ⟨rfl, hS⟩; refine ⟨_, rfl, ?_⟩; clear a; intro a hE
 refine vp hS hE rfl rfl fun a hE => WL.nil ?_
 refine W.seq (W.region (v2 hS hE rfl rfl rfl rfl fun a hE => WL.nil ?_))
 refine W.cond hE rfl (fun hc54 => ?_) (fun hc54 => ?_)
 ·replace hr := iteT hc54 hr
  refine W.seq (W.region (v2 hS hE rfl rfl rfl rfl fun a hE => WL.nil ?_))
  refine W.ret ?_
  refine finG (fn := Tryz.f8) (rs := [.tmp 2]) (vs := [_]) hE rfl ⟨rfl, trivial⟩ ?_
  obtain rfl := Option.some.inj hr
  replace hS := hS.tail
  exact ⟨rfl, hS⟩
 replace hr := iteF hc54 hr
 refine W.skip ?_
 refine W.seq ?_
 refine W.seq (W.region (vP hS hE (Gives.fld hE rfl fl25_0) rfl fun a hE => ?_))
 refine vP hS hE (Gives.loadB hE 0 rfl rfl rfl ty22) rfl fun a hE => ?_
 refine vP hS hE (Gives.len hE rfl sl22) rfl fun a hE => ?_
 refine vp hS hE rfl rfl fun a hE => WL.nil ?_
 obtain ⟨q56, hq55, hr⟩ := bindS hr
 refine W.cut (fun a w => (.next ()) = q56 ∧ Rep a 93 [] ∧ St w s (pc b51 #[.slice a0_0 x0.Trains.length c0_0, .slice a0_1 x0.Turns.length c0_1] 25 :: R)) ?_ ?_
 ·refine W.block ?_
  refine W.loop (fun m a w => ∃ (rest59 : List ApiTrain) (k57 : Nat), rest59.length = m ∧ x0.Trains.drop k57 = rest59 ∧ Fishref2GuideFault.loop1 x0 rest59 k57 = some q56 ∧ Rep a 93 [(1, pp b51), (16, .slice a0_0 x0.Trains.length c0_0), (17, vi ((x0.Trains).length : Int)), (18, vi ((k57 : Nat) : Int))] ∧ St w s (pc b51 #[.slice a0_0 x0.Trains.length c0_0, .slice a0_1 x0.Turns.length c0_1] 25 :: R)) (m := x0.Trains.length) ⟨x0.Trains, 0, rfl, rfl, hq55, hE.pick _ ⟨rfl, rfl, rfl, rfl, trivial⟩, hS⟩ ?_
  clear hE hS a w hq55; rintro m63 a w ⟨rest59, k57, rfl, hd60, hq55, hE, hS⟩
  refine W.gen fun K66 hK66 => ?_
  rcases rest59 with _ | ⟨x58, rest59⟩
  ·have hlt61 := drop_nil hd60
   refine W.seq (W.region (vp hS hE rfl rfl fun a hE => WL.nil ?_))
   refine W.seq ?_
   refine W.condF hE rfl (decide_eq_false (by omega)) ?_
   subst hK66
   refine W.exit rfl ?_
   exact ⟨Option.some.inj hq55, hE.pick _ trivial, hS⟩
  obtain ⟨hlt61, hx62, hd60⟩ := drop_cons hd60
  rw [Fishref2GuideFault.loop1] at hq55
  refine W.seq (W.region (vp hS hE rfl rfl fun a hE => WL.nil ?_))
  refine W.seq ?_
  refine W.condT hE rfl (decide_eq_true (by omega)) ?_
  refine W.skip ?_
  refine W.seq ?_
  refine W.block ?_
  refine W.seq (W.region (vp hS hE rfl rfl fun a hE => ?_))
  obtain ⟨cs67, hl68, hR69, hat70⟩ := h0_0.at hx62
  obtain ⟨a71, c72, a74, c75, rfl, h73, h76⟩ := hR69
  refine vP hS hE (Gives.idx hE k57 rfl rfl sl22 rfl hlt61 (h0_0.aok hlt61)) rfl fun a hE => ?_
  refine vP hS hE (Gives.loadA hE rfl (fun w h => hat70 w _ h) ty111) rfl fun a hE => ?_
  refine WL.alloc hE hS (runs_plain rfl) zr111 rfl ?_; clear hE hS a w; intro b77 a w hE hS
  refine vp hS hE rfl rfl fun a hE => ?_
  refine WL.storeI hE hS 0 rfl [vi x58.No, vi x58.Stock, .slice a71 x58.Stops.length c72, .slice a74 x58.Legs.length c75] (runs_plain rfl) rfl rfl rfl ty111 rfl rfl rfl rfl ?_; clear hE hS a w; intro a w hE hS
  refine WL.nil ?_
  refine W.seq ?_
  refine W.seq (W.region (vP hS hE (Gives.fld hE rfl fl111_0) rfl fun a hE => ?_))
  refine vP hS hE (Gives.loadB hE 0 rfl rfl rfl ty3) rfl fun a hE => ?_
  refine WL.fnq hE (Fishref2within_ok hS  rfl (r := Fishref2within x58.No 1 9999)) (runs_plain rfl) bd51 rfl rfl rfl ?_
  clear hE hS; rintro e w ⟨rfl, hS⟩; refine ⟨_, rfl, ?_⟩; clear a; intro a hE
  refine vp hS hE rfl rfl fun a hE => WL.nil ?_
  refine W.cond hE rfl (fun hc78 => ?_) (fun hc78 => ?_)
  ·replace hq55 := iteT hc78 hq55
   refine W.seq (W.region (vp hS hE rfl rfl fun a hE => WL.nil ?_))
   refine W.ret ?_
   subst hK66
   rw [← Option.some.inj hq55] at hr
   dsimp only at hr
   refine finG (fn := Tryz.f8) (rs := [.tmp 2]) (vs := [_]) hE rfl ⟨rfl, trivial⟩ ?_
   obtain rfl := Option.some.inj hr
   replace hS := hS.tail
   replace hS := hS.tail
   exact ⟨rfl, hS⟩
  replace hq55 := iteF hc78 hq55
  refine W.skip ?_
  refine W.seq ?_
  refine W.seq (W.region (vP hS hE (Gives.fld hE rfl fl25_0) rfl fun a hE => ?_))
  refine vP hS hE (Gives.loadB hE 1 rfl rfl rfl ty22) rfl fun a hE => ?_
  refine vp hS hE rfl rfl fun a hE => ?_
  obtain ⟨x79, hx80, hq55⟩ := bindS hq55
  obtain ⟨a81, c82, heq83, h84⟩ := h0_0.cut hx80
  obtain ⟨h85, h86, h87, _⟩ := cutl_some hx80
  refine vP hS hE (Gives.slH hE sl22 rfl rfl h86 (Int.le_trans h87 (by have := h0_0.len; omega)) heq83) rfl fun a hE => ?_
  refine vP hS hE (Gives.len hE rfl sl22) rfl fun a hE => ?_
  refine vp hS hE rfl rfl fun a hE => WL.nil ?_
  obtain ⟨q89, hq88, hq55⟩ := bndS hq55
  refine W.cut (fun a w => (.next ()) = q89 ∧ Rep a 93 [(1, pp b51), (5, pp b77), (16, .slice a0_0 x0.Trains.length c0_0), (17, vi ((x0.Trains).length : Int)), (18, vi ((k57 : Nat) : Int))] ∧ St w s (pc b77 #[vi x58.No, vi x58.Stock, .slice a71 x58.Stops.length c72, .slice a74 x58.Legs.length c75] 111 :: pc b51 #[.slice a0_0 x0.Trains.length c0_0, .slice a0_1 x0.Turns.length c0_1] 25 :: R)) ?_ ?_
  ·refine W.block ?_
   refine W.loop (fun m a w => ∃ (rest92 : List ApiTrain) (k90 : Nat), rest92.length = m ∧ x79.drop k90 = rest92 ∧ Fishref2GuideFault.loop2 x58 rest92 = q89 ∧ Rep a 93 [(1, pp b51), (5, pp b77), (16, .slice a0_0 x0.Trains.length c0_0), (17, vi ((x0.Trains).length : Int)), (18, vi ((k57 : Nat) : Int)), (30, .slice a81 x79.length c82), (31, vi ((x79).length : Int)), (32, vi ((k90 : Nat) : Int))] ∧ St w s (pc b77 #[vi x58.No, vi x58.Stock, .slice a71 x58.Stops.length c72, .slice a74 x58.Legs.length c75] 111 :: pc b51 #[.slice a0_0 x0.Trains.length c0_0, .slice a0_1 x0.Turns.length c0_1] 25 :: R)) (m := x79.length) ⟨x79, 0, rfl, rfl, hq88, hE.pick _ ⟨rfl, rfl, rfl, rfl, rfl, rfl, rfl, rfl, trivial⟩, hS⟩ ?_
   clear hE hS a w hq88; rintro m96 a w ⟨rest92, k90, rfl, hd93, hq88, hE, hS⟩
   refine W.gen fun K99 hK99 => ?_
   rcases rest92 with _ | ⟨x91, rest92⟩
   ·have hlt94 := drop_nil hd93
    refine W.seq (W.region (vp hS hE rfl rfl fun a hE => WL.nil ?_))
    refine W.seq ?_
    refine W.condF hE rfl (decide_eq_false (by omega)) ?_
    subst hK99
    refine W.exit rfl ?_
    exact ⟨hq88, hE.pick _ ⟨rfl, rfl, rfl, rfl, rfl, trivial⟩, hS⟩
   obtain ⟨hlt94, hx95, hd93⟩ := drop_cons hd93
   rw [Fishref2GuideFault.loop2] at hq88
   refine W.seq (W.region (vp hS hE rfl rfl fun a hE => WL.nil ?_))
   refine W.seq ?_
   refine W.condT hE rfl (decide_eq_true (by omega)) ?_
   refine W.skip ?_
   refine W.seq ?_
   refine W.block ?_
   refine W.seq (W.region ?_)
   obtain ⟨cs100, hl101, hR102, hat103⟩ := h84.at hx95
   obtain ⟨a104, c105, a107, c108, rfl, h106, h109⟩ := hR102
   refine vP hS hE (Gives.idx hE k90 rfl rfl sl22 rfl hlt94 (h84.aok hlt94)) rfl fun a hE => ?_
   refine vP hS hE (Gives.loadA hE rfl (fun w h => hat103 w _ h) ty111) rfl fun a hE => ?_
   refine WL.alloc hE hS (runs_plain rfl) zr111 rfl ?_; clear hE hS a w; intro b110 a w hE hS
   refine WL.storeI hE hS 0 rfl [vi x91.No, vi x91.Stock, .slice a104 x91.Stops.length c105, .slice a107 x91.Legs.length c108] (runs_plain rfl) rfl rfl rfl ty111 rfl rfl rfl rfl ?_; clear hE hS a w; intro a w hE hS
   refine WL.nil ?_
   refine W.seq (W.region (vP hS hE (Gives.fld hE rfl fl111_0) rfl fun a hE => ?_))
   refine vP hS hE (Gives.loadB hE 0 rfl rfl rfl ty3) rfl fun a hE => ?_
   refine vP hS hE (Gives.fld hE rfl fl111_0) rfl fun a hE => ?_
   refine vP hS hE (Gives.loadB hE 1 rfl rfl rfl ty3) rfl fun a hE => ?_
   refine vp hS hE rfl rfl fun a hE => WL.nil ?_
   refine W.cond hE rfl (fun hc111 => ?_) (fun hc111 => ?_)
   ·replace hq88 := iteT hc111 hq88
    refine W.seq (W.region (vp hS hE rfl rfl fun a hE => WL.nil ?_))
    refine W.ret ?_
    subst hK99
    subst hK66
    rw [← hq88] at hq55
    dsimp only at hq55
    rw [← Option.some.inj hq55] at hr
    dsimp only at hr
    refine finG (fn := Tryz.f8) (rs := [.tmp 2]) (vs := [_]) hE rfl ⟨rfl, trivial⟩ ?_
    obtain rfl := Option.some.inj hr
    replace hS := hS.tail
    replace hS := hS.tail
    replace hS := hS.tail
    exact ⟨rfl, hS⟩
   replace hq88 := iteF hc111 hq88
   refine W.skip ?_
   refine W.region ?_
   refine vP hS hE (Gives.inc hE rfl (by have := h84.small; omega)) rfl fun a hE => ?_
   refine vp hS hE rfl rfl fun a hE => WL.nil ?_
   replace hS := hS.tail
   subst hK99
   exact ⟨rest92.length, Nat.lt_succ_self _, rest92, k90 + 1, rfl, hd93, hq88, hE.pick _ ⟨rfl, rfl, rfl, rfl, rfl, rfl, rfl, rfl, trivial⟩, hS⟩
  clear hE hS a w; rintro a w ⟨rfl, hE, hS⟩
  dsimp only at hq55
  refine W.seq ?_
  refine W.seq (W.region (vP hS hE (Gives.fld hE rfl fl111_2) rfl fun a hE => ?_))
  refine vP hS hE (Gives.loadB hE 0 rfl rfl rfl ty109) rfl fun a hE => ?_
  refine vP hS hE (Gives.len hE rfl sl109) rfl fun a hE => ?_
  refine vp hS hE rfl rfl fun a hE => WL.nil ?_
  refine W.cond hE rfl (fun hc112 => ?_) (fun hc112 => ?_)
  ·replace hq55 := iteT hc112 hq55
   refine W.seq (W.region (vp hS hE rfl rfl fun a hE => WL.nil ?_))
   refine W.ret ?_
   subst hK66
   rw [← Option.some.inj hq55] at hr
   dsimp only at hr
   refine finG (fn := Tryz.f8) (rs := [.tmp 2]) (vs := [_]) hE rfl ⟨rfl, trivial⟩ ?_
   obtain rfl := Option.some.inj hr
   replace hS := hS.tail
   replace hS := hS.tail
   exact ⟨rfl, hS⟩
  replace hq55 := iteF hc112 hq55
  refine W.skip ?_
  refine W.seq (W.region (vP hS hE (Gives.fld hE rfl fl111_2) rfl fun a hE => ?_))
  refine vP hS hE (Gives.loadB hE 0 rfl rfl rfl ty109) rfl fun a hE => ?_
  refine vP hS hE (Gives.len hE rfl sl109) rfl fun a hE => ?_
  refine vp hS hE rfl rfl fun a hE => WL.nil ?_
  obtain ⟨q114, hq113, hq55⟩ := bindS hq55
  refine W.cut (fun a w => (.next ()) = q114 ∧ Rep a 93 [(1, pp b51), (16, .slice a0_0 x0.Trains.length c0_0), (17, vi ((x0.Trains).length : Int)), (18, vi ((k57 : Nat) : Int))] ∧ St w s (pc b77 #[vi x58.No, vi x58.Stock, .slice a71 x58.Stops.length c72, .slice a74 x58.Legs.length c75] 111 :: pc b51 #[.slice a0_0 x0.Trains.length c0_0, .slice a0_1 x0.Turns.length c0_1] 25 :: R)) ?_ ?_
  ·refine W.block ?_
   refine W.loop (fun m a w => ∃ (rest117 : List ApiStop) (k115 : Nat), rest117.length = m ∧ x58.Stops.drop k115 = rest117 ∧ Fishref2GuideFault.loop3 x58 rest117 k115 = some q114 ∧ Rep a 93 [(1, pp b51), (5, pp b77), (16, .slice a0_0 x0.Trains.length c0_0), (17, vi ((x0.Trains).length : Int)), (18, vi ((k57 : Nat) : Int)), (47, .slice a71 x58.Stops.length c72), (48, vi ((x58.Stops).length : Int)), (49, vi ((k115 : Nat) : Int))] ∧ St w s (pc b77 #[vi x58.No, vi x58.Stock, .slice a71 x58.Stops.length c72, .slice a74 x58.Legs.length c75] 111 :: pc b51 #[.slice a0_0 x0.Trains.length c0_0, .slice a0_1 x0.Turns.length c0_1] 25 :: R)) (m := x58.Stops.length) ⟨x58.Stops, 0, rfl, rfl, hq113, hE.pick _ ⟨rfl, rfl, rfl, rfl, rfl, rfl, rfl, rfl, trivial⟩, hS⟩ ?_
   clear hE hS a w hq113; rintro m121 a w ⟨rest117, k115, rfl, hd118, hq113, hE, hS⟩
   refine W.gen fun K124 hK124 => ?_
   rcases rest117 with _ | ⟨x116, rest117⟩
   ·have hlt119 := drop_nil hd118
    refine W.seq (W.region (vp hS hE rfl rfl fun a hE => WL.nil ?_))
    refine W.seq ?_
    refine W.condF hE rfl (decide_eq_false (by omega)) ?_
    subst hK124
    refine W.exit rfl ?_
    exact ⟨Option.some.inj hq113, hE.pick _ ⟨rfl, rfl, rfl, rfl, trivial⟩, hS⟩
   obtain ⟨hlt119, hx120, hd118⟩ := drop_cons hd118
   rw [Fishref2GuideFault.loop3] at hq113
   refine W.seq (W.region (vp hS hE rfl rfl fun a hE => WL.nil ?_))
   refine W.seq ?_
   refine W.condT hE rfl (decide_eq_true (by omega)) ?_
   refine W.skip ?_
   refine W.seq ?_
   refine W.block ?_
   refine W.seq (W.region (vp hS hE rfl rfl fun a hE => ?_))
   obtain ⟨cs125, hl126, hR127, hat128⟩ := h73.at hx120
   subst hR127
   refine vP hS hE (Gives.idx hE k115 rfl rfl sl109 rfl hlt119 (h73.aok hlt119)) rfl fun a hE => ?_
   refine vP hS hE (Gives.loadA hE rfl (fun w h => hat128 w _ h) ty99) rfl fun a hE => ?_
   refine WL.alloc hE hS (runs_plain rfl) zr99 rfl ?_; clear hE hS a w; intro b129 a w hE hS
   refine vp hS hE rfl rfl fun a hE => ?_
   refine WL.storeI hE hS 0 rfl (ApiStop.cells x116) (runs_plain rfl) rfl rfl rfl ty99 rfl rfl rfl rfl ?_; clear hE hS a w; intro a w hE hS
   refine WL.nil ?_
   refine W.seq ?_
   refine W.seq ?_
   obtain ⟨q131, hq130, hq113⟩ := bndS hq113
   refine W.cut (fun a w => ∃ (q134 : Bool), q134 = q131 ∧ Rep a 93 [(1, pp b51), (5, pp b77), (8, vi ((k115 : Nat) : Int)), (9, pp b129), (16, .slice a0_0 x0.Trains.length c0_0), (17, vi ((x0.Trains).length : Int)), (18, vi ((k57 : Nat) : Int)), (47, .slice a71 x58.Stops.length c72), (48, vi ((x58.Stops).length : Int)), (49, vi ((k115 : Nat) : Int)), (69, .bool q134)] ∧ St w s (pc b129 (ApiStop.cells x116).toArray 99 :: pc b77 #[vi x58.No, vi x58.Stock, .slice a71 x58.Stops.length c72, .slice a74 x58.Legs.length c75] 111 :: pc b51 #[.slice a0_0 x0.Trains.length c0_0, .slice a0_1 x0.Turns.length c0_1] 25 :: R)) ?_ ?_
   ·refine W.gen fun K135 hK135 => ?_
    refine W.region ?_
    refine vP hS hE (Gives.fld hE rfl fl99_0) rfl fun a hE => ?_
    refine vP hS hE (Gives.loadB hE 0 rfl rfl rfl ty3) rfl fun a hE => ?_
    refine WL.fnq hE (Fishref2within_ok hS  rfl (r := Fishref2within x116.Station 0 11)) (runs_plain rfl) bd51 rfl rfl rfl ?_
    clear hE hS; rintro e w ⟨rfl, hS⟩; refine ⟨_, rfl, ?_⟩; clear a; intro a hE
    refine v2 hS hE rfl rfl rfl rfl fun a hE => ?_
    rcases Bool.eq_false_or_eq_true (!(Fishref2within x116.Station 0 11)) with hg136 | hg136
    ·replace hq130 := iteT hg136 hq130
     refine nO hE rfl rfl rfl (by rw [hg136]; decide) rfl fun a hE => ?_
     refine nO hE rfl rfl rfl (by rw [hg136]; decide) rfl fun a hE => ?_
     refine nO hE rfl rfl rfl (by rw [hg136]; decide) rfl fun a hE => ?_
     refine nO hE rfl rfl rfl (by rw [hg136]; decide) rfl fun a hE => ?_
     refine vP hS hE (Gives.pickT hE rfl hg136 rfl) rfl fun a hE => ?_
     refine vp hS hE rfl rfl fun a hE => ?_
     refine nO hE rfl rfl rfl (by decide) rfl fun a hE => ?_
     refine nO hE rfl rfl rfl (by decide) rfl fun a hE => ?_
     refine nO hE rfl rfl rfl (by decide) rfl fun a hE => ?_
     refine nO hE rfl rfl rfl (by decide) rfl fun a hE => ?_
     refine vP hS hE (Gives.pickT hE rfl rfl rfl) rfl fun a hE => WL.nil ?_
     subst hK135
     exact ⟨true, hq130, hE.pick _ ⟨rfl, rfl, rfl, rfl, rfl, rfl, rfl, rfl, rfl, rfl, rfl, trivial⟩, hS⟩
    replace hq130 := iteF hg136 hq130
    refine WL.vS hS hE (runs_if hE rfl rfl rfl hg136) (Gives.fld hE rfl fl99_2) rfl fun a hE => ?_
    refine WL.vS hS hE (runs_if hE rfl rfl rfl hg136) (Gives.loadB hE 0 rfl rfl rfl ty3) rfl fun a hE => ?_
    refine WL.fnq hE (Fishref2within_ok hS  rfl (r := Fishref2within x116.Arr 0 28800)) (runs_if hE rfl rfl rfl hg136) bd51 rfl rfl rfl ?_
    clear hE hS; rintro e w ⟨rfl, hS⟩; refine ⟨_, rfl, ?_⟩; clear a; intro a hE
    refine WL.vS hS hE (runs_if hE rfl rfl rfl hg136) (Gives.p hE rfl) rfl fun a hE => ?_
    refine vP hS hE (Gives.pickF hE rfl hg136 rfl) rfl fun a hE => ?_
    refine vp hS hE rfl rfl fun a hE => ?_
    rcases Bool.eq_false_or_eq_true (!(Fishref2within x116.Arr 0 28800)) with hg137 | hg137
    ·replace hq130 := iteT hg137 hq130
     refine nO hE rfl rfl rfl (by rw [hg137]; decide) rfl fun a hE => ?_
     refine nO hE rfl rfl rfl (by rw [hg137]; decide) rfl fun a hE => ?_
     refine nO hE rfl rfl rfl (by rw [hg137]; decide) rfl fun a hE => ?_
     refine nO hE rfl rfl rfl (by rw [hg137]; decide) rfl fun a hE => ?_
     refine vP hS hE (Gives.pickT hE rfl hg137 rfl) rfl fun a hE => WL.nil ?_
     subst hK135
     exact ⟨true, hq130, hE.pick _ ⟨rfl, rfl, rfl, rfl, rfl, rfl, rfl, rfl, rfl, rfl, rfl, trivial⟩, hS⟩
    replace hq130 := iteF hg137 hq130
    refine WL.vS hS hE (runs_if hE rfl rfl rfl hg137) (Gives.fld hE rfl fl99_3) rfl fun a hE => ?_
    refine WL.vS hS hE (runs_if hE rfl rfl rfl hg137) (Gives.loadB hE 0 rfl rfl rfl ty3) rfl fun a hE => ?_
    refine WL.fnq hE (Fishref2within_ok hS  rfl (r := Fishref2within x116.Dep 0 28800)) (runs_if hE rfl rfl rfl hg137) bd51 rfl rfl rfl ?_
    clear hE hS; rintro e w ⟨rfl, hS⟩; refine ⟨_, rfl, ?_⟩; clear a; intro a hE
    refine WL.vS hS hE (runs_if hE rfl rfl rfl hg137) (Gives.p hE rfl) rfl fun a hE => ?_
    refine vP hS hE (Gives.pickF hE rfl hg137 rfl) rfl fun a hE => WL.nil ?_
    subst hK135
    exact ⟨!(Fishref2within x116.Dep 0 28800), hq130, hE.pick _ ⟨rfl, rfl, rfl, rfl, rfl, rfl, rfl, rfl, rfl, rfl, rfl, trivial⟩, hS⟩
   clear hE hS a w; rintro a w ⟨q134, rfl, hE, hS⟩
   refine W.cond hE rfl (fun hc138 => ?_) (fun hc138 => ?_)
   ·replace hq113 := iteT hc138 hq113
    refine W.seq (W.region (vp hS hE rfl rfl fun a hE => WL.nil ?_))
    refine W.ret ?_
    subst hK124
    subst hK66
    rw [← Option.some.inj hq113] at hq55
    dsimp only at hq55
    rw [← Option.some.inj hq55] at hr
    dsimp only at hr
    refine finG (fn := Tryz.f8) (rs := [.tmp 2]) (vs := [_]) hE rfl ⟨rfl, trivial⟩ ?_
    obtain rfl := Option.some.inj hr
    replace hS := hS.tail
    replace hS := hS.tail
    replace hS := hS.tail
    exact ⟨rfl, hS⟩
   replace hq113 := iteF hc138 hq113
   refine W.skip ?_
   refine W.seq ?_
   obtain ⟨q140, hq139, hq113⟩ := bindS hq113
   refine W.cut (fun a w => ∃ (q143 : Bool), q143 = q140 ∧ Rep a 93 [(1, pp b51), (5, pp b77), (16, .slice a0_0 x0.Trains.length c0_0), (17, vi ((x0.Trains).length : Int)), (18, vi ((k57 : Nat) : Int)), (47, .slice a71 x58.Stops.length c72), (48, vi ((x58.Stops).length : Int)), (49, vi ((k115 : Nat) : Int)), (90, .bool q143)] ∧ St w s (pc b129 (ApiStop.cells x116).toArray 99 :: pc b77 #[vi x58.No, vi x58.Stock, .slice a71 x58.Stops.length c72, .slice a74 x58.Legs.length c75] 111 :: pc b51 #[.slice a0_0 x0.Trains.length c0_0, .slice a0_1 x0.Turns.length c0_1] 25 :: R)) ?_ ?_
   ·refine W.gen fun K144 hK144 => ?_
    refine W.regionQ (C := fun w => St w s (pc b129 (ApiStop.cells x116).toArray 99 :: pc b77 #[vi x58.No, vi x58.Stock, .slice a71 x58.Stops.length c72, .slice a74 x58.Legs.length c75] 111 :: pc b51 #[.slice a0_0 x0.Trains.length c0_0, .slice a0_1 x0.Turns.length c0_1] 25 :: R)) mixed (by kernel_rfl) hS.drew ?_
    refine qP hE (Gives.fld hE rfl fl99_3) rfl fun a hE => ?_
    refine qP hE (Gives.loadB hE 0 rfl rfl rfl ty3) rfl fun a hE => ?_
    refine qP hE (Gives.fld hE rfl fl99_2) rfl fun a hE => ?_
    refine qP hE (Gives.loadB hE 0 rfl rfl rfl ty3) rfl fun a hE => ?_
    refine qP hE (Gives.p hE rfl) rfl fun a hE => ?_
    refine qP hE (Gives.p hE rfl) rfl fun a hE => ?_
    rcases Bool.eq_false_or_eq_true (decide (x116.Dep < x116.Arr)) with hg145 | hg145
    ·replace hq139 := iteT hg145 hq139
     refine QL.no hE (runs_not hE rfl rfl rfl (by rw [hg145]; decide)) rfl fun a hE => ?_
     refine QL.no hE (runs_not hE rfl rfl rfl (by rw [hg145]; decide)) rfl fun a hE => ?_
     refine QL.no hE (runs_not hE rfl rfl rfl (by rw [hg145]; decide)) rfl fun a hE => ?_
     refine QL.no hE (runs_undef hE rfl rfl rfl) rfl fun a hE => ?_
     refine QL.no hE (runs_undef hE rfl rfl rfl) rfl fun a hE => ?_
     refine QL.no hE (runs_undef hE rfl rfl rfl) rfl fun a hE => ?_
     refine QL.no hE (runs_undef hE rfl rfl rfl) rfl fun a hE => ?_
     refine QL.no hE (runs_undef hE rfl rfl rfl) rfl fun a hE => ?_
     refine QL.no hE (runs_undef hE rfl rfl rfl) rfl fun a hE => ?_
     refine QL.no hE (runs_undef hE rfl rfl rfl) rfl fun a hE => ?_
     refine QL.no hE (runs_undef hE rfl rfl rfl) rfl fun a hE => ?_
     refine QL.no hE (runs_undef hE rfl rfl rfl) rfl fun a hE => ?_
     refine QL.no hE (runs_undef hE rfl rfl rfl) rfl fun a hE => ?_
     refine QL.no hE (runs_not hE rfl rfl rfl (by rw [hg145]; decide)) rfl fun a hE => ?_
     refine qP hE (Gives.pickT hE rfl hg145 rfl) rfl fun a hE => ?_
     refine QL.nil ?_; clear hS w; intro w hS
     subst hK144
     exact ⟨true, Option.some.inj hq139, hE.pick _ ⟨rfl, rfl, rfl, rfl, rfl, rfl, rfl, rfl, rfl, trivial⟩, hS⟩
    replace hq139 := iteF hg145 hq139
    refine QL.v hE (runs_if hE rfl rfl rfl hg145) (Gives.p hE rfl) rfl fun a hE => ?_
    refine QL.v hE (runs_if hE rfl rfl rfl hg145) (Gives.p hE rfl) rfl fun a hE => ?_
    refine QL.v hE (runs_if hE rfl rfl rfl hg145) (Gives.p hE rfl) rfl fun a hE => ?_
    rcases Bool.eq_false_or_eq_true (decide (((k115 : Nat) : Int) > 0)) with hg146 | hg146
    ·replace hq139 := iteT hg146 hq139
     refine QL.v hE (runs_if hE rfl rfl rfl hg146) (Gives.fld hE rfl fl99_2) rfl fun a hE => ?_
     refine QL.v hE (runs_if hE rfl rfl rfl hg146) (Gives.loadB hE 0 rfl rfl rfl ty3) rfl fun a hE => ?_
     refine QL.v hE (runs_if hE rfl rfl rfl hg146) (Gives.fld hE rfl fl111_2) rfl fun a hE => ?_
     refine QL.v hE (runs_if hE rfl rfl rfl hg146) (Gives.loadB hE 1 rfl rfl rfl ty109) rfl fun a hE => ?_
     refine QL.v hE (runs_if hE rfl rfl rfl hg146) (Gives.p hE rfl) rfl fun a hE => ?_
     refine QL.v hE (runs_if hE rfl rfl rfl hg146) (Gives.p hE rfl) rfl fun a hE => ?_
     obtain ⟨x147, hx148, hq139⟩ := bindS hq139
     obtain ⟨hi149, hlt150, hy151⟩ := gx_some hx148
     obtain ⟨cs152, hl153, hR154, hat155⟩ := h73.at hy151
     subst hR154
     refine QL.v hE (runs_if hE rfl rfl rfl hg146) (Gives.idx hE (w64 (((k115 : Nat) : Int) - 1)).toNat rfl rfl sl109 hi149 hlt150 (h73.aok hlt150)) rfl fun a hE => ?_
     refine QL.v hE (runs_if hE rfl rfl rfl hg146) (Gives.fld hE rfl fl99_3) rfl fun a hE => ?_
     refine QL.v hE (runs_if hE rfl rfl rfl hg146) (Gives.load1 hE rfl (fun w h => (hat155 w _ h).one rfl) ty3) rfl fun a hE => ?_
     refine QL.v hE (runs_if hE rfl rfl rfl hg146) (Gives.p hE rfl) rfl fun a hE => ?_
     refine QL.v hE (runs_if hE rfl rfl rfl hg145) (Gives.pickT hE rfl hg146 rfl) rfl fun a hE => ?_
     refine qP hE (Gives.pickF hE rfl hg145 rfl) rfl fun a hE => ?_
     refine QL.nil ?_; clear hS w; intro w hS
     subst hK144
     exact ⟨decide (x116.Arr ≤ x147.Dep), Option.some.inj hq139, hE.pick _ ⟨rfl, rfl, rfl, rfl, rfl, rfl, rfl, rfl, rfl, trivial⟩, hS⟩
    replace hq139 := iteF hg146 hq139
    refine QL.no hE (runs_not hE rfl rfl rfl (by rw [hg146]; decide)) rfl fun a hE => ?_
    refine QL.no hE (runs_not hE rfl rfl rfl (by rw [hg146]; decide)) rfl fun a hE => ?_
    refine QL.no hE (runs_not hE rfl rfl rfl (by rw [hg146]; decide)) rfl fun a hE => ?_
    refine QL.no hE (runs_not hE rfl rfl rfl (by rw [hg146]; decide)) rfl fun a hE => ?_
    refine QL.no hE (runs_not hE rfl rfl rfl (by rw [hg146]; decide)) rfl fun a hE => ?_
    refine QL.no hE (runs_not hE rfl rfl rfl (by rw [hg146]; decide)) rfl fun a hE => ?_
    refine QL.no hE (runs_not hE rfl rfl rfl (by rw [hg146]; decide)) rfl fun a hE => ?_
    refine QL.no hE (runs_not hE rfl rfl rfl (by rw [hg146]; decide)) rfl fun a hE => ?_
    refine QL.no hE (runs_not hE rfl rfl rfl (by rw [hg146]; decide)) rfl fun a hE => ?_
    refine QL.no hE (runs_not hE rfl rfl rfl (by rw [hg146]; decide)) rfl fun a hE => ?_
    refine QL.v hE (runs_if hE rfl rfl rfl hg145) (Gives.pickF hE rfl hg146 rfl) rfl fun a hE => ?_
    refine qP hE (Gives.pickF hE rfl hg145 rfl) rfl fun a hE => ?_
    refine QL.nil ?_; clear hS w; intro w hS
    subst hK144
    exact ⟨false, Option.some.inj hq139, hE.pick _ ⟨rfl, rfl, rfl, rfl, rfl, rfl, rfl, rfl, rfl, trivial⟩, hS⟩
   clear hE hS a w; rintro a w ⟨q143, rfl, hE, hS⟩
   refine W.cond hE rfl (fun hc156 => ?_) (fun hc156 => ?_)
   ·replace hq113 := iteT hc156 hq113
    refine W.seq (W.region (vp hS hE rfl rfl fun a hE => WL.nil ?_))
    refine W.ret ?_
    subst hK124
    subst hK66
    rw [← Option.some.inj hq113] at hq55
    dsimp only at hq55
    rw [← Option.some.inj hq55] at hr
    dsimp only at hr
    refine finG (fn := Tryz.f8) (rs := [.tmp 2]) (vs := [_]) hE rfl ⟨rfl, trivial⟩ ?_
    obtain rfl := Option.some.inj hr
    replace hS := hS.tail
    replace hS := hS.tail
    replace hS := hS.tail
    exact ⟨rfl, hS⟩
   replace hq113 := iteF hc156 hq113
   refine W.skip ?_
   refine W.region ?_
   refine vP hS hE (Gives.inc hE rfl (by have := h73.small; omega)) rfl fun a hE => ?_
   refine vp hS hE rfl rfl fun a hE => WL.nil ?_
   replace hS := hS.tail
   subst hK124
   exact ⟨rest117.length, Nat.lt_succ_self _, rest117, k115 + 1, rfl, hd118, hq113, hE.pick _ ⟨rfl, rfl, rfl, rfl, rfl, rfl, rfl, rfl, trivial⟩, hS⟩
  clear hE hS a w; rintro a w ⟨rfl, hE, hS⟩
  dsimp only at hq55
  refine W.region ?_
  refine vP hS hE (Gives.inc hE rfl (by have := h0_0.small; omega)) rfl fun a hE => ?_
  refine vp hS hE rfl rfl fun a hE => WL.nil ?_
  replace hS := hS.tail
  subst hK66
  exact ⟨rest59.length, Nat.lt_succ_self _, rest59, k57 + 1, rfl, hd60, hq55, hE.pick _ ⟨rfl, rfl, rfl, rfl, trivial⟩, hS⟩
 clear hE hS a w; rintro a w ⟨rfl, hE, hS⟩
 dsimp only at hr
 refine W.seq (W.region (vp hS hE rfl rfl fun a hE => WL.nil ?_))
 refine W.ret ?_
 refine finG (fn := Tryz.f8) (rs := [.tmp 2]) (vs := [_]) hE rfl ⟨rfl, trivial⟩ ?_
 obtain rfl := Option.some.inj hr
 replace hS := hS.tail
 exact ⟨rfl, hS⟩
set_option maxHeartbeats 8000000 in
theorem Fishref2SayOf_ok  {w : World} {s : Sg} {R : List HP} {x0 : ApiNet} {a0_0 : Option Addr} {c0_0 : Nat} {a0_1 : Option Addr} {c0_1 : Nat} {a0_2 : Option Addr} {c0_2 : Nat} {a0_3 : Option Addr} {c0_3 : Nat} {a0_4 : Option Addr} {c0_4 : Nat} {x1 : GuideMessage} {x2 : GuidePromise} {a2_0 : Option Addr} {c2_0 : Nat} {x3 : ApiDay} {a3_0 : Option Addr} {c3_0 : Nat} {a3_1 : Option Addr} {c3_1 : Nat} (hS : St w s (R)) (hTab : TabS Tryz.prog s) (h0_0 : Sl 1 RS s a0_0 c0_0 x0.Stations) (h0_1 : Sl 7 RApiSection s a0_1 c0_1 x0.Sections) (h0_2 : Sl 4 RApiLink s a0_2 c0_2 x0.Links) (h0_3 : Sl 2 RApiSignal s a0_3 c0_3 x0.Signals) (h0_4 : Sl 2 RApiGate s a0_4 c0_4 x0.Gates) (h2_0 : Sl 3 RGuideRide s a2_0 c2_0 x2.Journey.Rides) (h3_0 : Sl 4 RApiTrain s a3_0 c3_0 x3.Trains) (h3_1 : Sl 1 (RL 1 (RI .i64)) s a3_1 c3_1 x3.Turns) {r : ByteArray × Int} (hr : Fishref2SayOf x0 x1 x2 x3 = some r) :
  Calls Tryz.prog 21 [.agg (List.toArray [.slice a0_0 x0.Stations.length c0_0, .slice a0_1 x0.Sections.length c0_1, .slice a0_2 x0.Links.length c0_2, .slice a0_3 x0.Signals.length c0_3, .slice a0_4 x0.Gates.length c0_4]), .agg (GuideMessage.cells x1).toArray, .agg (List.toArray [vi x2.From, vi x2.To, vi x2.Dep, vi x2.Arr, vi x2.State, .slice a2_0 x2.Journey.Rides.length c2_0]), .agg (List.toArray [.slice a3_0 x3.Trains.length c3_0, .slice a3_1 x3.Turns.length c3_1])].toArray w (fun e w => e = .returned (.tuple #[.string r.1, vi r.2]) ∧ St w s (R)) := by
 refine enter Tryz.func21 rfl rfl rfl fun a hE => ?_
 rw [Fishref2SayOf] at hr
 refine W.seq (W.region ?_)
 refine WL.box hE hS (runs_plain rfl) rfl rfl rfl ?_; clear hE hS a w; intro b51 a w hE hS
 refine WL.box hE hS (runs_plain rfl) rfl rfl rfl ?_; clear hE hS a w; intro b52 a w hE hS
 refine WL.box hE hS (runs_plain rfl) rfl rfl rfl ?_; clear hE hS a w; intro b53 a w hE hS
 refine WL.box hE hS (runs_plain rfl) rfl rfl rfl ?_; clear hE hS a w; intro b54 a w hE hS
 refine v2 hS hE rfl rfl rfl rfl fun a hE => WL.nil ?_
 refine W.seq ?_
 refine W.seq (W.region (vP hS hE (Gives.fld hE rfl fl55_3) rfl fun a hE => ?_))
 refine vP hS hE (Gives.loadB hE 2 rfl rfl rfl ty3) rfl fun a hE => ?_
 refine WL.fnq hE (Fishref2within_ok hS  rfl (r := Fishref2within x1.Kind 1 4)) (runs_plain rfl) bd51 rfl rfl rfl ?_
 clear hE hS; rintro e w ⟨rfl, hS⟩; refine ⟨_, rfl, ?_⟩; clear a; intro a hE
 refine vp hS hE rfl rfl fun a hE => WL.nil ?_
 refine W.cond hE rfl (fun hc55 => ?_) (fun hc55 => ?_)
 ·replace hr := iteT hc55 hr
  refine W.seq (W.region (v2 hS hE rfl rfl rfl rfl fun a hE => WL.nil ?_))
  refine W.ret ?_
  refine finG (fn := Tryz.f21) (rs := [.tmp 8, .tmp 9]) (vs := [_, _]) hE rfl ⟨rfl, rfl, trivial⟩ ?_
  obtain rfl := Option.some.inj hr
  replace hS := hS.tail
  replace hS := hS.tail
  replace hS := hS.tail
  replace hS := hS.tail
  exact ⟨rfl, hS⟩
 replace hr := iteF hc55 hr
 refine W.skip ?_
 refine W.seq ?_
 refine W.seq ?_
 obtain ⟨q57, hq56, hr⟩ := bndS hr
 refine W.cut (fun a w => ∃ (q60 : Bool), q60 = q57 ∧ Rep a 148 [(4, pp b51), (5, pp b52), (6, pp b53), (7, pp b54), (31, .bool q60)] ∧ St w s (pc b54 #[.slice a3_0 x3.Trains.length c3_0, .slice a3_1 x3.Turns.length c3_1] 25 :: pc b53 #[vi x2.From, vi x2.To, vi x2.Dep, vi x2.Arr, vi x2.State, .slice a2_0 x2.Journey.Rides.length c2_0] 57 :: pc b52 (GuideMessage.cells x1).toArray 55 :: pc b51 #[.slice a0_0 x0.Stations.length c0_0, .slice a0_1 x0.Sections.length c0_1, .slice a0_2 x0.Links.length c0_2, .slice a0_3 x0.Signals.length c0_3, .slice a0_4 x0.Gates.length c0_4] 53 :: R)) ?_ ?_
 ·refine W.gen fun K61 hK61 => ?_
  refine W.region ?_
  refine vP hS hE (Gives.fld hE rfl fl55_2) rfl fun a hE => ?_
  refine vP hS hE (Gives.loadB hE 2 rfl rfl rfl ty3) rfl fun a hE => ?_
  refine v2 hS hE rfl rfl rfl rfl fun a hE => ?_
  rcases Bool.eq_false_or_eq_true (decide (x1.Ride < 0)) with hg62 | hg62
  ·replace hq56 := iteT hg62 hq56
   refine nO hE rfl rfl rfl (by rw [hg62]; decide) rfl fun a hE => ?_
   refine nO hE rfl rfl rfl (by rw [hg62]; decide) rfl fun a hE => ?_
   refine nO hE rfl rfl rfl (by rw [hg62]; decide) rfl fun a hE => ?_
   refine nO hE rfl rfl rfl (by rw [hg62]; decide) rfl fun a hE => ?_
   refine nO hE rfl rfl rfl (by rw [hg62]; decide) rfl fun a hE => ?_
   refine nO hE rfl rfl rfl (by rw [hg62]; decide) rfl fun a hE => ?_
   refine nO hE rfl rfl rfl (by rw [hg62]; decide) rfl fun a hE => ?_
   refine vP hS hE (Gives.pickT hE rfl hg62 rfl) rfl fun a hE => WL.nil ?_
   subst hK61
   exact ⟨true, hq56, hE.pick _ ⟨rfl, rfl, rfl, rfl, rfl, trivial⟩, hS⟩
  replace hq56 := iteF hg62 hq56
  refine WL.vS hS hE (runs_if hE rfl rfl rfl hg62) (Gives.fld hE rfl fl55_2) rfl fun a hE => ?_
  refine WL.vS hS hE (runs_if hE rfl rfl rfl hg62) (Gives.loadB hE 2 rfl rfl rfl ty3) rfl fun a hE => ?_
  refine WL.vS hS hE (runs_if hE rfl rfl rfl hg62) (Gives.fld hE rfl fl57_5) rfl fun a hE => ?_
  refine WL.vS hS hE (runs_if hE rfl rfl rfl hg62) (Gives.fld hE rfl fl29_0) rfl fun a hE => ?_
  refine WL.vS hS hE (runs_if hE rfl rfl rfl hg62) (Gives.loadB hE 1 rfl rfl rfl ty27) rfl fun a hE => ?_
  refine WL.vS hS hE (runs_if hE rfl rfl rfl hg62) (Gives.len hE rfl sl27) rfl fun a hE => ?_
  refine WL.vS hS hE (runs_if hE rfl rfl rfl hg62) (Gives.p hE rfl) rfl fun a hE => ?_
  refine vP hS hE (Gives.pickF hE rfl hg62 rfl) rfl fun a hE => WL.nil ?_
  subst hK61
  exact ⟨decide (x1.Ride ≥ ((x2.Journey.Rides).length : Int)), hq56, hE.pick _ ⟨rfl, rfl, rfl, rfl, rfl, trivial⟩, hS⟩
 clear hE hS a w; rintro a w ⟨q60, rfl, hE, hS⟩
 refine W.cond hE rfl (fun hc63 => ?_) (fun hc63 => ?_)
 ·replace hr := iteT hc63 hr
  refine W.seq (W.region (v2 hS hE rfl rfl rfl rfl fun a hE => WL.nil ?_))
  refine W.ret ?_
  refine finG (fn := Tryz.f21) (rs := [.tmp 8, .tmp 9]) (vs := [_, _]) hE rfl ⟨rfl, rfl, trivial⟩ ?_
  obtain rfl := Option.some.inj hr
  replace hS := hS.tail
  replace hS := hS.tail
  replace hS := hS.tail
  replace hS := hS.tail
  exact ⟨rfl, hS⟩
 replace hr := iteF hc63 hr
 refine W.skip ?_
 refine W.seq (W.region (vP hS hE (Gives.fld hE rfl fl57_5) rfl fun a hE => ?_))
 refine vP hS hE (Gives.fld hE rfl fl29_0) rfl fun a hE => ?_
 refine vP hS hE (Gives.loadB hE 1 rfl rfl rfl ty27) rfl fun a hE => ?_
 refine vP hS hE (Gives.fld hE rfl fl55_2) rfl fun a hE => ?_
 refine vP hS hE (Gives.loadB hE 2 rfl rfl rfl ty3) rfl fun a hE => ?_
 obtain ⟨x64, hx65, hr⟩ := bindS hr
 obtain ⟨hi66, hlt67, hy68⟩ := gx_some hx65
 obtain ⟨cs69, hl70, hR71, hat72⟩ := h2_0.at hy68
 subst hR71
 refine vP hS hE (Gives.idx hE (x1.Ride).toNat rfl rfl sl27 hi66 hlt67 (h2_0.aok hlt67)) rfl fun a hE => ?_
 refine vP hS hE (Gives.loadA hE rfl (fun w h => hat72 w _ h) ty95) rfl fun a hE => ?_
 refine WL.alloc hE hS (runs_plain rfl) zr95 rfl ?_; clear hE hS a w; intro b73 a w hE hS
 refine WL.storeI hE hS 0 rfl (GuideRide.cells x64) (runs_plain rfl) rfl rfl rfl ty95 rfl rfl rfl rfl ?_; clear hE hS a w; intro a w hE hS
 refine WL.nil ?_
 refine W.seq ?_
 refine W.seq ?_
 obtain ⟨q75, hq74, hr⟩ := bndS hr
 refine W.cut (fun a w => ∃ (q78 : Bool), q78 = q75 ∧ Rep a 148 [(4, pp b51), (5, pp b52), (7, pp b54), (10, pp b73), (49, .bool q78)] ∧ St w s (pc b73 (GuideRide.cells x64).toArray 95 :: pc b54 #[.slice a3_0 x3.Trains.length c3_0, .slice a3_1 x3.Turns.length c3_1] 25 :: pc b53 #[vi x2.From, vi x2.To, vi x2.Dep, vi x2.Arr, vi x2.State, .slice a2_0 x2.Journey.Rides.length c2_0] 57 :: pc b52 (GuideMessage.cells x1).toArray 55 :: pc b51 #[.slice a0_0 x0.Stations.length c0_0, .slice a0_1 x0.Sections.length c0_1, .slice a0_2 x0.Links.length c0_2, .slice a0_3 x0.Signals.length c0_3, .slice a0_4 x0.Gates.length c0_4] 53 :: R)) ?_ ?_
 ·refine W.gen fun K79 hK79 => ?_
  refine W.region ?_
  refine vP hS hE (Gives.fld hE rfl fl95_0) rfl fun a hE => ?_
  refine vP hS hE (Gives.loadB hE 0 rfl rfl rfl ty3) rfl fun a hE => ?_
  refine v2 hS hE rfl rfl rfl rfl fun a hE => ?_
  rcases Bool.eq_false_or_eq_true (decide (x64.Train < 0)) with hg80 | hg80
  ·replace hq74 := iteT hg80 hq74
   refine nO hE rfl rfl rfl (by rw [hg80]; decide) rfl fun a hE => ?_
   refine nO hE rfl rfl rfl (by rw [hg80]; decide) rfl fun a hE => ?_
   refine nO hE rfl rfl rfl (by rw [hg80]; decide) rfl fun a hE => ?_
   refine nO hE rfl rfl rfl (by rw [hg80]; decide) rfl fun a hE => ?_
   refine nO hE rfl rfl rfl (by rw [hg80]; decide) rfl fun a hE => ?_
   refine nO hE rfl rfl rfl (by rw [hg80]; decide) rfl fun a hE => ?_
   refine vP hS hE (Gives.pickT hE rfl hg80 rfl) rfl fun a hE => WL.nil ?_
   subst hK79
   exact ⟨true, hq74, hE.pick _ ⟨rfl, rfl, rfl, rfl, rfl, trivial⟩, hS⟩
  replace hq74 := iteF hg80 hq74
  refine WL.vS hS hE (runs_if hE rfl rfl rfl hg80) (Gives.fld hE rfl fl95_0) rfl fun a hE => ?_
  refine WL.vS hS hE (runs_if hE rfl rfl rfl hg80) (Gives.loadB hE 0 rfl rfl rfl ty3) rfl fun a hE => ?_
  refine WL.vS hS hE (runs_if hE rfl rfl rfl hg80) (Gives.fld hE rfl fl25_0) rfl fun a hE => ?_
  refine WL.vS hS hE (runs_if hE rfl rfl rfl hg80) (Gives.loadB hE 1 rfl rfl rfl ty22) rfl fun a hE => ?_
  refine WL.vS hS hE (runs_if hE rfl rfl rfl hg80) (Gives.len hE rfl sl22) rfl fun a hE => ?_
  refine WL.vS hS hE (runs_if hE rfl rfl rfl hg80) (Gives.p hE rfl) rfl fun a hE => ?_
  refine vP hS hE (Gives.pickF hE rfl hg80 rfl) rfl fun a hE => WL.nil ?_
  subst hK79
  exact ⟨decide (x64.Train ≥ ((x3.Trains).length : Int)), hq74, hE.pick _ ⟨rfl, rfl, rfl, rfl, rfl, trivial⟩, hS⟩
 clear hE hS a w; rintro a w ⟨q78, rfl, hE, hS⟩
 refine W.cond hE rfl (fun hc81 => ?_) (fun hc81 => ?_)
 ·replace hr := iteT hc81 hr
  refine W.seq (W.region (v2 hS hE rfl rfl rfl rfl fun a hE => WL.nil ?_))
  refine W.ret ?_
  refine finG (fn := Tryz.f21) (rs := [.tmp 8, .tmp 9]) (vs := [_, _]) hE rfl ⟨rfl, rfl, trivial⟩ ?_
  obtain rfl := Option.some.inj hr
  replace hS := hS.tail
  replace hS := hS.tail
  replace hS := hS.tail
  replace hS := hS.tail
  replace hS := hS.tail
  exact ⟨rfl, hS⟩
 replace hr := iteF hc81 hr
 refine W.skip ?_
 refine W.seq (W.region (vP hS hE (Gives.fld hE rfl fl25_0) rfl fun a hE => ?_))
 refine vP hS hE (Gives.loadB hE 1 rfl rfl rfl ty22) rfl fun a hE => ?_
 refine vP hS hE (Gives.fld hE rfl fl95_0) rfl fun a hE => ?_
 refine vP hS hE (Gives.loadB hE 0 rfl rfl rfl ty3) rfl fun a hE => ?_
 obtain ⟨x82, hx83, hr⟩ := bindS hr
 obtain ⟨hi84, hlt85, hy86⟩ := gx_some hx83
 obtain ⟨cs87, hl88, hR89, hat90⟩ := h3_0.at hy86
 obtain ⟨a91, c92, a94, c95, rfl, h93, h96⟩ := hR89
 refine vP hS hE (Gives.idx hE (x64.Train).toNat rfl rfl sl22 hi84 hlt85 (h3_0.aok hlt85)) rfl fun a hE => ?_
 refine vP hS hE (Gives.loadA hE rfl (fun w h => hat90 w _ h) ty111) rfl fun a hE => ?_
 refine WL.alloc hE hS (runs_plain rfl) zr111 rfl ?_; clear hE hS a w; intro b97 a w hE hS
 refine WL.storeI hE hS 0 rfl [vi x82.No, vi x82.Stock, .slice a91 x82.Stops.length c92, .slice a94 x82.Legs.length c95] (runs_plain rfl) rfl rfl rfl ty111 rfl rfl rfl rfl ?_; clear hE hS a w; intro a w hE hS
 refine WL.nil ?_
 refine W.seq ?_
 refine W.seq ?_
 obtain ⟨q99, hq98, hr⟩ := bndS hr
 refine W.cut (fun a w => ∃ (q102 : Bool), q102 = q99 ∧ Rep a 148 [(4, pp b51), (5, pp b52), (10, pp b73), (11, pp b97), (79, .bool q102)] ∧ St w s (pc b97 #[vi x82.No, vi x82.Stock, .slice a91 x82.Stops.length c92, .slice a94 x82.Legs.length c95] 111 :: pc b73 (GuideRide.cells x64).toArray 95 :: pc b54 #[.slice a3_0 x3.Trains.length c3_0, .slice a3_1 x3.Turns.length c3_1] 25 :: pc b53 #[vi x2.From, vi x2.To, vi x2.Dep, vi x2.Arr, vi x2.State, .slice a2_0 x2.Journey.Rides.length c2_0] 57 :: pc b52 (GuideMessage.cells x1).toArray 55 :: pc b51 #[.slice a0_0 x0.Stations.length c0_0, .slice a0_1 x0.Sections.length c0_1, .slice a0_2 x0.Links.length c0_2, .slice a0_3 x0.Signals.length c0_3, .slice a0_4 x0.Gates.length c0_4] 53 :: R)) ?_ ?_
 ·refine W.gen fun K103 hK103 => ?_
  refine W.region ?_
  refine vP hS hE (Gives.fld hE rfl fl95_1) rfl fun a hE => ?_
  refine vP hS hE (Gives.loadB hE 1 rfl rfl rfl ty3) rfl fun a hE => ?_
  refine v2 hS hE rfl rfl rfl rfl fun a hE => ?_
  rcases Bool.eq_false_or_eq_true (decide (x64.On < 0)) with hg104 | hg104
  ·replace hq98 := iteT hg104 hq98
   refine nO hE rfl rfl rfl (by rw [hg104]; decide) rfl fun a hE => ?_
   refine nO hE rfl rfl rfl (by rw [hg104]; decide) rfl fun a hE => ?_
   refine nO hE rfl rfl rfl (by rw [hg104]; decide) rfl fun a hE => ?_
   refine nO hE rfl rfl rfl (by rw [hg104]; decide) rfl fun a hE => ?_
   refine nO hE rfl rfl rfl (by rw [hg104]; decide) rfl fun a hE => ?_
   refine nO hE rfl rfl rfl (by rw [hg104]; decide) rfl fun a hE => ?_
   refine vP hS hE (Gives.pickT hE rfl hg104 rfl) rfl fun a hE => ?_
   refine vp hS hE rfl rfl fun a hE => ?_
   refine nO hE rfl rfl rfl (by decide) rfl fun a hE => ?_
   refine nO hE rfl rfl rfl (by decide) rfl fun a hE => ?_
   refine nO hE rfl rfl rfl (by decide) rfl fun a hE => ?_
   refine vP hS hE (Gives.pickT hE rfl rfl rfl) rfl fun a hE => ?_
   refine vp hS hE rfl rfl fun a hE => ?_
   refine nO hE rfl rfl rfl (by decide) rfl fun a hE => ?_
   refine nO hE rfl rfl rfl (by decide) rfl fun a hE => ?_
   refine nO hE rfl rfl rfl (by decide) rfl fun a hE => ?_
   refine nO hE rfl rfl rfl (by decide) rfl fun a hE => ?_
   refine nO hE rfl rfl rfl (by decide) rfl fun a hE => ?_
   refine nO hE rfl rfl rfl (by decide) rfl fun a hE => ?_
   refine vP hS hE (Gives.pickT hE rfl rfl rfl) rfl fun a hE => WL.nil ?_
   subst hK103
   exact ⟨true, hq98, hE.pick _ ⟨rfl, rfl, rfl, rfl, rfl, trivial⟩, hS⟩
  replace hq98 := iteF hg104 hq98
  refine WL.vS hS hE (runs_if hE rfl rfl rfl hg104) (Gives.fld hE rfl fl95_1) rfl fun a hE => ?_
  refine WL.vS hS hE (runs_if hE rfl rfl rfl hg104) (Gives.loadB hE 1 rfl rfl rfl ty3) rfl fun a hE => ?_
  refine WL.vS hS hE (runs_if hE rfl rfl rfl hg104) (Gives.fld hE rfl fl111_2) rfl fun a hE => ?_
  refine WL.vS hS hE (runs_if hE rfl rfl rfl hg104) (Gives.loadB hE 0 rfl rfl rfl ty109) rfl fun a hE => ?_
  refine WL.vS hS hE (runs_if hE rfl rfl rfl hg104) (Gives.len hE rfl sl109) rfl fun a hE => ?_
  refine WL.vS hS hE (runs_if hE rfl rfl rfl hg104) (Gives.p hE rfl) rfl fun a hE => ?_
  refine vP hS hE (Gives.pickF hE rfl hg104 rfl) rfl fun a hE => ?_
  refine vp hS hE rfl rfl fun a hE => ?_
  rcases Bool.eq_false_or_eq_true (decide (x64.On ≥ ((x82.Stops).length : Int))) with hg105 | hg105
  ·replace hq98 := iteT hg105 hq98
   refine nO hE rfl rfl rfl (by rw [hg105]; decide) rfl fun a hE => ?_
   refine nO hE rfl rfl rfl (by rw [hg105]; decide) rfl fun a hE => ?_
   refine nO hE rfl rfl rfl (by rw [hg105]; decide) rfl fun a hE => ?_
   refine vP hS hE (Gives.pickT hE rfl hg105 rfl) rfl fun a hE => ?_
   refine vp hS hE rfl rfl fun a hE => ?_
   refine nO hE rfl rfl rfl (by decide) rfl fun a hE => ?_
   refine nO hE rfl rfl rfl (by decide) rfl fun a hE => ?_
   refine nO hE rfl rfl rfl (by decide) rfl fun a hE => ?_
   refine nO hE rfl rfl rfl (by decide) rfl fun a hE => ?_
   refine nO hE rfl rfl rfl (by decide) rfl fun a hE => ?_
   refine nO hE rfl rfl rfl (by decide) rfl fun a hE => ?_
   refine vP hS hE (Gives.pickT hE rfl rfl rfl) rfl fun a hE => WL.nil ?_
   subst hK103
   exact ⟨true, hq98, hE.pick _ ⟨rfl, rfl, rfl, rfl, rfl, trivial⟩, hS⟩
  replace hq98 := iteF hg105 hq98
  refine WL.vS hS hE (runs_if hE rfl rfl rfl hg105) (Gives.fld hE rfl fl95_2) rfl fun a hE => ?_
  refine WL.vS hS hE (runs_if hE rfl rfl rfl hg105) (Gives.loadB hE 1 rfl rfl rfl ty3) rfl fun a hE => ?_
  refine WL.vS hS hE (runs_if hE rfl rfl rfl hg105) (Gives.p hE rfl) rfl fun a hE => ?_
  refine vP hS hE (Gives.pickF hE rfl hg105 rfl) rfl fun a hE => ?_
  refine vp hS hE rfl rfl fun a hE => ?_
  rcases Bool.eq_false_or_eq_true (decide (x64.Off < 0)) with hg106 | hg106
  ·replace hq98 := iteT hg106 hq98
   refine nO hE rfl rfl rfl (by rw [hg106]; decide) rfl fun a hE => ?_
   refine nO hE rfl rfl rfl (by rw [hg106]; decide) rfl fun a hE => ?_
   refine nO hE rfl rfl rfl (by rw [hg106]; decide) rfl fun a hE => ?_
   refine nO hE rfl rfl rfl (by rw [hg106]; decide) rfl fun a hE => ?_
   refine nO hE rfl rfl rfl (by rw [hg106]; decide) rfl fun a hE => ?_
   refine nO hE rfl rfl rfl (by rw [hg106]; decide) rfl fun a hE => ?_
   refine vP hS hE (Gives.pickT hE rfl hg106 rfl) rfl fun a hE => WL.nil ?_
   subst hK103
   exact ⟨true, hq98, hE.pick _ ⟨rfl, rfl, rfl, rfl, rfl, trivial⟩, hS⟩
  replace hq98 := iteF hg106 hq98
  refine WL.vS hS hE (runs_if hE rfl rfl rfl hg106) (Gives.fld hE rfl fl95_2) rfl fun a hE => ?_
  refine WL.vS hS hE (runs_if hE rfl rfl rfl hg106) (Gives.loadB hE 1 rfl rfl rfl ty3) rfl fun a hE => ?_
  refine WL.vS hS hE (runs_if hE rfl rfl rfl hg106) (Gives.fld hE rfl fl111_2) rfl fun a hE => ?_
  refine WL.vS hS hE (runs_if hE rfl rfl rfl hg106) (Gives.loadB hE 0 rfl rfl rfl ty109) rfl fun a hE => ?_
  refine WL.vS hS hE (runs_if hE rfl rfl rfl hg106) (Gives.len hE rfl sl109) rfl fun a hE => ?_
  refine WL.vS hS hE (runs_if hE rfl rfl rfl hg106) (Gives.p hE rfl) rfl fun a hE => ?_
  refine vP hS hE (Gives.pickF hE rfl hg106 rfl) rfl fun a hE => WL.nil ?_
  subst hK103
  exact ⟨decide (x64.Off ≥ ((x82.Stops).length : Int)), hq98, hE.pick _ ⟨rfl, rfl, rfl, rfl, rfl, trivial⟩, hS⟩
 clear hE hS a w; rintro a w ⟨q102, rfl, hE, hS⟩
 refine W.cond hE rfl (fun hc107 => ?_) (fun hc107 => ?_)
 ·replace hr := iteT hc107 hr
  refine W.seq (W.region (v2 hS hE rfl rfl rfl rfl fun a hE => WL.nil ?_))
  refine W.ret ?_
  refine finG (fn := Tryz.f21) (rs := [.tmp 8, .tmp 9]) (vs := [_, _]) hE rfl ⟨rfl, rfl, trivial⟩ ?_
  obtain rfl := Option.some.inj hr
  replace hS := hS.tail
  replace hS := hS.tail
  replace hS := hS.tail
  replace hS := hS.tail
  replace hS := hS.tail
  replace hS := hS.tail
  exact ⟨rfl, hS⟩
 replace hr := iteF hc107 hr
 refine W.skip ?_
 refine W.seq ?_
 refine W.regionQ (C := fun w => St w s (pc b97 #[vi x82.No, vi x82.Stock, .slice a91 x82.Stops.length c92, .slice a94 x82.Legs.length c95] 111 :: pc b73 (GuideRide.cells x64).toArray 95 :: pc b54 #[.slice a3_0 x3.Trains.length c3_0, .slice a3_1 x3.Turns.length c3_1] 25 :: pc b53 #[vi x2.From, vi x2.To, vi x2.Dep, vi x2.Arr, vi x2.State, .slice a2_0 x2.Journey.Rides.length c2_0] 57 :: pc b52 (GuideMessage.cells x1).toArray 55 :: pc b51 #[.slice a0_0 x0.Stations.length c0_0, .slice a0_1 x0.Sections.length c0_1, .slice a0_2 x0.Links.length c0_2, .slice a0_3 x0.Signals.length c0_3, .slice a0_4 x0.Gates.length c0_4] 53 :: R)) mixed (by kernel_rfl) hS.drew ?_
 refine qP hE (Gives.fld hE rfl fl111_2) rfl fun a hE => ?_
 refine qP hE (Gives.loadB hE 0 rfl rfl rfl ty109) rfl fun a hE => ?_
 refine qP hE (Gives.fld hE rfl fl95_1) rfl fun a hE => ?_
 refine qP hE (Gives.loadB hE 1 rfl rfl rfl ty3) rfl fun a hE => ?_
 obtain ⟨x108, hx109, hr⟩ := bindS hr
 obtain ⟨hi110, hlt111, hy112⟩ := gx_some hx109
 obtain ⟨cs113, hl114, hR115, hat116⟩ := h93.at hy112
 subst hR115
 refine qP hE (Gives.idx hE (x64.On).toNat rfl rfl sl109 hi110 hlt111 (h93.aok hlt111)) rfl fun a hE => ?_
 refine qP hE (Gives.fld hE rfl fl99_0) rfl fun a hE => ?_
 refine qP hE (Gives.load1 hE rfl (fun w h => (hat116 w _ h).one rfl) ty3) rfl fun a hE => ?_
 refine qP hE (Gives.fld hE rfl fl111_2) rfl fun a hE => ?_
 refine qP hE (Gives.loadB hE 0 rfl rfl rfl ty109) rfl fun a hE => ?_
 refine qP hE (Gives.fld hE rfl fl95_2) rfl fun a hE => ?_
 refine qP hE (Gives.loadB hE 1 rfl rfl rfl ty3) rfl fun a hE => ?_
 obtain ⟨x117, hx118, hr⟩ := bindS hr
 obtain ⟨hi119, hlt120, hy121⟩ := gx_some hx118
 obtain ⟨cs122, hl123, hR124, hat125⟩ := h93.at hy121
 subst hR124
 refine qP hE (Gives.idx hE (x64.Off).toNat rfl rfl sl109 hi119 hlt120 (h93.aok hlt120)) rfl fun a hE => ?_
 refine qP hE (Gives.fld hE rfl fl99_0) rfl fun a hE => ?_
 refine qP hE (Gives.load1 hE rfl (fun w h => (hat125 w _ h).one rfl) ty3) rfl fun a hE => ?_
 refine qP hE (Gives.p hE rfl) rfl fun a hE => ?_
 refine qP hE (Gives.p hE rfl) rfl fun a hE => ?_
 refine QL.nil ?_; clear hS w; intro w hS
 refine W.seq ?_
 refine W.seq ?_
 obtain ⟨q127, hq126, hr⟩ := bndS hr
 refine W.cut (fun a w => ∃ (q130 : Bool), q130 = q127 ∧ Rep a 148 [(4, pp b51), (5, pp b52), (11, pp b97), (12, vi x108.Station), (13, vi x117.Station), (105, .bool q130)] ∧ St w s (pc b97 #[vi x82.No, vi x82.Stock, .slice a91 x82.Stops.length c92, .slice a94 x82.Legs.length c95] 111 :: pc b73 (GuideRide.cells x64).toArray 95 :: pc b54 #[.slice a3_0 x3.Trains.length c3_0, .slice a3_1 x3.Turns.length c3_1] 25 :: pc b53 #[vi x2.From, vi x2.To, vi x2.Dep, vi x2.Arr, vi x2.State, .slice a2_0 x2.Journey.Rides.length c2_0] 57 :: pc b52 (GuideMessage.cells x1).toArray 55 :: pc b51 #[.slice a0_0 x0.Stations.length c0_0, .slice a0_1 x0.Sections.length c0_1, .slice a0_2 x0.Links.length c0_2, .slice a0_3 x0.Signals.length c0_3, .slice a0_4 x0.Gates.length c0_4] 53 :: R)) ?_ ?_
 ·refine W.gen fun K131 hK131 => ?_
  refine W.region ?_
  refine vp hS hE rfl rfl fun a hE => ?_
  refine vP hS hE (Gives.fld hE rfl fl53_0) rfl fun a hE => ?_
  refine vP hS hE (Gives.loadB hE 5 rfl rfl rfl ty47) rfl fun a hE => ?_
  refine vP hS hE (Gives.len hE rfl sl47) rfl fun a hE => ?_
  refine v2 hS hE rfl rfl rfl rfl fun a hE => ?_
  rcases Bool.eq_false_or_eq_true (decide (x108.Station ≥ ((x0.Stations).length : Int))) with hg132 | hg132
  ·replace hq126 := iteT hg132 hq126
   refine nO hE rfl rfl rfl (by rw [hg132]; decide) rfl fun a hE => ?_
   refine nO hE rfl rfl rfl (by rw [hg132]; decide) rfl fun a hE => ?_
   refine nO hE rfl rfl rfl (by rw [hg132]; decide) rfl fun a hE => ?_
   refine nO hE rfl rfl rfl (by rw [hg132]; decide) rfl fun a hE => ?_
   refine nO hE rfl rfl rfl (by rw [hg132]; decide) rfl fun a hE => ?_
   refine vP hS hE (Gives.pickT hE rfl hg132 rfl) rfl fun a hE => WL.nil ?_
   subst hK131
   exact ⟨true, hq126, hE.pick _ ⟨rfl, rfl, rfl, rfl, rfl, rfl, trivial⟩, hS⟩
  replace hq126 := iteF hg132 hq126
  refine WL.vS hS hE (runs_if hE rfl rfl rfl hg132) (Gives.p hE rfl) rfl fun a hE => ?_
  refine WL.vS hS hE (runs_if hE rfl rfl rfl hg132) (Gives.fld hE rfl fl53_0) rfl fun a hE => ?_
  refine WL.vS hS hE (runs_if hE rfl rfl rfl hg132) (Gives.loadB hE 5 rfl rfl rfl ty47) rfl fun a hE => ?_
  refine WL.vS hS hE (runs_if hE rfl rfl rfl hg132) (Gives.len hE rfl sl47) rfl fun a hE => ?_
  refine WL.vS hS hE (runs_if hE rfl rfl rfl hg132) (Gives.p hE rfl) rfl fun a hE => ?_
  refine vP hS hE (Gives.pickF hE rfl hg132 rfl) rfl fun a hE => WL.nil ?_
  subst hK131
  exact ⟨decide (x117.Station ≥ ((x0.Stations).length : Int)), hq126, hE.pick _ ⟨rfl, rfl, rfl, rfl, rfl, rfl, trivial⟩, hS⟩
 clear hE hS a w; rintro a w ⟨q130, rfl, hE, hS⟩
 refine W.cond hE rfl (fun hc133 => ?_) (fun hc133 => ?_)
 ·replace hr := iteT hc133 hr
  refine W.seq (W.region (v2 hS hE rfl rfl rfl rfl fun a hE => WL.nil ?_))
  refine W.ret ?_
  refine finG (fn := Tryz.f21) (rs := [.tmp 8, .tmp 9]) (vs := [_, _]) hE rfl ⟨rfl, rfl, trivial⟩ ?_
  obtain rfl := Option.some.inj hr
  replace hS := hS.tail
  replace hS := hS.tail
  replace hS := hS.tail
  replace hS := hS.tail
  replace hS := hS.tail
  replace hS := hS.tail
  exact ⟨rfl, hS⟩
 replace hr := iteF hc133 hr
 refine W.skip ?_
 refine W.seq ?_
 refine W.seq (W.region (vP hS hE (Gives.fld hE rfl fl55_4) rfl fun a hE => ?_))
 refine vP hS hE (Gives.loadB hE 4 rfl rfl rfl ty3) rfl fun a hE => ?_
 refine WL.fnq hE (Fishref2within_ok hS  rfl (r := Fishref2within x1.Value 0 28800)) (runs_plain rfl) bd51 rfl rfl rfl ?_
 clear hE hS; rintro e w ⟨rfl, hS⟩; refine ⟨_, rfl, ?_⟩; clear a; intro a hE
 refine vp hS hE rfl rfl fun a hE => WL.nil ?_
 refine W.cond hE rfl (fun hc134 => ?_) (fun hc134 => ?_)
 ·replace hr := iteT hc134 hr
  refine W.seq (W.region (v2 hS hE rfl rfl rfl rfl fun a hE => WL.nil ?_))
  refine W.ret ?_
  refine finG (fn := Tryz.f21) (rs := [.tmp 8, .tmp 9]) (vs := [_, _]) hE rfl ⟨rfl, rfl, trivial⟩ ?_
  obtain rfl := Option.some.inj hr
  replace hS := hS.tail
  replace hS := hS.tail
  replace hS := hS.tail
  replace hS := hS.tail
  replace hS := hS.tail
  replace hS := hS.tail
  exact ⟨rfl, hS⟩
 replace hr := iteF hc134 hr
 refine W.skip ?_
 refine W.seq ?_
 refine W.regionQ (C := fun w => St w s (pc b97 #[vi x82.No, vi x82.Stock, .slice a91 x82.Stops.length c92, .slice a94 x82.Legs.length c95] 111 :: pc b73 (GuideRide.cells x64).toArray 95 :: pc b54 #[.slice a3_0 x3.Trains.length c3_0, .slice a3_1 x3.Turns.length c3_1] 25 :: pc b53 #[vi x2.From, vi x2.To, vi x2.Dep, vi x2.Arr, vi x2.State, .slice a2_0 x2.Journey.Rides.length c2_0] 57 :: pc b52 (GuideMessage.cells x1).toArray 55 :: pc b51 #[.slice a0_0 x0.Stations.length c0_0, .slice a0_1 x0.Sections.length c0_1, .slice a0_2 x0.Links.length c0_2, .slice a0_3 x0.Signals.length c0_3, .slice a0_4 x0.Gates.length c0_4] 53 :: R)) mixed (by kernel_rfl) hS.drew ?_
 refine qP hE (Gives.fld hE rfl fl53_0) rfl fun a hE => ?_
 refine qP hE (Gives.loadB hE 5 rfl rfl rfl ty47) rfl fun a hE => ?_
 refine qP hE (Gives.p hE rfl) rfl fun a hE => ?_
 obtain ⟨x135, hx136, hr⟩ := bindS hr
 obtain ⟨hi137, hlt138, hy139⟩ := gx_some hx136
 obtain ⟨cs140, hl141, hR142, hat143⟩ := h0_0.at hy139
 subst hR142
 refine qP hE (Gives.idx hE (x108.Station).toNat rfl rfl sl47 hi137 hlt138 (h0_0.aok hlt138)) rfl fun a hE => ?_
 refine qP hE (Gives.load1 hE rfl (fun w h => hat143 w _ h) ty9) rfl fun a hE => ?_
 refine qP hE (Gives.fld hE rfl fl53_0) rfl fun a hE => ?_
 refine qP hE (Gives.loadB hE 5 rfl rfl rfl ty47) rfl fun a hE => ?_
 refine qP hE (Gives.p hE rfl) rfl fun a hE => ?_
 obtain ⟨x144, hx145, hr⟩ := bindS hr
 obtain ⟨hi146, hlt147, hy148⟩ := gx_some hx145
 obtain ⟨cs149, hl150, hR151, hat152⟩ := h0_0.at hy148
 subst hR151
 refine qP hE (Gives.idx hE (x117.Station).toNat rfl rfl sl47 hi146 hlt147 (h0_0.aok hlt147)) rfl fun a hE => ?_
 refine qP hE (Gives.load1 hE rfl (fun w h => hat152 w _ h) ty9) rfl fun a hE => ?_
 refine qP hE (Gives.p hE rfl) rfl fun a hE => ?_
 refine qP hE (Gives.p hE rfl) rfl fun a hE => ?_
 refine QL.nil ?_; clear hS w; intro w hS
 refine W.seq ?_
 refine W.gen fun K153 hK153 => ?_
 refine W.regionE (dup (fun w => St w s (pc b97 #[vi x82.No, vi x82.Stock, .slice a91 x82.Stops.length c92, .slice a94 x82.Legs.length c95] 111 :: pc b73 (GuideRide.cells x64).toArray 95 :: pc b54 #[.slice a3_0 x3.Trains.length c3_0, .slice a3_1 x3.Turns.length c3_1] 25 :: pc b53 #[vi x2.From, vi x2.To, vi x2.Dep, vi x2.Arr, vi x2.State, .slice a2_0 x2.Journey.Rides.length c2_0] 57 :: pc b52 (GuideMessage.cells x1).toArray 55 :: pc b51 #[.slice a0_0 x0.Stations.length c0_0, .slice a0_1 x0.Sections.length c0_1, .slice a0_2 x0.Links.length c0_2, .slice a0_3 x0.Signals.length c0_3, .slice a0_4 x0.Gates.length c0_4] 53 :: R))) (fun b i => cond b ([0, 1, 2, 3, 4, 5, 6, 7, 8, 9, 10, 11, 12, 13, 14, 15, 16, 17, 18, 19, 20, 21, 22, 23, 24, 25, 26, 27, 28, 29].contains i) ([0, 1, 2, 3, 4, 5, 6, 7, 8, 9, 10, 11, 12, 13, 14, 15, 16, 17, 18, 19, 20, 21, 22, 23, 24, 25, 26, 27, 28, 29].contains i)) mixed ?_
 replace hS := hS.drew
 refine tP (i := 0) hE rfl (by kernel_rfl) (Gives.fld hE rfl fl111_0) rfl hS hS fun a hE => ?_
 refine tT (i := 1) true rfl hE rfl (by kernel_rfl) (Gives.loadB hE 0 rfl rfl rfl ty3) rfl hS hS fun a hE => ?_
 refine tP (i := 4) hE rfl (by kernel_rfl) (Gives.p hE rfl) rfl hS hS fun a hE => ?_
 obtain ⟨x154, hx155, hr⟩ := bindS hr
 refine tP (i := 5) hE rfl (by kernel_rfl) (Gives.catS hE rfl rfl hx155) rfl hS hS fun a hE => ?_
 refine tP (i := 6) hE rfl (by kernel_rfl) (Gives.p hE rfl) rfl hS hS fun a hE => ?_
 obtain ⟨x156, hx157, hr⟩ := bindS hr
 refine tP (i := 7) hE rfl (by kernel_rfl) (Gives.catS hE rfl rfl hx157) rfl hS hS fun a hE => ?_
 refine tP (i := 8) hE rfl (by kernel_rfl) (Gives.p hE rfl) rfl hS hS fun a hE => ?_
 obtain ⟨x158, hx159, hr⟩ := bindS hr
 refine tP (i := 9) hE rfl (by kernel_rfl) (Gives.catS hE rfl rfl hx159) rfl hS hS fun a hE => ?_
 obtain ⟨x160, hx161, hr⟩ := bindS hr
 refine tP (i := 10) hE rfl (by kernel_rfl) (Gives.catS hE rfl rfl hx161) rfl hS hS fun a hE => ?_
 refine tP (i := 11) hE rfl (by kernel_rfl) (Gives.fld hE rfl fl55_4) rfl hS hS fun a hE => ?_
 refine tT (i := 12) true rfl hE rfl (by kernel_rfl) (Gives.loadB hE 4 rfl rfl rfl ty3) rfl hS hS fun a hE => ?_
 refine tP (i := 15) hE rfl (by kernel_rfl) (Gives.p hE rfl) rfl hS hS fun a hE => ?_
 obtain ⟨x162, hx163, hr⟩ := bindS hr
 refine tP (i := 16) hE rfl (by kernel_rfl) (Gives.catS hE rfl rfl hx163) rfl hS hS fun a hE => ?_
 obtain ⟨x164, hx165, hr⟩ := bindS hr
 refine tP (i := 17) hE rfl (by kernel_rfl) (Gives.catS hE rfl rfl hx165) rfl hS hS fun a hE => ?_
 refine tP (i := 18) hE rfl (by kernel_rfl) (Gives.fld hE rfl fl55_4) rfl hS hS fun a hE => ?_
 refine tT (i := 19) true rfl hE rfl (by kernel_rfl) (Gives.loadB hE 4 rfl rfl rfl ty3) rfl hS hS fun a hE => ?_
 refine tP (i := 23) hE rfl (by kernel_rfl) (Gives.fld hE rfl fl55_3) rfl hS hS fun a hE => ?_
 refine tT (i := 24) true rfl hE rfl (by kernel_rfl) (Gives.loadB hE 4 rfl rfl rfl ty3) rfl hS hS fun a hE => ?_
 refine Rg.one (i := 2) true true rfl (by kernel_rfl) (by kernel_rfl) (by kernel_rfl) ?_
 obtain ⟨q166, hq167, hr⟩ := bindS hr
 refine WL.fnq hE (itoa_ok hS (TabS.mono (Sg.Le.refl _) hTab) hq167) (runs_plain rfl) bd72 rfl rfl rfl ?_
 clear hE hS; rintro e w ⟨rfl, hS⟩; refine ⟨_, rfl, ?_⟩; clear a; intro a hE
 refine WL.nil ?_
 refine ⟨⟨fun _ => hS, fun _ => hS⟩, ?_⟩
 obtain ⟨x168, hx169, hr⟩ := bindS hr
 refine tP (i := 3) hE rfl (by kernel_rfl) (Gives.catS hE rfl rfl hx169) rfl hS hS fun a hE => ?_
 refine Rg.one (i := 13) true true rfl (by kernel_rfl) (by kernel_rfl) (by kernel_rfl) ?_
 obtain ⟨q170, hq171, hr⟩ := bindS hr
 have hc_ := Fishref2clock_ok hS (TabS.mono (Sg.Le.refl _) hTab) hq171
 refine WL.fnq hE (hc_) (runs_plain rfl) bd78 rfl rfl rfl ?_
 clear hE hS hc_; rintro e w ⟨rfl, hS⟩; refine ⟨_, rfl, ?_⟩; clear a; intro a hE
 refine WL.nil ?_
 refine ⟨⟨fun _ => hS, fun _ => hS⟩, ?_⟩
 obtain ⟨x172, hx173, hr⟩ := bindS hr
 refine tP (i := 14) hE rfl (by kernel_rfl) (Gives.catS hE rfl rfl hx173) rfl hS hS fun a hE => ?_
 refine Rg.one (i := 20) true true rfl (by kernel_rfl) (by kernel_rfl) (by kernel_rfl) ?_
 obtain ⟨q174, hq175, hr⟩ := bindS hr
 refine WL.fnq hE (itoa_ok hS (TabS.mono (Sg.Le.refl _) hTab) hq175) (runs_plain rfl) bd72 rfl rfl rfl ?_
 clear hE hS; rintro e w ⟨rfl, hS⟩; refine ⟨_, rfl, ?_⟩; clear a; intro a hE
 refine WL.nil ?_
 refine ⟨⟨fun _ => hS, fun _ => hS⟩, ?_⟩
 obtain ⟨x176, hx177, hr⟩ := bindS hr
 refine tP (i := 21) hE rfl (by kernel_rfl) (Gives.catS hE rfl rfl hx177) rfl hS hS fun a hE => ?_
 refine Rg.one (i := 22) true true rfl (by kernel_rfl) (by kernel_rfl) (by kernel_rfl) ?_
 refine WL.lit hE hS (e := 9) (es := 1) (vs := [(0, .string (str [])), (1, .string x154), (2, .string x156), (3, .string x172), (4, .string x176)]) (cs := [.string (str []), .string x154, .string x156, .string x172, .string x176]) (runs_plain rfl) rfl (by kernel_rfl) rfl ?_; clear hE hS a w; intro b178 a w hE hS
 replace hS := hS.ptVec (es := 1) (m := 5) rfl (by decide)
 have h180 : Ev 1 RS s [.string (str []), .string x154, .string x156, .string x172, .string x176] [(str []), x154, x156, x172, x176] := (Ev.cons (c1 := [.string (str [])]) rfl rfl (Ev.cons (c1 := [.string x154]) rfl rfl (Ev.cons (c1 := [.string x156]) rfl rfl (Ev.cons (c1 := [.string x172]) rfl rfl (Ev.cons (c1 := [.string x176]) rfl rfl (Ev.nil))))))
 have hF := hS.fixD RS.mono 0 rfl h180 (rfl); clear hS; obtain ⟨s181, hle182, hS, h183⟩ := hF
 replace h0_0 := Sl.mono RS.mono hle182 h0_0
 replace h93 := Sl.mono RApiStop.mono hle182 h93
 replace h96 := Sl.mono (RL.mono RI.mono) hle182 h96
 replace h3_0 := Sl.mono RApiTrain.mono hle182 h3_0
 replace h3_1 := Sl.mono (RL.mono RI.mono) hle182 h3_1
 replace h2_0 := Sl.mono RGuideRide.mono hle182 h2_0
 replace h0_1 := Sl.mono RApiSection.mono hle182 h0_1
 replace h0_2 := Sl.mono RApiLink.mono hle182 h0_2
 replace h0_3 := Sl.mono RApiSignal.mono hle182 h0_3
 replace h0_4 := Sl.mono RApiGate.mono hle182 h0_4
 refine WL.nil ?_
 refine ⟨⟨fun _ => (St.down hle182 hS), fun _ => (St.down hle182 hS)⟩, ?_⟩
 obtain ⟨x184, hx185, hr⟩ := bindS hr
 obtain ⟨hi186, hlt187, hy188⟩ := gx_some hx185
 obtain ⟨cs189, hl190, hR191, hat192⟩ := h183.at hy188
 subst hR191
 refine tP (i := 25) hE rfl (by kernel_rfl) (Gives.idx hE (x1.Kind).toNat rfl rfl sl47 hi186 hlt187 (h183.aok hlt187)) rfl (St.down hle182 hS) (St.down hle182 hS) fun a hE => ?_
 refine Rg.one (i := 26) true true rfl (by kernel_rfl) (by kernel_rfl) (by kernel_rfl) ?_
 refine vP hS hE (Gives.load1 hE rfl (fun w h => hat192 w _ h) ty9) rfl fun a hE => WL.nil ?_
 refine ⟨⟨fun _ => (St.down hle182 hS), fun _ => (St.down hle182 hS)⟩, ?_⟩
 obtain ⟨x193, hx194, hr⟩ := bindS hr
 refine tP (i := 27) hE rfl (by kernel_rfl) (Gives.catS hE rfl rfl hx194) rfl (St.down hle182 hS) (St.down hle182 hS) fun a hE => ?_
 refine tP (i := 28) hE rfl (by kernel_rfl) (Gives.p hE rfl) rfl (St.down hle182 hS) (St.down hle182 hS) fun a hE => ?_
 refine tP (i := 29) hE rfl (by kernel_rfl) (Gives.p hE rfl) rfl (St.down hle182 hS) (St.down hle182 hS) fun a hE => ?_
 refine Rg.done (by kernel_rfl) ?_
 subst hK153
 refine W.ret ?_
 refine finG (fn := Tryz.f21) (rs := [.tmp 8, .tmp 9]) (vs := [_, _]) hE rfl ⟨rfl, rfl, trivial⟩ ?_
 obtain rfl := Option.some.inj hr
 replace hS := hS.tail
 replace hS := hS.tail
 replace hS := hS.tail
 replace hS := hS.tail
 replace hS := hS.tail
 replace hS := hS.tail
 exact ⟨rfl, (hS.down hle182)⟩
set_option maxHeartbeats 8000000 in
theorem Fishlaw2GuideSays_ok {fu : Nat}  {w : World} {s : Sg} {R : List HP} {x0 : ApiNet} {a0_0 : Option Addr} {c0_0 : Nat} {a0_1 : Option Addr} {c0_1 : Nat} {a0_2 : Option Addr} {c0_2 : Nat} {a0_3 : Option Addr} {c0_3 : Nat} {a0_4 : Option Addr} {c0_4 : Nat} {x1 : List GuideLine} {a1 : Option Addr} {c1 : Nat} {x2 : GuideMessage} {x3 : GuidePromise} {a3_0 : Option Addr} {c3_0 : Nat} {x4 : ApiDay} {a4_0 : Option Addr} {c4_0 : Nat} {a4_1 : Option Addr} {c4_1 : Nat} (hS : St w s (R)) (hTab : TabS Tryz.prog s) (h0_0 : Sl 1 RS s a0_0 c0_0 x0.Stations) (h0_1 : Sl 7 RApiSection s a0_1 c0_1 x0.Sections) (h0_2 : Sl 4 RApiLink s a0_2 c0_2 x0.Links) (h0_3 : Sl 2 RApiSignal s a0_3 c0_3 x0.Signals) (h0_4 : Sl 2 RApiGate s a0_4 c0_4 x0.Gates) (h1 : Sl 6 RGuideLine s a1 c1 x1) (h3_0 : Sl 3 RGuideRide s a3_0 c3_0 x3.Journey.Rides) (h4_0 : Sl 4 RApiTrain s a4_0 c4_0 x4.Trains) (h4_1 : Sl 1 (RL 1 (RI .i64)) s a4_1 c4_1 x4.Turns) {r : Bool} (hr : Fishlaw2GuideSays fu x0 x1 x2 x3 x4 = some r) :
  Calls Tryz.prog 5 [.agg (List.toArray [.slice a0_0 x0.Stations.length c0_0, .slice a0_1 x0.Sections.length c0_1, .slice a0_2 x0.Links.length c0_2, .slice a0_3 x0.Signals.length c0_3, .slice a0_4 x0.Gates.length c0_4]), .slice a1 x1.length c1, .agg (GuideMessage.cells x2).toArray, .agg (List.toArray [vi x3.From, vi x3.To, vi x3.Dep, vi x3.Arr, vi x3.State, .slice a3_0 x3.Journey.Rides.length c3_0]), .agg (List.toArray [.slice a4_0 x4.Trains.length c4_0, .slice a4_1 x4.Turns.length c4_1])].toArray w (fun e w => e = .returned (.bool r) ∧ St w s (R)) := by
 refine enter Tryz.func5 rfl rfl rfl fun a hE => ?_
 rw [Fishlaw2GuideSays] at hr
 refine W.seq (W.region ?_)
 refine WL.box hE hS (runs_plain rfl) rfl rfl rfl ?_; clear hE hS a w; intro b51 a w hE hS
 refine WL.box hE hS (runs_plain rfl) rfl rfl rfl ?_; clear hE hS a w; intro b52 a w hE hS
 refine WL.box hE hS (runs_plain rfl) rfl rfl rfl ?_; clear hE hS a w; intro b53 a w hE hS
 refine WL.box hE hS (runs_plain rfl) rfl rfl rfl ?_; clear hE hS a w; intro b54 a w hE hS
 refine vp hS hE rfl rfl fun a hE => WL.nil ?_
 refine W.seq (W.region (vP hS hE (Gives.loadBA hE 3 rfl rfl ty53) rfl fun a hE => ?_))
 refine vp hS hE rfl rfl fun a hE => ?_
 obtain ⟨q55, hq56, hr⟩ := bindS hr
 have hc_ := GuideBoardText_ok hS (TabS.mono (Sg.Le.refl _) hTab) h0_0 h0_1 h0_2 h0_3 h0_4 h1 hq56
 refine WL.fnq hE (hc_) (runs_plain rfl) bd17 rfl rfl rfl ?_
 clear hE hS hc_; rintro e w ⟨rfl, hS⟩; refine ⟨_, rfl, ?_⟩; clear a; intro a hE
 refine v2 hS hE rfl rfl rfl rfl fun a hE => ?_
 refine v2 hS hE rfl rfl rfl rfl fun a hE => ?_
 refine vp hS hE rfl rfl fun a hE => WL.nil ?_
 refine W.seq (W.region (vP hS hE (Gives.loadBA hE 3 rfl rfl ty53) rfl fun a hE => ?_))
 refine vP hS hE (Gives.loadBA hE 2 rfl rfl ty55) rfl fun a hE => ?_
 refine vP hS hE (Gives.loadBA hE 1 rfl rfl ty57) rfl fun a hE => ?_
 refine vP hS hE (Gives.loadBA hE 0 rfl rfl ty25) rfl fun a hE => ?_
 obtain ⟨q57, hq58, hr⟩ := bindS hr
 have hc_ := GuideSay_ok hS (TabS.mono (Sg.Le.refl _) hTab) h0_0 h0_1 h0_2 h0_3 h0_4 h3_0 h4_0 h4_1 hq58
 refine WL.fnq hE (hc_) (runs_plain rfl) bd18 rfl rfl rfl ?_
 clear hE hS hc_; rintro e w ⟨rfl, hS⟩; refine ⟨_, rfl, ?_⟩; clear a; intro a hE
 refine v2 hS hE rfl rfl rfl rfl fun a hE => ?_
 refine v2 hS hE rfl rfl rfl rfl fun a hE => ?_
 refine vp hS hE rfl rfl fun a hE => WL.nil ?_
 refine W.seq (W.region (vP hS hE (Gives.loadBA hE 3 rfl rfl ty53) rfl fun a hE => ?_))
 obtain ⟨q59, hq60, hr⟩ := bindS hr
 have hc_ := Fishref1CheckNet_ok hS h0_0 h0_1 h0_2 h0_3 h0_4 hq60
 refine WL.fnq hE (hc_) (runs_plain rfl) bd19 rfl rfl rfl ?_
 clear hE hS hc_; rintro e w ⟨rfl, hS⟩; refine ⟨_, rfl, ?_⟩; clear a; intro a hE
 refine vp hS hE rfl rfl fun a hE => WL.nil ?_
 refine W.seq ?_
 refine W.seq (W.region (v2 hS hE rfl rfl rfl rfl fun a hE => WL.nil ?_))
 refine W.cond hE rfl (fun hc61 => ?_) (fun hc61 => ?_)
 ·replace hr := iteT hc61 hr
  refine W.seq ?_
  obtain ⟨q63, hq62, hr⟩ := bindS hr
  refine W.cut (fun a w => ∃ (q66 : Bool), q66 = q63 ∧ Rep a 93 [(10, .bool q66)] ∧ St w s (pc b54 #[.slice a4_0 x4.Trains.length c4_0, .slice a4_1 x4.Turns.length c4_1] 25 :: pc b53 #[vi x3.From, vi x3.To, vi x3.Dep, vi x3.Arr, vi x3.State, .slice a3_0 x3.Journey.Rides.length c3_0] 57 :: pc b52 (GuideMessage.cells x2).toArray 55 :: pc b51 #[.slice a0_0 x0.Stations.length c0_0, .slice a0_1 x0.Sections.length c0_1, .slice a0_2 x0.Links.length c0_2, .slice a0_3 x0.Signals.length c0_3, .slice a0_4 x0.Gates.length c0_4] 53 :: R)) ?_ ?_
  ·refine W.gen fun K67 hK67 => ?_
   refine W.region ?_
   obtain ⟨q68, hq69, hq62⟩ := bindS hq62
   have hc_ := Fishlaw2guides_ok hS (TabS.mono (Sg.Le.refl _) hTab) hq69
   refine WL.fnq hE (hc_) (runs_plain rfl) bd11 rfl rfl rfl ?_
   clear hE hS hc_; rintro e w ⟨rfl, hS⟩; refine ⟨_, rfl, ?_⟩; clear a; intro a hE
   refine vp hS hE rfl rfl fun a hE => ?_
   rcases Bool.eq_false_or_eq_true q68 with hg70 | hg70
   ·replace hq62 := iteT hg70 hq62
    refine WL.vS hS hE (runs_if hE rfl rfl rfl hg70) (Gives.p hE rfl) rfl fun a hE => ?_
    refine WL.vS hS hE (runs_if hE rfl rfl rfl hg70) (Gives.p hE rfl) rfl fun a hE => ?_
    refine WL.vS hS hE (runs_if hE rfl rfl rfl hg70) (Gives.p hE rfl) rfl fun a hE => ?_
    refine vP hS hE (Gives.pickT hE rfl hg70 rfl) rfl fun a hE => ?_
    refine vp hS hE rfl rfl fun a hE => ?_
    rcases Bool.eq_false_or_eq_true (q55.2 == q59) with hg71 | hg71
    ·replace hq62 := iteT hg71 hq62
     refine WL.vS hS hE (runs_if hE rfl rfl rfl hg71) (Gives.p hE rfl) rfl fun a hE => ?_
     refine WL.vS hS hE (runs_if hE rfl rfl rfl hg71) (Gives.p hE rfl) rfl fun a hE => ?_
     refine WL.vS hS hE (runs_if hE rfl rfl rfl hg71) (Gives.p hE rfl) rfl fun a hE => ?_
     refine vP hS hE (Gives.pickT hE rfl hg71 rfl) rfl fun a hE => ?_
     refine vp hS hE rfl rfl fun a hE => ?_
     rcases Bool.eq_false_or_eq_true (q57.2 == q59) with hg72 | hg72
     ·replace hq62 := iteT hg72 hq62
      refine WL.vS hS hE (runs_if hE rfl rfl rfl hg72) (Gives.p hE rfl) rfl fun a hE => ?_
      refine WL.vS hS hE (runs_if hE rfl rfl rfl hg72) (Gives.p hE rfl) rfl fun a hE => ?_
      obtain ⟨x73, hx74, hq62⟩ := bindS hq62
      refine WL.vS hS hE (runs_if hE rfl rfl rfl hg72) (Gives.catS hE rfl rfl hx74) rfl fun a hE => ?_
      refine WL.vS hS hE (runs_if hE rfl rfl rfl hg72) (Gives.eqSt hE rfl rfl) rfl fun a hE => ?_
      refine vP hS hE (Gives.pickT hE rfl hg72 rfl) rfl fun a hE => ?_
      refine vp hS hE rfl rfl fun a hE => WL.nil ?_
      subst hK67
      exact ⟨(seq x73 (str [])), Option.some.inj hq62, hE.pick _ ⟨rfl, trivial⟩, hS⟩
     replace hq62 := iteF hg72 hq62
     refine nO hE rfl rfl rfl (by rw [hg72]; decide) rfl fun a hE => ?_
     refine nO hE rfl rfl rfl (by rw [hg72]; decide) rfl fun a hE => ?_
     refine nO hE rfl rfl rfl (by rw [hg72]; decide) rfl fun a hE => ?_
     refine nO hE rfl rfl rfl (by rw [hg72]; decide) rfl fun a hE => ?_
     refine vP hS hE (Gives.pickF hE rfl hg72 rfl) rfl fun a hE => ?_
     refine vp hS hE rfl rfl fun a hE => WL.nil ?_
     subst hK67
     exact ⟨false, Option.some.inj hq62, hE.pick _ ⟨rfl, trivial⟩, hS⟩
    replace hq62 := iteF hg71 hq62
    refine nO hE rfl rfl rfl (by rw [hg71]; decide) rfl fun a hE => ?_
    refine nO hE rfl rfl rfl (by rw [hg71]; decide) rfl fun a hE => ?_
    refine nO hE rfl rfl rfl (by rw [hg71]; decide) rfl fun a hE => ?_
    refine vP hS hE (Gives.pickF hE rfl hg71 rfl) rfl fun a hE => ?_
    refine vp hS hE rfl rfl fun a hE => ?_
    refine nO hE rfl rfl rfl (by decide) rfl fun a hE => ?_
    refine nO hE rfl rfl rfl (by decide) rfl fun a hE => ?_
    refine nO hE rfl rfl rfl (by decide) rfl fun a hE => ?_
    refine nO hE rfl rfl rfl (by decide) rfl fun a hE => ?_
    refine vP hS hE (Gives.pickF hE rfl rfl rfl) rfl fun a hE => ?_
    refine vp hS hE rfl rfl fun a hE => WL.nil ?_
    subst hK67
    exact ⟨false, Option.some.inj hq62, hE.pick _ ⟨rfl, trivial⟩, hS⟩
   replace hq62 := iteF hg70 hq62
   refine nO hE rfl rfl rfl (by rw [hg70]; decide) rfl fun a hE => ?_
   refine nO hE rfl rfl rfl (by rw [hg70]; decide) rfl fun a hE => ?_
   refine nO hE rfl rfl rfl (by rw [hg70]; decide) rfl fun a hE => ?_
   refine vP hS hE (Gives.pickF hE rfl hg70 rfl) rfl fun a hE => ?_
   refine vp hS hE rfl rfl fun a hE => ?_
   refine nO hE rfl rfl rfl (by decide) rfl fun a hE => ?_
   refine nO hE rfl rfl rfl (by decide) rfl fun a hE => ?_
   refine nO hE rfl rfl rfl (by decide) rfl fun a hE => ?_
   refine vP hS hE (Gives.pickF hE rfl rfl rfl) rfl fun a hE => ?_
   refine vp hS hE rfl rfl fun a hE => ?_
   refine nO hE rfl rfl rfl (by decide) rfl fun a hE => ?_
   refine nO hE rfl rfl rfl (by decide) rfl fun a hE => ?_
   refine nO hE rfl rfl rfl (by decide) rfl fun a hE => ?_
   refine nO hE rfl rfl rfl (by decide) rfl fun a hE => ?_
   refine vP hS hE (Gives.pickF hE rfl rfl rfl) rfl fun a hE => ?_
   refine vp hS hE rfl rfl fun a hE => WL.nil ?_
   subst hK67
   exact ⟨false, Option.some.inj hq62, hE.pick _ ⟨rfl, trivial⟩, hS⟩
  clear hE hS a w; rintro a w ⟨q66, rfl, hE, hS⟩
  refine W.ret ?_
  refine finG (fn := Tryz.f5) (rs := [.tmp 10]) (vs := [_]) hE rfl ⟨rfl, trivial⟩ ?_
  obtain rfl := Option.some.inj hr
  replace hS := hS.tail
  replace hS := hS.tail
  replace hS := hS.tail
  replace hS := hS.tail
  exact ⟨rfl, hS⟩
 replace hr := iteF hc61 hr
 refine W.skip ?_
 refine W.seq (W.region (vP hS hE (Gives.loadBA hE 3 rfl rfl ty53) rfl fun a hE => ?_))
 refine vp hS hE rfl rfl fun a hE => ?_
 obtain ⟨q75, hq76, hr⟩ := bindS hr
 have hc_ := Fishref2BoardText_ok hS (TabS.mono (Sg.Le.refl _) hTab) h0_0 h0_1 h0_2 h0_3 h0_4 h1 hq76
 refine WL.fnq hE (hc_) (runs_plain rfl) bd20 rfl rfl rfl ?_
 clear hE hS hc_; rintro e w ⟨rfl, hS⟩; refine ⟨_, rfl, ?_⟩; clear a; intro a hE
 refine v2 hS hE rfl rfl rfl rfl fun a hE => ?_
 refine v2 hS hE rfl rfl rfl rfl fun a hE => ?_
 refine vp hS hE rfl rfl fun a hE => WL.nil ?_
 refine W.seq ?_
 refine W.seq ?_
 obtain ⟨q78, hq77, hr⟩ := bindS hr
 refine W.cut (fun a w => ∃ (q81 : Bool), q81 = q78 ∧ Rep a 93 [(5, pp b51), (7, pp b52), (8, pp b53), (9, pp b54), (13, .string q57.1), (14, vi q57.2), (72, .bool q81)] ∧ St w s (pc b54 #[.slice a4_0 x4.Trains.length c4_0, .slice a4_1 x4.Turns.length c4_1] 25 :: pc b53 #[vi x3.From, vi x3.To, vi x3.Dep, vi x3.Arr, vi x3.State, .slice a3_0 x3.Journey.Rides.length c3_0] 57 :: pc b52 (GuideMessage.cells x2).toArray 55 :: pc b51 #[.slice a0_0 x0.Stations.length c0_0, .slice a0_1 x0.Sections.length c0_1, .slice a0_2 x0.Links.length c0_2, .slice a0_3 x0.Signals.length c0_3, .slice a0_4 x0.Gates.length c0_4] 53 :: R)) ?_ ?_
 ·refine W.gen fun K82 hK82 => ?_
  refine W.region ?_
  obtain ⟨q83, hq84, hq77⟩ := bindS hq77
  have hc_ := Fishlaw2guides_ok hS (TabS.mono (Sg.Le.refl _) hTab) hq84
  refine WL.fnq hE (hc_) (runs_plain rfl) bd11 rfl rfl rfl ?_
  clear hE hS hc_; rintro e w ⟨rfl, hS⟩; refine ⟨_, rfl, ?_⟩; clear a; intro a hE
  refine v2 hS hE rfl rfl rfl rfl fun a hE => ?_
  rcases Bool.eq_false_or_eq_true !q83 with hg85 | hg85
  ·replace hq77 := iteT hg85 hq77
   refine nO hE rfl rfl rfl (by rw [hg85]; decide) rfl fun a hE => ?_
   refine nO hE rfl rfl rfl (by rw [hg85]; decide) rfl fun a hE => ?_
   refine nO hE rfl rfl rfl (by rw [hg85]; decide) rfl fun a hE => ?_
   refine vP hS hE (Gives.pickT hE rfl hg85 rfl) rfl fun a hE => ?_
   refine vp hS hE rfl rfl fun a hE => ?_
   refine nO hE rfl rfl rfl (by decide) rfl fun a hE => ?_
   refine nO hE rfl rfl rfl (by decide) rfl fun a hE => ?_
   refine nO hE rfl rfl rfl (by decide) rfl fun a hE => ?_
   refine vP hS hE (Gives.pickT hE rfl rfl rfl) rfl fun a hE => WL.nil ?_
   subst hK82
   exact ⟨true, Option.some.inj hq77, hE.pick _ ⟨rfl, rfl, rfl, rfl, rfl, rfl, rfl, trivial⟩, hS⟩
  replace hq77 := iteF hg85 hq77
  refine WL.vS hS hE (runs_if hE rfl rfl rfl hg85) (Gives.p hE rfl) rfl fun a hE => ?_
  refine WL.vS hS hE (runs_if hE rfl rfl rfl hg85) (Gives.p hE rfl) rfl fun a hE => ?_
  refine WL.vS hS hE (runs_if hE rfl rfl rfl hg85) (Gives.neSt hE rfl rfl) rfl fun a hE => ?_
  refine vP hS hE (Gives.pickF hE rfl hg85 rfl) rfl fun a hE => ?_
  refine vp hS hE rfl rfl fun a hE => ?_
  rcases Bool.eq_false_or_eq_true (!(seq q55.1 q75.1)) with hg86 | hg86
  ·replace hq77 := iteT hg86 hq77
   refine nO hE rfl rfl rfl (by rw [hg86]; decide) rfl fun a hE => ?_
   refine nO hE rfl rfl rfl (by rw [hg86]; decide) rfl fun a hE => ?_
   refine nO hE rfl rfl rfl (by rw [hg86]; decide) rfl fun a hE => ?_
   refine vP hS hE (Gives.pickT hE rfl hg86 rfl) rfl fun a hE => WL.nil ?_
   subst hK82
   exact ⟨true, Option.some.inj hq77, hE.pick _ ⟨rfl, rfl, rfl, rfl, rfl, rfl, rfl, trivial⟩, hS⟩
  replace hq77 := iteF hg86 hq77
  refine WL.vS hS hE (runs_if hE rfl rfl rfl hg86) (Gives.p hE rfl) rfl fun a hE => ?_
  refine WL.vS hS hE (runs_if hE rfl rfl rfl hg86) (Gives.p hE rfl) rfl fun a hE => ?_
  refine WL.vS hS hE (runs_if hE rfl rfl rfl hg86) (Gives.p hE rfl) rfl fun a hE => ?_
  refine vP hS hE (Gives.pickF hE rfl hg86 rfl) rfl fun a hE => WL.nil ?_
  subst hK82
  exact ⟨(q55.2 != q75.2), Option.some.inj hq77, hE.pick _ ⟨rfl, rfl, rfl, rfl, rfl, rfl, rfl, trivial⟩, hS⟩
 clear hE hS a w; rintro a w ⟨q81, rfl, hE, hS⟩
 refine W.cond hE rfl (fun hc87 => ?_) (fun hc87 => ?_)
 ·replace hr := iteT hc87 hr
  refine W.seq (W.region (vp hS hE rfl rfl fun a hE => WL.nil ?_))
  refine W.ret ?_
  refine finG (fn := Tryz.f5) (rs := [.tmp 10]) (vs := [_]) hE rfl ⟨rfl, trivial⟩ ?_
  obtain rfl := Option.some.inj hr
  replace hS := hS.tail
  replace hS := hS.tail
  replace hS := hS.tail
  replace hS := hS.tail
  exact ⟨rfl, hS⟩
 replace hr := iteF hc87 hr
 refine W.skip ?_
 refine W.seq (W.region (vP hS hE (Gives.loadBA hE 0 rfl rfl ty25) rfl fun a hE => ?_))
 obtain ⟨q88, hq89, hr⟩ := bindS hr
 have hc_ := Fishref2GuideFault_ok hS h4_0 h4_1 hq89
 refine WL.fnq hE (hc_) (runs_plain rfl) bd8 rfl rfl rfl ?_
 clear hE hS hc_; rintro e w ⟨rfl, hS⟩; refine ⟨_, rfl, ?_⟩; clear a; intro a hE
 refine v2 hS hE rfl rfl rfl rfl fun a hE => WL.nil ?_
 refine W.seq ?_
 refine W.seq (W.region (v2 hS hE rfl rfl rfl rfl fun a hE => WL.nil ?_))
 obtain ⟨q91, hq90, hr⟩ := bindS hr
 refine W.cut (fun a w => ∃ (q94 : ByteArray), ∃ (q95 : Int), (q94, q95) = q91 ∧ Rep a 93 [(13, .string q57.1), (14, vi q57.2), (18, .string q94), (19, vi q95)] ∧ St w s (pc b54 #[.slice a4_0 x4.Trains.length c4_0, .slice a4_1 x4.Turns.length c4_1] 25 :: pc b53 #[vi x3.From, vi x3.To, vi x3.Dep, vi x3.Arr, vi x3.State, .slice a3_0 x3.Journey.Rides.length c3_0] 57 :: pc b52 (GuideMessage.cells x2).toArray 55 :: pc b51 #[.slice a0_0 x0.Stations.length c0_0, .slice a0_1 x0.Sections.length c0_1, .slice a0_2 x0.Links.length c0_2, .slice a0_3 x0.Signals.length c0_3, .slice a0_4 x0.Gates.length c0_4] 53 :: R)) ?_ ?_
 ·refine W.gen fun K96 hK96 => ?_
  refine W.cond hE rfl (fun hc97 => ?_) (fun hc97 => ?_)
  ·replace hq90 := iteT hc97 hq90
   refine W.region ?_
   refine vP hS hE (Gives.loadBA hE 3 rfl rfl ty53) rfl fun a hE => ?_
   refine vP hS hE (Gives.loadBA hE 2 rfl rfl ty55) rfl fun a hE => ?_
   refine vP hS hE (Gives.loadBA hE 1 rfl rfl ty57) rfl fun a hE => ?_
   refine vP hS hE (Gives.loadBA hE 0 rfl rfl ty25) rfl fun a hE => ?_
   obtain ⟨q98, hq99, hq90⟩ := bindS hq90
   have hc_ := Fishref2SayOf_ok hS (TabS.mono (Sg.Le.refl _) hTab) h0_0 h0_1 h0_2 h0_3 h0_4 h3_0 h4_0 h4_1 hq99
   refine WL.fnq hE (hc_) (runs_plain rfl) bd21 rfl rfl rfl ?_
   clear hE hS hc_; rintro e w ⟨rfl, hS⟩; refine ⟨_, rfl, ?_⟩; clear a; intro a hE
   refine v2 hS hE rfl rfl rfl rfl fun a hE => ?_
   refine v2 hS hE rfl rfl rfl rfl fun a hE => ?_
   refine vp hS hE rfl rfl fun a hE => WL.nil ?_
   subst hK96
   exact ⟨q98.1, q98.2, Option.some.inj hq90, hE.pick _ ⟨rfl, rfl, rfl, rfl, trivial⟩, hS⟩
  replace hq90 := iteF hc97 hq90
  refine W.skip ?_
  subst hK96
  exact ⟨(str []), q88, Option.some.inj hq90, hE.pick _ ⟨rfl, rfl, rfl, rfl, trivial⟩, hS⟩
 clear hE hS a w; rintro a w ⟨q94, q95, rfl, hE, hS⟩
 dsimp only at hr
 refine W.seq ?_
 obtain ⟨q101, hq100, hr⟩ := bndS hr
 refine W.cut (fun a w => ∃ (q104 : Bool), q104 = q101 ∧ Rep a 93 [(10, .bool q104)] ∧ St w s (pc b54 #[.slice a4_0 x4.Trains.length c4_0, .slice a4_1 x4.Turns.length c4_1] 25 :: pc b53 #[vi x3.From, vi x3.To, vi x3.Dep, vi x3.Arr, vi x3.State, .slice a3_0 x3.Journey.Rides.length c3_0] 57 :: pc b52 (GuideMessage.cells x2).toArray 55 :: pc b51 #[.slice a0_0 x0.Stations.length c0_0, .slice a0_1 x0.Sections.length c0_1, .slice a0_2 x0.Links.length c0_2, .slice a0_3 x0.Signals.length c0_3, .slice a0_4 x0.Gates.length c0_4] 53 :: R)) ?_ ?_
 ·refine W.gen fun K105 hK105 => ?_
  refine W.region ?_
  refine v2 hS hE rfl rfl rfl rfl fun a hE => ?_
  refine vP hS hE (Gives.eqSt hE rfl rfl) rfl fun a hE => ?_
  refine vp hS hE rfl rfl fun a hE => ?_
  rcases Bool.eq_false_or_eq_true (seq q57.1 q94) with hg106 | hg106
  ·replace hq100 := iteT hg106 hq100
   refine WL.vS hS hE (runs_if hE rfl rfl rfl hg106) (Gives.p hE rfl) rfl fun a hE => ?_
   refine WL.vS hS hE (runs_if hE rfl rfl rfl hg106) (Gives.p hE rfl) rfl fun a hE => ?_
   refine WL.vS hS hE (runs_if hE rfl rfl rfl hg106) (Gives.p hE rfl) rfl fun a hE => ?_
   refine vP hS hE (Gives.pickT hE rfl hg106 rfl) rfl fun a hE => ?_
   refine vp hS hE rfl rfl fun a hE => WL.nil ?_
   subst hK105
   exact ⟨(q57.2 == q95), hq100, hE.pick _ ⟨rfl, trivial⟩, hS⟩
  replace hq100 := iteF hg106 hq100
  refine nO hE rfl rfl rfl (by rw [hg106]; decide) rfl fun a hE => ?_
  refine nO hE rfl rfl rfl (by rw [hg106]; decide) rfl fun a hE => ?_
  refine nO hE rfl rfl rfl (by rw [hg106]; decide) rfl fun a hE => ?_
  refine vP hS hE (Gives.pickF hE rfl hg106 rfl) rfl fun a hE => ?_
  refine vp hS hE rfl rfl fun a hE => WL.nil ?_
  subst hK105
  exact ⟨false, hq100, hE.pick _ ⟨rfl, trivial⟩, hS⟩
 clear hE hS a w; rintro a w ⟨q104, rfl, hE, hS⟩
 refine W.ret ?_
 refine finG (fn := Tryz.f5) (rs := [.tmp 10]) (vs := [_]) hE rfl ⟨rfl, trivial⟩ ?_
 obtain rfl := Option.some.inj hr
 replace hS := hS.tail
 replace hS := hS.tail
 replace hS := hS.tail
 replace hS := hS.tail
 exact ⟨rfl, hS⟩
end Go.Proofs.YtpcebngchmgckaaGreatDoor
