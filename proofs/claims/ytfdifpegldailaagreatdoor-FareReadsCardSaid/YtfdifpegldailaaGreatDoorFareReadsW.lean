/- The walks of the functions that FareReads reaches: each call comes to what its mirror says. The conditions are those of each contract. -/
import Derived.Test.YtfdifpegldailaaGreatDoorProg
import Derived.Test.YtfdifpegldailaaGreatDoorFpTight
import Derived.Test.YtfdifpegldailaaGreatDoorFareReadsM
import Derived.Test.YtfdifpegldailaaGreatDoorFpAllT
import Derived.Test.YtfdifpegldailaaGreatDoorFareReadsS
import Derived.Test.YtfdifpegldailaaGreatDoorFpDfr
import Derived.Test.YtfdifpegldailaaGreatDoorFpErr
import Derived.Test.YtfdifpegldailaaGreatDoorFpJoin
import Derived.Test.YtfdifpegldailaaGreatDoorFpKeyB
import Derived.Test.YtfdifpegldailaaGreatDoorFpMeth
import Derived.Test.YtfdifpegldailaaGreatDoorFpPan
import Derived.Test.YtfdifpegldailaaGreatDoorFpRf
import Derived.Test.YtfdifpegldailaaGreatDoorFpRfO
import Derived.Test.YtfdifpegldailaaGreatDoorFpRgP
import Derived.Test.YtfdifpegldailaaGreatDoorFpRgn
import Derived.Test.YtfdifpegldailaaGreatDoorFpRune
import Derived.Test.YtfdifpegldailaaGreatDoorFareReadsW3
set_option maxRecDepth 10000
namespace Go.Proofs.YtfdifpegldailaaGreatDoor
open Go Go.Fp
set_option maxHeartbeats 8000000 in
theorem Fishref2ReadTariff_ok {fu : Nat}  {w : World} {s : Sg} {R : List HP} {x0 : ByteArray} (hS : St w s (R)) (hTab : TabX s) {r : FareTariff × Int} (hr : Fishref2ReadTariff fu x0 = some r) :
  Calls Tryz.prog 11 [.string x0].toArray w (fun e w => ∃ (cs0 : List Value) (t : Sg), e = .returned (.tuple #[.agg cs0.toArray, vi r.2]) ∧ s.Le t ∧ RFareTariff t cs0 r.1 ∧ St w t (R)) := by
 refine enter Tryz.func11 rfl rfl rfl fun a hE => ?_
 rw [Fishref2ReadTariff] at hr
 refine W.seq (W.region ?_)
 refine WL.alloc hE hS (runs_plain rfl) zr25 rfl ?_; clear hE hS a w; intro b51 a w hE hS
 refine vp hS hE rfl rfl fun a hE => WL.nil ?_
 refine W.seq ?_
 refine W.seq (W.region (vp hS hE rfl rfl fun a hE => ?_))
 refine vP hS hE (Gives.lenS hE rfl st9) rfl fun a hE => ?_
 refine vp hS hE rfl rfl fun a hE => WL.nil ?_
 refine W.cond hE rfl (fun hc52 => ?_) (fun hc52 => ?_)
 ·replace hr := iteT hc52 hr
  refine W.seq (W.region (vP hS hE (Gives.build hE (vs := []) [.bool false, .slice none 0 0, vi 0, .slice none 0 0] rfl (by kernel_rfl)) rfl fun a hE => ?_))
  refine WL.storeI hE hS 0 rfl [.bool false, .slice none 0 0, vi 0, .slice none 0 0] (runs_plain rfl) rfl rfl rfl ty25 rfl rfl rfl rfl ?_; clear hE hS a w; intro a w hE hS
  refine vp hS hE rfl rfl fun a hE => WL.nil ?_
  refine W.ret ?_
  refine finG (fn := Tryz.f11) (rs := [.cell 2 25, .tmp 3]) (vs := [_, _]) hE rfl ⟨⟨_, rfl, .inl ⟨_, rfl, hS.seesAt 0 rfl, ty25⟩⟩, rfl, trivial⟩ ?_
  obtain rfl := Option.some.inj hr
  replace hS := hS.tail
  exact ⟨_, s, rfl, (Sg.Le.refl _), ⟨_, _, _, _, rfl, Sl.nil, Sl.nil⟩, hS⟩
 replace hr := iteF hc52 hr
 refine W.skip ?_
 refine W.seq (W.region (vp hS hE rfl rfl fun a hE => ?_))
 obtain ⟨q53, hq54, hr⟩ := bindS hr
 have hc_ := Fishref2tariffOf_ok hS (TabG.mono (Sg.Le.refl _) hTab) hq54
 refine WL.fnq hE (hc_) (runs_plain rfl) bd26 rfl rfl rfl ?_
 clear hE hS hc_; rintro e w ⟨cs55, s57, rfl, hle58, h56, hS⟩; refine ⟨_, rfl, ?_⟩; clear a; intro a hE
 obtain ⟨a59, c60, a62, c63, rfl, h61, h64⟩ := h56
 refine v2 hS hE rfl rfl rfl rfl fun a hE => ?_
 refine vp hS hE rfl rfl fun a hE => ?_
 refine WL.alloc hE hS (runs_plain rfl) zr25 rfl ?_; clear hE hS a w; intro b65 a w hE hS
 refine WL.storeI hE hS 0 rfl [.bool q53.1.ByKm, .slice a59 q53.1.Bands.length c60, vi q53.1.Round, .slice a62 q53.1.Rules.length c63] (runs_plain rfl) rfl rfl rfl ty25 rfl rfl rfl rfl ?_; clear hE hS a w; intro a w hE hS
 refine vp hS hE rfl rfl fun a hE => WL.nil ?_
 refine W.seq ?_
 refine W.seq (W.region (v2 hS hE rfl rfl rfl rfl fun a hE => WL.nil ?_))
 refine W.cond hE rfl (fun hc66 => ?_) (fun hc66 => ?_)
 ·replace hr := iteT hc66 hr
  refine W.seq (W.region (vP hS hE (Gives.build hE (vs := []) [.bool false, .slice none 0 0, vi 0, .slice none 0 0] rfl (by kernel_rfl)) rfl fun a hE => ?_))
  refine WL.storeI hE hS 1 rfl [.bool false, .slice none 0 0, vi 0, .slice none 0 0] (runs_plain rfl) rfl rfl rfl ty25 rfl rfl rfl rfl ?_; clear hE hS a w; intro a w hE hS
  refine vp hS hE rfl rfl fun a hE => WL.nil ?_
  refine W.ret ?_
  refine finG (fn := Tryz.f11) (rs := [.cell 2 25, .tmp 3]) (vs := [_, _]) hE rfl ⟨⟨_, rfl, .inl ⟨_, rfl, hS.seesAt 1 rfl, ty25⟩⟩, rfl, trivial⟩ ?_
  obtain rfl := Option.some.inj hr
  replace hS := hS.tail
  replace hS := hS.tail
  exact ⟨_, s57, rfl, hle58, ⟨_, _, _, _, rfl, Sl.nil, Sl.nil⟩, hS⟩
 replace hr := iteF hc66 hr
 refine W.skip ?_
 refine W.seq ?_
 refine W.seq (W.region (vP hS hE (Gives.loadBA hE 0 rfl rfl ty25) rfl fun a hE => ?_))
 obtain ⟨q67, hq68, hr⟩ := bindS hr
 have hc_ := Fishref2TariffFault_ok hS h61 h64 hq68
 refine WL.fnq hE (hc_) (runs_plain rfl) bd6 rfl rfl rfl ?_
 clear hE hS hc_; rintro e w ⟨rfl, hS⟩; refine ⟨_, rfl, ?_⟩; clear a; intro a hE
 refine vp hS hE rfl rfl fun a hE => WL.nil ?_
 refine W.seq (W.region (v2 hS hE rfl rfl rfl rfl fun a hE => WL.nil ?_))
 refine W.cond hE rfl (fun hc69 => ?_) (fun hc69 => ?_)
 ·replace hr := iteT hc69 hr
  refine W.seq (W.region (vP hS hE (Gives.build hE (vs := []) [.bool false, .slice none 0 0, vi 0, .slice none 0 0] rfl (by kernel_rfl)) rfl fun a hE => ?_))
  refine vp hS hE rfl rfl fun a hE => ?_
  refine WL.storeI hE hS 1 rfl [.bool false, .slice none 0 0, vi 0, .slice none 0 0] (runs_plain rfl) rfl rfl rfl ty25 rfl rfl rfl rfl ?_; clear hE hS a w; intro a w hE hS
  refine vp hS hE rfl rfl fun a hE => WL.nil ?_
  refine W.ret ?_
  refine finG (fn := Tryz.f11) (rs := [.cell 2 25, .tmp 3]) (vs := [_, _]) hE rfl ⟨⟨_, rfl, .inl ⟨_, rfl, hS.seesAt 1 rfl, ty25⟩⟩, rfl, trivial⟩ ?_
  obtain rfl := Option.some.inj hr
  replace hS := hS.tail
  replace hS := hS.tail
  exact ⟨_, s57, rfl, hle58, ⟨_, _, _, _, rfl, Sl.nil, Sl.nil⟩, hS⟩
 replace hr := iteF hc69 hr
 refine W.skip ?_
 refine W.seq (W.region (vP hS hE (Gives.loadBA hE 0 rfl rfl ty25) rfl fun a hE => ?_))
 refine WL.storeI hE hS 1 rfl [.bool q53.1.ByKm, .slice a59 q53.1.Bands.length c60, vi q53.1.Round, .slice a62 q53.1.Rules.length c63] (runs_plain rfl) rfl rfl rfl ty25 rfl rfl rfl rfl ?_; clear hE hS a w; intro a w hE hS
 refine vp hS hE rfl rfl fun a hE => WL.nil ?_
 refine W.ret ?_
 refine finG (fn := Tryz.f11) (rs := [.cell 2 25, .tmp 3]) (vs := [_, _]) hE rfl ⟨⟨_, rfl, .inl ⟨_, rfl, hS.seesAt 1 rfl, ty25⟩⟩, rfl, trivial⟩ ?_
 obtain rfl := Option.some.inj hr
 replace hS := hS.tail
 replace hS := hS.tail
 exact ⟨_, s57, rfl, hle58, ⟨_, _, _, _, rfl, h61, h64⟩, hS⟩
set_option maxHeartbeats 8000000 in
theorem FarecheckZones_ok  {w : World} {s : Sg} {R : List HP} {x0 : List Int} {a0 : Option Addr} {c0 : Nat} {x1 : Bool} (hS : St w s (R)) (h0 : Sl 1 (RI .i64) s a0 c0 x0) {r : Int} (hr : FarecheckZones x0 x1 = some r) :
  Calls Tryz.prog 58 [.slice a0 x0.length c0, .bool x1].toArray w (fun e w => e = .returned (vi r) ∧ St w s (R)) := by
 refine enter Tryz.func58 rfl rfl rfl fun a hE => ?_
 rw [FarecheckZones] at hr
 refine W.seq (W.region (vp hS hE rfl rfl fun a hE => WL.nil ?_))
 refine W.seq ?_
 refine W.seq (W.region (vp hS hE rfl rfl fun a hE => ?_))
 refine vP hS hE (Gives.len hE rfl sl47) rfl fun a hE => ?_
 refine vp hS hE rfl rfl fun a hE => WL.nil ?_
 obtain ⟨q52, hq51, hr⟩ := bindS hr
 refine W.cut (fun a w => (.next ()) = q52 ∧ Rep a 41 [] ∧ St w s (R)) ?_ ?_
 ·refine W.block ?_
  refine W.loop (fun m a w => ∃ (rest55 : List Int) (k53 : Nat), rest55.length = m ∧ x0.drop k53 = rest55 ∧ FarecheckZones.loop1 x0 x1 rest55 k53 = some q52 ∧ Rep a 41 [(0, .slice a0 x0.length c0), (1, .bool x1), (7, .slice a0 x0.length c0), (8, vi ((x0).length : Int)), (9, vi ((k53 : Nat) : Int))] ∧ St w s (R)) (m := x0.length) ⟨x0, 0, rfl, rfl, hq51, hE.pick _ ⟨rfl, rfl, rfl, rfl, rfl, trivial⟩, hS⟩ ?_
  clear hE hS a w hq51; rintro m59 a w ⟨rest55, k53, rfl, hd56, hq51, hE, hS⟩
  refine W.gen fun K62 hK62 => ?_
  rcases rest55 with _ | ⟨x54, rest55⟩
  ·have hlt57 := drop_nil hd56
   refine W.seq (W.region (vp hS hE rfl rfl fun a hE => WL.nil ?_))
   refine W.seq ?_
   refine W.condF hE rfl (decide_eq_false (by omega)) ?_
   subst hK62
   refine W.exit rfl ?_
   exact ⟨Option.some.inj hq51, hE.pick _ trivial, hS⟩
  obtain ⟨hlt57, hx58, hd56⟩ := drop_cons hd56
  rw [FarecheckZones.loop1] at hq51
  refine W.seq (W.region (vp hS hE rfl rfl fun a hE => WL.nil ?_))
  refine W.seq ?_
  refine W.condT hE rfl (decide_eq_true (by omega)) ?_
  refine W.skip ?_
  refine W.seq ?_
  refine W.block ?_
  refine W.seq (W.region (vp hS hE rfl rfl fun a hE => ?_))
  obtain ⟨cs63, hl64, hR65, hat66⟩ := h0.at hx58
  subst hR65
  refine vP hS hE (Gives.idx hE k53 rfl rfl sl47 rfl hlt57 (h0.aok hlt57)) rfl fun a hE => ?_
  refine vP hS hE (Gives.load1 hE rfl (fun w h => hat66 w _ h) ty3) rfl fun a hE => ?_
  refine v2 hS hE rfl rfl rfl rfl fun a hE => WL.nil ?_
  refine W.seq ?_
  refine W.seq (W.region (vp hS hE rfl rfl fun a hE => ?_))
  refine WL.fnq hE (Farewithin_ok hS  rfl (r := Farewithin x54 0 19)) (runs_plain rfl) bd27 rfl rfl rfl ?_
  clear hE hS; rintro e w ⟨rfl, hS⟩; refine ⟨_, rfl, ?_⟩; clear a; intro a hE
  refine vp hS hE rfl rfl fun a hE => WL.nil ?_
  refine W.cond hE rfl (fun hc67 => ?_) (fun hc67 => ?_)
  ·replace hq51 := iteT hc67 hq51
   refine W.seq (W.region (vp hS hE rfl rfl fun a hE => WL.nil ?_))
   refine W.ret ?_
   subst hK62
   rw [← Option.some.inj hq51] at hr
   dsimp only at hr
   refine finG (fn := Tryz.f58) (rs := [.tmp 4]) (vs := [_]) hE rfl ⟨rfl, trivial⟩ ?_
   obtain rfl := Option.some.inj hr
   exact ⟨rfl, hS⟩
  replace hq51 := iteF hc67 hq51
  refine W.skip ?_
  refine W.seq ?_
  obtain ⟨q69, hq68, hq51⟩ := bindS hq51
  refine W.cut (fun a w => ∃ (q72 : Bool), q72 = q69 ∧ Rep a 41 [(0, .slice a0 x0.length c0), (1, .bool x1), (7, .slice a0 x0.length c0), (8, vi ((x0).length : Int)), (9, vi ((k53 : Nat) : Int)), (39, .bool q72)] ∧ St w s (R)) ?_ ?_
  ·refine W.gen fun K73 hK73 => ?_
   refine W.region ?_
   refine v2 hS hE rfl rfl rfl rfl fun a hE => ?_
   refine vp hS hE rfl rfl fun a hE => ?_
   rcases Bool.eq_false_or_eq_true (decide (((k53 : Nat) : Int) > 0)) with hg74 | hg74
   ·replace hq68 := iteT hg74 hq68
    refine WL.vS hS hE (runs_if hE rfl rfl rfl hg74) (Gives.p hE rfl) rfl fun a hE => ?_
    refine WL.vS hS hE (runs_if hE rfl rfl rfl hg74) (Gives.p hE rfl) rfl fun a hE => ?_
    refine WL.vS hS hE (runs_if hE rfl rfl rfl hg74) (Gives.p hE rfl) rfl fun a hE => ?_
    refine WL.vS hS hE (runs_if hE rfl rfl rfl hg74) (Gives.p hE rfl) rfl fun a hE => ?_
    obtain ⟨x75, hx76, hq68⟩ := bindS hq68
    obtain ⟨hi77, hlt78, hy79⟩ := gx_some hx76
    obtain ⟨cs80, hl81, hR82, hat83⟩ := h0.at hy79
    subst hR82
    refine WL.vS hS hE (runs_if hE rfl rfl rfl hg74) (Gives.idx hE (w64 (((k53 : Nat) : Int) - 1)).toNat rfl rfl sl47 hi77 hlt78 (h0.aok hlt78)) rfl fun a hE => ?_
    refine WL.vS hS hE (runs_if hE rfl rfl rfl hg74) (Gives.load1 hE rfl (fun w h => hat83 w _ h) ty3) rfl fun a hE => ?_
    refine WL.vS hS hE (runs_if hE rfl rfl rfl hg74) (Gives.p hE rfl) rfl fun a hE => ?_
    refine WL.vS hS hE (runs_if hE rfl rfl rfl hg74) (Gives.p hE rfl) rfl fun a hE => ?_
    rcases Bool.eq_false_or_eq_true (x54 == x75) with hg84 | hg84
    ·replace hq68 := iteT hg84 hq68
     refine nO hE rfl rfl rfl (by rw [hg84]; decide) rfl fun a hE => ?_
     refine nO hE rfl rfl rfl (by rw [hg84]; decide) rfl fun a hE => ?_
     refine WL.no hE (runs_undef hE rfl rfl rfl) rfl fun a hE => ?_
     refine WL.no hE (runs_undef hE rfl rfl rfl) rfl fun a hE => ?_
     refine WL.no hE (runs_undef hE rfl rfl rfl) rfl fun a hE => ?_
     refine WL.no hE (runs_undef hE rfl rfl rfl) rfl fun a hE => ?_
     refine WL.no hE (runs_undef hE rfl rfl rfl) rfl fun a hE => ?_
     refine WL.no hE (runs_undef hE rfl rfl rfl) rfl fun a hE => ?_
     refine WL.no hE (runs_undef hE rfl rfl rfl) rfl fun a hE => ?_
     refine nO hE rfl rfl rfl (by rw [hg84]; decide) rfl fun a hE => ?_
     refine WL.vS hS hE (runs_if hE rfl rfl rfl hg74) (Gives.pickT hE rfl hg84 rfl) rfl fun a hE => ?_
     refine vP hS hE (Gives.pickT hE rfl hg74 rfl) rfl fun a hE => WL.nil ?_
     subst hK73
     exact ⟨true, Option.some.inj hq68, hE.pick _ ⟨rfl, rfl, rfl, rfl, rfl, rfl, trivial⟩, hS⟩
    replace hq68 := iteF hg84 hq68
    refine WL.vS hS hE (runs_if hE rfl rfl rfl hg84) (Gives.p hE rfl) rfl fun a hE => ?_
    refine WL.vS hS hE (runs_if hE rfl rfl rfl hg84) (Gives.p hE rfl) rfl fun a hE => ?_
    rcases Bool.eq_false_or_eq_true x1 with hg85 | hg85
    ·replace hq68 := iteT hg85 hq68
     refine WL.vS hS hE (runs_if hE rfl rfl rfl hg85) (Gives.p hE rfl) rfl fun a hE => ?_
     refine WL.vS hS hE (runs_if hE rfl rfl rfl hg85) (Gives.p hE rfl) rfl fun a hE => ?_
     refine WL.vS hS hE (runs_if hE rfl rfl rfl hg85) (Gives.p hE rfl) rfl fun a hE => ?_
     refine WL.vS hS hE (runs_if hE rfl rfl rfl hg85) (Gives.p hE rfl) rfl fun a hE => ?_
     obtain ⟨x86, hx87, hq68⟩ := bindS hq68
     obtain ⟨hi88, hlt89, hy90⟩ := gx_some hx87
     obtain ⟨cs91, hl92, hR93, hat94⟩ := h0.at hy90
     subst hR93
     refine WL.vS hS hE (runs_if hE rfl rfl rfl hg85) (Gives.idx hE (w64 (((k53 : Nat) : Int) - 1)).toNat rfl rfl sl47 hi88 hlt89 (h0.aok hlt89)) rfl fun a hE => ?_
     refine WL.vS hS hE (runs_if hE rfl rfl rfl hg85) (Gives.load1 hE rfl (fun w h => hat94 w _ h) ty3) rfl fun a hE => ?_
     refine WL.vS hS hE (runs_if hE rfl rfl rfl hg85) (Gives.p hE rfl) rfl fun a hE => ?_
     refine WL.vS hS hE (runs_if hE rfl rfl rfl hg84) (Gives.pickT hE rfl hg85 rfl) rfl fun a hE => ?_
     refine WL.vS hS hE (runs_if hE rfl rfl rfl hg74) (Gives.pickF hE rfl hg84 rfl) rfl fun a hE => ?_
     refine vP hS hE (Gives.pickT hE rfl hg74 rfl) rfl fun a hE => WL.nil ?_
     subst hK73
     exact ⟨decide (x54 < x86), Option.some.inj hq68, hE.pick _ ⟨rfl, rfl, rfl, rfl, rfl, rfl, trivial⟩, hS⟩
    replace hq68 := iteF hg85 hq68
    refine nO hE rfl rfl rfl (by rw [hg85]; decide) rfl fun a hE => ?_
    refine nO hE rfl rfl rfl (by rw [hg85]; decide) rfl fun a hE => ?_
    refine nO hE rfl rfl rfl (by rw [hg85]; decide) rfl fun a hE => ?_
    refine nO hE rfl rfl rfl (by rw [hg85]; decide) rfl fun a hE => ?_
    refine nO hE rfl rfl rfl (by rw [hg85]; decide) rfl fun a hE => ?_
    refine nO hE rfl rfl rfl (by rw [hg85]; decide) rfl fun a hE => ?_
    refine nO hE rfl rfl rfl (by rw [hg85]; decide) rfl fun a hE => ?_
    refine WL.vS hS hE (runs_if hE rfl rfl rfl hg84) (Gives.pickF hE rfl hg85 rfl) rfl fun a hE => ?_
    refine WL.vS hS hE (runs_if hE rfl rfl rfl hg74) (Gives.pickF hE rfl hg84 rfl) rfl fun a hE => ?_
    refine vP hS hE (Gives.pickT hE rfl hg74 rfl) rfl fun a hE => WL.nil ?_
    subst hK73
    exact ⟨false, Option.some.inj hq68, hE.pick _ ⟨rfl, rfl, rfl, rfl, rfl, rfl, trivial⟩, hS⟩
   replace hq68 := iteF hg74 hq68
   refine nO hE rfl rfl rfl (by rw [hg74]; decide) rfl fun a hE => ?_
   refine nO hE rfl rfl rfl (by rw [hg74]; decide) rfl fun a hE => ?_
   refine nO hE rfl rfl rfl (by rw [hg74]; decide) rfl fun a hE => ?_
   refine nO hE rfl rfl rfl (by rw [hg74]; decide) rfl fun a hE => ?_
   refine nO hE rfl rfl rfl (by rw [hg74]; decide) rfl fun a hE => ?_
   refine nO hE rfl rfl rfl (by rw [hg74]; decide) rfl fun a hE => ?_
   refine nO hE rfl rfl rfl (by rw [hg74]; decide) rfl fun a hE => ?_
   refine nO hE rfl rfl rfl (by rw [hg74]; decide) rfl fun a hE => ?_
   refine WL.no hE (runs_undef hE rfl rfl rfl) rfl fun a hE => ?_
   refine WL.no hE (runs_undef hE rfl rfl rfl) rfl fun a hE => ?_
   refine WL.no hE (runs_undef hE rfl rfl rfl) rfl fun a hE => ?_
   refine WL.no hE (runs_undef hE rfl rfl rfl) rfl fun a hE => ?_
   refine WL.no hE (runs_undef hE rfl rfl rfl) rfl fun a hE => ?_
   refine WL.no hE (runs_undef hE rfl rfl rfl) rfl fun a hE => ?_
   refine WL.no hE (runs_undef hE rfl rfl rfl) rfl fun a hE => ?_
   refine WL.no hE (runs_undef hE rfl rfl rfl) rfl fun a hE => ?_
   refine WL.no hE (runs_undef hE rfl rfl rfl) rfl fun a hE => ?_
   refine WL.no hE (runs_undef hE rfl rfl rfl) rfl fun a hE => ?_
   refine nO hE rfl rfl rfl (by rw [hg74]; decide) rfl fun a hE => ?_
   refine vP hS hE (Gives.pickF hE rfl hg74 rfl) rfl fun a hE => WL.nil ?_
   subst hK73
   exact ⟨false, Option.some.inj hq68, hE.pick _ ⟨rfl, rfl, rfl, rfl, rfl, rfl, trivial⟩, hS⟩
  clear hE hS a w; rintro a w ⟨q72, rfl, hE, hS⟩
  refine W.cond hE rfl (fun hc95 => ?_) (fun hc95 => ?_)
  ·replace hq51 := iteT hc95 hq51
   refine W.seq (W.region (vp hS hE rfl rfl fun a hE => WL.nil ?_))
   refine W.ret ?_
   subst hK62
   rw [← Option.some.inj hq51] at hr
   dsimp only at hr
   refine finG (fn := Tryz.f58) (rs := [.tmp 4]) (vs := [_]) hE rfl ⟨rfl, trivial⟩ ?_
   obtain rfl := Option.some.inj hr
   exact ⟨rfl, hS⟩
  replace hq51 := iteF hc95 hq51
  refine W.skip ?_
  refine W.region ?_
  refine vP hS hE (Gives.inc hE rfl (by have := h0.small; omega)) rfl fun a hE => ?_
  refine vp hS hE rfl rfl fun a hE => WL.nil ?_
  subst hK62
  exact ⟨rest55.length, Nat.lt_succ_self _, rest55, k53 + 1, rfl, hd56, hq51, hE.pick _ ⟨rfl, rfl, rfl, rfl, rfl, trivial⟩, hS⟩
 clear hE hS a w; rintro a w ⟨rfl, hE, hS⟩
 dsimp only at hr
 refine W.seq (W.region (vp hS hE rfl rfl fun a hE => WL.nil ?_))
 refine W.ret ?_
 refine finG (fn := Tryz.f58) (rs := [.tmp 4]) (vs := [_]) hE rfl ⟨rfl, trivial⟩ ?_
 obtain rfl := Option.some.inj hr
 exact ⟨rfl, hS⟩
set_option maxHeartbeats 8000000 in
theorem FareCheckTrip_ok  {w : World} {s : Sg} {R : List HP} {x0 : FareTrip} {a0_0 : Option Addr} {c0_0 : Nat} (hS : St w s (R)) (h0_0 : Sl 1 (RI .i64) s a0_0 c0_0 x0.Zones) {r : Int} (hr : FareCheckTrip x0 = some r) :
  Calls Tryz.prog 35 [.agg (List.toArray [vi x0.Day, vi x0.At, vi x0.Km, vi x0.Age, .bool x0.Card, .slice a0_0 x0.Zones.length c0_0])].toArray w (fun e w => e = .returned (vi r) ∧ St w s (R)) := by
 refine enter Tryz.func35 rfl rfl rfl fun a hE => ?_
 rw [FareCheckTrip] at hr
 refine W.seq (W.region ?_)
 refine WL.box hE hS (runs_plain rfl) rfl rfl rfl ?_; clear hE hS a w; intro b51 a w hE hS
 refine vp hS hE rfl rfl fun a hE => WL.nil ?_
 refine W.seq ?_
 refine W.block ?_
 refine W.seq ?_
 obtain ⟨q53, hq52, hr⟩ := bndS hr
 refine W.cut (fun a w => ∃ (q56 : Bool), q56 = q53 ∧ Rep a 35 [(1, pp b51), (3, .bool q56)] ∧ St w s (pc b51 #[vi x0.Day, vi x0.At, vi x0.Km, vi x0.Age, .bool x0.Card, .slice a0_0 x0.Zones.length c0_0] 51 :: R)) ?_ ?_
 ·refine W.gen fun K57 hK57 => ?_
  refine W.region ?_
  refine vP hS hE (Gives.fld hE rfl fl51_0) rfl fun a hE => ?_
  refine vP hS hE (Gives.loadB hE 0 rfl rfl rfl ty3) rfl fun a hE => ?_
  refine WL.fnq hE (Farewithin_ok hS  rfl (r := Farewithin x0.Day 0 6)) (runs_plain rfl) bd27 rfl rfl rfl ?_
  clear hE hS; rintro e w ⟨rfl, hS⟩; refine ⟨_, rfl, ?_⟩; clear a; intro a hE
  refine v2 hS hE rfl rfl rfl rfl fun a hE => ?_
  rcases Bool.eq_false_or_eq_true (!(Farewithin x0.Day 0 6)) with hg58 | hg58
  ·replace hq52 := iteT hg58 hq52
   refine nO hE rfl rfl rfl (by rw [hg58]; decide) rfl fun a hE => ?_
   refine nO hE rfl rfl rfl (by rw [hg58]; decide) rfl fun a hE => ?_
   refine nO hE rfl rfl rfl (by rw [hg58]; decide) rfl fun a hE => ?_
   refine nO hE rfl rfl rfl (by rw [hg58]; decide) rfl fun a hE => ?_
   refine vP hS hE (Gives.pickT hE rfl hg58 rfl) rfl fun a hE => ?_
   refine vp hS hE rfl rfl fun a hE => ?_
   refine nO hE rfl rfl rfl (by decide) rfl fun a hE => ?_
   refine nO hE rfl rfl rfl (by decide) rfl fun a hE => ?_
   refine nO hE rfl rfl rfl (by decide) rfl fun a hE => ?_
   refine nO hE rfl rfl rfl (by decide) rfl fun a hE => ?_
   refine vP hS hE (Gives.pickT hE rfl rfl rfl) rfl fun a hE => ?_
   refine vp hS hE rfl rfl fun a hE => ?_
   refine nO hE rfl rfl rfl (by decide) rfl fun a hE => ?_
   refine nO hE rfl rfl rfl (by decide) rfl fun a hE => ?_
   refine nO hE rfl rfl rfl (by decide) rfl fun a hE => ?_
   refine nO hE rfl rfl rfl (by decide) rfl fun a hE => ?_
   refine vP hS hE (Gives.pickT hE rfl rfl rfl) rfl fun a hE => ?_
   refine vp hS hE rfl rfl fun a hE => WL.nil ?_
   subst hK57
   exact ⟨true, hq52, hE.pick _ ⟨rfl, rfl, trivial⟩, hS⟩
  replace hq52 := iteF hg58 hq52
  refine WL.vS hS hE (runs_if hE rfl rfl rfl hg58) (Gives.fld hE rfl fl51_1) rfl fun a hE => ?_
  refine WL.vS hS hE (runs_if hE rfl rfl rfl hg58) (Gives.loadB hE 0 rfl rfl rfl ty3) rfl fun a hE => ?_
  refine WL.fnq hE (Farewithin_ok hS  rfl (r := Farewithin x0.At 0 28800)) (runs_if hE rfl rfl rfl hg58) bd27 rfl rfl rfl ?_
  clear hE hS; rintro e w ⟨rfl, hS⟩; refine ⟨_, rfl, ?_⟩; clear a; intro a hE
  refine WL.vS hS hE (runs_if hE rfl rfl rfl hg58) (Gives.p hE rfl) rfl fun a hE => ?_
  refine vP hS hE (Gives.pickF hE rfl hg58 rfl) rfl fun a hE => ?_
  refine vp hS hE rfl rfl fun a hE => ?_
  rcases Bool.eq_false_or_eq_true (!(Farewithin x0.At 0 28800)) with hg59 | hg59
  ·replace hq52 := iteT hg59 hq52
   refine nO hE rfl rfl rfl (by rw [hg59]; decide) rfl fun a hE => ?_
   refine nO hE rfl rfl rfl (by rw [hg59]; decide) rfl fun a hE => ?_
   refine nO hE rfl rfl rfl (by rw [hg59]; decide) rfl fun a hE => ?_
   refine nO hE rfl rfl rfl (by rw [hg59]; decide) rfl fun a hE => ?_
   refine vP hS hE (Gives.pickT hE rfl hg59 rfl) rfl fun a hE => ?_
   refine vp hS hE rfl rfl fun a hE => ?_
   refine nO hE rfl rfl rfl (by decide) rfl fun a hE => ?_
   refine nO hE rfl rfl rfl (by decide) rfl fun a hE => ?_
   refine nO hE rfl rfl rfl (by decide) rfl fun a hE => ?_
   refine nO hE rfl rfl rfl (by decide) rfl fun a hE => ?_
   refine vP hS hE (Gives.pickT hE rfl rfl rfl) rfl fun a hE => ?_
   refine vp hS hE rfl rfl fun a hE => WL.nil ?_
   subst hK57
   exact ⟨true, hq52, hE.pick _ ⟨rfl, rfl, trivial⟩, hS⟩
  replace hq52 := iteF hg59 hq52
  refine WL.vS hS hE (runs_if hE rfl rfl rfl hg59) (Gives.fld hE rfl fl51_2) rfl fun a hE => ?_
  refine WL.vS hS hE (runs_if hE rfl rfl rfl hg59) (Gives.loadB hE 0 rfl rfl rfl ty3) rfl fun a hE => ?_
  refine WL.fnq hE (Farewithin_ok hS  rfl (r := Farewithin x0.Km 0 1000)) (runs_if hE rfl rfl rfl hg59) bd27 rfl rfl rfl ?_
  clear hE hS; rintro e w ⟨rfl, hS⟩; refine ⟨_, rfl, ?_⟩; clear a; intro a hE
  refine WL.vS hS hE (runs_if hE rfl rfl rfl hg59) (Gives.p hE rfl) rfl fun a hE => ?_
  refine vP hS hE (Gives.pickF hE rfl hg59 rfl) rfl fun a hE => ?_
  refine vp hS hE rfl rfl fun a hE => ?_
  rcases Bool.eq_false_or_eq_true (!(Farewithin x0.Km 0 1000)) with hg60 | hg60
  ·replace hq52 := iteT hg60 hq52
   refine nO hE rfl rfl rfl (by rw [hg60]; decide) rfl fun a hE => ?_
   refine nO hE rfl rfl rfl (by rw [hg60]; decide) rfl fun a hE => ?_
   refine nO hE rfl rfl rfl (by rw [hg60]; decide) rfl fun a hE => ?_
   refine nO hE rfl rfl rfl (by rw [hg60]; decide) rfl fun a hE => ?_
   refine vP hS hE (Gives.pickT hE rfl hg60 rfl) rfl fun a hE => ?_
   refine vp hS hE rfl rfl fun a hE => WL.nil ?_
   subst hK57
   exact ⟨true, hq52, hE.pick _ ⟨rfl, rfl, trivial⟩, hS⟩
  replace hq52 := iteF hg60 hq52
  refine WL.vS hS hE (runs_if hE rfl rfl rfl hg60) (Gives.fld hE rfl fl51_3) rfl fun a hE => ?_
  refine WL.vS hS hE (runs_if hE rfl rfl rfl hg60) (Gives.loadB hE 0 rfl rfl rfl ty3) rfl fun a hE => ?_
  refine WL.fnq hE (Farewithin_ok hS  rfl (r := Farewithin x0.Age 0 120)) (runs_if hE rfl rfl rfl hg60) bd27 rfl rfl rfl ?_
  clear hE hS; rintro e w ⟨rfl, hS⟩; refine ⟨_, rfl, ?_⟩; clear a; intro a hE
  refine WL.vS hS hE (runs_if hE rfl rfl rfl hg60) (Gives.p hE rfl) rfl fun a hE => ?_
  refine vP hS hE (Gives.pickF hE rfl hg60 rfl) rfl fun a hE => ?_
  refine vp hS hE rfl rfl fun a hE => WL.nil ?_
  subst hK57
  exact ⟨!(Farewithin x0.Age 0 120), hq52, hE.pick _ ⟨rfl, rfl, trivial⟩, hS⟩
 clear hE hS a w; rintro a w ⟨q56, rfl, hE, hS⟩
 refine W.cond hE rfl (fun hc61 => ?_) (fun hc61 => ?_)
 ·replace hr := iteT hc61 hr
  refine W.seq (W.region (vp hS hE rfl rfl fun a hE => WL.nil ?_))
  refine W.ret ?_
  refine finG (fn := Tryz.f35) (rs := [.tmp 2]) (vs := [_]) hE rfl ⟨rfl, trivial⟩ ?_
  obtain rfl := Option.some.inj hr
  replace hS := hS.tail
  exact ⟨rfl, hS⟩
 replace hr := iteF hc61 hr
 refine W.seq (W.region (vP hS hE (Gives.fld hE rfl fl51_5) rfl fun a hE => ?_))
 refine vP hS hE (Gives.loadB hE 0 rfl rfl rfl ty47) rfl fun a hE => ?_
 refine vP hS hE (Gives.len hE rfl sl47) rfl fun a hE => ?_
 refine WL.fnq hE (Farewithin_ok hS  rfl (r := Farewithin ((x0.Zones).length : Int) 1 10)) (runs_plain rfl) bd27 rfl rfl rfl ?_
 clear hE hS; rintro e w ⟨rfl, hS⟩; refine ⟨_, rfl, ?_⟩; clear a; intro a hE
 refine v2 hS hE rfl rfl rfl rfl fun a hE => WL.nil ?_
 refine W.cond hE rfl (fun hc62 => ?_) (fun hc62 => ?_)
 ·replace hr := iteT hc62 hr
  refine W.seq (W.region (vp hS hE rfl rfl fun a hE => WL.nil ?_))
  refine W.ret ?_
  refine finG (fn := Tryz.f35) (rs := [.tmp 2]) (vs := [_]) hE rfl ⟨rfl, trivial⟩ ?_
  obtain rfl := Option.some.inj hr
  replace hS := hS.tail
  exact ⟨rfl, hS⟩
 replace hr := iteF hc62 hr
 refine W.skip ?_
 refine W.seq (W.region (vP hS hE (Gives.fld hE rfl fl51_5) rfl fun a hE => ?_))
 refine vP hS hE (Gives.loadB hE 0 rfl rfl rfl ty47) rfl fun a hE => ?_
 obtain ⟨q63, hq64, hr⟩ := bindS hr
 have hc_ := FarecheckZones_ok hS h0_0 hq64
 refine WL.fnq hE (hc_) (runs_plain rfl) bd58 rfl rfl rfl ?_
 clear hE hS hc_; rintro e w ⟨rfl, hS⟩; refine ⟨_, rfl, ?_⟩; clear a; intro a hE
 refine vp hS hE rfl rfl fun a hE => WL.nil ?_
 refine W.ret ?_
 refine finG (fn := Tryz.f35) (rs := [.tmp 2]) (vs := [_]) hE rfl ⟨rfl, trivial⟩ ?_
 obtain rfl := Option.some.inj hr
 replace hS := hS.tail
 exact ⟨rfl, hS⟩
set_option maxHeartbeats 8000000 in
theorem FareTariffprice_1_v1_ok  {w : World} {s : Sg} {R : List HP} {pb0 : Nat} {x0 : FareBand} {y0 : Int} (hS : St w s (pc pb0 #[vi y0] 3 :: R))  {r : Bool} (hr : FareTariffprice_1_v1 x0 y0 = r) :
  Calls Tryz.prog 60 [.agg (FareBand.cells x0).toArray, pp pb0].toArray w (fun e w => e = .returned (.bool r) ∧ St w s (pc pb0 #[vi y0] 3 :: R)) := by
 refine enter Tryz.func60 rfl rfl rfl fun a hE => ?_
 rw [FareTariffprice_1_v1] at hr
 refine W.seq (W.region ?_)
 refine WL.box hE hS (runs_plain rfl) rfl rfl rfl ?_; clear hE hS a w; intro b51 a w hE hS
 refine vp hS hE rfl rfl fun a hE => WL.nil ?_
 refine W.seq (W.region (vP hS hE (Gives.fld hE rfl fl40_0) rfl fun a hE => ?_))
 refine vP hS hE (Gives.loadB hE 0 rfl rfl rfl ty3) rfl fun a hE => ?_
 refine vP hS hE (Gives.loadB hE 1 rfl rfl rfl ty3) rfl fun a hE => ?_
 refine v2 hS hE rfl rfl rfl rfl fun a hE => WL.nil ?_
 refine W.ret ?_
 refine finG (fn := Tryz.f60) (rs := [.tmp 3]) (vs := [_]) hE rfl ⟨rfl, trivial⟩ ?_
 subst hr
 replace hS := hS.tail
 exact ⟨rfl, hS⟩
set_option maxHeartbeats 8000000 in
theorem SlicesIndexFuncLfareBand_v1_ok  {w : World} {s : Sg} {R : List HP} {pb0 : Nat} {x0 : List FareBand} {a0 : Option Addr} {c0 : Nat} {y0 : Int} (hS : St w s (pc pb0 #[vi y0] 3 :: R)) (h0 : Sl 2 RFareBand s a0 c0 x0) {r : Int} (hr : SlicesIndexFuncLfareBand_v1 x0 y0 = r) :
  Calls Tryz.prog 59 [.slice a0 x0.length c0, .func (.func 60) #[] #[pp pb0]].toArray w (fun e w => e = .returned (vi r) ∧ St w s (pc pb0 #[vi y0] 3 :: R)) := by
 refine enter Tryz.func59 rfl rfl rfl fun a hE => ?_
 rw [SlicesIndexFuncLfareBand_v1] at hr
 refine W.seq (W.region (vp hS hE rfl rfl fun a hE => WL.nil ?_))
 refine W.seq ?_
 refine W.seq (W.region (vp hS hE rfl rfl fun a hE => ?_))
 refine vP hS hE (Gives.len hE rfl sl22) rfl fun a hE => ?_
 refine vp hS hE rfl rfl fun a hE => WL.nil ?_
 obtain ⟨q52, hq51, hr⟩ := bndS hr
 refine W.cut (fun a w => (.next ()) = q52 ∧ Rep a 19 [] ∧ St w s (pc pb0 #[vi y0] 3 :: R)) ?_ ?_
 ·refine W.block ?_
  refine W.loop (fun m a w => ∃ (rest55 : List FareBand) (k53 : Nat), rest55.length = m ∧ x0.drop k53 = rest55 ∧ SlicesIndexFuncLfareBand_v1.loop1 y0 rest55 k53 = q52 ∧ Rep a 19 [(0, .slice a0 x0.length c0), (1, .func (.func 60) #[] #[pp pb0]), (7, vi ((x0).length : Int)), (8, vi ((k53 : Nat) : Int))] ∧ St w s (pc pb0 #[vi y0] 3 :: R)) (m := x0.length) ⟨x0, 0, rfl, rfl, hq51, hE.pick _ ⟨rfl, rfl, rfl, rfl, trivial⟩, hS⟩ ?_
  clear hE hS a w hq51; rintro m59 a w ⟨rest55, k53, rfl, hd56, hq51, hE, hS⟩
  refine W.gen fun K62 hK62 => ?_
  rcases rest55 with _ | ⟨x54, rest55⟩
  ·have hlt57 := drop_nil hd56
   refine W.seq (W.region (vp hS hE rfl rfl fun a hE => WL.nil ?_))
   refine W.seq ?_
   refine W.condF hE rfl (decide_eq_false (by omega)) ?_
   subst hK62
   refine W.exit rfl ?_
   exact ⟨hq51, hE.pick _ trivial, hS⟩
  obtain ⟨hlt57, hx58, hd56⟩ := drop_cons hd56
  rw [SlicesIndexFuncLfareBand_v1.loop1] at hq51
  refine W.seq (W.region (vp hS hE rfl rfl fun a hE => WL.nil ?_))
  refine W.seq ?_
  refine W.condT hE rfl (decide_eq_true (by omega)) ?_
  refine W.skip ?_
  refine W.seq ?_
  refine W.block ?_
  refine W.seq (W.region (v2 hS hE rfl rfl rfl rfl fun a hE => WL.nil ?_))
  refine W.seq (W.region (v2 hS hE rfl rfl rfl rfl fun a hE => ?_))
  refine vp hS hE rfl rfl fun a hE => ?_
  obtain ⟨cs63, hl64, hR65, hat66⟩ := h0.at hx58
  subst hR65
  refine vP hS hE (Gives.idx hE k53 rfl rfl sl22 rfl hlt57 (h0.aok hlt57)) rfl fun a hE => ?_
  refine vP hS hE (Gives.loadA hE rfl (fun w h => hat66 w _ h) ty40) rfl fun a hE => ?_
  refine WL.fnw hE (FareTariffprice_1_v1_ok hS  rfl (r := FareTariffprice_1_v1 x54 y0)) rfl (runs_plain rfl) bd60 rfl rfl rfl ?_
  clear hE hS; rintro e w ⟨rfl, hS⟩; refine ⟨_, rfl, ?_⟩; clear a; intro a hE
  refine WL.nil ?_
  refine W.cond hE rfl (fun hc67 => ?_) (fun hc67 => ?_)
  ·replace hq51 := iteT hc67 hq51
   refine W.seq (W.region (v2 hS hE rfl rfl rfl rfl fun a hE => WL.nil ?_))
   refine W.ret ?_
   subst hK62
   rw [← hq51] at hr
   dsimp only at hr
   refine finG (fn := Tryz.f59) (rs := [.tmp 4]) (vs := [_]) hE rfl ⟨rfl, trivial⟩ ?_
   subst hr
   exact ⟨rfl, hS⟩
  replace hq51 := iteF hc67 hq51
  refine W.skip ?_
  refine W.region ?_
  refine vP hS hE (Gives.inc hE rfl (by have := h0.small; omega)) rfl fun a hE => ?_
  refine vp hS hE rfl rfl fun a hE => WL.nil ?_
  subst hK62
  exact ⟨rest55.length, Nat.lt_succ_self _, rest55, k53 + 1, rfl, hd56, hq51, hE.pick _ ⟨rfl, rfl, rfl, rfl, trivial⟩, hS⟩
 clear hE hS a w; rintro a w ⟨rfl, hE, hS⟩
 dsimp only at hr
 refine W.seq (W.region (vp hS hE rfl rfl fun a hE => WL.nil ?_))
 refine W.ret ?_
 refine finG (fn := Tryz.f59) (rs := [.tmp 4]) (vs := [_]) hE rfl ⟨rfl, trivial⟩ ?_
 subst hr
 exact ⟨rfl, hS⟩
set_option maxHeartbeats 8000000 in
theorem FareCondholds_1_v1_ok  {w : World} {s : Sg} {R : List HP} {pb0 : Nat} {x0 : Int} {y0 : FareCond} {a_y0_3 : Option Addr} {c_y0_3 : Nat} (hS : St w s (pc pb0 #[vi y0.Kind, vi y0.A, vi y0.B, .slice a_y0_3 y0.Kids.length c_y0_3] 43 :: R)) (_h_y0_3 : Sl 4 RFareCond s a_y0_3 c_y0_3 y0.Kids) {r : Bool} (hr : FareCondholds_1_v1 x0 y0 = r) :
  Calls Tryz.prog 76 [vi x0, pp pb0].toArray w (fun e w => e = .returned (.bool r) ∧ St w s (pc pb0 #[vi y0.Kind, vi y0.A, vi y0.B, .slice a_y0_3 y0.Kids.length c_y0_3] 43 :: R)) := by
 refine enter Tryz.func76 rfl rfl rfl fun a hE => ?_
 rw [FareCondholds_1_v1] at hr
 refine W.seq (W.region (vp hS hE rfl rfl fun a hE => WL.nil ?_))
 refine W.seq (W.region (vp hS hE rfl rfl fun a hE => ?_))
 refine vP hS hE (Gives.fld hE rfl fl43_1) rfl fun a hE => ?_
 refine vP hS hE (Gives.loadB hE 0 rfl rfl rfl ty3) rfl fun a hE => ?_
 refine vP hS hE (Gives.fld hE rfl fl43_2) rfl fun a hE => ?_
 refine vP hS hE (Gives.loadB hE 0 rfl rfl rfl ty3) rfl fun a hE => ?_
 refine WL.fnq hE (Farewithin_ok hS  rfl (r := Farewithin x0 y0.A y0.B)) (runs_plain rfl) bd27 rfl rfl rfl ?_
 clear hE hS; rintro e w ⟨rfl, hS⟩; refine ⟨_, rfl, ?_⟩; clear a; intro a hE
 refine vp hS hE rfl rfl fun a hE => WL.nil ?_
 refine W.ret ?_
 refine finG (fn := Tryz.f76) (rs := [.tmp 3]) (vs := [_]) hE rfl ⟨rfl, trivial⟩ ?_
 subst hr
 exact ⟨rfl, hS⟩
set_option maxHeartbeats 8000000 in
theorem SlicesIndexLint_ok  {w : World} {s : Sg} {R : List HP} {x0 : List Int} {a0 : Option Addr} {c0 : Nat} {x1 : Int} (hS : St w s (R)) (h0 : Sl 1 (RI .i64) s a0 c0 x0) {r : Int} (hr : SlicesIndexLint x0 x1 = r) :
  Calls Tryz.prog 97 [.slice a0 x0.length c0, vi x1].toArray w (fun e w => e = .returned (vi r) ∧ St w s (R)) := by
 refine enter Tryz.func97 rfl rfl rfl fun a hE => ?_
 rw [SlicesIndexLint] at hr
 refine W.seq (W.region (vp hS hE rfl rfl fun a hE => WL.nil ?_))
 refine W.seq ?_
 refine W.seq (W.region (vp hS hE rfl rfl fun a hE => ?_))
 refine vP hS hE (Gives.len hE rfl sl47) rfl fun a hE => ?_
 refine vp hS hE rfl rfl fun a hE => WL.nil ?_
 obtain ⟨q52, hq51, hr⟩ := bndS hr
 refine W.cut (fun a w => (.next ()) = q52 ∧ Rep a 19 [] ∧ St w s (R)) ?_ ?_
 ·refine W.block ?_
  refine W.loop (fun m a w => ∃ (rest55 : List Int) (k53 : Nat), rest55.length = m ∧ x0.drop k53 = rest55 ∧ SlicesIndexLint.loop1 x1 rest55 k53 = q52 ∧ Rep a 19 [(0, .slice a0 x0.length c0), (1, vi x1), (7, vi ((x0).length : Int)), (8, vi ((k53 : Nat) : Int))] ∧ St w s (R)) (m := x0.length) ⟨x0, 0, rfl, rfl, hq51, hE.pick _ ⟨rfl, rfl, rfl, rfl, trivial⟩, hS⟩ ?_
  clear hE hS a w hq51; rintro m59 a w ⟨rest55, k53, rfl, hd56, hq51, hE, hS⟩
  refine W.gen fun K62 hK62 => ?_
  rcases rest55 with _ | ⟨x54, rest55⟩
  ·have hlt57 := drop_nil hd56
   refine W.seq (W.region (vp hS hE rfl rfl fun a hE => WL.nil ?_))
   refine W.seq ?_
   refine W.condF hE rfl (decide_eq_false (by omega)) ?_
   subst hK62
   refine W.exit rfl ?_
   exact ⟨hq51, hE.pick _ trivial, hS⟩
  obtain ⟨hlt57, hx58, hd56⟩ := drop_cons hd56
  rw [SlicesIndexLint.loop1] at hq51
  refine W.seq (W.region (vp hS hE rfl rfl fun a hE => WL.nil ?_))
  refine W.seq ?_
  refine W.condT hE rfl (decide_eq_true (by omega)) ?_
  refine W.skip ?_
  refine W.seq ?_
  refine W.block ?_
  refine W.seq (W.region (v2 hS hE rfl rfl rfl rfl fun a hE => WL.nil ?_))
  refine W.seq (W.region (v2 hS hE rfl rfl rfl rfl fun a hE => ?_))
  refine vp hS hE rfl rfl fun a hE => ?_
  obtain ⟨cs63, hl64, hR65, hat66⟩ := h0.at hx58
  subst hR65
  refine vP hS hE (Gives.idx hE k53 rfl rfl sl47 rfl hlt57 (h0.aok hlt57)) rfl fun a hE => ?_
  refine vP hS hE (Gives.load1 hE rfl (fun w h => hat66 w _ h) ty3) rfl fun a hE => ?_
  refine vp hS hE rfl rfl fun a hE => WL.nil ?_
  refine W.cond hE rfl (fun hc67 => ?_) (fun hc67 => ?_)
  ·replace hq51 := iteT hc67 hq51
   refine W.seq (W.region (v2 hS hE rfl rfl rfl rfl fun a hE => WL.nil ?_))
   refine W.ret ?_
   subst hK62
   rw [← hq51] at hr
   dsimp only at hr
   refine finG (fn := Tryz.f97) (rs := [.tmp 4]) (vs := [_]) hE rfl ⟨rfl, trivial⟩ ?_
   subst hr
   exact ⟨rfl, hS⟩
  replace hq51 := iteF hc67 hq51
  refine W.skip ?_
  refine W.region ?_
  refine vP hS hE (Gives.inc hE rfl (by have := h0.small; omega)) rfl fun a hE => ?_
  refine vp hS hE rfl rfl fun a hE => WL.nil ?_
  subst hK62
  exact ⟨rest55.length, Nat.lt_succ_self _, rest55, k53 + 1, rfl, hd56, hq51, hE.pick _ ⟨rfl, rfl, rfl, rfl, trivial⟩, hS⟩
 clear hE hS a w; rintro a w ⟨rfl, hE, hS⟩
 dsimp only at hr
 refine W.seq (W.region (vp hS hE rfl rfl fun a hE => WL.nil ?_))
 refine W.ret ?_
 refine finG (fn := Tryz.f97) (rs := [.tmp 4]) (vs := [_]) hE rfl ⟨rfl, trivial⟩ ?_
 subst hr
 exact ⟨rfl, hS⟩
set_option maxHeartbeats 8000000 in
theorem SlicesContainsLint_ok  {w : World} {s : Sg} {R : List HP} {x0 : List Int} {a0 : Option Addr} {c0 : Nat} {x1 : Int} (hS : St w s (R)) (h0 : Sl 1 (RI .i64) s a0 c0 x0) {r : Bool} (hr : SlicesContainsLint x0 x1 = r) :
  Calls Tryz.prog 77 [.slice a0 x0.length c0, vi x1].toArray w (fun e w => e = .returned (.bool r) ∧ St w s (R)) := by
 refine enter Tryz.func77 rfl rfl rfl fun a hE => ?_
 rw [SlicesContainsLint] at hr
 refine W.seq (W.region (vp hS hE rfl rfl fun a hE => WL.nil ?_))
 refine W.seq (W.region (v2 hS hE rfl rfl rfl rfl fun a hE => ?_))
 refine WL.fnq hE (SlicesIndexLint_ok hS h0 rfl (r := SlicesIndexLint x0 x1)) (runs_plain rfl) bd97 rfl rfl rfl ?_
 clear hE hS; rintro e w ⟨rfl, hS⟩; refine ⟨_, rfl, ?_⟩; clear a; intro a hE
 refine v2 hS hE rfl rfl rfl rfl fun a hE => WL.nil ?_
 refine W.ret ?_
 refine finG (fn := Tryz.f77) (rs := [.tmp 4]) (vs := [_]) hE rfl ⟨rfl, trivial⟩ ?_
 subst hr
 exact ⟨rfl, hS⟩
set_option maxHeartbeats 8000000 in
theorem FareCondholds_2_v1_ok  {self_FareCondholds : FareCond → FareTrip → Option Bool} (ih_FareCondholds : ∀ {w : World} {s : Sg} {R : List HP} {x0 : FareCond} {a0_0 : Option Addr} {c0_0 : Nat} {x1 : FareTrip} {a1_0 : Option Addr} {c1_0 : Nat} (_hS : St w s (R)) (_h0_0 : Sl 4 RFareCond s a0_0 c0_0 x0.Kids) (_h1_0 : Sl 1 (RI .i64) s a1_0 c1_0 x1.Zones) {r : Bool} (_hr : self_FareCondholds x0 x1 = some r), Calls Tryz.prog 61 [.agg (List.toArray [vi x0.Kind, vi x0.A, vi x0.B, .slice a0_0 x0.Kids.length c0_0]), .agg (List.toArray [vi x1.Day, vi x1.At, vi x1.Km, vi x1.Age, .bool x1.Card, .slice a1_0 x1.Zones.length c1_0])].toArray w (fun e w => e = .returned (.bool r) ∧ St w s (R))) {w : World} {s : Sg} {R : List HP} {pb0 : Nat} {x0 : FareCond} {a0_0 : Option Addr} {c0_0 : Nat} {y0 : FareTrip} {a_y0_5 : Option Addr} {c_y0_5 : Nat} (hS : St w s (pc pb0 #[vi y0.Day, vi y0.At, vi y0.Km, vi y0.Age, .bool y0.Card, .slice a_y0_5 y0.Zones.length c_y0_5] 51 :: R)) (h0_0 : Sl 4 RFareCond s a0_0 c0_0 x0.Kids) (h_y0_5 : Sl 1 (RI .i64) s a_y0_5 c_y0_5 y0.Zones) {r : Bool} (hr : FareCondholds_2_v1 self_FareCondholds x0 y0 = some r) :
  Calls Tryz.prog 79 [.agg (List.toArray [vi x0.Kind, vi x0.A, vi x0.B, .slice a0_0 x0.Kids.length c0_0]), pp pb0].toArray w (fun e w => e = .returned (.bool r) ∧ St w s (pc pb0 #[vi y0.Day, vi y0.At, vi y0.Km, vi y0.Age, .bool y0.Card, .slice a_y0_5 y0.Zones.length c_y0_5] 51 :: R)) := by
 refine enter Tryz.func79 rfl rfl rfl fun a hE => ?_
 rw [FareCondholds_2_v1] at hr
 refine W.seq (W.region ?_)
 refine WL.box hE hS (runs_plain rfl) rfl rfl rfl ?_; clear hE hS a w; intro b51 a w hE hS
 refine vp hS hE rfl rfl fun a hE => WL.nil ?_
 refine W.seq (W.region (vP hS hE (Gives.loadBA hE 0 rfl rfl ty43) rfl fun a hE => ?_))
 refine vP hS hE (Gives.loadBA hE 1 rfl rfl ty51) rfl fun a hE => ?_
 obtain ⟨q52, hq53, hr⟩ := bindS hr
 have hc_ := ih_FareCondholds hS h0_0 h_y0_5 hq53
 refine WL.fnq hE (hc_) (runs_plain rfl) bd61 rfl rfl rfl ?_
 clear hE hS hc_; rintro e w ⟨rfl, hS⟩; refine ⟨_, rfl, ?_⟩; clear a; intro a hE
 refine v2 hS hE rfl rfl rfl rfl fun a hE => WL.nil ?_
 refine W.ret ?_
 refine finG (fn := Tryz.f79) (rs := [.tmp 3]) (vs := [_]) hE rfl ⟨rfl, trivial⟩ ?_
 obtain rfl := Option.some.inj hr
 replace hS := hS.tail
 exact ⟨rfl, hS⟩
set_option maxHeartbeats 8000000 in
theorem SlicesIndexFuncLfareCond_v1_ok  {self_FareCondholds : FareCond → FareTrip → Option Bool} (ih_FareCondholds : ∀ {w : World} {s : Sg} {R : List HP} {x0 : FareCond} {a0_0 : Option Addr} {c0_0 : Nat} {x1 : FareTrip} {a1_0 : Option Addr} {c1_0 : Nat} (_hS : St w s (R)) (_h0_0 : Sl 4 RFareCond s a0_0 c0_0 x0.Kids) (_h1_0 : Sl 1 (RI .i64) s a1_0 c1_0 x1.Zones) {r : Bool} (_hr : self_FareCondholds x0 x1 = some r), Calls Tryz.prog 61 [.agg (List.toArray [vi x0.Kind, vi x0.A, vi x0.B, .slice a0_0 x0.Kids.length c0_0]), .agg (List.toArray [vi x1.Day, vi x1.At, vi x1.Km, vi x1.Age, .bool x1.Card, .slice a1_0 x1.Zones.length c1_0])].toArray w (fun e w => e = .returned (.bool r) ∧ St w s (R))) {w : World} {s : Sg} {R : List HP} {pb0 : Nat} {x0 : List FareCond} {a0 : Option Addr} {c0 : Nat} {y0 : FareTrip} {a_y0_5 : Option Addr} {c_y0_5 : Nat} (hS : St w s (pc pb0 #[vi y0.Day, vi y0.At, vi y0.Km, vi y0.Age, .bool y0.Card, .slice a_y0_5 y0.Zones.length c_y0_5] 51 :: R)) (h0 : Sl 4 RFareCond s a0 c0 x0) (h_y0_5 : Sl 1 (RI .i64) s a_y0_5 c_y0_5 y0.Zones) {r : Int} (hr : SlicesIndexFuncLfareCond_v1 self_FareCondholds x0 y0 = some r) :
  Calls Tryz.prog 98 [.slice a0 x0.length c0, .func (.func 79) #[] #[pp pb0]].toArray w (fun e w => e = .returned (vi r) ∧ St w s (pc pb0 #[vi y0.Day, vi y0.At, vi y0.Km, vi y0.Age, .bool y0.Card, .slice a_y0_5 y0.Zones.length c_y0_5] 51 :: R)) := by
 refine enter Tryz.func98 rfl rfl rfl fun a hE => ?_
 rw [SlicesIndexFuncLfareCond_v1] at hr
 refine W.seq (W.region (vp hS hE rfl rfl fun a hE => WL.nil ?_))
 refine W.seq ?_
 refine W.seq (W.region (vp hS hE rfl rfl fun a hE => ?_))
 refine vP hS hE (Gives.len hE rfl sl41) rfl fun a hE => ?_
 refine vp hS hE rfl rfl fun a hE => WL.nil ?_
 obtain ⟨q52, hq51, hr⟩ := bindS hr
 refine W.cut (fun a w => (.next ()) = q52 ∧ Rep a 19 [] ∧ St w s (pc pb0 #[vi y0.Day, vi y0.At, vi y0.Km, vi y0.Age, .bool y0.Card, .slice a_y0_5 y0.Zones.length c_y0_5] 51 :: R)) ?_ ?_
 ·refine W.block ?_
  refine W.loop (fun m a w => ∃ (rest55 : List FareCond) (k53 : Nat), rest55.length = m ∧ x0.drop k53 = rest55 ∧ SlicesIndexFuncLfareCond_v1.loop1 y0 self_FareCondholds rest55 k53 = some q52 ∧ Rep a 19 [(0, .slice a0 x0.length c0), (1, .func (.func 79) #[] #[pp pb0]), (7, vi ((x0).length : Int)), (8, vi ((k53 : Nat) : Int))] ∧ St w s (pc pb0 #[vi y0.Day, vi y0.At, vi y0.Km, vi y0.Age, .bool y0.Card, .slice a_y0_5 y0.Zones.length c_y0_5] 51 :: R)) (m := x0.length) ⟨x0, 0, rfl, rfl, hq51, hE.pick _ ⟨rfl, rfl, rfl, rfl, trivial⟩, hS⟩ ?_
  clear hE hS a w hq51; rintro m59 a w ⟨rest55, k53, rfl, hd56, hq51, hE, hS⟩
  refine W.gen fun K62 hK62 => ?_
  rcases rest55 with _ | ⟨x54, rest55⟩
  ·have hlt57 := drop_nil hd56
   refine W.seq (W.region (vp hS hE rfl rfl fun a hE => WL.nil ?_))
   refine W.seq ?_
   refine W.condF hE rfl (decide_eq_false (by omega)) ?_
   subst hK62
   refine W.exit rfl ?_
   exact ⟨Option.some.inj hq51, hE.pick _ trivial, hS⟩
  obtain ⟨hlt57, hx58, hd56⟩ := drop_cons hd56
  rw [SlicesIndexFuncLfareCond_v1.loop1] at hq51
  refine W.seq (W.region (vp hS hE rfl rfl fun a hE => WL.nil ?_))
  refine W.seq ?_
  refine W.condT hE rfl (decide_eq_true (by omega)) ?_
  refine W.skip ?_
  refine W.seq ?_
  refine W.block ?_
  refine W.seq (W.region (v2 hS hE rfl rfl rfl rfl fun a hE => WL.nil ?_))
  refine W.seq (W.region (v2 hS hE rfl rfl rfl rfl fun a hE => ?_))
  refine vp hS hE rfl rfl fun a hE => ?_
  obtain ⟨cs63, hl64, hR65, hat66⟩ := h0.at hx58
  obtain ⟨a67, c68, rfl, h69⟩ := hR65.unf
  refine vP hS hE (Gives.idx hE k53 rfl rfl sl41 rfl hlt57 (h0.aok hlt57)) rfl fun a hE => ?_
  refine vP hS hE (Gives.loadA hE rfl (fun w h => hat66 w _ h) ty43) rfl fun a hE => ?_
  obtain ⟨q70, hq71, hq51⟩ := bindS hq51
  have hc_ := FareCondholds_2_v1_ok (y0 := y0) @ih_FareCondholds hS h69 h_y0_5 hq71
  refine WL.fnw hE (hc_) rfl (runs_plain rfl) bd79 rfl rfl rfl ?_
  clear hE hS hc_; rintro e w ⟨rfl, hS⟩; refine ⟨_, rfl, ?_⟩; clear a; intro a hE
  refine WL.nil ?_
  refine W.cond hE rfl (fun hc72 => ?_) (fun hc72 => ?_)
  ·replace hq51 := iteT hc72 hq51
   refine W.seq (W.region (v2 hS hE rfl rfl rfl rfl fun a hE => WL.nil ?_))
   refine W.ret ?_
   subst hK62
   rw [← Option.some.inj hq51] at hr
   dsimp only at hr
   refine finG (fn := Tryz.f98) (rs := [.tmp 4]) (vs := [_]) hE rfl ⟨rfl, trivial⟩ ?_
   obtain rfl := Option.some.inj hr
   exact ⟨rfl, hS⟩
  replace hq51 := iteF hc72 hq51
  refine W.skip ?_
  refine W.region ?_
  refine vP hS hE (Gives.inc hE rfl (by have := h0.small; omega)) rfl fun a hE => ?_
  refine vp hS hE rfl rfl fun a hE => WL.nil ?_
  subst hK62
  exact ⟨rest55.length, Nat.lt_succ_self _, rest55, k53 + 1, rfl, hd56, hq51, hE.pick _ ⟨rfl, rfl, rfl, rfl, trivial⟩, hS⟩
 clear hE hS a w; rintro a w ⟨rfl, hE, hS⟩
 dsimp only at hr
 refine W.seq (W.region (vp hS hE rfl rfl fun a hE => WL.nil ?_))
 refine W.ret ?_
 refine finG (fn := Tryz.f98) (rs := [.tmp 4]) (vs := [_]) hE rfl ⟨rfl, trivial⟩ ?_
 obtain rfl := Option.some.inj hr
 exact ⟨rfl, hS⟩
set_option maxHeartbeats 8000000 in
theorem SlicesContainsFuncLfareCond_v1_ok  {self_FareCondholds : FareCond → FareTrip → Option Bool} (ih_FareCondholds : ∀ {w : World} {s : Sg} {R : List HP} {x0 : FareCond} {a0_0 : Option Addr} {c0_0 : Nat} {x1 : FareTrip} {a1_0 : Option Addr} {c1_0 : Nat} (_hS : St w s (R)) (_h0_0 : Sl 4 RFareCond s a0_0 c0_0 x0.Kids) (_h1_0 : Sl 1 (RI .i64) s a1_0 c1_0 x1.Zones) {r : Bool} (_hr : self_FareCondholds x0 x1 = some r), Calls Tryz.prog 61 [.agg (List.toArray [vi x0.Kind, vi x0.A, vi x0.B, .slice a0_0 x0.Kids.length c0_0]), .agg (List.toArray [vi x1.Day, vi x1.At, vi x1.Km, vi x1.Age, .bool x1.Card, .slice a1_0 x1.Zones.length c1_0])].toArray w (fun e w => e = .returned (.bool r) ∧ St w s (R))) {w : World} {s : Sg} {R : List HP} {pb0 : Nat} {x0 : List FareCond} {a0 : Option Addr} {c0 : Nat} {y0 : FareTrip} {a_y0_5 : Option Addr} {c_y0_5 : Nat} (hS : St w s (pc pb0 #[vi y0.Day, vi y0.At, vi y0.Km, vi y0.Age, .bool y0.Card, .slice a_y0_5 y0.Zones.length c_y0_5] 51 :: R)) (h0 : Sl 4 RFareCond s a0 c0 x0) (h_y0_5 : Sl 1 (RI .i64) s a_y0_5 c_y0_5 y0.Zones) {r : Bool} (hr : SlicesContainsFuncLfareCond_v1 self_FareCondholds x0 y0 = some r) :
  Calls Tryz.prog 78 [.slice a0 x0.length c0, .func (.func 79) #[] #[pp pb0]].toArray w (fun e w => e = .returned (.bool r) ∧ St w s (pc pb0 #[vi y0.Day, vi y0.At, vi y0.Km, vi y0.Age, .bool y0.Card, .slice a_y0_5 y0.Zones.length c_y0_5] 51 :: R)) := by
 refine enter Tryz.func78 rfl rfl rfl fun a hE => ?_
 rw [SlicesContainsFuncLfareCond_v1] at hr
 refine W.seq (W.region (vp hS hE rfl rfl fun a hE => WL.nil ?_))
 refine W.seq (W.region (v2 hS hE rfl rfl rfl rfl fun a hE => ?_))
 obtain ⟨q51, hq52, hr⟩ := bindS hr
 have hc_ := SlicesIndexFuncLfareCond_v1_ok (y0 := y0) @ih_FareCondholds hS h0 h_y0_5 hq52
 refine WL.fnq hE (hc_) (runs_plain rfl) bd98 rfl rfl rfl ?_
 clear hE hS hc_; rintro e w ⟨rfl, hS⟩; refine ⟨_, rfl, ?_⟩; clear a; intro a hE
 refine v2 hS hE rfl rfl rfl rfl fun a hE => WL.nil ?_
 refine W.ret ?_
 refine finG (fn := Tryz.f78) (rs := [.tmp 4]) (vs := [_]) hE rfl ⟨rfl, trivial⟩ ?_
 obtain rfl := Option.some.inj hr
 exact ⟨rfl, hS⟩
set_option maxHeartbeats 8000000 in
theorem FareCondholds_3_v1_ok  {self_FareCondholds : FareCond → FareTrip → Option Bool} (ih_FareCondholds : ∀ {w : World} {s : Sg} {R : List HP} {x0 : FareCond} {a0_0 : Option Addr} {c0_0 : Nat} {x1 : FareTrip} {a1_0 : Option Addr} {c1_0 : Nat} (_hS : St w s (R)) (_h0_0 : Sl 4 RFareCond s a0_0 c0_0 x0.Kids) (_h1_0 : Sl 1 (RI .i64) s a1_0 c1_0 x1.Zones) {r : Bool} (_hr : self_FareCondholds x0 x1 = some r), Calls Tryz.prog 61 [.agg (List.toArray [vi x0.Kind, vi x0.A, vi x0.B, .slice a0_0 x0.Kids.length c0_0]), .agg (List.toArray [vi x1.Day, vi x1.At, vi x1.Km, vi x1.Age, .bool x1.Card, .slice a1_0 x1.Zones.length c1_0])].toArray w (fun e w => e = .returned (.bool r) ∧ St w s (R))) {w : World} {s : Sg} {R : List HP} {pb0 : Nat} {x0 : FareCond} {a0_0 : Option Addr} {c0_0 : Nat} {y0 : FareTrip} {a_y0_5 : Option Addr} {c_y0_5 : Nat} (hS : St w s (pc pb0 #[vi y0.Day, vi y0.At, vi y0.Km, vi y0.Age, .bool y0.Card, .slice a_y0_5 y0.Zones.length c_y0_5] 51 :: R)) (h0_0 : Sl 4 RFareCond s a0_0 c0_0 x0.Kids) (h_y0_5 : Sl 1 (RI .i64) s a_y0_5 c_y0_5 y0.Zones) {r : Bool} (hr : FareCondholds_3_v1 self_FareCondholds x0 y0 = some r) :
  Calls Tryz.prog 80 [.agg (List.toArray [vi x0.Kind, vi x0.A, vi x0.B, .slice a0_0 x0.Kids.length c0_0]), pp pb0].toArray w (fun e w => e = .returned (.bool r) ∧ St w s (pc pb0 #[vi y0.Day, vi y0.At, vi y0.Km, vi y0.Age, .bool y0.Card, .slice a_y0_5 y0.Zones.length c_y0_5] 51 :: R)) := by
 refine enter Tryz.func80 rfl rfl rfl fun a hE => ?_
 rw [FareCondholds_3_v1] at hr
 refine W.seq (W.region ?_)
 refine WL.box hE hS (runs_plain rfl) rfl rfl rfl ?_; clear hE hS a w; intro b51 a w hE hS
 refine vp hS hE rfl rfl fun a hE => WL.nil ?_
 refine W.seq (W.region (vP hS hE (Gives.loadBA hE 0 rfl rfl ty43) rfl fun a hE => ?_))
 refine vP hS hE (Gives.loadBA hE 1 rfl rfl ty51) rfl fun a hE => ?_
 obtain ⟨q52, hq53, hr⟩ := bindS hr
 have hc_ := ih_FareCondholds hS h0_0 h_y0_5 hq53
 refine WL.fnq hE (hc_) (runs_plain rfl) bd61 rfl rfl rfl ?_
 clear hE hS hc_; rintro e w ⟨rfl, hS⟩; refine ⟨_, rfl, ?_⟩; clear a; intro a hE
 refine vp hS hE rfl rfl fun a hE => WL.nil ?_
 refine W.ret ?_
 refine finG (fn := Tryz.f80) (rs := [.tmp 3]) (vs := [_]) hE rfl ⟨rfl, trivial⟩ ?_
 obtain rfl := Option.some.inj hr
 replace hS := hS.tail
 exact ⟨rfl, hS⟩
set_option maxHeartbeats 8000000 in
theorem SlicesIndexFuncLfareCond_v2_ok  {self_FareCondholds : FareCond → FareTrip → Option Bool} (ih_FareCondholds : ∀ {w : World} {s : Sg} {R : List HP} {x0 : FareCond} {a0_0 : Option Addr} {c0_0 : Nat} {x1 : FareTrip} {a1_0 : Option Addr} {c1_0 : Nat} (_hS : St w s (R)) (_h0_0 : Sl 4 RFareCond s a0_0 c0_0 x0.Kids) (_h1_0 : Sl 1 (RI .i64) s a1_0 c1_0 x1.Zones) {r : Bool} (_hr : self_FareCondholds x0 x1 = some r), Calls Tryz.prog 61 [.agg (List.toArray [vi x0.Kind, vi x0.A, vi x0.B, .slice a0_0 x0.Kids.length c0_0]), .agg (List.toArray [vi x1.Day, vi x1.At, vi x1.Km, vi x1.Age, .bool x1.Card, .slice a1_0 x1.Zones.length c1_0])].toArray w (fun e w => e = .returned (.bool r) ∧ St w s (R))) {w : World} {s : Sg} {R : List HP} {pb0 : Nat} {x0 : List FareCond} {a0 : Option Addr} {c0 : Nat} {y0 : FareTrip} {a_y0_5 : Option Addr} {c_y0_5 : Nat} (hS : St w s (pc pb0 #[vi y0.Day, vi y0.At, vi y0.Km, vi y0.Age, .bool y0.Card, .slice a_y0_5 y0.Zones.length c_y0_5] 51 :: R)) (h0 : Sl 4 RFareCond s a0 c0 x0) (h_y0_5 : Sl 1 (RI .i64) s a_y0_5 c_y0_5 y0.Zones) {r : Int} (hr : SlicesIndexFuncLfareCond_v2 self_FareCondholds x0 y0 = some r) :
  Calls Tryz.prog 98 [.slice a0 x0.length c0, .func (.func 80) #[] #[pp pb0]].toArray w (fun e w => e = .returned (vi r) ∧ St w s (pc pb0 #[vi y0.Day, vi y0.At, vi y0.Km, vi y0.Age, .bool y0.Card, .slice a_y0_5 y0.Zones.length c_y0_5] 51 :: R)) := by
 refine enter Tryz.func98 rfl rfl rfl fun a hE => ?_
 rw [SlicesIndexFuncLfareCond_v2] at hr
 refine W.seq (W.region (vp hS hE rfl rfl fun a hE => WL.nil ?_))
 refine W.seq ?_
 refine W.seq (W.region (vp hS hE rfl rfl fun a hE => ?_))
 refine vP hS hE (Gives.len hE rfl sl41) rfl fun a hE => ?_
 refine vp hS hE rfl rfl fun a hE => WL.nil ?_
 obtain ⟨q52, hq51, hr⟩ := bindS hr
 refine W.cut (fun a w => (.next ()) = q52 ∧ Rep a 19 [] ∧ St w s (pc pb0 #[vi y0.Day, vi y0.At, vi y0.Km, vi y0.Age, .bool y0.Card, .slice a_y0_5 y0.Zones.length c_y0_5] 51 :: R)) ?_ ?_
 ·refine W.block ?_
  refine W.loop (fun m a w => ∃ (rest55 : List FareCond) (k53 : Nat), rest55.length = m ∧ x0.drop k53 = rest55 ∧ SlicesIndexFuncLfareCond_v2.loop1 y0 self_FareCondholds rest55 k53 = some q52 ∧ Rep a 19 [(0, .slice a0 x0.length c0), (1, .func (.func 80) #[] #[pp pb0]), (7, vi ((x0).length : Int)), (8, vi ((k53 : Nat) : Int))] ∧ St w s (pc pb0 #[vi y0.Day, vi y0.At, vi y0.Km, vi y0.Age, .bool y0.Card, .slice a_y0_5 y0.Zones.length c_y0_5] 51 :: R)) (m := x0.length) ⟨x0, 0, rfl, rfl, hq51, hE.pick _ ⟨rfl, rfl, rfl, rfl, trivial⟩, hS⟩ ?_
  clear hE hS a w hq51; rintro m59 a w ⟨rest55, k53, rfl, hd56, hq51, hE, hS⟩
  refine W.gen fun K62 hK62 => ?_
  rcases rest55 with _ | ⟨x54, rest55⟩
  ·have hlt57 := drop_nil hd56
   refine W.seq (W.region (vp hS hE rfl rfl fun a hE => WL.nil ?_))
   refine W.seq ?_
   refine W.condF hE rfl (decide_eq_false (by omega)) ?_
   subst hK62
   refine W.exit rfl ?_
   exact ⟨Option.some.inj hq51, hE.pick _ trivial, hS⟩
  obtain ⟨hlt57, hx58, hd56⟩ := drop_cons hd56
  rw [SlicesIndexFuncLfareCond_v2.loop1] at hq51
  refine W.seq (W.region (vp hS hE rfl rfl fun a hE => WL.nil ?_))
  refine W.seq ?_
  refine W.condT hE rfl (decide_eq_true (by omega)) ?_
  refine W.skip ?_
  refine W.seq ?_
  refine W.block ?_
  refine W.seq (W.region (v2 hS hE rfl rfl rfl rfl fun a hE => WL.nil ?_))
  refine W.seq (W.region (v2 hS hE rfl rfl rfl rfl fun a hE => ?_))
  refine vp hS hE rfl rfl fun a hE => ?_
  obtain ⟨cs63, hl64, hR65, hat66⟩ := h0.at hx58
  obtain ⟨a67, c68, rfl, h69⟩ := hR65.unf
  refine vP hS hE (Gives.idx hE k53 rfl rfl sl41 rfl hlt57 (h0.aok hlt57)) rfl fun a hE => ?_
  refine vP hS hE (Gives.loadA hE rfl (fun w h => hat66 w _ h) ty43) rfl fun a hE => ?_
  obtain ⟨q70, hq71, hq51⟩ := bindS hq51
  have hc_ := FareCondholds_3_v1_ok (y0 := y0) @ih_FareCondholds hS h69 h_y0_5 hq71
  refine WL.fnw hE (hc_) rfl (runs_plain rfl) bd80 rfl rfl rfl ?_
  clear hE hS hc_; rintro e w ⟨rfl, hS⟩; refine ⟨_, rfl, ?_⟩; clear a; intro a hE
  refine WL.nil ?_
  refine W.cond hE rfl (fun hc72 => ?_) (fun hc72 => ?_)
  ·replace hq51 := iteT hc72 hq51
   refine W.seq (W.region (v2 hS hE rfl rfl rfl rfl fun a hE => WL.nil ?_))
   refine W.ret ?_
   subst hK62
   rw [← Option.some.inj hq51] at hr
   dsimp only at hr
   refine finG (fn := Tryz.f98) (rs := [.tmp 4]) (vs := [_]) hE rfl ⟨rfl, trivial⟩ ?_
   obtain rfl := Option.some.inj hr
   exact ⟨rfl, hS⟩
  replace hq51 := iteF hc72 hq51
  refine W.skip ?_
  refine W.region ?_
  refine vP hS hE (Gives.inc hE rfl (by have := h0.small; omega)) rfl fun a hE => ?_
  refine vp hS hE rfl rfl fun a hE => WL.nil ?_
  subst hK62
  exact ⟨rest55.length, Nat.lt_succ_self _, rest55, k53 + 1, rfl, hd56, hq51, hE.pick _ ⟨rfl, rfl, rfl, rfl, trivial⟩, hS⟩
 clear hE hS a w; rintro a w ⟨rfl, hE, hS⟩
 dsimp only at hr
 refine W.seq (W.region (vp hS hE rfl rfl fun a hE => WL.nil ?_))
 refine W.ret ?_
 refine finG (fn := Tryz.f98) (rs := [.tmp 4]) (vs := [_]) hE rfl ⟨rfl, trivial⟩ ?_
 obtain rfl := Option.some.inj hr
 exact ⟨rfl, hS⟩
set_option maxHeartbeats 8000000 in
theorem SlicesContainsFuncLfareCond_v2_ok  {self_FareCondholds : FareCond → FareTrip → Option Bool} (ih_FareCondholds : ∀ {w : World} {s : Sg} {R : List HP} {x0 : FareCond} {a0_0 : Option Addr} {c0_0 : Nat} {x1 : FareTrip} {a1_0 : Option Addr} {c1_0 : Nat} (_hS : St w s (R)) (_h0_0 : Sl 4 RFareCond s a0_0 c0_0 x0.Kids) (_h1_0 : Sl 1 (RI .i64) s a1_0 c1_0 x1.Zones) {r : Bool} (_hr : self_FareCondholds x0 x1 = some r), Calls Tryz.prog 61 [.agg (List.toArray [vi x0.Kind, vi x0.A, vi x0.B, .slice a0_0 x0.Kids.length c0_0]), .agg (List.toArray [vi x1.Day, vi x1.At, vi x1.Km, vi x1.Age, .bool x1.Card, .slice a1_0 x1.Zones.length c1_0])].toArray w (fun e w => e = .returned (.bool r) ∧ St w s (R))) {w : World} {s : Sg} {R : List HP} {pb0 : Nat} {x0 : List FareCond} {a0 : Option Addr} {c0 : Nat} {y0 : FareTrip} {a_y0_5 : Option Addr} {c_y0_5 : Nat} (hS : St w s (pc pb0 #[vi y0.Day, vi y0.At, vi y0.Km, vi y0.Age, .bool y0.Card, .slice a_y0_5 y0.Zones.length c_y0_5] 51 :: R)) (h0 : Sl 4 RFareCond s a0 c0 x0) (h_y0_5 : Sl 1 (RI .i64) s a_y0_5 c_y0_5 y0.Zones) {r : Bool} (hr : SlicesContainsFuncLfareCond_v2 self_FareCondholds x0 y0 = some r) :
  Calls Tryz.prog 78 [.slice a0 x0.length c0, .func (.func 80) #[] #[pp pb0]].toArray w (fun e w => e = .returned (.bool r) ∧ St w s (pc pb0 #[vi y0.Day, vi y0.At, vi y0.Km, vi y0.Age, .bool y0.Card, .slice a_y0_5 y0.Zones.length c_y0_5] 51 :: R)) := by
 refine enter Tryz.func78 rfl rfl rfl fun a hE => ?_
 rw [SlicesContainsFuncLfareCond_v2] at hr
 refine W.seq (W.region (vp hS hE rfl rfl fun a hE => WL.nil ?_))
 refine W.seq (W.region (v2 hS hE rfl rfl rfl rfl fun a hE => ?_))
 obtain ⟨q51, hq52, hr⟩ := bindS hr
 have hc_ := SlicesIndexFuncLfareCond_v2_ok (y0 := y0) @ih_FareCondholds hS h0 h_y0_5 hq52
 refine WL.fnq hE (hc_) (runs_plain rfl) bd98 rfl rfl rfl ?_
 clear hE hS hc_; rintro e w ⟨rfl, hS⟩; refine ⟨_, rfl, ?_⟩; clear a; intro a hE
 refine v2 hS hE rfl rfl rfl rfl fun a hE => WL.nil ?_
 refine W.ret ?_
 refine finG (fn := Tryz.f78) (rs := [.tmp 4]) (vs := [_]) hE rfl ⟨rfl, trivial⟩ ?_
 obtain rfl := Option.some.inj hr
 exact ⟨rfl, hS⟩
set_option maxHeartbeats 8000000 in
theorem FareCondholds_ok : ∀ {fu : Nat} {w : World} {s : Sg} {R : List HP} {x0 : FareCond} {a0_0 : Option Addr} {c0_0 : Nat} {x1 : FareTrip} {a1_0 : Option Addr} {c1_0 : Nat} (_hS : St w s (R)) (_h0_0 : Sl 4 RFareCond s a0_0 c0_0 x0.Kids) (_h1_0 : Sl 1 (RI .i64) s a1_0 c1_0 x1.Zones) {r : Bool} (_hr : FareCondholds fu x0 x1 = some r),
  Calls Tryz.prog 61 [.agg (List.toArray [vi x0.Kind, vi x0.A, vi x0.B, .slice a0_0 x0.Kids.length c0_0]), .agg (List.toArray [vi x1.Day, vi x1.At, vi x1.Km, vi x1.Age, .bool x1.Card, .slice a1_0 x1.Zones.length c1_0])].toArray w (fun e w => e = .returned (.bool r) ∧ St w s (R)) := by
 intro fu
 induction fu with
 | zero => intro w s R x0 a0_0 c0_0 x1 a1_0 c1_0 hS h0_0 h1_0 r hr; rw [FareCondholds] at hr; exact absurd hr (by simp)
 | succ fu ih_FareCondholds =>
  intro w s R x0 a0_0 c0_0 x1 a1_0 c1_0 hS h0_0 h1_0 r hr
  rw [FareCondholds] at hr
  generalize FareCondholds fu = self_FareCondholds at hr ih_FareCondholds
  refine enter Tryz.func61 rfl rfl rfl fun a hE => ?_
  refine W.seq (W.region ?_)
  refine WL.box hE hS (runs_plain rfl) rfl rfl rfl ?_; clear hE hS a w; intro b51 a w hE hS
  refine WL.box hE hS (runs_plain rfl) rfl rfl rfl ?_; clear hE hS a w; intro b52 a w hE hS
  refine vp hS hE rfl rfl fun a hE => WL.nil ?_
  refine W.seq (W.region (vP hS hE (Gives.mkfn hE (vs := [pp b51]) rfl) rfl fun a hE => ?_))
  refine vp hS hE rfl rfl fun a hE => WL.nil ?_
  refine W.seq ?_
  refine W.seq (W.region (vP hS hE (Gives.fld hE rfl fl43_0) rfl fun a hE => ?_))
  refine vP hS hE (Gives.loadB hE 1 rfl rfl rfl ty3) rfl fun a hE => WL.nil ?_
  refine W.block ?_
  refine W.seq (W.region (v2 hS hE rfl rfl rfl rfl fun a hE => WL.nil ?_))
  refine W.cond hE rfl (fun hc53 => ?_) (fun hc53 => ?_)
  ·replace hr := iteT hc53 hr
   refine W.seq (W.region (vP hS hE (Gives.fld hE rfl fl51_4) rfl fun a hE => ?_))
   refine vP hS hE (Gives.loadB hE 0 rfl rfl rfl ty4) rfl fun a hE => ?_
   refine vp hS hE rfl rfl fun a hE => WL.nil ?_
   refine W.ret ?_
   refine finG (fn := Tryz.f61) (rs := [.tmp 4]) (vs := [_]) hE rfl ⟨rfl, trivial⟩ ?_
   obtain rfl := Option.some.inj hr
   replace hS := hS.tail
   replace hS := hS.tail
   exact ⟨rfl, hS⟩
  replace hr := iteF hc53 hr
  refine W.seq (W.region (v2 hS hE rfl rfl rfl rfl fun a hE => WL.nil ?_))
  refine W.cond hE rfl (fun hc54 => ?_) (fun hc54 => ?_)
  ·replace hr := iteT hc54 hr
   refine W.seq (W.region (vp hS hE rfl rfl fun a hE => ?_))
   refine vP hS hE (Gives.fld hE rfl fl51_3) rfl fun a hE => ?_
   refine vP hS hE (Gives.loadB hE 0 rfl rfl rfl ty3) rfl fun a hE => ?_
   replace hS := hS.front 1 rfl
   refine WL.fnw hE (FareCondholds_1_v1_ok (y0 := x0) hS h0_0 rfl (r := FareCondholds_1_v1 x1.Age x0)) rfl (runs_plain rfl) bd76 rfl rfl rfl ?_
   clear hE hS; rintro e w ⟨rfl, hS⟩; refine ⟨_, rfl, ?_⟩; clear a; intro a hE
   refine vp hS hE rfl rfl fun a hE => WL.nil ?_
   refine W.ret ?_
   refine finG (fn := Tryz.f61) (rs := [.tmp 4]) (vs := [_]) hE rfl ⟨rfl, trivial⟩ ?_
   obtain rfl := Option.some.inj hr
   replace hS := hS.tail
   replace hS := hS.tail
   exact ⟨rfl, hS⟩
  replace hr := iteF hc54 hr
  refine W.seq (W.region (v2 hS hE rfl rfl rfl rfl fun a hE => WL.nil ?_))
  refine W.cond hE rfl (fun hc55 => ?_) (fun hc55 => ?_)
  ·replace hr := iteT hc55 hr
   refine W.seq (W.region (vp hS hE rfl rfl fun a hE => ?_))
   refine vP hS hE (Gives.fld hE rfl fl51_1) rfl fun a hE => ?_
   refine vP hS hE (Gives.loadB hE 0 rfl rfl rfl ty3) rfl fun a hE => ?_
   replace hS := hS.front 1 rfl
   refine WL.fnw hE (FareCondholds_1_v1_ok (y0 := x0) hS h0_0 rfl (r := FareCondholds_1_v1 x1.At x0)) rfl (runs_plain rfl) bd76 rfl rfl rfl ?_
   clear hE hS; rintro e w ⟨rfl, hS⟩; refine ⟨_, rfl, ?_⟩; clear a; intro a hE
   refine vp hS hE rfl rfl fun a hE => WL.nil ?_
   refine W.ret ?_
   refine finG (fn := Tryz.f61) (rs := [.tmp 4]) (vs := [_]) hE rfl ⟨rfl, trivial⟩ ?_
   obtain rfl := Option.some.inj hr
   replace hS := hS.tail
   replace hS := hS.tail
   exact ⟨rfl, hS⟩
  replace hr := iteF hc55 hr
  refine W.seq (W.region (v2 hS hE rfl rfl rfl rfl fun a hE => WL.nil ?_))
  refine W.cond hE rfl (fun hc56 => ?_) (fun hc56 => ?_)
  ·replace hr := iteT hc56 hr
   refine W.seq (W.region (vp hS hE rfl rfl fun a hE => ?_))
   refine vP hS hE (Gives.fld hE rfl fl51_2) rfl fun a hE => ?_
   refine vP hS hE (Gives.loadB hE 0 rfl rfl rfl ty3) rfl fun a hE => ?_
   replace hS := hS.front 1 rfl
   refine WL.fnw hE (FareCondholds_1_v1_ok (y0 := x0) hS h0_0 rfl (r := FareCondholds_1_v1 x1.Km x0)) rfl (runs_plain rfl) bd76 rfl rfl rfl ?_
   clear hE hS; rintro e w ⟨rfl, hS⟩; refine ⟨_, rfl, ?_⟩; clear a; intro a hE
   refine vp hS hE rfl rfl fun a hE => WL.nil ?_
   refine W.ret ?_
   refine finG (fn := Tryz.f61) (rs := [.tmp 4]) (vs := [_]) hE rfl ⟨rfl, trivial⟩ ?_
   obtain rfl := Option.some.inj hr
   replace hS := hS.tail
   replace hS := hS.tail
   exact ⟨rfl, hS⟩
  replace hr := iteF hc56 hr
  refine W.seq (W.region (v2 hS hE rfl rfl rfl rfl fun a hE => WL.nil ?_))
  refine W.cond hE rfl (fun hc57 => ?_) (fun hc57 => ?_)
  ·replace hr := iteT hc57 hr
   refine W.seq (W.region (vp hS hE rfl rfl fun a hE => ?_))
   refine vP hS hE (Gives.fld hE rfl fl51_5) rfl fun a hE => ?_
   refine vP hS hE (Gives.loadB hE 0 rfl rfl rfl ty47) rfl fun a hE => ?_
   refine vP hS hE (Gives.len hE rfl sl47) rfl fun a hE => ?_
   replace hS := hS.front 1 rfl
   refine WL.fnw hE (FareCondholds_1_v1_ok (y0 := x0) hS h0_0 rfl (r := FareCondholds_1_v1 ((x1.Zones).length : Int) x0)) rfl (runs_plain rfl) bd76 rfl rfl rfl ?_
   clear hE hS; rintro e w ⟨rfl, hS⟩; refine ⟨_, rfl, ?_⟩; clear a; intro a hE
   refine vp hS hE rfl rfl fun a hE => WL.nil ?_
   refine W.ret ?_
   refine finG (fn := Tryz.f61) (rs := [.tmp 4]) (vs := [_]) hE rfl ⟨rfl, trivial⟩ ?_
   obtain rfl := Option.some.inj hr
   replace hS := hS.tail
   replace hS := hS.tail
   exact ⟨rfl, hS⟩
  replace hr := iteF hc57 hr
  refine W.seq (W.region (v2 hS hE rfl rfl rfl rfl fun a hE => WL.nil ?_))
  refine W.cond hE rfl (fun hc58 => ?_) (fun hc58 => ?_)
  ·replace hr := iteT hc58 hr
   refine W.seq (W.region (vP hS hE (Gives.fld hE rfl fl51_5) rfl fun a hE => ?_))
   refine vP hS hE (Gives.loadB hE 0 rfl rfl rfl ty47) rfl fun a hE => ?_
   refine vP hS hE (Gives.fld hE rfl fl43_1) rfl fun a hE => ?_
   refine vP hS hE (Gives.loadB hE 1 rfl rfl rfl ty3) rfl fun a hE => ?_
   refine WL.fnq hE (SlicesContainsLint_ok hS h1_0 rfl (r := SlicesContainsLint x1.Zones x0.A)) (runs_plain rfl) bd77 rfl rfl rfl ?_
   clear hE hS; rintro e w ⟨rfl, hS⟩; refine ⟨_, rfl, ?_⟩; clear a; intro a hE
   refine vp hS hE rfl rfl fun a hE => WL.nil ?_
   refine W.ret ?_
   refine finG (fn := Tryz.f61) (rs := [.tmp 4]) (vs := [_]) hE rfl ⟨rfl, trivial⟩ ?_
   obtain rfl := Option.some.inj hr
   replace hS := hS.tail
   replace hS := hS.tail
   exact ⟨rfl, hS⟩
  replace hr := iteF hc58 hr
  refine W.seq (W.region (v2 hS hE rfl rfl rfl rfl fun a hE => WL.nil ?_))
  refine W.cond hE rfl (fun hc59 => ?_) (fun hc59 => ?_)
  ·replace hr := iteT hc59 hr
   refine W.seq ?_
   refine W.regionQ (C := fun w => St w s (pc b52 #[vi x1.Day, vi x1.At, vi x1.Km, vi x1.Age, .bool x1.Card, .slice a1_0 x1.Zones.length c1_0] 51 :: pc b51 #[vi x0.Kind, vi x0.A, vi x0.B, .slice a0_0 x0.Kids.length c0_0] 43 :: R)) mixed (by kernel_rfl) hS.drew ?_
   refine qP hE (Gives.fld hE rfl fl51_5) rfl fun a hE => ?_
   refine qP hE (Gives.loadB hE 0 rfl rfl rfl ty47) rfl fun a hE => ?_
   obtain ⟨x60, hx61, hr⟩ := bindS hr
   obtain ⟨hi62, hlt63, hy64⟩ := gx_some hx61
   obtain ⟨cs65, hl66, hR67, hat68⟩ := h1_0.at hy64
   subst hR67
   refine qP hE (Gives.idx hE ((0 : Int)).toNat rfl rfl sl47 hi62 hlt63 (h1_0.aok hlt63)) rfl fun a hE => ?_
   refine qP hE (Gives.load1 hE rfl (fun w h => hat68 w _ h) ty3) rfl fun a hE => ?_
   refine qP hE (Gives.fld hE rfl fl43_1) rfl fun a hE => ?_
   refine qP hE (Gives.loadB hE 1 rfl rfl rfl ty3) rfl fun a hE => ?_
   refine qP hE (Gives.p hE rfl) rfl fun a hE => ?_
   refine qP hE (Gives.p hE rfl) rfl fun a hE => ?_
   refine QL.nil ?_; clear hS w; intro w hS
   refine W.ret ?_
   refine finG (fn := Tryz.f61) (rs := [.tmp 4]) (vs := [_]) hE rfl ⟨rfl, trivial⟩ ?_
   obtain rfl := Option.some.inj hr
   replace hS := hS.tail
   replace hS := hS.tail
   exact ⟨rfl, hS⟩
  replace hr := iteF hc59 hr
  refine W.seq (W.region (v2 hS hE rfl rfl rfl rfl fun a hE => WL.nil ?_))
  refine W.cond hE rfl (fun hc69 => ?_) (fun hc69 => ?_)
  ·replace hr := iteT hc69 hr
   refine W.seq ?_
   refine W.regionQ (C := fun w => St w s (pc b52 #[vi x1.Day, vi x1.At, vi x1.Km, vi x1.Age, .bool x1.Card, .slice a1_0 x1.Zones.length c1_0] 51 :: pc b51 #[vi x0.Kind, vi x0.A, vi x0.B, .slice a0_0 x0.Kids.length c0_0] 43 :: R)) mixed (by kernel_rfl) hS.drew ?_
   refine qP hE (Gives.fld hE rfl fl51_5) rfl fun a hE => ?_
   refine qP hE (Gives.loadB hE 0 rfl rfl rfl ty47) rfl fun a hE => ?_
   refine qP hE (Gives.fld hE rfl fl51_5) rfl fun a hE => ?_
   refine qP hE (Gives.loadB hE 0 rfl rfl rfl ty47) rfl fun a hE => ?_
   refine qP hE (Gives.len hE rfl sl47) rfl fun a hE => ?_
   refine qP hE (Gives.p hE rfl) rfl fun a hE => ?_
   obtain ⟨x70, hx71, hr⟩ := bindS hr
   obtain ⟨hi72, hlt73, hy74⟩ := gx_some hx71
   obtain ⟨cs75, hl76, hR77, hat78⟩ := h1_0.at hy74
   subst hR77
   refine qP hE (Gives.idx hE (w64 (((x1.Zones).length : Int) - 1)).toNat rfl rfl sl47 hi72 hlt73 (h1_0.aok hlt73)) rfl fun a hE => ?_
   refine qP hE (Gives.load1 hE rfl (fun w h => hat78 w _ h) ty3) rfl fun a hE => ?_
   refine qP hE (Gives.fld hE rfl fl43_1) rfl fun a hE => ?_
   refine qP hE (Gives.loadB hE 1 rfl rfl rfl ty3) rfl fun a hE => ?_
   refine qP hE (Gives.p hE rfl) rfl fun a hE => ?_
   refine qP hE (Gives.p hE rfl) rfl fun a hE => ?_
   refine QL.nil ?_; clear hS w; intro w hS
   refine W.ret ?_
   refine finG (fn := Tryz.f61) (rs := [.tmp 4]) (vs := [_]) hE rfl ⟨rfl, trivial⟩ ?_
   obtain rfl := Option.some.inj hr
   replace hS := hS.tail
   replace hS := hS.tail
   exact ⟨rfl, hS⟩
  replace hr := iteF hc69 hr
  refine W.seq (W.region (v2 hS hE rfl rfl rfl rfl fun a hE => WL.nil ?_))
  refine W.cond hE rfl (fun hc79 => ?_) (fun hc79 => ?_)
  ·replace hr := iteT hc79 hr
   refine W.seq ?_
   refine W.regionQ (C := fun w => St w s (pc b52 #[vi x1.Day, vi x1.At, vi x1.Km, vi x1.Age, .bool x1.Card, .slice a1_0 x1.Zones.length c1_0] 51 :: pc b51 #[vi x0.Kind, vi x0.A, vi x0.B, .slice a0_0 x0.Kids.length c0_0] 43 :: R)) mixed (by kernel_rfl) hS.drew ?_
   refine qP hE (Gives.fld hE rfl fl43_3) rfl fun a hE => ?_
   refine qP hE (Gives.loadB hE 1 rfl rfl rfl ty41) rfl fun a hE => ?_
   obtain ⟨x80, hx81, hr⟩ := bindS hr
   obtain ⟨hi82, hlt83, hy84⟩ := gx_some hx81
   obtain ⟨cs85, hl86, hR87, hat88⟩ := h0_0.at hy84
   obtain ⟨a89, c90, rfl, h91⟩ := hR87.unf
   refine qP hE (Gives.idx hE ((0 : Int)).toNat rfl rfl sl41 hi82 hlt83 (h0_0.aok hlt83)) rfl fun a hE => ?_
   refine qP hE (Gives.loadA hE rfl (fun w h => hat88 w _ h) ty43) rfl fun a hE => ?_
   refine qP hE (Gives.loadBA hE 0 rfl rfl ty51) rfl fun a hE => ?_
   obtain ⟨q92, hq93, hr⟩ := bindS hr
   refine QL.fnq hE (fun w hS => ih_FareCondholds hS h91 h1_0 hq93) (runs_plain rfl) bd61 rfl rfl rfl fun a hE => ?_
   refine qP hE (Gives.p hE rfl) rfl fun a hE => ?_
   refine qP hE (Gives.p hE rfl) rfl fun a hE => ?_
   refine QL.nil ?_; clear hS w; intro w hS
   refine W.ret ?_
   refine finG (fn := Tryz.f61) (rs := [.tmp 4]) (vs := [_]) hE rfl ⟨rfl, trivial⟩ ?_
   obtain rfl := Option.some.inj hr
   replace hS := hS.tail
   replace hS := hS.tail
   exact ⟨rfl, hS⟩
  replace hr := iteF hc79 hr
  refine W.seq (W.region (v2 hS hE rfl rfl rfl rfl fun a hE => WL.nil ?_))
  refine W.cond hE rfl (fun hc94 => ?_) (fun hc94 => ?_)
  ·replace hr := iteT hc94 hr
   refine W.seq (W.region (vP hS hE (Gives.fld hE rfl fl43_3) rfl fun a hE => ?_))
   refine vP hS hE (Gives.loadB hE 1 rfl rfl rfl ty41) rfl fun a hE => ?_
   refine vP hS hE (Gives.mkfn hE (vs := [pp b52]) rfl) rfl fun a hE => ?_
   obtain ⟨q95, hq96, hr⟩ := bindS hr
   have hc_ := SlicesContainsFuncLfareCond_v1_ok (y0 := x1) @ih_FareCondholds hS h0_0 h1_0 hq96
   refine WL.fnq hE (hc_) (runs_plain rfl) bd78 rfl rfl rfl ?_
   clear hE hS hc_; rintro e w ⟨rfl, hS⟩; refine ⟨_, rfl, ?_⟩; clear a; intro a hE
   refine v2 hS hE rfl rfl rfl rfl fun a hE => WL.nil ?_
   refine W.ret ?_
   refine finG (fn := Tryz.f61) (rs := [.tmp 4]) (vs := [_]) hE rfl ⟨rfl, trivial⟩ ?_
   obtain rfl := Option.some.inj hr
   replace hS := hS.tail
   replace hS := hS.tail
   exact ⟨rfl, hS⟩
  replace hr := iteF hc94 hr
  refine W.seq (W.region (v2 hS hE rfl rfl rfl rfl fun a hE => WL.nil ?_))
  refine W.cond hE rfl (fun hc97 => ?_) (fun hc97 => ?_)
  ·replace hr := iteT hc97 hr
   refine W.seq (W.region (vP hS hE (Gives.fld hE rfl fl43_3) rfl fun a hE => ?_))
   refine vP hS hE (Gives.loadB hE 1 rfl rfl rfl ty41) rfl fun a hE => ?_
   refine vP hS hE (Gives.mkfn hE (vs := [pp b52]) rfl) rfl fun a hE => ?_
   obtain ⟨q98, hq99, hr⟩ := bindS hr
   have hc_ := SlicesContainsFuncLfareCond_v2_ok (y0 := x1) @ih_FareCondholds hS h0_0 h1_0 hq99
   refine WL.fnq hE (hc_) (runs_plain rfl) bd78 rfl rfl rfl ?_
   clear hE hS hc_; rintro e w ⟨rfl, hS⟩; refine ⟨_, rfl, ?_⟩; clear a; intro a hE
   refine vp hS hE rfl rfl fun a hE => WL.nil ?_
   refine W.ret ?_
   refine finG (fn := Tryz.f61) (rs := [.tmp 4]) (vs := [_]) hE rfl ⟨rfl, trivial⟩ ?_
   obtain rfl := Option.some.inj hr
   replace hS := hS.tail
   replace hS := hS.tail
   exact ⟨rfl, hS⟩
  replace hr := iteF hc97 hr
  refine W.skip ?_
  refine W.seq (W.region (vp hS hE rfl rfl fun a hE => WL.nil ?_))
  refine W.ret ?_
  refine finG (fn := Tryz.f61) (rs := [.tmp 4]) (vs := [_]) hE rfl ⟨rfl, trivial⟩ ?_
  obtain rfl := Option.some.inj hr
  replace hS := hS.tail
  replace hS := hS.tail
  exact ⟨rfl, hS⟩
set_option maxHeartbeats 8000000 in
theorem FareRulechange_ok  {w : World} {s : Sg} {R : List HP} {x0 : FareRule} {a0_0 : Option Addr} {c0_0 : Nat} {x1 : Int} (hS : St w s (R)) (_h0_0 : Sl 4 RFareCond s a0_0 c0_0 x0.If.Kids) {r : Int} (hr : FareRulechange x0 x1 = r) :
  Calls Tryz.prog 62 [.agg (List.toArray [vi x0.If.Kind, vi x0.If.A, vi x0.If.B, .slice a0_0 x0.If.Kids.length c0_0, vi x0.Do, vi x0.N, .bool x0.Stop]), vi x1].toArray w (fun e w => e = .returned (vi r) ∧ St w s (R)) := by
 refine enter Tryz.func62 rfl rfl rfl fun a hE => ?_
 rw [FareRulechange] at hr
 refine W.seq (W.region ?_)
 refine WL.box hE hS (runs_plain rfl) rfl rfl rfl ?_; clear hE hS a w; intro b51 a w hE hS
 refine vp hS hE rfl rfl fun a hE => WL.nil ?_
 refine W.seq ?_
 refine W.seq (W.region (vP hS hE (Gives.fld hE rfl fl45_1) rfl fun a hE => ?_))
 refine vP hS hE (Gives.loadB hE 0 rfl rfl rfl ty3) rfl fun a hE => WL.nil ?_
 refine W.block ?_
 refine W.seq (W.region (v2 hS hE rfl rfl rfl rfl fun a hE => WL.nil ?_))
 refine W.cond hE rfl (fun hc52 => ?_) (fun hc52 => ?_)
 ·replace hr := iteT hc52 hr
  refine W.seq (W.region (vp hS hE rfl rfl fun a hE => ?_))
  refine vP hS hE (Gives.fld hE rfl fl45_2) rfl fun a hE => ?_
  refine vP hS hE (Gives.loadB hE 0 rfl rfl rfl ty3) rfl fun a hE => ?_
  refine v2 hS hE rfl rfl rfl rfl fun a hE => ?_
  refine vP hS hE (Gives.min2 hE rfl rfl) rfl fun a hE => ?_
  refine vp hS hE rfl rfl fun a hE => WL.nil ?_
  refine W.ret ?_
  refine finG (fn := Tryz.f62) (rs := [.tmp 4]) (vs := [_]) hE rfl ⟨rfl, trivial⟩ ?_
  subst hr
  replace hS := hS.tail
  exact ⟨rfl, hS⟩
 replace hr := iteF hc52 hr
 refine W.seq (W.region (v2 hS hE rfl rfl rfl rfl fun a hE => WL.nil ?_))
 refine W.cond hE rfl (fun hc53 => ?_) (fun hc53 => ?_)
 ·replace hr := iteT hc53 hr
  refine W.seq (W.region (vp hS hE rfl rfl fun a hE => ?_))
  refine vP hS hE (Gives.fld hE rfl fl45_2) rfl fun a hE => ?_
  refine vP hS hE (Gives.loadB hE 0 rfl rfl rfl ty3) rfl fun a hE => ?_
  refine vp hS hE rfl rfl fun a hE => ?_
  refine vP hS hE (Gives.max2 hE rfl rfl) rfl fun a hE => ?_
  refine vp hS hE rfl rfl fun a hE => WL.nil ?_
  refine W.ret ?_
  refine finG (fn := Tryz.f62) (rs := [.tmp 4]) (vs := [_]) hE rfl ⟨rfl, trivial⟩ ?_
  subst hr
  replace hS := hS.tail
  exact ⟨rfl, hS⟩
 replace hr := iteF hc53 hr
 refine W.seq (W.region (v2 hS hE rfl rfl rfl rfl fun a hE => WL.nil ?_))
 refine W.cond hE rfl (fun hc54 => ?_) (fun hc54 => ?_)
 ·replace hr := iteT hc54 hr
  refine W.seq (W.region (vp hS hE rfl rfl fun a hE => ?_))
  refine vP hS hE (Gives.fld hE rfl fl45_2) rfl fun a hE => ?_
  refine vP hS hE (Gives.loadB hE 0 rfl rfl rfl ty3) rfl fun a hE => ?_
  refine vp hS hE rfl rfl fun a hE => ?_
  refine vP hS hE (Gives.min2 hE rfl rfl) rfl fun a hE => ?_
  refine vp hS hE rfl rfl fun a hE => WL.nil ?_
  refine W.ret ?_
  refine finG (fn := Tryz.f62) (rs := [.tmp 4]) (vs := [_]) hE rfl ⟨rfl, trivial⟩ ?_
  subst hr
  replace hS := hS.tail
  exact ⟨rfl, hS⟩
 replace hr := iteF hc54 hr
 refine W.seq (W.region (v2 hS hE rfl rfl rfl rfl fun a hE => WL.nil ?_))
 refine W.cond hE rfl (fun hc55 => ?_) (fun hc55 => ?_)
 ·replace hr := iteT hc55 hr
  refine W.seq (W.region (vP hS hE (Gives.fld hE rfl fl45_2) rfl fun a hE => ?_))
  refine vP hS hE (Gives.loadB hE 0 rfl rfl rfl ty3) rfl fun a hE => ?_
  refine vp hS hE rfl rfl fun a hE => WL.nil ?_
  refine W.ret ?_
  refine finG (fn := Tryz.f62) (rs := [.tmp 4]) (vs := [_]) hE rfl ⟨rfl, trivial⟩ ?_
  subst hr
  replace hS := hS.tail
  exact ⟨rfl, hS⟩
 replace hr := iteF hc55 hr
 refine W.seq (W.region (v2 hS hE rfl rfl rfl rfl fun a hE => WL.nil ?_))
 refine W.cond hE rfl (fun hc56 => ?_) (fun hc56 => ?_)
 ·replace hr := iteT hc56 hr
  refine W.seq (W.region (vp hS hE rfl rfl fun a hE => ?_))
  refine vP hS hE (Gives.fld hE rfl fl45_2) rfl fun a hE => ?_
  refine vP hS hE (Gives.loadB hE 0 rfl rfl rfl ty3) rfl fun a hE => ?_
  refine vP hS hE (Gives.min2 hE rfl rfl) rfl fun a hE => ?_
  refine vp hS hE rfl rfl fun a hE => WL.nil ?_
  refine W.ret ?_
  refine finG (fn := Tryz.f62) (rs := [.tmp 4]) (vs := [_]) hE rfl ⟨rfl, trivial⟩ ?_
  subst hr
  replace hS := hS.tail
  exact ⟨rfl, hS⟩
 replace hr := iteF hc56 hr
 refine W.skip ?_
 refine W.seq (W.region (vp hS hE rfl rfl fun a hE => ?_))
 refine vP hS hE (Gives.fld hE rfl fl45_2) rfl fun a hE => ?_
 refine vP hS hE (Gives.loadB hE 0 rfl rfl rfl ty3) rfl fun a hE => ?_
 refine vP hS hE (Gives.max2 hE rfl rfl) rfl fun a hE => ?_
 refine vp hS hE rfl rfl fun a hE => WL.nil ?_
 refine W.ret ?_
 refine finG (fn := Tryz.f62) (rs := [.tmp 4]) (vs := [_]) hE rfl ⟨rfl, trivial⟩ ?_
 subst hr
 replace hS := hS.tail
 exact ⟨rfl, hS⟩
set_option maxHeartbeats 8000000 in
theorem FareTariffprice_ok {fu : Nat}  {w : World} {s : Sg} {R : List HP} {x0 : FareTariff} {a0_0 : Option Addr} {c0_0 : Nat} {a0_1 : Option Addr} {c0_1 : Nat} {x1 : FareTrip} {a1_0 : Option Addr} {c1_0 : Nat} (hS : St w s (R)) (h0_0 : Sl 2 RFareBand s a0_0 c0_0 x0.Bands) (h0_1 : Sl 7 RFareRule s a0_1 c0_1 x0.Rules) (h1_0 : Sl 1 (RI .i64) s a1_0 c1_0 x1.Zones) {r : Int × (List Int)} (hr : FareTariffprice fu x0 x1 = some r) :
  Calls Tryz.prog 36 [.agg (List.toArray [.bool x0.ByKm, .slice a0_0 x0.Bands.length c0_0, vi x0.Round, .slice a0_1 x0.Rules.length c0_1]), .agg (List.toArray [vi x1.Day, vi x1.At, vi x1.Km, vi x1.Age, .bool x1.Card, .slice a1_0 x1.Zones.length c1_0])].toArray w (fun e w => ∃ (a1 : Option Addr) (c1 n1 : Nat) (cs1 : List Value), e = .returned (.tuple #[vi r.1, .slice a1 n1 c1]) ∧ Ev 1 (RI .i64) s cs1 r.2 ∧ r.2.length = n1 ∧ St w s (vecC 3 1 a1 c1 n1 cs1 :: R)) := by
 refine enter Tryz.func36 rfl rfl rfl fun a hE => ?_
 rw [FareTariffprice] at hr
 refine W.seq (W.region ?_)
 refine WL.box hE hS (runs_plain rfl) rfl rfl rfl ?_; clear hE hS a w; intro b51 a w hE hS
 refine WL.box hE hS (runs_plain rfl) rfl rfl rfl ?_; clear hE hS a w; intro b52 a w hE hS
 refine v2 hS hE rfl rfl rfl rfl fun a hE => WL.nil ?_
 refine W.seq (W.region (vP hS hE (Gives.fld hE rfl fl51_5) rfl fun a hE => ?_))
 refine vP hS hE (Gives.loadB hE 0 rfl rfl rfl ty47) rfl fun a hE => ?_
 refine vP hS hE (Gives.len hE rfl sl47) rfl fun a hE => ?_
 refine WL.alloc hE hS (runs_plain rfl) zr3 rfl ?_; clear hE hS a w; intro b53 a w hE hS
 refine WL.storeI hE hS 0 rfl [vi ((x1.Zones).length : Int)] (runs_plain rfl) rfl rfl rfl ty3 rfl rfl rfl rfl ?_; clear hE hS a w; intro a w hE hS
 refine WL.nil ?_
 refine W.seq ?_
 refine W.seq (W.region (vP hS hE (Gives.fld hE rfl fl25_0) rfl fun a hE => ?_))
 refine vP hS hE (Gives.loadB hE 2 rfl rfl rfl ty4) rfl fun a hE => WL.nil ?_
 obtain ⟨q55, hq54, hr⟩ := bndS hr
 refine W.cut (fun a w => ∃ (q58 : Int), q58 = q55 ∧ Rep a 70 [(2, pp b51), (3, pp b52), (6, pp b53)] ∧ St w s (pc b53 #[vi q58] 3 :: pc b52 #[vi x1.Day, vi x1.At, vi x1.Km, vi x1.Age, .bool x1.Card, .slice a1_0 x1.Zones.length c1_0] 51 :: pc b51 #[.bool x0.ByKm, .slice a0_0 x0.Bands.length c0_0, vi x0.Round, .slice a0_1 x0.Rules.length c0_1] 25 :: R)) ?_ ?_
 ·refine W.gen fun K59 hK59 => ?_
  refine W.cond hE rfl (fun hc60 => ?_) (fun hc60 => ?_)
  ·replace hq54 := iteT hc60 hq54
   refine W.region ?_
   refine vP hS hE (Gives.fld hE rfl fl51_2) rfl fun a hE => ?_
   refine vP hS hE (Gives.loadB hE 1 rfl rfl rfl ty3) rfl fun a hE => ?_
   refine WL.storeI hE hS 0 rfl [vi x1.Km] (runs_plain rfl) rfl rfl rfl ty3 rfl rfl rfl rfl ?_; clear hE hS a w; intro a w hE hS
   refine WL.nil ?_
   subst hK59
   exact ⟨x1.Km, hq54, hE.pick _ ⟨rfl, rfl, rfl, trivial⟩, hS⟩
  replace hq54 := iteF hc60 hq54
  refine W.skip ?_
  subst hK59
  exact ⟨((x1.Zones).length : Int), hq54, hE.pick _ ⟨rfl, rfl, rfl, trivial⟩, hS⟩
 clear hE hS a w; rintro a w ⟨q58, rfl, hE, hS⟩
 refine W.seq (W.region (vP hS hE (Gives.fld hE rfl fl25_1) rfl fun a hE => ?_))
 refine vP hS hE (Gives.loadB hE 2 rfl rfl rfl ty22) rfl fun a hE => ?_
 refine vP hS hE (Gives.mkfn hE (vs := [pp b53]) rfl) rfl fun a hE => ?_
 refine WL.fnq hE (SlicesIndexFuncLfareBand_v1_ok hS h0_0 rfl (r := SlicesIndexFuncLfareBand_v1 x0.Bands q58)) (runs_plain rfl) bd59 rfl rfl rfl ?_
 clear hE hS; rintro e w ⟨rfl, hS⟩; refine ⟨_, rfl, ?_⟩; clear a; intro a hE
 refine vp hS hE rfl rfl fun a hE => WL.nil ?_
 refine W.seq ?_
 refine W.seq (W.region (v2 hS hE rfl rfl rfl rfl fun a hE => WL.nil ?_))
 obtain ⟨q62, hq61, hr⟩ := bndS hr
 refine W.cut (fun a w => ∃ (q65 : Int), q65 = q62 ∧ Rep a 70 [(2, pp b51), (3, pp b52), (7, vi q65)] ∧ St w s (pc b53 #[vi q58] 3 :: pc b52 #[vi x1.Day, vi x1.At, vi x1.Km, vi x1.Age, .bool x1.Card, .slice a1_0 x1.Zones.length c1_0] 51 :: pc b51 #[.bool x0.ByKm, .slice a0_0 x0.Bands.length c0_0, vi x0.Round, .slice a0_1 x0.Rules.length c0_1] 25 :: R)) ?_ ?_
 ·refine W.gen fun K66 hK66 => ?_
  refine W.cond hE rfl (fun hc67 => ?_) (fun hc67 => ?_)
  ·replace hq61 := iteT hc67 hq61
   refine W.region ?_
   refine vP hS hE (Gives.fld hE rfl fl25_1) rfl fun a hE => ?_
   refine vP hS hE (Gives.loadB hE 2 rfl rfl rfl ty22) rfl fun a hE => ?_
   refine vP hS hE (Gives.len hE rfl sl22) rfl fun a hE => ?_
   refine v2 hS hE rfl rfl rfl rfl fun a hE => WL.nil ?_
   subst hK66
   exact ⟨w64 (((x0.Bands).length : Int) - 1), hq61, hE.pick _ ⟨rfl, rfl, rfl, trivial⟩, hS⟩
  replace hq61 := iteF hc67 hq61
  refine W.skip ?_
  subst hK66
  exact ⟨(SlicesIndexFuncLfareBand_v1 x0.Bands q58), hq61, hE.pick _ ⟨rfl, rfl, rfl, trivial⟩, hS⟩
 clear hE hS a w; rintro a w ⟨q65, rfl, hE, hS⟩
 refine W.seq (W.region (vP hS hE (Gives.fld hE rfl fl25_1) rfl fun a hE => ?_))
 refine vP hS hE (Gives.loadB hE 2 rfl rfl rfl ty22) rfl fun a hE => ?_
 refine vp hS hE rfl rfl fun a hE => ?_
 obtain ⟨x68, hx69, hr⟩ := bindS hr
 obtain ⟨hi70, hlt71, hy72⟩ := gx_some hx69
 obtain ⟨cs73, hl74, hR75, hat76⟩ := h0_0.at hy72
 subst hR75
 refine vP hS hE (Gives.idx hE (q65).toNat rfl rfl sl22 hi70 hlt71 (h0_0.aok hlt71)) rfl fun a hE => ?_
 refine vP hS hE (Gives.fld hE rfl fl40_1) rfl fun a hE => ?_
 refine vP hS hE (Gives.load1 hE rfl (fun w h => (hat76 w _ h).one rfl) ty3) rfl fun a hE => ?_
 refine vp hS hE rfl rfl fun a hE => WL.nil ?_
 refine W.seq (W.region ?_)
 replace hS := hS.vecNil 3 1
 refine vp hS hE rfl rfl fun a hE => WL.nil ?_
 refine W.seq ?_
 refine W.seq (W.region (vP hS hE (Gives.fld hE rfl fl25_3) rfl fun a hE => ?_))
 refine vP hS hE (Gives.loadB hE 3 rfl rfl rfl ty23) rfl fun a hE => ?_
 refine vP hS hE (Gives.len hE rfl sl23) rfl fun a hE => ?_
 refine vp hS hE rfl rfl fun a hE => WL.nil ?_
 obtain ⟨q79, hq78, hr⟩ := bindS hr
 refine W.cut (fun a w => ∃ (q89 : Int), ∃ (q90 : List Int), ∃ (a91 : Option Addr), ∃ (c92 : Nat), ∃ (n94 : Nat), ∃ (cs95 : List Value), (q89, q90) = q79 ∧ Ev 1 (RI .i64) s cs95 q90 ∧ q90.length = n94 ∧ Rep a 70 [(2, pp b51), (8, vi q89), (9, .slice a91 n94 c92)] ∧ St w s (vecC 3 1 a91 c92 n94 cs95 :: pc b53 #[vi q58] 3 :: pc b52 #[vi x1.Day, vi x1.At, vi x1.Km, vi x1.Age, .bool x1.Card, .slice a1_0 x1.Zones.length c1_0] 51 :: pc b51 #[.bool x0.ByKm, .slice a0_0 x0.Bands.length c0_0, vi x0.Round, .slice a0_1 x0.Rules.length c0_1] 25 :: R)) ?_ ?_
 ·refine W.block ?_
  refine W.loop (fun m a w => ∃ (rest82 : List FareRule) (k80 : Nat), ∃ (q89 : Int), ∃ (q90 : List Int), ∃ (a91 : Option Addr), ∃ (c92 : Nat), ∃ (n94 : Nat), ∃ (cs95 : List Value), rest82.length = m ∧ x0.Rules.drop k80 = rest82 ∧ FareTariffprice.loop1 x1 fu rest82 k80 q89 q90 = some q79 ∧ Ev 1 (RI .i64) s cs95 q90 ∧ q90.length = n94 ∧ Rep a 70 [(2, pp b51), (3, pp b52), (8, vi q89), (9, .slice a91 n94 c92), (36, .slice a0_1 x0.Rules.length c0_1), (37, vi ((x0.Rules).length : Int)), (38, vi ((k80 : Nat) : Int))] ∧ St w s (vecC 3 1 a91 c92 n94 cs95 :: pc b53 #[vi q58] 3 :: pc b52 #[vi x1.Day, vi x1.At, vi x1.Km, vi x1.Age, .bool x1.Card, .slice a1_0 x1.Zones.length c1_0] 51 :: pc b51 #[.bool x0.ByKm, .slice a0_0 x0.Bands.length c0_0, vi x0.Round, .slice a0_1 x0.Rules.length c0_1] 25 :: R)) (m := x0.Rules.length) ⟨x0.Rules, 0, x68.Price, [], none, 0, 0, [], rfl, rfl, hq78, (Ev.nil), (rfl), hE.pick _ ⟨rfl, rfl, rfl, rfl, rfl, rfl, rfl, trivial⟩, hS⟩ ?_
  clear hE hS a w hq78; rintro m86 a w ⟨rest82, k80, q89, q90, a91, c92, n94, cs95, rfl, hd83, hq78, h93, rfl, hE, hS⟩
  refine W.gen fun K97 hK97 => ?_
  rcases rest82 with _ | ⟨x81, rest82⟩
  ·have hlt84 := drop_nil hd83
   refine W.seq (W.region (vp hS hE rfl rfl fun a hE => WL.nil ?_))
   refine W.seq ?_
   refine W.condF hE rfl (decide_eq_false (by omega)) ?_
   subst hK97
   refine W.exit rfl ?_
   exact ⟨q89, q90, a91, c92, q90.length, cs95, Option.some.inj hq78, h93, rfl, hE.pick _ ⟨rfl, rfl, rfl, trivial⟩, hS⟩
  obtain ⟨hlt84, hx85, hd83⟩ := drop_cons hd83
  rw [FareTariffprice.loop1] at hq78
  refine W.seq (W.region (vp hS hE rfl rfl fun a hE => WL.nil ?_))
  refine W.seq ?_
  refine W.condT hE rfl (decide_eq_true (by omega)) ?_
  refine W.skip ?_
  refine W.seq ?_
  refine W.block ?_
  refine W.seq (W.region (vp hS hE rfl rfl fun a hE => ?_))
  obtain ⟨cs98, hl99, hR100, hat101⟩ := h0_1.at hx85
  obtain ⟨a102, c103, rfl, h104⟩ := hR100
  refine vP hS hE (Gives.idx hE k80 rfl rfl sl23 rfl hlt84 (h0_1.aok hlt84)) rfl fun a hE => ?_
  refine vP hS hE (Gives.loadA hE rfl (fun w h => hat101 w _ h) ty45) rfl fun a hE => ?_
  refine WL.alloc hE hS (runs_plain rfl) zr45 rfl ?_; clear hE hS a w; intro b105 a w hE hS
  refine vp hS hE rfl rfl fun a hE => ?_
  refine WL.storeI hE hS 0 rfl [vi x81.If.Kind, vi x81.If.A, vi x81.If.B, .slice a102 x81.If.Kids.length c103, vi x81.Do, vi x81.N, .bool x81.Stop] (runs_plain rfl) rfl rfl rfl ty45 rfl rfl rfl rfl ?_; clear hE hS a w; intro a w hE hS
  refine WL.nil ?_
  refine W.seq ?_
  refine W.seq (W.region (vP hS hE (Gives.fld hE rfl fl45_0) rfl fun a hE => ?_))
  refine vP hS hE (Gives.loadA (cs := [vi x81.If.Kind, vi x81.If.A, vi x81.If.B, .slice a102 x81.If.Kids.length c103]) hE rfl (fun w h => (St.seesAt h 0 rfl).part 0 4) ty43) rfl fun a hE => ?_
  refine vP hS hE (Gives.loadBA hE 3 rfl rfl ty51) rfl fun a hE => ?_
  obtain ⟨q106, hq107, hq78⟩ := bindS hq78
  have hc_ := FareCondholds_ok hS h104 h1_0 hq107
  refine WL.fnq hE (hc_) (runs_plain rfl) bd61 rfl rfl rfl ?_
  clear hE hS hc_; rintro e w ⟨rfl, hS⟩; refine ⟨_, rfl, ?_⟩; clear a; intro a hE
  refine vp hS hE rfl rfl fun a hE => WL.nil ?_
  refine W.cond hE rfl (fun hc108 => ?_) (fun hc108 => ?_)
  ·replace hq78 := iteT hc108 hq78
   refine W.exit rfl ?_
   refine W.region ?_
   refine vP hS hE (Gives.inc hE rfl (by have := h0_1.small; omega)) rfl fun a hE => ?_
   refine vp hS hE rfl rfl fun a hE => WL.nil ?_
   replace hS := hS.tail
   subst hK97
   exact ⟨rest82.length, Nat.lt_succ_self _, rest82, k80 + 1, q89, q90, a91, c92, q90.length, cs95, rfl, hd83, hq78, h93, rfl, hE.pick _ ⟨rfl, rfl, rfl, rfl, rfl, rfl, rfl, trivial⟩, hS⟩
  replace hq78 := iteF hc108 hq78
  refine W.skip ?_
  refine W.seq (W.region (v2 hS hE rfl rfl rfl rfl fun a hE => ?_))
  refine WL.lit hE hS (e := 3) (es := 1) (vs := [(0, vi ((k80 : Nat) : Int))]) (cs := [vi ((k80 : Nat) : Int)]) (runs_plain rfl) rfl (by kernel_rfl) rfl ?_; clear hE hS a w; intro b109 a w hE hS
  obtain ⟨x110, hx111, hq78⟩ := bindS hq78
  refine WL.appD hE hS 1 (m := 1) (runs_plain rfl) rfl rfl rfl ap47 rfl h93 rfl (xs := [((k80 : Nat) : Int)]) (Ev.cons (c1 := [vi ((k80 : Nat) : Int)]) rfl rfl (Ev.nil)) rfl rfl hx111 rfl ?_; clear hE hS a w; intro a112 c113 cs114 a w h115 hE hS
  refine vp hS hE rfl rfl fun a hE => WL.nil ?_
  refine W.seq (W.region (vP hS hE (Gives.loadBA hE 0 rfl rfl ty45) rfl fun a hE => ?_))
  refine vp hS hE rfl rfl fun a hE => ?_
  refine WL.fnq hE (FareRulechange_ok hS h104 rfl (r := FareRulechange x81 q89)) (runs_plain rfl) bd62 rfl rfl rfl ?_
  clear hE hS; rintro e w ⟨rfl, hS⟩; refine ⟨_, rfl, ?_⟩; clear a; intro a hE
  refine vp hS hE rfl rfl fun a hE => WL.nil ?_
  refine W.seq (W.region (vP hS hE (Gives.fld hE rfl fl45_3) rfl fun a hE => ?_))
  refine vP hS hE (Gives.loadB hE 0 rfl rfl rfl ty4) rfl fun a hE => WL.nil ?_
  refine W.cond hE rfl (fun hc116 => ?_) (fun hc116 => ?_)
  ·replace hq78 := iteT hc116 hq78
   subst hK97
   refine W.exit rfl ?_
   replace hS := hS.tail
   exact ⟨(FareRulechange x81 q89), x110, a112, c113, x110.length, cs114, Option.some.inj hq78, h115, (rfl), hE.pick _ ⟨rfl, rfl, rfl, trivial⟩, hS⟩
  replace hq78 := iteF hc116 hq78
  refine W.skip ?_
  refine W.region ?_
  refine vP hS hE (Gives.inc hE rfl (by have := h0_1.small; omega)) rfl fun a hE => ?_
  refine vp hS hE rfl rfl fun a hE => WL.nil ?_
  replace hS := hS.tail
  subst hK97
  exact ⟨rest82.length, Nat.lt_succ_self _, rest82, k80 + 1, (FareRulechange x81 q89), x110, a112, c113, x110.length, cs114, rfl, hd83, hq78, h115, (rfl), hE.pick _ ⟨rfl, rfl, rfl, rfl, rfl, rfl, rfl, trivial⟩, hS⟩
 clear hE hS a w; rintro a w ⟨q89, q90, a91, c92, n94, cs95, rfl, h93, rfl, hE, hS⟩
 dsimp only at hr
 refine W.seq ?_
 refine W.regionQ (C := fun w => St w s (vecC 3 1 a91 c92 q90.length cs95 :: pc b53 #[vi q58] 3 :: pc b52 #[vi x1.Day, vi x1.At, vi x1.Km, vi x1.Age, .bool x1.Card, .slice a1_0 x1.Zones.length c1_0] 51 :: pc b51 #[.bool x0.ByKm, .slice a0_0 x0.Bands.length c0_0, vi x0.Round, .slice a0_1 x0.Rules.length c0_1] 25 :: R)) mixed (by kernel_rfl) hS.drew ?_
 refine qP hE (Gives.p hE rfl) rfl fun a hE => ?_
 refine qP hE (Gives.fld hE rfl fl25_2) rfl fun a hE => ?_
 refine qP hE (Gives.loadB hE 3 rfl rfl rfl ty3) rfl fun a hE => ?_
 refine qP hE (Gives.p hE rfl) rfl fun a hE => ?_
 refine qP hE (Gives.p hE rfl) rfl fun a hE => ?_
 refine qP hE (Gives.fld hE rfl fl25_2) rfl fun a hE => ?_
 refine qP hE (Gives.loadB hE 3 rfl rfl rfl ty3) rfl fun a hE => ?_
 obtain ⟨x117, hx118, hr⟩ := bindS hr
 refine qP hE (Gives.dv hE rfl rfl hx118) rfl fun a hE => ?_
 refine qP hE (Gives.fld hE rfl fl25_2) rfl fun a hE => ?_
 refine qP hE (Gives.loadB hE 3 rfl rfl rfl ty3) rfl fun a hE => ?_
 refine qP hE (Gives.p hE rfl) rfl fun a hE => ?_
 refine qP hE (Gives.p hE rfl) rfl fun a hE => ?_
 refine qP hE (Gives.p hE rfl) rfl fun a hE => ?_
 refine qP hE (Gives.p hE rfl) rfl fun a hE => ?_
 refine QL.nil ?_; clear hS w; intro w hS
 refine W.ret ?_
 refine finG (fn := Tryz.f36) (rs := [.tmp 4, .tmp 5]) (vs := [_, _]) hE rfl ⟨rfl, rfl, trivial⟩ ?_
 obtain rfl := Option.some.inj hr
 replace hS := hS.dropAt 1
 replace hS := hS.dropAt 1
 replace hS := hS.dropAt 1
 exact ⟨a91, c92, q90.length, cs95, rfl, h93, rfl, hS⟩
set_option maxHeartbeats 8000000 in
theorem FarePrice_ok {fu : Nat}  {w : World} {s : Sg} {R : List HP} {x0 : FareTariff} {a0_0 : Option Addr} {c0_0 : Nat} {a0_1 : Option Addr} {c0_1 : Nat} {x1 : FareTrip} {a1_0 : Option Addr} {c1_0 : Nat} (hS : St w s (R)) (h0_0 : Sl 2 RFareBand s a0_0 c0_0 x0.Bands) (h0_1 : Sl 7 RFareRule s a0_1 c0_1 x0.Rules) (h1_0 : Sl 1 (RI .i64) s a1_0 c1_0 x1.Zones) {r : Int × (List Int) × Int} (hr : FarePrice fu x0 x1 = some r) :
  Calls Tryz.prog 16 [.agg (List.toArray [.bool x0.ByKm, .slice a0_0 x0.Bands.length c0_0, vi x0.Round, .slice a0_1 x0.Rules.length c0_1]), .agg (List.toArray [vi x1.Day, vi x1.At, vi x1.Km, vi x1.Age, .bool x1.Card, .slice a1_0 x1.Zones.length c1_0])].toArray w (fun e w => ∃ (a1 : Option Addr) (c1 n1 : Nat) (cs1 : List Value), e = .returned (.tuple #[vi r.1, .slice a1 n1 c1, vi r.2.2]) ∧ Ev 1 (RI .i64) s cs1 r.2.1 ∧ r.2.1.length = n1 ∧ St w s (vecC 3 1 a1 c1 n1 cs1 :: R)) := by
 refine enter Tryz.func16 rfl rfl rfl fun a hE => ?_
 rw [FarePrice] at hr
 refine W.seq (W.region ?_)
 refine WL.box hE hS (runs_plain rfl) rfl rfl rfl ?_; clear hE hS a w; intro b51 a w hE hS
 refine WL.box hE hS (runs_plain rfl) rfl rfl rfl ?_; clear hE hS a w; intro b52 a w hE hS
 refine v2 hS hE rfl rfl rfl rfl fun a hE => ?_
 refine vp hS hE rfl rfl fun a hE => WL.nil ?_
 refine W.seq ?_
 refine W.seq (W.region (vP hS hE (Gives.loadBA hE 1 rfl rfl ty25) rfl fun a hE => ?_))
 obtain ⟨q53, hq54, hr⟩ := bindS hr
 have hc_ := FareCheckTariff_ok hS h0_0 h0_1 hq54
 refine WL.fnq hE (hc_) (runs_plain rfl) bd12 rfl rfl rfl ?_
 clear hE hS hc_; rintro e w ⟨rfl, hS⟩; refine ⟨_, rfl, ?_⟩; clear a; intro a hE
 refine vp hS hE rfl rfl fun a hE => WL.nil ?_
 refine W.seq (W.region (v2 hS hE rfl rfl rfl rfl fun a hE => WL.nil ?_))
 refine W.cond hE rfl (fun hc55 => ?_) (fun hc55 => ?_)
 ·replace hr := iteT hc55 hr
  refine W.seq (W.region (v2 hS hE rfl rfl rfl rfl fun a hE => ?_))
  refine v2 hS hE rfl rfl rfl rfl fun a hE => WL.nil ?_
  refine W.ret ?_
  replace hS := hS.vecNil 3 1
  refine finG (fn := Tryz.f16) (rs := [.tmp 4, .tmp 5, .tmp 6]) (vs := [_, _, _]) hE rfl ⟨rfl, rfl, rfl, trivial⟩ ?_
  obtain rfl := Option.some.inj hr
  replace hS := hS.dropAt 1
  replace hS := hS.dropAt 1
  exact ⟨none, 0, 0, [], rfl, (Ev.nil), (rfl), hS⟩
 replace hr := iteF hc55 hr
 refine W.skip ?_
 refine W.seq ?_
 refine W.seq (W.region (vP hS hE (Gives.loadBA hE 0 rfl rfl ty51) rfl fun a hE => ?_))
 obtain ⟨q57, hq58, hr⟩ := bindS hr
 have hc_ := FareCheckTrip_ok hS h1_0 hq58
 refine WL.fnq hE (hc_) (runs_plain rfl) bd35 rfl rfl rfl ?_
 clear hE hS hc_; rintro e w ⟨rfl, hS⟩; refine ⟨_, rfl, ?_⟩; clear a; intro a hE
 refine vp hS hE rfl rfl fun a hE => WL.nil ?_
 refine W.seq (W.region (v2 hS hE rfl rfl rfl rfl fun a hE => WL.nil ?_))
 refine W.cond hE rfl (fun hc59 => ?_) (fun hc59 => ?_)
 ·replace hr := iteT hc59 hr
  refine W.seq (W.region (v2 hS hE rfl rfl rfl rfl fun a hE => ?_))
  refine v2 hS hE rfl rfl rfl rfl fun a hE => WL.nil ?_
  refine W.ret ?_
  replace hS := hS.vecNil 3 1
  refine finG (fn := Tryz.f16) (rs := [.tmp 4, .tmp 5, .tmp 6]) (vs := [_, _, _]) hE rfl ⟨rfl, rfl, rfl, trivial⟩ ?_
  obtain rfl := Option.some.inj hr
  replace hS := hS.dropAt 1
  replace hS := hS.dropAt 1
  exact ⟨none, 0, 0, [], rfl, (Ev.nil), (rfl), hS⟩
 replace hr := iteF hc59 hr
 refine W.skip ?_
 refine W.seq (W.region (vP hS hE (Gives.loadBA hE 1 rfl rfl ty25) rfl fun a hE => ?_))
 refine vP hS hE (Gives.loadBA hE 0 rfl rfl ty51) rfl fun a hE => ?_
 obtain ⟨q61, hq62, hr⟩ := bindS hr
 have hc_ := FareTariffprice_ok hS h0_0 h0_1 h1_0 hq62
 refine WL.fnq hE (hc_) (runs_plain rfl) bd36 rfl rfl rfl ?_
 clear hE hS hc_; rintro e w ⟨a63, c64, n65, cs66, rfl, h67, rfl, hS⟩; refine ⟨_, rfl, ?_⟩; clear a; intro a hE
 refine v2 hS hE rfl rfl rfl rfl fun a hE => ?_
 refine v2 hS hE rfl rfl rfl rfl fun a hE => ?_
 refine vp hS hE rfl rfl fun a hE => WL.nil ?_
 refine W.seq (W.region (v2 hS hE rfl rfl rfl rfl fun a hE => ?_))
 refine v2 hS hE rfl rfl rfl rfl fun a hE => ?_
 refine vp hS hE rfl rfl fun a hE => WL.nil ?_
 refine W.ret ?_
 refine finG (fn := Tryz.f16) (rs := [.tmp 4, .tmp 5, .tmp 6]) (vs := [_, _, _]) hE rfl ⟨rfl, rfl, rfl, trivial⟩ ?_
 obtain rfl := Option.some.inj hr
 replace hS := hS.dropAt 1
 replace hS := hS.dropAt 1
 exact ⟨a63, c64, q61.2.length, cs66, rfl, h67, rfl, hS⟩
set_option maxHeartbeats 8000000 in
theorem SlicesEqualLint_ok  {w : World} {s : Sg} {R : List HP} {x0 : List Int} {a0 : Option Addr} {c0 : Nat} {x1 : List Int} {a1 : Option Addr} {c1 : Nat} (hS : St w s (R)) (h0 : Sl 1 (RI .i64) s a0 c0 x0) (h1 : Sl 1 (RI .i64) s a1 c1 x1) {r : Bool} (hr : SlicesEqualLint x0 x1 = some r) :
  Calls Tryz.prog 17 [.slice a0 x0.length c0, .slice a1 x1.length c1].toArray w (fun e w => e = .returned (.bool r) ∧ St w s (R)) := by
 refine enter Tryz.func17 rfl rfl rfl fun a hE => ?_
 rw [SlicesEqualLint] at hr
 refine W.seq (W.region (vp hS hE rfl rfl fun a hE => WL.nil ?_))
 refine W.seq ?_
 refine W.seq (W.region (vp hS hE rfl rfl fun a hE => ?_))
 refine vP hS hE (Gives.len hE rfl sl47) rfl fun a hE => ?_
 refine vp hS hE rfl rfl fun a hE => ?_
 refine vP hS hE (Gives.len hE rfl sl47) rfl fun a hE => ?_
 refine vp hS hE rfl rfl fun a hE => WL.nil ?_
 refine W.cond hE rfl (fun hc51 => ?_) (fun hc51 => ?_)
 ·replace hr := iteT hc51 hr
  refine W.seq (W.region (vp hS hE rfl rfl fun a hE => WL.nil ?_))
  refine W.ret ?_
  refine finG (fn := Tryz.f17) (rs := [.tmp 4]) (vs := [_]) hE rfl ⟨rfl, trivial⟩ ?_
  obtain rfl := Option.some.inj hr
  exact ⟨rfl, hS⟩
 replace hr := iteF hc51 hr
 refine W.skip ?_
 refine W.seq ?_
 refine W.seq (W.region (vp hS hE rfl rfl fun a hE => ?_))
 refine vP hS hE (Gives.len hE rfl sl47) rfl fun a hE => ?_
 refine vp hS hE rfl rfl fun a hE => WL.nil ?_
 obtain ⟨q53, hq52, hr⟩ := bindS hr
 refine W.cut (fun a w => (.next ()) = q53 ∧ Rep a 26 [] ∧ St w s (R)) ?_ ?_
 ·refine W.block ?_
  refine W.loop (fun m a w => ∃ (rest56 : List Int) (k54 : Nat), rest56.length = m ∧ x0.drop k54 = rest56 ∧ SlicesEqualLint.loop1 x1 rest56 k54 = some q53 ∧ Rep a 26 [(0, .slice a0 x0.length c0), (1, .slice a1 x1.length c1), (12, vi ((x0).length : Int)), (13, vi ((k54 : Nat) : Int))] ∧ St w s (R)) (m := x0.length) ⟨x0, 0, rfl, rfl, hq52, hE.pick _ ⟨rfl, rfl, rfl, rfl, trivial⟩, hS⟩ ?_
  clear hE hS a w hq52; rintro m60 a w ⟨rest56, k54, rfl, hd57, hq52, hE, hS⟩
  refine W.gen fun K63 hK63 => ?_
  rcases rest56 with _ | ⟨x55, rest56⟩
  ·have hlt58 := drop_nil hd57
   refine W.seq (W.region (vp hS hE rfl rfl fun a hE => WL.nil ?_))
   refine W.seq ?_
   refine W.condF hE rfl (decide_eq_false (by omega)) ?_
   subst hK63
   refine W.exit rfl ?_
   exact ⟨Option.some.inj hq52, hE.pick _ trivial, hS⟩
  obtain ⟨hlt58, hx59, hd57⟩ := drop_cons hd57
  rw [SlicesEqualLint.loop1] at hq52
  refine W.seq (W.region (vp hS hE rfl rfl fun a hE => WL.nil ?_))
  refine W.seq ?_
  refine W.condT hE rfl (decide_eq_true (by omega)) ?_
  refine W.skip ?_
  refine W.seq ?_
  refine W.block ?_
  refine W.seq (W.region (v2 hS hE rfl rfl rfl rfl fun a hE => WL.nil ?_))
  refine W.seq ?_
  refine W.regionQ (C := fun w => St w s (R)) mixed (by kernel_rfl) hS.drew ?_
  refine qP hE (Gives.p hE rfl) rfl fun a hE => ?_
  refine qP hE (Gives.p hE rfl) rfl fun a hE => ?_
  obtain ⟨cs64, hl65, hR66, hat67⟩ := h0.at hx59
  subst hR66
  refine qP hE (Gives.idx hE k54 rfl rfl sl47 rfl hlt58 (h0.aok hlt58)) rfl fun a hE => ?_
  refine qP hE (Gives.load1 hE rfl (fun w h => hat67 w _ h) ty3) rfl fun a hE => ?_
  refine qP hE (Gives.p hE rfl) rfl fun a hE => ?_
  refine qP hE (Gives.p hE rfl) rfl fun a hE => ?_
  obtain ⟨x68, hx69, hq52⟩ := bindS hq52
  obtain ⟨hi70, hlt71, hy72⟩ := gx_some hx69
  obtain ⟨cs73, hl74, hR75, hat76⟩ := h1.at hy72
  subst hR75
  refine qP hE (Gives.idx hE (((k54 : Nat) : Int)).toNat rfl rfl sl47 hi70 hlt71 (h1.aok hlt71)) rfl fun a hE => ?_
  refine qP hE (Gives.load1 hE rfl (fun w h => hat76 w _ h) ty3) rfl fun a hE => ?_
  refine qP hE (Gives.p hE rfl) rfl fun a hE => ?_
  refine QL.nil ?_; clear hS w; intro w hS
  refine W.cond hE rfl (fun hc77 => ?_) (fun hc77 => ?_)
  ·replace hq52 := iteT hc77 hq52
   refine W.seq (W.region (vp hS hE rfl rfl fun a hE => WL.nil ?_))
   refine W.ret ?_
   subst hK63
   rw [← Option.some.inj hq52] at hr
   dsimp only at hr
   refine finG (fn := Tryz.f17) (rs := [.tmp 4]) (vs := [_]) hE rfl ⟨rfl, trivial⟩ ?_
   obtain rfl := Option.some.inj hr
   exact ⟨rfl, hS⟩
  replace hq52 := iteF hc77 hq52
  refine W.skip ?_
  refine W.region ?_
  refine vP hS hE (Gives.inc hE rfl (by have := h0.small; omega)) rfl fun a hE => ?_
  refine vp hS hE rfl rfl fun a hE => WL.nil ?_
  subst hK63
  exact ⟨rest56.length, Nat.lt_succ_self _, rest56, k54 + 1, rfl, hd57, hq52, hE.pick _ ⟨rfl, rfl, rfl, rfl, trivial⟩, hS⟩
 clear hE hS a w; rintro a w ⟨rfl, hE, hS⟩
 dsimp only at hr
 refine W.seq (W.region (vp hS hE rfl rfl fun a hE => WL.nil ?_))
 refine W.ret ?_
 refine finG (fn := Tryz.f17) (rs := [.tmp 4]) (vs := [_]) hE rfl ⟨rfl, trivial⟩ ?_
 obtain rfl := Option.some.inj hr
 exact ⟨rfl, hS⟩
set_option maxHeartbeats 8000000 in
theorem Fishlaw2fares_ok {fu : Nat}  {w : World} {s : Sg} {R : List HP}  (hS : St w s (R))  {r : Bool} (hr : Fishlaw2fares fu = some r) :
  Calls Tryz.prog 7 [].toArray w (fun e w => e = .returned (.bool r) ∧ St w s (R)) := by
 refine enter Tryz.func7 rfl rfl rfl fun a hE => ?_
 rw [Fishlaw2fares] at hr
 refine W.seq (W.region (vp hS hE rfl rfl fun a hE => WL.nil ?_))
 refine W.seq (W.region (vP hS hE (Gives.build hE (vs := [(0, vi 3), (1, vi 500)]) [vi 3, vi 500] rfl (by kernel_rfl)) rfl fun a hE => ?_))
 refine WL.lit hE hS (e := 40) (es := 2) (vs := [(0, .agg (List.toArray [vi 3, vi 500]))]) (cs := [vi 3, vi 500]) (runs_plain rfl) rfl (by kernel_rfl) rfl ?_; clear hE hS a w; intro b51 a w hE hS
 replace hS := hS.ptVec (es := 2) (m := 1) rfl (by decide)
 have h53 : Ev 2 RFareBand s [vi 3, vi 500] [(FareBand.mk 3 500)] := (Ev.cons (c1 := [vi 3, vi 500]) rfl rfl (Ev.nil))
 have hF := hS.fixD RFareBand.mono 0 rfl h53 (rfl); clear hS; obtain ⟨s54, hle55, hS, h56⟩ := hF
 refine vP hS hE (Gives.build hE (vs := [(0, vi 2), (2, vi 14)]) [vi 2, vi 0, vi 14, .slice none 0 0] rfl (by kernel_rfl)) rfl fun a hE => ?_
 refine vP hS hE (Gives.build hE (vs := [(0, .agg (List.toArray [vi 2, vi 0, vi 14, .slice none 0 0])), (1, vi 1), (2, vi 50)]) [vi 2, vi 0, vi 14, .slice none 0 0, vi 1, vi 50, .bool false] rfl (by kernel_rfl)) rfl fun a hE => ?_
 refine WL.lit hE hS (e := 45) (es := 7) (vs := [(0, .agg (List.toArray [vi 2, vi 0, vi 14, .slice none 0 0, vi 1, vi 50, .bool false]))]) (cs := [vi 2, vi 0, vi 14, .slice none 0 0, vi 1, vi 50, .bool false]) (runs_plain rfl) rfl (by kernel_rfl) rfl ?_; clear hE hS a w; intro b57 a w hE hS
 replace hS := hS.ptVec (es := 7) (m := 1) rfl (by decide)
 have h59 : Ev 7 RFareRule s54 [vi 2, vi 0, vi 14, .slice none 0 0, vi 1, vi 50, .bool false] [(FareRule.mk (FareCond.mk 2 0 14 []) 1 50 false)] := (Ev.cons (c1 := [vi 2, vi 0, vi 14, .slice none 0 0, vi 1, vi 50, .bool false]) ⟨_, _, rfl, Sl.nil⟩ rfl (Ev.nil))
 have hF := hS.fixD RFareRule.mono 0 rfl h59 (rfl); clear hS; obtain ⟨s60, hle61, hS, h62⟩ := hF
 replace h56 := Sl.mono RFareBand.mono hle61 h56
 refine vP hS hE (Gives.build hE (vs := [(1, .slice (some ⟨b51, 0, none⟩) 1 1), (2, vi 50), (3, .slice (some ⟨b57, 0, none⟩) 1 1)]) [.bool false, .slice (some ⟨b51, 0, none⟩) 1 1, vi 50, .slice (some ⟨b57, 0, none⟩) 1 1] rfl (by kernel_rfl)) rfl fun a hE => ?_
 refine WL.alloc hE hS (runs_plain rfl) zr25 rfl ?_; clear hE hS a w; intro b63 a w hE hS
 refine WL.storeI hE hS 0 rfl [.bool false, .slice (some ⟨b51, 0, none⟩) 1 1, vi 50, .slice (some ⟨b57, 0, none⟩) 1 1] (runs_plain rfl) rfl rfl rfl ty25 rfl rfl rfl rfl ?_; clear hE hS a w; intro a w hE hS
 refine WL.nil ?_
 refine W.seq (W.region (vP hS hE (Gives.loadBA hE 0 rfl rfl ty25) rfl fun a hE => ?_))
 refine WL.lit hE hS (e := 3) (es := 1) (vs := [(0, vi 1), (1, vi 2)]) (cs := [vi 1, vi 2]) (runs_plain rfl) rfl (by kernel_rfl) rfl ?_; clear hE hS a w; intro b64 a w hE hS
 replace hS := hS.ptVec (es := 1) (m := 2) rfl (by decide)
 have h66 : Ev 1 (RI .i64) s60 [vi 1, vi 2] [1, 2] := (Ev.cons (c1 := [vi 1]) rfl rfl (Ev.cons (c1 := [vi 2]) rfl rfl (Ev.nil)))
 have hF := hS.fixD RI.mono 0 rfl h66 (rfl); clear hS; obtain ⟨s67, hle68, hS, h69⟩ := hF
 replace h56 := Sl.mono RFareBand.mono hle68 h56
 replace h62 := Sl.mono RFareRule.mono hle68 h62
 refine vP hS hE (Gives.build hE (vs := [(3, vi 10), (5, .slice (some ⟨b64, 0, none⟩) 2 2)]) [vi 0, vi 0, vi 0, vi 10, .bool false, .slice (some ⟨b64, 0, none⟩) 2 2] rfl (by kernel_rfl)) rfl fun a hE => ?_
 obtain ⟨q70, hq71, hr⟩ := bindS hr
 have hc_ := FarePrice_ok (x0 := (FareTariff.mk false [(FareBand.mk 3 500)] 50 [(FareRule.mk (FareCond.mk 2 0 14 []) 1 50 false)])) (x1 := (FareTrip.mk 0 0 0 10 false [1, 2])) hS h56 h62 h69 hq71
 refine WL.fnq hE (hc_) (runs_plain rfl) bd16 rfl rfl rfl ?_
 clear hE hS hc_; rintro e w ⟨a72, c73, n74, cs75, rfl, h76, rfl, hS⟩; refine ⟨_, rfl, ?_⟩; clear a; intro a hE
 refine v2 hS hE rfl rfl rfl rfl fun a hE => ?_
 refine v2 hS hE rfl rfl rfl rfl fun a hE => ?_
 refine v2 hS hE rfl rfl rfl rfl fun a hE => ?_
 refine vp hS hE rfl rfl fun a hE => WL.nil ?_
 refine W.seq ?_
 obtain ⟨q79, hq78, hr⟩ := bindS hr
 refine W.cut (fun a w => ∃ (q82 : Bool), ∃ (s80 : Sg), s67.Le s80 ∧ q82 = q79 ∧ Rep a 30 [(0, .bool q82)] ∧ St w s80 (pc b63 #[.bool false, .slice (some ⟨b51, 0, none⟩) 1 1, vi 50, .slice (some ⟨b57, 0, none⟩) 1 1] 25 :: R)) ?_ ?_
 ·refine W.gen fun K83 hK83 => ?_
  refine W.region ?_
  refine v2 hS hE rfl rfl rfl rfl fun a hE => ?_
  refine vp hS hE rfl rfl fun a hE => ?_
  rcases Bool.eq_false_or_eq_true (q70.2.2 == 0) with hg84 | hg84
  ·replace hq78 := iteT hg84 hq78
   refine WL.vS hS hE (runs_if hE rfl rfl rfl hg84) (Gives.p hE rfl) rfl fun a hE => ?_
   refine WL.vS hS hE (runs_if hE rfl rfl rfl hg84) (Gives.p hE rfl) rfl fun a hE => ?_
   refine vP hS hE (Gives.pickT hE rfl hg84 rfl) rfl fun a hE => ?_
   refine vp hS hE rfl rfl fun a hE => ?_
   rcases Bool.eq_false_or_eq_true (q70.1 == 250) with hg85 | hg85
   ·replace hq78 := iteT hg85 hq78
    refine WL.vS hS hE (runs_if hE rfl rfl rfl hg85) (Gives.p hE rfl) rfl fun a hE => ?_
    refine WL.lit hE hS (e := 3) (es := 1) (vs := [(0, vi 0)]) (cs := [vi 0]) (runs_if hE rfl rfl rfl hg85) rfl (by kernel_rfl) rfl ?_; clear hE hS a w; intro b86 a w hE hS
    replace hS := hS.ptVec (es := 1) (m := 1) rfl (by decide)
    have h88 : Ev 1 (RI .i64) s67 [vi 0] [0] := (Ev.cons (c1 := [vi 0]) rfl rfl (Ev.nil))
    have hF := hS.fixD RI.mono 0 rfl h88 (rfl); clear hS; obtain ⟨s89, hle90, hS, h91⟩ := hF
    replace h56 := Sl.mono RFareBand.mono hle90 h56
    replace h62 := Sl.mono RFareRule.mono hle90 h62
    replace h69 := Sl.mono RI.mono hle90 h69
    replace h76 := Ev.mono RI.mono hle90 h76
    obtain ⟨q92, hq93, hq78⟩ := bindS hq78
    have hF := hS.lendV RI.mono 0 rfl h76 rfl; clear hS; obtain ⟨t94, hle95, hS, hs96, bk97⟩ := hF
    have hc_ := SlicesEqualLint_ok hS hs96 (Sl.mono RI.mono hle95 h91) hq93
    refine WL.fnq hE (hc_) (runs_if hE rfl rfl rfl hg85) bd17 rfl rfl rfl ?_
    clear hE hS hc_; rintro e w ⟨rfl, hS⟩; refine ⟨_, rfl, ?_⟩; clear a; intro a hE
    replace hS := bk97 _ _ hS
    refine vP hS hE (Gives.pickT hE rfl hg85 rfl) rfl fun a hE => ?_
    refine vp hS hE rfl rfl fun a hE => WL.nil ?_
    replace hS := hS.tail
    subst hK83
    exact ⟨q92, s89, hle90, Option.some.inj hq78, hE.pick _ ⟨rfl, trivial⟩, hS⟩
   replace hq78 := iteF hg85 hq78
   refine nO hE rfl rfl rfl (by rw [hg85]; decide) rfl fun a hE => ?_
   refine nO hE rfl rfl rfl (by rw [hg85]; decide) rfl fun a hE => ?_
   refine nO hE rfl rfl rfl (by rw [hg85]; decide) rfl fun a hE => ?_
   refine vP hS hE (Gives.pickF hE rfl hg85 rfl) rfl fun a hE => ?_
   refine vp hS hE rfl rfl fun a hE => WL.nil ?_
   replace hS := hS.tail
   subst hK83
   exact ⟨false, s67, (Sg.Le.refl _), Option.some.inj hq78, hE.pick _ ⟨rfl, trivial⟩, hS⟩
  replace hq78 := iteF hg84 hq78
  refine nO hE rfl rfl rfl (by rw [hg84]; decide) rfl fun a hE => ?_
  refine nO hE rfl rfl rfl (by rw [hg84]; decide) rfl fun a hE => ?_
  refine vP hS hE (Gives.pickF hE rfl hg84 rfl) rfl fun a hE => ?_
  refine vp hS hE rfl rfl fun a hE => ?_
  refine nO hE rfl rfl rfl (by decide) rfl fun a hE => ?_
  refine nO hE rfl rfl rfl (by decide) rfl fun a hE => ?_
  refine nO hE rfl rfl rfl (by decide) rfl fun a hE => ?_
  refine vP hS hE (Gives.pickF hE rfl rfl rfl) rfl fun a hE => ?_
  refine vp hS hE rfl rfl fun a hE => WL.nil ?_
  replace hS := hS.tail
  subst hK83
  exact ⟨false, s67, (Sg.Le.refl _), Option.some.inj hq78, hE.pick _ ⟨rfl, trivial⟩, hS⟩
 clear hE hS a w; rintro a w ⟨q82, s80, hle81, rfl, hE, hS⟩
 replace h56 := Sl.mono RFareBand.mono hle81 h56
 replace h62 := Sl.mono RFareRule.mono hle81 h62
 refine W.ret ?_
 refine finG (fn := Tryz.f7) (rs := [.tmp 0]) (vs := [_]) hE rfl ⟨rfl, trivial⟩ ?_
 obtain rfl := Option.some.inj hr
 replace hS := hS.tail
 exact ⟨rfl, (hS.down (Sg.Le.trans (Sg.Le.trans (Sg.Le.trans hle55 hle61) hle68) hle81))⟩
set_option maxHeartbeats 8000000 in
theorem SlicesEqualLfareBand_ok  {w : World} {s : Sg} {R : List HP} {x0 : List FareBand} {a0 : Option Addr} {c0 : Nat} {x1 : List FareBand} {a1 : Option Addr} {c1 : Nat} (hS : St w s (R)) (h0 : Sl 2 RFareBand s a0 c0 x0) (h1 : Sl 2 RFareBand s a1 c1 x1) {r : Bool} (hr : SlicesEqualLfareBand x0 x1 = some r) :
  Calls Tryz.prog 24 [.slice a0 x0.length c0, .slice a1 x1.length c1].toArray w (fun e w => e = .returned (.bool r) ∧ St w s (R)) := by
 refine enter Tryz.func24 rfl rfl rfl fun a hE => ?_
 rw [SlicesEqualLfareBand] at hr
 refine W.seq (W.region (vp hS hE rfl rfl fun a hE => WL.nil ?_))
 refine W.seq ?_
 refine W.seq (W.region (vp hS hE rfl rfl fun a hE => ?_))
 refine vP hS hE (Gives.len hE rfl sl22) rfl fun a hE => ?_
 refine vp hS hE rfl rfl fun a hE => ?_
 refine vP hS hE (Gives.len hE rfl sl22) rfl fun a hE => ?_
 refine vp hS hE rfl rfl fun a hE => WL.nil ?_
 refine W.cond hE rfl (fun hc51 => ?_) (fun hc51 => ?_)
 ·replace hr := iteT hc51 hr
  refine W.seq (W.region (vp hS hE rfl rfl fun a hE => WL.nil ?_))
  refine W.ret ?_
  refine finG (fn := Tryz.f24) (rs := [.tmp 4]) (vs := [_]) hE rfl ⟨rfl, trivial⟩ ?_
  obtain rfl := Option.some.inj hr
  exact ⟨rfl, hS⟩
 replace hr := iteF hc51 hr
 refine W.skip ?_
 refine W.seq ?_
 refine W.seq (W.region (vp hS hE rfl rfl fun a hE => ?_))
 refine vP hS hE (Gives.len hE rfl sl22) rfl fun a hE => ?_
 refine vp hS hE rfl rfl fun a hE => WL.nil ?_
 obtain ⟨q53, hq52, hr⟩ := bindS hr
 refine W.cut (fun a w => (.next ()) = q53 ∧ Rep a 26 [] ∧ St w s (R)) ?_ ?_
 ·refine W.block ?_
  refine W.loop (fun m a w => ∃ (rest56 : List FareBand) (k54 : Nat), rest56.length = m ∧ x0.drop k54 = rest56 ∧ SlicesEqualLfareBand.loop1 x1 rest56 k54 = some q53 ∧ Rep a 26 [(0, .slice a0 x0.length c0), (1, .slice a1 x1.length c1), (12, vi ((x0).length : Int)), (13, vi ((k54 : Nat) : Int))] ∧ St w s (R)) (m := x0.length) ⟨x0, 0, rfl, rfl, hq52, hE.pick _ ⟨rfl, rfl, rfl, rfl, trivial⟩, hS⟩ ?_
  clear hE hS a w hq52; rintro m60 a w ⟨rest56, k54, rfl, hd57, hq52, hE, hS⟩
  refine W.gen fun K63 hK63 => ?_
  rcases rest56 with _ | ⟨x55, rest56⟩
  ·have hlt58 := drop_nil hd57
   refine W.seq (W.region (vp hS hE rfl rfl fun a hE => WL.nil ?_))
   refine W.seq ?_
   refine W.condF hE rfl (decide_eq_false (by omega)) ?_
   subst hK63
   refine W.exit rfl ?_
   exact ⟨Option.some.inj hq52, hE.pick _ trivial, hS⟩
  obtain ⟨hlt58, hx59, hd57⟩ := drop_cons hd57
  rw [SlicesEqualLfareBand.loop1] at hq52
  refine W.seq (W.region (vp hS hE rfl rfl fun a hE => WL.nil ?_))
  refine W.seq ?_
  refine W.condT hE rfl (decide_eq_true (by omega)) ?_
  refine W.skip ?_
  refine W.seq ?_
  refine W.block ?_
  refine W.seq (W.region (v2 hS hE rfl rfl rfl rfl fun a hE => WL.nil ?_))
  refine W.seq ?_
  refine W.regionQ (C := fun w => St w s (R)) mixed (by kernel_rfl) hS.drew ?_
  refine qP hE (Gives.p hE rfl) rfl fun a hE => ?_
  refine qP hE (Gives.p hE rfl) rfl fun a hE => ?_
  obtain ⟨cs64, hl65, hR66, hat67⟩ := h0.at hx59
  subst hR66
  refine qP hE (Gives.idx hE k54 rfl rfl sl22 rfl hlt58 (h0.aok hlt58)) rfl fun a hE => ?_
  refine qP hE (Gives.loadA hE rfl (fun w h => hat67 w _ h) ty40) rfl fun a hE => ?_
  refine qP hE (Gives.p hE rfl) rfl fun a hE => ?_
  refine qP hE (Gives.p hE rfl) rfl fun a hE => ?_
  obtain ⟨x68, hx69, hq52⟩ := bindS hq52
  obtain ⟨hi70, hlt71, hy72⟩ := gx_some hx69
  obtain ⟨cs73, hl74, hR75, hat76⟩ := h1.at hy72
  subst hR75
  refine qP hE (Gives.idx hE (((k54 : Nat) : Int)).toNat rfl rfl sl22 hi70 hlt71 (h1.aok hlt71)) rfl fun a hE => ?_
  refine qP hE (Gives.loadA hE rfl (fun w h => hat76 w _ h) ty40) rfl fun a hE => ?_
  refine qP hE (show Gives _ _ _ _ (Value.bool (!((x55.Upto == x68.Upto) && (x55.Price == x68.Price)))) from Gives.neS hE [.i .i64, .i .i64] [.i .i64 x55.Upto, .i .i64 x55.Price] [.i .i64 x68.Upto, .i .i64 x68.Price] rfl rfl se40 rfl rfl rfl rfl) rfl fun a hE => ?_
  refine QL.nil ?_; clear hS w; intro w hS
  refine W.cond hE rfl (fun hc77 => ?_) (fun hc77 => ?_)
  ·replace hq52 := iteT hc77 hq52
   refine W.seq (W.region (vp hS hE rfl rfl fun a hE => WL.nil ?_))
   refine W.ret ?_
   subst hK63
   rw [← Option.some.inj hq52] at hr
   dsimp only at hr
   refine finG (fn := Tryz.f24) (rs := [.tmp 4]) (vs := [_]) hE rfl ⟨rfl, trivial⟩ ?_
   obtain rfl := Option.some.inj hr
   exact ⟨rfl, hS⟩
  replace hq52 := iteF hc77 hq52
  refine W.skip ?_
  refine W.region ?_
  refine vP hS hE (Gives.inc hE rfl (by have := h0.small; omega)) rfl fun a hE => ?_
  refine vp hS hE rfl rfl fun a hE => WL.nil ?_
  subst hK63
  exact ⟨rest56.length, Nat.lt_succ_self _, rest56, k54 + 1, rfl, hd57, hq52, hE.pick _ ⟨rfl, rfl, rfl, rfl, trivial⟩, hS⟩
 clear hE hS a w; rintro a w ⟨rfl, hE, hS⟩
 dsimp only at hr
 refine W.seq (W.region (vp hS hE rfl rfl fun a hE => WL.nil ?_))
 refine W.ret ?_
 refine finG (fn := Tryz.f24) (rs := [.tmp 4]) (vs := [_]) hE rfl ⟨rfl, trivial⟩ ?_
 obtain rfl := Option.some.inj hr
 exact ⟨rfl, hS⟩
set_option maxHeartbeats 8000000 in
theorem SlicesEqualFuncLfareCond_v2_ok  {self_Fishref2SameCond : FareCond → FareCond → Option Bool} (ih_Fishref2SameCond : ∀ {w : World} {s : Sg} {R : List HP} {x0 : FareCond} {a0_0 : Option Addr} {c0_0 : Nat} {x1 : FareCond} {a1_0 : Option Addr} {c1_0 : Nat} (_hS : St w s (R)) (_h0_0 : Sl 4 RFareCond s a0_0 c0_0 x0.Kids) (_h1_0 : Sl 4 RFareCond s a1_0 c1_0 x1.Kids) {r : Bool} (_hr : self_Fishref2SameCond x0 x1 = some r), Calls Tryz.prog 23 [.agg (List.toArray [vi x0.Kind, vi x0.A, vi x0.B, .slice a0_0 x0.Kids.length c0_0]), .agg (List.toArray [vi x1.Kind, vi x1.A, vi x1.B, .slice a1_0 x1.Kids.length c1_0])].toArray w (fun e w => e = .returned (.bool r) ∧ St w s (R))) {w : World} {s : Sg} {R : List HP} {x0 : List FareCond} {a0 : Option Addr} {c0 : Nat} {x1 : List FareCond} {a1 : Option Addr} {c1 : Nat} (hS : St w s (R)) (h0 : Sl 4 RFareCond s a0 c0 x0) (h1 : Sl 4 RFareCond s a1 c1 x1) {r : Bool} (hr : SlicesEqualFuncLfareCond_v2 self_Fishref2SameCond x0 x1 = some r) :
  Calls Tryz.prog 48 [.slice a0 x0.length c0, .slice a1 x1.length c1, .func (.func 23) #[] #[]].toArray w (fun e w => e = .returned (.bool r) ∧ St w s (R)) := by
 refine enter Tryz.func48 rfl rfl rfl fun a hE => ?_
 rw [SlicesEqualFuncLfareCond_v2] at hr
 refine W.seq (W.region (vp hS hE rfl rfl fun a hE => WL.nil ?_))
 refine W.seq ?_
 refine W.seq (W.region (vp hS hE rfl rfl fun a hE => ?_))
 refine vP hS hE (Gives.len hE rfl sl41) rfl fun a hE => ?_
 refine vp hS hE rfl rfl fun a hE => ?_
 refine vP hS hE (Gives.len hE rfl sl41) rfl fun a hE => ?_
 refine vp hS hE rfl rfl fun a hE => WL.nil ?_
 refine W.cond hE rfl (fun hc51 => ?_) (fun hc51 => ?_)
 ·replace hr := iteT hc51 hr
  refine W.seq (W.region (vp hS hE rfl rfl fun a hE => WL.nil ?_))
  refine W.ret ?_
  refine finG (fn := Tryz.f48) (rs := [.tmp 6]) (vs := [_]) hE rfl ⟨rfl, trivial⟩ ?_
  obtain rfl := Option.some.inj hr
  exact ⟨rfl, hS⟩
 replace hr := iteF hc51 hr
 refine W.skip ?_
 refine W.seq ?_
 refine W.seq (W.region (vp hS hE rfl rfl fun a hE => ?_))
 refine vP hS hE (Gives.len hE rfl sl41) rfl fun a hE => ?_
 refine vp hS hE rfl rfl fun a hE => WL.nil ?_
 obtain ⟨q53, hq52, hr⟩ := bindS hr
 refine W.cut (fun a w => (.next ()) = q53 ∧ Rep a 32 [] ∧ St w s (R)) ?_ ?_
 ·refine W.block ?_
  refine W.loop (fun m a w => ∃ (rest56 : List FareCond) (k54 : Nat), rest56.length = m ∧ x0.drop k54 = rest56 ∧ SlicesEqualFuncLfareCond_v2.loop1 x1 self_Fishref2SameCond rest56 k54 = some q53 ∧ Rep a 32 [(1, .slice a1 x1.length c1), (2, .func (.func 23) #[] #[]), (15, .slice a0 x0.length c0), (16, vi ((x0).length : Int)), (17, vi ((k54 : Nat) : Int))] ∧ St w s (R)) (m := x0.length) ⟨x0, 0, rfl, rfl, hq52, hE.pick _ ⟨rfl, rfl, rfl, rfl, rfl, trivial⟩, hS⟩ ?_
  clear hE hS a w hq52; rintro m60 a w ⟨rest56, k54, rfl, hd57, hq52, hE, hS⟩
  refine W.gen fun K63 hK63 => ?_
  rcases rest56 with _ | ⟨x55, rest56⟩
  ·have hlt58 := drop_nil hd57
   refine W.seq (W.region (vp hS hE rfl rfl fun a hE => WL.nil ?_))
   refine W.seq ?_
   refine W.condF hE rfl (decide_eq_false (by omega)) ?_
   subst hK63
   refine W.exit rfl ?_
   exact ⟨Option.some.inj hq52, hE.pick _ trivial, hS⟩
  obtain ⟨hlt58, hx59, hd57⟩ := drop_cons hd57
  rw [SlicesEqualFuncLfareCond_v2.loop1] at hq52
  refine W.seq (W.region (vp hS hE rfl rfl fun a hE => WL.nil ?_))
  refine W.seq ?_
  refine W.condT hE rfl (decide_eq_true (by omega)) ?_
  refine W.skip ?_
  refine W.seq ?_
  refine W.block ?_
  refine W.seq (W.region (vp hS hE rfl rfl fun a hE => ?_))
  obtain ⟨cs64, hl65, hR66, hat67⟩ := h0.at hx59
  obtain ⟨a68, c69, rfl, h70⟩ := hR66.unf
  refine vP hS hE (Gives.idx hE k54 rfl rfl sl41 rfl hlt58 (h0.aok hlt58)) rfl fun a hE => ?_
  refine vP hS hE (Gives.loadA hE rfl (fun w h => hat67 w _ h) ty43) rfl fun a hE => ?_
  refine WL.alloc hE hS (runs_plain rfl) zr43 rfl ?_; clear hE hS a w; intro b71 a w hE hS
  refine vp hS hE rfl rfl fun a hE => ?_
  refine WL.storeI hE hS 0 rfl [vi x55.Kind, vi x55.A, vi x55.B, .slice a68 x55.Kids.length c69] (runs_plain rfl) rfl rfl rfl ty43 rfl rfl rfl rfl ?_; clear hE hS a w; intro a w hE hS
  refine WL.nil ?_
  refine W.seq (W.region (v2 hS hE rfl rfl rfl rfl fun a hE => ?_))
  obtain ⟨x72, hx73, hq52⟩ := bindS hq52
  obtain ⟨hi74, hlt75, hy76⟩ := gx_some hx73
  obtain ⟨cs77, hl78, hR79, hat80⟩ := h1.at hy76
  obtain ⟨a81, c82, rfl, h83⟩ := hR79.unf
  refine vP hS hE (Gives.idx hE (((k54 : Nat) : Int)).toNat rfl rfl sl41 hi74 hlt75 (h1.aok hlt75)) rfl fun a hE => ?_
  refine vP hS hE (Gives.loadA hE rfl (fun w h => hat80 w _ h) ty43) rfl fun a hE => ?_
  refine WL.alloc hE hS (runs_plain rfl) zr43 rfl ?_; clear hE hS a w; intro b84 a w hE hS
  refine WL.storeI hE hS 0 rfl [vi x72.Kind, vi x72.A, vi x72.B, .slice a81 x72.Kids.length c82] (runs_plain rfl) rfl rfl rfl ty43 rfl rfl rfl rfl ?_; clear hE hS a w; intro a w hE hS
  refine WL.nil ?_
  refine W.seq (W.region (vp hS hE rfl rfl fun a hE => ?_))
  refine vP hS hE (Gives.loadBA hE 1 rfl rfl ty43) rfl fun a hE => ?_
  refine vP hS hE (Gives.loadBA hE 0 rfl rfl ty43) rfl fun a hE => ?_
  obtain ⟨q85, hq86, hq52⟩ := bindS hq52
  have hc_ := ih_Fishref2SameCond hS h70 h83 hq86
  refine WL.fnw hE (hc_) rfl (runs_plain rfl) bd23 rfl rfl rfl ?_
  clear hE hS hc_; rintro e w ⟨rfl, hS⟩; refine ⟨_, rfl, ?_⟩; clear a; intro a hE
  refine vp hS hE rfl rfl fun a hE => WL.nil ?_
  refine W.cond hE rfl (fun hc87 => ?_) (fun hc87 => ?_)
  ·replace hq52 := iteT hc87 hq52
   refine W.seq (W.region (vp hS hE rfl rfl fun a hE => WL.nil ?_))
   refine W.ret ?_
   subst hK63
   rw [← Option.some.inj hq52] at hr
   dsimp only at hr
   refine finG (fn := Tryz.f48) (rs := [.tmp 6]) (vs := [_]) hE rfl ⟨rfl, trivial⟩ ?_
   obtain rfl := Option.some.inj hr
   replace hS := hS.tail
   replace hS := hS.tail
   exact ⟨rfl, hS⟩
  replace hq52 := iteF hc87 hq52
  refine W.skip ?_
  refine W.region ?_
  refine vP hS hE (Gives.inc hE rfl (by have := h0.small; omega)) rfl fun a hE => ?_
  refine vp hS hE rfl rfl fun a hE => WL.nil ?_
  replace hS := hS.tail
  replace hS := hS.tail
  subst hK63
  exact ⟨rest56.length, Nat.lt_succ_self _, rest56, k54 + 1, rfl, hd57, hq52, hE.pick _ ⟨rfl, rfl, rfl, rfl, rfl, trivial⟩, hS⟩
 clear hE hS a w; rintro a w ⟨rfl, hE, hS⟩
 dsimp only at hr
 refine W.seq (W.region (vp hS hE rfl rfl fun a hE => WL.nil ?_))
 refine W.ret ?_
 refine finG (fn := Tryz.f48) (rs := [.tmp 6]) (vs := [_]) hE rfl ⟨rfl, trivial⟩ ?_
 obtain rfl := Option.some.inj hr
 exact ⟨rfl, hS⟩
set_option maxHeartbeats 8000000 in
theorem Fishref2SameCond_ok : ∀ {fu : Nat} {w : World} {s : Sg} {R : List HP} {x0 : FareCond} {a0_0 : Option Addr} {c0_0 : Nat} {x1 : FareCond} {a1_0 : Option Addr} {c1_0 : Nat} (_hS : St w s (R)) (_h0_0 : Sl 4 RFareCond s a0_0 c0_0 x0.Kids) (_h1_0 : Sl 4 RFareCond s a1_0 c1_0 x1.Kids) {r : Bool} (_hr : Fishref2SameCond fu x0 x1 = some r),
  Calls Tryz.prog 23 [.agg (List.toArray [vi x0.Kind, vi x0.A, vi x0.B, .slice a0_0 x0.Kids.length c0_0]), .agg (List.toArray [vi x1.Kind, vi x1.A, vi x1.B, .slice a1_0 x1.Kids.length c1_0])].toArray w (fun e w => e = .returned (.bool r) ∧ St w s (R)) := by
 intro fu
 induction fu with
 | zero => intro w s R x0 a0_0 c0_0 x1 a1_0 c1_0 hS h0_0 h1_0 r hr; rw [Fishref2SameCond] at hr; exact absurd hr (by simp)
 | succ fu ih_Fishref2SameCond =>
  intro w s R x0 a0_0 c0_0 x1 a1_0 c1_0 hS h0_0 h1_0 r hr
  rw [Fishref2SameCond] at hr
  generalize Fishref2SameCond fu = self_Fishref2SameCond at hr ih_Fishref2SameCond
  refine enter Tryz.func23 rfl rfl rfl fun a hE => ?_
  refine W.seq (W.region ?_)
  refine WL.box hE hS (runs_plain rfl) rfl rfl rfl ?_; clear hE hS a w; intro b51 a w hE hS
  refine WL.box hE hS (runs_plain rfl) rfl rfl rfl ?_; clear hE hS a w; intro b52 a w hE hS
  refine vp hS hE rfl rfl fun a hE => WL.nil ?_
  refine W.seq ?_
  obtain ⟨q54, hq53, hr⟩ := bindS hr
  refine W.cut (fun a w => ∃ (q57 : Bool), q57 = q54 ∧ Rep a 31 [(4, .bool q57)] ∧ St w s (pc b52 #[vi x1.Kind, vi x1.A, vi x1.B, .slice a1_0 x1.Kids.length c1_0] 43 :: pc b51 #[vi x0.Kind, vi x0.A, vi x0.B, .slice a0_0 x0.Kids.length c0_0] 43 :: R)) ?_ ?_
  ·refine W.gen fun K58 hK58 => ?_
   refine W.region ?_
   refine vP hS hE (Gives.fld hE rfl fl43_0) rfl fun a hE => ?_
   refine vP hS hE (Gives.loadB hE 1 rfl rfl rfl ty3) rfl fun a hE => ?_
   refine vP hS hE (Gives.fld hE rfl fl43_0) rfl fun a hE => ?_
   refine vP hS hE (Gives.loadB hE 0 rfl rfl rfl ty3) rfl fun a hE => ?_
   refine v2 hS hE rfl rfl rfl rfl fun a hE => ?_
   rcases Bool.eq_false_or_eq_true (x0.Kind == x1.Kind) with hg59 | hg59
   ·replace hq53 := iteT hg59 hq53
    refine WL.vS hS hE (runs_if hE rfl rfl rfl hg59) (Gives.fld hE rfl fl43_1) rfl fun a hE => ?_
    refine WL.vS hS hE (runs_if hE rfl rfl rfl hg59) (Gives.loadB hE 1 rfl rfl rfl ty3) rfl fun a hE => ?_
    refine WL.vS hS hE (runs_if hE rfl rfl rfl hg59) (Gives.fld hE rfl fl43_1) rfl fun a hE => ?_
    refine WL.vS hS hE (runs_if hE rfl rfl rfl hg59) (Gives.loadB hE 0 rfl rfl rfl ty3) rfl fun a hE => ?_
    refine WL.vS hS hE (runs_if hE rfl rfl rfl hg59) (Gives.p hE rfl) rfl fun a hE => ?_
    refine vP hS hE (Gives.pickT hE rfl hg59 rfl) rfl fun a hE => ?_
    refine vp hS hE rfl rfl fun a hE => ?_
    rcases Bool.eq_false_or_eq_true (x0.A == x1.A) with hg60 | hg60
    ·replace hq53 := iteT hg60 hq53
     refine WL.vS hS hE (runs_if hE rfl rfl rfl hg60) (Gives.fld hE rfl fl43_2) rfl fun a hE => ?_
     refine WL.vS hS hE (runs_if hE rfl rfl rfl hg60) (Gives.loadB hE 1 rfl rfl rfl ty3) rfl fun a hE => ?_
     refine WL.vS hS hE (runs_if hE rfl rfl rfl hg60) (Gives.fld hE rfl fl43_2) rfl fun a hE => ?_
     refine WL.vS hS hE (runs_if hE rfl rfl rfl hg60) (Gives.loadB hE 0 rfl rfl rfl ty3) rfl fun a hE => ?_
     refine WL.vS hS hE (runs_if hE rfl rfl rfl hg60) (Gives.p hE rfl) rfl fun a hE => ?_
     refine vP hS hE (Gives.pickT hE rfl hg60 rfl) rfl fun a hE => ?_
     refine vp hS hE rfl rfl fun a hE => ?_
     rcases Bool.eq_false_or_eq_true (x0.B == x1.B) with hg61 | hg61
     ·replace hq53 := iteT hg61 hq53
      refine WL.vS hS hE (runs_if hE rfl rfl rfl hg61) (Gives.fld hE rfl fl43_3) rfl fun a hE => ?_
      refine WL.vS hS hE (runs_if hE rfl rfl rfl hg61) (Gives.loadB hE 1 rfl rfl rfl ty41) rfl fun a hE => ?_
      refine WL.vS hS hE (runs_if hE rfl rfl rfl hg61) (Gives.fld hE rfl fl43_3) rfl fun a hE => ?_
      refine WL.vS hS hE (runs_if hE rfl rfl rfl hg61) (Gives.loadB hE 0 rfl rfl rfl ty41) rfl fun a hE => ?_
      obtain ⟨q62, hq63, hq53⟩ := bindS hq53
      have hc_ := SlicesEqualFuncLfareCond_v2_ok @ih_Fishref2SameCond hS h0_0 h1_0 hq63
      refine WL.fnq hE (hc_) (runs_if hE rfl rfl rfl hg61) bd48 rfl rfl rfl ?_
      clear hE hS hc_; rintro e w ⟨rfl, hS⟩; refine ⟨_, rfl, ?_⟩; clear a; intro a hE
      refine vP hS hE (Gives.pickT hE rfl hg61 rfl) rfl fun a hE => ?_
      refine vp hS hE rfl rfl fun a hE => WL.nil ?_
      subst hK58
      exact ⟨q62, Option.some.inj hq53, hE.pick _ ⟨rfl, trivial⟩, hS⟩
     replace hq53 := iteF hg61 hq53
     refine nO hE rfl rfl rfl (by rw [hg61]; decide) rfl fun a hE => ?_
     refine nO hE rfl rfl rfl (by rw [hg61]; decide) rfl fun a hE => ?_
     refine nO hE rfl rfl rfl (by rw [hg61]; decide) rfl fun a hE => ?_
     refine nO hE rfl rfl rfl (by rw [hg61]; decide) rfl fun a hE => ?_
     refine nO hE rfl rfl rfl (by rw [hg61]; decide) rfl fun a hE => ?_
     refine vP hS hE (Gives.pickF hE rfl hg61 rfl) rfl fun a hE => ?_
     refine vp hS hE rfl rfl fun a hE => WL.nil ?_
     subst hK58
     exact ⟨false, Option.some.inj hq53, hE.pick _ ⟨rfl, trivial⟩, hS⟩
    replace hq53 := iteF hg60 hq53
    refine nO hE rfl rfl rfl (by rw [hg60]; decide) rfl fun a hE => ?_
    refine nO hE rfl rfl rfl (by rw [hg60]; decide) rfl fun a hE => ?_
    refine nO hE rfl rfl rfl (by rw [hg60]; decide) rfl fun a hE => ?_
    refine nO hE rfl rfl rfl (by rw [hg60]; decide) rfl fun a hE => ?_
    refine nO hE rfl rfl rfl (by rw [hg60]; decide) rfl fun a hE => ?_
    refine vP hS hE (Gives.pickF hE rfl hg60 rfl) rfl fun a hE => ?_
    refine vp hS hE rfl rfl fun a hE => ?_
    refine nO hE rfl rfl rfl (by decide) rfl fun a hE => ?_
    refine nO hE rfl rfl rfl (by decide) rfl fun a hE => ?_
    refine nO hE rfl rfl rfl (by decide) rfl fun a hE => ?_
    refine nO hE rfl rfl rfl (by decide) rfl fun a hE => ?_
    refine nO hE rfl rfl rfl (by decide) rfl fun a hE => ?_
    refine vP hS hE (Gives.pickF hE rfl rfl rfl) rfl fun a hE => ?_
    refine vp hS hE rfl rfl fun a hE => WL.nil ?_
    subst hK58
    exact ⟨false, Option.some.inj hq53, hE.pick _ ⟨rfl, trivial⟩, hS⟩
   replace hq53 := iteF hg59 hq53
   refine nO hE rfl rfl rfl (by rw [hg59]; decide) rfl fun a hE => ?_
   refine nO hE rfl rfl rfl (by rw [hg59]; decide) rfl fun a hE => ?_
   refine nO hE rfl rfl rfl (by rw [hg59]; decide) rfl fun a hE => ?_
   refine nO hE rfl rfl rfl (by rw [hg59]; decide) rfl fun a hE => ?_
   refine nO hE rfl rfl rfl (by rw [hg59]; decide) rfl fun a hE => ?_
   refine vP hS hE (Gives.pickF hE rfl hg59 rfl) rfl fun a hE => ?_
   refine vp hS hE rfl rfl fun a hE => ?_
   refine nO hE rfl rfl rfl (by decide) rfl fun a hE => ?_
   refine nO hE rfl rfl rfl (by decide) rfl fun a hE => ?_
   refine nO hE rfl rfl rfl (by decide) rfl fun a hE => ?_
   refine nO hE rfl rfl rfl (by decide) rfl fun a hE => ?_
   refine nO hE rfl rfl rfl (by decide) rfl fun a hE => ?_
   refine vP hS hE (Gives.pickF hE rfl rfl rfl) rfl fun a hE => ?_
   refine vp hS hE rfl rfl fun a hE => ?_
   refine nO hE rfl rfl rfl (by decide) rfl fun a hE => ?_
   refine nO hE rfl rfl rfl (by decide) rfl fun a hE => ?_
   refine nO hE rfl rfl rfl (by decide) rfl fun a hE => ?_
   refine nO hE rfl rfl rfl (by decide) rfl fun a hE => ?_
   refine nO hE rfl rfl rfl (by decide) rfl fun a hE => ?_
   refine vP hS hE (Gives.pickF hE rfl rfl rfl) rfl fun a hE => ?_
   refine vp hS hE rfl rfl fun a hE => WL.nil ?_
   subst hK58
   exact ⟨false, Option.some.inj hq53, hE.pick _ ⟨rfl, trivial⟩, hS⟩
  clear hE hS a w; rintro a w ⟨q57, rfl, hE, hS⟩
  refine W.ret ?_
  refine finG (fn := Tryz.f23) (rs := [.tmp 4]) (vs := [_]) hE rfl ⟨rfl, trivial⟩ ?_
  obtain rfl := Option.some.inj hr
  replace hS := hS.tail
  replace hS := hS.tail
  exact ⟨rfl, hS⟩
set_option maxHeartbeats 8000000 in
theorem Fishref2SameTariff_1_ok {fu : Nat}  {w : World} {s : Sg} {R : List HP} {x0 : FareRule} {a0_0 : Option Addr} {c0_0 : Nat} {x1 : FareRule} {a1_0 : Option Addr} {c1_0 : Nat} (hS : St w s (R)) (h0_0 : Sl 4 RFareCond s a0_0 c0_0 x0.If.Kids) (h1_0 : Sl 4 RFareCond s a1_0 c1_0 x1.If.Kids) {r : Bool} (hr : Fishref2SameTariff_1 fu x0 x1 = some r) :
  Calls Tryz.prog 22 [.agg (List.toArray [vi x0.If.Kind, vi x0.If.A, vi x0.If.B, .slice a0_0 x0.If.Kids.length c0_0, vi x0.Do, vi x0.N, .bool x0.Stop]), .agg (List.toArray [vi x1.If.Kind, vi x1.If.A, vi x1.If.B, .slice a1_0 x1.If.Kids.length c1_0, vi x1.Do, vi x1.N, .bool x1.Stop])].toArray w (fun e w => e = .returned (.bool r) ∧ St w s (R)) := by
 refine enter Tryz.func22 rfl rfl rfl fun a hE => ?_
 rw [Fishref2SameTariff_1] at hr
 refine W.seq (W.region ?_)
 refine WL.box hE hS (runs_plain rfl) rfl rfl rfl ?_; clear hE hS a w; intro b51 a w hE hS
 refine WL.box hE hS (runs_plain rfl) rfl rfl rfl ?_; clear hE hS a w; intro b52 a w hE hS
 refine vp hS hE rfl rfl fun a hE => WL.nil ?_
 refine W.seq ?_
 obtain ⟨q54, hq53, hr⟩ := bindS hr
 refine W.cut (fun a w => ∃ (q57 : Bool), q57 = q54 ∧ Rep a 31 [(4, .bool q57)] ∧ St w s (pc b52 #[vi x1.If.Kind, vi x1.If.A, vi x1.If.B, .slice a1_0 x1.If.Kids.length c1_0, vi x1.Do, vi x1.N, .bool x1.Stop] 45 :: pc b51 #[vi x0.If.Kind, vi x0.If.A, vi x0.If.B, .slice a0_0 x0.If.Kids.length c0_0, vi x0.Do, vi x0.N, .bool x0.Stop] 45 :: R)) ?_ ?_
 ·refine W.gen fun K58 hK58 => ?_
  refine W.region ?_
  refine vP hS hE (Gives.fld hE rfl fl45_1) rfl fun a hE => ?_
  refine vP hS hE (Gives.loadB hE 1 rfl rfl rfl ty3) rfl fun a hE => ?_
  refine vP hS hE (Gives.fld hE rfl fl45_1) rfl fun a hE => ?_
  refine vP hS hE (Gives.loadB hE 0 rfl rfl rfl ty3) rfl fun a hE => ?_
  refine v2 hS hE rfl rfl rfl rfl fun a hE => ?_
  rcases Bool.eq_false_or_eq_true (x0.Do == x1.Do) with hg59 | hg59
  ·replace hq53 := iteT hg59 hq53
   refine WL.vS hS hE (runs_if hE rfl rfl rfl hg59) (Gives.fld hE rfl fl45_2) rfl fun a hE => ?_
   refine WL.vS hS hE (runs_if hE rfl rfl rfl hg59) (Gives.loadB hE 1 rfl rfl rfl ty3) rfl fun a hE => ?_
   refine WL.vS hS hE (runs_if hE rfl rfl rfl hg59) (Gives.fld hE rfl fl45_2) rfl fun a hE => ?_
   refine WL.vS hS hE (runs_if hE rfl rfl rfl hg59) (Gives.loadB hE 0 rfl rfl rfl ty3) rfl fun a hE => ?_
   refine WL.vS hS hE (runs_if hE rfl rfl rfl hg59) (Gives.p hE rfl) rfl fun a hE => ?_
   refine vP hS hE (Gives.pickT hE rfl hg59 rfl) rfl fun a hE => ?_
   refine vp hS hE rfl rfl fun a hE => ?_
   rcases Bool.eq_false_or_eq_true (x0.N == x1.N) with hg60 | hg60
   ·replace hq53 := iteT hg60 hq53
    refine WL.vS hS hE (runs_if hE rfl rfl rfl hg60) (Gives.fld hE rfl fl45_3) rfl fun a hE => ?_
    refine WL.vS hS hE (runs_if hE rfl rfl rfl hg60) (Gives.loadB hE 1 rfl rfl rfl ty4) rfl fun a hE => ?_
    refine WL.vS hS hE (runs_if hE rfl rfl rfl hg60) (Gives.fld hE rfl fl45_3) rfl fun a hE => ?_
    refine WL.vS hS hE (runs_if hE rfl rfl rfl hg60) (Gives.loadB hE 0 rfl rfl rfl ty4) rfl fun a hE => ?_
    refine WL.vS hS hE (runs_if hE rfl rfl rfl hg60) (Gives.eqB hE rfl rfl bl4) rfl fun a hE => ?_
    refine vP hS hE (Gives.pickT hE rfl hg60 rfl) rfl fun a hE => ?_
    refine vp hS hE rfl rfl fun a hE => ?_
    rcases Bool.eq_false_or_eq_true (x0.Stop == x1.Stop) with hg61 | hg61
    ·replace hq53 := iteT hg61 hq53
     refine WL.vS hS hE (runs_if hE rfl rfl rfl hg61) (Gives.fld hE rfl fl45_0) rfl fun a hE => ?_
     refine WL.vS hS hE (runs_if hE rfl rfl rfl hg61) (Gives.loadA (cs := [vi x0.If.Kind, vi x0.If.A, vi x0.If.B, .slice a0_0 x0.If.Kids.length c0_0]) hE rfl (fun w h => (St.seesAt h 1 rfl).part 0 4) ty43) rfl fun a hE => ?_
     refine WL.vS hS hE (runs_if hE rfl rfl rfl hg61) (Gives.fld hE rfl fl45_0) rfl fun a hE => ?_
     refine WL.vS hS hE (runs_if hE rfl rfl rfl hg61) (Gives.loadA (cs := [vi x1.If.Kind, vi x1.If.A, vi x1.If.B, .slice a1_0 x1.If.Kids.length c1_0]) hE rfl (fun w h => (St.seesAt h 0 rfl).part 0 4) ty43) rfl fun a hE => ?_
     obtain ⟨q62, hq63, hq53⟩ := bindS hq53
     have hc_ := Fishref2SameCond_ok hS h0_0 h1_0 hq63
     refine WL.fnq hE (hc_) (runs_if hE rfl rfl rfl hg61) bd23 rfl rfl rfl ?_
     clear hE hS hc_; rintro e w ⟨rfl, hS⟩; refine ⟨_, rfl, ?_⟩; clear a; intro a hE
     refine vP hS hE (Gives.pickT hE rfl hg61 rfl) rfl fun a hE => ?_
     refine vp hS hE rfl rfl fun a hE => WL.nil ?_
     subst hK58
     exact ⟨q62, Option.some.inj hq53, hE.pick _ ⟨rfl, trivial⟩, hS⟩
    replace hq53 := iteF hg61 hq53
    refine nO hE rfl rfl rfl (by rw [hg61]; decide) rfl fun a hE => ?_
    refine nO hE rfl rfl rfl (by rw [hg61]; decide) rfl fun a hE => ?_
    refine nO hE rfl rfl rfl (by rw [hg61]; decide) rfl fun a hE => ?_
    refine nO hE rfl rfl rfl (by rw [hg61]; decide) rfl fun a hE => ?_
    refine nO hE rfl rfl rfl (by rw [hg61]; decide) rfl fun a hE => ?_
    refine vP hS hE (Gives.pickF hE rfl hg61 rfl) rfl fun a hE => ?_
    refine vp hS hE rfl rfl fun a hE => WL.nil ?_
    subst hK58
    exact ⟨false, Option.some.inj hq53, hE.pick _ ⟨rfl, trivial⟩, hS⟩
   replace hq53 := iteF hg60 hq53
   refine nO hE rfl rfl rfl (by rw [hg60]; decide) rfl fun a hE => ?_
   refine nO hE rfl rfl rfl (by rw [hg60]; decide) rfl fun a hE => ?_
   refine nO hE rfl rfl rfl (by rw [hg60]; decide) rfl fun a hE => ?_
   refine nO hE rfl rfl rfl (by rw [hg60]; decide) rfl fun a hE => ?_
   refine nO hE rfl rfl rfl (by rw [hg60]; decide) rfl fun a hE => ?_
   refine vP hS hE (Gives.pickF hE rfl hg60 rfl) rfl fun a hE => ?_
   refine vp hS hE rfl rfl fun a hE => ?_
   refine nO hE rfl rfl rfl (by decide) rfl fun a hE => ?_
   refine nO hE rfl rfl rfl (by decide) rfl fun a hE => ?_
   refine nO hE rfl rfl rfl (by decide) rfl fun a hE => ?_
   refine nO hE rfl rfl rfl (by decide) rfl fun a hE => ?_
   refine nO hE rfl rfl rfl (by decide) rfl fun a hE => ?_
   refine vP hS hE (Gives.pickF hE rfl rfl rfl) rfl fun a hE => ?_
   refine vp hS hE rfl rfl fun a hE => WL.nil ?_
   subst hK58
   exact ⟨false, Option.some.inj hq53, hE.pick _ ⟨rfl, trivial⟩, hS⟩
  replace hq53 := iteF hg59 hq53
  refine nO hE rfl rfl rfl (by rw [hg59]; decide) rfl fun a hE => ?_
  refine nO hE rfl rfl rfl (by rw [hg59]; decide) rfl fun a hE => ?_
  refine nO hE rfl rfl rfl (by rw [hg59]; decide) rfl fun a hE => ?_
  refine nO hE rfl rfl rfl (by rw [hg59]; decide) rfl fun a hE => ?_
  refine nO hE rfl rfl rfl (by rw [hg59]; decide) rfl fun a hE => ?_
  refine vP hS hE (Gives.pickF hE rfl hg59 rfl) rfl fun a hE => ?_
  refine vp hS hE rfl rfl fun a hE => ?_
  refine nO hE rfl rfl rfl (by decide) rfl fun a hE => ?_
  refine nO hE rfl rfl rfl (by decide) rfl fun a hE => ?_
  refine nO hE rfl rfl rfl (by decide) rfl fun a hE => ?_
  refine nO hE rfl rfl rfl (by decide) rfl fun a hE => ?_
  refine nO hE rfl rfl rfl (by decide) rfl fun a hE => ?_
  refine vP hS hE (Gives.pickF hE rfl rfl rfl) rfl fun a hE => ?_
  refine vp hS hE rfl rfl fun a hE => ?_
  refine nO hE rfl rfl rfl (by decide) rfl fun a hE => ?_
  refine nO hE rfl rfl rfl (by decide) rfl fun a hE => ?_
  refine nO hE rfl rfl rfl (by decide) rfl fun a hE => ?_
  refine nO hE rfl rfl rfl (by decide) rfl fun a hE => ?_
  refine nO hE rfl rfl rfl (by decide) rfl fun a hE => ?_
  refine vP hS hE (Gives.pickF hE rfl rfl rfl) rfl fun a hE => ?_
  refine vp hS hE rfl rfl fun a hE => WL.nil ?_
  subst hK58
  exact ⟨false, Option.some.inj hq53, hE.pick _ ⟨rfl, trivial⟩, hS⟩
 clear hE hS a w; rintro a w ⟨q57, rfl, hE, hS⟩
 refine W.ret ?_
 refine finG (fn := Tryz.f22) (rs := [.tmp 4]) (vs := [_]) hE rfl ⟨rfl, trivial⟩ ?_
 obtain rfl := Option.some.inj hr
 replace hS := hS.tail
 replace hS := hS.tail
 exact ⟨rfl, hS⟩
set_option maxHeartbeats 8000000 in
theorem SlicesEqualFuncLfareRule_v1_ok {fu : Nat}  {w : World} {s : Sg} {R : List HP} {x0 : List FareRule} {a0 : Option Addr} {c0 : Nat} {x1 : List FareRule} {a1 : Option Addr} {c1 : Nat} (hS : St w s (R)) (h0 : Sl 7 RFareRule s a0 c0 x0) (h1 : Sl 7 RFareRule s a1 c1 x1) {r : Bool} (hr : SlicesEqualFuncLfareRule_v1 fu x0 x1 = some r) :
  Calls Tryz.prog 25 [.slice a0 x0.length c0, .slice a1 x1.length c1, .func (.func 22) #[] #[]].toArray w (fun e w => e = .returned (.bool r) ∧ St w s (R)) := by
 refine enter Tryz.func25 rfl rfl rfl fun a hE => ?_
 rw [SlicesEqualFuncLfareRule_v1] at hr
 refine W.seq (W.region (vp hS hE rfl rfl fun a hE => WL.nil ?_))
 refine W.seq ?_
 refine W.seq (W.region (vp hS hE rfl rfl fun a hE => ?_))
 refine vP hS hE (Gives.len hE rfl sl23) rfl fun a hE => ?_
 refine vp hS hE rfl rfl fun a hE => ?_
 refine vP hS hE (Gives.len hE rfl sl23) rfl fun a hE => ?_
 refine vp hS hE rfl rfl fun a hE => WL.nil ?_
 refine W.cond hE rfl (fun hc51 => ?_) (fun hc51 => ?_)
 ·replace hr := iteT hc51 hr
  refine W.seq (W.region (vp hS hE rfl rfl fun a hE => WL.nil ?_))
  refine W.ret ?_
  refine finG (fn := Tryz.f25) (rs := [.tmp 6]) (vs := [_]) hE rfl ⟨rfl, trivial⟩ ?_
  obtain rfl := Option.some.inj hr
  exact ⟨rfl, hS⟩
 replace hr := iteF hc51 hr
 refine W.skip ?_
 refine W.seq ?_
 refine W.seq (W.region (vp hS hE rfl rfl fun a hE => ?_))
 refine vP hS hE (Gives.len hE rfl sl23) rfl fun a hE => ?_
 refine vp hS hE rfl rfl fun a hE => WL.nil ?_
 obtain ⟨q53, hq52, hr⟩ := bindS hr
 refine W.cut (fun a w => (.next ()) = q53 ∧ Rep a 32 [] ∧ St w s (R)) ?_ ?_
 ·refine W.block ?_
  refine W.loop (fun m a w => ∃ (rest56 : List FareRule) (k54 : Nat), rest56.length = m ∧ x0.drop k54 = rest56 ∧ SlicesEqualFuncLfareRule_v1.loop1 x1 fu rest56 k54 = some q53 ∧ Rep a 32 [(1, .slice a1 x1.length c1), (2, .func (.func 22) #[] #[]), (15, .slice a0 x0.length c0), (16, vi ((x0).length : Int)), (17, vi ((k54 : Nat) : Int))] ∧ St w s (R)) (m := x0.length) ⟨x0, 0, rfl, rfl, hq52, hE.pick _ ⟨rfl, rfl, rfl, rfl, rfl, trivial⟩, hS⟩ ?_
  clear hE hS a w hq52; rintro m60 a w ⟨rest56, k54, rfl, hd57, hq52, hE, hS⟩
  refine W.gen fun K63 hK63 => ?_
  rcases rest56 with _ | ⟨x55, rest56⟩
  ·have hlt58 := drop_nil hd57
   refine W.seq (W.region (vp hS hE rfl rfl fun a hE => WL.nil ?_))
   refine W.seq ?_
   refine W.condF hE rfl (decide_eq_false (by omega)) ?_
   subst hK63
   refine W.exit rfl ?_
   exact ⟨Option.some.inj hq52, hE.pick _ trivial, hS⟩
  obtain ⟨hlt58, hx59, hd57⟩ := drop_cons hd57
  rw [SlicesEqualFuncLfareRule_v1.loop1] at hq52
  refine W.seq (W.region (vp hS hE rfl rfl fun a hE => WL.nil ?_))
  refine W.seq ?_
  refine W.condT hE rfl (decide_eq_true (by omega)) ?_
  refine W.skip ?_
  refine W.seq ?_
  refine W.block ?_
  refine W.seq (W.region (vp hS hE rfl rfl fun a hE => ?_))
  obtain ⟨cs64, hl65, hR66, hat67⟩ := h0.at hx59
  obtain ⟨a68, c69, rfl, h70⟩ := hR66
  refine vP hS hE (Gives.idx hE k54 rfl rfl sl23 rfl hlt58 (h0.aok hlt58)) rfl fun a hE => ?_
  refine vP hS hE (Gives.loadA hE rfl (fun w h => hat67 w _ h) ty45) rfl fun a hE => ?_
  refine WL.alloc hE hS (runs_plain rfl) zr45 rfl ?_; clear hE hS a w; intro b71 a w hE hS
  refine vp hS hE rfl rfl fun a hE => ?_
  refine WL.storeI hE hS 0 rfl [vi x55.If.Kind, vi x55.If.A, vi x55.If.B, .slice a68 x55.If.Kids.length c69, vi x55.Do, vi x55.N, .bool x55.Stop] (runs_plain rfl) rfl rfl rfl ty45 rfl rfl rfl rfl ?_; clear hE hS a w; intro a w hE hS
  refine WL.nil ?_
  refine W.seq (W.region (v2 hS hE rfl rfl rfl rfl fun a hE => ?_))
  obtain ⟨x72, hx73, hq52⟩ := bindS hq52
  obtain ⟨hi74, hlt75, hy76⟩ := gx_some hx73
  obtain ⟨cs77, hl78, hR79, hat80⟩ := h1.at hy76
  obtain ⟨a81, c82, rfl, h83⟩ := hR79
  refine vP hS hE (Gives.idx hE (((k54 : Nat) : Int)).toNat rfl rfl sl23 hi74 hlt75 (h1.aok hlt75)) rfl fun a hE => ?_
  refine vP hS hE (Gives.loadA hE rfl (fun w h => hat80 w _ h) ty45) rfl fun a hE => ?_
  refine WL.alloc hE hS (runs_plain rfl) zr45 rfl ?_; clear hE hS a w; intro b84 a w hE hS
  refine WL.storeI hE hS 0 rfl [vi x72.If.Kind, vi x72.If.A, vi x72.If.B, .slice a81 x72.If.Kids.length c82, vi x72.Do, vi x72.N, .bool x72.Stop] (runs_plain rfl) rfl rfl rfl ty45 rfl rfl rfl rfl ?_; clear hE hS a w; intro a w hE hS
  refine WL.nil ?_
  refine W.seq (W.region (vp hS hE rfl rfl fun a hE => ?_))
  refine vP hS hE (Gives.loadBA hE 1 rfl rfl ty45) rfl fun a hE => ?_
  refine vP hS hE (Gives.loadBA hE 0 rfl rfl ty45) rfl fun a hE => ?_
  obtain ⟨q85, hq86, hq52⟩ := bindS hq52
  have hc_ := Fishref2SameTariff_1_ok hS h70 h83 hq86
  refine WL.fnw hE (hc_) rfl (runs_plain rfl) bd22 rfl rfl rfl ?_
  clear hE hS hc_; rintro e w ⟨rfl, hS⟩; refine ⟨_, rfl, ?_⟩; clear a; intro a hE
  refine vp hS hE rfl rfl fun a hE => WL.nil ?_
  refine W.cond hE rfl (fun hc87 => ?_) (fun hc87 => ?_)
  ·replace hq52 := iteT hc87 hq52
   refine W.seq (W.region (vp hS hE rfl rfl fun a hE => WL.nil ?_))
   refine W.ret ?_
   subst hK63
   rw [← Option.some.inj hq52] at hr
   dsimp only at hr
   refine finG (fn := Tryz.f25) (rs := [.tmp 6]) (vs := [_]) hE rfl ⟨rfl, trivial⟩ ?_
   obtain rfl := Option.some.inj hr
   replace hS := hS.tail
   replace hS := hS.tail
   exact ⟨rfl, hS⟩
  replace hq52 := iteF hc87 hq52
  refine W.skip ?_
  refine W.region ?_
  refine vP hS hE (Gives.inc hE rfl (by have := h0.small; omega)) rfl fun a hE => ?_
  refine vp hS hE rfl rfl fun a hE => WL.nil ?_
  replace hS := hS.tail
  replace hS := hS.tail
  subst hK63
  exact ⟨rest56.length, Nat.lt_succ_self _, rest56, k54 + 1, rfl, hd57, hq52, hE.pick _ ⟨rfl, rfl, rfl, rfl, rfl, trivial⟩, hS⟩
 clear hE hS a w; rintro a w ⟨rfl, hE, hS⟩
 dsimp only at hr
 refine W.seq (W.region (vp hS hE rfl rfl fun a hE => WL.nil ?_))
 refine W.ret ?_
 refine finG (fn := Tryz.f25) (rs := [.tmp 6]) (vs := [_]) hE rfl ⟨rfl, trivial⟩ ?_
 obtain rfl := Option.some.inj hr
 exact ⟨rfl, hS⟩
set_option maxHeartbeats 8000000 in
theorem Fishref2SameTariff_ok {fu : Nat}  {w : World} {s : Sg} {R : List HP} {x0 : FareTariff} {a0_0 : Option Addr} {c0_0 : Nat} {a0_1 : Option Addr} {c0_1 : Nat} {x1 : FareTariff} {a1_0 : Option Addr} {c1_0 : Nat} {a1_1 : Option Addr} {c1_1 : Nat} (hS : St w s (R)) (h0_0 : Sl 2 RFareBand s a0_0 c0_0 x0.Bands) (h0_1 : Sl 7 RFareRule s a0_1 c0_1 x0.Rules) (h1_0 : Sl 2 RFareBand s a1_0 c1_0 x1.Bands) (h1_1 : Sl 7 RFareRule s a1_1 c1_1 x1.Rules) {r : Bool} (hr : Fishref2SameTariff fu x0 x1 = some r) :
  Calls Tryz.prog 10 [.agg (List.toArray [.bool x0.ByKm, .slice a0_0 x0.Bands.length c0_0, vi x0.Round, .slice a0_1 x0.Rules.length c0_1]), .agg (List.toArray [.bool x1.ByKm, .slice a1_0 x1.Bands.length c1_0, vi x1.Round, .slice a1_1 x1.Rules.length c1_1])].toArray w (fun e w => e = .returned (.bool r) ∧ St w s (R)) := by
 refine enter Tryz.func10 rfl rfl rfl fun a hE => ?_
 rw [Fishref2SameTariff] at hr
 refine W.seq (W.region ?_)
 refine WL.box hE hS (runs_plain rfl) rfl rfl rfl ?_; clear hE hS a w; intro b51 a w hE hS
 refine WL.box hE hS (runs_plain rfl) rfl rfl rfl ?_; clear hE hS a w; intro b52 a w hE hS
 refine vp hS hE rfl rfl fun a hE => WL.nil ?_
 refine W.seq (W.region (vp hS hE rfl rfl fun a hE => WL.nil ?_))
 refine W.seq ?_
 obtain ⟨q54, hq53, hr⟩ := bindS hr
 refine W.cut (fun a w => ∃ (q57 : Bool), q57 = q54 ∧ Rep a 33 [(4, .bool q57)] ∧ St w s (pc b52 #[.bool x1.ByKm, .slice a1_0 x1.Bands.length c1_0, vi x1.Round, .slice a1_1 x1.Rules.length c1_1] 25 :: pc b51 #[.bool x0.ByKm, .slice a0_0 x0.Bands.length c0_0, vi x0.Round, .slice a0_1 x0.Rules.length c0_1] 25 :: R)) ?_ ?_
 ·refine W.gen fun K58 hK58 => ?_
  refine W.region ?_
  refine vP hS hE (Gives.fld hE rfl fl25_0) rfl fun a hE => ?_
  refine vP hS hE (Gives.loadB hE 1 rfl rfl rfl ty4) rfl fun a hE => ?_
  refine vP hS hE (Gives.fld hE rfl fl25_0) rfl fun a hE => ?_
  refine vP hS hE (Gives.loadB hE 0 rfl rfl rfl ty4) rfl fun a hE => ?_
  refine vP hS hE (Gives.eqB hE rfl rfl bl4) rfl fun a hE => ?_
  refine vp hS hE rfl rfl fun a hE => ?_
  rcases Bool.eq_false_or_eq_true (x0.ByKm == x1.ByKm) with hg59 | hg59
  ·replace hq53 := iteT hg59 hq53
   refine WL.vS hS hE (runs_if hE rfl rfl rfl hg59) (Gives.fld hE rfl fl25_2) rfl fun a hE => ?_
   refine WL.vS hS hE (runs_if hE rfl rfl rfl hg59) (Gives.loadB hE 1 rfl rfl rfl ty3) rfl fun a hE => ?_
   refine WL.vS hS hE (runs_if hE rfl rfl rfl hg59) (Gives.fld hE rfl fl25_2) rfl fun a hE => ?_
   refine WL.vS hS hE (runs_if hE rfl rfl rfl hg59) (Gives.loadB hE 0 rfl rfl rfl ty3) rfl fun a hE => ?_
   refine WL.vS hS hE (runs_if hE rfl rfl rfl hg59) (Gives.p hE rfl) rfl fun a hE => ?_
   refine vP hS hE (Gives.pickT hE rfl hg59 rfl) rfl fun a hE => ?_
   refine vp hS hE rfl rfl fun a hE => ?_
   rcases Bool.eq_false_or_eq_true (x0.Round == x1.Round) with hg60 | hg60
   ·replace hq53 := iteT hg60 hq53
    refine WL.vS hS hE (runs_if hE rfl rfl rfl hg60) (Gives.fld hE rfl fl25_1) rfl fun a hE => ?_
    refine WL.vS hS hE (runs_if hE rfl rfl rfl hg60) (Gives.loadB hE 1 rfl rfl rfl ty22) rfl fun a hE => ?_
    refine WL.vS hS hE (runs_if hE rfl rfl rfl hg60) (Gives.fld hE rfl fl25_1) rfl fun a hE => ?_
    refine WL.vS hS hE (runs_if hE rfl rfl rfl hg60) (Gives.loadB hE 0 rfl rfl rfl ty22) rfl fun a hE => ?_
    obtain ⟨q61, hq62, hq53⟩ := bindS hq53
    have hc_ := SlicesEqualLfareBand_ok hS h0_0 h1_0 hq62
    refine WL.fnq hE (hc_) (runs_if hE rfl rfl rfl hg60) bd24 rfl rfl rfl ?_
    clear hE hS hc_; rintro e w ⟨rfl, hS⟩; refine ⟨_, rfl, ?_⟩; clear a; intro a hE
    refine vP hS hE (Gives.pickT hE rfl hg60 rfl) rfl fun a hE => ?_
    refine vp hS hE rfl rfl fun a hE => ?_
    rcases Bool.eq_false_or_eq_true q61 with hg63 | hg63
    ·replace hq53 := iteT hg63 hq53
     refine WL.vS hS hE (runs_if hE rfl rfl rfl hg63) (Gives.fld hE rfl fl25_3) rfl fun a hE => ?_
     refine WL.vS hS hE (runs_if hE rfl rfl rfl hg63) (Gives.loadB hE 1 rfl rfl rfl ty23) rfl fun a hE => ?_
     refine WL.vS hS hE (runs_if hE rfl rfl rfl hg63) (Gives.fld hE rfl fl25_3) rfl fun a hE => ?_
     refine WL.vS hS hE (runs_if hE rfl rfl rfl hg63) (Gives.loadB hE 0 rfl rfl rfl ty23) rfl fun a hE => ?_
     refine WL.vS hS hE (runs_if hE rfl rfl rfl hg63) (Gives.p hE rfl) rfl fun a hE => ?_
     obtain ⟨q64, hq65, hq53⟩ := bindS hq53
     have hc_ := SlicesEqualFuncLfareRule_v1_ok hS h0_1 h1_1 hq65
     refine WL.fnq hE (hc_) (runs_if hE rfl rfl rfl hg63) bd25 rfl rfl rfl ?_
     clear hE hS hc_; rintro e w ⟨rfl, hS⟩; refine ⟨_, rfl, ?_⟩; clear a; intro a hE
     refine vP hS hE (Gives.pickT hE rfl hg63 rfl) rfl fun a hE => ?_
     refine vp hS hE rfl rfl fun a hE => WL.nil ?_
     subst hK58
     exact ⟨q64, Option.some.inj hq53, hE.pick _ ⟨rfl, trivial⟩, hS⟩
    replace hq53 := iteF hg63 hq53
    refine nO hE rfl rfl rfl (by rw [hg63]; decide) rfl fun a hE => ?_
    refine nO hE rfl rfl rfl (by rw [hg63]; decide) rfl fun a hE => ?_
    refine nO hE rfl rfl rfl (by rw [hg63]; decide) rfl fun a hE => ?_
    refine nO hE rfl rfl rfl (by rw [hg63]; decide) rfl fun a hE => ?_
    refine nO hE rfl rfl rfl (by rw [hg63]; decide) rfl fun a hE => ?_
    refine nO hE rfl rfl rfl (by rw [hg63]; decide) rfl fun a hE => ?_
    refine vP hS hE (Gives.pickF hE rfl hg63 rfl) rfl fun a hE => ?_
    refine vp hS hE rfl rfl fun a hE => WL.nil ?_
    subst hK58
    exact ⟨false, Option.some.inj hq53, hE.pick _ ⟨rfl, trivial⟩, hS⟩
   replace hq53 := iteF hg60 hq53
   refine nO hE rfl rfl rfl (by rw [hg60]; decide) rfl fun a hE => ?_
   refine nO hE rfl rfl rfl (by rw [hg60]; decide) rfl fun a hE => ?_
   refine nO hE rfl rfl rfl (by rw [hg60]; decide) rfl fun a hE => ?_
   refine nO hE rfl rfl rfl (by rw [hg60]; decide) rfl fun a hE => ?_
   refine nO hE rfl rfl rfl (by rw [hg60]; decide) rfl fun a hE => ?_
   refine vP hS hE (Gives.pickF hE rfl hg60 rfl) rfl fun a hE => ?_
   refine vp hS hE rfl rfl fun a hE => ?_
   refine nO hE rfl rfl rfl (by decide) rfl fun a hE => ?_
   refine nO hE rfl rfl rfl (by decide) rfl fun a hE => ?_
   refine nO hE rfl rfl rfl (by decide) rfl fun a hE => ?_
   refine nO hE rfl rfl rfl (by decide) rfl fun a hE => ?_
   refine nO hE rfl rfl rfl (by decide) rfl fun a hE => ?_
   refine nO hE rfl rfl rfl (by decide) rfl fun a hE => ?_
   refine vP hS hE (Gives.pickF hE rfl rfl rfl) rfl fun a hE => ?_
   refine vp hS hE rfl rfl fun a hE => WL.nil ?_
   subst hK58
   exact ⟨false, Option.some.inj hq53, hE.pick _ ⟨rfl, trivial⟩, hS⟩
  replace hq53 := iteF hg59 hq53
  refine nO hE rfl rfl rfl (by rw [hg59]; decide) rfl fun a hE => ?_
  refine nO hE rfl rfl rfl (by rw [hg59]; decide) rfl fun a hE => ?_
  refine nO hE rfl rfl rfl (by rw [hg59]; decide) rfl fun a hE => ?_
  refine nO hE rfl rfl rfl (by rw [hg59]; decide) rfl fun a hE => ?_
  refine nO hE rfl rfl rfl (by rw [hg59]; decide) rfl fun a hE => ?_
  refine vP hS hE (Gives.pickF hE rfl hg59 rfl) rfl fun a hE => ?_
  refine vp hS hE rfl rfl fun a hE => ?_
  refine nO hE rfl rfl rfl (by decide) rfl fun a hE => ?_
  refine nO hE rfl rfl rfl (by decide) rfl fun a hE => ?_
  refine nO hE rfl rfl rfl (by decide) rfl fun a hE => ?_
  refine nO hE rfl rfl rfl (by decide) rfl fun a hE => ?_
  refine nO hE rfl rfl rfl (by decide) rfl fun a hE => ?_
  refine vP hS hE (Gives.pickF hE rfl rfl rfl) rfl fun a hE => ?_
  refine vp hS hE rfl rfl fun a hE => ?_
  refine nO hE rfl rfl rfl (by decide) rfl fun a hE => ?_
  refine nO hE rfl rfl rfl (by decide) rfl fun a hE => ?_
  refine nO hE rfl rfl rfl (by decide) rfl fun a hE => ?_
  refine nO hE rfl rfl rfl (by decide) rfl fun a hE => ?_
  refine nO hE rfl rfl rfl (by decide) rfl fun a hE => ?_
  refine nO hE rfl rfl rfl (by decide) rfl fun a hE => ?_
  refine vP hS hE (Gives.pickF hE rfl rfl rfl) rfl fun a hE => ?_
  refine vp hS hE rfl rfl fun a hE => WL.nil ?_
  subst hK58
  exact ⟨false, Option.some.inj hq53, hE.pick _ ⟨rfl, trivial⟩, hS⟩
 clear hE hS a w; rintro a w ⟨q57, rfl, hE, hS⟩
 refine W.ret ?_
 refine finG (fn := Tryz.f10) (rs := [.tmp 4]) (vs := [_]) hE rfl ⟨rfl, trivial⟩ ?_
 obtain rfl := Option.some.inj hr
 replace hS := hS.tail
 replace hS := hS.tail
 exact ⟨rfl, hS⟩
set_option maxHeartbeats 8000000 in
theorem Fishlaw2FareReads_ok {fu : Nat}  {w : World} {s : Sg} {R : List HP} {x0 : ByteArray} (hS : St w s (R)) (hTab : TabX s) {r : Bool} (hr : Fishlaw2FareReads fu x0 = some r) :
  Calls Tryz.prog 4 [.string x0].toArray w (fun e w => e = .returned (.bool r) ∧ St w s (R)) := by
 refine enter Tryz.func4 rfl rfl rfl fun a hE => ?_
 rw [Fishlaw2FareReads] at hr
 refine W.seq (W.region (vp hS hE rfl rfl fun a hE => WL.nil ?_))
 refine W.seq (W.region (vp hS hE rfl rfl fun a hE => ?_))
 obtain ⟨q51, hq52, hr⟩ := bindS hr
 have hc_ := FareRead_ok hS (TabG.mono (Sg.Le.refl _) hTab) hq52
 refine WL.fnq hE (hc_) (runs_plain rfl) bd8 rfl rfl rfl ?_
 clear hE hS hc_; rintro e w ⟨cs53, s55, rfl, hle56, h54, hS⟩; refine ⟨_, rfl, ?_⟩; clear a; intro a hE
 obtain ⟨a57, c58, a60, c61, rfl, h59, h62⟩ := h54
 refine v2 hS hE rfl rfl rfl rfl fun a hE => ?_
 refine vp hS hE rfl rfl fun a hE => ?_
 refine WL.alloc hE hS (runs_plain rfl) zr25 rfl ?_; clear hE hS a w; intro b63 a w hE hS
 refine WL.storeI hE hS 0 rfl [.bool q51.1.ByKm, .slice a57 q51.1.Bands.length c58, vi q51.1.Round, .slice a60 q51.1.Rules.length c61] (runs_plain rfl) rfl rfl rfl ty25 rfl rfl rfl rfl ?_; clear hE hS a w; intro a w hE hS
 refine vp hS hE rfl rfl fun a hE => WL.nil ?_
 refine W.seq (W.region (vp hS hE rfl rfl fun a hE => ?_))
 obtain ⟨q64, hq65, hr⟩ := bindS hr
 have hc_ := Fishref2ReadTariff_ok hS (TabG.mono hle56 hTab) hq65
 refine WL.fnq hE (hc_) (runs_plain rfl) bd11 rfl rfl rfl ?_
 clear hE hS hc_; rintro e w ⟨cs66, s68, rfl, hle69, h67, hS⟩; refine ⟨_, rfl, ?_⟩; clear a; intro a hE
 replace h59 := Sl.mono RFareBand.mono hle69 h59
 replace h62 := Sl.mono RFareRule.mono hle69 h62
 obtain ⟨a70, c71, a73, c74, rfl, h72, h75⟩ := h67
 refine v2 hS hE rfl rfl rfl rfl fun a hE => ?_
 refine vp hS hE rfl rfl fun a hE => ?_
 refine WL.alloc hE hS (runs_plain rfl) zr25 rfl ?_; clear hE hS a w; intro b76 a w hE hS
 refine WL.storeI hE hS 0 rfl [.bool q64.1.ByKm, .slice a70 q64.1.Bands.length c71, vi q64.1.Round, .slice a73 q64.1.Rules.length c74] (runs_plain rfl) rfl rfl rfl ty25 rfl rfl rfl rfl ?_; clear hE hS a w; intro a w hE hS
 refine vp hS hE rfl rfl fun a hE => WL.nil ?_
 refine W.seq ?_
 obtain ⟨q78, hq77, hr⟩ := bindS hr
 refine W.cut (fun a w => ∃ (q81 : Bool), q81 = q78 ∧ Rep a 28 [(2, .bool q81)] ∧ St w s68 (pc b76 #[.bool q64.1.ByKm, .slice a70 q64.1.Bands.length c71, vi q64.1.Round, .slice a73 q64.1.Rules.length c74] 25 :: pc b63 #[.bool q51.1.ByKm, .slice a57 q51.1.Bands.length c58, vi q51.1.Round, .slice a60 q51.1.Rules.length c61] 25 :: R)) ?_ ?_
 ·refine W.gen fun K82 hK82 => ?_
  refine W.region ?_
  obtain ⟨q83, hq84, hq77⟩ := bindS hq77
  have hc_ := Fishlaw2fares_ok hS  hq84
  refine WL.fnq hE (hc_) (runs_plain rfl) bd7 rfl rfl rfl ?_
  clear hE hS hc_; rintro e w ⟨rfl, hS⟩; refine ⟨_, rfl, ?_⟩; clear a; intro a hE
  refine vp hS hE rfl rfl fun a hE => ?_
  rcases Bool.eq_false_or_eq_true q83 with hg85 | hg85
  ·replace hq77 := iteT hg85 hq77
   refine WL.vS hS hE (runs_if hE rfl rfl rfl hg85) (Gives.p hE rfl) rfl fun a hE => ?_
   refine WL.vS hS hE (runs_if hE rfl rfl rfl hg85) (Gives.p hE rfl) rfl fun a hE => ?_
   refine WL.vS hS hE (runs_if hE rfl rfl rfl hg85) (Gives.p hE rfl) rfl fun a hE => ?_
   refine vP hS hE (Gives.pickT hE rfl hg85 rfl) rfl fun a hE => ?_
   refine vp hS hE rfl rfl fun a hE => ?_
   rcases Bool.eq_false_or_eq_true (q51.2 == q64.2) with hg86 | hg86
   ·replace hq77 := iteT hg86 hq77
    refine WL.vS hS hE (runs_if hE rfl rfl rfl hg86) (Gives.loadBA hE 1 rfl rfl ty25) rfl fun a hE => ?_
    refine WL.vS hS hE (runs_if hE rfl rfl rfl hg86) (Gives.loadBA hE 0 rfl rfl ty25) rfl fun a hE => ?_
    obtain ⟨q87, hq88, hq77⟩ := bindS hq77
    have hc_ := Fishref2SameTariff_ok hS h59 h62 h72 h75 hq88
    refine WL.fnq hE (hc_) (runs_if hE rfl rfl rfl hg86) bd10 rfl rfl rfl ?_
    clear hE hS hc_; rintro e w ⟨rfl, hS⟩; refine ⟨_, rfl, ?_⟩; clear a; intro a hE
    refine vP hS hE (Gives.pickT hE rfl hg86 rfl) rfl fun a hE => ?_
    refine vp hS hE rfl rfl fun a hE => WL.nil ?_
    subst hK82
    exact ⟨q87, Option.some.inj hq77, hE.pick _ ⟨rfl, trivial⟩, hS⟩
   replace hq77 := iteF hg86 hq77
   refine nO hE rfl rfl rfl (by rw [hg86]; decide) rfl fun a hE => ?_
   refine nO hE rfl rfl rfl (by rw [hg86]; decide) rfl fun a hE => ?_
   refine nO hE rfl rfl rfl (by rw [hg86]; decide) rfl fun a hE => ?_
   refine vP hS hE (Gives.pickF hE rfl hg86 rfl) rfl fun a hE => ?_
   refine vp hS hE rfl rfl fun a hE => WL.nil ?_
   subst hK82
   exact ⟨false, Option.some.inj hq77, hE.pick _ ⟨rfl, trivial⟩, hS⟩
  replace hq77 := iteF hg85 hq77
  refine nO hE rfl rfl rfl (by rw [hg85]; decide) rfl fun a hE => ?_
  refine nO hE rfl rfl rfl (by rw [hg85]; decide) rfl fun a hE => ?_
  refine nO hE rfl rfl rfl (by rw [hg85]; decide) rfl fun a hE => ?_
  refine vP hS hE (Gives.pickF hE rfl hg85 rfl) rfl fun a hE => ?_
  refine vp hS hE rfl rfl fun a hE => ?_
  refine nO hE rfl rfl rfl (by decide) rfl fun a hE => ?_
  refine nO hE rfl rfl rfl (by decide) rfl fun a hE => ?_
  refine nO hE rfl rfl rfl (by decide) rfl fun a hE => ?_
  refine vP hS hE (Gives.pickF hE rfl rfl rfl) rfl fun a hE => ?_
  refine vp hS hE rfl rfl fun a hE => WL.nil ?_
  subst hK82
  exact ⟨false, Option.some.inj hq77, hE.pick _ ⟨rfl, trivial⟩, hS⟩
 clear hE hS a w; rintro a w ⟨q81, rfl, hE, hS⟩
 refine W.ret ?_
 refine finG (fn := Tryz.f4) (rs := [.tmp 2]) (vs := [_]) hE rfl ⟨rfl, trivial⟩ ?_
 obtain rfl := Option.some.inj hr
 replace hS := hS.tail
 replace hS := hS.tail
 exact ⟨rfl, (hS.down (Sg.Le.trans hle56 hle69))⟩
end Go.Proofs.YtfdifpegldailaaGreatDoor
