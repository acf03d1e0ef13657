/- The walks of the functions that FareTexts reaches: each call comes to what its mirror says. The conditions are those of each contract. -/
import Derived.Test.YtfdifpegldailaaGreatDoorProg
import Derived.Test.YtfdifpegldailaaGreatDoorFareTextsM
import Derived.Test.YtfdifpegldailaaGreatDoorFpAllT
import Derived.Test.YtfdifpegldailaaGreatDoorFareTextsS
import Derived.Test.YtfdifpegldailaaGreatDoorFpDfr
import Derived.Test.YtfdifpegldailaaGreatDoorFpErr
import Derived.Test.YtfdifpegldailaaGreatDoorFpJoin
import Derived.Test.YtfdifpegldailaaGreatDoorFpKeyB
import Derived.Test.YtfdifpegldailaaGreatDoorFpMeth
import Derived.Test.YtfdifpegldailaaGreatDoorFpPan
import Derived.Test.YtfdifpegldailaaGreatDoorFpRgP
import Derived.Test.YtfdifpegldailaaGreatDoorFpRgn
import Derived.Test.YtfdifpegldailaaGreatDoorFpRune
import Derived.Test.YtfdifpegldailaaGreatDoorFareTextsW3
set_option maxRecDepth 10000
namespace Go.Proofs.YtfdifpegldailaaGreatDoor
open Go Go.Fp
set_option maxHeartbeats 8000000 in
theorem SlicesEqualFuncLfareRule_v1_ok {fu : Nat}  {w : World} {s : Sg} {R : List HP} {x0 : List FareRule} {a0 : Option Addr} {c0 : Nat} {x1 : List FareRule} {a1 : Option Addr} {c1 : Nat} (hS : St w s (R)) (h0 : Sl 7 RFareRule s a0 c0 x0) (h1 : Sl 7 RFareRule s a1 c1 x1) {r : Bool} (hr : SlicesEqualFuncLfareRule_v1 fu x0 x1 = some r) :
  Calls Tryz.prog 25 [.slice a0 x0.length c0, .slice a1 x1.length c1, .func (.func 22) #[] #[]].toArray w (fun e w => e = .returned (.bool r) ∧ St w s (R)) := by
 refine enter Tryz.func25 rfl rfl rfl fun a hE => ?_
 rw [SlicesEqualFuncLfareRule_v1] at hr
 refine W.seq (W.region ?_)
 refine vP hS hE (Gives.p hE rfl) rfl ?_; clear hE a; intro a hE
 refine WL.nil ?_
 refine W.seq ?_
 refine W.seq (W.region ?_)
 refine vP hS hE (Gives.p hE rfl) rfl ?_; clear hE a; intro a hE
 refine vP hS hE (Gives.len hE rfl sl23) rfl ?_; clear hE a; intro a hE
 refine vP hS hE (Gives.p hE rfl) rfl ?_; clear hE a; intro a hE
 refine vP hS hE (Gives.len hE rfl sl23) rfl ?_; clear hE a; intro a hE
 refine vP hS hE (Gives.p hE rfl) rfl ?_; clear hE a; intro a hE
 refine WL.nil ?_
 refine W.cond hE rfl (fun hc51 => ?_) (fun hc51 => ?_)
 ·replace hr := iteT hc51 hr
  refine W.seq (W.region ?_)
  refine vP hS hE (Gives.p hE rfl) rfl ?_; clear hE a; intro a hE
  refine WL.nil ?_
  refine W.ret ?_
  refine finG (fn := Tryz.f25) (rs := [.tmp 6]) (vs := [_]) hE rfl ⟨rfl, trivial⟩ ?_
  obtain rfl := Option.some.inj hr
  exact ⟨rfl, hS⟩
 ·replace hr := iteF hc51 hr
  refine W.skip ?_
  refine W.seq ?_
  refine W.seq (W.region ?_)
  refine vP hS hE (Gives.p hE rfl) rfl ?_; clear hE a; intro a hE
  refine vP hS hE (Gives.len hE rfl sl23) rfl ?_; clear hE a; intro a hE
  refine vP hS hE (Gives.p hE rfl) rfl ?_; clear hE a; intro a hE
  refine WL.nil ?_
  obtain ⟨q53, hq52, hr⟩ := bindS hr
  refine W.cut (fun a w => (.next ()) = q53 ∧ Rep a 32 [] ∧ St w s (R)) ?_ ?_
  ·refine W.block ?_
   refine W.loop (fun m a w => ∃ (rest56 : List FareRule) (k54 : Nat), rest56.length = m ∧ x0.drop k54 = rest56 ∧ SlicesEqualFuncLfareRule_v1.loop1 x1 fu rest56 k54 = some q53 ∧ Rep a 32 [(1, .slice a1 x1.length c1), (2, .func (.func 22) #[] #[]), (15, .slice a0 x0.length c0), (16, .int .i64 ((x0).length : Int)), (17, .int .i64 ((k54 : Nat) : Int))] ∧ St w s (R)) (m := x0.length) ⟨x0, 0, rfl, rfl, hq52, hE.pick _ ⟨rfl, rfl, rfl, rfl, rfl, trivial⟩, hS⟩ ?_
   clear hE hS a w hq52; rintro m60 a w ⟨rest56, k54, rfl, hd57, hq52, hE, hS⟩
   refine W.gen fun K63 hK63 => ?_
   rcases rest56 with _ | ⟨x55, rest56⟩
   ·have hlt58 := drop_nil hd57
    refine W.seq (W.region ?_)
    refine vP hS hE (Gives.p hE rfl) rfl ?_; clear hE a; intro a hE
    refine WL.nil ?_
    refine W.seq ?_
    refine W.condF hE rfl (decide_eq_false (by omega)) ?_
    subst hK63
    refine W.exit rfl ?_
    exact ⟨Option.some.inj hq52, hE.pick _ trivial, hS⟩
   ·obtain ⟨hlt58, hx59, hd57⟩ := drop_cons hd57
    rw [SlicesEqualFuncLfareRule_v1.loop1] at hq52
    refine W.seq (W.region ?_)
    refine vP hS hE (Gives.p hE rfl) rfl ?_; clear hE a; intro a hE
    refine WL.nil ?_
    refine W.seq ?_
    refine W.condT hE rfl (decide_eq_true (by omega)) ?_
    refine W.skip ?_
    refine W.seq ?_
    refine W.block ?_
    refine W.seq (W.region ?_)
    refine vP hS hE (Gives.p hE rfl) rfl ?_; clear hE a; intro a hE
    obtain ⟨cs64, hl65, hR66, hat67⟩ := h0.at hx59
    obtain ⟨a68, c69, rfl, h70⟩ := hR66
    refine vP hS hE (Gives.idx hE k54 rfl rfl sl23 rfl hlt58 (h0.aok hlt58)) rfl ?_; clear hE a; intro a hE
    refine vP hS hE (Gives.loadA hE rfl (fun w h => hat67 w _ h) ty45) rfl ?_; clear hE a; intro a hE
    refine WL.alloc hE hS (runs_plain rfl) zr45 rfl ?_; clear hE hS a w; intro b71 a w hE hS
    refine vP hS hE (Gives.p hE rfl) rfl ?_; clear hE a; intro a hE
    refine WL.storeI hE hS 0 rfl [.int .i64 x55.If.Kind, .int .i64 x55.If.A, .int .i64 x55.If.B, .slice a68 x55.If.Kids.length c69, .int .i64 x55.Do, .int .i64 x55.N, .bool x55.Stop] (runs_plain rfl) rfl rfl rfl ty45 rfl rfl rfl rfl ?_; clear hE hS a w; intro a w hE hS
    refine WL.nil ?_
    refine W.seq (W.region ?_)
    refine vP hS hE (Gives.p hE rfl) rfl ?_; clear hE a; intro a hE
    refine vP hS hE (Gives.p hE rfl) rfl ?_; clear hE a; intro a hE
    obtain ⟨x72, hx73, hq52⟩ := bindS hq52
    obtain ⟨hi74, hlt75, hy76⟩ := gx_some hx73
    obtain ⟨cs77, hl78, hR79, hat80⟩ := h1.at hy76
    obtain ⟨a81, c82, rfl, h83⟩ := hR79
    refine vP hS hE (Gives.idx hE (((k54 : Nat) : Int)).toNat rfl rfl sl23 hi74 hlt75 (h1.aok hlt75)) rfl ?_; clear hE a; intro a hE
    refine vP hS hE (Gives.loadA hE rfl (fun w h => hat80 w _ h) ty45) rfl ?_; clear hE a; intro a hE
    refine WL.alloc hE hS (runs_plain rfl) zr45 rfl ?_; clear hE hS a w; intro b84 a w hE hS
    refine WL.storeI hE hS 0 rfl [.int .i64 x72.If.Kind, .int .i64 x72.If.A, .int .i64 x72.If.B, .slice a81 x72.If.Kids.length c82, .int .i64 x72.Do, .int .i64 x72.N, .bool x72.Stop] (runs_plain rfl) rfl rfl rfl ty45 rfl rfl rfl rfl ?_; clear hE hS a w; intro a w hE hS
    refine WL.nil ?_
    refine W.seq (W.region ?_)
    refine vP hS hE (Gives.p hE rfl) rfl ?_; clear hE a; intro a hE
    refine vP hS hE (Gives.loadBA hE 1 rfl rfl ty45) rfl ?_; clear hE a; intro a hE
    refine vP hS hE (Gives.loadBA hE 0 rfl rfl ty45) rfl ?_; clear hE a; intro a hE
    obtain ⟨q85, hq86, hq52⟩ := bindS hq52
    have hc_ := Fishref2SameTariff_1_ok hS h70 h83 hq86
    refine WL.fnw hE (hc_) rfl (runs_plain rfl) bd22 rfl rfl rfl ?_
    clear hE hS hc_; rintro e w ⟨rfl, hS⟩; refine ⟨_, rfl, ?_⟩; clear a; intro a hE
    refine vP hS hE (Gives.p hE rfl) rfl ?_; clear hE a; intro a hE
    refine WL.nil ?_
    refine W.cond hE rfl (fun hc87 => ?_) (fun hc87 => ?_)
    ·replace hq52 := iteT hc87 hq52
     refine W.seq (W.region ?_)
     refine vP hS hE (Gives.p hE rfl) rfl ?_; clear hE a; intro a hE
     refine WL.nil ?_
     refine W.ret ?_
     subst hK63
     rw [← Option.some.inj hq52] at hr
     dsimp only at hr
     refine finG (fn := Tryz.f25) (rs := [.tmp 6]) (vs := [_]) hE rfl ⟨rfl, trivial⟩ ?_
     obtain rfl := Option.some.inj hr
     replace hS := hS.tail
     replace hS := hS.tail
     exact ⟨rfl, hS⟩
    ·replace hq52 := iteF hc87 hq52
     refine W.skip ?_
     refine W.region ?_
     refine vP hS hE (Gives.inc hE rfl (by have := h0.small; omega)) rfl ?_; clear hE a; intro a hE
     refine vP hS hE (Gives.p hE rfl) rfl ?_; clear hE a; intro a hE
     refine WL.nil ?_
     replace hS := hS.tail
     replace hS := hS.tail
     subst hK63
     exact ⟨rest56.length, Nat.lt_succ_self _, rest56, k54 + 1, rfl, hd57, hq52, hE.pick _ ⟨rfl, rfl, rfl, rfl, rfl, trivial⟩, hS⟩
  ·clear hE hS a w; rintro a w ⟨rfl, hE, hS⟩
   dsimp only at hr
   refine W.seq (W.region ?_)
   refine vP hS hE (Gives.p hE rfl) rfl ?_; clear hE a; intro a hE
   refine WL.nil ?_
   refine W.ret ?_
   refine finG (fn := Tryz.f25) (rs := [.tmp 6]) (vs := [_]) hE rfl ⟨rfl, trivial⟩ ?_
   obtain rfl := Option.some.inj hr
   exact ⟨rfl, hS⟩
set_option maxHeartbeats 8000000 in
theorem Fishref2SameTariff_ok {fu : Nat}  {w : World} {s : Sg} {R : List HP} {x0 : FareTariff} {a0_0 : Option Addr} {c0_0 : Nat} {a0_1 : Option Addr} {c0_1 : Nat} {x1 : FareTariff} {a1_0 : Option Addr} {c1_0 : Nat} {a1_1 : Option Addr} {c1_1 : Nat} (hS : St w s (R)) (h0_0 : Sl 2 RFareBand s a0_0 c0_0 x0.Bands) (h0_1 : Sl 7 RFareRule s a0_1 c0_1 x0.Rules) (h1_0 : Sl 2 RFareBand s a1_0 c1_0 x1.Bands) (h1_1 : Sl 7 RFareRule s a1_1 c1_1 x1.Rules) {r : Bool} (hr : Fishref2SameTariff fu x0 x1 = some r) :
  Calls Tryz.prog 10 [.agg (List.toArray [.bool x0.ByKm, .slice a0_0 x0.Bands.length c0_0, .int .i64 x0.Round, .slice a0_1 x0.Rules.length c0_1]), .agg (List.toArray [.bool x1.ByKm, .slice a1_0 x1.Bands.length c1_0, .int .i64 x1.Round, .slice a1_1 x1.Rules.length c1_1])].toArray w (fun e w => e = .returned (.bool r) ∧ St w s (R)) := by
 refine enter Tryz.func10 rfl rfl rfl fun a hE => ?_
 rw [Fishref2SameTariff] at hr
 refine W.seq (W.region ?_)
 refine WL.box hE hS (runs_plain rfl) rfl rfl rfl ?_; clear hE hS a w; intro b51 a w hE hS
 refine WL.box hE hS (runs_plain rfl) rfl rfl rfl ?_; clear hE hS a w; intro b52 a w hE hS
 refine vP hS hE (Gives.p hE rfl) rfl ?_; clear hE a; intro a hE
 refine WL.nil ?_
 refine W.seq (W.region ?_)
 refine vP hS hE (Gives.p hE rfl) rfl ?_; clear hE a; intro a hE
 refine WL.nil ?_
 refine W.seq ?_
 obtain ⟨q54, hq53, hr⟩ := bindS hr
 refine W.cut (fun a w => ∃ (q57 : Bool), q57 = q54 ∧ Rep a 33 [(4, .bool q57)] ∧ St w s (pt b52 (.cells #[.bool x1.ByKm, .slice a1_0 x1.Bands.length c1_0, .int .i64 x1.Round, .slice a1_1 x1.Rules.length c1_1] 25 (0, 0)) :: pt b51 (.cells #[.bool x0.ByKm, .slice a0_0 x0.Bands.length c0_0, .int .i64 x0.Round, .slice a0_1 x0.Rules.length c0_1] 25 (0, 0)) :: R)) ?_ ?_
 ·refine W.gen fun K58 hK58 => ?_
  refine W.region ?_
  refine vP hS hE (Gives.fld hE rfl fl25_0) rfl ?_; clear hE a; intro a hE
  refine vP hS hE (Gives.loadB hE 1 rfl rfl rfl ty4) rfl ?_; clear hE a; intro a hE
  refine vP hS hE (Gives.fld hE rfl fl25_0) rfl ?_; clear hE a; intro a hE
  refine vP hS hE (Gives.loadB hE 0 rfl rfl rfl ty4) rfl ?_; clear hE a; intro a hE
  refine vP hS hE (Gives.eqB hE rfl rfl bl4) rfl ?_; clear hE a; intro a hE
  refine vP hS hE (Gives.p hE rfl) rfl ?_; clear hE a; intro a hE
  rcases Bool.eq_false_or_eq_true (x0.ByKm == x1.ByKm) with hg59 | hg59
  ·replace hq53 := iteT hg59 hq53
   refine WL.vS hS hE (runs_if hE rfl rfl rfl hg59) (Gives.fld hE rfl fl25_2) rfl ?_; clear hE a; intro a hE
   refine WL.vS hS hE (runs_if hE rfl rfl rfl hg59) (Gives.loadB hE 1 rfl rfl rfl ty3) rfl ?_; clear hE a; intro a hE
   refine WL.vS hS hE (runs_if hE rfl rfl rfl hg59) (Gives.fld hE rfl fl25_2) rfl ?_; clear hE a; intro a hE
   refine WL.vS hS hE (runs_if hE rfl rfl rfl hg59) (Gives.loadB hE 0 rfl rfl rfl ty3) rfl ?_; clear hE a; intro a hE
   refine WL.vS hS hE (runs_if hE rfl rfl rfl hg59) (Gives.p hE rfl) rfl ?_; clear hE a; intro a hE
   refine vP hS hE (Gives.pickT hE rfl hg59 rfl) rfl ?_; clear hE a; intro a hE
   refine vP hS hE (Gives.p hE rfl) rfl ?_; clear hE a; intro a hE
   rcases Bool.eq_false_or_eq_true (x0.Round == x1.Round) with hg60 | hg60
   ·replace hq53 := iteT hg60 hq53
    refine WL.vS hS hE (runs_if hE rfl rfl rfl hg60) (Gives.fld hE rfl fl25_1) rfl ?_; clear hE a; intro a hE
    refine WL.vS hS hE (runs_if hE rfl rfl rfl hg60) (Gives.loadB hE 1 rfl rfl rfl ty22) rfl ?_; clear hE a; intro a hE
    refine WL.vS hS hE (runs_if hE rfl rfl rfl hg60) (Gives.fld hE rfl fl25_1) rfl ?_; clear hE a; intro a hE
    refine WL.vS hS hE (runs_if hE rfl rfl rfl hg60) (Gives.loadB hE 0 rfl rfl rfl ty22) rfl ?_; clear hE a; intro a hE
    obtain ⟨q61, hq62, hq53⟩ := bindS hq53
    have hc_ := SlicesEqualLfareBand_ok hS h0_0 h1_0 hq62
    refine WL.fnq hE (hc_) (runs_if hE rfl rfl rfl hg60) bd24 rfl rfl rfl ?_
    clear hE hS hc_; rintro e w ⟨rfl, hS⟩; refine ⟨_, rfl, ?_⟩; clear a; intro a hE
    refine vP hS hE (Gives.pickT hE rfl hg60 rfl) rfl ?_; clear hE a; intro a hE
    refine vP hS hE (Gives.p hE rfl) rfl ?_; clear hE a; intro a hE
    rcases Bool.eq_false_or_eq_true q61 with hg63 | hg63
    ·replace hq53 := iteT hg63 hq53
     refine WL.vS hS hE (runs_if hE rfl rfl rfl hg63) (Gives.fld hE rfl fl25_3) rfl ?_; clear hE a; intro a hE
     refine WL.vS hS hE (runs_if hE rfl rfl rfl hg63) (Gives.loadB hE 1 rfl rfl rfl ty23) rfl ?_; clear hE a; intro a hE
     refine WL.vS hS hE (runs_if hE rfl rfl rfl hg63) (Gives.fld hE rfl fl25_3) rfl ?_; clear hE a; intro a hE
     refine WL.vS hS hE (runs_if hE rfl rfl rfl hg63) (Gives.loadB hE 0 rfl rfl rfl ty23) rfl ?_; clear hE a; intro a hE
     refine WL.vS hS hE (runs_if hE rfl rfl rfl hg63) (Gives.p hE rfl) rfl ?_; clear hE a; intro a hE
     obtain ⟨q64, hq65, hq53⟩ := bindS hq53
     have hc_ := SlicesEqualFuncLfareRule_v1_ok hS h0_1 h1_1 hq65
     refine WL.fnq hE (hc_) (runs_if hE rfl rfl rfl hg63) bd25 rfl rfl rfl ?_
     clear hE hS hc_; rintro e w ⟨rfl, hS⟩; refine ⟨_, rfl, ?_⟩; clear a; intro a hE
     refine vP hS hE (Gives.pickT hE rfl hg63 rfl) rfl ?_; clear hE a; intro a hE
     refine vP hS hE (Gives.p hE rfl) rfl ?_; clear hE a; intro a hE
     refine WL.nil ?_
     subst hK58
     exact ⟨q64, Option.some.inj hq53, hE.pick _ ⟨rfl, trivial⟩, hS⟩
    ·replace hq53 := iteF hg63 hq53
     refine WL.no hE (runs_not hE rfl rfl rfl (by rw [hg63]; decide)) rfl ?_; clear hE a; intro a hE
     refine WL.no hE (runs_not hE rfl rfl rfl (by rw [hg63]; decide)) rfl ?_; clear hE a; intro a hE
     refine WL.no hE (runs_not hE rfl rfl rfl (by rw [hg63]; decide)) rfl ?_; clear hE a; intro a hE
     refine WL.no hE (runs_not hE rfl rfl rfl (by rw [hg63]; decide)) rfl ?_; clear hE a; intro a hE
     refine WL.no hE (runs_not hE rfl rfl rfl (by rw [hg63]; decide)) rfl ?_; clear hE a; intro a hE
     refine WL.no hE (runs_not hE rfl rfl rfl (by rw [hg63]; decide)) rfl ?_; clear hE a; intro a hE
     refine vP hS hE (Gives.pickF hE rfl hg63 rfl) rfl ?_; clear hE a; intro a hE
     refine vP hS hE (Gives.p hE rfl) rfl ?_; clear hE a; intro a hE
     refine WL.nil ?_
     subst hK58
     exact ⟨false, Option.some.inj hq53, hE.pick _ ⟨rfl, trivial⟩, hS⟩
   ·replace hq53 := iteF hg60 hq53
    refine WL.no hE (runs_not hE rfl rfl rfl (by rw [hg60]; decide)) rfl ?_; clear hE a; intro a hE
    refine WL.no hE (runs_not hE rfl rfl rfl (by rw [hg60]; decide)) rfl ?_; clear hE a; intro a hE
    refine WL.no hE (runs_not hE rfl rfl rfl (by rw [hg60]; decide)) rfl ?_; clear hE a; intro a hE
    refine WL.no hE (runs_not hE rfl rfl rfl (by rw [hg60]; decide)) rfl ?_; clear hE a; intro a hE
    refine WL.no hE (runs_not hE rfl rfl rfl (by rw [hg60]; decide)) rfl ?_; clear hE a; intro a hE
    refine vP hS hE (Gives.pickF hE rfl hg60 rfl) rfl ?_; clear hE a; intro a hE
    refine vP hS hE (Gives.p hE rfl) rfl ?_; clear hE a; intro a hE
    refine WL.no hE (runs_not hE rfl rfl rfl (by decide)) rfl ?_; clear hE a; intro a hE
    refine WL.no hE (runs_not hE rfl rfl rfl (by decide)) rfl ?_; clear hE a; intro a hE
    refine WL.no hE (runs_not hE rfl rfl rfl (by decide)) rfl ?_; clear hE a; intro a hE
    refine WL.no hE (runs_not hE rfl rfl rfl (by decide)) rfl ?_; clear hE a; intro a hE
    refine WL.no hE (runs_not hE rfl rfl rfl (by decide)) rfl ?_; clear hE a; intro a hE
    refine WL.no hE (runs_not hE rfl rfl rfl (by decide)) rfl ?_; clear hE a; intro a hE
    refine vP hS hE (Gives.pickF hE rfl rfl rfl) rfl ?_; clear hE a; intro a hE
    refine vP hS hE (Gives.p hE rfl) rfl ?_; clear hE a; intro a hE
    refine WL.nil ?_
    subst hK58
    exact ⟨false, Option.some.inj hq53, hE.pick _ ⟨rfl, trivial⟩, hS⟩
  ·replace hq53 := iteF hg59 hq53
   refine WL.no hE (runs_not hE rfl rfl rfl (by rw [hg59]; decide)) rfl ?_; clear hE a; intro a hE
   refine WL.no hE (runs_not hE rfl rfl rfl (by rw [hg59]; decide)) rfl ?_; clear hE a; intro a hE
   refine WL.no hE (runs_not hE rfl rfl rfl (by rw [hg59]; decide)) rfl ?_; clear hE a; intro a hE
   refine WL.no hE (runs_not hE rfl rfl rfl (by rw [hg59]; decide)) rfl ?_; clear hE a; intro a hE
   refine WL.no hE (runs_not hE rfl rfl rfl (by rw [hg59]; decide)) rfl ?_; clear hE a; intro a hE
   refine vP hS hE (Gives.pickF hE rfl hg59 rfl) rfl ?_; clear hE a; intro a hE
   refine vP hS hE (Gives.p hE rfl) rfl ?_; clear hE a; intro a hE
   refine WL.no hE (runs_not hE rfl rfl rfl (by decide)) rfl ?_; clear hE a; intro a hE
   refine WL.no hE (runs_not hE rfl rfl rfl (by decide)) rfl ?_; clear hE a; intro a hE
   refine WL.no hE (runs_not hE rfl rfl rfl (by decide)) rfl ?_; clear hE a; intro a hE
   refine WL.no hE (runs_not hE rfl rfl rfl (by decide)) rfl ?_; clear hE a; intro a hE
   refine WL.no hE (runs_not hE rfl rfl rfl (by decide)) rfl ?_; clear hE a; intro a hE
   refine vP hS hE (Gives.pickF hE rfl rfl rfl) rfl ?_; clear hE a; intro a hE
   refine vP hS hE (Gives.p hE rfl) rfl ?_; clear hE a; intro a hE
   refine WL.no hE (runs_not hE rfl rfl rfl (by decide)) rfl ?_; clear hE a; intro a hE
   refine WL.no hE (runs_not hE rfl rfl rfl (by decide)) rfl ?_; clear hE a; intro a hE
   refine WL.no hE (runs_not hE rfl rfl rfl (by decide)) rfl ?_; clear hE a; intro a hE
   refine WL.no hE (runs_not hE rfl rfl rfl (by decide)) rfl ?_; clear hE a; intro a hE
   refine WL.no hE (runs_not hE rfl rfl rfl (by decide)) rfl ?_; clear hE a; intro a hE
   refine WL.no hE (runs_not hE rfl rfl rfl (by decide)) rfl ?_; clear hE a; intro a hE
   refine vP hS hE (Gives.pickF hE rfl rfl rfl) rfl ?_; clear hE a; intro a hE
   refine vP hS hE (Gives.p hE rfl) rfl ?_; clear hE a; intro a hE
   refine WL.nil ?_
   subst hK58
   exact ⟨false, Option.some.inj hq53, hE.pick _ ⟨rfl, trivial⟩, hS⟩
 ·clear hE hS a w; rintro a w ⟨q57, rfl, hE, hS⟩
  refine W.ret ?_
  refine finG (fn := Tryz.f10) (rs := [.tmp 4]) (vs := [_]) hE rfl ⟨rfl, trivial⟩ ?_
  obtain rfl := Option.some.inj hr
  replace hS := hS.tail
  replace hS := hS.tail
  exact ⟨rfl, hS⟩
set_option maxHeartbeats 8000000 in
theorem Fishlaw2FareTexts_ok {fu : Nat}  {w : World} {s : Sg} {R : List HP} {x0 : FareTariff} {a0_0 : Option Addr} {c0_0 : Nat} {a0_1 : Option Addr} {c0_1 : Nat} (hS : St w s (R)) (hTab : TabX s) (h0_0 : Sl 2 RFareBand s a0_0 c0_0 x0.Bands) (h0_1 : Sl 7 RFareRule s a0_1 c0_1 x0.Rules) {r : Bool} (hr : Fishlaw2FareTexts fu x0 = some r) :
  Calls Tryz.prog 3 [.agg (List.toArray [.bool x0.ByKm, .slice a0_0 x0.Bands.length c0_0, .int .i64 x0.Round, .slice a0_1 x0.Rules.length c0_1])].toArray w (fun e w => e = .returned (.bool r) ∧ St w s (R)) := by
 refine enter Tryz.func3 rfl rfl rfl fun a hE => ?_
 rw [Fishlaw2FareTexts] at hr
 refine W.seq (W.region ?_)
 refine WL.box hE hS (runs_plain rfl) rfl rfl rfl ?_; clear hE hS a w; intro b51 a w hE hS
 refine vP hS hE (Gives.p hE rfl) rfl ?_; clear hE a; intro a hE
 refine WL.nil ?_
 refine W.seq (W.region ?_)
 refine vP hS hE (Gives.loadBA hE 0 rfl rfl ty25) rfl ?_; clear hE a; intro a hE
 obtain ⟨q52, hq53, hr⟩ := bindS hr
 have hc_ := FareText_ok hS (TabG.mono (Sg.Le.refl _) hTab) h0_0 h0_1 hq53
 refine WL.fnq hE (hc_) (runs_plain rfl) bd5 rfl rfl rfl ?_
 clear hE hS hc_; rintro e w ⟨rfl, hS⟩; refine ⟨_, rfl, ?_⟩; clear a; intro a hE
 refine vP hS hE (Gives.p hE rfl) rfl ?_; clear hE a; intro a hE
 refine vP hS hE (Gives.p hE rfl) rfl ?_; clear hE a; intro a hE
 refine vP hS hE (Gives.p hE rfl) rfl ?_; clear hE a; intro a hE
 refine vP hS hE (Gives.p hE rfl) rfl ?_; clear hE a; intro a hE
 refine vP hS hE (Gives.p hE rfl) rfl ?_; clear hE a; intro a hE
 refine WL.nil ?_
 refine W.seq (W.region ?_)
 refine vP hS hE (Gives.loadBA hE 0 rfl rfl ty25) rfl ?_; clear hE a; intro a hE
 obtain ⟨q54, hq55, hr⟩ := bindS hr
 have hc_ := Fishref2TariffFault_ok hS h0_0 h0_1 hq55
 refine WL.fnq hE (hc_) (runs_plain rfl) bd6 rfl rfl rfl ?_
 clear hE hS hc_; rintro e w ⟨rfl, hS⟩; refine ⟨_, rfl, ?_⟩; clear a; intro a hE
 refine vP hS hE (Gives.p hE rfl) rfl ?_; clear hE a; intro a hE
 refine WL.nil ?_
 refine W.seq ?_
 refine W.seq (W.region ?_)
 refine vP hS hE (Gives.p hE rfl) rfl ?_; clear hE a; intro a hE
 refine vP hS hE (Gives.p hE rfl) rfl ?_; clear hE a; intro a hE
 refine WL.nil ?_
 refine W.cond hE rfl (fun hc56 => ?_) (fun hc56 => ?_)
 ·replace hr := iteT hc56 hr
  refine W.seq ?_
  obtain ⟨q58, hq57, hr⟩ := bindS hr
  refine W.cut (fun a w => ∃ (q61 : Bool), q61 = q58 ∧ Rep a 52 [(2, .bool q61)] ∧ St w s (pt b51 (.cells #[.bool x0.ByKm, .slice a0_0 x0.Bands.length c0_0, .int .i64 x0.Round, .slice a0_1 x0.Rules.length c0_1] 25 (0, 0)) :: R)) ?_ ?_
  ·refine W.gen fun K62 hK62 => ?_
   refine W.region ?_
   obtain ⟨q63, hq64, hq57⟩ := bindS hq57
   have hc_ := Fishlaw2fares_ok hS  hq64
   refine WL.fnq hE (hc_) (runs_plain rfl) bd7 rfl rfl rfl ?_
   clear hE hS hc_; rintro e w ⟨rfl, hS⟩; refine ⟨_, rfl, ?_⟩; clear a; intro a hE
   refine vP hS hE (Gives.p hE rfl) rfl ?_; clear hE a; intro a hE
   rcases Bool.eq_false_or_eq_true q63 with hg65 | hg65
   ·replace hq57 := iteT hg65 hq57
    refine WL.vS hS hE (runs_if hE rfl rfl rfl hg65) (Gives.p hE rfl) rfl ?_; clear hE a; intro a hE
    refine WL.vS hS hE (runs_if hE rfl rfl rfl hg65) (Gives.p hE rfl) rfl ?_; clear hE a; intro a hE
    refine WL.vS hS hE (runs_if hE rfl rfl rfl hg65) (Gives.p hE rfl) rfl ?_; clear hE a; intro a hE
    refine vP hS hE (Gives.pickT hE rfl hg65 rfl) rfl ?_; clear hE a; intro a hE
    refine vP hS hE (Gives.p hE rfl) rfl ?_; clear hE a; intro a hE
    rcases Bool.eq_false_or_eq_true (q52.2 == q54) with hg66 | hg66
    ·replace hq57 := iteT hg66 hq57
     refine WL.vS hS hE (runs_if hE rfl rfl rfl hg66) (Gives.p hE rfl) rfl ?_; clear hE a; intro a hE
     refine WL.vS hS hE (runs_if hE rfl rfl rfl hg66) (Gives.eqSt hE rfl rfl) rfl ?_; clear hE a; intro a hE
     refine vP hS hE (Gives.pickT hE rfl hg66 rfl) rfl ?_; clear hE a; intro a hE
     refine vP hS hE (Gives.p hE rfl) rfl ?_; clear hE a; intro a hE
     refine WL.nil ?_
     subst hK62
     exact ⟨(seq q52.1 (str [])), Option.some.inj hq57, hE.pick _ ⟨rfl, trivial⟩, hS⟩
    ·replace hq57 := iteF hg66 hq57
     refine WL.no hE (runs_not hE rfl rfl rfl (by rw [hg66]; decide)) rfl ?_; clear hE a; intro a hE
     refine WL.no hE (runs_not hE rfl rfl rfl (by rw [hg66]; decide)) rfl ?_; clear hE a; intro a hE
     refine vP hS hE (Gives.pickF hE rfl hg66 rfl) rfl ?_; clear hE a; intro a hE
     refine vP hS hE (Gives.p hE rfl) rfl ?_; clear hE a; intro a hE
     refine WL.nil ?_
     subst hK62
     exact ⟨false, Option.some.inj hq57, hE.pick _ ⟨rfl, trivial⟩, hS⟩
   ·replace hq57 := iteF hg65 hq57
    refine WL.no hE (runs_not hE rfl rfl rfl (by rw [hg65]; decide)) rfl ?_; clear hE a; intro a hE
    refine WL.no hE (runs_not hE rfl rfl rfl (by rw [hg65]; decide)) rfl ?_; clear hE a; intro a hE
    refine WL.no hE (runs_not hE rfl rfl rfl (by rw [hg65]; decide)) rfl ?_; clear hE a; intro a hE
    refine vP hS hE (Gives.pickF hE rfl hg65 rfl) rfl ?_; clear hE a; intro a hE
    refine vP hS hE (Gives.p hE rfl) rfl ?_; clear hE a; intro a hE
    refine WL.no hE (runs_not hE rfl rfl rfl (by decide)) rfl ?_; clear hE a; intro a hE
    refine WL.no hE (runs_not hE rfl rfl rfl (by decide)) rfl ?_; clear hE a; intro a hE
    refine vP hS hE (Gives.pickF hE rfl rfl rfl) rfl ?_; clear hE a; intro a hE
    refine vP hS hE (Gives.p hE rfl) rfl ?_; clear hE a; intro a hE
    refine WL.nil ?_
    subst hK62
    exact ⟨false, Option.some.inj hq57, hE.pick _ ⟨rfl, trivial⟩, hS⟩
  ·clear hE hS a w; rintro a w ⟨q61, rfl, hE, hS⟩
   refine W.ret ?_
   refine finG (fn := Tryz.f3) (rs := [.tmp 2]) (vs := [_]) hE rfl ⟨rfl, trivial⟩ ?_
   obtain rfl := Option.some.inj hr
   replace hS := hS.tail
   exact ⟨rfl, hS⟩
 ·replace hr := iteF hc56 hr
  refine W.skip ?_
  refine W.seq (W.region ?_)
  refine vP hS hE (Gives.p hE rfl) rfl ?_; clear hE a; intro a hE
  obtain ⟨q67, hq68, hr⟩ := bindS hr
  have hc_ := FareRead_ok hS (TabG.mono (Sg.Le.refl _) hTab) hq68
  refine WL.fnq hE (hc_) (runs_plain rfl) bd8 rfl rfl rfl ?_
  clear hE hS hc_; rintro e w ⟨cs69, s71, rfl, hle72, h70, hS⟩; refine ⟨_, rfl, ?_⟩; clear a; intro a hE
  replace h0_0 := Sl.mono RFareBand.mono hle72 h0_0
  replace h0_1 := Sl.mono RFareRule.mono hle72 h0_1
  obtain ⟨a73, c74, a76, c77, rfl, h75, h78⟩ := h70
  refine vP hS hE (Gives.p hE rfl) rfl ?_; clear hE a; intro a hE
  refine vP hS hE (Gives.p hE rfl) rfl ?_; clear hE a; intro a hE
  refine vP hS hE (Gives.p hE rfl) rfl ?_; clear hE a; intro a hE
  refine WL.alloc hE hS (runs_plain rfl) zr25 rfl ?_; clear hE hS a w; intro b79 a w hE hS
  refine WL.storeI hE hS 0 rfl [.bool q67.1.ByKm, .slice a73 q67.1.Bands.length c74, .int .i64 q67.1.Round, .slice a76 q67.1.Rules.length c77] (runs_plain rfl) rfl rfl rfl ty25 rfl rfl rfl rfl ?_; clear hE hS a w; intro a w hE hS
  refine vP hS hE (Gives.p hE rfl) rfl ?_; clear hE a; intro a hE
  refine WL.nil ?_
  refine W.seq ?_
  obtain ⟨q81, hq80, hr⟩ := bindS hr
  refine W.cut (fun a w => ∃ (q84 : Bool), q84 = q81 ∧ Rep a 52 [(2, .bool q84)] ∧ St w s71 (pt b79 (.cells #[.bool q67.1.ByKm, .slice a73 q67.1.Bands.length c74, .int .i64 q67.1.Round, .slice a76 q67.1.Rules.length c77] 25 (0, 0)) :: pt b51 (.cells #[.bool x0.ByKm, .slice a0_0 x0.Bands.length c0_0, .int .i64 x0.Round, .slice a0_1 x0.Rules.length c0_1] 25 (0, 0)) :: R)) ?_ ?_
  ·refine W.gen fun K85 hK85 => ?_
   refine W.region ?_
   obtain ⟨q86, hq87, hq80⟩ := bindS hq80
   have hc_ := Fishlaw2fares_ok hS  hq87
   refine WL.fnq hE (hc_) (runs_plain rfl) bd7 rfl rfl rfl ?_
   clear hE hS hc_; rintro e w ⟨rfl, hS⟩; refine ⟨_, rfl, ?_⟩; clear a; intro a hE
   refine vP hS hE (Gives.p hE rfl) rfl ?_; clear hE a; intro a hE
   rcases Bool.eq_false_or_eq_true q86 with hg88 | hg88
   ·replace hq80 := iteT hg88 hq80
    refine WL.vS hS hE (runs_if hE rfl rfl rfl hg88) (Gives.p hE rfl) rfl ?_; clear hE a; intro a hE
    refine WL.vS hS hE (runs_if hE rfl rfl rfl hg88) (Gives.p hE rfl) rfl ?_; clear hE a; intro a hE
    refine vP hS hE (Gives.pickT hE rfl hg88 rfl) rfl ?_; clear hE a; intro a hE
    refine vP hS hE (Gives.p hE rfl) rfl ?_; clear hE a; intro a hE
    rcases Bool.eq_false_or_eq_true (q52.2 == 0) with hg89 | hg89
    ·replace hq80 := iteT hg89 hq80
     refine WL.vS hS hE (runs_if hE rfl rfl rfl hg89) (Gives.p hE rfl) rfl ?_; clear hE a; intro a hE
     refine WL.vS hS hE (runs_if hE rfl rfl rfl hg89) (Gives.loadBA hE 1 rfl rfl ty25) rfl ?_; clear hE a; intro a hE
     obtain ⟨q90, hq91, hq80⟩ := bindS hq80
     have hc_ := Fishref2TariffText_ok hS (TabG.mono hle72 hTab) h0_0 h0_1 hq91
     refine WL.fnq hE (hc_) (runs_if hE rfl rfl rfl hg89) bd9 rfl rfl rfl ?_
     clear hE hS hc_; rintro e w ⟨rfl, hS⟩; refine ⟨_, rfl, ?_⟩; clear a; intro a hE
     refine WL.vS hS hE (runs_if hE rfl rfl rfl hg89) (Gives.eqSt hE rfl rfl) rfl ?_; clear hE a; intro a hE
     refine vP hS hE (Gives.pickT hE rfl hg89 rfl) rfl ?_; clear hE a; intro a hE
     refine vP hS hE (Gives.p hE rfl) rfl ?_; clear hE a; intro a hE
     rcases Bool.eq_false_or_eq_true (seq q52.1 q90) with hg92 | hg92
     ·replace hq80 := iteT hg92 hq80
      refine WL.vS hS hE (runs_if hE rfl rfl rfl hg92) (Gives.p hE rfl) rfl ?_; clear hE a; intro a hE
      refine WL.vS hS hE (runs_if hE rfl rfl rfl hg92) (Gives.p hE rfl) rfl ?_; clear hE a; intro a hE
      refine vP hS hE (Gives.pickT hE rfl hg92 rfl) rfl ?_; clear hE a; intro a hE
      refine vP hS hE (Gives.p hE rfl) rfl ?_; clear hE a; intro a hE
      rcases Bool.eq_false_or_eq_true (q67.2 == 0) with hg93 | hg93
      ·replace hq80 := iteT hg93 hq80
       refine WL.vS hS hE (runs_if hE rfl rfl rfl hg93) (Gives.loadBA hE 0 rfl rfl ty25) rfl ?_; clear hE a; intro a hE
       refine WL.vS hS hE (runs_if hE rfl rfl rfl hg93) (Gives.loadBA hE 1 rfl rfl ty25) rfl ?_; clear hE a; intro a hE
       obtain ⟨q94, hq95, hq80⟩ := bindS hq80
       have hc_ := Fishref2SameTariff_ok hS h75 h78 h0_0 h0_1 hq95
       refine WL.fnq hE (hc_) (runs_if hE rfl rfl rfl hg93) bd10 rfl rfl rfl ?_
       clear hE hS hc_; rintro e w ⟨rfl, hS⟩; refine ⟨_, rfl, ?_⟩; clear a; intro a hE
       refine vP hS hE (Gives.pickT hE rfl hg93 rfl) rfl ?_; clear hE a; intro a hE
       refine vP hS hE (Gives.p hE rfl) rfl ?_; clear hE a; intro a hE
       refine WL.nil ?_
       subst hK85
       exact ⟨q94, Option.some.inj hq80, hE.pick _ ⟨rfl, trivial⟩, hS⟩
      ·replace hq80 := iteF hg93 hq80
       refine WL.no hE (runs_not hE rfl rfl rfl (by rw [hg93]; decide)) rfl ?_; clear hE a; intro a hE
       refine WL.no hE (runs_not hE rfl rfl rfl (by rw [hg93]; decide)) rfl ?_; clear hE a; intro a hE
       refine WL.no hE (runs_not hE rfl rfl rfl (by rw [hg93]; decide)) rfl ?_; clear hE a; intro a hE
       refine vP hS hE (Gives.pickF hE rfl hg93 rfl) rfl ?_; clear hE a; intro a hE
       refine vP hS hE (Gives.p hE rfl) rfl ?_; clear hE a; intro a hE
       refine WL.nil ?_
       subst hK85
       exact ⟨false, Option.some.inj hq80, hE.pick _ ⟨rfl, trivial⟩, hS⟩
     ·replace hq80 := iteF hg92 hq80
      refine WL.no hE (runs_not hE rfl rfl rfl (by rw [hg92]; decide)) rfl ?_; clear hE a; intro a hE
      refine WL.no hE (runs_not hE rfl rfl rfl (by rw [hg92]; decide)) rfl ?_; clear hE a; intro a hE
      refine vP hS hE (Gives.pickF hE rfl hg92 rfl) rfl ?_; clear hE a; intro a hE
      refine vP hS hE (Gives.p hE rfl) rfl ?_; clear hE a; intro a hE
      refine WL.no hE (runs_not hE rfl rfl rfl (by decide)) rfl ?_; clear hE a; intro a hE
      refine WL.no hE (runs_not hE rfl rfl rfl (by decide)) rfl ?_; clear hE a; intro a hE
      refine WL.no hE (runs_not hE rfl rfl rfl (by decide)) rfl ?_; clear hE a; intro a hE
      refine vP hS hE (Gives.pickF hE rfl rfl rfl) rfl ?_; clear hE a; intro a hE
      refine vP hS hE (Gives.p hE rfl) rfl ?_; clear hE a; intro a hE
      refine WL.nil ?_
      subst hK85
      exact ⟨false, Option.some.inj hq80, hE.pick _ ⟨rfl, trivial⟩, hS⟩
    ·replace hq80 := iteF hg89 hq80
     refine WL.no hE (runs_not hE rfl rfl rfl (by rw [hg89]; decide)) rfl ?_; clear hE a; intro a hE
     refine WL.no hE (runs_not hE rfl rfl rfl (by rw [hg89]; decide)) rfl ?_; clear hE a; intro a hE
     refine WL.no hE (runs_not hE rfl rfl rfl (by rw [hg89]; decide)) rfl ?_; clear hE a; intro a hE
     refine WL.no hE (runs_not hE rfl rfl rfl (by rw [hg89]; decide)) rfl ?_; clear hE a; intro a hE
     refine vP hS hE (Gives.pickF hE rfl hg89 rfl) rfl ?_; clear hE a; intro a hE
     refine vP hS hE (Gives.p hE rfl) rfl ?_; clear hE a; intro a hE
     refine WL.no hE (runs_not hE rfl rfl rfl (by decide)) rfl ?_; clear hE a; intro a hE
     refine WL.no hE (runs_not hE rfl rfl rfl (by decide)) rfl ?_; clear hE a; intro a hE
     refine vP hS hE (Gives.pickF hE rfl rfl rfl) rfl ?_; clear hE a; intro a hE
     refine vP hS hE (Gives.p hE rfl) rfl ?_; clear hE a; intro a hE
     refine WL.no hE (runs_not hE rfl rfl rfl (by decide)) rfl ?_; clear hE a; intro a hE
     refine WL.no hE (runs_not hE rfl rfl rfl (by decide)) rfl ?_; clear hE a; intro a hE
     refine WL.no hE (runs_not hE rfl rfl rfl (by decide)) rfl ?_; clear hE a; intro a hE
     refine vP hS hE (Gives.pickF hE rfl rfl rfl) rfl ?_; clear hE a; intro a hE
     refine vP hS hE (Gives.p hE rfl) rfl ?_; clear hE a; intro a hE
     refine WL.nil ?_
     subst hK85
     exact ⟨false, Option.some.inj hq80, hE.pick _ ⟨rfl, trivial⟩, hS⟩
   ·replace hq80 := iteF hg88 hq80
    refine WL.no hE (runs_not hE rfl rfl rfl (by rw [hg88]; decide)) rfl ?_; clear hE a; intro a hE
    refine WL.no hE (runs_not hE rfl rfl rfl (by rw [hg88]; decide)) rfl ?_; clear hE a; intro a hE
    refine vP hS hE (Gives.pickF hE rfl hg88 rfl) rfl ?_; clear hE a; intro a hE
    refine vP hS hE (Gives.p hE rfl) rfl ?_; clear hE a; intro a hE
    refine WL.no hE (runs_not hE rfl rfl rfl (by decide)) rfl ?_; clear hE a; intro a hE
    refine WL.no hE (runs_not hE rfl rfl rfl (by decide)) rfl ?_; clear hE a; intro a hE
    refine WL.no hE (runs_not hE rfl rfl rfl (by decide)) rfl ?_; clear hE a; intro a hE
    refine WL.no hE (runs_not hE rfl rfl rfl (by decide)) rfl ?_; clear hE a; intro a hE
    refine vP hS hE (Gives.pickF hE rfl rfl rfl) rfl ?_; clear hE a; intro a hE
    refine vP hS hE (Gives.p hE rfl) rfl ?_; clear hE a; intro a hE
    refine WL.no hE (runs_not hE rfl rfl rfl (by decide)) rfl ?_; clear hE a; intro a hE
    refine WL.no hE (runs_not hE rfl rfl rfl (by decide)) rfl ?_; clear hE a; intro a hE
    refine vP hS hE (Gives.pickF hE rfl rfl rfl) rfl ?_; clear hE a; intro a hE
    refine vP hS hE (Gives.p hE rfl) rfl ?_; clear hE a; intro a hE
    refine WL.no hE (runs_not hE rfl rfl rfl (by decide)) rfl ?_; clear hE a; intro a hE
    refine WL.no hE (runs_not hE rfl rfl rfl (by decide)) rfl ?_; clear hE a; intro a hE
    refine WL.no hE (runs_not hE rfl rfl rfl (by decide)) rfl ?_; clear hE a; intro a hE
    refine vP hS hE (Gives.pickF hE rfl rfl rfl) rfl ?_; clear hE a; intro a hE
    refine vP hS hE (Gives.p hE rfl) rfl ?_; clear hE a; intro a hE
    refine WL.nil ?_
    subst hK85
    exact ⟨false, Option.some.inj hq80, hE.pick _ ⟨rfl, trivial⟩, hS⟩
  ·clear hE hS a w; rintro a w ⟨q84, rfl, hE, hS⟩
   refine W.ret ?_
   refine finG (fn := Tryz.f3) (rs := [.tmp 2]) (vs := [_]) hE rfl ⟨rfl, trivial⟩ ?_
   obtain rfl := Option.some.inj hr
   replace hS := hS.tail
   replace hS := hS.tail
   exact ⟨rfl, (hS.down hle72)⟩
end Go.Proofs.YtfdifpegldailaaGreatDoor
