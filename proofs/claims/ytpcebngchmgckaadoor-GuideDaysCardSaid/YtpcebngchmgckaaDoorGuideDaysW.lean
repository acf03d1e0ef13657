/- The walks of the functions that GuideDays reaches: each call comes to what its mirror says. The conditions are those of each contract. -/
import Derived.Test.YtpcebngchmgckaaDoorProg
import Derived.Test.YtpcebngchmgckaaDoorGuideDaysM
import Derived.Test.YtpcebngchmgckaaDoorFpAllT
import Derived.Test.YtpcebngchmgckaaDoorGuideDaysS
import Derived.Test.YtpcebngchmgckaaDoorFpMapS
import Derived.Test.YtpcebngchmgckaaDoorFpFld
import Derived.Test.YtpcebngchmgckaaDoorFpMapG
import Derived.Test.YtpcebngchmgckaaDoorFpMapV
import Derived.Test.YtpcebngchmgckaaDoorFpMaps
import Derived.Test.YtpcebngchmgckaaDoorFpOrd
import Derived.Test.YtpcebngchmgckaaDoorFpRf
import Derived.Test.YtpcebngchmgckaaDoorFpRng
import Derived.Test.YtpcebngchmgckaaDoorGuideDaysW2
set_option maxRecDepth 10000
namespace Go.Proofs.YtpcebngchmgckaaDoor
open Go Go.Fp
set_option maxHeartbeats 8000000 in
theorem GuideNetleastOf_1_v1_ok : ∀ {fu : Nat} {w : World} {s : Sg} {R : List HP} {pb0 : Nat} {pb1 : Nat} {pb2 : Nat} {pb3 : Nat} {pb4 : Nat} {x0 : List GuideRide} {a0 : Option Addr} {c0 : Nat} {y0 : GuideNet} {a_y0_0 : Option Addr} {c_y0_0 : Nat} {a_y0_1 : Option Addr} {c_y0_1 : Nat} {y1 : GuidePoint} {y2 : Int} {y3_0 : List (Ar3i64 × Bool)} {b_v0 : Nat} (_hS : St w s (pt pb0 (.cells #[.slice a_y0_0 y0.Day.Trains.length c_y0_0, .slice a_y0_1 y0.Day.Turns.length c_y0_1, .int .i64 y0.least] 94 (0, 0)) :: pt pb1 (.cells #[.int .i64 y1.Dep, .int .i64 y1.Arr, .int .i64 y1.Rides] 62 (0, 0)) :: pt pb2 (.cells #[.int .i64 y2] 3 (0, 0)) :: pt pb3 (.cells #[.map (some b_v0)] 128 (0, 0)) :: pt pb4 (.cells #[.func (.func 102) #[] #[.pointer (some ⟨pb0, 0, none⟩), .pointer (some ⟨pb1, 0, none⟩), .pointer (some ⟨pb2, 0, none⟩), .pointer (some ⟨pb3, 0, none⟩), .pointer (some ⟨pb4, 0, none⟩)]] 130 (0, 0)) :: mapC keyAr3i64.f Value.bool b_v0 y3_0 :: R)) (_h0 : Sl 3 RGuideRide s a0 c0 x0) (_h_y0_0 : Sl 4 RApiTrain s a_y0_0 c_y0_0 y0.Day.Trains) (_h_y0_1 : Sl 1 (RL 1 (RI .i64)) s a_y0_1 c_y0_1 y0.Day.Turns) {r : (List GuideRide) × (List (Ar3i64 × Bool))} (_hr : GuideNetleastOf_1_v1 fu x0 y0 y1 y2 y3_0 = some r),
    Calls Tryd.prog 102 [.slice a0 x0.length c0, .pointer (some ⟨pb0, 0, none⟩), .pointer (some ⟨pb1, 0, none⟩), .pointer (some ⟨pb2, 0, none⟩), .pointer (some ⟨pb3, 0, none⟩), .pointer (some ⟨pb4, 0, none⟩)].toArray w (fun e w => ∃ (a0 : Option Addr) (c0 : Nat) (t : Sg), e = .returned (.slice a0 r.1.length c0) ∧ s.Le t ∧ Sl 3 RGuideRide t a0 c0 r.1 ∧ (r.1 = [] → a0 = none) ∧ St w t (pt pb0 (.cells #[.slice a_y0_0 y0.Day.Trains.length c_y0_0, .slice a_y0_1 y0.Day.Turns.length c_y0_1, .int .i64 y0.least] 94 (0, 0)) :: pt pb1 (.cells #[.int .i64 y1.Dep, .int .i64 y1.Arr, .int .i64 y1.Rides] 62 (0, 0)) :: pt pb2 (.cells #[.int .i64 y2] 3 (0, 0)) :: pt pb3 (.cells #[.map (some b_v0)] 128 (0, 0)) :: pt pb4 (.cells #[.func (.func 102) #[] #[.pointer (some ⟨pb0, 0, none⟩), .pointer (some ⟨pb1, 0, none⟩), .pointer (some ⟨pb2, 0, none⟩), .pointer (some ⟨pb3, 0, none⟩), .pointer (some ⟨pb4, 0, none⟩)]] 130 (0, 0)) :: mapC keyAr3i64.f Value.bool b_v0 r.2 :: R)) := by
  intro fu
  induction fu with
  | zero => intro w s R pb0 pb1 pb2 pb3 pb4 x0 a0 c0 y0 a_y0_0 c_y0_0 a_y0_1 c_y0_1 y1 y2 y3_0 b_v0 hS h0 h_y0_0 h_y0_1 r hr; rw [GuideNetleastOf_1_v1] at hr; exact absurd hr (by simp)
  | succ fu ih_GuideNetleastOf_1_v1 =>
    intro w s R pb0 pb1 pb2 pb3 pb4 x0 a0 c0 y0 a_y0_0 c_y0_0 a_y0_1 c_y0_1 y1 y2 y3_0 b_v0 hS h0 h_y0_0 h_y0_1 r hr
    rw [GuideNetleastOf_1_v1] at hr
    generalize GuideNetleastOf_1_v1 fu = self_GuideNetleastOf_1_v1 at hr ih_GuideNetleastOf_1_v1
    refine enter Tryd.func102 rfl rfl rfl fun a hE => ?_
    refine W.seq ?_
    refine W.region ?_
    refine WL.box hE hS (runs_plain rfl) rfl rfl rfl ?_; clear hE hS a w; intro b53 a w hE hS
    refine WL.alloc hE hS (runs_plain rfl) zr26 rfl ?_; clear hE hS a w; intro b54 a w hE hS
    refine WL.nil ?_
    refine W.seq ?_
    refine W.region ?_
    refine WL.vS hS hE (runs_plain rfl) (Gives.loadB hE 1 rfl rfl rfl ty26) rfl ?_; clear hE a; intro a hE
    refine WL.vS hS hE (runs_plain rfl) (Gives.loadB hE 1 rfl rfl rfl ty26) rfl ?_; clear hE a; intro a hE
    refine WL.vS hS hE (runs_plain rfl) (Gives.len hE rfl sl26) rfl ?_; clear hE a; intro a hE
    refine WL.vS hS hE (runs_plain rfl) (Gives.p hE rfl) rfl ?_; clear hE a; intro a hE
    obtain ⟨x55, hx56, hr⟩ := bindS hr
    obtain ⟨hi57, hlt58, hy59⟩ := gx_some hx56
    obtain ⟨cs60, hl61, hR62, hat63⟩ := h0.at hy59
    subst hR62
    refine WL.vS hS hE (runs_plain rfl) (Gives.idx hE (w64 (((x0).length : Int) - 1)).toNat rfl rfl sl26 hi57 hlt58 (h0.aok hlt58)) rfl ?_; clear hE a; intro a hE
    refine WL.vS hS hE (runs_plain rfl) (Gives.loadA hE rfl (fun w h => hat63 w _ h) ty47) rfl ?_; clear hE a; intro a hE
    refine WL.alloc hE hS (runs_plain rfl) zr47 rfl ?_; clear hE hS a w; intro b64 a w hE hS
    refine WL.storeI hE hS 0 rfl (GuideRide.cells x55) (runs_plain rfl) rfl rfl rfl ty47 rfl rfl rfl rfl ?_; clear hE hS a w; intro a w hE hS
    refine WL.nil ?_
    refine W.seq ?_
    refine W.region ?_
    refine WL.vS hS hE (runs_plain rfl) (Gives.loadBA hE 3 rfl rfl ty94) rfl ?_; clear hE a; intro a hE
    refine WL.vS hS hE (runs_plain rfl) (Gives.loadBA hE 0 rfl rfl ty47) rfl ?_; clear hE a; intro a hE
    obtain ⟨q65, hq66, hr⟩ := bindS hr
    have hc_ := GuideNetoff_ok hS h_y0_0 h_y0_1 hq66
    refine WL.fnq hE (hc_) (runs_plain rfl) bd77 rfl rfl rfl ?_
    clear hE hS hc_; rintro e w ⟨cs67, s69, rfl, hle70, h68, hS⟩; refine ⟨_, rfl, ?_⟩; clear a; intro a hE
    replace h0 := Sl.mono RGuideRide.mono hle70 h0
    replace h_y0_0 := Sl.mono RApiTrain.mono hle70 h_y0_0
    replace h_y0_1 := Sl.mono (RL.mono RI.mono) hle70 h_y0_1
    subst h68
    refine WL.alloc hE hS (runs_plain rfl) zr106 rfl ?_; clear hE hS a w; intro b71 a w hE hS
    refine WL.storeI hE hS 0 rfl (ApiStop.cells q65) (runs_plain rfl) rfl rfl rfl ty106 rfl rfl rfl rfl ?_; clear hE hS a w; intro a w hE hS
    refine WL.nil ?_
    refine W.seq ?_
    refine W.region ?_
    refine WL.vS hS hE (runs_plain rfl) (Gives.fld hE rfl fl62_2) rfl ?_; clear hE a; intro a hE
    refine WL.vS hS hE (runs_plain rfl) (Gives.loadB hE 5 rfl rfl rfl ty3) rfl ?_; clear hE a; intro a hE
    refine WL.vS hS hE (runs_plain rfl) (Gives.loadB hE 3 rfl rfl rfl ty26) rfl ?_; clear hE a; intro a hE
    refine WL.vS hS hE (runs_plain rfl) (Gives.len hE rfl sl26) rfl ?_; clear hE a; intro a hE
    refine WL.vS hS hE (runs_plain rfl) (Gives.p hE rfl) rfl ?_; clear hE a; intro a hE
    refine WL.vS hS hE (runs_plain rfl) (Gives.p hE rfl) rfl ?_; clear hE a; intro a hE
    refine WL.nil ?_
    refine W.seq ?_
    refine W.seq ?_
    refine W.region ?_
    refine WL.vS hS hE (runs_plain rfl) (Gives.p hE rfl) rfl ?_; clear hE a; intro a hE
    refine WL.vS hS hE (runs_plain rfl) (Gives.p hE rfl) rfl ?_; clear hE a; intro a hE
    refine WL.nil ?_
    refine W.cond hE rfl (fun hc72 => ?_) (fun hc72 => ?_)
    · replace hr := iteT hc72 hr
      refine W.seq ?_
      refine W.seq ?_
      obtain ⟨q74, hq73, hr⟩ := bndS hr
      refine W.cut (fun a w => ∃ (q77 : Bool), q77 = q74 ∧ Rep a 74 [(6, .pointer (some ⟨b53, 0, none⟩)), (7, .pointer (some ⟨b54, 0, none⟩)), (40, .bool q77)] ∧ St w s69 (pt b71 (.cells (ApiStop.cells q65).toArray 106 (0, 0)) :: pt b64 (.cells (GuideRide.cells x55).toArray 47 (0, 0)) :: pt b54 (.cells #[.slice none 0 0] 26 (0, 0)) :: pt b53 (.cells #[.slice a0 x0.length c0] 26 (0, 0)) :: pt pb0 (.cells #[.slice a_y0_0 y0.Day.Trains.length c_y0_0, .slice a_y0_1 y0.Day.Turns.length c_y0_1, .int .i64 y0.least] 94 (0, 0)) :: pt pb1 (.cells #[.int .i64 y1.Dep, .int .i64 y1.Arr, .int .i64 y1.Rides] 62 (0, 0)) :: pt pb2 (.cells #[.int .i64 y2] 3 (0, 0)) :: pt pb3 (.cells #[.map (some b_v0)] 128 (0, 0)) :: pt pb4 (.cells #[.func (.func 102) #[] #[.pointer (some ⟨pb0, 0, none⟩), .pointer (some ⟨pb1, 0, none⟩), .pointer (some ⟨pb2, 0, none⟩), .pointer (some ⟨pb3, 0, none⟩), .pointer (some ⟨pb4, 0, none⟩)]] 130 (0, 0)) :: mapC keyAr3i64.f Value.bool b_v0 y3_0 :: R)) ?_ ?_
      · refine W.gen fun K78 hK78 => ?_
        refine W.region ?_
        refine WL.vS hS hE (runs_plain rfl) (Gives.fld hE rfl fl106_0) rfl ?_; clear hE a; intro a hE
        refine WL.vS hS hE (runs_plain rfl) (Gives.loadB hE 0 rfl rfl rfl ty3) rfl ?_; clear hE a; intro a hE
        refine WL.vS hS hE (runs_plain rfl) (Gives.loadB hE 6 rfl rfl rfl ty3) rfl ?_; clear hE a; intro a hE
        refine WL.vS hS hE (runs_plain rfl) (Gives.p hE rfl) rfl ?_; clear hE a; intro a hE
        refine WL.vS hS hE (runs_plain rfl) (Gives.p hE rfl) rfl ?_; clear hE a; intro a hE
        rcases Bool.eq_false_or_eq_true (q65.Station == y2) with hg79 | hg79
        · replace hq73 := iteT hg79 hq73
          refine WL.vS hS hE (runs_if hE rfl rfl rfl hg79) (Gives.fld hE rfl fl106_2) rfl ?_; clear hE a; intro a hE
          refine WL.vS hS hE (runs_if hE rfl rfl rfl hg79) (Gives.loadB hE 0 rfl rfl rfl ty3) rfl ?_; clear hE a; intro a hE
          refine WL.vS hS hE (runs_if hE rfl rfl rfl hg79) (Gives.fld hE rfl fl62_1) rfl ?_; clear hE a; intro a hE
          refine WL.vS hS hE (runs_if hE rfl rfl rfl hg79) (Gives.loadB hE 5 rfl rfl rfl ty3) rfl ?_; clear hE a; intro a hE
          refine WL.vS hS hE (runs_if hE rfl rfl rfl hg79) (Gives.p hE rfl) rfl ?_; clear hE a; intro a hE
          refine WL.vS hS hE (runs_plain rfl) (Gives.pickT hE rfl hg79 rfl) rfl ?_; clear hE a; intro a hE
          refine WL.nil ?_
          subst hK78
          exact ⟨(q65.Arr == y1.Arr), hq73, hE.pick _ ⟨rfl, rfl, rfl, trivial⟩, hS⟩
        · replace hq73 := iteF hg79 hq73
          refine WL.no hE (runs_not hE rfl rfl rfl (by rw [hg79]; decide)) rfl ?_; clear hE a; intro a hE
          refine WL.no hE (runs_not hE rfl rfl rfl (by rw [hg79]; decide)) rfl ?_; clear hE a; intro a hE
          refine WL.no hE (runs_not hE rfl rfl rfl (by rw [hg79]; decide)) rfl ?_; clear hE a; intro a hE
          refine WL.no hE (runs_not hE rfl rfl rfl (by rw [hg79]; decide)) rfl ?_; clear hE a; intro a hE
          refine WL.no hE (runs_not hE rfl rfl rfl (by rw [hg79]; decide)) rfl ?_; clear hE a; intro a hE
          refine WL.vS hS hE (runs_plain rfl) (Gives.pickF hE rfl hg79 rfl) rfl ?_; clear hE a; intro a hE
          refine WL.nil ?_
          subst hK78
          exact ⟨false, hq73, hE.pick _ ⟨rfl, rfl, rfl, trivial⟩, hS⟩
      · clear hE hS a w; rintro a w ⟨q77, rfl, hE, hS⟩
        refine W.cond hE rfl (fun hc80 => ?_) (fun hc80 => ?_)
        · replace hr := iteT hc80 hr
          refine W.seq ?_
          refine W.region ?_
          refine WL.vS hS hE (runs_plain rfl) (Gives.loadB hE 3 rfl rfl rfl ty26) rfl ?_; clear hE a; intro a hE
          obtain ⟨_, hx81, hr⟩ := bindS hr
          refine WL.storeI hE hS 2 rfl [.slice a0 x0.length c0] (runs_plain rfl) rfl rfl rfl ty26 rfl rfl rfl rfl ?_; clear hE hS a w; intro a w hE hS
          refine WL.nil ?_
          refine W.ret ?_
          refine finG (fn := Tryd.f102) (rs := [.cell 7 26]) (vs := [_]) hE rfl ⟨⟨_, rfl, .inr ⟨hS.seesAt 2 rfl, ty26⟩⟩, trivial⟩ ?_
          obtain rfl := Option.some.inj hr
          replace hS := hS.tail
          replace hS := hS.tail
          replace hS := hS.tail
          replace hS := hS.tail
          exact ⟨a0, c0, s69, rfl, hle70, h0, (nz_some hx81), hS⟩
        · replace hr := iteF hc80 hr
          refine W.skip ?_
          refine W.seq ?_
          refine W.region ?_
          refine WL.storeI hE hS 2 rfl [.slice none 0 0] (runs_plain rfl) rfl rfl rfl ty26 rfl rfl rfl rfl ?_; clear hE hS a w; intro a w hE hS
          refine WL.nil ?_
          refine W.ret ?_
          refine finG (fn := Tryd.f102) (rs := [.cell 7 26]) (vs := [_]) hE rfl ⟨⟨_, rfl, .inr ⟨hS.seesAt 2 rfl, ty26⟩⟩, trivial⟩ ?_
          obtain rfl := Option.some.inj hr
          replace hS := hS.tail
          replace hS := hS.tail
          replace hS := hS.tail
          replace hS := hS.tail
          exact ⟨none, 0, s69, rfl, hle70, Sl.nil, (fun _ => rfl), hS⟩
    · replace hr := iteF hc72 hr
      refine W.skip ?_
      refine W.seq ?_
      refine W.region ?_
      refine WL.vS hS hE (runs_plain rfl) (Gives.fld hE rfl fl47_0) rfl ?_; clear hE a; intro a hE
      refine WL.vS hS hE (runs_plain rfl) (Gives.loadB hE 1 rfl rfl rfl ty3) rfl ?_; clear hE a; intro a hE
      refine WL.vS hS hE (runs_plain rfl) (Gives.fld hE rfl fl47_2) rfl ?_; clear hE a; intro a hE
      refine WL.vS hS hE (runs_plain rfl) (Gives.loadB hE 1 rfl rfl rfl ty3) rfl ?_; clear hE a; intro a hE
      refine WL.vS hS hE (runs_plain rfl) (Gives.p hE rfl) rfl ?_; clear hE a; intro a hE
      refine WL.vS hS hE (runs_plain rfl) (Gives.build hE (vs := [(0, .int .i64 x55.Train), (1, .int .i64 x55.Off), (2, .int .i64 (w64 (y1.Rides - ((x0).length : Int))))]) [.int .i64 x55.Train, .int .i64 x55.Off, .int .i64 (w64 (y1.Rides - ((x0).length : Int)))] rfl (by kernel_rfl)) rfl ?_; clear hE a; intro a hE
      refine WL.alloc hE hS (runs_plain rfl) zr132 rfl ?_; clear hE hS a w; intro b82 a w hE hS
      refine WL.storeI hE hS 0 rfl [.int .i64 x55.Train, .int .i64 x55.Off, .int .i64 (w64 (y1.Rides - ((x0).length : Int)))] (runs_plain rfl) rfl rfl rfl ty132 rfl rfl rfl rfl ?_; clear hE hS a w; intro a w hE hS
      refine WL.nil ?_
      refine W.seq ?_
      refine W.seq ?_
      obtain ⟨q84, hq83, hr⟩ := bndS hr
      refine W.cut (fun a w => ∃ (q87 : Bool), q87 = q84 ∧ Rep a 74 [(1, .pointer (some ⟨pb0, 0, none⟩)), (4, .pointer (some ⟨pb3, 0, none⟩)), (5, .pointer (some ⟨pb4, 0, none⟩)), (6, .pointer (some ⟨b53, 0, none⟩)), (7, .pointer (some ⟨b54, 0, none⟩)), (8, .pointer (some ⟨b64, 0, none⟩)), (11, .pointer (some ⟨b82, 0, none⟩)), (57, .bool q87)] ∧ St w s69 (pt b82 (.cells #[.int .i64 x55.Train, .int .i64 x55.Off, .int .i64 (w64 (y1.Rides - ((x0).length : Int)))] 132 (0, 0)) :: pt b71 (.cells (ApiStop.cells q65).toArray 106 (0, 0)) :: pt b64 (.cells (GuideRide.cells x55).toArray 47 (0, 0)) :: pt b54 (.cells #[.slice none 0 0] 26 (0, 0)) :: pt b53 (.cells #[.slice a0 x0.length c0] 26 (0, 0)) :: pt pb0 (.cells #[.slice a_y0_0 y0.Day.Trains.length c_y0_0, .slice a_y0_1 y0.Day.Turns.length c_y0_1, .int .i64 y0.least] 94 (0, 0)) :: pt pb1 (.cells #[.int .i64 y1.Dep, .int .i64 y1.Arr, .int .i64 y1.Rides] 62 (0, 0)) :: pt pb2 (.cells #[.int .i64 y2] 3 (0, 0)) :: pt pb3 (.cells #[.map (some b_v0)] 128 (0, 0)) :: pt pb4 (.cells #[.func (.func 102) #[] #[.pointer (some ⟨pb0, 0, none⟩), .pointer (some ⟨pb1, 0, none⟩), .pointer (some ⟨pb2, 0, none⟩), .pointer (some ⟨pb3, 0, none⟩), .pointer (some ⟨pb4, 0, none⟩)]] 130 (0, 0)) :: mapC keyAr3i64.f Value.bool b_v0 y3_0 :: R)) ?_ ?_
      · refine W.gen fun K88 hK88 => ?_
        refine W.region ?_
        refine WL.vS hS hE (runs_plain rfl) (Gives.loadB hE 8 rfl rfl rfl ty128) rfl ?_; clear hE a; intro a hE
        refine WL.vS hS hE (runs_plain rfl) (Gives.loadBA hE 0 rfl rfl ty132) rfl ?_; clear hE a; intro a hE
        refine WL.vS hS hE (runs_plain rfl) (Gives.mapGetG (KeyS.arr keyAr3i64 rfl arS_132) hE 10 (k := (Ar3i64.mk x55.Train x55.Off (w64 (y1.Rides - ((x0).length : Int))))) (z := false) rfl rfl rfl um128 zm4) rfl ?_; clear hE a; intro a hE
        refine WL.vS hS hE (runs_plain rfl) (Gives.p hE rfl) rfl ?_; clear hE a; intro a hE
        rcases Bool.eq_false_or_eq_true ((mget y3_0 (Ar3i64.mk x55.Train x55.Off (w64 (y1.Rides - ((x0).length : Int))))).getD false) with hg89 | hg89
        · replace hq83 := iteT hg89 hq83
          refine WL.no hE (runs_not hE rfl rfl rfl (by rw [hg89]; decide)) rfl ?_; clear hE a; intro a hE
          refine WL.no hE (runs_not hE rfl rfl rfl (by rw [hg89]; decide)) rfl ?_; clear hE a; intro a hE
          refine WL.no hE (runs_not hE rfl rfl rfl (by rw [hg89]; decide)) rfl ?_; clear hE a; intro a hE
          refine WL.no hE (runs_not hE rfl rfl rfl (by rw [hg89]; decide)) rfl ?_; clear hE a; intro a hE
          refine WL.no hE (runs_not hE rfl rfl rfl (by rw [hg89]; decide)) rfl ?_; clear hE a; intro a hE
          refine WL.vS hS hE (runs_plain rfl) (Gives.pickT hE rfl hg89 rfl) rfl ?_; clear hE a; intro a hE
          refine WL.nil ?_
          subst hK88
          exact ⟨true, hq83, hE.pick _ ⟨rfl, rfl, rfl, rfl, rfl, rfl, rfl, rfl, trivial⟩, hS⟩
        · replace hq83 := iteF hg89 hq83
          refine WL.vS hS hE (runs_if hE rfl rfl rfl hg89) (Gives.fld hE rfl fl106_2) rfl ?_; clear hE a; intro a hE
          refine WL.vS hS hE (runs_if hE rfl rfl rfl hg89) (Gives.loadB hE 1 rfl rfl rfl ty3) rfl ?_; clear hE a; intro a hE
          refine WL.vS hS hE (runs_if hE rfl rfl rfl hg89) (Gives.fld hE rfl fl62_1) rfl ?_; clear hE a; intro a hE
          refine WL.vS hS hE (runs_if hE rfl rfl rfl hg89) (Gives.loadB hE 6 rfl rfl rfl ty3) rfl ?_; clear hE a; intro a hE
          refine WL.vS hS hE (runs_if hE rfl rfl rfl hg89) (Gives.p hE rfl) rfl ?_; clear hE a; intro a hE
          refine WL.vS hS hE (runs_plain rfl) (Gives.pickF hE rfl hg89 rfl) rfl ?_; clear hE a; intro a hE
          refine WL.nil ?_
          subst hK88
          exact ⟨decide (q65.Arr > y1.Arr), hq83, hE.pick _ ⟨rfl, rfl, rfl, rfl, rfl, rfl, rfl, rfl, trivial⟩, hS⟩
      · clear hE hS a w; rintro a w ⟨q87, rfl, hE, hS⟩
        refine W.cond hE rfl (fun hc90 => ?_) (fun hc90 => ?_)
        · replace hr := iteT hc90 hr
          refine W.seq ?_
          refine W.region ?_
          refine WL.storeI hE hS 3 rfl [.slice none 0 0] (runs_plain rfl) rfl rfl rfl ty26 rfl rfl rfl rfl ?_; clear hE hS a w; intro a w hE hS
          refine WL.nil ?_
          refine W.ret ?_
          refine finG (fn := Tryd.f102) (rs := [.cell 7 26]) (vs := [_]) hE rfl ⟨⟨_, rfl, .inr ⟨hS.seesAt 3 rfl, ty26⟩⟩, trivial⟩ ?_
          obtain rfl := Option.some.inj hr
          replace hS := hS.tail
          replace hS := hS.tail
          replace hS := hS.tail
          replace hS := hS.tail
          replace hS := hS.tail
          exact ⟨none, 0, s69, rfl, hle70, Sl.nil, (fun _ => rfl), hS⟩
        · replace hr := iteF hc90 hr
          refine W.skip ?_
          refine W.seq ?_
          refine W.seq ?_
          refine W.region ?_
          refine WL.vS hS hE (runs_plain rfl) (Gives.loadBA hE 5 rfl rfl ty94) rfl ?_; clear hE a; intro a hE
          refine WL.vS hS hE (runs_plain rfl) (Gives.loadBA hE 2 rfl rfl ty47) rfl ?_; clear hE a; intro a hE
          obtain ⟨q91, hq92, hr⟩ := bindS hr
          have hc_ := GuideNetbehind_ok hS h_y0_0 h_y0_1 hq92
          refine WL.fnq hE (hc_) (runs_plain rfl) bd78 rfl rfl rfl ?_
          clear hE hS hc_; rintro e w ⟨lb93, s95, rfl, hle96, h94, hS⟩; refine ⟨_, rfl, ?_⟩; clear a; intro a hE
          replace h_y0_0 := Sl.mono RApiTrain.mono hle96 h_y0_0
          replace h_y0_1 := Sl.mono (RL.mono RI.mono) hle96 h_y0_1
          replace h0 := Sl.mono RGuideRide.mono hle96 h0
          refine WL.nil ?_
          refine W.block ?_
          obtain ⟨q98, hq97, hr⟩ := bindS hr
          refine W.cut (fun a w => ∃ (q110 : List GuideRide), ∃ (q115 : List (Ar3i64 × Bool)), ∃ (a111 : Option Addr), ∃ (c112 : Nat), ∃ (D104 : Nat) (s108 : Sg), s95.Le s108 ∧ (.next (q110, q115)) = q98 ∧ Sl 3 RGuideRide s108 a111 c112 q110 ∧ (q110 = [] → a111 = none) ∧ Rep a 74 [(4, .pointer (some ⟨pb3, 0, none⟩)), (7, .pointer (some ⟨b54, 0, none⟩)), (11, .pointer (some ⟨b82, 0, none⟩)), (4294967295, .int .i64 (D104 : Nat))] ∧ St w s108 (pt D104 (.deferred (some [])) :: pt b82 (.cells #[.int .i64 x55.Train, .int .i64 x55.Off, .int .i64 (w64 (y1.Rides - ((x0).length : Int)))] 132 (0, 0)) :: pt b71 (.cells (ApiStop.cells q65).toArray 106 (0, 0)) :: pt b64 (.cells (GuideRide.cells x55).toArray 47 (0, 0)) :: pt b54 (.cells #[.slice a111 q110.length c112] 26 (0, 0)) :: pt b53 (.cells #[.slice a0 x0.length c0] 26 (0, 0)) :: pt pb0 (.cells #[.slice a_y0_0 y0.Day.Trains.length c_y0_0, .slice a_y0_1 y0.Day.Turns.length c_y0_1, .int .i64 y0.least] 94 (0, 0)) :: pt pb1 (.cells #[.int .i64 y1.Dep, .int .i64 y1.Arr, .int .i64 y1.Rides] 62 (0, 0)) :: pt pb2 (.cells #[.int .i64 y2] 3 (0, 0)) :: pt pb3 (.cells #[.map (some b_v0)] 128 (0, 0)) :: pt pb4 (.cells #[.func (.func 102) #[] #[.pointer (some ⟨pb0, 0, none⟩), .pointer (some ⟨pb1, 0, none⟩), .pointer (some ⟨pb2, 0, none⟩), .pointer (some ⟨pb3, 0, none⟩), .pointer (some ⟨pb4, 0, none⟩)]] 130 (0, 0)) :: mapC keyAr3i64.f Value.bool b_v0 q115 :: R)) ?_ ?_
          · refine W.rangeFunc (l := q91) (ps := [61]) [] rfl hE rfl hS rfl h94 bd113 (fun _ => rfl) rfl (fun pre101 s108 Q_ => ∃ (rest100 : List GuideRide), ∃ (q110 : List GuideRide), ∃ (q115 : List (Ar3i64 × Bool)), ∃ (a111 : Option Addr), ∃ (c112 : Nat), q91 = pre101 ++ rest100 ∧ GuideNetleastOf_1_v1.loop1 x0 y0 y1 y2 self_GuideNetleastOf_1_v1 rest100 q110 q115 = some q98 ∧ s95.Le s108 ∧ Sl 3 RGuideRide s108 a111 c112 q110 ∧ (q110 = [] → a111 = none) ∧ Q_ = pt b82 (.cells #[.int .i64 x55.Train, .int .i64 x55.Off, .int .i64 (w64 (y1.Rides - ((x0).length : Int)))] 132 (0, 0)) :: pt b71 (.cells (ApiStop.cells q65).toArray 106 (0, 0)) :: pt b64 (.cells (GuideRide.cells x55).toArray 47 (0, 0)) :: pt b54 (.cells #[.slice a111 q110.length c112] 26 (0, 0)) :: pt b53 (.cells #[.slice a0 x0.length c0] 26 (0, 0)) :: pt pb0 (.cells #[.slice a_y0_0 y0.Day.Trains.length c_y0_0, .slice a_y0_1 y0.Day.Turns.length c_y0_1, .int .i64 y0.least] 94 (0, 0)) :: pt pb1 (.cells #[.int .i64 y1.Dep, .int .i64 y1.Arr, .int .i64 y1.Rides] 62 (0, 0)) :: pt pb2 (.cells #[.int .i64 y2] 3 (0, 0)) :: pt pb3 (.cells #[.map (some b_v0)] 128 (0, 0)) :: pt pb4 (.cells #[.func (.func 102) #[] #[.pointer (some ⟨pb0, 0, none⟩), .pointer (some ⟨pb1, 0, none⟩), .pointer (some ⟨pb2, 0, none⟩), .pointer (some ⟨pb3, 0, none⟩), .pointer (some ⟨pb4, 0, none⟩)]] 130 (0, 0)) :: mapC keyAr3i64.f Value.bool b_v0 q115 :: R) (fun _ s108 Q_ => ∃ (q110 : List GuideRide), ∃ (q115 : List (Ar3i64 × Bool)), ∃ (a111 : Option Addr), ∃ (c112 : Nat), (.ret (q110, q115)) = q98 ∧ s95.Le s108 ∧ Sl 3 RGuideRide s108 a111 c112 q110 ∧ (q110 = [] → a111 = none) ∧ Q_ = pt b82 (.cells #[.int .i64 x55.Train, .int .i64 x55.Off, .int .i64 (w64 (y1.Rides - ((x0).length : Int)))] 132 (0, 0)) :: pt b71 (.cells (ApiStop.cells q65).toArray 106 (0, 0)) :: pt b64 (.cells (GuideRide.cells x55).toArray 47 (0, 0)) :: pt b54 (.cells #[.slice a111 q110.length c112] 26 (0, 0)) :: pt b53 (.cells #[.slice a0 x0.length c0] 26 (0, 0)) :: pt pb0 (.cells #[.slice a_y0_0 y0.Day.Trains.length c_y0_0, .slice a_y0_1 y0.Day.Turns.length c_y0_1, .int .i64 y0.least] 94 (0, 0)) :: pt pb1 (.cells #[.int .i64 y1.Dep, .int .i64 y1.Arr, .int .i64 y1.Rides] 62 (0, 0)) :: pt pb2 (.cells #[.int .i64 y2] 3 (0, 0)) :: pt pb3 (.cells #[.map (some b_v0)] 128 (0, 0)) :: pt pb4 (.cells #[.func (.func 102) #[] #[.pointer (some ⟨pb0, 0, none⟩), .pointer (some ⟨pb1, 0, none⟩), .pointer (some ⟨pb2, 0, none⟩), .pointer (some ⟨pb3, 0, none⟩), .pointer (some ⟨pb4, 0, none⟩)]] 130 (0, 0)) :: mapC keyAr3i64.f Value.bool b_v0 q115 :: R) (fun _ _ _ h => (by obtain ⟨rest100, q110, q115, a111, c112, _, _, hle_, _⟩ := h; exact hle_)) ⟨q91, [], y3_0, none, 0, rfl, hq97, Sg.Le.refl _, Sl.nil, (fun _ => rfl), rfl⟩ (fun x99 (b116 : Nat) => [(5, .pointer (some ⟨pb4, 0, none⟩)), (6, .pointer (some ⟨b53, 0, none⟩)), (7, .pointer (some ⟨b54, 0, none⟩)), (12, .pointer (some ⟨b116, 0, none⟩))]) (fun x99 (b116 : Nat) => [pt b116 (.cells (GuideRide.cells x99).toArray 47 (0, 0))]) ?_ ?_ ?_ ?_
            · intro x99 a w t107 R L105 hE hS
              refine W.region ?_
              refine WL.alloc hE hS (runs_plain rfl) zr47 rfl ?_; clear hE hS a w; intro b116 a w hE hS
              refine WL.storeI hE hS 0 rfl (GuideRide.cells x99) (runs_plain rfl) rfl rfl rfl ty47 rfl rfl rfl rfl ?_; clear hE hS a w; intro a w hE hS
              refine WL.nil ?_
              exact ⟨b116, hE.pick _ ⟨rfl, rfl, rfl, rfl, trivial⟩, hS⟩
            · intro pre101 x99 b116 s108 Q_ T_ L105 a w hpre_ hI_ hE hS
              obtain ⟨rest100, q110, q115, a111, c112, hl102, hq97, hle109, h113, hz114, rfl⟩ := hI_
              obtain ⟨rest100, rfl⟩ := pre_next hl102 hpre_
              rw [GuideNetleastOf_1_v1.loop1] at hq97
              replace hS : St w s108 (pt b116 (.cells (GuideRide.cells x99).toArray 47 (0, 0)) :: pt b82 (.cells #[.int .i64 x55.Train, .int .i64 x55.Off, .int .i64 (w64 (y1.Rides - ((x0).length : Int)))] 132 (0, 0)) :: pt b71 (.cells (ApiStop.cells q65).toArray 106 (0, 0)) :: pt b64 (.cells (GuideRide.cells x55).toArray 47 (0, 0)) :: pt b54 (.cells #[.slice a111 q110.length c112] 26 (0, 0)) :: pt b53 (.cells #[.slice a0 x0.length c0] 26 (0, 0)) :: pt pb0 (.cells #[.slice a_y0_0 y0.Day.Trains.length c_y0_0, .slice a_y0_1 y0.Day.Turns.length c_y0_1, .int .i64 y0.least] 94 (0, 0)) :: pt pb1 (.cells #[.int .i64 y1.Dep, .int .i64 y1.Arr, .int .i64 y1.Rides] 62 (0, 0)) :: pt pb2 (.cells #[.int .i64 y2] 3 (0, 0)) :: pt pb3 (.cells #[.map (some b_v0)] 128 (0, 0)) :: pt pb4 (.cells #[.func (.func 102) #[] #[.pointer (some ⟨pb0, 0, none⟩), .pointer (some ⟨pb1, 0, none⟩), .pointer (some ⟨pb2, 0, none⟩), .pointer (some ⟨pb3, 0, none⟩), .pointer (some ⟨pb4, 0, none⟩)]] 130 (0, 0)) :: mapC keyAr3i64.f Value.bool b_v0 q115 :: (R ++ T_)) := hS
              generalize hT117 : R ++ T_ = R at hS
              refine W.gen fun K118 hK118 => ?_
              replace h_y0_0 := Sl.mono RApiTrain.mono hle109 h_y0_0
              replace h_y0_1 := Sl.mono (RL.mono RI.mono) hle109 h_y0_1
              replace h94 := Iter.mono hle109 h94
              replace h0 := Sl.mono RGuideRide.mono hle109 h0
              refine W.block ?_
              refine W.seq ?_
              refine W.gen fun K119 hK119 => ?_
              refine W.regionE (sel (fun w => St w s108 (pt b116 (.cells (GuideRide.cells x99).toArray 47 (0, 0)) :: pt b82 (.cells #[.int .i64 x55.Train, .int .i64 x55.Off, .int .i64 (w64 (y1.Rides - ((x0).length : Int)))] 132 (0, 0)) :: pt b71 (.cells (ApiStop.cells q65).toArray 106 (0, 0)) :: pt b64 (.cells (GuideRide.cells x55).toArray 47 (0, 0)) :: pt b54 (.cells #[.slice a111 q110.length c112] 26 (0, 0)) :: pt b53 (.cells #[.slice a0 x0.length c0] 26 (0, 0)) :: pt pb0 (.cells #[.slice a_y0_0 y0.Day.Trains.length c_y0_0, .slice a_y0_1 y0.Day.Turns.length c_y0_1, .int .i64 y0.least] 94 (0, 0)) :: pt pb1 (.cells #[.int .i64 y1.Dep, .int .i64 y1.Arr, .int .i64 y1.Rides] 62 (0, 0)) :: pt pb2 (.cells #[.int .i64 y2] 3 (0, 0)) :: pt pb3 (.cells #[.map (some b_v0)] 128 (0, 0)) :: pt pb4 (.cells #[.func (.func 102) #[] #[.pointer (some ⟨pb0, 0, none⟩), .pointer (some ⟨pb1, 0, none⟩), .pointer (some ⟨pb2, 0, none⟩), .pointer (some ⟨pb3, 0, none⟩), .pointer (some ⟨pb4, 0, none⟩)]] 130 (0, 0)) :: mapC keyAr3i64.f Value.bool b_v0 q115 :: R)) (fun w => St w s108 (pt b116 (.cells (GuideRide.cells x99).toArray 47 (0, 0)) :: pt b82 (.cells #[.int .i64 x55.Train, .int .i64 x55.Off, .int .i64 (w64 (y1.Rides - ((x0).length : Int)))] 132 (0, 0)) :: pt b71 (.cells (ApiStop.cells q65).toArray 106 (0, 0)) :: pt b64 (.cells (GuideRide.cells x55).toArray 47 (0, 0)) :: pt b54 (.cells #[.slice a111 q110.length c112] 26 (0, 0)) :: pt b53 (.cells #[.slice a0 x0.length c0] 26 (0, 0)) :: pt pb0 (.cells #[.slice a_y0_0 y0.Day.Trains.length c_y0_0, .slice a_y0_1 y0.Day.Turns.length c_y0_1, .int .i64 y0.least] 94 (0, 0)) :: pt pb1 (.cells #[.int .i64 y1.Dep, .int .i64 y1.Arr, .int .i64 y1.Rides] 62 (0, 0)) :: pt pb2 (.cells #[.int .i64 y2] 3 (0, 0)) :: pt pb3 (.cells #[.map (some b_v0)] 128 (0, 0)) :: pt pb4 (.cells #[.func (.func 102) #[] #[.pointer (some ⟨pb0, 0, none⟩), .pointer (some ⟨pb1, 0, none⟩), .pointer (some ⟨pb2, 0, none⟩), .pointer (some ⟨pb3, 0, none⟩), .pointer (some ⟨pb4, 0, none⟩)]] 130 (0, 0)) :: R))) (fun b i => cond b ([0, 1, 2, 3, 4, 5, 7].contains i) ([0, 1, 2, 3, 4, 5, 6, 7].contains i)) mixed ?_
              replace hS := hS.drew
              have hT := tw_sel (A := fun w => St w s108 (pt b116 (.cells (GuideRide.cells x99).toArray 47 (0, 0)) :: pt b82 (.cells #[.int .i64 x55.Train, .int .i64 x55.Off, .int .i64 (w64 (y1.Rides - ((x0).length : Int)))] 132 (0, 0)) :: pt b71 (.cells (ApiStop.cells q65).toArray 106 (0, 0)) :: pt b64 (.cells (GuideRide.cells x55).toArray 47 (0, 0)) :: pt b54 (.cells #[.slice a111 q110.length c112] 26 (0, 0)) :: pt b53 (.cells #[.slice a0 x0.length c0] 26 (0, 0)) :: pt pb0 (.cells #[.slice a_y0_0 y0.Day.Trains.length c_y0_0, .slice a_y0_1 y0.Day.Turns.length c_y0_1, .int .i64 y0.least] 94 (0, 0)) :: pt pb1 (.cells #[.int .i64 y1.Dep, .int .i64 y1.Arr, .int .i64 y1.Rides] 62 (0, 0)) :: pt pb2 (.cells #[.int .i64 y2] 3 (0, 0)) :: pt pb3 (.cells #[.map (some b_v0)] 128 (0, 0)) :: pt pb4 (.cells #[.func (.func 102) #[] #[.pointer (some ⟨pb0, 0, none⟩), .pointer (some ⟨pb1, 0, none⟩), .pointer (some ⟨pb2, 0, none⟩), .pointer (some ⟨pb3, 0, none⟩), .pointer (some ⟨pb4, 0, none⟩)]] 130 (0, 0)) :: mapC keyAr3i64.f Value.bool b_v0 q115 :: R)) (B := fun w => St w s108 (pt b116 (.cells (GuideRide.cells x99).toArray 47 (0, 0)) :: pt b82 (.cells #[.int .i64 x55.Train, .int .i64 x55.Off, .int .i64 (w64 (y1.Rides - ((x0).length : Int)))] 132 (0, 0)) :: pt b71 (.cells (ApiStop.cells q65).toArray 106 (0, 0)) :: pt b64 (.cells (GuideRide.cells x55).toArray 47 (0, 0)) :: pt b54 (.cells #[.slice a111 q110.length c112] 26 (0, 0)) :: pt b53 (.cells #[.slice a0 x0.length c0] 26 (0, 0)) :: pt pb0 (.cells #[.slice a_y0_0 y0.Day.Trains.length c_y0_0, .slice a_y0_1 y0.Day.Turns.length c_y0_1, .int .i64 y0.least] 94 (0, 0)) :: pt pb1 (.cells #[.int .i64 y1.Dep, .int .i64 y1.Arr, .int .i64 y1.Rides] 62 (0, 0)) :: pt pb2 (.cells #[.int .i64 y2] 3 (0, 0)) :: pt pb3 (.cells #[.map (some b_v0)] 128 (0, 0)) :: pt pb4 (.cells #[.func (.func 102) #[] #[.pointer (some ⟨pb0, 0, none⟩), .pointer (some ⟨pb1, 0, none⟩), .pointer (some ⟨pb2, 0, none⟩), .pointer (some ⟨pb3, 0, none⟩), .pointer (some ⟨pb4, 0, none⟩)]] 130 (0, 0)) :: R)) (w := _) (x := true) (y := true) (fun _ => hS) (fun _ => (hS.dropAt 11))
              have hF := hS; replace hS := hS
              refine Rg.take (i := 0) true rfl hE rfl (by kernel_rfl) (runs_plain rfl) (Gives.loadB hE 10 rfl rfl rfl ty130) rfl hT ?_; clear hE a; intro a hE
              replace hS := hF; clear hF hT
              have hT := tw_sel (A := fun w => St w s108 (pt b116 (.cells (GuideRide.cells x99).toArray 47 (0, 0)) :: pt b82 (.cells #[.int .i64 x55.Train, .int .i64 x55.Off, .int .i64 (w64 (y1.Rides - ((x0).length : Int)))] 132 (0, 0)) :: pt b71 (.cells (ApiStop.cells q65).toArray 106 (0, 0)) :: pt b64 (.cells (GuideRide.cells x55).toArray 47 (0, 0)) :: pt b54 (.cells #[.slice a111 q110.length c112] 26 (0, 0)) :: pt b53 (.cells #[.slice a0 x0.length c0] 26 (0, 0)) :: pt pb0 (.cells #[.slice a_y0_0 y0.Day.Trains.length c_y0_0, .slice a_y0_1 y0.Day.Turns.length c_y0_1, .int .i64 y0.least] 94 (0, 0)) :: pt pb1 (.cells #[.int .i64 y1.Dep, .int .i64 y1.Arr, .int .i64 y1.Rides] 62 (0, 0)) :: pt pb2 (.cells #[.int .i64 y2] 3 (0, 0)) :: pt pb3 (.cells #[.map (some b_v0)] 128 (0, 0)) :: pt pb4 (.cells #[.func (.func 102) #[] #[.pointer (some ⟨pb0, 0, none⟩), .pointer (some ⟨pb1, 0, none⟩), .pointer (some ⟨pb2, 0, none⟩), .pointer (some ⟨pb3, 0, none⟩), .pointer (some ⟨pb4, 0, none⟩)]] 130 (0, 0)) :: mapC keyAr3i64.f Value.bool b_v0 q115 :: R)) (B := fun w => St w s108 (pt b116 (.cells (GuideRide.cells x99).toArray 47 (0, 0)) :: pt b82 (.cells #[.int .i64 x55.Train, .int .i64 x55.Off, .int .i64 (w64 (y1.Rides - ((x0).length : Int)))] 132 (0, 0)) :: pt b71 (.cells (ApiStop.cells q65).toArray 106 (0, 0)) :: pt b64 (.cells (GuideRide.cells x55).toArray 47 (0, 0)) :: pt b54 (.cells #[.slice a111 q110.length c112] 26 (0, 0)) :: pt b53 (.cells #[.slice a0 x0.length c0] 26 (0, 0)) :: pt pb0 (.cells #[.slice a_y0_0 y0.Day.Trains.length c_y0_0, .slice a_y0_1 y0.Day.Turns.length c_y0_1, .int .i64 y0.least] 94 (0, 0)) :: pt pb1 (.cells #[.int .i64 y1.Dep, .int .i64 y1.Arr, .int .i64 y1.Rides] 62 (0, 0)) :: pt pb2 (.cells #[.int .i64 y2] 3 (0, 0)) :: pt pb3 (.cells #[.map (some b_v0)] 128 (0, 0)) :: pt pb4 (.cells #[.func (.func 102) #[] #[.pointer (some ⟨pb0, 0, none⟩), .pointer (some ⟨pb1, 0, none⟩), .pointer (some ⟨pb2, 0, none⟩), .pointer (some ⟨pb3, 0, none⟩), .pointer (some ⟨pb4, 0, none⟩)]] 130 (0, 0)) :: R)) (w := _) (x := true) (y := true) (fun _ => hS) (fun _ => (hS.dropAt 11))
              have hF := hS; replace hS := (hS.dropAt 11)
              refine Rg.take (i := 1) false rfl hE rfl (by kernel_rfl) (runs_plain rfl) (Gives.loadB hE 5 rfl rfl rfl ty26) rfl hT ?_; clear hE a; intro a hE
              replace hS := hF; clear hF hT
              have hT := tw_sel (A := fun w => St w s108 (pt b116 (.cells (GuideRide.cells x99).toArray 47 (0, 0)) :: pt b82 (.cells #[.int .i64 x55.Train, .int .i64 x55.Off, .int .i64 (w64 (y1.Rides - ((x0).length : Int)))] 132 (0, 0)) :: pt b71 (.cells (ApiStop.cells q65).toArray 106 (0, 0)) :: pt b64 (.cells (GuideRide.cells x55).toArray 47 (0, 0)) :: pt b54 (.cells #[.slice a111 q110.length c112] 26 (0, 0)) :: pt b53 (.cells #[.slice a0 x0.length c0] 26 (0, 0)) :: pt pb0 (.cells #[.slice a_y0_0 y0.Day.Trains.length c_y0_0, .slice a_y0_1 y0.Day.Turns.length c_y0_1, .int .i64 y0.least] 94 (0, 0)) :: pt pb1 (.cells #[.int .i64 y1.Dep, .int .i64 y1.Arr, .int .i64 y1.Rides] 62 (0, 0)) :: pt pb2 (.cells #[.int .i64 y2] 3 (0, 0)) :: pt pb3 (.cells #[.map (some b_v0)] 128 (0, 0)) :: pt pb4 (.cells #[.func (.func 102) #[] #[.pointer (some ⟨pb0, 0, none⟩), .pointer (some ⟨pb1, 0, none⟩), .pointer (some ⟨pb2, 0, none⟩), .pointer (some ⟨pb3, 0, none⟩), .pointer (some ⟨pb4, 0, none⟩)]] 130 (0, 0)) :: mapC keyAr3i64.f Value.bool b_v0 q115 :: R)) (B := fun w => St w s108 (pt b116 (.cells (GuideRide.cells x99).toArray 47 (0, 0)) :: pt b82 (.cells #[.int .i64 x55.Train, .int .i64 x55.Off, .int .i64 (w64 (y1.Rides - ((x0).length : Int)))] 132 (0, 0)) :: pt b71 (.cells (ApiStop.cells q65).toArray 106 (0, 0)) :: pt b64 (.cells (GuideRide.cells x55).toArray 47 (0, 0)) :: pt b54 (.cells #[.slice a111 q110.length c112] 26 (0, 0)) :: pt b53 (.cells #[.slice a0 x0.length c0] 26 (0, 0)) :: pt pb0 (.cells #[.slice a_y0_0 y0.Day.Trains.length c_y0_0, .slice a_y0_1 y0.Day.Turns.length c_y0_1, .int .i64 y0.least] 94 (0, 0)) :: pt pb1 (.cells #[.int .i64 y1.Dep, .int .i64 y1.Arr, .int .i64 y1.Rides] 62 (0, 0)) :: pt pb2 (.cells #[.int .i64 y2] 3 (0, 0)) :: pt pb3 (.cells #[.map (some b_v0)] 128 (0, 0)) :: pt pb4 (.cells #[.func (.func 102) #[] #[.pointer (some ⟨pb0, 0, none⟩), .pointer (some ⟨pb1, 0, none⟩), .pointer (some ⟨pb2, 0, none⟩), .pointer (some ⟨pb3, 0, none⟩), .pointer (some ⟨pb4, 0, none⟩)]] 130 (0, 0)) :: R)) (w := _) (x := true) (y := true) (fun _ => hS) (fun _ => (hS.dropAt 11))
              have hF := hS; replace hS := (hS.dropAt 11)
              refine Rg.take (i := 3) false rfl hE rfl (by kernel_rfl) (runs_plain rfl) (Gives.loadBA hE 0 rfl rfl ty47) rfl hT ?_; clear hE a; intro a hE
              replace hS := hF; clear hF hT
              obtain ⟨q120, hq121, hq97⟩ := bindS hq97
              obtain ⟨x129, hx130, hq97⟩ := bindS hq97
              obtain ⟨q141, hq142, hq97⟩ := bindS hq97
              suffices key : ∀ s147 a143 c144 F135 (a : Act) (w : World), s108.Le s147 → Sl 3 RGuideRide s147 a143 c144 q141.1 → (q141.1 = [] → a143 = none) → Sl 4 RApiTrain s147 a_y0_0 c_y0_0 y0.Day.Trains → Sl 1 (RL 1 (RI .i64)) s147 a_y0_1 c_y0_1 y0.Day.Turns → Sl 3 RGuideRide s147 a111 c112 q110 → (q110 = [] → a111 = none) → Sl 3 RGuideRide s147 a0 c0 x0 → Rep a 74 [(7, .pointer (some ⟨b54, 0, none⟩)), (13, .slice a143 q141.1.length c144)] → St w s147 (pt pb0 (.cells #[.slice a_y0_0 y0.Day.Trains.length c_y0_0, .slice a_y0_1 y0.Day.Turns.length c_y0_1, .int .i64 y0.least] 94 (0, 0)) :: pt pb1 (.cells #[.int .i64 y1.Dep, .int .i64 y1.Arr, .int .i64 y1.Rides] 62 (0, 0)) :: pt pb2 (.cells #[.int .i64 y2] 3 (0, 0)) :: pt pb3 (.cells #[.map (some b_v0)] 128 (0, 0)) :: pt pb4 (.cells #[.func (.func 102) #[] #[.pointer (some ⟨pb0, 0, none⟩), .pointer (some ⟨pb1, 0, none⟩), .pointer (some ⟨pb2, 0, none⟩), .pointer (some ⟨pb3, 0, none⟩), .pointer (some ⟨pb4, 0, none⟩)]] 130 (0, 0)) :: mapC keyAr3i64.f Value.bool b_v0 q141.2 :: F135 :: pt b116 (.cells (GuideRide.cells x99).toArray 47 (0, 0)) :: pt b82 (.cells #[.int .i64 x55.Train, .int .i64 x55.Off, .int .i64 (w64 (y1.Rides - ((x0).length : Int)))] 132 (0, 0)) :: pt b71 (.cells (ApiStop.cells q65).toArray 106 (0, 0)) :: pt b64 (.cells (GuideRide.cells x55).toArray 47 (0, 0)) :: pt b54 (.cells #[.slice a111 q110.length c112] 26 (0, 0)) :: pt b53 (.cells #[.slice a0 x0.length c0] 26 (0, 0)) :: R) → K119.nor a w by
                refine Rg.many 2 [4] (by kernel_rfl) ⟨?_, ?_, trivial⟩
                · refine Br.mk (i := 2) true true rfl (by kernel_rfl) (by kernel_rfl) ?_
                  have hc_ := SlicesCloneLguideRide_ok hS h0 hq121
                  refine WL.fnq hE (hc_) (runs_plain rfl) bd76 rfl rfl rfl ?_
                  clear hE hS hc_; rintro e w ⟨a122, c123, n124, cs125, rfl, h126, rfl, hS⟩; refine ⟨_, rfl, ?_⟩; clear a; intro a hE
                  refine WL.nil ?_
                  refine ⟨⟨fun _ => (hS.tail), fun _ => ((hS.tail).dropAt 11)⟩, ?_⟩
                  refine Rg.one (i := 4) true true rfl (by kernel_rfl) (by kernel_rfl) (by kernel_rfl) ?_
                  refine WL.lit hE hS (e := 47) (es := 3) (vs := [(0, .agg (GuideRide.cells x99).toArray)]) (cs := [.int .i64 x99.Train, .int .i64 x99.On, .int .i64 x99.Off]) (runs_plain rfl) rfl (by kernel_rfl) rfl ?_; clear hE hS a w; intro b128 a w hE hS
                  refine WL.nil ?_
                  refine ⟨⟨fun _ => ((hS.tail).tail), fun _ => (((hS.tail).tail).dropAt 11)⟩, ?_⟩
                  refine Rg.one (i := 5) true true rfl (by kernel_rfl) (by kernel_rfl) (by kernel_rfl) ?_
                  refine WL.appB hE hS 0 (m := 1) (runs_plain rfl) rfl rfl rfl ap26 rfl h126 rfl (xs := [x99]) (Ev.cons (c1 := [.int .i64 x99.Train, .int .i64 x99.On, .int .i64 x99.Off]) rfl rfl (Ev.nil)) rfl rfl hx130 rfl ?_; clear hE hS a w; intro a131 c132 cs133 F135 a w h134 hb136 hE hS
                  refine WL.nil ?_
                  refine ⟨⟨fun _ => ((hS.tail).tail), fun _ => (((hS.tail).tail).dropAt 11)⟩, ?_⟩
                  refine Rg.one (i := 6) false true rfl (by kernel_rfl) (by kernel_rfl) (by kernel_rfl) ?_
                  have hF := hS.fixD RGuideRide.mono 0 rfl h134 (rfl); clear hS; obtain ⟨s138, hle139, hS, h140⟩ := hF
                  replace h0 := Sl.mono RGuideRide.mono hle139 h0
                  replace h113 := Sl.mono RGuideRide.mono hle139 h113
                  replace h_y0_0 := Sl.mono RApiTrain.mono hle139 h_y0_0
                  replace h_y0_1 := Sl.mono (RL.mono RI.mono) hle139 h_y0_1
                  replace hS := hS.front 12 rfl
                  replace hS := hS.front 12 rfl
                  replace hS := hS.front 12 rfl
                  replace hS := hS.front 12 rfl
                  replace hS := hS.front 12 rfl
                  replace hS := hS.front 12 rfl
                  have hc_ := ih_GuideNetleastOf_1_v1 (y0 := y0) (y1 := y1) hS h140 h_y0_0 h_y0_1 hq142
                  refine WL.fnw hE (hc_) rfl (runs_plain rfl) bd102 rfl rfl rfl ?_
                  clear hE hS hc_; rintro e w ⟨a143, c144, s147, rfl, hle148, h145, hz146, hS⟩; refine ⟨_, rfl, ?_⟩; clear a; intro a hE
                  replace h0 := Sl.mono RGuideRide.mono hle148 h0
                  replace h140 := Sl.mono RGuideRide.mono hle148 h140
                  replace h_y0_0 := Sl.mono RApiTrain.mono hle148 h_y0_0
                  replace h_y0_1 := Sl.mono (RL.mono RI.mono) hle148 h_y0_1
                  replace h113 := Sl.mono RGuideRide.mono hle148 h113
                  refine WL.nil ?_
                  refine ⟨⟨fun h => absurd h (by decide), fun _ => (St.down (Sg.Le.trans hle139 hle148) (St.order ((hS.dropAt 5).dropAt 5) [5, 5, 5, 5, 5, 5, 0, 0, 0, 0, 0] (by kernel_rfl)))⟩, ?_⟩
                  refine Rg.takeP (i := 7) hE rfl (by kernel_rfl) (runs_plain rfl) (Gives.p hE rfl) rfl (tw_sel (fun h => absurd h (by decide)) (fun _ => (St.down (Sg.Le.trans hle139 hle148) (St.order ((hS.dropAt 5).dropAt 5) [5, 5, 5, 5, 5, 5, 0, 0, 0, 0, 0] (by kernel_rfl))))) ?_; clear hE a; intro a hE
                  refine Rg.done (by kernel_rfl) ?_
                  exact key _ _ _ _ _ _ (Sg.Le.trans hle139 hle148) h145 hz146 h_y0_0 h_y0_1 h113 hz114 h0 (hE.pick _ ⟨rfl, rfl, trivial⟩) hS
                · refine Br.mk (i := 4) true true rfl (by kernel_rfl) (by kernel_rfl) ?_
                  refine WL.lit hE hS (e := 47) (es := 3) (vs := [(0, .agg (GuideRide.cells x99).toArray)]) (cs := [.int .i64 x99.Train, .int .i64 x99.On, .int .i64 x99.Off]) (runs_plain rfl) rfl (by kernel_rfl) rfl ?_; clear hE hS a w; intro b128 a w hE hS
                  refine WL.nil ?_
                  refine ⟨⟨fun _ => (hS.tail), fun _ => ((hS.tail).dropAt 11)⟩, ?_⟩
                  refine Rg.one (i := 2) true true rfl (by kernel_rfl) (by kernel_rfl) (by kernel_rfl) ?_
                  have hc_ := SlicesCloneLguideRide_ok hS h0 hq121
                  refine WL.fnq hE (hc_) (runs_plain rfl) bd76 rfl rfl rfl ?_
                  clear hE hS hc_; rintro e w ⟨a122, c123, n124, cs125, rfl, h126, rfl, hS⟩; refine ⟨_, rfl, ?_⟩; clear a; intro a hE
                  refine WL.nil ?_
                  refine ⟨⟨fun _ => ((hS.tail).tail), fun _ => (((hS.tail).tail).dropAt 11)⟩, ?_⟩
                  refine Rg.one (i := 5) true true rfl (by kernel_rfl) (by kernel_rfl) (by kernel_rfl) ?_
                  replace hS := hS.front 1 rfl
                  refine WL.appB hE hS 0 (m := 1) (runs_plain rfl) rfl rfl rfl ap26 rfl h126 rfl (xs := [x99]) (Ev.cons (c1 := [.int .i64 x99.Train, .int .i64 x99.On, .int .i64 x99.Off]) rfl rfl (Ev.nil)) rfl rfl hx130 rfl ?_; clear hE hS a w; intro a131 c132 cs133 F135 a w h134 hb136 hE hS
                  refine WL.nil ?_
                  refine ⟨⟨fun _ => ((hS.tail).tail), fun _ => (((hS.tail).tail).dropAt 11)⟩, ?_⟩
                  refine Rg.one (i := 6) false true rfl (by kernel_rfl) (by kernel_rfl) (by kernel_rfl) ?_
                  have hF := hS.fixD RGuideRide.mono 0 rfl h134 (rfl); clear hS; obtain ⟨s138, hle139, hS, h140⟩ := hF
                  replace h0 := Sl.mono RGuideRide.mono hle139 h0
                  replace h113 := Sl.mono RGuideRide.mono hle139 h113
                  replace h_y0_0 := Sl.mono RApiTrain.mono hle139 h_y0_0
                  replace h_y0_1 := Sl.mono (RL.mono RI.mono) hle139 h_y0_1
                  replace hS := hS.front 12 rfl
                  replace hS := hS.front 12 rfl
                  replace hS := hS.front 12 rfl
                  replace hS := hS.front 12 rfl
                  replace hS := hS.front 12 rfl
                  replace hS := hS.front 12 rfl
                  have hc_ := ih_GuideNetleastOf_1_v1 (y0 := y0) (y1 := y1) hS h140 h_y0_0 h_y0_1 hq142
                  refine WL.fnw hE (hc_) rfl (runs_plain rfl) bd102 rfl rfl rfl ?_
                  clear hE hS hc_; rintro e w ⟨a143, c144, s147, rfl, hle148, h145, hz146, hS⟩; refine ⟨_, rfl, ?_⟩; clear a; intro a hE
                  replace h0 := Sl.mono RGuideRide.mono hle148 h0
                  replace h140 := Sl.mono RGuideRide.mono hle148 h140
                  replace h_y0_0 := Sl.mono RApiTrain.mono hle148 h_y0_0
                  replace h_y0_1 := Sl.mono (RL.mono RI.mono) hle148 h_y0_1
                  replace h113 := Sl.mono RGuideRide.mono hle148 h113
                  refine WL.nil ?_
                  refine ⟨⟨fun h => absurd h (by decide), fun _ => (St.down (Sg.Le.trans hle139 hle148) (St.order ((hS.dropAt 5).dropAt 5) [5, 5, 5, 5, 5, 5, 0, 0, 0, 0, 0] (by kernel_rfl)))⟩, ?_⟩
                  refine Rg.takeP (i := 7) hE rfl (by kernel_rfl) (runs_plain rfl) (Gives.p hE rfl) rfl (tw_sel (fun h => absurd h (by decide)) (fun _ => (St.down (Sg.Le.trans hle139 hle148) (St.order ((hS.dropAt 5).dropAt 5) [5, 5, 5, 5, 5, 5, 0, 0, 0, 0, 0] (by kernel_rfl))))) ?_; clear hE a; intro a hE
                  refine Rg.done (by kernel_rfl) ?_
                  exact key _ _ _ _ _ _ (Sg.Le.trans hle139 hle148) h145 hz146 h_y0_0 h_y0_1 h113 hz114 h0 (hE.pick _ ⟨rfl, rfl, trivial⟩) hS
              clear hE hS a w; intro s147 a143 c144 F135 a w hle149 h145 hz146 h_y0_0 h_y0_1 h113 hz114 h0 hE hS
              subst hK119
              refine W.seq ?_
              refine W.region ?_
              refine WL.vS hS hE (runs_plain rfl) (Gives.p hE rfl) rfl ?_; clear hE a; intro a hE
              refine WL.vS hS hE (runs_plain rfl) (Gives.notNilZ hE (isNone_eq h145 hz146) rfl rfl isl26) rfl ?_; clear hE a; intro a hE
              refine WL.nil ?_
              refine W.cond hE rfl (fun hc150 => ?_) (fun hc150 => ?_)
              · replace hq97 := iteT hc150 hq97
                refine W.seq ?_
                refine W.region ?_
                refine WL.vS hS hE (runs_plain rfl) (Gives.p hE rfl) rfl ?_; clear hE a; intro a hE
                refine WL.storeI hE hS 11 rfl [.slice a143 q141.1.length c144] (runs_plain rfl) rfl rfl rfl ty26 rfl rfl rfl rfl ?_; clear hE hS a w; intro a w hE hS
                refine WL.nil ?_
                refine W.ret ?_
                subst hK118
                replace hS := hS.dropAt 6
                replace hS := hS.dropAt 6
                replace hS := hS.order [6, 6, 6, 6, 6, 0, 0, 0, 0, 0, 0] rfl
                subst hT117
                exact ⟨s147, _, ⟨q141.1, q141.2, a143, c144, Option.some.inj hq97, (Sg.Le.trans hle109 hle149), h145, hz146, rfl⟩, hS⟩
              · replace hq97 := iteF hc150 hq97
                refine W.skip ?_
                replace hS := hS.dropAt 6
                replace hS := hS.dropAt 6
                replace hS := hS.order [6, 6, 6, 6, 6, 0, 0, 0, 0, 0, 0] rfl
                subst hK118
                subst hT117
                exact ⟨s147, _, ⟨rest100, q110, q141.2, a111, c112, hl102.trans (by simp), hq97, (Sg.Le.trans hle109 hle149), h113, hz114, rfl⟩, hS⟩
            · intro s108 Q_ D104 a w hI_ hE hS
              obtain ⟨rest100, q110, q115, a111, c112, hl102, hq97, hle109, h113, hz114, rfl⟩ := hI_
              obtain rfl := pre_end hl102
              rw [GuideNetleastOf_1_v1.loop1] at hq97
              exact ⟨q110, q115, _, _, D104, s108, hle109, Option.some.inj hq97, h113, hz114, hE.pick _ ⟨rfl, rfl, rfl, rfl, trivial⟩, hS⟩
            · intro c_ s108 Q_ D104 a w hc_ hX_ hE hS
              obtain rfl : c_ = .ret := hc_.elim id (fun h => (by obtain ⟨_, h, _⟩ := h; cases h))
              obtain ⟨q110, q115, a111, c112, rfl, hle109, h113, hz114, rfl⟩ := hX_
              dsimp only at hr
              replace h_y0_0 := Sl.mono RApiTrain.mono hle109 h_y0_0
              replace h_y0_1 := Sl.mono (RL.mono RI.mono) hle109 h_y0_1
              replace h94 := Iter.mono hle109 h94
              replace h0 := Sl.mono RGuideRide.mono hle109 h0
              refine W.ret ?_
              refine finGM (fn := Tryd.f102) (rs := [.cell 7 26]) (vs := [.slice a111 q110.length c112]) hE hS 0 rfl rfl ?_
              clear hS; intro w hS
              refine ⟨⟨⟨_, rfl, .inr ⟨hS.seesAt 3 rfl, ty26⟩⟩, trivial⟩, ?_⟩
              obtain rfl := Option.some.inj hr
              replace hS := hS.tail
              replace hS := hS.tail
              replace hS := hS.tail
              replace hS := hS.tail
              replace hS := hS.tail
              exact ⟨a111, c112, s108, rfl, (Sg.Le.trans (Sg.Le.trans hle70 hle96) hle109), h113, hz114, hS⟩
          · clear hE hS a w; rintro a w ⟨q110, q115, a111, c112, D104, s108, hle109, rfl, h113, hz114, hE, hS⟩
            dsimp only at hr
            replace h_y0_0 := Sl.mono RApiTrain.mono hle109 h_y0_0
            replace h_y0_1 := Sl.mono (RL.mono RI.mono) hle109 h_y0_1
            replace h94 := Iter.mono hle109 h94
            replace h0 := Sl.mono RGuideRide.mono hle109 h0
            refine W.seq ?_
            refine W.region ?_
            refine WL.vS hS hE (runs_plain rfl) (Gives.loadB hE 9 rfl rfl rfl ty128) rfl ?_; clear hE a; intro a hE
            refine WL.vS hS hE (runs_plain rfl) (Gives.loadBA hE 1 rfl rfl ty132) rfl ?_; clear hE a; intro a hE
            refine WL.mapSetG (KeyS.arr keyAr3i64 rfl arS_132) hE hS 11 (k := (Ar3i64.mk x55.Train x55.Off (w64 (y1.Rides - ((x0).length : Int))))) (v := true) (.inl rfl) (runs_plain rfl) rfl rfl rfl rfl um128 rfl ?_; clear hE hS a w; intro a w hE hS
            refine WL.nil ?_
            refine W.seq ?_
            refine W.region ?_
            refine WL.storeI hE hS 4 rfl [.slice none 0 0] (runs_plain rfl) rfl rfl rfl ty26 rfl rfl rfl rfl ?_; clear hE hS a w; intro a w hE hS
            refine WL.nil ?_
            refine W.ret ?_
            refine finGM (fn := Tryd.f102) (rs := [.cell 7 26]) (vs := [.slice none 0 0]) hE hS 0 rfl rfl ?_
            clear hS; intro w hS
            refine ⟨⟨⟨_, rfl, .inr ⟨hS.seesAt 3 rfl, ty26⟩⟩, trivial⟩, ?_⟩
            obtain rfl := Option.some.inj hr
            replace hS := hS.tail
            replace hS := hS.tail
            replace hS := hS.tail
            replace hS := hS.tail
            replace hS := hS.tail
            exact ⟨none, 0, s108, rfl, (Sg.Le.trans (Sg.Le.trans hle70 hle96) hle109), Sl.nil, (fun _ => rfl), hS⟩
set_option maxHeartbeats 8000000 in
theorem GuideNetleastOf_ok {fu : Nat}  {w : World} {s : Sg} {R : List HP} {x0 : GuideNet} {a0_0 : Option Addr} {c0_0 : Nat} {a0_1 : Option Addr} {c0_1 : Nat} {x1 : Int} {x2 : Int} {x3 : GuidePoint} (hS : St w s (R)) (h0_0 : Sl 4 RApiTrain s a0_0 c0_0 x0.Day.Trains) (h0_1 : Sl 1 (RL 1 (RI .i64)) s a0_1 c0_1 x0.Day.Turns) {r : GuideJourney} (hr : GuideNetleastOf fu x0 x1 x2 x3 = some r) :
    Calls Tryd.prog 55 [.agg [.slice a0_0 x0.Day.Trains.length c0_0, .slice a0_1 x0.Day.Turns.length c0_1, .int .i64 x0.least].toArray, .int .i64 x1, .int .i64 x2, .agg (GuidePoint.cells x3).toArray].toArray w (fun e w => ∃ (cs0 : List Value) (t : Sg), e = .returned (.agg cs0.toArray) ∧ s.Le t ∧ RGuideJourney t cs0 r ∧ St w t (R)) := by
  refine enter Tryd.func55 rfl rfl rfl fun a hE => ?_
  rw [GuideNetleastOf] at hr
  refine W.seq ?_
  refine W.region ?_
  refine WL.box hE hS (runs_plain rfl) rfl rfl rfl ?_; clear hE hS a w; intro b51 a w hE hS
  refine WL.box hE hS (runs_plain rfl) rfl rfl rfl ?_; clear hE hS a w; intro b52 a w hE hS
  refine WL.box hE hS (runs_plain rfl) rfl rfl rfl ?_; clear hE hS a w; intro b53 a w hE hS
  refine WL.alloc hE hS (runs_plain rfl) zr28 rfl ?_; clear hE hS a w; intro b54 a w hE hS
  refine WL.nil ?_
  refine W.seq ?_
  refine W.region ?_
  refine WL.mkMap (fk := keyAr3i64.f) (fv := Value.bool) hE hS (runs_plain rfl) rfl ?_; clear hE hS a w; intro b55 a w hE hS
  refine WL.alloc hE hS (runs_plain rfl) zr128 rfl ?_; clear hE hS a w; intro b56 a w hE hS
  refine WL.storeI hE hS 0 rfl [.map (some b55)] (runs_plain rfl) rfl rfl rfl ty128 rfl rfl rfl rfl ?_; clear hE hS a w; intro a w hE hS
  refine WL.nil ?_
  refine W.seq ?_
  refine W.region ?_
  refine WL.alloc hE hS (runs_plain rfl) zr130 rfl ?_; clear hE hS a w; intro b57 a w hE hS
  refine WL.nil ?_
  refine W.seq ?_
  refine W.region ?_
  refine WL.vS hS hE (runs_plain rfl) (Gives.mkfn hE (vs := [.pointer (some ⟨b51, 0, none⟩), .pointer (some ⟨b53, 0, none⟩), .pointer (some ⟨b52, 0, none⟩), .pointer (some ⟨b56, 0, none⟩), .pointer (some ⟨b57, 0, none⟩)]) rfl) rfl ?_; clear hE a; intro a hE
  refine WL.storeI hE hS 0 rfl [.func (.func 102) #[] #[.pointer (some ⟨b51, 0, none⟩), .pointer (some ⟨b53, 0, none⟩), .pointer (some ⟨b52, 0, none⟩), .pointer (some ⟨b56, 0, none⟩), .pointer (some ⟨b57, 0, none⟩)]] (runs_plain rfl) rfl rfl rfl ty130 rfl rfl rfl rfl ?_; clear hE hS a w; intro a w hE hS
  refine WL.nil ?_
  refine W.seq ?_
  refine W.seq ?_
  refine W.region ?_
  refine WL.vS hS hE (runs_plain rfl) (Gives.loadBA hE 6 rfl rfl ty94) rfl ?_; clear hE a; intro a hE
  refine WL.vS hS hE (runs_plain rfl) (Gives.p hE rfl) rfl ?_; clear hE a; intro a hE
  refine WL.vS hS hE (runs_plain rfl) (Gives.fld hE rfl fl62_0) rfl ?_; clear hE a; intro a hE
  refine WL.vS hS hE (runs_plain rfl) (Gives.loadB hE 4 rfl rfl rfl ty3) rfl ?_; clear hE a; intro a hE
  obtain ⟨q58, hq59, hr⟩ := bndS hr
  have hc_ := GuideNetrides_ok hS h0_0 h0_1 hq59
  refine WL.fnq hE (hc_) (runs_plain rfl) bd72 rfl rfl rfl ?_
  clear hE hS hc_; rintro e w ⟨lb60, s62, rfl, hle63, h61, hS⟩; refine ⟨_, rfl, ?_⟩; clear a; intro a hE
  replace h0_0 := Sl.mono RApiTrain.mono hle63 h0_0
  replace h0_1 := Sl.mono (RL.mono RI.mono) hle63 h0_1
  refine WL.nil ?_
  refine W.block ?_
  obtain ⟨q65, hq64, hr⟩ := bindS hr
  refine W.cut (fun a w => ∃ (q77 : List GuideRide), ∃ (q81 : List (Ar3i64 × Bool)), ∃ (a78 : Option Addr), ∃ (c79 : Nat), ∃ (D71 : Nat) (s75 : Sg), s62.Le s75 ∧ (.next (q77, q81)) = q65 ∧ Sl 3 RGuideRide s75 a78 c79 q77 ∧ Rep a 37 [(8, .pointer (some ⟨b54, 0, none⟩)), (4294967295, .int .i64 (D71 : Nat))] ∧ St w s75 (pt D71 (.deferred (some [])) :: pt b57 (.cells #[.func (.func 102) #[] #[.pointer (some ⟨b51, 0, none⟩), .pointer (some ⟨b53, 0, none⟩), .pointer (some ⟨b52, 0, none⟩), .pointer (some ⟨b56, 0, none⟩), .pointer (some ⟨b57, 0, none⟩)]] 130 (0, 0)) :: pt b56 (.cells #[.map (some b55)] 128 (0, 0)) :: mapC keyAr3i64.f Value.bool b55 q81 :: pt b54 (.cells #[.slice a78 q77.length c79] 28 (0, 0)) :: pt b53 (.cells (GuidePoint.cells x3).toArray 62 (0, 0)) :: pt b52 (.cells #[.int .i64 x2] 3 (0, 0)) :: pt b51 (.cells #[.slice a0_0 x0.Day.Trains.length c0_0, .slice a0_1 x0.Day.Turns.length c0_1, .int .i64 x0.least] 94 (0, 0)) :: R)) ?_ ?_
  · refine W.rangeFunc (l := q58) (ps := [20]) [] rfl hE rfl hS rfl h61 bd113 (fun _ => rfl) rfl (fun pre68 s75 Q_ => ∃ (rest67 : List GuideRide), ∃ (q77 : List GuideRide), ∃ (q81 : List (Ar3i64 × Bool)), ∃ (a78 : Option Addr), ∃ (c79 : Nat), q58 = pre68 ++ rest67 ∧ GuideNetleastOf.loop1 x0 x2 x3 fu rest67 q77 q81 = some q65 ∧ s62.Le s75 ∧ Sl 3 RGuideRide s75 a78 c79 q77 ∧ Q_ = pt b57 (.cells #[.func (.func 102) #[] #[.pointer (some ⟨b51, 0, none⟩), .pointer (some ⟨b53, 0, none⟩), .pointer (some ⟨b52, 0, none⟩), .pointer (some ⟨b56, 0, none⟩), .pointer (some ⟨b57, 0, none⟩)]] 130 (0, 0)) :: pt b56 (.cells #[.map (some b55)] 128 (0, 0)) :: mapC keyAr3i64.f Value.bool b55 q81 :: pt b54 (.cells #[.slice a78 q77.length c79] 28 (0, 0)) :: pt b53 (.cells (GuidePoint.cells x3).toArray 62 (0, 0)) :: pt b52 (.cells #[.int .i64 x2] 3 (0, 0)) :: pt b51 (.cells #[.slice a0_0 x0.Day.Trains.length c0_0, .slice a0_1 x0.Day.Turns.length c0_1, .int .i64 x0.least] 94 (0, 0)) :: R) (fun _ s75 Q_ => ∃ (q77 : List GuideRide), ∃ (q81 : List (Ar3i64 × Bool)), ∃ (a78 : Option Addr), ∃ (c79 : Nat), (.ret (q77, q81)) = q65 ∧ s62.Le s75 ∧ Sl 3 RGuideRide s75 a78 c79 q77 ∧ Q_ = pt b57 (.cells #[.func (.func 102) #[] #[.pointer (some ⟨b51, 0, none⟩), .pointer (some ⟨b53, 0, none⟩), .pointer (some ⟨b52, 0, none⟩), .pointer (some ⟨b56, 0, none⟩), .pointer (some ⟨b57, 0, none⟩)]] 130 (0, 0)) :: pt b56 (.cells #[.map (some b55)] 128 (0, 0)) :: mapC keyAr3i64.f Value.bool b55 q81 :: pt b54 (.cells #[.slice a78 q77.length c79] 28 (0, 0)) :: pt b53 (.cells (GuidePoint.cells x3).toArray 62 (0, 0)) :: pt b52 (.cells #[.int .i64 x2] 3 (0, 0)) :: pt b51 (.cells #[.slice a0_0 x0.Day.Trains.length c0_0, .slice a0_1 x0.Day.Turns.length c0_1, .int .i64 x0.least] 94 (0, 0)) :: R) (fun _ _ _ h => (by obtain ⟨rest67, q77, q81, a78, c79, _, _, hle_, _⟩ := h; exact hle_)) ⟨q58, [], [], none, 0, rfl, hq64, Sg.Le.refl _, Sl.nil, rfl⟩ (fun x66 (b82 : Nat) => [(4, .pointer (some ⟨b51, 0, none⟩)), (7, .pointer (some ⟨b53, 0, none⟩)), (8, .pointer (some ⟨b54, 0, none⟩)), (10, .pointer (some ⟨b57, 0, none⟩)), (11, .pointer (some ⟨b82, 0, none⟩))]) (fun x66 (b82 : Nat) => [pt b82 (.cells (GuideRide.cells x66).toArray 47 (0, 0))]) ?_ ?_ ?_ ?_
    · intro x66 a w t74 R L72 hE hS
      refine W.region ?_
      refine WL.alloc hE hS (runs_plain rfl) zr47 rfl ?_; clear hE hS a w; intro b82 a w hE hS
      refine WL.storeI hE hS 0 rfl (GuideRide.cells x66) (runs_plain rfl) rfl rfl rfl ty47 rfl rfl rfl rfl ?_; clear hE hS a w; intro a w hE hS
      refine WL.nil ?_
      exact ⟨b82, hE.pick _ ⟨rfl, rfl, rfl, rfl, rfl, trivial⟩, hS⟩
    · intro pre68 x66 b82 s75 Q_ T_ L72 a w hpre_ hI_ hE hS
      obtain ⟨rest67, q77, q81, a78, c79, hl69, hq64, hle76, h80, rfl⟩ := hI_
      obtain ⟨rest67, rfl⟩ := pre_next hl69 hpre_
      rw [GuideNetleastOf.loop1] at hq64
      replace hS : St w s75 (pt b82 (.cells (GuideRide.cells x66).toArray 47 (0, 0)) :: pt b57 (.cells #[.func (.func 102) #[] #[.pointer (some ⟨b51, 0, none⟩), .pointer (some ⟨b53, 0, none⟩), .pointer (some ⟨b52, 0, none⟩), .pointer (some ⟨b56, 0, none⟩), .pointer (some ⟨b57, 0, none⟩)]] 130 (0, 0)) :: pt b56 (.cells #[.map (some b55)] 128 (0, 0)) :: mapC keyAr3i64.f Value.bool b55 q81 :: pt b54 (.cells #[.slice a78 q77.length c79] 28 (0, 0)) :: pt b53 (.cells (GuidePoint.cells x3).toArray 62 (0, 0)) :: pt b52 (.cells #[.int .i64 x2] 3 (0, 0)) :: pt b51 (.cells #[.slice a0_0 x0.Day.Trains.length c0_0, .slice a0_1 x0.Day.Turns.length c0_1, .int .i64 x0.least] 94 (0, 0)) :: (R ++ T_)) := hS
      generalize hT83 : R ++ T_ = R at hS
      refine W.gen fun K84 hK84 => ?_
      replace h0_0 := Sl.mono RApiTrain.mono hle76 h0_0
      replace h0_1 := Sl.mono (RL.mono RI.mono) hle76 h0_1
      replace h61 := Iter.mono hle76 h61
      refine W.block ?_
      refine W.seq ?_
      refine W.seq ?_
      refine W.gen fun K85 hK85 => ?_
      refine W.regionE (sel (fun w => St w s75 (pt b82 (.cells (GuideRide.cells x66).toArray 47 (0, 0)) :: pt b57 (.cells #[.func (.func 102) #[] #[.pointer (some ⟨b51, 0, none⟩), .pointer (some ⟨b53, 0, none⟩), .pointer (some ⟨b52, 0, none⟩), .pointer (some ⟨b56, 0, none⟩), .pointer (some ⟨b57, 0, none⟩)]] 130 (0, 0)) :: pt b56 (.cells #[.map (some b55)] 128 (0, 0)) :: mapC keyAr3i64.f Value.bool b55 q81 :: pt b54 (.cells #[.slice a78 q77.length c79] 28 (0, 0)) :: pt b53 (.cells (GuidePoint.cells x3).toArray 62 (0, 0)) :: pt b52 (.cells #[.int .i64 x2] 3 (0, 0)) :: pt b51 (.cells #[.slice a0_0 x0.Day.Trains.length c0_0, .slice a0_1 x0.Day.Turns.length c0_1, .int .i64 x0.least] 94 (0, 0)) :: R)) (fun w => St w s75 (pt b82 (.cells (GuideRide.cells x66).toArray 47 (0, 0)) :: pt b57 (.cells #[.func (.func 102) #[] #[.pointer (some ⟨b51, 0, none⟩), .pointer (some ⟨b53, 0, none⟩), .pointer (some ⟨b52, 0, none⟩), .pointer (some ⟨b56, 0, none⟩), .pointer (some ⟨b57, 0, none⟩)]] 130 (0, 0)) :: pt b56 (.cells #[.map (some b55)] 128 (0, 0)) :: mapC keyAr3i64.f Value.bool b55 q81 :: pt b54 (.cells #[.slice a78 q77.length c79] 28 (0, 0)) :: pt b53 (.cells (GuidePoint.cells x3).toArray 62 (0, 0)) :: pt b52 (.cells #[.int .i64 x2] 3 (0, 0)) :: pt b51 (.cells #[.slice a0_0 x0.Day.Trains.length c0_0, .slice a0_1 x0.Day.Turns.length c0_1, .int .i64 x0.least] 94 (0, 0)) :: R))) (fun b i => cond b ([0, 1, 2, 3, 4, 5, 6].contains i) ([0, 1, 2, 3, 4, 5, 6].contains i)) mixed ?_
      replace hS := hS.drew
      have hT := tw_sel (A := fun w => St w s75 (pt b82 (.cells (GuideRide.cells x66).toArray 47 (0, 0)) :: pt b57 (.cells #[.func (.func 102) #[] #[.pointer (some ⟨b51, 0, none⟩), .pointer (some ⟨b53, 0, none⟩), .pointer (some ⟨b52, 0, none⟩), .pointer (some ⟨b56, 0, none⟩), .pointer (some ⟨b57, 0, none⟩)]] 130 (0, 0)) :: pt b56 (.cells #[.map (some b55)] 128 (0, 0)) :: mapC keyAr3i64.f Value.bool b55 q81 :: pt b54 (.cells #[.slice a78 q77.length c79] 28 (0, 0)) :: pt b53 (.cells (GuidePoint.cells x3).toArray 62 (0, 0)) :: pt b52 (.cells #[.int .i64 x2] 3 (0, 0)) :: pt b51 (.cells #[.slice a0_0 x0.Day.Trains.length c0_0, .slice a0_1 x0.Day.Turns.length c0_1, .int .i64 x0.least] 94 (0, 0)) :: R)) (B := fun w => St w s75 (pt b82 (.cells (GuideRide.cells x66).toArray 47 (0, 0)) :: pt b57 (.cells #[.func (.func 102) #[] #[.pointer (some ⟨b51, 0, none⟩), .pointer (some ⟨b53, 0, none⟩), .pointer (some ⟨b52, 0, none⟩), .pointer (some ⟨b56, 0, none⟩), .pointer (some ⟨b57, 0, none⟩)]] 130 (0, 0)) :: pt b56 (.cells #[.map (some b55)] 128 (0, 0)) :: mapC keyAr3i64.f Value.bool b55 q81 :: pt b54 (.cells #[.slice a78 q77.length c79] 28 (0, 0)) :: pt b53 (.cells (GuidePoint.cells x3).toArray 62 (0, 0)) :: pt b52 (.cells #[.int .i64 x2] 3 (0, 0)) :: pt b51 (.cells #[.slice a0_0 x0.Day.Trains.length c0_0, .slice a0_1 x0.Day.Turns.length c0_1, .int .i64 x0.least] 94 (0, 0)) :: R)) (w := _) (x := true) (y := true) (fun _ => hS) (fun _ => hS)
      have hF := hS; replace hS := hS
      refine Rg.take (i := 0) true rfl hE rfl (by kernel_rfl) (runs_plain rfl) (Gives.loadBA hE 7 rfl rfl ty94) rfl hT ?_; clear hE a; intro a hE
      replace hS := hF; clear hF hT
      have hT := tw_sel (A := fun w => St w s75 (pt b82 (.cells (GuideRide.cells x66).toArray 47 (0, 0)) :: pt b57 (.cells #[.func (.func 102) #[] #[.pointer (some ⟨b51, 0, none⟩), .pointer (some ⟨b53, 0, none⟩), .pointer (some ⟨b52, 0, none⟩), .pointer (some ⟨b56, 0, none⟩), .pointer (some ⟨b57, 0, none⟩)]] 130 (0, 0)) :: pt b56 (.cells #[.map (some b55)] 128 (0, 0)) :: mapC keyAr3i64.f Value.bool b55 q81 :: pt b54 (.cells #[.slice a78 q77.length c79] 28 (0, 0)) :: pt b53 (.cells (GuidePoint.cells x3).toArray 62 (0, 0)) :: pt b52 (.cells #[.int .i64 x2] 3 (0, 0)) :: pt b51 (.cells #[.slice a0_0 x0.Day.Trains.length c0_0, .slice a0_1 x0.Day.Turns.length c0_1, .int .i64 x0.least] 94 (0, 0)) :: R)) (B := fun w => St w s75 (pt b82 (.cells (GuideRide.cells x66).toArray 47 (0, 0)) :: pt b57 (.cells #[.func (.func 102) #[] #[.pointer (some ⟨b51, 0, none⟩), .pointer (some ⟨b53, 0, none⟩), .pointer (some ⟨b52, 0, none⟩), .pointer (some ⟨b56, 0, none⟩), .pointer (some ⟨b57, 0, none⟩)]] 130 (0, 0)) :: pt b56 (.cells #[.map (some b55)] 128 (0, 0)) :: mapC keyAr3i64.f Value.bool b55 q81 :: pt b54 (.cells #[.slice a78 q77.length c79] 28 (0, 0)) :: pt b53 (.cells (GuidePoint.cells x3).toArray 62 (0, 0)) :: pt b52 (.cells #[.int .i64 x2] 3 (0, 0)) :: pt b51 (.cells #[.slice a0_0 x0.Day.Trains.length c0_0, .slice a0_1 x0.Day.Turns.length c0_1, .int .i64 x0.least] 94 (0, 0)) :: R)) (w := _) (x := true) (y := true) (fun _ => hS) (fun _ => hS)
      have hF := hS; replace hS := hS
      refine Rg.take (i := 1) true rfl hE rfl (by kernel_rfl) (runs_plain rfl) (Gives.loadBA hE 0 rfl rfl ty47) rfl hT ?_; clear hE a; intro a hE
      replace hS := hF; clear hF hT
      refine Rg.takeP (i := 4) hE rfl (by kernel_rfl) (runs_plain rfl) (Gives.fld hE rfl fl62_0) rfl (tw_sel (fun _ => hS) (fun _ => hS)) ?_; clear hE a; intro a hE
      have hT := tw_sel (A := fun w => St w s75 (pt b82 (.cells (GuideRide.cells x66).toArray 47 (0, 0)) :: pt b57 (.cells #[.func (.func 102) #[] #[.pointer (some ⟨b51, 0, none⟩), .pointer (some ⟨b53, 0, none⟩), .pointer (some ⟨b52, 0, none⟩), .pointer (some ⟨b56, 0, none⟩), .pointer (some ⟨b57, 0, none⟩)]] 130 (0, 0)) :: pt b56 (.cells #[.map (some b55)] 128 (0, 0)) :: mapC keyAr3i64.f Value.bool b55 q81 :: pt b54 (.cells #[.slice a78 q77.length c79] 28 (0, 0)) :: pt b53 (.cells (GuidePoint.cells x3).toArray 62 (0, 0)) :: pt b52 (.cells #[.int .i64 x2] 3 (0, 0)) :: pt b51 (.cells #[.slice a0_0 x0.Day.Trains.length c0_0, .slice a0_1 x0.Day.Turns.length c0_1, .int .i64 x0.least] 94 (0, 0)) :: R)) (B := fun w => St w s75 (pt b82 (.cells (GuideRide.cells x66).toArray 47 (0, 0)) :: pt b57 (.cells #[.func (.func 102) #[] #[.pointer (some ⟨b51, 0, none⟩), .pointer (some ⟨b53, 0, none⟩), .pointer (some ⟨b52, 0, none⟩), .pointer (some ⟨b56, 0, none⟩), .pointer (some ⟨b57, 0, none⟩)]] 130 (0, 0)) :: pt b56 (.cells #[.map (some b55)] 128 (0, 0)) :: mapC keyAr3i64.f Value.bool b55 q81 :: pt b54 (.cells #[.slice a78 q77.length c79] 28 (0, 0)) :: pt b53 (.cells (GuidePoint.cells x3).toArray 62 (0, 0)) :: pt b52 (.cells #[.int .i64 x2] 3 (0, 0)) :: pt b51 (.cells #[.slice a0_0 x0.Day.Trains.length c0_0, .slice a0_1 x0.Day.Turns.length c0_1, .int .i64 x0.least] 94 (0, 0)) :: R)) (w := _) (x := true) (y := true) (fun _ => hS) (fun _ => hS)
      have hF := hS; replace hS := hS
      refine Rg.take (i := 5) true rfl hE rfl (by kernel_rfl) (runs_plain rfl) (Gives.loadB hE 5 rfl rfl rfl ty3) rfl hT ?_; clear hE a; intro a hE
      replace hS := hF; clear hF hT
      refine Rg.one (i := 2) true true rfl (by kernel_rfl) (by kernel_rfl) (by kernel_rfl) ?_
      obtain ⟨q86, hq87, hq64⟩ := bindS hq64
      have hc_ := GuideNeton_ok hS h0_0 h0_1 hq87
      refine WL.fnq hE (hc_) (runs_plain rfl) bd99 rfl rfl rfl ?_
      clear hE hS hc_; rintro e w ⟨cs88, s90, rfl, hle91, h89, hS⟩; refine ⟨_, rfl, ?_⟩; clear a; intro a hE
      replace h0_0 := Sl.mono RApiTrain.mono hle91 h0_0
      replace h0_1 := Sl.mono (RL.mono RI.mono) hle91 h0_1
      replace h80 := Sl.mono RGuideRide.mono hle91 h80
      subst h89
      refine WL.nil ?_
      refine ⟨⟨fun _ => (St.down hle91 hS), fun _ => (St.down hle91 hS)⟩, ?_⟩
      refine Rg.takeP (i := 3) hE rfl (by kernel_rfl) (runs_plain rfl) (Gives.field1 hE rfl fd106_3 ty3 rfl) rfl (tw_sel (fun _ => (St.down hle91 hS)) (fun _ => (St.down hle91 hS))) ?_; clear hE a; intro a hE
      refine Rg.takeP (i := 6) hE rfl (by kernel_rfl) (runs_plain rfl) (Gives.p hE rfl) rfl (tw_sel (fun _ => (St.down hle91 hS)) (fun _ => (St.down hle91 hS))) ?_; clear hE a; intro a hE
      refine Rg.done (by kernel_rfl) ?_
      subst hK85
      refine W.cond hE rfl (fun hc92 => ?_) (fun hc92 => ?_)
      · replace hq64 := iteT hc92 hq64
        refine W.exit rfl ?_
        replace hS := hS.tail
        subst hK84
        subst hT83
        exact ⟨s90, _, ⟨rest67, q77, q81, a78, c79, hl69.trans (by simp), hq64, (Sg.Le.trans hle76 hle91), h80, rfl⟩, hS⟩
      · replace hq64 := iteF hc92 hq64
        refine W.skip ?_
        refine W.seq ?_
        refine W.region ?_
        refine WL.vS hS hE (runs_plain rfl) (Gives.loadB hE 1 rfl rfl rfl ty130) rfl ?_; clear hE a; intro a hE
        refine WL.vS hS hE (runs_plain rfl) (Gives.loadBA hE 0 rfl rfl ty47) rfl ?_; clear hE a; intro a hE
        refine WL.lit hE hS (e := 47) (es := 3) (vs := [(0, .agg (GuideRide.cells x66).toArray)]) (cs := [.int .i64 x66.Train, .int .i64 x66.On, .int .i64 x66.Off]) (runs_plain rfl) rfl (by kernel_rfl) rfl ?_; clear hE hS a w; intro b93 a w hE hS
        replace hS := hS.ptVec (es := 3) (m := 1) rfl (by decide)
        have h95 : Ev 3 RGuideRide s90 [.int .i64 x66.Train, .int .i64 x66.On, .int .i64 x66.Off] [x66] := (Ev.cons (c1 := [.int .i64 x66.Train, .int .i64 x66.On, .int .i64 x66.Off]) rfl rfl (Ev.nil))
        have hF := hS.fixD RGuideRide.mono 0 rfl h95 (rfl); clear hS; obtain ⟨s96, hle97, hS, h98⟩ := hF
        replace h0_0 := Sl.mono RApiTrain.mono hle97 h0_0
        replace h0_1 := Sl.mono (RL.mono RI.mono) hle97 h0_1
        replace h80 := Sl.mono RGuideRide.mono hle97 h80
        obtain ⟨q99, hq100, hq64⟩ := bindS hq64
        replace hS := hS.front 3 rfl
        replace hS := hS.front 2 rfl
        replace hS := hS.front 3 rfl
        replace hS := hS.front 6 rfl
        replace hS := hS.front 6 rfl
        replace hS := hS.front 7 rfl
        have hc_ := GuideNetleastOf_1_v1_ok (y0 := x0) (y1 := x3) hS h98 h0_0 h0_1 hq100
        refine WL.fnw hE (hc_) rfl (runs_plain rfl) bd102 rfl rfl rfl ?_
        clear hE hS hc_; rintro e w ⟨a101, c102, s105, rfl, hle106, h103, hz104, hS⟩; refine ⟨_, rfl, ?_⟩; clear a; intro a hE
        replace h0_0 := Sl.mono RApiTrain.mono hle106 h0_0
        replace h0_1 := Sl.mono (RL.mono RI.mono) hle106 h0_1
        replace h98 := Sl.mono RGuideRide.mono hle106 h98
        replace h80 := Sl.mono RGuideRide.mono hle106 h80
        refine WL.vS hS hE (runs_plain rfl) (Gives.p hE rfl) rfl ?_; clear hE a; intro a hE
        refine WL.nil ?_
        refine W.seq ?_
        refine W.region ?_
        refine WL.vS hS hE (runs_plain rfl) (Gives.p hE rfl) rfl ?_; clear hE a; intro a hE
        refine WL.vS hS hE (runs_plain rfl) (Gives.notNilZ hE (isNone_eq h103 hz104) rfl rfl isl26) rfl ?_; clear hE a; intro a hE
        refine WL.nil ?_
        refine W.cond hE rfl (fun hc107 => ?_) (fun hc107 => ?_)
        · replace hq64 := iteT hc107 hq64
          refine W.seq ?_
          refine W.region ?_
          refine WL.vS hS hE (runs_plain rfl) (Gives.p hE rfl) rfl ?_; clear hE a; intro a hE
          refine WL.vS hS hE (runs_plain rfl) (Gives.build hE (vs := [(0, .slice a101 q99.1.length c102)]) [.slice a101 q99.1.length c102] rfl (by kernel_rfl)) rfl ?_; clear hE a; intro a hE
          refine WL.storeI hE hS 7 rfl [.slice a101 q99.1.length c102] (runs_plain rfl) rfl rfl rfl ty28 rfl rfl rfl rfl ?_; clear hE hS a w; intro a w hE hS
          refine WL.nil ?_
          refine W.ret ?_
          subst hK84
          replace hS := hS.dropAt 6
          replace hS := hS.front 2 rfl
          replace hS := hS.front 2 rfl
          replace hS := hS.front 6 rfl
          replace hS := hS.front 6 rfl
          replace hS := hS.front 5 rfl
          replace hS := hS.front 6 rfl
          subst hT83
          exact ⟨s105, _, ⟨q99.1, q99.2, a101, c102, Option.some.inj hq64, (Sg.Le.trans (Sg.Le.trans (Sg.Le.trans hle76 hle91) hle97) hle106), h103, rfl⟩, hS⟩
        · replace hq64 := iteF hc107 hq64
          refine W.skip ?_
          replace hS := hS.dropAt 6
          replace hS := hS.front 2 rfl
          replace hS := hS.front 2 rfl
          replace hS := hS.front 6 rfl
          replace hS := hS.front 6 rfl
          replace hS := hS.front 5 rfl
          replace hS := hS.front 6 rfl
          subst hK84
          subst hT83
          exact ⟨s105, _, ⟨rest67, q77, q99.2, a78, c79, hl69.trans (by simp), hq64, (Sg.Le.trans (Sg.Le.trans (Sg.Le.trans hle76 hle91) hle97) hle106), h80, rfl⟩, hS⟩
    · intro s75 Q_ D71 a w hI_ hE hS
      obtain ⟨rest67, q77, q81, a78, c79, hl69, hq64, hle76, h80, rfl⟩ := hI_
      obtain rfl := pre_end hl69
      rw [GuideNetleastOf.loop1] at hq64
      exact ⟨q77, q81, _, _, D71, s75, hle76, Option.some.inj hq64, h80, hE.pick _ ⟨rfl, rfl, trivial⟩, hS⟩
    · intro c_ s75 Q_ D71 a w hc_ hX_ hE hS
      obtain rfl : c_ = .ret := hc_.elim id (fun h => (by obtain ⟨_, h, _⟩ := h; cases h))
      obtain ⟨q77, q81, a78, c79, rfl, hle76, h80, rfl⟩ := hX_
      dsimp only at hr
      replace h0_0 := Sl.mono RApiTrain.mono hle76 h0_0
      replace h0_1 := Sl.mono (RL.mono RI.mono) hle76 h0_1
      replace h61 := Iter.mono hle76 h61
      refine W.ret ?_
      refine finGM (fn := Tryd.f55) (rs := [.cell 8 28]) (vs := [.agg #[.slice a78 q77.length c79]]) hE hS 0 rfl rfl ?_
      clear hS; intro w hS
      refine ⟨⟨⟨_, rfl, .inl ⟨_, rfl, hS.seesAt 3 rfl, ty28⟩⟩, trivial⟩, ?_⟩
      obtain rfl := Option.some.inj hr
      replace hS := hS.tail
      replace hS := hS.tail
      replace hS := hS.tail
      replace hS := hS.tail
      replace hS := hS.tail
      replace hS := hS.tail
      replace hS := hS.tail
      exact ⟨_, s75, rfl, (Sg.Le.trans hle63 hle76), ⟨_, _, rfl, h80⟩, hS⟩
  · clear hE hS a w; rintro a w ⟨q77, q81, a78, c79, D71, s75, hle76, rfl, h80, hE, hS⟩
    dsimp only at hr
    replace h0_0 := Sl.mono RApiTrain.mono hle76 h0_0
    replace h0_1 := Sl.mono (RL.mono RI.mono) hle76 h0_1
    replace h61 := Iter.mono hle76 h61
    refine W.seq ?_
    refine W.region ?_
    refine WL.vS hS hE (runs_plain rfl) (Gives.build hE (vs := []) [.slice none 0 0] rfl (by kernel_rfl)) rfl ?_; clear hE a; intro a hE
    refine WL.storeI hE hS 4 rfl [.slice none 0 0] (runs_plain rfl) rfl rfl rfl ty28 rfl rfl rfl rfl ?_; clear hE hS a w; intro a w hE hS
    refine WL.nil ?_
    refine W.ret ?_
    refine finGM (fn := Tryd.f55) (rs := [.cell 8 28]) (vs := [.agg #[.slice none 0 0]]) hE hS 0 rfl rfl ?_
    clear hS; intro w hS
    refine ⟨⟨⟨_, rfl, .inl ⟨_, rfl, hS.seesAt 3 rfl, ty28⟩⟩, trivial⟩, ?_⟩
    obtain rfl := Option.some.inj hr
    replace hS := hS.tail
    replace hS := hS.tail
    replace hS := hS.tail
    replace hS := hS.tail
    replace hS := hS.tail
    replace hS := hS.tail
    replace hS := hS.tail
    exact ⟨_, s75, rfl, (Sg.Le.trans hle63 hle76), ⟨_, _, rfl, Sl.nil⟩, hS⟩
set_option maxHeartbeats 8000000 in
theorem GuideNetearliest_ok {fu : Nat}  {w : World} {s : Sg} {R : List HP} {x0 : GuideNet} {a0_0 : Option Addr} {c0_0 : Nat} {a0_1 : Option Addr} {c0_1 : Nat} {x1 : Int} {x2 : Int} {x3 : Int} (hS : St w s (R)) (h0_0 : Sl 4 RApiTrain s a0_0 c0_0 x0.Day.Trains) (h0_1 : Sl 1 (RL 1 (RI .i64)) s a0_1 c0_1 x0.Day.Turns) {r : GuideJourney × Bool} (hr : GuideNetearliest fu x0 x1 x2 x3 = some r) :
    Calls Tryd.prog 47 [.agg [.slice a0_0 x0.Day.Trains.length c0_0, .slice a0_1 x0.Day.Turns.length c0_1, .int .i64 x0.least].toArray, .int .i64 x1, .int .i64 x2, .int .i64 x3].toArray w (fun e w => ∃ (cs0 : List Value) (t : Sg), e = .returned (.tuple #[.agg cs0.toArray, .bool r.2]) ∧ s.Le t ∧ RGuideJourney t cs0 r.1 ∧ St w t (R)) := by
  refine enter Tryd.func47 rfl rfl rfl fun a hE => ?_
  rw [GuideNetearliest] at hr
  refine W.seq ?_
  refine W.region ?_
  refine WL.box hE hS (runs_plain rfl) rfl rfl rfl ?_; clear hE hS a w; intro b51 a w hE hS
  refine WL.box hE hS (runs_plain rfl) rfl rfl rfl ?_; clear hE hS a w; intro b52 a w hE hS
  refine WL.alloc hE hS (runs_plain rfl) zr28 rfl ?_; clear hE hS a w; intro b53 a w hE hS
  refine WL.vS hS hE (runs_plain rfl) (Gives.p hE rfl) rfl ?_; clear hE a; intro a hE
  refine WL.nil ?_
  refine W.seq ?_
  refine W.region ?_
  refine WL.vS hS hE (runs_plain rfl) (Gives.loadBA hE 2 rfl rfl ty94) rfl ?_; clear hE a; intro a hE
  refine WL.vS hS hE (runs_plain rfl) (Gives.p hE rfl) rfl ?_; clear hE a; intro a hE
  refine WL.vS hS hE (runs_plain rfl) (Gives.p hE rfl) rfl ?_; clear hE a; intro a hE
  obtain ⟨q54, hq55, hr⟩ := bindS hr
  have hc_ := GuideNetpoints_ok hS h0_0 h0_1 hq55
  refine WL.fnq hE (hc_) (runs_plain rfl) bd49 rfl rfl rfl ?_
  clear hE hS hc_; rintro e w ⟨a56, c57, n58, cs59, s62, rfl, hle63, h60, rfl, hS⟩; refine ⟨_, rfl, ?_⟩; clear a; intro a hE
  replace h0_0 := Sl.mono RApiTrain.mono hle63 h0_0
  replace h0_1 := Sl.mono (RL.mono RI.mono) hle63 h0_1
  refine WL.vS hS hE (runs_plain rfl) (Gives.mkfn hE (vs := [.pointer (some ⟨b52, 0, none⟩)]) rfl) rfl ?_; clear hE a; intro a hE
  obtain ⟨q64, hq65, hr⟩ := bindS hr
  replace hS := hS.front 0 rfl
  replace hS := hS.front 2 rfl
  have hc_ := SlicesDeleteFuncLguidePoint_v1_ok hS h60 rfl hq65
  refine WL.fnq hE (hc_) (runs_plain rfl) bd48 rfl rfl rfl ?_
  clear hE hS hc_; rintro e w ⟨a66, c67, n68, cs69, rfl, h70, rfl, hS⟩; refine ⟨_, rfl, ?_⟩; clear a; intro a hE
  refine WL.vS hS hE (runs_plain rfl) (Gives.p hE rfl) rfl ?_; clear hE a; intro a hE
  refine WL.nil ?_
  refine W.seq ?_
  refine W.seq ?_
  refine W.region ?_
  refine WL.vS hS hE (runs_plain rfl) (Gives.p hE rfl) rfl ?_; clear hE a; intro a hE
  refine WL.vS hS hE (runs_plain rfl) (Gives.len hE rfl sl55) rfl ?_; clear hE a; intro a hE
  refine WL.vS hS hE (runs_plain rfl) (Gives.p hE rfl) rfl ?_; clear hE a; intro a hE
  refine WL.nil ?_
  refine W.cond hE rfl (fun hc72 => ?_) (fun hc72 => ?_)
  · replace hr := iteT hc72 hr
    refine W.seq ?_
    refine W.region ?_
    refine WL.vS hS hE (runs_plain rfl) (Gives.build hE (vs := []) [.slice none 0 0] rfl (by kernel_rfl)) rfl ?_; clear hE a; intro a hE
    refine WL.storeI hE hS 2 rfl [.slice none 0 0] (runs_plain rfl) rfl rfl rfl ty28 rfl rfl rfl rfl ?_; clear hE hS a w; intro a w hE hS
    refine WL.vS hS hE (runs_plain rfl) (Gives.p hE rfl) rfl ?_; clear hE a; intro a hE
    refine WL.nil ?_
    refine W.ret ?_
    refine finG (fn := Tryd.f47) (rs := [.cell 8 28, .tmp 9]) (vs := [_, _]) hE rfl ⟨⟨_, rfl, .inl ⟨_, rfl, hS.seesAt 2 rfl, ty28⟩⟩, rfl, trivial⟩ ?_
    obtain rfl := Option.some.inj hr
    replace hS := hS.tail
    replace hS := hS.tail
    replace hS := hS.tail
    replace hS := hS.tail
    exact ⟨_, s62, rfl, hle63, ⟨_, _, rfl, Sl.nil⟩, hS⟩
  · replace hr := iteF hc72 hr
    refine W.skip ?_
    refine W.seq ?_
    refine W.region ?_
    refine WL.vS hS hE (runs_plain rfl) (Gives.p hE rfl) rfl ?_; clear hE a; intro a hE
    have hF := hS.fixD RGuidePoint.mono 0 rfl h70 rfl; clear hS; obtain ⟨s73, hle74, hS, h75⟩ := hF
    replace h0_0 := Sl.mono RApiTrain.mono hle74 h0_0
    replace h0_1 := Sl.mono (RL.mono RI.mono) hle74 h0_1
    obtain ⟨q76, hq77, hr⟩ := bindS hr
    have hc_ := SlicesMinFuncLguidePoint_v1_ok hS h75 hq77
    refine WL.fnq hE (hc_) (runs_plain rfl) bd51 rfl rfl rfl ?_
    clear hE hS hc_; rintro e w ⟨cs78, s80, rfl, hle81, h79, hS⟩; refine ⟨_, rfl, ?_⟩; clear a; intro a hE
    replace h0_0 := Sl.mono RApiTrain.mono hle81 h0_0
    replace h0_1 := Sl.mono (RL.mono RI.mono) hle81 h0_1
    replace h75 := Sl.mono RGuidePoint.mono hle81 h75
    subst h79
    refine WL.alloc hE hS (runs_plain rfl) zr62 rfl ?_; clear hE hS a w; intro b82 a w hE hS
    refine WL.storeI hE hS 0 rfl (GuidePoint.cells q76) (runs_plain rfl) rfl rfl rfl ty62 rfl rfl rfl rfl ?_; clear hE hS a w; intro a w hE hS
    refine WL.nil ?_
    refine W.seq ?_
    refine W.region ?_
    refine WL.vS hS hE (runs_plain rfl) (Gives.loadBA hE 3 rfl rfl ty94) rfl ?_; clear hE a; intro a hE
    refine WL.vS hS hE (runs_plain rfl) (Gives.p hE rfl) rfl ?_; clear hE a; intro a hE
    refine WL.vS hS hE (runs_plain rfl) (Gives.p hE rfl) rfl ?_; clear hE a; intro a hE
    refine WL.vS hS hE (runs_plain rfl) (Gives.loadBA hE 0 rfl rfl ty62) rfl ?_; clear hE a; intro a hE
    obtain ⟨q83, hq84, hr⟩ := bindS hr
    have hc_ := GuideNetleastOf_ok hS h0_0 h0_1 hq84
    refine WL.fnq hE (hc_) (runs_plain rfl) bd55 rfl rfl rfl ?_
    clear hE hS hc_; rintro e w ⟨cs85, s87, rfl, hle88, h86, hS⟩; refine ⟨_, rfl, ?_⟩; clear a; intro a hE
    replace h0_0 := Sl.mono RApiTrain.mono hle88 h0_0
    replace h0_1 := Sl.mono (RL.mono RI.mono) hle88 h0_1
    replace h75 := Sl.mono RGuidePoint.mono hle88 h75
    obtain ⟨a89, c90, rfl, h91⟩ := h86
    refine WL.storeI hE hS 2 rfl [.slice a89 q83.Rides.length c90] (runs_plain rfl) rfl rfl rfl ty28 rfl rfl rfl rfl ?_; clear hE hS a w; intro a w hE hS
    refine WL.vS hS hE (runs_plain rfl) (Gives.p hE rfl) rfl ?_; clear hE a; intro a hE
    refine WL.nil ?_
    refine W.ret ?_
    refine finG (fn := Tryd.f47) (rs := [.cell 8 28, .tmp 9]) (vs := [_, _]) hE rfl ⟨⟨_, rfl, .inl ⟨_, rfl, hS.seesAt 2 rfl, ty28⟩⟩, rfl, trivial⟩ ?_
    obtain rfl := Option.some.inj hr
    replace hS := hS.tail
    replace hS := hS.tail
    replace hS := hS.tail
    replace hS := hS.tail
    exact ⟨_, s87, rfl, (Sg.Le.trans (Sg.Le.trans (Sg.Le.trans hle63 hle74) hle81) hle88), ⟨_, _, rfl, h91⟩, hS⟩
set_option maxHeartbeats 8000000 in
theorem GuideEarliest_ok {fu : Nat}  {w : World} {s : Sg} {R : List HP} {x0 : ApiDay} {a0_0 : Option Addr} {c0_0 : Nat} {a0_1 : Option Addr} {c0_1 : Nat} {x1 : Int} {x2 : Int} {x3 : Int} {x4 : Int} (hS : St w s (R)) (hTab : TabS Tryd.prog s) (h0_0 : Sl 4 RApiTrain s a0_0 c0_0 x0.Trains) (h0_1 : Sl 1 (RL 1 (RI .i64)) s a0_1 c0_1 x0.Turns) {r : GuideJourney × Int} (hr : GuideEarliest fu x0 x1 x2 x3 x4 = some r) :
    Calls Tryd.prog 10 [.agg [.slice a0_0 x0.Trains.length c0_0, .slice a0_1 x0.Turns.length c0_1].toArray, .int .i64 x1, .int .i64 x2, .int .i64 x3, .int .i64 x4].toArray w (fun e w => ∃ (cs0 : List Value) (t : Sg), e = .returned (.tuple #[.agg cs0.toArray, .int .i64 r.2]) ∧ s.Le t ∧ RGuideJourney t cs0 r.1 ∧ St w t (R)) := by
  refine enter Tryd.func10 rfl rfl rfl fun a hE => ?_
  rw [GuideEarliest] at hr
  refine W.seq ?_
  refine W.region ?_
  refine WL.box hE hS (runs_plain rfl) rfl rfl rfl ?_; clear hE hS a w; intro b51 a w hE hS
  refine WL.alloc hE hS (runs_plain rfl) zr28 rfl ?_; clear hE hS a w; intro b52 a w hE hS
  refine WL.vS hS hE (runs_plain rfl) (Gives.p hE rfl) rfl ?_; clear hE a; intro a hE
  refine WL.nil ?_
  refine W.seq ?_
  refine W.seq ?_
  refine W.region ?_
  refine WL.vS hS hE (runs_plain rfl) (Gives.loadBA hE 1 rfl rfl ty25) rfl ?_; clear hE a; intro a hE
  refine WL.vS hS hE (runs_plain rfl) (Gives.p hE rfl) rfl ?_; clear hE a; intro a hE
  refine WL.vS hS hE (runs_plain rfl) (Gives.p hE rfl) rfl ?_; clear hE a; intro a hE
  refine WL.vS hS hE (runs_plain rfl) (Gives.p hE rfl) rfl ?_; clear hE a; intro a hE
  refine WL.vS hS hE (runs_plain rfl) (Gives.p hE rfl) rfl ?_; clear hE a; intro a hE
  refine WL.lit hE hS (e := 3) (es := 1) (vs := [(0, .int .i64 x2)]) (cs := [.int .i64 x2]) (runs_plain rfl) rfl (by kernel_rfl) rfl ?_; clear hE hS a w; intro b53 a w hE hS
  replace hS := hS.ptVec (es := 1) (m := 1) rfl (by decide)
  have h55 : Ev 1 (RI .i64) s [.int .i64 x2] [x2] := (Ev.cons (c1 := [.int .i64 x2]) rfl rfl (Ev.nil))
  have hF := hS.fixD RI.mono 0 rfl h55 (rfl); clear hS; obtain ⟨s56, hle57, hS, h58⟩ := hF
  replace h0_0 := Sl.mono RApiTrain.mono hle57 h0_0
  replace h0_1 := Sl.mono (RL.mono RI.mono) hle57 h0_1
  obtain ⟨q59, hq60, hr⟩ := bindS hr
  have hc_ := Guidecheck_ok hS (TabS.mono hle57 hTab) h0_0 h0_1 h58 hq60
  refine WL.fnq hE (hc_) (runs_plain rfl) bd46 rfl rfl rfl ?_
  clear hE hS hc_; rintro e w ⟨rfl, hS⟩; refine ⟨_, rfl, ?_⟩; clear a; intro a hE
  refine WL.vS hS hE (runs_plain rfl) (Gives.p hE rfl) rfl ?_; clear hE a; intro a hE
  refine WL.nil ?_
  refine W.seq ?_
  refine W.region ?_
  refine WL.vS hS hE (runs_plain rfl) (Gives.p hE rfl) rfl ?_; clear hE a; intro a hE
  refine WL.vS hS hE (runs_plain rfl) (Gives.p hE rfl) rfl ?_; clear hE a; intro a hE
  refine WL.nil ?_
  refine W.cond hE rfl (fun hc61 => ?_) (fun hc61 => ?_)
  · replace hr := iteT hc61 hr
    refine W.seq ?_
    refine W.region ?_
    refine WL.vS hS hE (runs_plain rfl) (Gives.build hE (vs := []) [.slice none 0 0] rfl (by kernel_rfl)) rfl ?_; clear hE a; intro a hE
    refine WL.vS hS hE (runs_plain rfl) (Gives.p hE rfl) rfl ?_; clear hE a; intro a hE
    refine WL.storeI hE hS 0 rfl [.slice none 0 0] (runs_plain rfl) rfl rfl rfl ty28 rfl rfl rfl rfl ?_; clear hE hS a w; intro a w hE hS
    refine WL.vS hS hE (runs_plain rfl) (Gives.p hE rfl) rfl ?_; clear hE a; intro a hE
    refine WL.nil ?_
    refine W.ret ?_
    refine finG (fn := Tryd.f10) (rs := [.cell 10 28, .tmp 11]) (vs := [_, _]) hE rfl ⟨⟨_, rfl, .inl ⟨_, rfl, hS.seesAt 0 rfl, ty28⟩⟩, rfl, trivial⟩ ?_
    obtain rfl := Option.some.inj hr
    replace hS := hS.tail
    replace hS := hS.tail
    exact ⟨_, s56, rfl, hle57, ⟨_, _, rfl, Sl.nil⟩, hS⟩
  · replace hr := iteF hc61 hr
    refine W.skip ?_
    refine W.seq ?_
    refine W.region ?_
    refine WL.vS hS hE (runs_plain rfl) (Gives.loadBA hE 1 rfl rfl ty25) rfl ?_; clear hE a; intro a hE
    refine WL.vS hS hE (runs_plain rfl) (Gives.p hE rfl) rfl ?_; clear hE a; intro a hE
    refine WL.vS hS hE (runs_plain rfl) (Gives.build hE (vs := [(0, .agg [.slice a0_0 x0.Trains.length c0_0, .slice a0_1 x0.Turns.length c0_1].toArray), (1, .int .i64 x4)]) [.slice a0_0 x0.Trains.length c0_0, .slice a0_1 x0.Turns.length c0_1, .int .i64 x4] rfl (by kernel_rfl)) rfl ?_; clear hE a; intro a hE
    refine WL.vS hS hE (runs_plain rfl) (Gives.p hE rfl) rfl ?_; clear hE a; intro a hE
    refine WL.vS hS hE (runs_plain rfl) (Gives.p hE rfl) rfl ?_; clear hE a; intro a hE
    refine WL.vS hS hE (runs_plain rfl) (Gives.p hE rfl) rfl ?_; clear hE a; intro a hE
    obtain ⟨q62, hq63, hr⟩ := bindS hr
    have hc_ := GuideNetearliest_ok hS h0_0 h0_1 hq63
    refine WL.fnq hE (hc_) (runs_plain rfl) bd47 rfl rfl rfl ?_
    clear hE hS hc_; rintro e w ⟨cs64, s66, rfl, hle67, h65, hS⟩; refine ⟨_, rfl, ?_⟩; clear a; intro a hE
    replace h0_0 := Sl.mono RApiTrain.mono hle67 h0_0
    replace h0_1 := Sl.mono (RL.mono RI.mono) hle67 h0_1
    replace h58 := Sl.mono RI.mono hle67 h58
    obtain ⟨a68, c69, rfl, h70⟩ := h65
    refine WL.vS hS hE (runs_plain rfl) (Gives.p hE rfl) rfl ?_; clear hE a; intro a hE
    refine WL.vS hS hE (runs_plain rfl) (Gives.p hE rfl) rfl ?_; clear hE a; intro a hE
    refine WL.vS hS hE (runs_plain rfl) (Gives.p hE rfl) rfl ?_; clear hE a; intro a hE
    refine WL.alloc hE hS (runs_plain rfl) zr28 rfl ?_; clear hE hS a w; intro b71 a w hE hS
    refine WL.storeI hE hS 0 rfl [.slice a68 q62.1.Rides.length c69] (runs_plain rfl) rfl rfl rfl ty28 rfl rfl rfl rfl ?_; clear hE hS a w; intro a w hE hS
    refine WL.vS hS hE (runs_plain rfl) (Gives.p hE rfl) rfl ?_; clear hE a; intro a hE
    refine WL.nil ?_
    refine W.seq ?_
    refine W.seq ?_
    refine W.region ?_
    refine WL.vS hS hE (runs_plain rfl) (Gives.p hE rfl) rfl ?_; clear hE a; intro a hE
    refine WL.vS hS hE (runs_plain rfl) (Gives.p hE rfl) rfl ?_; clear hE a; intro a hE
    refine WL.nil ?_
    refine W.cond hE rfl (fun hc72 => ?_) (fun hc72 => ?_)
    · replace hr := iteT hc72 hr
      refine W.seq ?_
      refine W.region ?_
      refine WL.vS hS hE (runs_plain rfl) (Gives.build hE (vs := []) [.slice none 0 0] rfl (by kernel_rfl)) rfl ?_; clear hE a; intro a hE
      refine WL.storeI hE hS 1 rfl [.slice none 0 0] (runs_plain rfl) rfl rfl rfl ty28 rfl rfl rfl rfl ?_; clear hE hS a w; intro a w hE hS
      refine WL.vS hS hE (runs_plain rfl) (Gives.p hE rfl) rfl ?_; clear hE a; intro a hE
      refine WL.nil ?_
      refine W.ret ?_
      refine finG (fn := Tryd.f10) (rs := [.cell 10 28, .tmp 11]) (vs := [_, _]) hE rfl ⟨⟨_, rfl, .inl ⟨_, rfl, hS.seesAt 1 rfl, ty28⟩⟩, rfl, trivial⟩ ?_
      obtain rfl := Option.some.inj hr
      replace hS := hS.tail
      replace hS := hS.tail
      replace hS := hS.tail
      exact ⟨_, s66, rfl, (Sg.Le.trans hle57 hle67), ⟨_, _, rfl, Sl.nil⟩, hS⟩
    · replace hr := iteF hc72 hr
      refine W.skip ?_
      refine W.seq ?_
      refine W.region ?_
      refine WL.vS hS hE (runs_plain rfl) (Gives.loadBA hE 0 rfl rfl ty28) rfl ?_; clear hE a; intro a hE
      refine WL.storeI hE hS 1 rfl [.slice a68 q62.1.Rides.length c69] (runs_plain rfl) rfl rfl rfl ty28 rfl rfl rfl rfl ?_; clear hE hS a w; intro a w hE hS
      refine WL.vS hS hE (runs_plain rfl) (Gives.p hE rfl) rfl ?_; clear hE a; intro a hE
      refine WL.nil ?_
      refine W.ret ?_
      refine finG (fn := Tryd.f10) (rs := [.cell 10 28, .tmp 11]) (vs := [_, _]) hE rfl ⟨⟨_, rfl, .inl ⟨_, rfl, hS.seesAt 1 rfl, ty28⟩⟩, rfl, trivial⟩ ?_
      obtain rfl := Option.some.inj hr
      replace hS := hS.tail
      replace hS := hS.tail
      replace hS := hS.tail
      exact ⟨_, s66, rfl, (Sg.Le.trans hle57 hle67), ⟨_, _, rfl, h70⟩, hS⟩
set_option maxHeartbeats 8000000 in
theorem SlicesEqualLguideRide_ok  {w : World} {s : Sg} {R : List HP} {x0 : List GuideRide} {a0 : Option Addr} {c0 : Nat} {x1 : List GuideRide} {a1 : Option Addr} {c1 : Nat} (hS : St w s (R)) (h0 : Sl 3 RGuideRide s a0 c0 x0) (h1 : Sl 3 RGuideRide s a1 c1 x1) {r : Bool} (hr : SlicesEqualLguideRide x0 x1 = some r) :
    Calls Tryd.prog 59 [.slice a0 x0.length c0, .slice a1 x1.length c1].toArray w (fun e w => e = .returned (.bool r) ∧ St w s (R)) := by
  refine enter Tryd.func59 rfl rfl rfl fun a hE => ?_
  rw [SlicesEqualLguideRide] at hr
  refine W.seq ?_
  refine W.region ?_
  refine WL.vS hS hE (runs_plain rfl) (Gives.p hE rfl) rfl ?_; clear hE a; intro a hE
  refine WL.nil ?_
  refine W.seq ?_
  refine W.seq ?_
  refine W.region ?_
  refine WL.vS hS hE (runs_plain rfl) (Gives.p hE rfl) rfl ?_; clear hE a; intro a hE
  refine WL.vS hS hE (runs_plain rfl) (Gives.len hE rfl sl26) rfl ?_; clear hE a; intro a hE
  refine WL.vS hS hE (runs_plain rfl) (Gives.p hE rfl) rfl ?_; clear hE a; intro a hE
  refine WL.vS hS hE (runs_plain rfl) (Gives.len hE rfl sl26) rfl ?_; clear hE a; intro a hE
  refine WL.vS hS hE (runs_plain rfl) (Gives.p hE rfl) rfl ?_; clear hE a; intro a hE
  refine WL.nil ?_
  refine W.cond hE rfl (fun hc51 => ?_) (fun hc51 => ?_)
  · replace hr := iteT hc51 hr
    refine W.seq ?_
    refine W.region ?_
    refine WL.vS hS hE (runs_plain rfl) (Gives.p hE rfl) rfl ?_; clear hE a; intro a hE
    refine WL.nil ?_
    refine W.ret ?_
    refine finG (fn := Tryd.f59) (rs := [.tmp 4]) (vs := [_]) hE rfl ⟨rfl, trivial⟩ ?_
    obtain rfl := Option.some.inj hr
    exact ⟨rfl, hS⟩
  · replace hr := iteF hc51 hr
    refine W.skip ?_
    refine W.seq ?_
    refine W.seq ?_
    refine W.region ?_
    refine WL.vS hS hE (runs_plain rfl) (Gives.p hE rfl) rfl ?_; clear hE a; intro a hE
    refine WL.vS hS hE (runs_plain rfl) (Gives.len hE rfl sl26) rfl ?_; clear hE a; intro a hE
    refine WL.vS hS hE (runs_plain rfl) (Gives.p hE rfl) rfl ?_; clear hE a; intro a hE
    refine WL.nil ?_
    obtain ⟨q53, hq52, hr⟩ := bindS hr
    refine W.cut (fun a w => (.next ()) = q53 ∧ Rep a 26 [] ∧ St w s (R)) ?_ ?_
    · refine W.block ?_
      refine W.loop (fun m a w => ∃ (rest56 : List GuideRide) (k54 : Nat), rest56.length = m ∧ x0.drop k54 = rest56 ∧ SlicesEqualLguideRide.loop1 x1 rest56 k54 = some q53 ∧ Rep a 26 [(0, .slice a0 x0.length c0), (1, .slice a1 x1.length c1), (12, .int .i64 ((x0).length : Int)), (13, .int .i64 ((k54 : Nat) : Int))] ∧ St w s (R)) (m := x0.length) ⟨x0, 0, rfl, rfl, hq52, hE.pick _ ⟨rfl, rfl, rfl, rfl, trivial⟩, hS⟩ ?_
      clear hE hS a w hq52; rintro m60 a w ⟨rest56, k54, rfl, hd57, hq52, hE, hS⟩
      refine W.gen fun K63 hK63 => ?_
      rcases rest56 with _ | ⟨x55, rest56⟩
      · have hlt58 := drop_nil hd57
        refine W.seq ?_
        refine W.region ?_
        refine WL.vS hS hE (runs_plain rfl) (Gives.p hE rfl) rfl ?_; clear hE a; intro a hE
        refine WL.nil ?_
        refine W.seq ?_
        refine W.condF hE rfl (decide_eq_false (by omega)) ?_
        subst hK63
        refine W.exit rfl ?_
        exact ⟨Option.some.inj hq52, hE.pick _ trivial, hS⟩
      · obtain ⟨hlt58, hx59, hd57⟩ := drop_cons hd57
        rw [SlicesEqualLguideRide.loop1] at hq52
        refine W.seq ?_
        refine W.region ?_
        refine WL.vS hS hE (runs_plain rfl) (Gives.p hE rfl) rfl ?_; clear hE a; intro a hE
        refine WL.nil ?_
        refine W.seq ?_
        refine W.condT hE rfl (decide_eq_true (by omega)) ?_
        refine W.skip ?_
        refine W.seq ?_
        refine W.block ?_
        refine W.seq ?_
        refine W.region ?_
        refine WL.vS hS hE (runs_plain rfl) (Gives.p hE rfl) rfl ?_; clear hE a; intro a hE
        refine WL.vS hS hE (runs_plain rfl) (Gives.p hE rfl) rfl ?_; clear hE a; intro a hE
        refine WL.nil ?_
        refine W.seq ?_
        refine W.regionQ (C := fun w => St w s (R)) mixed (by kernel_rfl) hS.drew ?_
        refine QL.v hE (runs_plain rfl) (Gives.p hE rfl) rfl ?_; clear hE a; intro a hE
        refine QL.v hE (runs_plain rfl) (Gives.p hE rfl) rfl ?_; clear hE a; intro a hE
        obtain ⟨cs64, hl65, hR66, hat67⟩ := h0.at hx59
        subst hR66
        refine QL.v hE (runs_plain rfl) (Gives.idx hE k54 rfl rfl sl26 rfl hlt58 (h0.aok hlt58)) rfl ?_; clear hE a; intro a hE
        refine QL.v hE (runs_plain rfl) (Gives.loadA hE rfl (fun w h => hat67 w _ h) ty47) rfl ?_; clear hE a; intro a hE
        refine QL.v hE (runs_plain rfl) (Gives.p hE rfl) rfl ?_; clear hE a; intro a hE
        refine QL.v hE (runs_plain rfl) (Gives.p hE rfl) rfl ?_; clear hE a; intro a hE
        obtain ⟨x68, hx69, hq52⟩ := bindS hq52
        obtain ⟨hi70, hlt71, hy72⟩ := gx_some hx69
        obtain ⟨cs73, hl74, hR75, hat76⟩ := h1.at hy72
        subst hR75
        refine QL.v hE (runs_plain rfl) (Gives.idx hE (((k54 : Nat) : Int)).toNat rfl rfl sl26 hi70 hlt71 (h1.aok hlt71)) rfl ?_; clear hE a; intro a hE
        refine QL.v hE (runs_plain rfl) (Gives.loadA hE rfl (fun w h => hat76 w _ h) ty47) rfl ?_; clear hE a; intro a hE
        refine QL.v hE (runs_plain rfl) (show Gives _ _ _ _ (Value.bool (!((x55.Train == x68.Train) && ((x55.On == x68.On) && (x55.Off == x68.Off))))) from Gives.neS hE [.i .i64, .i .i64, .i .i64] [.i .i64 x55.Train, .i .i64 x55.On, .i .i64 x55.Off] [.i .i64 x68.Train, .i .i64 x68.On, .i .i64 x68.Off] rfl rfl se47 rfl rfl rfl rfl) rfl ?_; clear hE a; intro a hE
        refine QL.nil ?_; clear hS w; intro w hS
        refine W.cond hE rfl (fun hc77 => ?_) (fun hc77 => ?_)
        · replace hq52 := iteT hc77 hq52
          refine W.seq ?_
          refine W.region ?_
          refine WL.vS hS hE (runs_plain rfl) (Gives.p hE rfl) rfl ?_; clear hE a; intro a hE
          refine WL.nil ?_
          refine W.ret ?_
          subst hK63
          rw [← Option.some.inj hq52] at hr
          dsimp only at hr
          refine finG (fn := Tryd.f59) (rs := [.tmp 4]) (vs := [_]) hE rfl ⟨rfl, trivial⟩ ?_
          obtain rfl := Option.some.inj hr
          exact ⟨rfl, hS⟩
        · replace hq52 := iteF hc77 hq52
          refine W.skip ?_
          refine W.region ?_
          refine WL.vS hS hE (runs_plain rfl) (Gives.inc hE rfl (by have := h0.small; omega)) rfl ?_; clear hE a; intro a hE
          refine WL.vS hS hE (runs_plain rfl) (Gives.p hE rfl) rfl ?_; clear hE a; intro a hE
          refine WL.nil ?_
          subst hK63
          exact ⟨rest56.length, Nat.lt_succ_self _, rest56, k54 + 1, rfl, hd57, hq52, hE.pick _ ⟨rfl, rfl, rfl, rfl, trivial⟩, hS⟩
    · clear hE hS a w; rintro a w ⟨rfl, hE, hS⟩
      dsimp only at hr
      refine W.seq ?_
      refine W.region ?_
      refine WL.vS hS hE (runs_plain rfl) (Gives.p hE rfl) rfl ?_; clear hE a; intro a hE
      refine WL.nil ?_
      refine W.ret ?_
      refine finG (fn := Tryd.f59) (rs := [.tmp 4]) (vs := [_]) hE rfl ⟨rfl, trivial⟩ ?_
      obtain rfl := Option.some.inj hr
      exact ⟨rfl, hS⟩
set_option maxHeartbeats 8000000 in
theorem Fishlaw2guides_ok {fu : Nat}  {w : World} {s : Sg} {R : List HP}  (hS : St w s (R)) (hTab : TabS Tryd.prog s) {r : Bool} (hr : Fishlaw2guides fu = some r) :
    Calls Tryd.prog 13 [].toArray w (fun e w => e = .returned (.bool r) ∧ St w s (R)) := by
  refine enter Tryd.func13 rfl rfl rfl fun a hE => ?_
  rw [Fishlaw2guides] at hr
  refine W.seq ?_
  refine W.region ?_
  refine WL.vS hS hE (runs_plain rfl) (Gives.p hE rfl) rfl ?_; clear hE a; intro a hE
  refine WL.nil ?_
  refine W.seq ?_
  refine W.region ?_
  obtain ⟨q51, hq52, hr⟩ := bndS hr
  have hc_ := Fishlaw2small_ok hS  hq52
  refine WL.fnq hE (hc_) (runs_plain rfl) bd58 rfl rfl rfl ?_
  clear hE hS hc_; rintro e w ⟨cs53, s55, rfl, hle56, h54, hS⟩; refine ⟨_, rfl, ?_⟩; clear a; intro a hE
  obtain ⟨a57, c58, a60, c61, rfl, h59, h62⟩ := h54
  obtain ⟨q63, hq64, hr⟩ := bindS hr
  have hc_ := GuideEarliest_ok hS (TabS.mono hle56 hTab) h59 h62 hq64
  refine WL.fnq hE (hc_) (runs_plain rfl) bd10 rfl rfl rfl ?_
  clear hE hS hc_; rintro e w ⟨cs65, s67, rfl, hle68, h66, hS⟩; refine ⟨_, rfl, ?_⟩; clear a; intro a hE
  replace h59 := Sl.mono RApiTrain.mono hle68 h59
  replace h62 := Sl.mono (RL.mono RI.mono) hle68 h62
  obtain ⟨a69, c70, rfl, h71⟩ := h66
  refine WL.vS hS hE (runs_plain rfl) (Gives.p hE rfl) rfl ?_; clear hE a; intro a hE
  refine WL.vS hS hE (runs_plain rfl) (Gives.p hE rfl) rfl ?_; clear hE a; intro a hE
  refine WL.vS hS hE (runs_plain rfl) (Gives.p hE rfl) rfl ?_; clear hE a; intro a hE
  refine WL.alloc hE hS (runs_plain rfl) zr28 rfl ?_; clear hE hS a w; intro b72 a w hE hS
  refine WL.storeI hE hS 0 rfl [.slice a69 q63.1.Rides.length c70] (runs_plain rfl) rfl rfl rfl ty28 rfl rfl rfl rfl ?_; clear hE hS a w; intro a w hE hS
  refine WL.vS hS hE (runs_plain rfl) (Gives.p hE rfl) rfl ?_; clear hE a; intro a hE
  refine WL.nil ?_
  refine W.seq ?_
  obtain ⟨q74, hq73, hr⟩ := bindS hr
  refine W.cut (fun a w => ∃ (q77 : Bool), ∃ (s75 : Sg), s67.Le s75 ∧ q77 = q74 ∧ Rep a 18 [(0, .bool q77)] ∧ St w s75 (pt b72 (.cells #[.slice a69 q63.1.Rides.length c70] 28 (0, 0)) :: R)) ?_ ?_
  · refine W.gen fun K78 hK78 => ?_
    refine W.region ?_
    refine WL.vS hS hE (runs_plain rfl) (Gives.p hE rfl) rfl ?_; clear hE a; intro a hE
    refine WL.vS hS hE (runs_plain rfl) (Gives.p hE rfl) rfl ?_; clear hE a; intro a hE
    refine WL.vS hS hE (runs_plain rfl) (Gives.p hE rfl) rfl ?_; clear hE a; intro a hE
    rcases Bool.eq_false_or_eq_true (q63.2 == 0) with hg79 | hg79
    · replace hq73 := iteT hg79 hq73
      refine WL.vS hS hE (runs_if hE rfl rfl rfl hg79) (Gives.fld hE rfl fl28_0) rfl ?_; clear hE a; intro a hE
      refine WL.vS hS hE (runs_if hE rfl rfl rfl hg79) (Gives.loadB hE 0 rfl rfl rfl ty26) rfl ?_; clear hE a; intro a hE
      refine WL.vS hS hE (runs_if hE rfl rfl rfl hg79) (Gives.build hE (vs := [(0, .int .i64 0), (1, .int .i64 0), (2, .int .i64 1)]) [.int .i64 0, .int .i64 0, .int .i64 1] rfl (by kernel_rfl)) rfl ?_; clear hE a; intro a hE
      refine WL.vS hS hE (runs_if hE rfl rfl rfl hg79) (Gives.build hE (vs := [(0, .int .i64 1), (1, .int .i64 0), (2, .int .i64 1)]) [.int .i64 1, .int .i64 0, .int .i64 1] rfl (by kernel_rfl)) rfl ?_; clear hE a; intro a hE
      refine WL.lit hE hS (e := 47) (es := 3) (vs := [(0, .agg [.int .i64 0, .int .i64 0, .int .i64 1].toArray), (1, .agg [.int .i64 1, .int .i64 0, .int .i64 1].toArray)]) (cs := [.int .i64 0, .int .i64 0, .int .i64 1, .int .i64 1, .int .i64 0, .int .i64 1]) (runs_if hE rfl rfl rfl hg79) rfl (by kernel_rfl) rfl ?_; clear hE hS a w; intro b80 a w hE hS
      replace hS := hS.ptVec (es := 3) (m := 2) rfl (by decide)
      have h82 : Ev 3 RGuideRide s67 [.int .i64 0, .int .i64 0, .int .i64 1, .int .i64 1, .int .i64 0, .int .i64 1] [(GuideRide.mk 0 0 1), (GuideRide.mk 1 0 1)] := (Ev.cons (c1 := [.int .i64 0, .int .i64 0, .int .i64 1]) rfl rfl (Ev.cons (c1 := [.int .i64 1, .int .i64 0, .int .i64 1]) rfl rfl (Ev.nil)))
      have hF := hS.fixD RGuideRide.mono 0 rfl h82 (rfl); clear hS; obtain ⟨s83, hle84, hS, h85⟩ := hF
      replace h59 := Sl.mono RApiTrain.mono hle84 h59
      replace h62 := Sl.mono (RL.mono RI.mono) hle84 h62
      replace h71 := Sl.mono RGuideRide.mono hle84 h71
      obtain ⟨q86, hq87, hq73⟩ := bindS hq73
      have hc_ := SlicesEqualLguideRide_ok hS h71 h85 hq87
      refine WL.fnq hE (hc_) (runs_if hE rfl rfl rfl hg79) bd59 rfl rfl rfl ?_
      clear hE hS hc_; rintro e w ⟨rfl, hS⟩; refine ⟨_, rfl, ?_⟩; clear a; intro a hE
      refine WL.vS hS hE (runs_plain rfl) (Gives.pickT hE rfl hg79 rfl) rfl ?_; clear hE a; intro a hE
      refine WL.vS hS hE (runs_plain rfl) (Gives.p hE rfl) rfl ?_; clear hE a; intro a hE
      refine WL.nil ?_
      subst hK78
      exact ⟨q86, s83, hle84, Option.some.inj hq73, hE.pick _ ⟨rfl, trivial⟩, hS⟩
    · replace hq73 := iteF hg79 hq73
      refine WL.no hE (runs_not hE rfl rfl rfl (by rw [hg79]; decide)) rfl ?_; clear hE a; intro a hE
      refine WL.no hE (runs_not hE rfl rfl rfl (by rw [hg79]; decide)) rfl ?_; clear hE a; intro a hE
      refine WL.no hE (runs_not hE rfl rfl rfl (by rw [hg79]; decide)) rfl ?_; clear hE a; intro a hE
      refine WL.no hE (runs_not hE rfl rfl rfl (by rw [hg79]; decide)) rfl ?_; clear hE a; intro a hE
      refine WL.no hE (runs_not hE rfl rfl rfl (by rw [hg79]; decide)) rfl ?_; clear hE a; intro a hE
      refine WL.no hE (runs_not hE rfl rfl rfl (by rw [hg79]; decide)) rfl ?_; clear hE a; intro a hE
      refine WL.vS hS hE (runs_plain rfl) (Gives.pickF hE rfl hg79 rfl) rfl ?_; clear hE a; intro a hE
      refine WL.vS hS hE (runs_plain rfl) (Gives.p hE rfl) rfl ?_; clear hE a; intro a hE
      refine WL.nil ?_
      subst hK78
      exact ⟨false, s67, (Sg.Le.refl _), Option.some.inj hq73, hE.pick _ ⟨rfl, trivial⟩, hS⟩
  · clear hE hS a w; rintro a w ⟨q77, s75, hle76, rfl, hE, hS⟩
    replace h71 := Sl.mono RGuideRide.mono hle76 h71
    refine W.ret ?_
    refine finG (fn := Tryd.f13) (rs := [.tmp 0]) (vs := [_]) hE rfl ⟨rfl, trivial⟩ ?_
    obtain rfl := Option.some.inj hr
    replace hS := hS.tail
    exact ⟨rfl, (hS.down (Sg.Le.trans (Sg.Le.trans hle56 hle68) hle76))⟩
set_option maxHeartbeats 8000000 in
theorem Fishref2JourneyFault_ok  {w : World} {s : Sg} {R : List HP} {x0 : ApiDay} {a0_0 : Option Addr} {c0_0 : Nat} {a0_1 : Option Addr} {c0_1 : Nat} {x1 : GuideJourney} {a1_0 : Option Addr} {c1_0 : Nat} {x2 : Int} {x3 : Bool} (hS : St w s (R)) (h0_0 : Sl 4 RApiTrain s a0_0 c0_0 x0.Trains) (_h0_1 : Sl 1 (RL 1 (RI .i64)) s a0_1 c0_1 x0.Turns) (h1_0 : Sl 3 RGuideRide s a1_0 c1_0 x1.Rides) {r : Int} (hr : Fishref2JourneyFault x0 x1 x2 x3 = some r) :
    Calls Tryd.prog 18 [.agg [.slice a0_0 x0.Trains.length c0_0, .slice a0_1 x0.Turns.length c0_1].toArray, .agg [.slice a1_0 x1.Rides.length c1_0].toArray, .int .i64 x2, .bool x3].toArray w (fun e w => e = .returned (.int .i64 r) ∧ St w s (R)) := by
  refine enter Tryd.func18 rfl rfl rfl fun a hE => ?_
  rw [Fishref2JourneyFault] at hr
  refine W.seq ?_
  refine W.region ?_
  refine WL.box hE hS (runs_plain rfl) rfl rfl rfl ?_; clear hE hS a w; intro b51 a w hE hS
  refine WL.box hE hS (runs_plain rfl) rfl rfl rfl ?_; clear hE hS a w; intro b52 a w hE hS
  refine WL.vS hS hE (runs_plain rfl) (Gives.p hE rfl) rfl ?_; clear hE a; intro a hE
  refine WL.nil ?_
  refine W.seq ?_
  refine W.seq ?_
  refine W.region ?_
  refine WL.vS hS hE (runs_plain rfl) (Gives.p hE rfl) rfl ?_; clear hE a; intro a hE
  refine WL.fnq hE (Fishref2within_ok hS  rfl (r := Fishref2within x2 0 28800)) (runs_plain rfl) bd57 rfl rfl rfl ?_
  clear hE hS; rintro e w ⟨rfl, hS⟩; refine ⟨_, rfl, ?_⟩; clear a; intro a hE
  refine WL.vS hS hE (runs_plain rfl) (Gives.p hE rfl) rfl ?_; clear hE a; intro a hE
  refine WL.nil ?_
  refine W.cond hE rfl (fun hc53 => ?_) (fun hc53 => ?_)
  · replace hr := iteT hc53 hr
    refine W.seq ?_
    refine W.region ?_
    refine WL.vS hS hE (runs_plain rfl) (Gives.p hE rfl) rfl ?_; clear hE a; intro a hE
    refine WL.nil ?_
    refine W.ret ?_
    refine finG (fn := Tryd.f18) (rs := [.tmp 8]) (vs := [_]) hE rfl ⟨rfl, trivial⟩ ?_
    obtain rfl := Option.some.inj hr
    replace hS := hS.tail
    replace hS := hS.tail
    exact ⟨rfl, hS⟩
  · replace hr := iteF hc53 hr
    refine W.skip ?_
    refine W.seq ?_
    refine W.seq ?_
    refine W.region ?_
    refine WL.vS hS hE (runs_plain rfl) (Gives.fld hE rfl fl28_0) rfl ?_; clear hE a; intro a hE
    refine WL.vS hS hE (runs_plain rfl) (Gives.loadB hE 0 rfl rfl rfl ty26) rfl ?_; clear hE a; intro a hE
    refine WL.vS hS hE (runs_plain rfl) (Gives.len hE rfl sl26) rfl ?_; clear hE a; intro a hE
    refine WL.fnq hE (Fishref2within_ok hS  rfl (r := Fishref2within ((x1.Rides).length : Int) 1 4)) (runs_plain rfl) bd57 rfl rfl rfl ?_
    clear hE hS; rintro e w ⟨rfl, hS⟩; refine ⟨_, rfl, ?_⟩; clear a; intro a hE
    refine WL.vS hS hE (runs_plain rfl) (Gives.p hE rfl) rfl ?_; clear hE a; intro a hE
    refine WL.nil ?_
    refine W.cond hE rfl (fun hc54 => ?_) (fun hc54 => ?_)
    · replace hr := iteT hc54 hr
      refine W.seq ?_
      refine W.region ?_
      refine WL.vS hS hE (runs_plain rfl) (Gives.p hE rfl) rfl ?_; clear hE a; intro a hE
      refine WL.nil ?_
      refine W.ret ?_
      refine finG (fn := Tryd.f18) (rs := [.tmp 8]) (vs := [_]) hE rfl ⟨rfl, trivial⟩ ?_
      obtain rfl := Option.some.inj hr
      replace hS := hS.tail
      replace hS := hS.tail
      exact ⟨rfl, hS⟩
    · replace hr := iteF hc54 hr
      refine W.skip ?_
      refine W.seq ?_
      refine W.seq ?_
      refine W.region ?_
      refine WL.vS hS hE (runs_plain rfl) (Gives.fld hE rfl fl28_0) rfl ?_; clear hE a; intro a hE
      refine WL.vS hS hE (runs_plain rfl) (Gives.loadB hE 0 rfl rfl rfl ty26) rfl ?_; clear hE a; intro a hE
      refine WL.vS hS hE (runs_plain rfl) (Gives.len hE rfl sl26) rfl ?_; clear hE a; intro a hE
      refine WL.vS hS hE (runs_plain rfl) (Gives.p hE rfl) rfl ?_; clear hE a; intro a hE
      refine WL.nil ?_
      obtain ⟨q56, hq55, hr⟩ := bindS hr
      refine W.cut (fun a w => (.next ()) = q56 ∧ Rep a 125 [] ∧ St w s (pt b52 (.cells #[.slice a1_0 x1.Rides.length c1_0] 28 (0, 0)) :: pt b51 (.cells #[.slice a0_0 x0.Trains.length c0_0, .slice a0_1 x0.Turns.length c0_1] 25 (0, 0)) :: R)) ?_ ?_
      · refine W.block ?_
        refine W.loop (fun m a w => ∃ (rest59 : List GuideRide) (k57 : Nat), rest59.length = m ∧ x1.Rides.drop k57 = rest59 ∧ Fishref2JourneyFault.loop1 x0 x1 x2 x3 rest59 k57 = some q56 ∧ Rep a 125 [(2, .int .i64 x2), (3, .bool x3), (4, .pointer (some ⟨b51, 0, none⟩)), (5, .pointer (some ⟨b52, 0, none⟩)), (23, .slice a1_0 x1.Rides.length c1_0), (24, .int .i64 ((x1.Rides).length : Int)), (25, .int .i64 ((k57 : Nat) : Int))] ∧ St w s (pt b52 (.cells #[.slice a1_0 x1.Rides.length c1_0] 28 (0, 0)) :: pt b51 (.cells #[.slice a0_0 x0.Trains.length c0_0, .slice a0_1 x0.Turns.length c0_1] 25 (0, 0)) :: R)) (m := x1.Rides.length) ⟨x1.Rides, 0, rfl, rfl, hq55, hE.pick _ ⟨rfl, rfl, rfl, rfl, rfl, rfl, rfl, trivial⟩, hS⟩ ?_
        clear hE hS a w hq55; rintro m63 a w ⟨rest59, k57, rfl, hd60, hq55, hE, hS⟩
        refine W.gen fun K66 hK66 => ?_
        rcases rest59 with _ | ⟨x58, rest59⟩
        · have hlt61 := drop_nil hd60
          refine W.seq ?_
          refine W.region ?_
          refine WL.vS hS hE (runs_plain rfl) (Gives.p hE rfl) rfl ?_; clear hE a; intro a hE
          refine WL.nil ?_
          refine W.seq ?_
          refine W.condF hE rfl (decide_eq_false (by omega)) ?_
          subst hK66
          refine W.exit rfl ?_
          exact ⟨Option.some.inj hq55, hE.pick _ trivial, hS⟩
        · obtain ⟨hlt61, hx62, hd60⟩ := drop_cons hd60
          rw [Fishref2JourneyFault.loop1] at hq55
          refine W.seq ?_
          refine W.region ?_
          refine WL.vS hS hE (runs_plain rfl) (Gives.p hE rfl) rfl ?_; clear hE a; intro a hE
          refine WL.nil ?_
          refine W.seq ?_
          refine W.condT hE rfl (decide_eq_true (by omega)) ?_
          refine W.skip ?_
          refine W.seq ?_
          refine W.block ?_
          refine W.seq ?_
          refine W.region ?_
          refine WL.vS hS hE (runs_plain rfl) (Gives.p hE rfl) rfl ?_; clear hE a; intro a hE
          obtain ⟨cs67, hl68, hR69, hat70⟩ := h1_0.at hx62
          subst hR69
          refine WL.vS hS hE (runs_plain rfl) (Gives.idx hE k57 rfl rfl sl26 rfl hlt61 (h1_0.aok hlt61)) rfl ?_; clear hE a; intro a hE
          refine WL.vS hS hE (runs_plain rfl) (Gives.loadA hE rfl (fun w h => hat70 w _ h) ty47) rfl ?_; clear hE a; intro a hE
          refine WL.alloc hE hS (runs_plain rfl) zr47 rfl ?_; clear hE hS a w; intro b71 a w hE hS
          refine WL.vS hS hE (runs_plain rfl) (Gives.p hE rfl) rfl ?_; clear hE a; intro a hE
          refine WL.storeI hE hS 0 rfl (GuideRide.cells x58) (runs_plain rfl) rfl rfl rfl ty47 rfl rfl rfl rfl ?_; clear hE hS a w; intro a w hE hS
          refine WL.nil ?_
          refine W.seq ?_
          refine W.seq ?_
          obtain ⟨q73, hq72, hq55⟩ := bndS hq55
          refine W.cut (fun a w => ∃ (q76 : Bool), q76 = q73 ∧ Rep a 125 [(2, .int .i64 x2), (3, .bool x3), (4, .pointer (some ⟨b51, 0, none⟩)), (5, .pointer (some ⟨b52, 0, none⟩)), (9, .int .i64 ((k57 : Nat) : Int)), (10, .pointer (some ⟨b71, 0, none⟩)), (23, .slice a1_0 x1.Rides.length c1_0), (24, .int .i64 ((x1.Rides).length : Int)), (25, .int .i64 ((k57 : Nat) : Int)), (40, .bool q76)] ∧ St w s (pt b71 (.cells (GuideRide.cells x58).toArray 47 (0, 0)) :: pt b52 (.cells #[.slice a1_0 x1.Rides.length c1_0] 28 (0, 0)) :: pt b51 (.cells #[.slice a0_0 x0.Trains.length c0_0, .slice a0_1 x0.Turns.length c0_1] 25 (0, 0)) :: R)) ?_ ?_
          · refine W.gen fun K77 hK77 => ?_
            refine W.region ?_
            refine WL.vS hS hE (runs_plain rfl) (Gives.fld hE rfl fl47_0) rfl ?_; clear hE a; intro a hE
            refine WL.vS hS hE (runs_plain rfl) (Gives.loadB hE 0 rfl rfl rfl ty3) rfl ?_; clear hE a; intro a hE
            refine WL.vS hS hE (runs_plain rfl) (Gives.p hE rfl) rfl ?_; clear hE a; intro a hE
            refine WL.vS hS hE (runs_plain rfl) (Gives.p hE rfl) rfl ?_; clear hE a; intro a hE
            rcases Bool.eq_false_or_eq_true (decide (x58.Train < 0)) with hg78 | hg78
            · replace hq72 := iteT hg78 hq72
              refine WL.no hE (runs_not hE rfl rfl rfl (by rw [hg78]; decide)) rfl ?_; clear hE a; intro a hE
              refine WL.no hE (runs_not hE rfl rfl rfl (by rw [hg78]; decide)) rfl ?_; clear hE a; intro a hE
              refine WL.no hE (runs_not hE rfl rfl rfl (by rw [hg78]; decide)) rfl ?_; clear hE a; intro a hE
              refine WL.no hE (runs_not hE rfl rfl rfl (by rw [hg78]; decide)) rfl ?_; clear hE a; intro a hE
              refine WL.no hE (runs_not hE rfl rfl rfl (by rw [hg78]; decide)) rfl ?_; clear hE a; intro a hE
              refine WL.no hE (runs_not hE rfl rfl rfl (by rw [hg78]; decide)) rfl ?_; clear hE a; intro a hE
              refine WL.vS hS hE (runs_plain rfl) (Gives.pickT hE rfl hg78 rfl) rfl ?_; clear hE a; intro a hE
              refine WL.nil ?_
              subst hK77
              exact ⟨true, hq72, hE.pick _ ⟨rfl, rfl, rfl, rfl, rfl, rfl, rfl, rfl, rfl, rfl, trivial⟩, hS⟩
            · replace hq72 := iteF hg78 hq72
              refine WL.vS hS hE (runs_if hE rfl rfl rfl hg78) (Gives.fld hE rfl fl47_0) rfl ?_; clear hE a; intro a hE
              refine WL.vS hS hE (runs_if hE rfl rfl rfl hg78) (Gives.loadB hE 0 rfl rfl rfl ty3) rfl ?_; clear hE a; intro a hE
              refine WL.vS hS hE (runs_if hE rfl rfl rfl hg78) (Gives.fld hE rfl fl25_0) rfl ?_; clear hE a; intro a hE
              refine WL.vS hS hE (runs_if hE rfl rfl rfl hg78) (Gives.loadB hE 2 rfl rfl rfl ty22) rfl ?_; clear hE a; intro a hE
              refine WL.vS hS hE (runs_if hE rfl rfl rfl hg78) (Gives.len hE rfl sl22) rfl ?_; clear hE a; intro a hE
              refine WL.vS hS hE (runs_if hE rfl rfl rfl hg78) (Gives.p hE rfl) rfl ?_; clear hE a; intro a hE
              refine WL.vS hS hE (runs_plain rfl) (Gives.pickF hE rfl hg78 rfl) rfl ?_; clear hE a; intro a hE
              refine WL.nil ?_
              subst hK77
              exact ⟨decide (x58.Train ≥ ((x0.Trains).length : Int)), hq72, hE.pick _ ⟨rfl, rfl, rfl, rfl, rfl, rfl, rfl, rfl, rfl, rfl, trivial⟩, hS⟩
          · clear hE hS a w; rintro a w ⟨q76, rfl, hE, hS⟩
            refine W.cond hE rfl (fun hc79 => ?_) (fun hc79 => ?_)
            · replace hq55 := iteT hc79 hq55
              refine W.seq ?_
              refine W.region ?_
              refine WL.vS hS hE (runs_plain rfl) (Gives.p hE rfl) rfl ?_; clear hE a; intro a hE
              refine WL.nil ?_
              refine W.ret ?_
              subst hK66
              rw [← Option.some.inj hq55] at hr
              dsimp only at hr
              refine finG (fn := Tryd.f18) (rs := [.tmp 8]) (vs := [_]) hE rfl ⟨rfl, trivial⟩ ?_
              obtain rfl := Option.some.inj hr
              replace hS := hS.tail
              replace hS := hS.tail
              replace hS := hS.tail
              exact ⟨rfl, hS⟩
            · replace hq55 := iteF hc79 hq55
              refine W.skip ?_
              refine W.seq ?_
              refine W.region ?_
              refine WL.vS hS hE (runs_plain rfl) (Gives.fld hE rfl fl25_0) rfl ?_; clear hE a; intro a hE
              refine WL.vS hS hE (runs_plain rfl) (Gives.loadB hE 2 rfl rfl rfl ty22) rfl ?_; clear hE a; intro a hE
              refine WL.vS hS hE (runs_plain rfl) (Gives.fld hE rfl fl47_0) rfl ?_; clear hE a; intro a hE
              refine WL.vS hS hE (runs_plain rfl) (Gives.loadB hE 0 rfl rfl rfl ty3) rfl ?_; clear hE a; intro a hE
              obtain ⟨x80, hx81, hq55⟩ := bindS hq55
              obtain ⟨hi82, hlt83, hy84⟩ := gx_some hx81
              obtain ⟨cs85, hl86, hR87, hat88⟩ := h0_0.at hy84
              obtain ⟨a89, c90, a92, c93, rfl, h91, h94⟩ := hR87
              refine WL.vS hS hE (runs_plain rfl) (Gives.idx hE (x58.Train).toNat rfl rfl sl22 hi82 hlt83 (h0_0.aok hlt83)) rfl ?_; clear hE a; intro a hE
              refine WL.vS hS hE (runs_plain rfl) (Gives.fld hE rfl fl44_2) rfl ?_; clear hE a; intro a hE
              refine WL.vS hS hE (runs_plain rfl) (Gives.load1 hE rfl (fun w h => (hat88 w _ h).one rfl) ty42) rfl ?_; clear hE a; intro a hE
              refine WL.vS hS hE (runs_plain rfl) (Gives.p hE rfl) rfl ?_; clear hE a; intro a hE
              refine WL.nil ?_
              refine W.seq ?_
              refine W.seq ?_
              obtain ⟨q96, hq95, hq55⟩ := bndS hq55
              refine W.cut (fun a w => ∃ (q99 : Bool), q99 = q96 ∧ Rep a 125 [(2, .int .i64 x2), (3, .bool x3), (4, .pointer (some ⟨b51, 0, none⟩)), (5, .pointer (some ⟨b52, 0, none⟩)), (9, .int .i64 ((k57 : Nat) : Int)), (10, .pointer (some ⟨b71, 0, none⟩)), (11, .slice a89 x80.Stops.length c90), (23, .slice a1_0 x1.Rides.length c1_0), (24, .int .i64 ((x1.Rides).length : Int)), (25, .int .i64 ((k57 : Nat) : Int)), (69, .bool q99)] ∧ St w s (pt b71 (.cells (GuideRide.cells x58).toArray 47 (0, 0)) :: pt b52 (.cells #[.slice a1_0 x1.Rides.length c1_0] 28 (0, 0)) :: pt b51 (.cells #[.slice a0_0 x0.Trains.length c0_0, .slice a0_1 x0.Turns.length c0_1] 25 (0, 0)) :: R)) ?_ ?_
              · refine W.gen fun K100 hK100 => ?_
                refine W.region ?_
                refine WL.vS hS hE (runs_plain rfl) (Gives.fld hE rfl fl47_1) rfl ?_; clear hE a; intro a hE
                refine WL.vS hS hE (runs_plain rfl) (Gives.loadB hE 0 rfl rfl rfl ty3) rfl ?_; clear hE a; intro a hE
                refine WL.vS hS hE (runs_plain rfl) (Gives.p hE rfl) rfl ?_; clear hE a; intro a hE
                refine WL.vS hS hE (runs_plain rfl) (Gives.p hE rfl) rfl ?_; clear hE a; intro a hE
                rcases Bool.eq_false_or_eq_true (decide (x58.On < 0)) with hg101 | hg101
                · replace hq95 := iteT hg101 hq95
                  refine WL.no hE (runs_not hE rfl rfl rfl (by rw [hg101]; decide)) rfl ?_; clear hE a; intro a hE
                  refine WL.no hE (runs_not hE rfl rfl rfl (by rw [hg101]; decide)) rfl ?_; clear hE a; intro a hE
                  refine WL.no hE (runs_not hE rfl rfl rfl (by rw [hg101]; decide)) rfl ?_; clear hE a; intro a hE
                  refine WL.no hE (runs_not hE rfl rfl rfl (by rw [hg101]; decide)) rfl ?_; clear hE a; intro a hE
                  refine WL.no hE (runs_not hE rfl rfl rfl (by rw [hg101]; decide)) rfl ?_; clear hE a; intro a hE
                  refine WL.vS hS hE (runs_plain rfl) (Gives.pickT hE rfl hg101 rfl) rfl ?_; clear hE a; intro a hE
                  refine WL.vS hS hE (runs_plain rfl) (Gives.p hE rfl) rfl ?_; clear hE a; intro a hE
                  refine WL.no hE (runs_not hE rfl rfl rfl (by decide)) rfl ?_; clear hE a; intro a hE
                  refine WL.no hE (runs_not hE rfl rfl rfl (by decide)) rfl ?_; clear hE a; intro a hE
                  refine WL.no hE (runs_not hE rfl rfl rfl (by decide)) rfl ?_; clear hE a; intro a hE
                  refine WL.vS hS hE (runs_plain rfl) (Gives.pickT hE rfl rfl rfl) rfl ?_; clear hE a; intro a hE
                  refine WL.vS hS hE (runs_plain rfl) (Gives.p hE rfl) rfl ?_; clear hE a; intro a hE
                  refine WL.no hE (runs_not hE rfl rfl rfl (by decide)) rfl ?_; clear hE a; intro a hE
                  refine WL.no hE (runs_not hE rfl rfl rfl (by decide)) rfl ?_; clear hE a; intro a hE
                  refine WL.no hE (runs_not hE rfl rfl rfl (by decide)) rfl ?_; clear hE a; intro a hE
                  refine WL.no hE (runs_not hE rfl rfl rfl (by decide)) rfl ?_; clear hE a; intro a hE
                  refine WL.no hE (runs_not hE rfl rfl rfl (by decide)) rfl ?_; clear hE a; intro a hE
                  refine WL.vS hS hE (runs_plain rfl) (Gives.pickT hE rfl rfl rfl) rfl ?_; clear hE a; intro a hE
                  refine WL.nil ?_
                  subst hK100
                  exact ⟨true, hq95, hE.pick _ ⟨rfl, rfl, rfl, rfl, rfl, rfl, rfl, rfl, rfl, rfl, rfl, trivial⟩, hS⟩
                · replace hq95 := iteF hg101 hq95
                  refine WL.vS hS hE (runs_if hE rfl rfl rfl hg101) (Gives.fld hE rfl fl47_1) rfl ?_; clear hE a; intro a hE
                  refine WL.vS hS hE (runs_if hE rfl rfl rfl hg101) (Gives.loadB hE 0 rfl rfl rfl ty3) rfl ?_; clear hE a; intro a hE
                  refine WL.vS hS hE (runs_if hE rfl rfl rfl hg101) (Gives.p hE rfl) rfl ?_; clear hE a; intro a hE
                  refine WL.vS hS hE (runs_if hE rfl rfl rfl hg101) (Gives.len hE rfl sl42) rfl ?_; clear hE a; intro a hE
                  refine WL.vS hS hE (runs_if hE rfl rfl rfl hg101) (Gives.p hE rfl) rfl ?_; clear hE a; intro a hE
                  refine WL.vS hS hE (runs_plain rfl) (Gives.pickF hE rfl hg101 rfl) rfl ?_; clear hE a; intro a hE
                  refine WL.vS hS hE (runs_plain rfl) (Gives.p hE rfl) rfl ?_; clear hE a; intro a hE
                  rcases Bool.eq_false_or_eq_true (decide (x58.On ≥ ((x80.Stops).length : Int))) with hg102 | hg102
                  · replace hq95 := iteT hg102 hq95
                    refine WL.no hE (runs_not hE rfl rfl rfl (by rw [hg102]; decide)) rfl ?_; clear hE a; intro a hE
                    refine WL.no hE (runs_not hE rfl rfl rfl (by rw [hg102]; decide)) rfl ?_; clear hE a; intro a hE
                    refine WL.no hE (runs_not hE rfl rfl rfl (by rw [hg102]; decide)) rfl ?_; clear hE a; intro a hE
                    refine WL.vS hS hE (runs_plain rfl) (Gives.pickT hE rfl hg102 rfl) rfl ?_; clear hE a; intro a hE
                    refine WL.vS hS hE (runs_plain rfl) (Gives.p hE rfl) rfl ?_; clear hE a; intro a hE
                    refine WL.no hE (runs_not hE rfl rfl rfl (by decide)) rfl ?_; clear hE a; intro a hE
                    refine WL.no hE (runs_not hE rfl rfl rfl (by decide)) rfl ?_; clear hE a; intro a hE
                    refine WL.no hE (runs_not hE rfl rfl rfl (by decide)) rfl ?_; clear hE a; intro a hE
                    refine WL.no hE (runs_not hE rfl rfl rfl (by decide)) rfl ?_; clear hE a; intro a hE
                    refine WL.no hE (runs_not hE rfl rfl rfl (by decide)) rfl ?_; clear hE a; intro a hE
                    refine WL.vS hS hE (runs_plain rfl) (Gives.pickT hE rfl rfl rfl) rfl ?_; clear hE a; intro a hE
                    refine WL.nil ?_
                    subst hK100
                    exact ⟨true, hq95, hE.pick _ ⟨rfl, rfl, rfl, rfl, rfl, rfl, rfl, rfl, rfl, rfl, rfl, trivial⟩, hS⟩
                  · replace hq95 := iteF hg102 hq95
                    refine WL.vS hS hE (runs_if hE rfl rfl rfl hg102) (Gives.fld hE rfl fl47_2) rfl ?_; clear hE a; intro a hE
                    refine WL.vS hS hE (runs_if hE rfl rfl rfl hg102) (Gives.loadB hE 0 rfl rfl rfl ty3) rfl ?_; clear hE a; intro a hE
                    refine WL.vS hS hE (runs_if hE rfl rfl rfl hg102) (Gives.p hE rfl) rfl ?_; clear hE a; intro a hE
                    refine WL.vS hS hE (runs_plain rfl) (Gives.pickF hE rfl hg102 rfl) rfl ?_; clear hE a; intro a hE
                    refine WL.vS hS hE (runs_plain rfl) (Gives.p hE rfl) rfl ?_; clear hE a; intro a hE
                    rcases Bool.eq_false_or_eq_true (decide (x58.Off < 0)) with hg103 | hg103
                    · replace hq95 := iteT hg103 hq95
                      refine WL.no hE (runs_not hE rfl rfl rfl (by rw [hg103]; decide)) rfl ?_; clear hE a; intro a hE
                      refine WL.no hE (runs_not hE rfl rfl rfl (by rw [hg103]; decide)) rfl ?_; clear hE a; intro a hE
                      refine WL.no hE (runs_not hE rfl rfl rfl (by rw [hg103]; decide)) rfl ?_; clear hE a; intro a hE
                      refine WL.no hE (runs_not hE rfl rfl rfl (by rw [hg103]; decide)) rfl ?_; clear hE a; intro a hE
                      refine WL.no hE (runs_not hE rfl rfl rfl (by rw [hg103]; decide)) rfl ?_; clear hE a; intro a hE
                      refine WL.vS hS hE (runs_plain rfl) (Gives.pickT hE rfl hg103 rfl) rfl ?_; clear hE a; intro a hE
                      refine WL.nil ?_
                      subst hK100
                      exact ⟨true, hq95, hE.pick _ ⟨rfl, rfl, rfl, rfl, rfl, rfl, rfl, rfl, rfl, rfl, rfl, trivial⟩, hS⟩
                    · replace hq95 := iteF hg103 hq95
                      refine WL.vS hS hE (runs_if hE rfl rfl rfl hg103) (Gives.fld hE rfl fl47_2) rfl ?_; clear hE a; intro a hE
                      refine WL.vS hS hE (runs_if hE rfl rfl rfl hg103) (Gives.loadB hE 0 rfl rfl rfl ty3) rfl ?_; clear hE a; intro a hE
                      refine WL.vS hS hE (runs_if hE rfl rfl rfl hg103) (Gives.p hE rfl) rfl ?_; clear hE a; intro a hE
                      refine WL.vS hS hE (runs_if hE rfl rfl rfl hg103) (Gives.len hE rfl sl42) rfl ?_; clear hE a; intro a hE
                      refine WL.vS hS hE (runs_if hE rfl rfl rfl hg103) (Gives.p hE rfl) rfl ?_; clear hE a; intro a hE
                      refine WL.vS hS hE (runs_plain rfl) (Gives.pickF hE rfl hg103 rfl) rfl ?_; clear hE a; intro a hE
                      refine WL.nil ?_
                      subst hK100
                      exact ⟨decide (x58.Off ≥ ((x80.Stops).length : Int)), hq95, hE.pick _ ⟨rfl, rfl, rfl, rfl, rfl, rfl, rfl, rfl, rfl, rfl, rfl, trivial⟩, hS⟩
              · clear hE hS a w; rintro a w ⟨q99, rfl, hE, hS⟩
                refine W.cond hE rfl (fun hc104 => ?_) (fun hc104 => ?_)
                · replace hq55 := iteT hc104 hq55
                  refine W.seq ?_
                  refine W.region ?_
                  refine WL.vS hS hE (runs_plain rfl) (Gives.p hE rfl) rfl ?_; clear hE a; intro a hE
                  refine WL.nil ?_
                  refine W.ret ?_
                  subst hK66
                  rw [← Option.some.inj hq55] at hr
                  dsimp only at hr
                  refine finG (fn := Tryd.f18) (rs := [.tmp 8]) (vs := [_]) hE rfl ⟨rfl, trivial⟩ ?_
                  obtain rfl := Option.some.inj hr
                  replace hS := hS.tail
                  replace hS := hS.tail
                  replace hS := hS.tail
                  exact ⟨rfl, hS⟩
                · replace hq55 := iteF hc104 hq55
                  refine W.skip ?_
                  refine W.seq ?_
                  refine W.seq ?_
                  refine W.region ?_
                  refine WL.vS hS hE (runs_plain rfl) (Gives.fld hE rfl fl47_1) rfl ?_; clear hE a; intro a hE
                  refine WL.vS hS hE (runs_plain rfl) (Gives.loadB hE 0 rfl rfl rfl ty3) rfl ?_; clear hE a; intro a hE
                  refine WL.vS hS hE (runs_plain rfl) (Gives.fld hE rfl fl47_2) rfl ?_; clear hE a; intro a hE
                  refine WL.vS hS hE (runs_plain rfl) (Gives.loadB hE 0 rfl rfl rfl ty3) rfl ?_; clear hE a; intro a hE
                  refine WL.vS hS hE (runs_plain rfl) (Gives.p hE rfl) rfl ?_; clear hE a; intro a hE
                  refine WL.nil ?_
                  refine W.cond hE rfl (fun hc105 => ?_) (fun hc105 => ?_)
                  · replace hq55 := iteT hc105 hq55
                    refine W.seq ?_
                    refine W.region ?_
                    refine WL.vS hS hE (runs_plain rfl) (Gives.p hE rfl) rfl ?_; clear hE a; intro a hE
                    refine WL.nil ?_
                    refine W.ret ?_
                    subst hK66
                    rw [← Option.some.inj hq55] at hr
                    dsimp only at hr
                    refine finG (fn := Tryd.f18) (rs := [.tmp 8]) (vs := [_]) hE rfl ⟨rfl, trivial⟩ ?_
                    obtain rfl := Option.some.inj hr
                    replace hS := hS.tail
                    replace hS := hS.tail
                    replace hS := hS.tail
                    exact ⟨rfl, hS⟩
                  · replace hq55 := iteF hc105 hq55
                    refine W.skip ?_
                    refine W.seq ?_
                    refine W.seq ?_
                    refine W.region ?_
                    refine WL.vS hS hE (runs_plain rfl) (Gives.p hE rfl) rfl ?_; clear hE a; intro a hE
                    refine WL.vS hS hE (runs_plain rfl) (Gives.p hE rfl) rfl ?_; clear hE a; intro a hE
                    refine WL.nil ?_
                    refine W.cond hE rfl (fun hc106 => ?_) (fun hc106 => ?_)
                    · replace hq55 := iteT hc106 hq55
                      refine W.exit rfl ?_
                      refine W.region ?_
                      refine WL.vS hS hE (runs_plain rfl) (Gives.inc hE rfl (by have := h1_0.small; omega)) rfl ?_; clear hE a; intro a hE
                      refine WL.vS hS hE (runs_plain rfl) (Gives.p hE rfl) rfl ?_; clear hE a; intro a hE
                      refine WL.nil ?_
                      replace hS := hS.tail
                      subst hK66
                      exact ⟨rest59.length, Nat.lt_succ_self _, rest59, k57 + 1, rfl, hd60, hq55, hE.pick _ ⟨rfl, rfl, rfl, rfl, rfl, rfl, rfl, trivial⟩, hS⟩
                    · replace hq55 := iteF hc106 hq55
                      refine W.skip ?_
                      refine W.seq ?_
                      refine W.region ?_
                      refine WL.vS hS hE (runs_plain rfl) (Gives.fld hE rfl fl28_0) rfl ?_; clear hE a; intro a hE
                      refine WL.vS hS hE (runs_plain rfl) (Gives.loadB hE 1 rfl rfl rfl ty26) rfl ?_; clear hE a; intro a hE
                      refine WL.vS hS hE (runs_plain rfl) (Gives.p hE rfl) rfl ?_; clear hE a; intro a hE
                      refine WL.vS hS hE (runs_plain rfl) (Gives.p hE rfl) rfl ?_; clear hE a; intro a hE
                      obtain ⟨x107, hx108, hq55⟩ := bindS hq55
                      obtain ⟨hi109, hlt110, hy111⟩ := gx_some hx108
                      obtain ⟨cs112, hl113, hR114, hat115⟩ := h1_0.at hy111
                      subst hR114
                      refine WL.vS hS hE (runs_plain rfl) (Gives.idx hE (w64 (((k57 : Nat) : Int) - 1)).toNat rfl rfl sl26 hi109 hlt110 (h1_0.aok hlt110)) rfl ?_; clear hE a; intro a hE
                      refine WL.vS hS hE (runs_plain rfl) (Gives.loadA hE rfl (fun w h => hat115 w _ h) ty47) rfl ?_; clear hE a; intro a hE
                      refine WL.alloc hE hS (runs_plain rfl) zr47 rfl ?_; clear hE hS a w; intro b116 a w hE hS
                      refine WL.storeI hE hS 0 rfl (GuideRide.cells x107) (runs_plain rfl) rfl rfl rfl ty47 rfl rfl rfl rfl ?_; clear hE hS a w; intro a w hE hS
                      refine WL.nil ?_
                      refine W.seq ?_
                      refine W.gen fun K117 hK117 => ?_
                      refine W.regionE (sel (fun w => St w s (pt b116 (.cells (GuideRide.cells x107).toArray 47 (0, 0)) :: pt b71 (.cells (GuideRide.cells x58).toArray 47 (0, 0)) :: pt b52 (.cells #[.slice a1_0 x1.Rides.length c1_0] 28 (0, 0)) :: pt b51 (.cells #[.slice a0_0 x0.Trains.length c0_0, .slice a0_1 x0.Turns.length c0_1] 25 (0, 0)) :: R)) (fun w => St w s (pt b116 (.cells (GuideRide.cells x107).toArray 47 (0, 0)) :: pt b71 (.cells (GuideRide.cells x58).toArray 47 (0, 0)) :: pt b52 (.cells #[.slice a1_0 x1.Rides.length c1_0] 28 (0, 0)) :: pt b51 (.cells #[.slice a0_0 x0.Trains.length c0_0, .slice a0_1 x0.Turns.length c0_1] 25 (0, 0)) :: R))) (fun b i => cond b ([0, 1, 2, 3, 4, 5, 6, 7, 8, 9, 10, 11, 12].contains i) ([0, 1, 2, 3, 4, 5, 6, 7, 8, 9, 10, 11, 12].contains i)) mixed ?_
                      replace hS := hS.drew
                      refine Rg.takeP (i := 0) hE rfl (by kernel_rfl) (runs_plain rfl) (Gives.fld hE rfl fl25_0) rfl (tw_sel (fun _ => hS) (fun _ => hS)) ?_; clear hE a; intro a hE
                      have hT := tw_sel (A := fun w => St w s (pt b116 (.cells (GuideRide.cells x107).toArray 47 (0, 0)) :: pt b71 (.cells (GuideRide.cells x58).toArray 47 (0, 0)) :: pt b52 (.cells #[.slice a1_0 x1.Rides.length c1_0] 28 (0, 0)) :: pt b51 (.cells #[.slice a0_0 x0.Trains.length c0_0, .slice a0_1 x0.Turns.length c0_1] 25 (0, 0)) :: R)) (B := fun w => St w s (pt b116 (.cells (GuideRide.cells x107).toArray 47 (0, 0)) :: pt b71 (.cells (GuideRide.cells x58).toArray 47 (0, 0)) :: pt b52 (.cells #[.slice a1_0 x1.Rides.length c1_0] 28 (0, 0)) :: pt b51 (.cells #[.slice a0_0 x0.Trains.length c0_0, .slice a0_1 x0.Turns.length c0_1] 25 (0, 0)) :: R)) (w := _) (x := true) (y := true) (fun _ => hS) (fun _ => hS)
                      have hF := hS; replace hS := hS
                      refine Rg.take (i := 1) true rfl hE rfl (by kernel_rfl) (runs_plain rfl) (Gives.loadB hE 3 rfl rfl rfl ty22) rfl hT ?_; clear hE a; intro a hE
                      replace hS := hF; clear hF hT
                      refine Rg.takeP (i := 2) hE rfl (by kernel_rfl) (runs_plain rfl) (Gives.fld hE rfl fl47_0) rfl (tw_sel (fun _ => hS) (fun _ => hS)) ?_; clear hE a; intro a hE
                      have hT := tw_sel (A := fun w => St w s (pt b116 (.cells (GuideRide.cells x107).toArray 47 (0, 0)) :: pt b71 (.cells (GuideRide.cells x58).toArray 47 (0, 0)) :: pt b52 (.cells #[.slice a1_0 x1.Rides.length c1_0] 28 (0, 0)) :: pt b51 (.cells #[.slice a0_0 x0.Trains.length c0_0, .slice a0_1 x0.Turns.length c0_1] 25 (0, 0)) :: R)) (B := fun w => St w s (pt b116 (.cells (GuideRide.cells x107).toArray 47 (0, 0)) :: pt b71 (.cells (GuideRide.cells x58).toArray 47 (0, 0)) :: pt b52 (.cells #[.slice a1_0 x1.Rides.length c1_0] 28 (0, 0)) :: pt b51 (.cells #[.slice a0_0 x0.Trains.length c0_0, .slice a0_1 x0.Turns.length c0_1] 25 (0, 0)) :: R)) (w := _) (x := true) (y := true) (fun _ => hS) (fun _ => hS)
                      have hF := hS; replace hS := hS
                      refine Rg.take (i := 3) true rfl hE rfl (by kernel_rfl) (runs_plain rfl) (Gives.loadB hE 0 rfl rfl rfl ty3) rfl hT ?_; clear hE a; intro a hE
                      replace hS := hF; clear hF hT
                      obtain ⟨x118, hx119, hq55⟩ := bindS hq55
                      obtain ⟨hi120, hlt121, hy122⟩ := gx_some hx119
                      obtain ⟨cs123, hl124, hR125, hat126⟩ := h0_0.at hy122
                      obtain ⟨a127, c128, a130, c131, rfl, h129, h132⟩ := hR125
                      refine Rg.takeP (i := 4) hE rfl (by kernel_rfl) (runs_plain rfl) (Gives.idx hE (x107.Train).toNat rfl rfl sl22 hi120 hlt121 (h0_0.aok hlt121)) rfl (tw_sel (fun _ => hS) (fun _ => hS)) ?_; clear hE a; intro a hE
                      refine Rg.takeP (i := 5) hE rfl (by kernel_rfl) (runs_plain rfl) (Gives.fld hE rfl fl44_2) rfl (tw_sel (fun _ => hS) (fun _ => hS)) ?_; clear hE a; intro a hE
                      have hT := tw_sel (A := fun w => St w s (pt b116 (.cells (GuideRide.cells x107).toArray 47 (0, 0)) :: pt b71 (.cells (GuideRide.cells x58).toArray 47 (0, 0)) :: pt b52 (.cells #[.slice a1_0 x1.Rides.length c1_0] 28 (0, 0)) :: pt b51 (.cells #[.slice a0_0 x0.Trains.length c0_0, .slice a0_1 x0.Turns.length c0_1] 25 (0, 0)) :: R)) (B := fun w => St w s (pt b116 (.cells (GuideRide.cells x107).toArray 47 (0, 0)) :: pt b71 (.cells (GuideRide.cells x58).toArray 47 (0, 0)) :: pt b52 (.cells #[.slice a1_0 x1.Rides.length c1_0] 28 (0, 0)) :: pt b51 (.cells #[.slice a0_0 x0.Trains.length c0_0, .slice a0_1 x0.Turns.length c0_1] 25 (0, 0)) :: R)) (w := _) (x := true) (y := true) (fun _ => hS) (fun _ => hS)
                      have hF := hS; replace hS := hS
                      refine Rg.take (i := 6) true rfl hE rfl (by kernel_rfl) (runs_plain rfl) (Gives.load1 hE rfl (fun w h => (hat126 w _ h).one rfl) ty42) rfl hT ?_; clear hE a; intro a hE
                      replace hS := hF; clear hF hT
                      refine Rg.takeP (i := 7) hE rfl (by kernel_rfl) (runs_plain rfl) (Gives.fld hE rfl fl47_2) rfl (tw_sel (fun _ => hS) (fun _ => hS)) ?_; clear hE a; intro a hE
                      have hT := tw_sel (A := fun w => St w s (pt b116 (.cells (GuideRide.cells x107).toArray 47 (0, 0)) :: pt b71 (.cells (GuideRide.cells x58).toArray 47 (0, 0)) :: pt b52 (.cells #[.slice a1_0 x1.Rides.length c1_0] 28 (0, 0)) :: pt b51 (.cells #[.slice a0_0 x0.Trains.length c0_0, .slice a0_1 x0.Turns.length c0_1] 25 (0, 0)) :: R)) (B := fun w => St w s (pt b116 (.cells (GuideRide.cells x107).toArray 47 (0, 0)) :: pt b71 (.cells (GuideRide.cells x58).toArray 47 (0, 0)) :: pt b52 (.cells #[.slice a1_0 x1.Rides.length c1_0] 28 (0, 0)) :: pt b51 (.cells #[.slice a0_0 x0.Trains.length c0_0, .slice a0_1 x0.Turns.length c0_1] 25 (0, 0)) :: R)) (w := _) (x := true) (y := true) (fun _ => hS) (fun _ => hS)
                      have hF := hS; replace hS := hS
                      refine Rg.take (i := 8) true rfl hE rfl (by kernel_rfl) (runs_plain rfl) (Gives.loadB hE 0 rfl rfl rfl ty3) rfl hT ?_; clear hE a; intro a hE
                      replace hS := hF; clear hF hT
                      obtain ⟨x133, hx134, hq55⟩ := bindS hq55
                      obtain ⟨hi135, hlt136, hy137⟩ := gx_some hx134
                      obtain ⟨cs138, hl139, hR140, hat141⟩ := h129.at hy137
                      subst hR140
                      refine Rg.takeP (i := 9) hE rfl (by kernel_rfl) (runs_plain rfl) (Gives.idx hE (x107.Off).toNat rfl rfl sl42 hi135 hlt136 (h129.aok hlt136)) rfl (tw_sel (fun _ => hS) (fun _ => hS)) ?_; clear hE a; intro a hE
                      have hT := tw_sel (A := fun w => St w s (pt b116 (.cells (GuideRide.cells x107).toArray 47 (0, 0)) :: pt b71 (.cells (GuideRide.cells x58).toArray 47 (0, 0)) :: pt b52 (.cells #[.slice a1_0 x1.Rides.length c1_0] 28 (0, 0)) :: pt b51 (.cells #[.slice a0_0 x0.Trains.length c0_0, .slice a0_1 x0.Turns.length c0_1] 25 (0, 0)) :: R)) (B := fun w => St w s (pt b116 (.cells (GuideRide.cells x107).toArray 47 (0, 0)) :: pt b71 (.cells (GuideRide.cells x58).toArray 47 (0, 0)) :: pt b52 (.cells #[.slice a1_0 x1.Rides.length c1_0] 28 (0, 0)) :: pt b51 (.cells #[.slice a0_0 x0.Trains.length c0_0, .slice a0_1 x0.Turns.length c0_1] 25 (0, 0)) :: R)) (w := _) (x := true) (y := true) (fun _ => hS) (fun _ => hS)
                      have hF := hS; replace hS := hS
                      refine Rg.take (i := 10) true rfl hE rfl (by kernel_rfl) (runs_plain rfl) (Gives.loadA hE rfl (fun w h => hat141 w _ h) ty106) rfl hT ?_; clear hE a; intro a hE
                      replace hS := hF; clear hF hT
                      refine Rg.one (i := 11) true true rfl (by kernel_rfl) (by kernel_rfl) (by kernel_rfl) ?_
                      refine WL.alloc hE hS (runs_plain rfl) zr106 rfl ?_; clear hE hS a w; intro b142 a w hE hS
                      refine WL.nil ?_
                      refine ⟨⟨fun _ => (hS.tail), fun _ => (hS.tail)⟩, ?_⟩
                      refine Rg.one (i := 12) true true rfl (by kernel_rfl) (by kernel_rfl) (by kernel_rfl) ?_
                      refine WL.storeI hE hS 0 rfl (ApiStop.cells x133) (runs_plain rfl) rfl rfl rfl ty106 rfl rfl rfl rfl ?_; clear hE hS a w; intro a w hE hS
                      refine WL.nil ?_
                      refine ⟨⟨fun _ => (hS.tail), fun _ => (hS.tail)⟩, ?_⟩
                      refine Rg.done (by kernel_rfl) ?_
                      subst hK117
                      refine W.seq ?_
                      refine W.seq ?_
                      obtain ⟨q144, hq143, hq55⟩ := bindS hq55
                      refine W.cut (fun a w => ∃ (q147 : Bool), q147 = q144 ∧ Rep a 125 [(2, .int .i64 x2), (3, .bool x3), (4, .pointer (some ⟨b51, 0, none⟩)), (5, .pointer (some ⟨b52, 0, none⟩)), (10, .pointer (some ⟨b71, 0, none⟩)), (11, .slice a89 x80.Stops.length c90), (13, .pointer (some ⟨b142, 0, none⟩)), (23, .slice a1_0 x1.Rides.length c1_0), (24, .int .i64 ((x1.Rides).length : Int)), (25, .int .i64 ((k57 : Nat) : Int)), (109, .bool q147)] ∧ St w s (pt b142 (.cells (ApiStop.cells x133).toArray 106 (0, 0)) :: pt b116 (.cells (GuideRide.cells x107).toArray 47 (0, 0)) :: pt b71 (.cells (GuideRide.cells x58).toArray 47 (0, 0)) :: pt b52 (.cells #[.slice a1_0 x1.Rides.length c1_0] 28 (0, 0)) :: pt b51 (.cells #[.slice a0_0 x0.Trains.length c0_0, .slice a0_1 x0.Turns.length c0_1] 25 (0, 0)) :: R)) ?_ ?_
                      · refine W.gen fun K148 hK148 => ?_
                        refine W.regionQ (C := fun w => St w s (pt b142 (.cells (ApiStop.cells x133).toArray 106 (0, 0)) :: pt b116 (.cells (GuideRide.cells x107).toArray 47 (0, 0)) :: pt b71 (.cells (GuideRide.cells x58).toArray 47 (0, 0)) :: pt b52 (.cells #[.slice a1_0 x1.Rides.length c1_0] 28 (0, 0)) :: pt b51 (.cells #[.slice a0_0 x0.Trains.length c0_0, .slice a0_1 x0.Turns.length c0_1] 25 (0, 0)) :: R)) mixed (by kernel_rfl) hS.drew ?_
                        refine QL.v hE (runs_plain rfl) (Gives.fld hE rfl fl47_0) rfl ?_; clear hE a; intro a hE
                        refine QL.v hE (runs_plain rfl) (Gives.loadB hE 1 rfl rfl rfl ty3) rfl ?_; clear hE a; intro a hE
                        refine QL.v hE (runs_plain rfl) (Gives.fld hE rfl fl47_0) rfl ?_; clear hE a; intro a hE
                        refine QL.v hE (runs_plain rfl) (Gives.loadB hE 2 rfl rfl rfl ty3) rfl ?_; clear hE a; intro a hE
                        refine QL.v hE (runs_plain rfl) (Gives.p hE rfl) rfl ?_; clear hE a; intro a hE
                        refine QL.v hE (runs_plain rfl) (Gives.p hE rfl) rfl ?_; clear hE a; intro a hE
                        rcases Bool.eq_false_or_eq_true (x107.Train == x58.Train) with hg149 | hg149
                        · replace hq143 := iteT hg149 hq143
                          refine QL.no hE (runs_not hE rfl rfl rfl (by rw [hg149]; decide)) rfl ?_; clear hE a; intro a hE
                          refine QL.no hE (runs_not hE rfl rfl rfl (by rw [hg149]; decide)) rfl ?_; clear hE a; intro a hE
                          refine QL.no hE (runs_not hE rfl rfl rfl (by rw [hg149]; decide)) rfl ?_; clear hE a; intro a hE
                          refine QL.no hE (runs_not hE rfl rfl rfl (by rw [hg149]; decide)) rfl ?_; clear hE a; intro a hE
                          refine QL.no hE (runs_not hE rfl rfl rfl (by rw [hg149]; decide)) rfl ?_; clear hE a; intro a hE
                          refine QL.no hE (runs_not hE rfl rfl rfl (by rw [hg149]; decide)) rfl ?_; clear hE a; intro a hE
                          refine QL.no hE (runs_not hE rfl rfl rfl (by rw [hg149]; decide)) rfl ?_; clear hE a; intro a hE
                          refine QL.no hE (runs_not hE rfl rfl rfl (by rw [hg149]; decide)) rfl ?_; clear hE a; intro a hE
                          refine QL.no hE (runs_not hE rfl rfl rfl (by rw [hg149]; decide)) rfl ?_; clear hE a; intro a hE
                          refine QL.v hE (runs_plain rfl) (Gives.pickT hE rfl hg149 rfl) rfl ?_; clear hE a; intro a hE
                          refine QL.nil ?_; clear hS w; intro w hS
                          subst hK148
                          exact ⟨true, Option.some.inj hq143, hE.pick _ ⟨rfl, rfl, rfl, rfl, rfl, rfl, rfl, rfl, rfl, rfl, rfl, trivial⟩, hS⟩
                        · replace hq143 := iteF hg149 hq143
                          refine QL.v hE (runs_if hE rfl rfl rfl hg149) (Gives.p hE rfl) rfl ?_; clear hE a; intro a hE
                          refine QL.v hE (runs_if hE rfl rfl rfl hg149) (Gives.fld hE rfl fl47_1) rfl ?_; clear hE a; intro a hE
                          refine QL.v hE (runs_if hE rfl rfl rfl hg149) (Gives.loadB hE 2 rfl rfl rfl ty3) rfl ?_; clear hE a; intro a hE
                          obtain ⟨x150, hx151, hq143⟩ := bindS hq143
                          obtain ⟨hi152, hlt153, hy154⟩ := gx_some hx151
                          obtain ⟨cs155, hl156, hR157, hat158⟩ := h91.at hy154
                          subst hR157
                          refine QL.v hE (runs_if hE rfl rfl rfl hg149) (Gives.idx hE (x58.On).toNat rfl rfl sl42 hi152 hlt153 (h91.aok hlt153)) rfl ?_; clear hE a; intro a hE
                          refine QL.v hE (runs_if hE rfl rfl rfl hg149) (Gives.fld hE rfl fl106_0) rfl ?_; clear hE a; intro a hE
                          refine QL.v hE (runs_if hE rfl rfl rfl hg149) (Gives.load1 hE rfl (fun w h => (hat158 w _ h).one rfl) ty3) rfl ?_; clear hE a; intro a hE
                          refine QL.v hE (runs_if hE rfl rfl rfl hg149) (Gives.fld hE rfl fl106_0) rfl ?_; clear hE a; intro a hE
                          refine QL.v hE (runs_if hE rfl rfl rfl hg149) (Gives.loadB hE 0 rfl rfl rfl ty3) rfl ?_; clear hE a; intro a hE
                          refine QL.v hE (runs_if hE rfl rfl rfl hg149) (Gives.p hE rfl) rfl ?_; clear hE a; intro a hE
                          refine QL.v hE (runs_plain rfl) (Gives.pickF hE rfl hg149 rfl) rfl ?_; clear hE a; intro a hE
                          refine QL.nil ?_; clear hS w; intro w hS
                          subst hK148
                          exact ⟨(x150.Station != x133.Station), Option.some.inj hq143, hE.pick _ ⟨rfl, rfl, rfl, rfl, rfl, rfl, rfl, rfl, rfl, rfl, rfl, trivial⟩, hS⟩
                      · clear hE hS a w; rintro a w ⟨q147, rfl, hE, hS⟩
                        refine W.cond hE rfl (fun hc159 => ?_) (fun hc159 => ?_)
                        · replace hq55 := iteT hc159 hq55
                          refine W.seq ?_
                          refine W.region ?_
                          refine WL.vS hS hE (runs_plain rfl) (Gives.p hE rfl) rfl ?_; clear hE a; intro a hE
                          refine WL.nil ?_
                          refine W.ret ?_
                          subst hK66
                          rw [← Option.some.inj hq55] at hr
                          dsimp only at hr
                          refine finG (fn := Tryd.f18) (rs := [.tmp 8]) (vs := [_]) hE rfl ⟨rfl, trivial⟩ ?_
                          obtain rfl := Option.some.inj hr
                          replace hS := hS.tail
                          replace hS := hS.tail
                          replace hS := hS.tail
                          replace hS := hS.tail
                          replace hS := hS.tail
                          exact ⟨rfl, hS⟩
                        · replace hq55 := iteF hc159 hq55
                          refine W.skip ?_
                          refine W.seq ?_
                          obtain ⟨q161, hq160, hq55⟩ := bindS hq55
                          refine W.cut (fun a w => ∃ (q164 : Bool), q164 = q161 ∧ Rep a 125 [(2, .int .i64 x2), (3, .bool x3), (4, .pointer (some ⟨b51, 0, none⟩)), (5, .pointer (some ⟨b52, 0, none⟩)), (23, .slice a1_0 x1.Rides.length c1_0), (24, .int .i64 ((x1.Rides).length : Int)), (25, .int .i64 ((k57 : Nat) : Int)), (123, .bool q164)] ∧ St w s (pt b142 (.cells (ApiStop.cells x133).toArray 106 (0, 0)) :: pt b116 (.cells (GuideRide.cells x107).toArray 47 (0, 0)) :: pt b71 (.cells (GuideRide.cells x58).toArray 47 (0, 0)) :: pt b52 (.cells #[.slice a1_0 x1.Rides.length c1_0] 28 (0, 0)) :: pt b51 (.cells #[.slice a0_0 x0.Trains.length c0_0, .slice a0_1 x0.Turns.length c0_1] 25 (0, 0)) :: R)) ?_ ?_
                          · refine W.gen fun K165 hK165 => ?_
                            refine W.regionQ (C := fun w => St w s (pt b142 (.cells (ApiStop.cells x133).toArray 106 (0, 0)) :: pt b116 (.cells (GuideRide.cells x107).toArray 47 (0, 0)) :: pt b71 (.cells (GuideRide.cells x58).toArray 47 (0, 0)) :: pt b52 (.cells #[.slice a1_0 x1.Rides.length c1_0] 28 (0, 0)) :: pt b51 (.cells #[.slice a0_0 x0.Trains.length c0_0, .slice a0_1 x0.Turns.length c0_1] 25 (0, 0)) :: R)) mixed (by kernel_rfl) hS.drew ?_
                            refine QL.v hE (runs_plain rfl) (Gives.p hE rfl) rfl ?_; clear hE a; intro a hE
                            refine QL.v hE (runs_plain rfl) (Gives.p hE rfl) rfl ?_; clear hE a; intro a hE
                            rcases Bool.eq_false_or_eq_true x3 with hg166 | hg166
                            · replace hq160 := iteT hg166 hq160
                              refine QL.v hE (runs_if hE rfl rfl rfl hg166) (Gives.p hE rfl) rfl ?_; clear hE a; intro a hE
                              refine QL.v hE (runs_if hE rfl rfl rfl hg166) (Gives.fld hE rfl fl47_1) rfl ?_; clear hE a; intro a hE
                              refine QL.v hE (runs_if hE rfl rfl rfl hg166) (Gives.loadB hE 2 rfl rfl rfl ty3) rfl ?_; clear hE a; intro a hE
                              obtain ⟨x167, hx168, hq160⟩ := bindS hq160
                              obtain ⟨hi169, hlt170, hy171⟩ := gx_some hx168
                              obtain ⟨cs172, hl173, hR174, hat175⟩ := h91.at hy171
                              subst hR174
                              refine QL.v hE (runs_if hE rfl rfl rfl hg166) (Gives.idx hE (x58.On).toNat rfl rfl sl42 hi169 hlt170 (h91.aok hlt170)) rfl ?_; clear hE a; intro a hE
                              refine QL.v hE (runs_if hE rfl rfl rfl hg166) (Gives.fld hE rfl fl106_3) rfl ?_; clear hE a; intro a hE
                              refine QL.v hE (runs_if hE rfl rfl rfl hg166) (Gives.load1 hE rfl (fun w h => (hat175 w _ h).one rfl) ty3) rfl ?_; clear hE a; intro a hE
                              refine QL.v hE (runs_if hE rfl rfl rfl hg166) (Gives.fld hE rfl fl106_2) rfl ?_; clear hE a; intro a hE
                              refine QL.v hE (runs_if hE rfl rfl rfl hg166) (Gives.loadB hE 0 rfl rfl rfl ty3) rfl ?_; clear hE a; intro a hE
                              refine QL.v hE (runs_if hE rfl rfl rfl hg166) (Gives.p hE rfl) rfl ?_; clear hE a; intro a hE
                              refine QL.v hE (runs_if hE rfl rfl rfl hg166) (Gives.p hE rfl) rfl ?_; clear hE a; intro a hE
                              refine QL.v hE (runs_if hE rfl rfl rfl hg166) (Gives.p hE rfl) rfl ?_; clear hE a; intro a hE
                              refine QL.v hE (runs_plain rfl) (Gives.pickT hE rfl hg166 rfl) rfl ?_; clear hE a; intro a hE
                              refine QL.nil ?_; clear hS w; intro w hS
                              subst hK165
                              exact ⟨decide (x167.Dep < (w64 (x133.Arr + x2))), Option.some.inj hq160, hE.pick _ ⟨rfl, rfl, rfl, rfl, rfl, rfl, rfl, rfl, trivial⟩, hS⟩
                            · replace hq160 := iteF hg166 hq160
                              refine QL.no hE (runs_not hE rfl rfl rfl (by rw [hg166]; decide)) rfl ?_; clear hE a; intro a hE
                              refine QL.no hE (runs_not hE rfl rfl rfl (by rw [hg166]; decide)) rfl ?_; clear hE a; intro a hE
                              refine QL.no hE (runs_not hE rfl rfl rfl (by rw [hg166]; decide)) rfl ?_; clear hE a; intro a hE
                              refine QL.no hE (runs_not hE rfl rfl rfl (by rw [hg166]; decide)) rfl ?_; clear hE a; intro a hE
                              refine QL.no hE (runs_not hE rfl rfl rfl (by rw [hg166]; decide)) rfl ?_; clear hE a; intro a hE
                              refine QL.no hE (runs_not hE rfl rfl rfl (by rw [hg166]; decide)) rfl ?_; clear hE a; intro a hE
                              refine QL.no hE (runs_not hE rfl rfl rfl (by rw [hg166]; decide)) rfl ?_; clear hE a; intro a hE
                              refine QL.no hE (runs_not hE rfl rfl rfl (by rw [hg166]; decide)) rfl ?_; clear hE a; intro a hE
                              refine QL.no hE (runs_not hE rfl rfl rfl (by rw [hg166]; decide)) rfl ?_; clear hE a; intro a hE
                              refine QL.no hE (runs_not hE rfl rfl rfl (by rw [hg166]; decide)) rfl ?_; clear hE a; intro a hE
                              refine QL.no hE (runs_not hE rfl rfl rfl (by rw [hg166]; decide)) rfl ?_; clear hE a; intro a hE
                              refine QL.v hE (runs_plain rfl) (Gives.pickF hE rfl hg166 rfl) rfl ?_; clear hE a; intro a hE
                              refine QL.nil ?_; clear hS w; intro w hS
                              subst hK165
                              exact ⟨false, Option.some.inj hq160, hE.pick _ ⟨rfl, rfl, rfl, rfl, rfl, rfl, rfl, rfl, trivial⟩, hS⟩
                          · clear hE hS a w; rintro a w ⟨q164, rfl, hE, hS⟩
                            refine W.cond hE rfl (fun hc176 => ?_) (fun hc176 => ?_)
                            · replace hq55 := iteT hc176 hq55
                              refine W.seq ?_
                              refine W.region ?_
                              refine WL.vS hS hE (runs_plain rfl) (Gives.p hE rfl) rfl ?_; clear hE a; intro a hE
                              refine WL.nil ?_
                              refine W.ret ?_
                              subst hK66
                              rw [← Option.some.inj hq55] at hr
                              dsimp only at hr
                              refine finG (fn := Tryd.f18) (rs := [.tmp 8]) (vs := [_]) hE rfl ⟨rfl, trivial⟩ ?_
                              obtain rfl := Option.some.inj hr
                              replace hS := hS.tail
                              replace hS := hS.tail
                              replace hS := hS.tail
                              replace hS := hS.tail
                              replace hS := hS.tail
                              exact ⟨rfl, hS⟩
                            · replace hq55 := iteF hc176 hq55
                              refine W.skip ?_
                              refine W.region ?_
                              refine WL.vS hS hE (runs_plain rfl) (Gives.inc hE rfl (by have := h1_0.small; omega)) rfl ?_; clear hE a; intro a hE
                              refine WL.vS hS hE (runs_plain rfl) (Gives.p hE rfl) rfl ?_; clear hE a; intro a hE
                              refine WL.nil ?_
                              replace hS := hS.tail
                              replace hS := hS.tail
                              replace hS := hS.tail
                              subst hK66
                              exact ⟨rest59.length, Nat.lt_succ_self _, rest59, k57 + 1, rfl, hd60, hq55, hE.pick _ ⟨rfl, rfl, rfl, rfl, rfl, rfl, rfl, trivial⟩, hS⟩
      · clear hE hS a w; rintro a w ⟨rfl, hE, hS⟩
        dsimp only at hr
        refine W.seq ?_
        refine W.region ?_
        refine WL.vS hS hE (runs_plain rfl) (Gives.p hE rfl) rfl ?_; clear hE a; intro a hE
        refine WL.nil ?_
        refine W.ret ?_
        refine finG (fn := Tryd.f18) (rs := [.tmp 8]) (vs := [_]) hE rfl ⟨rfl, trivial⟩ ?_
        obtain rfl := Option.some.inj hr
        replace hS := hS.tail
        replace hS := hS.tail
        exact ⟨rfl, hS⟩
set_option maxHeartbeats 8000000 in
theorem GuideNetjourney_ok  {w : World} {s : Sg} {R : List HP} {x0 : GuideNet} {a0_0 : Option Addr} {c0_0 : Nat} {a0_1 : Option Addr} {c0_1 : Nat} {x1 : GuideJourney} {a1_0 : Option Addr} {c1_0 : Nat} {x2 : Bool} (hS : St w s (R)) (h0_0 : Sl 4 RApiTrain s a0_0 c0_0 x0.Day.Trains) (h0_1 : Sl 1 (RL 1 (RI .i64)) s a0_1 c0_1 x0.Day.Turns) (h1_0 : Sl 3 RGuideRide s a1_0 c1_0 x1.Rides) {r : Int} (hr : GuideNetjourney x0 x1 x2 = some r) :
    Calls Tryd.prog 68 [.agg [.slice a0_0 x0.Day.Trains.length c0_0, .slice a0_1 x0.Day.Turns.length c0_1, .int .i64 x0.least].toArray, .agg [.slice a1_0 x1.Rides.length c1_0].toArray, .bool x2].toArray w (fun e w => e = .returned (.int .i64 r) ∧ St w s (R)) := by
  refine enter Tryd.func68 rfl rfl rfl fun a hE => ?_
  rw [GuideNetjourney] at hr
  refine W.seq ?_
  refine W.region ?_
  refine WL.box hE hS (runs_plain rfl) rfl rfl rfl ?_; clear hE hS a w; intro b51 a w hE hS
  refine WL.box hE hS (runs_plain rfl) rfl rfl rfl ?_; clear hE hS a w; intro b52 a w hE hS
  refine WL.vS hS hE (runs_plain rfl) (Gives.p hE rfl) rfl ?_; clear hE a; intro a hE
  refine WL.nil ?_
  refine W.seq ?_
  refine W.seq ?_
  refine W.region ?_
  refine WL.vS hS hE (runs_plain rfl) (Gives.fld hE rfl fl28_0) rfl ?_; clear hE a; intro a hE
  refine WL.vS hS hE (runs_plain rfl) (Gives.loadB hE 0 rfl rfl rfl ty26) rfl ?_; clear hE a; intro a hE
  refine WL.vS hS hE (runs_plain rfl) (Gives.len hE rfl sl26) rfl ?_; clear hE a; intro a hE
  refine WL.fnq hE (Guidewithin_ok hS  rfl (r := Guidewithin ((x1.Rides).length : Int) 1 4)) (runs_plain rfl) bd66 rfl rfl rfl ?_
  clear hE hS; rintro e w ⟨rfl, hS⟩; refine ⟨_, rfl, ?_⟩; clear a; intro a hE
  refine WL.vS hS hE (runs_plain rfl) (Gives.p hE rfl) rfl ?_; clear hE a; intro a hE
  refine WL.nil ?_
  refine W.cond hE rfl (fun hc53 => ?_) (fun hc53 => ?_)
  · replace hr := iteT hc53 hr
    refine W.seq ?_
    refine W.region ?_
    refine WL.vS hS hE (runs_plain rfl) (Gives.p hE rfl) rfl ?_; clear hE a; intro a hE
    refine WL.nil ?_
    refine W.ret ?_
    refine finG (fn := Tryd.f68) (rs := [.tmp 6]) (vs := [_]) hE rfl ⟨rfl, trivial⟩ ?_
    obtain rfl := Option.some.inj hr
    replace hS := hS.tail
    replace hS := hS.tail
    exact ⟨rfl, hS⟩
  · replace hr := iteF hc53 hr
    refine W.skip ?_
    refine W.seq ?_
    refine W.seq ?_
    refine W.region ?_
    refine WL.vS hS hE (runs_plain rfl) (Gives.fld hE rfl fl28_0) rfl ?_; clear hE a; intro a hE
    refine WL.vS hS hE (runs_plain rfl) (Gives.loadB hE 0 rfl rfl rfl ty26) rfl ?_; clear hE a; intro a hE
    refine WL.vS hS hE (runs_plain rfl) (Gives.len hE rfl sl26) rfl ?_; clear hE a; intro a hE
    refine WL.vS hS hE (runs_plain rfl) (Gives.p hE rfl) rfl ?_; clear hE a; intro a hE
    refine WL.nil ?_
    obtain ⟨q55, hq54, hr⟩ := bindS hr
    refine W.cut (fun a w => ∃ (s63 : Sg), s.Le s63 ∧ (.next ()) = q55 ∧ Rep a 104 [] ∧ St w s63 (pt b52 (.cells #[.slice a1_0 x1.Rides.length c1_0] 28 (0, 0)) :: pt b51 (.cells #[.slice a0_0 x0.Day.Trains.length c0_0, .slice a0_1 x0.Day.Turns.length c0_1, .int .i64 x0.least] 94 (0, 0)) :: R)) ?_ ?_
    · refine W.block ?_
      refine W.loop (fun m a w => ∃ (rest58 : List GuideRide) (k56 : Nat), ∃ (s63 : Sg), rest58.length = m ∧ x1.Rides.drop k56 = rest58 ∧ s.Le s63 ∧ GuideNetjourney.loop1 x0 x1 x2 rest58 k56 = some q55 ∧ Rep a 104 [(2, .bool x2), (3, .pointer (some ⟨b51, 0, none⟩)), (4, .pointer (some ⟨b52, 0, none⟩)), (17, .slice a1_0 x1.Rides.length c1_0), (18, .int .i64 ((x1.Rides).length : Int)), (19, .int .i64 ((k56 : Nat) : Int))] ∧ St w s63 (pt b52 (.cells #[.slice a1_0 x1.Rides.length c1_0] 28 (0, 0)) :: pt b51 (.cells #[.slice a0_0 x0.Day.Trains.length c0_0, .slice a0_1 x0.Day.Turns.length c0_1, .int .i64 x0.least] 94 (0, 0)) :: R)) (m := x1.Rides.length) ⟨x1.Rides, 0, s, rfl, rfl, (Sg.Le.refl _), hq54, hE.pick _ ⟨rfl, rfl, rfl, rfl, rfl, rfl, trivial⟩, hS⟩ ?_
      clear hE hS a w hq54; rintro m62 a w ⟨rest58, k56, s63, rfl, hd59, hle64, hq54, hE, hS⟩
      refine W.gen fun K65 hK65 => ?_
      replace h0_0 := Sl.mono RApiTrain.mono hle64 h0_0
      replace h0_1 := Sl.mono (RL.mono RI.mono) hle64 h0_1
      replace h1_0 := Sl.mono RGuideRide.mono hle64 h1_0
      rcases rest58 with _ | ⟨x57, rest58⟩
      · have hlt60 := drop_nil hd59
        refine W.seq ?_
        refine W.region ?_
        refine WL.vS hS hE (runs_plain rfl) (Gives.p hE rfl) rfl ?_; clear hE a; intro a hE
        refine WL.nil ?_
        refine W.seq ?_
        refine W.condF hE rfl (decide_eq_false (by omega)) ?_
        subst hK65
        refine W.exit rfl ?_
        exact ⟨s63, hle64, Option.some.inj hq54, hE.pick _ trivial, hS⟩
      · obtain ⟨hlt60, hx61, hd59⟩ := drop_cons hd59
        rw [GuideNetjourney.loop1] at hq54
        refine W.seq ?_
        refine W.region ?_
        refine WL.vS hS hE (runs_plain rfl) (Gives.p hE rfl) rfl ?_; clear hE a; intro a hE
        refine WL.nil ?_
        refine W.seq ?_
        refine W.condT hE rfl (decide_eq_true (by omega)) ?_
        refine W.skip ?_
        refine W.seq ?_
        refine W.block ?_
        refine W.seq ?_
        refine W.region ?_
        refine WL.vS hS hE (runs_plain rfl) (Gives.p hE rfl) rfl ?_; clear hE a; intro a hE
        obtain ⟨cs66, hl67, hR68, hat69⟩ := h1_0.at hx61
        subst hR68
        refine WL.vS hS hE (runs_plain rfl) (Gives.idx hE k56 rfl rfl sl26 rfl hlt60 (h1_0.aok hlt60)) rfl ?_; clear hE a; intro a hE
        refine WL.vS hS hE (runs_plain rfl) (Gives.loadA hE rfl (fun w h => hat69 w _ h) ty47) rfl ?_; clear hE a; intro a hE
        refine WL.alloc hE hS (runs_plain rfl) zr47 rfl ?_; clear hE hS a w; intro b70 a w hE hS
        refine WL.vS hS hE (runs_plain rfl) (Gives.p hE rfl) rfl ?_; clear hE a; intro a hE
        refine WL.storeI hE hS 0 rfl (GuideRide.cells x57) (runs_plain rfl) rfl rfl rfl ty47 rfl rfl rfl rfl ?_; clear hE hS a w; intro a w hE hS
        refine WL.nil ?_
        refine W.seq ?_
        refine W.seq ?_
        refine W.region ?_
        refine WL.vS hS hE (runs_plain rfl) (Gives.fld hE rfl fl47_0) rfl ?_; clear hE a; intro a hE
        refine WL.vS hS hE (runs_plain rfl) (Gives.loadB hE 0 rfl rfl rfl ty3) rfl ?_; clear hE a; intro a hE
        refine WL.vS hS hE (runs_plain rfl) (Gives.fld hE rfl fl94_0) rfl ?_; clear hE a; intro a hE
        refine WL.vS hS hE (runs_plain rfl) (Gives.fld hE rfl fl25_0) rfl ?_; clear hE a; intro a hE
        refine WL.vS hS hE (runs_plain rfl) (Gives.loadB hE 2 rfl rfl rfl ty22) rfl ?_; clear hE a; intro a hE
        refine WL.vS hS hE (runs_plain rfl) (Gives.len hE rfl sl22) rfl ?_; clear hE a; intro a hE
        refine WL.vS hS hE (runs_plain rfl) (Gives.p hE rfl) rfl ?_; clear hE a; intro a hE
        refine WL.fnq hE (Guidewithin_ok hS  rfl (r := Guidewithin x57.Train 0 (w64 (((x0.Day.Trains).length : Int) - 1)))) (runs_plain rfl) bd66 rfl rfl rfl ?_
        clear hE hS; rintro e w ⟨rfl, hS⟩; refine ⟨_, rfl, ?_⟩; clear a; intro a hE
        refine WL.vS hS hE (runs_plain rfl) (Gives.p hE rfl) rfl ?_; clear hE a; intro a hE
        refine WL.nil ?_
        refine W.cond hE rfl (fun hc71 => ?_) (fun hc71 => ?_)
        · replace hq54 := iteT hc71 hq54
          refine W.seq ?_
          refine W.region ?_
          refine WL.vS hS hE (runs_plain rfl) (Gives.p hE rfl) rfl ?_; clear hE a; intro a hE
          refine WL.nil ?_
          refine W.ret ?_
          subst hK65
          rw [← Option.some.inj hq54] at hr
          dsimp only at hr
          refine finG (fn := Tryd.f68) (rs := [.tmp 6]) (vs := [_]) hE rfl ⟨rfl, trivial⟩ ?_
          obtain rfl := Option.some.inj hr
          replace hS := hS.tail
          replace hS := hS.tail
          replace hS := hS.tail
          exact ⟨rfl, (hS.down hle64)⟩
        · replace hq54 := iteF hc71 hq54
          refine W.skip ?_
          refine W.seq ?_
          refine W.region ?_
          refine WL.vS hS hE (runs_plain rfl) (Gives.fld hE rfl fl94_0) rfl ?_; clear hE a; intro a hE
          refine WL.vS hS hE (runs_plain rfl) (Gives.fld hE rfl fl25_0) rfl ?_; clear hE a; intro a hE
          refine WL.vS hS hE (runs_plain rfl) (Gives.loadB hE 2 rfl rfl rfl ty22) rfl ?_; clear hE a; intro a hE
          refine WL.vS hS hE (runs_plain rfl) (Gives.fld hE rfl fl47_0) rfl ?_; clear hE a; intro a hE
          refine WL.vS hS hE (runs_plain rfl) (Gives.loadB hE 0 rfl rfl rfl ty3) rfl ?_; clear hE a; intro a hE
          obtain ⟨x72, hx73, hq54⟩ := bindS hq54
          obtain ⟨hi74, hlt75, hy76⟩ := gx_some hx73
          obtain ⟨cs77, hl78, hR79, hat80⟩ := h0_0.at hy76
          obtain ⟨a81, c82, a84, c85, rfl, h83, h86⟩ := hR79
          refine WL.vS hS hE (runs_plain rfl) (Gives.idx hE (x57.Train).toNat rfl rfl sl22 hi74 hlt75 (h0_0.aok hlt75)) rfl ?_; clear hE a; intro a hE
          refine WL.vS hS hE (runs_plain rfl) (Gives.fld hE rfl fl44_2) rfl ?_; clear hE a; intro a hE
          refine WL.vS hS hE (runs_plain rfl) (Gives.load1 hE rfl (fun w h => (hat80 w _ h).one rfl) ty42) rfl ?_; clear hE a; intro a hE
          refine WL.vS hS hE (runs_plain rfl) (Gives.len hE rfl sl42) rfl ?_; clear hE a; intro a hE
          refine WL.vS hS hE (runs_plain rfl) (Gives.p hE rfl) rfl ?_; clear hE a; intro a hE
          refine WL.vS hS hE (runs_plain rfl) (Gives.p hE rfl) rfl ?_; clear hE a; intro a hE
          refine WL.nil ?_
          refine W.seq ?_
          refine W.block ?_
          refine W.seq ?_
          obtain ⟨q88, hq87, hq54⟩ := bndS hq54
          refine W.cut (fun a w => ∃ (q91 : Bool), q91 = q88 ∧ Rep a 104 [(2, .bool x2), (3, .pointer (some ⟨b51, 0, none⟩)), (4, .pointer (some ⟨b52, 0, none⟩)), (7, .int .i64 ((k56 : Nat) : Int)), (8, .pointer (some ⟨b70, 0, none⟩)), (17, .slice a1_0 x1.Rides.length c1_0), (18, .int .i64 ((x1.Rides).length : Int)), (19, .int .i64 ((k56 : Nat) : Int)), (43, .bool q91)] ∧ St w s63 (pt b70 (.cells (GuideRide.cells x57).toArray 47 (0, 0)) :: pt b52 (.cells #[.slice a1_0 x1.Rides.length c1_0] 28 (0, 0)) :: pt b51 (.cells #[.slice a0_0 x0.Day.Trains.length c0_0, .slice a0_1 x0.Day.Turns.length c0_1, .int .i64 x0.least] 94 (0, 0)) :: R)) ?_ ?_
          · refine W.gen fun K92 hK92 => ?_
            refine W.region ?_
            refine WL.vS hS hE (runs_plain rfl) (Gives.fld hE rfl fl47_1) rfl ?_; clear hE a; intro a hE
            refine WL.vS hS hE (runs_plain rfl) (Gives.loadB hE 0 rfl rfl rfl ty3) rfl ?_; clear hE a; intro a hE
            refine WL.vS hS hE (runs_plain rfl) (Gives.p hE rfl) rfl ?_; clear hE a; intro a hE
            refine WL.fnq hE (Guidewithin_ok hS  rfl (r := Guidewithin x57.On 0 (w64 (((x72.Stops).length : Int) - 1)))) (runs_plain rfl) bd66 rfl rfl rfl ?_
            clear hE hS; rintro e w ⟨rfl, hS⟩; refine ⟨_, rfl, ?_⟩; clear a; intro a hE
            refine WL.vS hS hE (runs_plain rfl) (Gives.p hE rfl) rfl ?_; clear hE a; intro a hE
            refine WL.vS hS hE (runs_plain rfl) (Gives.p hE rfl) rfl ?_; clear hE a; intro a hE
            rcases Bool.eq_false_or_eq_true (!(Guidewithin x57.On 0 (w64 (((x72.Stops).length : Int) - 1)))) with hg93 | hg93
            · replace hq87 := iteT hg93 hq87
              refine WL.no hE (runs_not hE rfl rfl rfl (by rw [hg93]; decide)) rfl ?_; clear hE a; intro a hE
              refine WL.no hE (runs_not hE rfl rfl rfl (by rw [hg93]; decide)) rfl ?_; clear hE a; intro a hE
              refine WL.no hE (runs_not hE rfl rfl rfl (by rw [hg93]; decide)) rfl ?_; clear hE a; intro a hE
              refine WL.no hE (runs_not hE rfl rfl rfl (by rw [hg93]; decide)) rfl ?_; clear hE a; intro a hE
              refine WL.no hE (runs_not hE rfl rfl rfl (by rw [hg93]; decide)) rfl ?_; clear hE a; intro a hE
              refine WL.vS hS hE (runs_plain rfl) (Gives.pickT hE rfl hg93 rfl) rfl ?_; clear hE a; intro a hE
              refine WL.vS hS hE (runs_plain rfl) (Gives.p hE rfl) rfl ?_; clear hE a; intro a hE
              refine WL.nil ?_
              subst hK92
              exact ⟨true, hq87, hE.pick _ ⟨rfl, rfl, rfl, rfl, rfl, rfl, rfl, rfl, rfl, trivial⟩, hS⟩
            · replace hq87 := iteF hg93 hq87
              refine WL.vS hS hE (runs_if hE rfl rfl rfl hg93) (Gives.fld hE rfl fl47_2) rfl ?_; clear hE a; intro a hE
              refine WL.vS hS hE (runs_if hE rfl rfl rfl hg93) (Gives.loadB hE 0 rfl rfl rfl ty3) rfl ?_; clear hE a; intro a hE
              refine WL.vS hS hE (runs_if hE rfl rfl rfl hg93) (Gives.p hE rfl) rfl ?_; clear hE a; intro a hE
              refine WL.fnq hE (Guidewithin_ok hS  rfl (r := Guidewithin x57.Off 0 (w64 (((x72.Stops).length : Int) - 1)))) (runs_if hE rfl rfl rfl hg93) bd66 rfl rfl rfl ?_
              clear hE hS; rintro e w ⟨rfl, hS⟩; refine ⟨_, rfl, ?_⟩; clear a; intro a hE
              refine WL.vS hS hE (runs_if hE rfl rfl rfl hg93) (Gives.p hE rfl) rfl ?_; clear hE a; intro a hE
              refine WL.vS hS hE (runs_plain rfl) (Gives.pickF hE rfl hg93 rfl) rfl ?_; clear hE a; intro a hE
              refine WL.vS hS hE (runs_plain rfl) (Gives.p hE rfl) rfl ?_; clear hE a; intro a hE
              refine WL.nil ?_
              subst hK92
              exact ⟨!(Guidewithin x57.Off 0 (w64 (((x72.Stops).length : Int) - 1))), hq87, hE.pick _ ⟨rfl, rfl, rfl, rfl, rfl, rfl, rfl, rfl, rfl, trivial⟩, hS⟩
          · clear hE hS a w; rintro a w ⟨q91, rfl, hE, hS⟩
            refine W.cond hE rfl (fun hc94 => ?_) (fun hc94 => ?_)
            · replace hq54 := iteT hc94 hq54
              refine W.seq ?_
              refine W.region ?_
              refine WL.vS hS hE (runs_plain rfl) (Gives.p hE rfl) rfl ?_; clear hE a; intro a hE
              refine WL.nil ?_
              refine W.ret ?_
              subst hK65
              rw [← Option.some.inj hq54] at hr
              dsimp only at hr
              refine finG (fn := Tryd.f68) (rs := [.tmp 6]) (vs := [_]) hE rfl ⟨rfl, trivial⟩ ?_
              obtain rfl := Option.some.inj hr
              replace hS := hS.tail
              replace hS := hS.tail
              replace hS := hS.tail
              exact ⟨rfl, (hS.down hle64)⟩
            · replace hq54 := iteF hc94 hq54
              refine W.seq ?_
              refine W.region ?_
              refine WL.vS hS hE (runs_plain rfl) (Gives.fld hE rfl fl47_1) rfl ?_; clear hE a; intro a hE
              refine WL.vS hS hE (runs_plain rfl) (Gives.loadB hE 0 rfl rfl rfl ty3) rfl ?_; clear hE a; intro a hE
              refine WL.vS hS hE (runs_plain rfl) (Gives.fld hE rfl fl47_2) rfl ?_; clear hE a; intro a hE
              refine WL.vS hS hE (runs_plain rfl) (Gives.loadB hE 0 rfl rfl rfl ty3) rfl ?_; clear hE a; intro a hE
              refine WL.vS hS hE (runs_plain rfl) (Gives.p hE rfl) rfl ?_; clear hE a; intro a hE
              refine WL.vS hS hE (runs_plain rfl) (Gives.p hE rfl) rfl ?_; clear hE a; intro a hE
              refine WL.nil ?_
              refine W.cond hE rfl (fun hc95 => ?_) (fun hc95 => ?_)
              · replace hq54 := iteT hc95 hq54
                refine W.seq ?_
                refine W.region ?_
                refine WL.vS hS hE (runs_plain rfl) (Gives.p hE rfl) rfl ?_; clear hE a; intro a hE
                refine WL.nil ?_
                refine W.ret ?_
                subst hK65
                rw [← Option.some.inj hq54] at hr
                dsimp only at hr
                refine finG (fn := Tryd.f68) (rs := [.tmp 6]) (vs := [_]) hE rfl ⟨rfl, trivial⟩ ?_
                obtain rfl := Option.some.inj hr
                replace hS := hS.tail
                replace hS := hS.tail
                replace hS := hS.tail
                exact ⟨rfl, (hS.down hle64)⟩
              · replace hq54 := iteF hc95 hq54
                refine W.skip ?_
                refine W.seq ?_
                refine W.seq ?_
                refine W.region ?_
                refine WL.vS hS hE (runs_plain rfl) (Gives.p hE rfl) rfl ?_; clear hE a; intro a hE
                refine WL.vS hS hE (runs_plain rfl) (Gives.p hE rfl) rfl ?_; clear hE a; intro a hE
                refine WL.nil ?_
                refine W.cond hE rfl (fun hc96 => ?_) (fun hc96 => ?_)
                · replace hq54 := iteT hc96 hq54
                  refine W.exit rfl ?_
                  refine W.region ?_
                  refine WL.vS hS hE (runs_plain rfl) (Gives.inc hE rfl (by have := h1_0.small; omega)) rfl ?_; clear hE a; intro a hE
                  refine WL.vS hS hE (runs_plain rfl) (Gives.p hE rfl) rfl ?_; clear hE a; intro a hE
                  refine WL.nil ?_
                  replace hS := hS.tail
                  subst hK65
                  exact ⟨rest58.length, Nat.lt_succ_self _, rest58, k56 + 1, s63, rfl, hd59, hle64, hq54, hE.pick _ ⟨rfl, rfl, rfl, rfl, rfl, rfl, trivial⟩, hS⟩
                · replace hq54 := iteF hc96 hq54
                  refine W.skip ?_
                  refine W.seq ?_
                  refine W.region ?_
                  refine WL.vS hS hE (runs_plain rfl) (Gives.fld hE rfl fl28_0) rfl ?_; clear hE a; intro a hE
                  refine WL.vS hS hE (runs_plain rfl) (Gives.loadB hE 1 rfl rfl rfl ty26) rfl ?_; clear hE a; intro a hE
                  refine WL.vS hS hE (runs_plain rfl) (Gives.p hE rfl) rfl ?_; clear hE a; intro a hE
                  refine WL.vS hS hE (runs_plain rfl) (Gives.p hE rfl) rfl ?_; clear hE a; intro a hE
                  obtain ⟨x97, hx98, hq54⟩ := bindS hq54
                  obtain ⟨hi99, hlt100, hy101⟩ := gx_some hx98
                  obtain ⟨cs102, hl103, hR104, hat105⟩ := h1_0.at hy101
                  subst hR104
                  refine WL.vS hS hE (runs_plain rfl) (Gives.idx hE (w64 (((k56 : Nat) : Int) - 1)).toNat rfl rfl sl26 hi99 hlt100 (h1_0.aok hlt100)) rfl ?_; clear hE a; intro a hE
                  refine WL.vS hS hE (runs_plain rfl) (Gives.loadA hE rfl (fun w h => hat105 w _ h) ty47) rfl ?_; clear hE a; intro a hE
                  refine WL.alloc hE hS (runs_plain rfl) zr47 rfl ?_; clear hE hS a w; intro b106 a w hE hS
                  refine WL.storeI hE hS 0 rfl (GuideRide.cells x97) (runs_plain rfl) rfl rfl rfl ty47 rfl rfl rfl rfl ?_; clear hE hS a w; intro a w hE hS
                  refine WL.nil ?_
                  refine W.block ?_
                  refine W.seq ?_
                  obtain ⟨q108, hq107, hq54⟩ := bindS hq54
                  refine W.cut (fun a w => ∃ (q111 : Bool), ∃ (s109 : Sg), s63.Le s109 ∧ q111 = q108 ∧ Rep a 104 [(2, .bool x2), (3, .pointer (some ⟨b51, 0, none⟩)), (4, .pointer (some ⟨b52, 0, none⟩)), (8, .pointer (some ⟨b70, 0, none⟩)), (10, .pointer (some ⟨b106, 0, none⟩)), (17, .slice a1_0 x1.Rides.length c1_0), (18, .int .i64 ((x1.Rides).length : Int)), (19, .int .i64 ((k56 : Nat) : Int)), (70, .bool q111)] ∧ St w s109 (pt b106 (.cells (GuideRide.cells x97).toArray 47 (0, 0)) :: pt b70 (.cells (GuideRide.cells x57).toArray 47 (0, 0)) :: pt b52 (.cells #[.slice a1_0 x1.Rides.length c1_0] 28 (0, 0)) :: pt b51 (.cells #[.slice a0_0 x0.Day.Trains.length c0_0, .slice a0_1 x0.Day.Turns.length c0_1, .int .i64 x0.least] 94 (0, 0)) :: R)) ?_ ?_
                  · refine W.gen fun K112 hK112 => ?_
                    refine W.gen fun K113 hK113 => ?_
                    refine W.regionE (sel (fun w => St w s63 (pt b106 (.cells (GuideRide.cells x97).toArray 47 (0, 0)) :: pt b70 (.cells (GuideRide.cells x57).toArray 47 (0, 0)) :: pt b52 (.cells #[.slice a1_0 x1.Rides.length c1_0] 28 (0, 0)) :: pt b51 (.cells #[.slice a0_0 x0.Day.Trains.length c0_0, .slice a0_1 x0.Day.Turns.length c0_1, .int .i64 x0.least] 94 (0, 0)) :: R)) (fun w => St w s63 (pt b106 (.cells (GuideRide.cells x97).toArray 47 (0, 0)) :: pt b70 (.cells (GuideRide.cells x57).toArray 47 (0, 0)) :: pt b52 (.cells #[.slice a1_0 x1.Rides.length c1_0] 28 (0, 0)) :: pt b51 (.cells #[.slice a0_0 x0.Day.Trains.length c0_0, .slice a0_1 x0.Day.Turns.length c0_1, .int .i64 x0.least] 94 (0, 0)) :: R))) (fun b i => cond b ([0, 1, 2, 3, 4, 5, 6, 7, 8, 9, 10, 11, 12, 13, 14, 15, 16].contains i) ([0, 1, 2, 3, 4, 5, 6, 7, 8, 9, 10, 11, 12, 13, 14, 15, 16].contains i)) mixed ?_
                    replace hS := hS.drew
                    refine Rg.takeP (i := 0) hE rfl (by kernel_rfl) (runs_plain rfl) (Gives.fld hE rfl fl47_0) rfl (tw_sel (fun _ => hS) (fun _ => hS)) ?_; clear hE a; intro a hE
                    have hT := tw_sel (A := fun w => St w s63 (pt b106 (.cells (GuideRide.cells x97).toArray 47 (0, 0)) :: pt b70 (.cells (GuideRide.cells x57).toArray 47 (0, 0)) :: pt b52 (.cells #[.slice a1_0 x1.Rides.length c1_0] 28 (0, 0)) :: pt b51 (.cells #[.slice a0_0 x0.Day.Trains.length c0_0, .slice a0_1 x0.Day.Turns.length c0_1, .int .i64 x0.least] 94 (0, 0)) :: R)) (B := fun w => St w s63 (pt b106 (.cells (GuideRide.cells x97).toArray 47 (0, 0)) :: pt b70 (.cells (GuideRide.cells x57).toArray 47 (0, 0)) :: pt b52 (.cells #[.slice a1_0 x1.Rides.length c1_0] 28 (0, 0)) :: pt b51 (.cells #[.slice a0_0 x0.Day.Trains.length c0_0, .slice a0_1 x0.Day.Turns.length c0_1, .int .i64 x0.least] 94 (0, 0)) :: R)) (w := _) (x := true) (y := true) (fun _ => hS) (fun _ => hS)
                    have hF := hS; replace hS := hS
                    refine Rg.take (i := 1) true rfl hE rfl (by kernel_rfl) (runs_plain rfl) (Gives.loadB hE 1 rfl rfl rfl ty3) rfl hT ?_; clear hE a; intro a hE
                    replace hS := hF; clear hF hT
                    refine Rg.takeP (i := 2) hE rfl (by kernel_rfl) (runs_plain rfl) (Gives.fld hE rfl fl47_0) rfl (tw_sel (fun _ => hS) (fun _ => hS)) ?_; clear hE a; intro a hE
                    have hT := tw_sel (A := fun w => St w s63 (pt b106 (.cells (GuideRide.cells x97).toArray 47 (0, 0)) :: pt b70 (.cells (GuideRide.cells x57).toArray 47 (0, 0)) :: pt b52 (.cells #[.slice a1_0 x1.Rides.length c1_0] 28 (0, 0)) :: pt b51 (.cells #[.slice a0_0 x0.Day.Trains.length c0_0, .slice a0_1 x0.Day.Turns.length c0_1, .int .i64 x0.least] 94 (0, 0)) :: R)) (B := fun w => St w s63 (pt b106 (.cells (GuideRide.cells x97).toArray 47 (0, 0)) :: pt b70 (.cells (GuideRide.cells x57).toArray 47 (0, 0)) :: pt b52 (.cells #[.slice a1_0 x1.Rides.length c1_0] 28 (0, 0)) :: pt b51 (.cells #[.slice a0_0 x0.Day.Trains.length c0_0, .slice a0_1 x0.Day.Turns.length c0_1, .int .i64 x0.least] 94 (0, 0)) :: R)) (w := _) (x := true) (y := true) (fun _ => hS) (fun _ => hS)
                    have hF := hS; replace hS := hS
                    refine Rg.take (i := 3) true rfl hE rfl (by kernel_rfl) (runs_plain rfl) (Gives.loadB hE 0 rfl rfl rfl ty3) rfl hT ?_; clear hE a; intro a hE
                    replace hS := hF; clear hF hT
                    refine Rg.takeP (i := 4) hE rfl (by kernel_rfl) (runs_plain rfl) (Gives.p hE rfl) rfl (tw_sel (fun _ => hS) (fun _ => hS)) ?_; clear hE a; intro a hE
                    refine Rg.takeP (i := 5) hE rfl (by kernel_rfl) (runs_plain rfl) (Gives.p hE rfl) rfl (tw_sel (fun _ => hS) (fun _ => hS)) ?_; clear hE a; intro a hE
                    rcases Bool.eq_false_or_eq_true (x57.Train == x97.Train) with hg114 | hg114
                    · replace hq107 := iteT hg114 hq107
                      refine Rg.no (i := 6) hE rfl (by kernel_rfl) (runs_not hE rfl rfl rfl (by rw [hg114]; decide)) rfl (tw_sel (fun _ => hS) (fun _ => hS)) ?_; clear hE a; intro a hE
                      refine Rg.no (i := 7) hE rfl (by kernel_rfl) (runs_not hE rfl rfl rfl (by rw [hg114]; decide)) rfl (tw_sel (fun _ => hS) (fun _ => hS)) ?_; clear hE a; intro a hE
                      refine Rg.no (i := 10) hE rfl (by kernel_rfl) (runs_not hE rfl rfl rfl (by rw [hg114]; decide)) rfl (tw_sel (fun _ => hS) (fun _ => hS)) ?_; clear hE a; intro a hE
                      refine Rg.no (i := 11) hE rfl (by kernel_rfl) (runs_not hE rfl rfl rfl (by rw [hg114]; decide)) rfl (tw_sel (fun _ => hS) (fun _ => hS)) ?_; clear hE a; intro a hE
                      refine Rg.one (i := 8) true true rfl (by kernel_rfl) (by kernel_rfl) (by kernel_rfl) ?_
                      refine WL.no hE (runs_not hE rfl rfl rfl (by rw [hg114]; decide)) rfl ?_; clear hE a; intro a hE
                      refine WL.nil ?_
                      refine ⟨⟨fun _ => hS, fun _ => hS⟩, ?_⟩
                      refine Rg.no (i := 9) hE rfl (by kernel_rfl) (runs_not hE rfl rfl rfl (by rw [hg114]; decide)) rfl (tw_sel (fun _ => hS) (fun _ => hS)) ?_; clear hE a; intro a hE
                      refine Rg.one (i := 12) true true rfl (by kernel_rfl) (by kernel_rfl) (by kernel_rfl) ?_
                      refine WL.no hE (runs_not hE rfl rfl rfl (by rw [hg114]; decide)) rfl ?_; clear hE a; intro a hE
                      refine WL.nil ?_
                      refine ⟨⟨fun _ => hS, fun _ => hS⟩, ?_⟩
                      refine Rg.no (i := 13) hE rfl (by kernel_rfl) (runs_not hE rfl rfl rfl (by rw [hg114]; decide)) rfl (tw_sel (fun _ => hS) (fun _ => hS)) ?_; clear hE a; intro a hE
                      refine Rg.no (i := 14) hE rfl (by kernel_rfl) (runs_not hE rfl rfl rfl (by rw [hg114]; decide)) rfl (tw_sel (fun _ => hS) (fun _ => hS)) ?_; clear hE a; intro a hE
                      refine Rg.takeP (i := 15) hE rfl (by kernel_rfl) (runs_plain rfl) (Gives.pickT hE rfl hg114 rfl) rfl (tw_sel (fun _ => hS) (fun _ => hS)) ?_; clear hE a; intro a hE
                      refine Rg.takeP (i := 16) hE rfl (by kernel_rfl) (runs_plain rfl) (Gives.p hE rfl) rfl (tw_sel (fun _ => hS) (fun _ => hS)) ?_; clear hE a; intro a hE
                      refine Rg.done (by kernel_rfl) ?_
                      subst hK113
                      subst hK112
                      exact ⟨true, s63, (Sg.Le.refl _), Option.some.inj hq107, hE.pick _ ⟨rfl, rfl, rfl, rfl, rfl, rfl, rfl, rfl, rfl, trivial⟩, hS⟩
                    · replace hq107 := iteF hg114 hq107
                      have hT := tw_sel (A := fun w => St w s63 (pt b106 (.cells (GuideRide.cells x97).toArray 47 (0, 0)) :: pt b70 (.cells (GuideRide.cells x57).toArray 47 (0, 0)) :: pt b52 (.cells #[.slice a1_0 x1.Rides.length c1_0] 28 (0, 0)) :: pt b51 (.cells #[.slice a0_0 x0.Day.Trains.length c0_0, .slice a0_1 x0.Day.Turns.length c0_1, .int .i64 x0.least] 94 (0, 0)) :: R)) (B := fun w => St w s63 (pt b106 (.cells (GuideRide.cells x97).toArray 47 (0, 0)) :: pt b70 (.cells (GuideRide.cells x57).toArray 47 (0, 0)) :: pt b52 (.cells #[.slice a1_0 x1.Rides.length c1_0] 28 (0, 0)) :: pt b51 (.cells #[.slice a0_0 x0.Day.Trains.length c0_0, .slice a0_1 x0.Day.Turns.length c0_1, .int .i64 x0.least] 94 (0, 0)) :: R)) (w := _) (x := true) (y := true) (fun _ => hS) (fun _ => hS)
                      have hF := hS; replace hS := hS
                      refine Rg.take (i := 6) true rfl hE rfl (by kernel_rfl) (runs_if hE rfl rfl rfl hg114) (Gives.loadBA hE 3 rfl rfl ty94) rfl hT ?_; clear hE a; intro a hE
                      replace hS := hF; clear hF hT
                      have hT := tw_sel (A := fun w => St w s63 (pt b106 (.cells (GuideRide.cells x97).toArray 47 (0, 0)) :: pt b70 (.cells (GuideRide.cells x57).toArray 47 (0, 0)) :: pt b52 (.cells #[.slice a1_0 x1.Rides.length c1_0] 28 (0, 0)) :: pt b51 (.cells #[.slice a0_0 x0.Day.Trains.length c0_0, .slice a0_1 x0.Day.Turns.length c0_1, .int .i64 x0.least] 94 (0, 0)) :: R)) (B := fun w => St w s63 (pt b106 (.cells (GuideRide.cells x97).toArray 47 (0, 0)) :: pt b70 (.cells (GuideRide.cells x57).toArray 47 (0, 0)) :: pt b52 (.cells #[.slice a1_0 x1.Rides.length c1_0] 28 (0, 0)) :: pt b51 (.cells #[.slice a0_0 x0.Day.Trains.length c0_0, .slice a0_1 x0.Day.Turns.length c0_1, .int .i64 x0.least] 94 (0, 0)) :: R)) (w := _) (x := true) (y := true) (fun _ => hS) (fun _ => hS)
                      have hF := hS; replace hS := hS
                      refine Rg.take (i := 7) true rfl hE rfl (by kernel_rfl) (runs_if hE rfl rfl rfl hg114) (Gives.loadBA hE 1 rfl rfl ty47) rfl hT ?_; clear hE a; intro a hE
                      replace hS := hF; clear hF hT
                      have hT := tw_sel (A := fun w => St w s63 (pt b106 (.cells (GuideRide.cells x97).toArray 47 (0, 0)) :: pt b70 (.cells (GuideRide.cells x57).toArray 47 (0, 0)) :: pt b52 (.cells #[.slice a1_0 x1.Rides.length c1_0] 28 (0, 0)) :: pt b51 (.cells #[.slice a0_0 x0.Day.Trains.length c0_0, .slice a0_1 x0.Day.Turns.length c0_1, .int .i64 x0.least] 94 (0, 0)) :: R)) (B := fun w => St w s63 (pt b106 (.cells (GuideRide.cells x97).toArray 47 (0, 0)) :: pt b70 (.cells (GuideRide.cells x57).toArray 47 (0, 0)) :: pt b52 (.cells #[.slice a1_0 x1.Rides.length c1_0] 28 (0, 0)) :: pt b51 (.cells #[.slice a0_0 x0.Day.Trains.length c0_0, .slice a0_1 x0.Day.Turns.length c0_1, .int .i64 x0.least] 94 (0, 0)) :: R)) (w := _) (x := true) (y := true) (fun _ => hS) (fun _ => hS)
                      have hF := hS; replace hS := hS
                      refine Rg.take (i := 10) true rfl hE rfl (by kernel_rfl) (runs_if hE rfl rfl rfl hg114) (Gives.loadBA hE 3 rfl rfl ty94) rfl hT ?_; clear hE a; intro a hE
                      replace hS := hF; clear hF hT
                      have hT := tw_sel (A := fun w => St w s63 (pt b106 (.cells (GuideRide.cells x97).toArray 47 (0, 0)) :: pt b70 (.cells (GuideRide.cells x57).toArray 47 (0, 0)) :: pt b52 (.cells #[.slice a1_0 x1.Rides.length c1_0] 28 (0, 0)) :: pt b51 (.cells #[.slice a0_0 x0.Day.Trains.length c0_0, .slice a0_1 x0.Day.Turns.length c0_1, .int .i64 x0.least] 94 (0, 0)) :: R)) (B := fun w => St w s63 (pt b106 (.cells (GuideRide.cells x97).toArray 47 (0, 0)) :: pt b70 (.cells (GuideRide.cells x57).toArray 47 (0, 0)) :: pt b52 (.cells #[.slice a1_0 x1.Rides.length c1_0] 28 (0, 0)) :: pt b51 (.cells #[.slice a0_0 x0.Day.Trains.length c0_0, .slice a0_1 x0.Day.Turns.length c0_1, .int .i64 x0.least] 94 (0, 0)) :: R)) (w := _) (x := true) (y := true) (fun _ => hS) (fun _ => hS)
                      have hF := hS; replace hS := hS
                      refine Rg.take (i := 11) true rfl hE rfl (by kernel_rfl) (runs_if hE rfl rfl rfl hg114) (Gives.loadBA hE 0 rfl rfl ty47) rfl hT ?_; clear hE a; intro a hE
                      replace hS := hF; clear hF hT
                      refine Rg.one (i := 8) true true rfl (by kernel_rfl) (by kernel_rfl) (by kernel_rfl) ?_
                      obtain ⟨q115, hq116, hq107⟩ := bindS hq107
                      have hc_ := GuideNeton_ok hS h0_0 h0_1 hq116
                      refine WL.fnq hE (hc_) (runs_if hE rfl rfl rfl hg114) bd99 rfl rfl rfl ?_
                      clear hE hS hc_; rintro e w ⟨cs117, s119, rfl, hle120, h118, hS⟩; refine ⟨_, rfl, ?_⟩; clear a; intro a hE
                      replace h1_0 := Sl.mono RGuideRide.mono hle120 h1_0
                      replace h0_0 := Sl.mono RApiTrain.mono hle120 h0_0
                      replace h0_1 := Sl.mono (RL.mono RI.mono) hle120 h0_1
                      subst h118
                      refine WL.nil ?_
                      refine ⟨⟨fun _ => (St.down hle120 hS), fun _ => (St.down hle120 hS)⟩, ?_⟩
                      refine Rg.takeP (i := 9) hE rfl (by kernel_rfl) (runs_if hE rfl rfl rfl hg114) (Gives.field1 hE rfl fd106_0 ty3 rfl) rfl (tw_sel (fun _ => (St.down hle120 hS)) (fun _ => (St.down hle120 hS))) ?_; clear hE a; intro a hE
                      refine Rg.one (i := 12) true true rfl (by kernel_rfl) (by kernel_rfl) (by kernel_rfl) ?_
                      obtain ⟨q121, hq122, hq107⟩ := bindS hq107
                      have hc_ := GuideNetoff_ok hS h0_0 h0_1 hq122
                      refine WL.fnq hE (hc_) (runs_if hE rfl rfl rfl hg114) bd77 rfl rfl rfl ?_
                      clear hE hS hc_; rintro e w ⟨cs123, s125, rfl, hle126, h124, hS⟩; refine ⟨_, rfl, ?_⟩; clear a; intro a hE
                      replace h1_0 := Sl.mono RGuideRide.mono hle126 h1_0
                      replace h0_0 := Sl.mono RApiTrain.mono hle126 h0_0
                      replace h0_1 := Sl.mono (RL.mono RI.mono) hle126 h0_1
                      subst h124
                      refine WL.nil ?_
                      refine ⟨⟨fun _ => (St.down (Sg.Le.trans hle120 hle126) hS), fun _ => (St.down (Sg.Le.trans hle120 hle126) hS)⟩, ?_⟩
                      refine Rg.takeP (i := 13) hE rfl (by kernel_rfl) (runs_if hE rfl rfl rfl hg114) (Gives.field1 hE rfl fd106_0 ty3 rfl) rfl (tw_sel (fun _ => (St.down (Sg.Le.trans hle120 hle126) hS)) (fun _ => (St.down (Sg.Le.trans hle120 hle126) hS))) ?_; clear hE a; intro a hE
                      refine Rg.takeP (i := 14) hE rfl (by kernel_rfl) (runs_if hE rfl rfl rfl hg114) (Gives.p hE rfl) rfl (tw_sel (fun _ => (St.down (Sg.Le.trans hle120 hle126) hS)) (fun _ => (St.down (Sg.Le.trans hle120 hle126) hS))) ?_; clear hE a; intro a hE
                      refine Rg.takeP (i := 15) hE rfl (by kernel_rfl) (runs_plain rfl) (Gives.pickF hE rfl hg114 rfl) rfl (tw_sel (fun _ => (St.down (Sg.Le.trans hle120 hle126) hS)) (fun _ => (St.down (Sg.Le.trans hle120 hle126) hS))) ?_; clear hE a; intro a hE
                      refine Rg.takeP (i := 16) hE rfl (by kernel_rfl) (runs_plain rfl) (Gives.p hE rfl) rfl (tw_sel (fun _ => (St.down (Sg.Le.trans hle120 hle126) hS)) (fun _ => (St.down (Sg.Le.trans hle120 hle126) hS))) ?_; clear hE a; intro a hE
                      refine Rg.done (by kernel_rfl) ?_
                      subst hK113
                      subst hK112
                      exact ⟨(q115.Station != q121.Station), s125, (Sg.Le.trans hle120 hle126), Option.some.inj hq107, hE.pick _ ⟨rfl, rfl, rfl, rfl, rfl, rfl, rfl, rfl, rfl, trivial⟩, hS⟩
                  · clear hE hS a w; rintro a w ⟨q111, s109, hle110, rfl, hE, hS⟩
                    replace h1_0 := Sl.mono RGuideRide.mono hle110 h1_0
                    replace h0_0 := Sl.mono RApiTrain.mono hle110 h0_0
                    replace h0_1 := Sl.mono (RL.mono RI.mono) hle110 h0_1
                    refine W.cond hE rfl (fun hc127 => ?_) (fun hc127 => ?_)
                    · replace hq54 := iteT hc127 hq54
                      refine W.seq ?_
                      refine W.region ?_
                      refine WL.vS hS hE (runs_plain rfl) (Gives.p hE rfl) rfl ?_; clear hE a; intro a hE
                      refine WL.nil ?_
                      refine W.ret ?_
                      subst hK65
                      rw [← Option.some.inj hq54] at hr
                      dsimp only at hr
                      refine finG (fn := Tryd.f68) (rs := [.tmp 6]) (vs := [_]) hE rfl ⟨rfl, trivial⟩ ?_
                      obtain rfl := Option.some.inj hr
                      replace hS := hS.tail
                      replace hS := hS.tail
                      replace hS := hS.tail
                      replace hS := hS.tail
                      exact ⟨rfl, (hS.down (Sg.Le.trans hle64 hle110))⟩
                    · replace hq54 := iteF hc127 hq54
                      refine W.seq ?_
                      obtain ⟨q129, hq128, hq54⟩ := bindS hq54
                      refine W.cut (fun a w => ∃ (q132 : Bool), ∃ (s130 : Sg), s109.Le s130 ∧ q132 = q129 ∧ Rep a 104 [(2, .bool x2), (3, .pointer (some ⟨b51, 0, none⟩)), (4, .pointer (some ⟨b52, 0, none⟩)), (17, .slice a1_0 x1.Rides.length c1_0), (18, .int .i64 ((x1.Rides).length : Int)), (19, .int .i64 ((k56 : Nat) : Int)), (87, .bool q132)] ∧ St w s130 (pt b106 (.cells (GuideRide.cells x97).toArray 47 (0, 0)) :: pt b70 (.cells (GuideRide.cells x57).toArray 47 (0, 0)) :: pt b52 (.cells #[.slice a1_0 x1.Rides.length c1_0] 28 (0, 0)) :: pt b51 (.cells #[.slice a0_0 x0.Day.Trains.length c0_0, .slice a0_1 x0.Day.Turns.length c0_1, .int .i64 x0.least] 94 (0, 0)) :: R)) ?_ ?_
                      · refine W.gen fun K133 hK133 => ?_
                        refine W.gen fun K134 hK134 => ?_
                        refine W.regionE (sel (fun w => St w s109 (pt b106 (.cells (GuideRide.cells x97).toArray 47 (0, 0)) :: pt b70 (.cells (GuideRide.cells x57).toArray 47 (0, 0)) :: pt b52 (.cells #[.slice a1_0 x1.Rides.length c1_0] 28 (0, 0)) :: pt b51 (.cells #[.slice a0_0 x0.Day.Trains.length c0_0, .slice a0_1 x0.Day.Turns.length c0_1, .int .i64 x0.least] 94 (0, 0)) :: R)) (fun w => St w s109 (pt b106 (.cells (GuideRide.cells x97).toArray 47 (0, 0)) :: pt b70 (.cells (GuideRide.cells x57).toArray 47 (0, 0)) :: pt b52 (.cells #[.slice a1_0 x1.Rides.length c1_0] 28 (0, 0)) :: pt b51 (.cells #[.slice a0_0 x0.Day.Trains.length c0_0, .slice a0_1 x0.Day.Turns.length c0_1, .int .i64 x0.least] 94 (0, 0)) :: R))) (fun b i => cond b ([0, 1, 2, 3, 4, 5, 6, 7, 8, 9, 10, 11, 12, 13, 14, 15].contains i) ([0, 1, 2, 3, 4, 5, 6, 7, 8, 9, 10, 11, 12, 13, 14, 15].contains i)) mixed ?_
                        replace hS := hS.drew
                        refine Rg.takeP (i := 0) hE rfl (by kernel_rfl) (runs_plain rfl) (Gives.p hE rfl) rfl (tw_sel (fun _ => hS) (fun _ => hS)) ?_; clear hE a; intro a hE
                        refine Rg.takeP (i := 1) hE rfl (by kernel_rfl) (runs_plain rfl) (Gives.p hE rfl) rfl (tw_sel (fun _ => hS) (fun _ => hS)) ?_; clear hE a; intro a hE
                        rcases Bool.eq_false_or_eq_true x2 with hg135 | hg135
                        · replace hq128 := iteT hg135 hq128
                          have hT := tw_sel (A := fun w => St w s109 (pt b106 (.cells (GuideRide.cells x97).toArray 47 (0, 0)) :: pt b70 (.cells (GuideRide.cells x57).toArray 47 (0, 0)) :: pt b52 (.cells #[.slice a1_0 x1.Rides.length c1_0] 28 (0, 0)) :: pt b51 (.cells #[.slice a0_0 x0.Day.Trains.length c0_0, .slice a0_1 x0.Day.Turns.length c0_1, .int .i64 x0.least] 94 (0, 0)) :: R)) (B := fun w => St w s109 (pt b106 (.cells (GuideRide.cells x97).toArray 47 (0, 0)) :: pt b70 (.cells (GuideRide.cells x57).toArray 47 (0, 0)) :: pt b52 (.cells #[.slice a1_0 x1.Rides.length c1_0] 28 (0, 0)) :: pt b51 (.cells #[.slice a0_0 x0.Day.Trains.length c0_0, .slice a0_1 x0.Day.Turns.length c0_1, .int .i64 x0.least] 94 (0, 0)) :: R)) (w := _) (x := true) (y := true) (fun _ => hS) (fun _ => hS)
                          have hF := hS; replace hS := hS
                          refine Rg.take (i := 2) true rfl hE rfl (by kernel_rfl) (runs_if hE rfl rfl rfl hg135) (Gives.loadBA hE 3 rfl rfl ty94) rfl hT ?_; clear hE a; intro a hE
                          replace hS := hF; clear hF hT
                          have hT := tw_sel (A := fun w => St w s109 (pt b106 (.cells (GuideRide.cells x97).toArray 47 (0, 0)) :: pt b70 (.cells (GuideRide.cells x57).toArray 47 (0, 0)) :: pt b52 (.cells #[.slice a1_0 x1.Rides.length c1_0] 28 (0, 0)) :: pt b51 (.cells #[.slice a0_0 x0.Day.Trains.length c0_0, .slice a0_1 x0.Day.Turns.length c0_1, .int .i64 x0.least] 94 (0, 0)) :: R)) (B := fun w => St w s109 (pt b106 (.cells (GuideRide.cells x97).toArray 47 (0, 0)) :: pt b70 (.cells (GuideRide.cells x57).toArray 47 (0, 0)) :: pt b52 (.cells #[.slice a1_0 x1.Rides.length c1_0] 28 (0, 0)) :: pt b51 (.cells #[.slice a0_0 x0.Day.Trains.length c0_0, .slice a0_1 x0.Day.Turns.length c0_1, .int .i64 x0.least] 94 (0, 0)) :: R)) (w := _) (x := true) (y := true) (fun _ => hS) (fun _ => hS)
                          have hF := hS; replace hS := hS
                          refine Rg.take (i := 3) true rfl hE rfl (by kernel_rfl) (runs_if hE rfl rfl rfl hg135) (Gives.loadBA hE 1 rfl rfl ty47) rfl hT ?_; clear hE a; intro a hE
                          replace hS := hF; clear hF hT
                          have hT := tw_sel (A := fun w => St w s109 (pt b106 (.cells (GuideRide.cells x97).toArray 47 (0, 0)) :: pt b70 (.cells (GuideRide.cells x57).toArray 47 (0, 0)) :: pt b52 (.cells #[.slice a1_0 x1.Rides.length c1_0] 28 (0, 0)) :: pt b51 (.cells #[.slice a0_0 x0.Day.Trains.length c0_0, .slice a0_1 x0.Day.Turns.length c0_1, .int .i64 x0.least] 94 (0, 0)) :: R)) (B := fun w => St w s109 (pt b106 (.cells (GuideRide.cells x97).toArray 47 (0, 0)) :: pt b70 (.cells (GuideRide.cells x57).toArray 47 (0, 0)) :: pt b52 (.cells #[.slice a1_0 x1.Rides.length c1_0] 28 (0, 0)) :: pt b51 (.cells #[.slice a0_0 x0.Day.Trains.length c0_0, .slice a0_1 x0.Day.Turns.length c0_1, .int .i64 x0.least] 94 (0, 0)) :: R)) (w := _) (x := true) (y := true) (fun _ => hS) (fun _ => hS)
                          have hF := hS; replace hS := hS
                          refine Rg.take (i := 6) true rfl hE rfl (by kernel_rfl) (runs_if hE rfl rfl rfl hg135) (Gives.loadBA hE 3 rfl rfl ty94) rfl hT ?_; clear hE a; intro a hE
                          replace hS := hF; clear hF hT
                          have hT := tw_sel (A := fun w => St w s109 (pt b106 (.cells (GuideRide.cells x97).toArray 47 (0, 0)) :: pt b70 (.cells (GuideRide.cells x57).toArray 47 (0, 0)) :: pt b52 (.cells #[.slice a1_0 x1.Rides.length c1_0] 28 (0, 0)) :: pt b51 (.cells #[.slice a0_0 x0.Day.Trains.length c0_0, .slice a0_1 x0.Day.Turns.length c0_1, .int .i64 x0.least] 94 (0, 0)) :: R)) (B := fun w => St w s109 (pt b106 (.cells (GuideRide.cells x97).toArray 47 (0, 0)) :: pt b70 (.cells (GuideRide.cells x57).toArray 47 (0, 0)) :: pt b52 (.cells #[.slice a1_0 x1.Rides.length c1_0] 28 (0, 0)) :: pt b51 (.cells #[.slice a0_0 x0.Day.Trains.length c0_0, .slice a0_1 x0.Day.Turns.length c0_1, .int .i64 x0.least] 94 (0, 0)) :: R)) (w := _) (x := true) (y := true) (fun _ => hS) (fun _ => hS)
                          have hF := hS; replace hS := hS
                          refine Rg.take (i := 7) true rfl hE rfl (by kernel_rfl) (runs_if hE rfl rfl rfl hg135) (Gives.loadBA hE 0 rfl rfl ty47) rfl hT ?_; clear hE a; intro a hE
                          replace hS := hF; clear hF hT
                          refine Rg.takeP (i := 10) hE rfl (by kernel_rfl) (runs_if hE rfl rfl rfl hg135) (Gives.fld hE rfl fl94_1) rfl (tw_sel (fun _ => hS) (fun _ => hS)) ?_; clear hE a; intro a hE
                          have hT := tw_sel (A := fun w => St w s109 (pt b106 (.cells (GuideRide.cells x97).toArray 47 (0, 0)) :: pt b70 (.cells (GuideRide.cells x57).toArray 47 (0, 0)) :: pt b52 (.cells #[.slice a1_0 x1.Rides.length c1_0] 28 (0, 0)) :: pt b51 (.cells #[.slice a0_0 x0.Day.Trains.length c0_0, .slice a0_1 x0.Day.Turns.length c0_1, .int .i64 x0.least] 94 (0, 0)) :: R)) (B := fun w => St w s109 (pt b106 (.cells (GuideRide.cells x97).toArray 47 (0, 0)) :: pt b70 (.cells (GuideRide.cells x57).toArray 47 (0, 0)) :: pt b52 (.cells #[.slice a1_0 x1.Rides.length c1_0] 28 (0, 0)) :: pt b51 (.cells #[.slice a0_0 x0.Day.Trains.length c0_0, .slice a0_1 x0.Day.Turns.length c0_1, .int .i64 x0.least] 94 (0, 0)) :: R)) (w := _) (x := true) (y := true) (fun _ => hS) (fun _ => hS)
                          have hF := hS; replace hS := hS
                          refine Rg.take (i := 11) true rfl hE rfl (by kernel_rfl) (runs_if hE rfl rfl rfl hg135) (Gives.loadB hE 3 rfl rfl rfl ty3) rfl hT ?_; clear hE a; intro a hE
                          replace hS := hF; clear hF hT
                          refine Rg.one (i := 4) true true rfl (by kernel_rfl) (by kernel_rfl) (by kernel_rfl) ?_
                          obtain ⟨q136, hq137, hq128⟩ := bindS hq128
                          have hc_ := GuideNeton_ok hS h0_0 h0_1 hq137
                          refine WL.fnq hE (hc_) (runs_if hE rfl rfl rfl hg135) bd99 rfl rfl rfl ?_
                          clear hE hS hc_; rintro e w ⟨cs138, s140, rfl, hle141, h139, hS⟩; refine ⟨_, rfl, ?_⟩; clear a; intro a hE
                          replace h1_0 := Sl.mono RGuideRide.mono hle141 h1_0
                          replace h0_0 := Sl.mono RApiTrain.mono hle141 h0_0
                          replace h0_1 := Sl.mono (RL.mono RI.mono) hle141 h0_1
                          subst h139
                          refine WL.nil ?_
                          refine ⟨⟨fun _ => (St.down hle141 hS), fun _ => (St.down hle141 hS)⟩, ?_⟩
                          refine Rg.takeP (i := 5) hE rfl (by kernel_rfl) (runs_if hE rfl rfl rfl hg135) (Gives.field1 hE rfl fd106_3 ty3 rfl) rfl (tw_sel (fun _ => (St.down hle141 hS)) (fun _ => (St.down hle141 hS))) ?_; clear hE a; intro a hE
                          refine Rg.one (i := 8) true true rfl (by kernel_rfl) (by kernel_rfl) (by kernel_rfl) ?_
                          obtain ⟨q142, hq143, hq128⟩ := bindS hq128
                          have hc_ := GuideNetoff_ok hS h0_0 h0_1 hq143
                          refine WL.fnq hE (hc_) (runs_if hE rfl rfl rfl hg135) bd77 rfl rfl rfl ?_
                          clear hE hS hc_; rintro e w ⟨cs144, s146, rfl, hle147, h145, hS⟩; refine ⟨_, rfl, ?_⟩; clear a; intro a hE
                          replace h1_0 := Sl.mono RGuideRide.mono hle147 h1_0
                          replace h0_0 := Sl.mono RApiTrain.mono hle147 h0_0
                          replace h0_1 := Sl.mono (RL.mono RI.mono) hle147 h0_1
                          subst h145
                          refine WL.nil ?_
                          refine ⟨⟨fun _ => (St.down (Sg.Le.trans hle141 hle147) hS), fun _ => (St.down (Sg.Le.trans hle141 hle147) hS)⟩, ?_⟩
                          refine Rg.takeP (i := 9) hE rfl (by kernel_rfl) (runs_if hE rfl rfl rfl hg135) (Gives.field1 hE rfl fd106_2 ty3 rfl) rfl (tw_sel (fun _ => (St.down (Sg.Le.trans hle141 hle147) hS)) (fun _ => (St.down (Sg.Le.trans hle141 hle147) hS))) ?_; clear hE a; intro a hE
                          refine Rg.takeP (i := 12) hE rfl (by kernel_rfl) (runs_if hE rfl rfl rfl hg135) (Gives.p hE rfl) rfl (tw_sel (fun _ => (St.down (Sg.Le.trans hle141 hle147) hS)) (fun _ => (St.down (Sg.Le.trans hle141 hle147) hS))) ?_; clear hE a; intro a hE
                          refine Rg.takeP (i := 13) hE rfl (by kernel_rfl) (runs_if hE rfl rfl rfl hg135) (Gives.p hE rfl) rfl (tw_sel (fun _ => (St.down (Sg.Le.trans hle141 hle147) hS)) (fun _ => (St.down (Sg.Le.trans hle141 hle147) hS))) ?_; clear hE a; intro a hE
                          refine Rg.takeP (i := 14) hE rfl (by kernel_rfl) (runs_plain rfl) (Gives.pickT hE rfl hg135 rfl) rfl (tw_sel (fun _ => (St.down (Sg.Le.trans hle141 hle147) hS)) (fun _ => (St.down (Sg.Le.trans hle141 hle147) hS))) ?_; clear hE a; intro a hE
                          refine Rg.takeP (i := 15) hE rfl (by kernel_rfl) (runs_plain rfl) (Gives.p hE rfl) rfl (tw_sel (fun _ => (St.down (Sg.Le.trans hle141 hle147) hS)) (fun _ => (St.down (Sg.Le.trans hle141 hle147) hS))) ?_; clear hE a; intro a hE
                          refine Rg.done (by kernel_rfl) ?_
                          subst hK134
                          subst hK133
                          exact ⟨decide (q136.Dep < (w64 (q142.Arr + x0.least))), s146, (Sg.Le.trans hle141 hle147), Option.some.inj hq128, hE.pick _ ⟨rfl, rfl, rfl, rfl, rfl, rfl, rfl, trivial⟩, hS⟩
                        · replace hq128 := iteF hg135 hq128
                          refine Rg.no (i := 2) hE rfl (by kernel_rfl) (runs_not hE rfl rfl rfl (by rw [hg135]; decide)) rfl (tw_sel (fun _ => hS) (fun _ => hS)) ?_; clear hE a; intro a hE
                          refine Rg.no (i := 3) hE rfl (by kernel_rfl) (runs_not hE rfl rfl rfl (by rw [hg135]; decide)) rfl (tw_sel (fun _ => hS) (fun _ => hS)) ?_; clear hE a; intro a hE
                          refine Rg.no (i := 6) hE rfl (by kernel_rfl) (runs_not hE rfl rfl rfl (by rw [hg135]; decide)) rfl (tw_sel (fun _ => hS) (fun _ => hS)) ?_; clear hE a; intro a hE
                          refine Rg.no (i := 7) hE rfl (by kernel_rfl) (runs_not hE rfl rfl rfl (by rw [hg135]; decide)) rfl (tw_sel (fun _ => hS) (fun _ => hS)) ?_; clear hE a; intro a hE
                          refine Rg.no (i := 10) hE rfl (by kernel_rfl) (runs_not hE rfl rfl rfl (by rw [hg135]; decide)) rfl (tw_sel (fun _ => hS) (fun _ => hS)) ?_; clear hE a; intro a hE
                          refine Rg.no (i := 11) hE rfl (by kernel_rfl) (runs_not hE rfl rfl rfl (by rw [hg135]; decide)) rfl (tw_sel (fun _ => hS) (fun _ => hS)) ?_; clear hE a; intro a hE
                          refine Rg.one (i := 4) true true rfl (by kernel_rfl) (by kernel_rfl) (by kernel_rfl) ?_
                          refine WL.no hE (runs_not hE rfl rfl rfl (by rw [hg135]; decide)) rfl ?_; clear hE a; intro a hE
                          refine WL.nil ?_
                          refine ⟨⟨fun _ => hS, fun _ => hS⟩, ?_⟩
                          refine Rg.no (i := 5) hE rfl (by kernel_rfl) (runs_not hE rfl rfl rfl (by rw [hg135]; decide)) rfl (tw_sel (fun _ => hS) (fun _ => hS)) ?_; clear hE a; intro a hE
                          refine Rg.one (i := 8) true true rfl (by kernel_rfl) (by kernel_rfl) (by kernel_rfl) ?_
                          refine WL.no hE (runs_not hE rfl rfl rfl (by rw [hg135]; decide)) rfl ?_; clear hE a; intro a hE
                          refine WL.nil ?_
                          refine ⟨⟨fun _ => hS, fun _ => hS⟩, ?_⟩
                          refine Rg.no (i := 9) hE rfl (by kernel_rfl) (runs_not hE rfl rfl rfl (by rw [hg135]; decide)) rfl (tw_sel (fun _ => hS) (fun _ => hS)) ?_; clear hE a; intro a hE
                          refine Rg.no (i := 12) hE rfl (by kernel_rfl) (runs_not hE rfl rfl rfl (by rw [hg135]; decide)) rfl (tw_sel (fun _ => hS) (fun _ => hS)) ?_; clear hE a; intro a hE
                          refine Rg.no (i := 13) hE rfl (by kernel_rfl) (runs_not hE rfl rfl rfl (by rw [hg135]; decide)) rfl (tw_sel (fun _ => hS) (fun _ => hS)) ?_; clear hE a; intro a hE
                          refine Rg.takeP (i := 14) hE rfl (by kernel_rfl) (runs_plain rfl) (Gives.pickF hE rfl hg135 rfl) rfl (tw_sel (fun _ => hS) (fun _ => hS)) ?_; clear hE a; intro a hE
                          refine Rg.takeP (i := 15) hE rfl (by kernel_rfl) (runs_plain rfl) (Gives.p hE rfl) rfl (tw_sel (fun _ => hS) (fun _ => hS)) ?_; clear hE a; intro a hE
                          refine Rg.done (by kernel_rfl) ?_
                          subst hK134
                          subst hK133
                          exact ⟨false, s109, (Sg.Le.refl _), Option.some.inj hq128, hE.pick _ ⟨rfl, rfl, rfl, rfl, rfl, rfl, rfl, trivial⟩, hS⟩
                      · clear hE hS a w; rintro a w ⟨q132, s130, hle131, rfl, hE, hS⟩
                        replace h1_0 := Sl.mono RGuideRide.mono hle131 h1_0
                        replace h0_0 := Sl.mono RApiTrain.mono hle131 h0_0
                        replace h0_1 := Sl.mono (RL.mono RI.mono) hle131 h0_1
                        refine W.cond hE rfl (fun hc148 => ?_) (fun hc148 => ?_)
                        · replace hq54 := iteT hc148 hq54
                          refine W.seq ?_
                          refine W.region ?_
                          refine WL.vS hS hE (runs_plain rfl) (Gives.p hE rfl) rfl ?_; clear hE a; intro a hE
                          refine WL.nil ?_
                          refine W.ret ?_
                          subst hK65
                          rw [← Option.some.inj hq54] at hr
                          dsimp only at hr
                          refine finG (fn := Tryd.f68) (rs := [.tmp 6]) (vs := [_]) hE rfl ⟨rfl, trivial⟩ ?_
                          obtain rfl := Option.some.inj hr
                          replace hS := hS.tail
                          replace hS := hS.tail
                          replace hS := hS.tail
                          replace hS := hS.tail
                          exact ⟨rfl, (hS.down (Sg.Le.trans (Sg.Le.trans hle64 hle110) hle131))⟩
                        · replace hq54 := iteF hc148 hq54
                          refine W.skip ?_
                          refine W.region ?_
                          refine WL.vS hS hE (runs_plain rfl) (Gives.inc hE rfl (by have := h1_0.small; omega)) rfl ?_; clear hE a; intro a hE
                          refine WL.vS hS hE (runs_plain rfl) (Gives.p hE rfl) rfl ?_; clear hE a; intro a hE
                          refine WL.nil ?_
                          replace hS := hS.tail
                          replace hS := hS.tail
                          subst hK65
                          exact ⟨rest58.length, Nat.lt_succ_self _, rest58, k56 + 1, s130, rfl, hd59, (Sg.Le.trans (Sg.Le.trans hle64 hle110) hle131), hq54, hE.pick _ ⟨rfl, rfl, rfl, rfl, rfl, rfl, trivial⟩, hS⟩
    · clear hE hS a w; rintro a w ⟨s63, hle64, rfl, hE, hS⟩
      dsimp only at hr
      replace h0_0 := Sl.mono RApiTrain.mono hle64 h0_0
      replace h0_1 := Sl.mono (RL.mono RI.mono) hle64 h0_1
      replace h1_0 := Sl.mono RGuideRide.mono hle64 h1_0
      refine W.seq ?_
      refine W.region ?_
      refine WL.vS hS hE (runs_plain rfl) (Gives.p hE rfl) rfl ?_; clear hE a; intro a hE
      refine WL.nil ?_
      refine W.ret ?_
      refine finG (fn := Tryd.f68) (rs := [.tmp 6]) (vs := [_]) hE rfl ⟨rfl, trivial⟩ ?_
      obtain rfl := Option.some.inj hr
      replace hS := hS.tail
      replace hS := hS.tail
      exact ⟨rfl, (hS.down hle64)⟩
set_option maxHeartbeats 8000000 in
theorem GuideCheckJourney_ok  {w : World} {s : Sg} {R : List HP} {x0 : ApiDay} {a0_0 : Option Addr} {c0_0 : Nat} {a0_1 : Option Addr} {c0_1 : Nat} {x1 : GuideJourney} {a1_0 : Option Addr} {c1_0 : Nat} {x2 : Int} (hS : St w s (R)) (hTab : TabS Tryd.prog s) (h0_0 : Sl 4 RApiTrain s a0_0 c0_0 x0.Trains) (h0_1 : Sl 1 (RL 1 (RI .i64)) s a0_1 c0_1 x0.Turns) (h1_0 : Sl 3 RGuideRide s a1_0 c1_0 x1.Rides) {r : Int} (hr : GuideCheckJourney x0 x1 x2 = some r) :
    Calls Tryd.prog 19 [.agg [.slice a0_0 x0.Trains.length c0_0, .slice a0_1 x0.Turns.length c0_1].toArray, .agg [.slice a1_0 x1.Rides.length c1_0].toArray, .int .i64 x2].toArray w (fun e w => e = .returned (.int .i64 r) ∧ St w s (R)) := by
  refine enter Tryd.func19 rfl rfl rfl fun a hE => ?_
  rw [GuideCheckJourney] at hr
  refine W.seq ?_
  refine W.region ?_
  refine WL.box hE hS (runs_plain rfl) rfl rfl rfl ?_; clear hE hS a w; intro b51 a w hE hS
  refine WL.box hE hS (runs_plain rfl) rfl rfl rfl ?_; clear hE hS a w; intro b52 a w hE hS
  refine WL.vS hS hE (runs_plain rfl) (Gives.p hE rfl) rfl ?_; clear hE a; intro a hE
  refine WL.nil ?_
  refine W.seq ?_
  refine W.seq ?_
  refine W.region ?_
  refine WL.vS hS hE (runs_plain rfl) (Gives.loadBA hE 1 rfl rfl ty25) rfl ?_; clear hE a; intro a hE
  refine WL.vS hS hE (runs_plain rfl) (Gives.p hE rfl) rfl ?_; clear hE a; intro a hE
  obtain ⟨q53, hq54, hr⟩ := bindS hr
  have hc_ := GuidecheckLeast_ok hS (TabS.mono (Sg.Le.refl _) hTab) h0_0 h0_1 hq54
  refine WL.fnq hE (hc_) (runs_plain rfl) bd67 rfl rfl rfl ?_
  clear hE hS hc_; rintro e w ⟨rfl, hS⟩; refine ⟨_, rfl, ?_⟩; clear a; intro a hE
  refine WL.vS hS hE (runs_plain rfl) (Gives.p hE rfl) rfl ?_; clear hE a; intro a hE
  refine WL.nil ?_
  refine W.seq ?_
  refine W.region ?_
  refine WL.vS hS hE (runs_plain rfl) (Gives.p hE rfl) rfl ?_; clear hE a; intro a hE
  refine WL.vS hS hE (runs_plain rfl) (Gives.p hE rfl) rfl ?_; clear hE a; intro a hE
  refine WL.nil ?_
  refine W.cond hE rfl (fun hc55 => ?_) (fun hc55 => ?_)
  · replace hr := iteT hc55 hr
    refine W.seq ?_
    refine W.region ?_
    refine WL.vS hS hE (runs_plain rfl) (Gives.p hE rfl) rfl ?_; clear hE a; intro a hE
    refine WL.vS hS hE (runs_plain rfl) (Gives.p hE rfl) rfl ?_; clear hE a; intro a hE
    refine WL.nil ?_
    refine W.ret ?_
    refine finG (fn := Tryd.f19) (rs := [.tmp 6]) (vs := [_]) hE rfl ⟨rfl, trivial⟩ ?_
    obtain rfl := Option.some.inj hr
    replace hS := hS.tail
    replace hS := hS.tail
    exact ⟨rfl, hS⟩
  · replace hr := iteF hc55 hr
    refine W.skip ?_
    refine W.seq ?_
    refine W.region ?_
    refine WL.vS hS hE (runs_plain rfl) (Gives.loadBA hE 1 rfl rfl ty25) rfl ?_; clear hE a; intro a hE
    refine WL.vS hS hE (runs_plain rfl) (Gives.p hE rfl) rfl ?_; clear hE a; intro a hE
    refine WL.vS hS hE (runs_plain rfl) (Gives.build hE (vs := [(0, .agg [.slice a0_0 x0.Trains.length c0_0, .slice a0_1 x0.Turns.length c0_1].toArray), (1, .int .i64 x2)]) [.slice a0_0 x0.Trains.length c0_0, .slice a0_1 x0.Turns.length c0_1, .int .i64 x2] rfl (by kernel_rfl)) rfl ?_; clear hE a; intro a hE
    refine WL.vS hS hE (runs_plain rfl) (Gives.loadBA hE 0 rfl rfl ty28) rfl ?_; clear hE a; intro a hE
    obtain ⟨q56, hq57, hr⟩ := bindS hr
    have hc_ := GuideNetjourney_ok hS h0_0 h0_1 h1_0 hq57
    refine WL.fnq hE (hc_) (runs_plain rfl) bd68 rfl rfl rfl ?_
    clear hE hS hc_; rintro e w ⟨rfl, hS⟩; refine ⟨_, rfl, ?_⟩; clear a; intro a hE
    refine WL.vS hS hE (runs_plain rfl) (Gives.p hE rfl) rfl ?_; clear hE a; intro a hE
    refine WL.nil ?_
    refine W.ret ?_
    refine finG (fn := Tryd.f19) (rs := [.tmp 6]) (vs := [_]) hE rfl ⟨rfl, trivial⟩ ?_
    obtain rfl := Option.some.inj hr
    replace hS := hS.tail
    replace hS := hS.tail
    exact ⟨rfl, hS⟩
set_option maxHeartbeats 8000000 in
theorem Fishlaw2GuideDays_ok {fu : Nat}  {w : World} {s : Sg} {R : List HP} {x0 : ApiDay} {a0_0 : Option Addr} {c0_0 : Nat} {a0_1 : Option Addr} {c0_1 : Nat} {x1 : GuideJourney} {a1_0 : Option Addr} {c1_0 : Nat} {x2 : Int} (hS : St w s (R)) (hTab : TabS Tryd.prog s) (h0_0 : Sl 4 RApiTrain s a0_0 c0_0 x0.Trains) (h0_1 : Sl 1 (RL 1 (RI .i64)) s a0_1 c0_1 x0.Turns) (h1_0 : Sl 3 RGuideRide s a1_0 c1_0 x1.Rides) {r : Bool} (hr : Fishlaw2GuideDays fu x0 x1 x2 = some r) :
    Calls Tryd.prog 4 [.agg [.slice a0_0 x0.Trains.length c0_0, .slice a0_1 x0.Turns.length c0_1].toArray, .agg [.slice a1_0 x1.Rides.length c1_0].toArray, .int .i64 x2].toArray w (fun e w => e = .returned (.bool r) ∧ St w s (R)) := by
  refine enter Tryd.func4 rfl rfl rfl fun a hE => ?_
  rw [Fishlaw2GuideDays] at hr
  refine W.seq ?_
  refine W.region ?_
  refine WL.box hE hS (runs_plain rfl) rfl rfl rfl ?_; clear hE hS a w; intro b51 a w hE hS
  refine WL.box hE hS (runs_plain rfl) rfl rfl rfl ?_; clear hE hS a w; intro b52 a w hE hS
  refine WL.vS hS hE (runs_plain rfl) (Gives.p hE rfl) rfl ?_; clear hE a; intro a hE
  refine WL.nil ?_
  refine W.seq ?_
  refine W.region ?_
  refine WL.vS hS hE (runs_plain rfl) (Gives.loadBA hE 1 rfl rfl ty25) rfl ?_; clear hE a; intro a hE
  obtain ⟨q53, hq54, hr⟩ := bindS hr
  have hc_ := Fishref2GuideFault_ok hS h0_0 h0_1 hq54
  refine WL.fnq hE (hc_) (runs_plain rfl) bd12 rfl rfl rfl ?_
  clear hE hS hc_; rintro e w ⟨rfl, hS⟩; refine ⟨_, rfl, ?_⟩; clear a; intro a hE
  refine WL.vS hS hE (runs_plain rfl) (Gives.p hE rfl) rfl ?_; clear hE a; intro a hE
  refine WL.nil ?_
  refine W.seq ?_
  refine W.seq ?_
  obtain ⟨q56, hq55, hr⟩ := bindS hr
  refine W.cut (fun a w => ∃ (q59 : Bool), q59 = q56 ∧ Rep a 30 [(2, .int .i64 x2), (3, .pointer (some ⟨b51, 0, none⟩)), (4, .pointer (some ⟨b52, 0, none⟩)), (7, .int .i64 q53), (17, .bool q59)] ∧ St w s (pt b52 (.cells #[.slice a1_0 x1.Rides.length c1_0] 28 (0, 0)) :: pt b51 (.cells #[.slice a0_0 x0.Trains.length c0_0, .slice a0_1 x0.Turns.length c0_1] 25 (0, 0)) :: R)) ?_ ?_
  · refine W.gen fun K60 hK60 => ?_
    refine W.region ?_
    obtain ⟨q61, hq62, hq55⟩ := bindS hq55
    have hc_ := Fishlaw2guides_ok hS (TabS.mono (Sg.Le.refl _) hTab) hq62
    refine WL.fnq hE (hc_) (runs_plain rfl) bd13 rfl rfl rfl ?_
    clear hE hS hc_; rintro e w ⟨rfl, hS⟩; refine ⟨_, rfl, ?_⟩; clear a; intro a hE
    refine WL.vS hS hE (runs_plain rfl) (Gives.p hE rfl) rfl ?_; clear hE a; intro a hE
    refine WL.vS hS hE (runs_plain rfl) (Gives.p hE rfl) rfl ?_; clear hE a; intro a hE
    rcases Bool.eq_false_or_eq_true !q61 with hg63 | hg63
    · replace hq55 := iteT hg63 hq55
      refine WL.no hE (runs_not hE rfl rfl rfl (by rw [hg63]; decide)) rfl ?_; clear hE a; intro a hE
      refine WL.no hE (runs_not hE rfl rfl rfl (by rw [hg63]; decide)) rfl ?_; clear hE a; intro a hE
      refine WL.no hE (runs_not hE rfl rfl rfl (by rw [hg63]; decide)) rfl ?_; clear hE a; intro a hE
      refine WL.no hE (runs_not hE rfl rfl rfl (by rw [hg63]; decide)) rfl ?_; clear hE a; intro a hE
      refine WL.vS hS hE (runs_plain rfl) (Gives.pickT hE rfl hg63 rfl) rfl ?_; clear hE a; intro a hE
      refine WL.nil ?_
      subst hK60
      exact ⟨true, Option.some.inj hq55, hE.pick _ ⟨rfl, rfl, rfl, rfl, rfl, trivial⟩, hS⟩
    · replace hq55 := iteF hg63 hq55
      refine WL.vS hS hE (runs_if hE rfl rfl rfl hg63) (Gives.loadBA hE 1 rfl rfl ty25) rfl ?_; clear hE a; intro a hE
      obtain ⟨q64, hq65, hq55⟩ := bindS hq55
      have hc_ := GuideCheck_ok hS (TabS.mono (Sg.Le.refl _) hTab) h0_0 h0_1 hq65
      refine WL.fnq hE (hc_) (runs_if hE rfl rfl rfl hg63) bd17 rfl rfl rfl ?_
      clear hE hS hc_; rintro e w ⟨rfl, hS⟩; refine ⟨_, rfl, ?_⟩; clear a; intro a hE
      refine WL.vS hS hE (runs_if hE rfl rfl rfl hg63) (Gives.p hE rfl) rfl ?_; clear hE a; intro a hE
      refine WL.vS hS hE (runs_if hE rfl rfl rfl hg63) (Gives.p hE rfl) rfl ?_; clear hE a; intro a hE
      refine WL.vS hS hE (runs_plain rfl) (Gives.pickF hE rfl hg63 rfl) rfl ?_; clear hE a; intro a hE
      refine WL.nil ?_
      subst hK60
      exact ⟨(q64 != q53), Option.some.inj hq55, hE.pick _ ⟨rfl, rfl, rfl, rfl, rfl, trivial⟩, hS⟩
  · clear hE hS a w; rintro a w ⟨q59, rfl, hE, hS⟩
    refine W.cond hE rfl (fun hc66 => ?_) (fun hc66 => ?_)
    · replace hr := iteT hc66 hr
      refine W.seq ?_
      refine W.region ?_
      refine WL.vS hS hE (runs_plain rfl) (Gives.p hE rfl) rfl ?_; clear hE a; intro a hE
      refine WL.nil ?_
      refine W.ret ?_
      refine finG (fn := Tryd.f4) (rs := [.tmp 6]) (vs := [_]) hE rfl ⟨rfl, trivial⟩ ?_
      obtain rfl := Option.some.inj hr
      replace hS := hS.tail
      replace hS := hS.tail
      exact ⟨rfl, hS⟩
    · replace hr := iteF hc66 hr
      refine W.skip ?_
      refine W.seq ?_
      refine W.seq ?_
      refine W.region ?_
      refine WL.vS hS hE (runs_plain rfl) (Gives.p hE rfl) rfl ?_; clear hE a; intro a hE
      refine WL.vS hS hE (runs_plain rfl) (Gives.p hE rfl) rfl ?_; clear hE a; intro a hE
      refine WL.nil ?_
      obtain ⟨q68, hq67, hr⟩ := bindS hr
      refine W.cut (fun a w => ∃ (q71 : Int), q71 = q68 ∧ Rep a 30 [(2, .int .i64 x2), (3, .pointer (some ⟨b51, 0, none⟩)), (4, .pointer (some ⟨b52, 0, none⟩)), (7, .int .i64 q71)] ∧ St w s (pt b52 (.cells #[.slice a1_0 x1.Rides.length c1_0] 28 (0, 0)) :: pt b51 (.cells #[.slice a0_0 x0.Trains.length c0_0, .slice a0_1 x0.Turns.length c0_1] 25 (0, 0)) :: R)) ?_ ?_
      · refine W.gen fun K72 hK72 => ?_
        refine W.cond hE rfl (fun hc73 => ?_) (fun hc73 => ?_)
        · replace hq67 := iteT hc73 hq67
          refine W.region ?_
          refine WL.vS hS hE (runs_plain rfl) (Gives.loadBA hE 1 rfl rfl ty25) rfl ?_; clear hE a; intro a hE
          refine WL.vS hS hE (runs_plain rfl) (Gives.loadBA hE 0 rfl rfl ty28) rfl ?_; clear hE a; intro a hE
          refine WL.vS hS hE (runs_plain rfl) (Gives.p hE rfl) rfl ?_; clear hE a; intro a hE
          obtain ⟨q74, hq75, hq67⟩ := bindS hq67
          have hc_ := Fishref2JourneyFault_ok hS h0_0 h0_1 h1_0 hq75
          refine WL.fnq hE (hc_) (runs_plain rfl) bd18 rfl rfl rfl ?_
          clear hE hS hc_; rintro e w ⟨rfl, hS⟩; refine ⟨_, rfl, ?_⟩; clear a; intro a hE
          refine WL.vS hS hE (runs_plain rfl) (Gives.p hE rfl) rfl ?_; clear hE a; intro a hE
          refine WL.nil ?_
          subst hK72
          exact ⟨q74, Option.some.inj hq67, hE.pick _ ⟨rfl, rfl, rfl, rfl, trivial⟩, hS⟩
        · replace hq67 := iteF hc73 hq67
          refine W.skip ?_
          subst hK72
          exact ⟨q53, Option.some.inj hq67, hE.pick _ ⟨rfl, rfl, rfl, rfl, trivial⟩, hS⟩
      · clear hE hS a w; rintro a w ⟨q71, rfl, hE, hS⟩
        refine W.seq ?_
        refine W.region ?_
        refine WL.vS hS hE (runs_plain rfl) (Gives.loadBA hE 1 rfl rfl ty25) rfl ?_; clear hE a; intro a hE
        refine WL.vS hS hE (runs_plain rfl) (Gives.loadBA hE 0 rfl rfl ty28) rfl ?_; clear hE a; intro a hE
        refine WL.vS hS hE (runs_plain rfl) (Gives.p hE rfl) rfl ?_; clear hE a; intro a hE
        obtain ⟨q76, hq77, hr⟩ := bindS hr
        have hc_ := GuideCheckJourney_ok hS (TabS.mono (Sg.Le.refl _) hTab) h0_0 h0_1 h1_0 hq77
        refine WL.fnq hE (hc_) (runs_plain rfl) bd19 rfl rfl rfl ?_
        clear hE hS hc_; rintro e w ⟨rfl, hS⟩; refine ⟨_, rfl, ?_⟩; clear a; intro a hE
        refine WL.vS hS hE (runs_plain rfl) (Gives.p hE rfl) rfl ?_; clear hE a; intro a hE
        refine WL.vS hS hE (runs_plain rfl) (Gives.p hE rfl) rfl ?_; clear hE a; intro a hE
        refine WL.vS hS hE (runs_plain rfl) (Gives.p hE rfl) rfl ?_; clear hE a; intro a hE
        refine WL.nil ?_
        refine W.ret ?_
        refine finG (fn := Tryd.f4) (rs := [.tmp 6]) (vs := [_]) hE rfl ⟨rfl, trivial⟩ ?_
        obtain rfl := Option.some.inj hr
        replace hS := hS.tail
        replace hS := hS.tail
        exact ⟨rfl, hS⟩
end Go.Proofs.YtpcebngchmgckaaDoor
