/- The walks of the functions that GuideSurest reaches: each call comes to what its mirror says. The conditions are those of each contract. -/
import Derived.Test.YtpcebngchmgckaaGreatDoorProg
import Derived.Test.YtpcebngchmgckaaGreatDoorFpTight
import Derived.Test.YtpcebngchmgckaaGreatDoorGuideSurestM
import Derived.Test.YtpcebngchmgckaaGreatDoorFpAllX
import Derived.Test.YtpcebngchmgckaaGreatDoorGuideSurestS
import Derived.Test.YtpcebngchmgckaaGreatDoorFpMapS
import Derived.Test.YtpcebngchmgckaaGreatDoorFpFld
import Derived.Test.YtpcebngchmgckaaGreatDoorFpMapG
import Derived.Test.YtpcebngchmgckaaGreatDoorFpMapV
import Derived.Test.YtpcebngchmgckaaGreatDoorFpMaps
import Derived.Test.YtpcebngchmgckaaGreatDoorFpOrd
import Derived.Test.YtpcebngchmgckaaGreatDoorFpRf
import Derived.Test.YtpcebngchmgckaaGreatDoorFpRng
import Derived.Test.YtpcebngchmgckaaGreatDoorGuideSurestW2
set_option maxRecDepth 10000
namespace Go.Proofs.YtpcebngchmgckaaGreatDoor
open Go Go.Fp
set_option maxHeartbeats 8000000 in
theorem GuideSurest_2_v1_ok : ∀ {fu : Nat} {w : World} {s : Sg} {R : List HP} {pb0 : Nat} {pb1 : Nat} {pb2 : Nat} {pb3 : Nat} {pb4 : Nat} {pb5 : Nat} {pb6 : Nat} {pb7 : Nat} {x0 : List GuideRide} {a0 : Option Addr} {c0 : Nat} {y0 : GuideNet} {a_y0_0 : Option Addr} {c_y0_0 : Nat} {a_y0_1 : Option Addr} {c_y0_1 : Nat} {y1 : Int} {y2 : List GuideOdds} {a_y2_0 : Option Addr} {c_y2_0 : Nat} {y3 : List GuideRide} {a_y3_0 : Option Addr} {c_y3_0 : Nat} {y4 : GuideCases} {y5 : Int} (_hS : St w s (pc pb0 #[.slice a_y0_0 y0.Day.Trains.length c_y0_0, .slice a_y0_1 y0.Day.Turns.length c_y0_1, vi y0.least] 91 :: pc pb1 #[vi y1] 3 :: pc pb2 #[.slice a_y2_0 y2.length c_y2_0] 26 :: pc pb3 #[.slice a_y3_0 y3.length c_y3_0] 27 :: pc pb4 #[vi y4.holds, vi y4.all, vi y4.late] 93 :: pc pb5 #[vi y5] 3 :: pc pb6 #[.func (.func 40) #[] #[pp pb3, pp pb4, pp pb0]] 101 :: pc pb7 #[.func (.func 45) #[] #[pp pb0, pp pb1, pp pb2, pp pb3, pp pb4, pp pb5, pp pb6, pp pb7]] 102 :: R)) (_h0 : Sl 3 RGuideRide s a0 c0 x0) (_h_y0_0 : Sl 4 RApiTrain s a_y0_0 c_y0_0 y0.Day.Trains) (_h_y0_1 : Sl 1 (RL 1 (RI .i64)) s a_y0_1 c_y0_1 y0.Day.Turns) (_h_y2_0 : Sl 3 RGuideOdds s a_y2_0 c_y2_0 y2) (_h_y3_0 : Sl 3 RGuideRide s a_y3_0 c_y3_0 y3) (_hz_y3_0 : y3 = [] → a_y3_0 = none) {r : (List GuideRide) × Int × Int × Int} (_hr : GuideSurest_2_v1 fu x0 y0 y1 y2 y3 y4 y5 = some r),
  Calls Tryz.prog 45 [.slice a0 x0.length c0, pp pb0, pp pb1, pp pb2, pp pb3, pp pb4, pp pb5, pp pb6, pp pb7].toArray w (fun e w => ∃ (a60 : Option Addr) (c61 : Nat) (t : Sg), e = .returned (.tuple #[]) ∧ s.Le t ∧ Sl 3 RGuideRide t a60 c61 r.1 ∧ (r.1 = [] → a60 = none) ∧ St w t (pc pb0 #[.slice a_y0_0 y0.Day.Trains.length c_y0_0, .slice a_y0_1 y0.Day.Turns.length c_y0_1, vi y0.least] 91 :: pc pb1 #[vi y1] 3 :: pc pb2 #[.slice a_y2_0 y2.length c_y2_0] 26 :: pc pb3 #[.slice a60 r.1.length c61] 27 :: pc pb4 #[vi r.2.1, vi r.2.2.1, vi r.2.2.2] 93 :: pc pb5 #[vi y5] 3 :: pc pb6 #[.func (.func 40) #[] #[pp pb3, pp pb4, pp pb0]] 101 :: pc pb7 #[.func (.func 45) #[] #[pp pb0, pp pb1, pp pb2, pp pb3, pp pb4, pp pb5, pp pb6, pp pb7]] 102 :: R)) := by
 intro fu
 induction fu with
 | zero => intro w s R pb0 pb1 pb2 pb3 pb4 pb5 pb6 pb7 x0 a0 c0 y0 a_y0_0 c_y0_0 a_y0_1 c_y0_1 y1 y2 a_y2_0 c_y2_0 y3 a_y3_0 c_y3_0 y4 y5 hS h0 h_y0_0 h_y0_1 h_y2_0 h_y3_0 hz_y3_0 r hr; rw [GuideSurest_2_v1] at hr; exact absurd hr (by simp)
 | succ fu ih_GuideSurest_2_v1 =>
  intro w s R pb0 pb1 pb2 pb3 pb4 pb5 pb6 pb7 x0 a0 c0 y0 a_y0_0 c_y0_0 a_y0_1 c_y0_1 y1 y2 a_y2_0 c_y2_0 y3 a_y3_0 c_y3_0 y4 y5 hS h0 h_y0_0 h_y0_1 h_y2_0 h_y3_0 hz_y3_0 r hr
  rw [GuideSurest_2_v1] at hr
  generalize GuideSurest_2_v1 fu = self_GuideSurest_2_v1 at hr ih_GuideSurest_2_v1
  refine enter Tryz.func45 rfl rfl rfl fun a hE => ?_
  refine W.seq (W.region ?_)
  refine WL.box hE hS (runs_plain rfl) rfl rfl rfl ?_; clear hE hS a w; intro b67 a w hE hS
  refine WL.nil ?_
  refine W.seq (W.region (vP hS hE (Gives.loadB hE 0 rfl rfl rfl ty27) rfl fun a hE => ?_))
  refine vP hS hE (Gives.loadB hE 0 rfl rfl rfl ty27) rfl fun a hE => ?_
  refine vP hS hE (Gives.len hE rfl sl27) rfl fun a hE => ?_
  refine vp hS hE rfl rfl fun a hE => ?_
  obtain ⟨x68, hx69, hr⟩ := bindS hr
  obtain ⟨hi70, hlt71, hy72⟩ := gx_some hx69
  obtain ⟨cs73, hl74, hR75, hat76⟩ := h0.at hy72
  subst hR75
  refine vP hS hE (Gives.idx hE (w64 (((x0).length : Int) - 1)).toNat rfl rfl sl27 hi70 hlt71 (h0.aok hlt71)) rfl fun a hE => ?_
  refine vP hS hE (Gives.loadA hE rfl (fun w h => hat76 w _ h) ty95) rfl fun a hE => ?_
  refine WL.alloc hE hS (runs_plain rfl) zr95 rfl ?_; clear hE hS a w; intro b77 a w hE hS
  refine WL.storeI hE hS 0 rfl (GuideRide.cells x68) (runs_plain rfl) rfl rfl rfl ty95 rfl rfl rfl rfl ?_; clear hE hS a w; intro a w hE hS
  refine WL.nil ?_
  refine W.seq ?_
  refine W.seq ?_
  refine W.gen fun K78 hK78 => ?_
  refine W.regionE (dup (fun w => St w s (pc b77 (GuideRide.cells x68).toArray 95 :: pc b67 #[.slice a0 x0.length c0] 27 :: pc pb0 #[.slice a_y0_0 y0.Day.Trains.length c_y0_0, .slice a_y0_1 y0.Day.Turns.length c_y0_1, vi y0.least] 91 :: pc pb1 #[vi y1] 3 :: pc pb2 #[.slice a_y2_0 y2.length c_y2_0] 26 :: pc pb3 #[.slice a_y3_0 y3.length c_y3_0] 27 :: pc pb4 #[vi y4.holds, vi y4.all, vi y4.late] 93 :: pc pb5 #[vi y5] 3 :: pc pb6 #[.func (.func 40) #[] #[pp pb3, pp pb4, pp pb0]] 101 :: pc pb7 #[.func (.func 45) #[] #[pp pb0, pp pb1, pp pb2, pp pb3, pp pb4, pp pb5, pp pb6, pp pb7]] 102 :: R))) (fun b i => cond b ([0, 1, 2, 3, 4, 5].contains i) ([0, 1, 2, 3, 4, 5].contains i)) mixed ?_
  replace hS := hS.drew
  refine tT (i := 0) true rfl hE rfl (by kernel_rfl) (Gives.loadBA hE 2 rfl rfl ty91) rfl hS hS fun a hE => ?_
  have hT := tw_sel (A := fun w => St w s _) (B := fun w => St w s _) (w := _) (x := true) (y := true) (fun _ => hS) (fun _ => hS)
  have hF := hS; replace hS := hS
  refine Rg.take (i := 1) true rfl hE rfl (by kernel_rfl) (runs_plain rfl) (Gives.loadBA hE 0 rfl rfl ty95) rfl hT fun a hE => ?_
  replace hS := hF; clear hF hT
  refine tT (i := 4) true rfl hE rfl (by kernel_rfl) (Gives.loadB hE 3 rfl rfl rfl ty3) rfl hS hS fun a hE => ?_
  refine Rg.one (i := 2) true true rfl (by kernel_rfl) (by kernel_rfl) (by kernel_rfl) ?_
  obtain ⟨q79, hq80, hr⟩ := bindS hr
  have hc_ := GuideNetoff_ok hS h_y0_0 h_y0_1 hq80
  refine WL.fnq hE (hc_) (runs_plain rfl) bd43 rfl rfl rfl ?_
  clear hE hS hc_; rintro e w ⟨cs81, s83, rfl, hle84, h82, hS⟩; refine ⟨_, rfl, ?_⟩; clear a; intro a hE
  replace h0 := Sl.mono RGuideRide.mono hle84 h0
  replace h_y0_0 := Sl.mono RApiTrain.mono hle84 h_y0_0
  replace h_y0_1 := Sl.mono (RL.mono RI.mono) hle84 h_y0_1
  replace h_y2_0 := Sl.mono RGuideOdds.mono hle84 h_y2_0
  replace h_y3_0 := Sl.mono RGuideRide.mono hle84 h_y3_0
  subst h82
  refine WL.nil ?_
  refine ⟨⟨fun _ => (St.down hle84 hS), fun _ => (St.down hle84 hS)⟩, ?_⟩
  refine tP (i := 3) hE rfl (by kernel_rfl) (Gives.field1 hE rfl fd99_2 ty3 rfl) rfl (St.down hle84 hS) (St.down hle84 hS) fun a hE => ?_
  refine tP (i := 5) hE rfl (by kernel_rfl) (Gives.p hE rfl) rfl (St.down hle84 hS) (St.down hle84 hS) fun a hE => ?_
  refine Rg.done (by kernel_rfl) ?_
  subst hK78
  refine W.cond hE rfl (fun hc85 => ?_) (fun hc85 => ?_)
  ·replace hr := iteT hc85 hr
   refine W.ret ?_
   refine finG (fn := Tryz.f45) (rs := []) (vs := []) hE rfl trivial ?_
   obtain rfl := Option.some.inj hr
   replace hS := hS.tail
   replace hS := hS.tail
   exact ⟨a_y3_0, c_y3_0, s83, rfl, hle84, h_y3_0, hz_y3_0, hS⟩
  replace hr := iteF hc85 hr
  refine W.skip ?_
  refine W.seq (W.region (vP hS hE (Gives.loadBA hE 2 rfl rfl ty91) rfl fun a hE => ?_))
  refine vP hS hE (Gives.loadB hE 1 rfl rfl rfl ty27) rfl fun a hE => ?_
  refine vP hS hE (Gives.build hE (vs := [(0, .slice a0 x0.length c0)]) [.slice a0 x0.length c0] rfl (by kernel_rfl)) rfl fun a hE => ?_
  refine vP hS hE (Gives.loadB hE 4 rfl rfl rfl ty26) rfl fun a hE => ?_
  obtain ⟨q86, hq87, hr⟩ := bindS hr
  have hc_ := GuideNetcount_ok hS h_y0_0 h_y0_1 h0 h_y2_0 hq87
  refine WL.fnq hE (hc_) (runs_plain rfl) bd46 rfl rfl rfl ?_
  clear hE hS hc_; rintro e w ⟨cs88, s90, rfl, hle91, h89, hS⟩; refine ⟨_, rfl, ?_⟩; clear a; intro a hE
  replace h0 := Sl.mono RGuideRide.mono hle91 h0
  replace h_y0_0 := Sl.mono RApiTrain.mono hle91 h_y0_0
  replace h_y0_1 := Sl.mono (RL.mono RI.mono) hle91 h_y0_1
  replace h_y2_0 := Sl.mono RGuideOdds.mono hle91 h_y2_0
  replace h_y3_0 := Sl.mono RGuideRide.mono hle91 h_y3_0
  subst h89
  refine WL.alloc hE hS (runs_plain rfl) zr93 rfl ?_; clear hE hS a w; intro b92 a w hE hS
  refine WL.storeI hE hS 0 rfl (GuideCases.cells q86) (runs_plain rfl) rfl rfl rfl ty93 rfl rfl rfl rfl ?_; clear hE hS a w; intro a w hE hS
  refine WL.nil ?_
  refine W.seq ?_
  refine W.seq ?_
  obtain ⟨q94, hq93, hr⟩ := bndS hr
  refine W.cut (fun a w => ∃ (q97 : Bool), q97 = q94 ∧ Rep a 74 [(1, pp pb0), (4, pp pb3), (5, pp pb4), (6, pp pb5), (7, pp pb6), (8, pp pb7), (9, pp b67), (10, pp b77), (11, pp b92), (44, .bool q97)] ∧ St w s90 (pc b92 (GuideCases.cells q86).toArray 93 :: pc b77 (GuideRide.cells x68).toArray 95 :: pc b67 #[.slice a0 x0.length c0] 27 :: pc pb0 #[.slice a_y0_0 y0.Day.Trains.length c_y0_0, .slice a_y0_1 y0.Day.Turns.length c_y0_1, vi y0.least] 91 :: pc pb1 #[vi y1] 3 :: pc pb2 #[.slice a_y2_0 y2.length c_y2_0] 26 :: pc pb3 #[.slice a_y3_0 y3.length c_y3_0] 27 :: pc pb4 #[vi y4.holds, vi y4.all, vi y4.late] 93 :: pc pb5 #[vi y5] 3 :: pc pb6 #[.func (.func 40) #[] #[pp pb3, pp pb4, pp pb0]] 101 :: pc pb7 #[.func (.func 45) #[] #[pp pb0, pp pb1, pp pb2, pp pb3, pp pb4, pp pb5, pp pb6, pp pb7]] 102 :: R)) ?_ ?_
  ·refine W.gen fun K98 hK98 => ?_
   refine W.region ?_
   refine vP hS hE (Gives.loadB hE 6 rfl rfl rfl ty27) rfl fun a hE => ?_
   refine vP hS hE (Gives.notNilZ hE (isNone_eq h_y3_0 hz_y3_0) rfl rfl isl27) rfl fun a hE => ?_
   refine vp hS hE rfl rfl fun a hE => ?_
   rcases Bool.eq_false_or_eq_true !y3.isEmpty with hg99 | hg99
   ·replace hq93 := iteT hg99 hq93
    refine WL.vS hS hE (runs_if hE rfl rfl rfl hg99) (Gives.fld hE rfl fl93_0) rfl fun a hE => ?_
    refine WL.vS hS hE (runs_if hE rfl rfl rfl hg99) (Gives.loadB hE 0 rfl rfl rfl ty3) rfl fun a hE => ?_
    refine WL.vS hS hE (runs_if hE rfl rfl rfl hg99) (Gives.fld hE rfl fl93_1) rfl fun a hE => ?_
    refine WL.vS hS hE (runs_if hE rfl rfl rfl hg99) (Gives.loadB hE 7 rfl rfl rfl ty3) rfl fun a hE => ?_
    refine WL.vS hS hE (runs_if hE rfl rfl rfl hg99) (Gives.p hE rfl) rfl fun a hE => ?_
    refine WL.vS hS hE (runs_if hE rfl rfl rfl hg99) (Gives.fld hE rfl fl93_0) rfl fun a hE => ?_
    refine WL.vS hS hE (runs_if hE rfl rfl rfl hg99) (Gives.loadB hE 7 rfl rfl rfl ty3) rfl fun a hE => ?_
    refine WL.vS hS hE (runs_if hE rfl rfl rfl hg99) (Gives.fld hE rfl fl93_1) rfl fun a hE => ?_
    refine WL.vS hS hE (runs_if hE rfl rfl rfl hg99) (Gives.loadB hE 0 rfl rfl rfl ty3) rfl fun a hE => ?_
    refine WL.vS hS hE (runs_if hE rfl rfl rfl hg99) (Gives.p hE rfl) rfl fun a hE => ?_
    refine WL.vS hS hE (runs_if hE rfl rfl rfl hg99) (Gives.p hE rfl) rfl fun a hE => ?_
    refine vP hS hE (Gives.pickT hE rfl hg99 rfl) rfl fun a hE => WL.nil ?_
    subst hK98
    exact ⟨decide ((w64 (q86.holds * y4.all)) < (w64 (y4.holds * q86.all))), hq93, hE.pick _ ⟨rfl, rfl, rfl, rfl, rfl, rfl, rfl, rfl, rfl, rfl, trivial⟩, hS⟩
   replace hq93 := iteF hg99 hq93
   refine nO hE rfl rfl rfl (by rw [hg99]; decide) rfl fun a hE => ?_
   refine nO hE rfl rfl rfl (by rw [hg99]; decide) rfl fun a hE => ?_
   refine nO hE rfl rfl rfl (by rw [hg99]; decide) rfl fun a hE => ?_
   refine nO hE rfl rfl rfl (by rw [hg99]; decide) rfl fun a hE => ?_
   refine nO hE rfl rfl rfl (by rw [hg99]; decide) rfl fun a hE => ?_
   refine nO hE rfl rfl rfl (by rw [hg99]; decide) rfl fun a hE => ?_
   refine nO hE rfl rfl rfl (by rw [hg99]; decide) rfl fun a hE => ?_
   refine nO hE rfl rfl rfl (by rw [hg99]; decide) rfl fun a hE => ?_
   refine nO hE rfl rfl rfl (by rw [hg99]; decide) rfl fun a hE => ?_
   refine nO hE rfl rfl rfl (by rw [hg99]; decide) rfl fun a hE => ?_
   refine nO hE rfl rfl rfl (by rw [hg99]; decide) rfl fun a hE => ?_
   refine vP hS hE (Gives.pickF hE rfl hg99 rfl) rfl fun a hE => WL.nil ?_
   subst hK98
   exact ⟨false, hq93, hE.pick _ ⟨rfl, rfl, rfl, rfl, rfl, rfl, rfl, rfl, rfl, rfl, trivial⟩, hS⟩
  clear hE hS a w; rintro a w ⟨q97, rfl, hE, hS⟩
  refine W.cond hE rfl (fun hc100 => ?_) (fun hc100 => ?_)
  ·replace hr := iteT hc100 hr
   refine W.ret ?_
   refine finG (fn := Tryz.f45) (rs := []) (vs := []) hE rfl trivial ?_
   obtain rfl := Option.some.inj hr
   replace hS := hS.tail
   replace hS := hS.tail
   replace hS := hS.tail
   exact ⟨a_y3_0, c_y3_0, s90, rfl, (Sg.Le.trans hle84 hle91), h_y3_0, hz_y3_0, hS⟩
  replace hr := iteF hc100 hr
  refine W.skip ?_
  refine W.seq ?_
  refine W.seq ?_
  obtain ⟨q102, hq101, hr⟩ := bindS hr
  refine W.cut (fun a w => ∃ (q105 : Bool), ∃ (s103 : Sg), s90.Le s103 ∧ q105 = q102 ∧ Rep a 74 [(1, pp pb0), (4, pp pb3), (5, pp pb4), (8, pp pb7), (9, pp b67), (10, pp b77), (11, pp b92), (57, .bool q105)] ∧ St w s103 (pc b92 (GuideCases.cells q86).toArray 93 :: pc b77 (GuideRide.cells x68).toArray 95 :: pc b67 #[.slice a0 x0.length c0] 27 :: pc pb0 #[.slice a_y0_0 y0.Day.Trains.length c_y0_0, .slice a_y0_1 y0.Day.Turns.length c_y0_1, vi y0.least] 91 :: pc pb1 #[vi y1] 3 :: pc pb2 #[.slice a_y2_0 y2.length c_y2_0] 26 :: pc pb3 #[.slice a_y3_0 y3.length c_y3_0] 27 :: pc pb4 #[vi y4.holds, vi y4.all, vi y4.late] 93 :: pc pb5 #[vi y5] 3 :: pc pb6 #[.func (.func 40) #[] #[pp pb3, pp pb4, pp pb0]] 101 :: pc pb7 #[.func (.func 45) #[] #[pp pb0, pp pb1, pp pb2, pp pb3, pp pb4, pp pb5, pp pb6, pp pb7]] 102 :: R)) ?_ ?_
  ·refine W.gen fun K106 hK106 => ?_
   refine W.gen fun K107 hK107 => ?_
   refine W.regionE (dup (fun w => St w s90 (pc b92 (GuideCases.cells q86).toArray 93 :: pc b77 (GuideRide.cells x68).toArray 95 :: pc b67 #[.slice a0 x0.length c0] 27 :: pc pb0 #[.slice a_y0_0 y0.Day.Trains.length c_y0_0, .slice a_y0_1 y0.Day.Turns.length c_y0_1, vi y0.least] 91 :: pc pb1 #[vi y1] 3 :: pc pb2 #[.slice a_y2_0 y2.length c_y2_0] 26 :: pc pb3 #[.slice a_y3_0 y3.length c_y3_0] 27 :: pc pb4 #[vi y4.holds, vi y4.all, vi y4.late] 93 :: pc pb5 #[vi y5] 3 :: pc pb6 #[.func (.func 40) #[] #[pp pb3, pp pb4, pp pb0]] 101 :: pc pb7 #[.func (.func 45) #[] #[pp pb0, pp pb1, pp pb2, pp pb3, pp pb4, pp pb5, pp pb6, pp pb7]] 102 :: R))) (fun b i => cond b ([0, 1, 2, 3, 4, 5, 6, 7, 8, 9, 10, 11, 12].contains i) ([0, 1, 2, 3, 4, 5, 6, 7, 8, 9, 10, 11, 12].contains i)) mixed ?_
   replace hS := hS.drew
   refine tT (i := 0) true rfl hE rfl (by kernel_rfl) (Gives.loadBA hE 3 rfl rfl ty91) rfl hS hS fun a hE => ?_
   have hT := tw_sel (A := fun w => St w s90 _) (B := fun w => St w s90 _) (w := _) (x := true) (y := true) (fun _ => hS) (fun _ => hS)
   have hF := hS; replace hS := hS
   refine Rg.take (i := 1) true rfl hE rfl (by kernel_rfl) (runs_plain rfl) (Gives.loadBA hE 1 rfl rfl ty95) rfl hT fun a hE => ?_
   replace hS := hF; clear hF hT
   refine tT (i := 4) true rfl hE rfl (by kernel_rfl) (Gives.loadB hE 8 rfl rfl rfl ty3) rfl hS hS fun a hE => ?_
   refine Rg.one (i := 2) true true rfl (by kernel_rfl) (by kernel_rfl) (by kernel_rfl) ?_
   obtain ⟨q108, hq109, hq101⟩ := bindS hq101
   have hc_ := GuideNetoff_ok hS h_y0_0 h_y0_1 hq109
   refine WL.fnq hE (hc_) (runs_plain rfl) bd43 rfl rfl rfl ?_
   clear hE hS hc_; rintro e w ⟨cs110, s112, rfl, hle113, h111, hS⟩; refine ⟨_, rfl, ?_⟩; clear a; intro a hE
   replace h_y0_0 := Sl.mono RApiTrain.mono hle113 h_y0_0
   replace h_y0_1 := Sl.mono (RL.mono RI.mono) hle113 h_y0_1
   replace h0 := Sl.mono RGuideRide.mono hle113 h0
   replace h_y2_0 := Sl.mono RGuideOdds.mono hle113 h_y2_0
   replace h_y3_0 := Sl.mono RGuideRide.mono hle113 h_y3_0
   subst h111
   refine WL.nil ?_
   refine ⟨⟨fun _ => (St.down hle113 hS), fun _ => (St.down hle113 hS)⟩, ?_⟩
   refine tP (i := 3) hE rfl (by kernel_rfl) (Gives.field1 hE rfl fd99_0 ty3 rfl) rfl (St.down hle113 hS) (St.down hle113 hS) fun a hE => ?_
   refine tP (i := 5) hE rfl (by kernel_rfl) (Gives.p hE rfl) rfl (St.down hle113 hS) (St.down hle113 hS) fun a hE => ?_
   refine tP (i := 6) hE rfl (by kernel_rfl) (Gives.p hE rfl) rfl (St.down hle113 hS) (St.down hle113 hS) fun a hE => ?_
   rcases Bool.eq_false_or_eq_true (q108.Station == y5) with hg114 | hg114
   ·replace hq101 := iteT hg114 hq101
    have hT := tw_sel (A := fun w => St w s90 _) (B := fun w => St w s90 _) (w := _) (x := true) (y := true) (fun _ => (St.down hle113 hS)) (fun _ => (St.down hle113 hS))
    have hF := hS; replace hS := (St.down hle113 hS)
    refine Rg.take (i := 7) true rfl hE rfl (by kernel_rfl) (runs_if hE rfl rfl rfl hg114) (Gives.loadB hE 9 rfl rfl rfl ty101) rfl hT fun a hE => ?_
    replace hS := hF; clear hF hT
    have hT := tw_sel (A := fun w => St w s90 _) (B := fun w => St w s90 _) (w := _) (x := true) (y := true) (fun _ => (St.down hle113 hS)) (fun _ => (St.down hle113 hS))
    have hF := hS; replace hS := (St.down hle113 hS)
    refine Rg.take (i := 8) true rfl hE rfl (by kernel_rfl) (runs_if hE rfl rfl rfl hg114) (Gives.loadB hE 2 rfl rfl rfl ty27) rfl hT fun a hE => ?_
    replace hS := hF; clear hF hT
    have hT := tw_sel (A := fun w => St w s90 _) (B := fun w => St w s90 _) (w := _) (x := true) (y := true) (fun _ => (St.down hle113 hS)) (fun _ => (St.down hle113 hS))
    have hF := hS; replace hS := (St.down hle113 hS)
    refine Rg.take (i := 9) true rfl hE rfl (by kernel_rfl) (runs_if hE rfl rfl rfl hg114) (Gives.loadBA hE 0 rfl rfl ty93) rfl hT fun a hE => ?_
    replace hS := hF; clear hF hT
    refine Rg.one (i := 10) true true rfl (by kernel_rfl) (by kernel_rfl) (by kernel_rfl) ?_
    obtain ⟨q115, hq116, hq101⟩ := bindS hq101
    replace hS := hS.front 3 rfl
    replace hS := hS.front 7 rfl
    replace hS := hS.front 7 rfl
    have hc_ := GuideSurest_1_v1_ok (y1 := y4) (y2 := y0) hS h0 h_y3_0 hz_y3_0 h_y0_0 h_y0_1 hq116
    refine WL.fnw hE (hc_) rfl (runs_if hE rfl rfl rfl hg114) bd40 rfl rfl rfl ?_
    clear hE hS hc_; rintro e w ⟨rfl, hS⟩; refine ⟨_, rfl, ?_⟩; clear a; intro a hE
    refine WL.nil ?_
    refine ⟨⟨fun _ => (St.down hle113 (St.order hS [3, 3, 3, 2, 2, 2, 0, 0, 0, 0, 0] (by kernel_rfl))), fun _ => (St.down hle113 (St.order hS [3, 3, 3, 2, 2, 2, 0, 0, 0, 0, 0] (by kernel_rfl)))⟩, ?_⟩
    refine Rg.takeP (i := 11) hE rfl (by kernel_rfl) (runs_if hE rfl rfl rfl hg114) (Gives.p hE rfl) rfl (tw_sel (fun _ => (St.down hle113 (St.order hS [3, 3, 3, 2, 2, 2, 0, 0, 0, 0, 0] (by kernel_rfl)))) (fun _ => (St.down hle113 (St.order hS [3, 3, 3, 2, 2, 2, 0, 0, 0, 0, 0] (by kernel_rfl))))) fun a hE => ?_
    refine tP (i := 12) hE rfl (by kernel_rfl) (Gives.pickT hE rfl hg114 rfl) rfl (St.down hle113 (St.order hS [3, 3, 3, 2, 2, 2, 0, 0, 0, 0, 0] (by kernel_rfl))) (St.down hle113 (St.order hS [3, 3, 3, 2, 2, 2, 0, 0, 0, 0, 0] (by kernel_rfl))) fun a hE => ?_
    refine Rg.done (by kernel_rfl) ?_
    subst hK107
    replace hS := hS.order [3, 3, 3, 2, 2, 2, 0, 0, 0, 0, 0] rfl
    subst hK106
    exact ⟨decide (q115 > 0), s112, hle113, Option.some.inj hq101, hE.pick _ ⟨rfl, rfl, rfl, rfl, rfl, rfl, rfl, rfl, trivial⟩, hS⟩
   replace hq101 := iteF hg114 hq101
   refine Rg.no (i := 7) hE rfl (by kernel_rfl) (runs_not hE rfl rfl rfl (by rw [hg114]; decide)) rfl (tw_sel (fun _ => (St.down hle113 hS)) (fun _ => (St.down hle113 hS))) fun a hE => ?_
   refine Rg.no (i := 8) hE rfl (by kernel_rfl) (runs_not hE rfl rfl rfl (by rw [hg114]; decide)) rfl (tw_sel (fun _ => (St.down hle113 hS)) (fun _ => (St.down hle113 hS))) fun a hE => ?_
   refine Rg.no (i := 9) hE rfl (by kernel_rfl) (runs_not hE rfl rfl rfl (by rw [hg114]; decide)) rfl (tw_sel (fun _ => (St.down hle113 hS)) (fun _ => (St.down hle113 hS))) fun a hE => ?_
   refine Rg.one (i := 10) true true rfl (by kernel_rfl) (by kernel_rfl) (by kernel_rfl) ?_
   refine nO hE rfl rfl rfl (by rw [hg114]; decide) rfl fun a hE => WL.nil ?_
   refine ⟨⟨fun _ => (St.down hle113 hS), fun _ => (St.down hle113 hS)⟩, ?_⟩
   refine Rg.no (i := 11) hE rfl (by kernel_rfl) (runs_not hE rfl rfl rfl (by rw [hg114]; decide)) rfl (tw_sel (fun _ => (St.down hle113 hS)) (fun _ => (St.down hle113 hS))) fun a hE => ?_
   refine tP (i := 12) hE rfl (by kernel_rfl) (Gives.pickF hE rfl hg114 rfl) rfl (St.down hle113 hS) (St.down hle113 hS) fun a hE => ?_
   refine Rg.done (by kernel_rfl) ?_
   subst hK107
   subst hK106
   exact ⟨false, s112, hle113, Option.some.inj hq101, hE.pick _ ⟨rfl, rfl, rfl, rfl, rfl, rfl, rfl, rfl, trivial⟩, hS⟩
  clear hE hS a w; rintro a w ⟨q105, s103, hle104, rfl, hE, hS⟩
  replace h0 := Sl.mono RGuideRide.mono hle104 h0
  replace h_y0_0 := Sl.mono RApiTrain.mono hle104 h_y0_0
  replace h_y0_1 := Sl.mono (RL.mono RI.mono) hle104 h_y0_1
  replace h_y2_0 := Sl.mono RGuideOdds.mono hle104 h_y2_0
  replace h_y3_0 := Sl.mono RGuideRide.mono hle104 h_y3_0
  obtain ⟨q118, hq117, hr⟩ := bindS hr
  refine W.cut (fun a w => ∃ (q121 : List GuideRide), ∃ (q126 : Int), ∃ (q127 : Int), ∃ (q128 : Int), ∃ (a122 : Option Addr), ∃ (c123 : Nat), (q121, q126, q127, q128) = q118 ∧ Sl 3 RGuideRide s103 a122 c123 q121 ∧ (q121 = [] → a122 = none) ∧ Rep a 74 [(1, pp pb0), (8, pp pb7), (9, pp b67), (10, pp b77)] ∧ St w s103 (pc b92 (GuideCases.cells q86).toArray 93 :: pc b77 (GuideRide.cells x68).toArray 95 :: pc b67 #[.slice a0 x0.length c0] 27 :: pc pb0 #[.slice a_y0_0 y0.Day.Trains.length c_y0_0, .slice a_y0_1 y0.Day.Turns.length c_y0_1, vi y0.least] 91 :: pc pb1 #[vi y1] 3 :: pc pb2 #[.slice a_y2_0 y2.length c_y2_0] 26 :: pc pb3 #[.slice a122 q121.length c123] 27 :: pc pb4 #[vi q126, vi q127, vi q128] 93 :: pc pb5 #[vi y5] 3 :: pc pb6 #[.func (.func 40) #[] #[pp pb3, pp pb4, pp pb0]] 101 :: pc pb7 #[.func (.func 45) #[] #[pp pb0, pp pb1, pp pb2, pp pb3, pp pb4, pp pb5, pp pb6, pp pb7]] 102 :: R)) ?_ ?_
  ·refine W.gen fun K129 hK129 => ?_
   refine W.cond hE rfl (fun hc130 => ?_) (fun hc130 => ?_)
   ·replace hq117 := iteT hc130 hq117
    refine W.gen fun K131 hK131 => ?_
    refine W.regionE (sel (fun w => St w s103 (pc b92 (GuideCases.cells q86).toArray 93 :: pc b77 (GuideRide.cells x68).toArray 95 :: pc b67 #[.slice a0 x0.length c0] 27 :: pc pb0 #[.slice a_y0_0 y0.Day.Trains.length c_y0_0, .slice a_y0_1 y0.Day.Turns.length c_y0_1, vi y0.least] 91 :: pc pb1 #[vi y1] 3 :: pc pb2 #[.slice a_y2_0 y2.length c_y2_0] 26 :: pc pb3 #[.slice a_y3_0 y3.length c_y3_0] 27 :: pc pb4 #[vi y4.holds, vi y4.all, vi y4.late] 93 :: pc pb5 #[vi y5] 3 :: pc pb6 #[.func (.func 40) #[] #[pp pb3, pp pb4, pp pb0]] 101 :: pc pb7 #[.func (.func 45) #[] #[pp pb0, pp pb1, pp pb2, pp pb3, pp pb4, pp pb5, pp pb6, pp pb7]] 102 :: R)) (fun w => St w s103 (pc b92 (GuideCases.cells q86).toArray 93 :: pc b77 (GuideRide.cells x68).toArray 95 :: pc b67 #[.slice a0 x0.length c0] 27 :: pc pb0 #[.slice a_y0_0 y0.Day.Trains.length c_y0_0, .slice a_y0_1 y0.Day.Turns.length c_y0_1, vi y0.least] 91 :: pc pb1 #[vi y1] 3 :: pc pb2 #[.slice a_y2_0 y2.length c_y2_0] 26 :: pc pb5 #[vi y5] 3 :: pc pb6 #[.func (.func 40) #[] #[pp pb3, pp pb4, pp pb0]] 101 :: pc pb7 #[.func (.func 45) #[] #[pp pb0, pp pb1, pp pb2, pp pb3, pp pb4, pp pb5, pp pb6, pp pb7]] 102 :: R))) (fun b i => cond b ([0, 1].contains i) ([0, 1, 2, 3].contains i)) mixed ?_
    replace hS := hS.drew
    refine tT (i := 0) true rfl hE rfl (by kernel_rfl) (Gives.loadB hE 2 rfl rfl rfl ty27) rfl hS ((hS.dropAt 6).dropAt 6) fun a hE => ?_
    have hT := tw_sel (A := fun w => St w s103 _) (B := fun w => St w s103 _) (w := _) (x := true) (y := true) (fun _ => hS) (fun _ => ((hS.dropAt 6).dropAt 6))
    have hF := hS; replace hS := ((hS.dropAt 6).dropAt 6)
    refine Rg.take (i := 1) false rfl hE rfl (by kernel_rfl) (runs_plain rfl) (Gives.loadBA hE 0 rfl rfl ty93) rfl hT fun a hE => ?_
    replace hS := hF; clear hF hT
    refine Rg.one (i := 2) false true rfl (by kernel_rfl) (by kernel_rfl) (by kernel_rfl) ?_
    obtain ⟨_, hx132, hq117⟩ := bindS hq117
    refine WL.storeI hE hS 6 rfl [.slice a0 x0.length c0] (runs_plain rfl) rfl rfl rfl ty27 rfl rfl rfl rfl ?_; clear hE hS a w; intro a w hE hS
    refine WL.nil ?_
    refine ⟨⟨fun h => absurd h (by decide), fun _ => ((hS.dropAt 6).dropAt 6)⟩, ?_⟩
    refine Rg.one (i := 3) false true rfl (by kernel_rfl) (by kernel_rfl) (by kernel_rfl) ?_
    refine WL.storeI hE hS 7 rfl (GuideCases.cells q86) (runs_plain rfl) rfl rfl rfl ty93 rfl rfl rfl rfl ?_; clear hE hS a w; intro a w hE hS
    refine WL.nil ?_
    refine ⟨⟨fun h => absurd h (by decide), fun _ => ((hS.dropAt 6).dropAt 6)⟩, ?_⟩
    refine Rg.done (by kernel_rfl) ?_
    subst hK131
    subst hK129
    exact ⟨x0, q86.holds, q86.all, q86.late, a0, c0, Option.some.inj hq117, h0, (nz_some hx132), hE.pick _ ⟨rfl, rfl, rfl, rfl, trivial⟩, hS⟩
   replace hq117 := iteF hc130 hq117
   refine W.skip ?_
   subst hK129
   exact ⟨y3, y4.holds, y4.all, y4.late, a_y3_0, c_y3_0, Option.some.inj hq117, h_y3_0, hz_y3_0, hE.pick _ ⟨rfl, rfl, rfl, rfl, trivial⟩, hS⟩
  clear hE hS a w; rintro a w ⟨q121, q126, q127, q128, a122, c123, rfl, h124, hz125, hE, hS⟩
  dsimp only at hr
  refine W.seq ?_
  refine W.seq (W.region (vP hS hE (Gives.loadB hE 2 rfl rfl rfl ty27) rfl fun a hE => ?_))
  refine vP hS hE (Gives.len hE rfl sl27) rfl fun a hE => ?_
  refine vp hS hE rfl rfl fun a hE => WL.nil ?_
  refine W.cond hE rfl (fun hc133 => ?_) (fun hc133 => ?_)
  ·replace hr := iteT hc133 hr
   refine W.ret ?_
   refine finG (fn := Tryz.f45) (rs := []) (vs := []) hE rfl trivial ?_
   obtain rfl := Option.some.inj hr
   replace hS := hS.tail
   replace hS := hS.tail
   replace hS := hS.tail
   exact ⟨a122, c123, s103, rfl, (Sg.Le.trans (Sg.Le.trans hle84 hle91) hle104), h124, hz125, hS⟩
  replace hr := iteF hc133 hr
  refine W.skip ?_
  refine W.seq (W.region (vP hS hE (Gives.loadBA hE 3 rfl rfl ty91) rfl fun a hE => ?_))
  refine vP hS hE (Gives.loadBA hE 1 rfl rfl ty95) rfl fun a hE => ?_
  obtain ⟨q134, hq135, hr⟩ := bindS hr
  have hc_ := GuideNetbehind_ok hS h_y0_0 h_y0_1 hq135
  refine WL.fnq hE (hc_) (runs_plain rfl) bd47 rfl rfl rfl ?_
  clear hE hS hc_; rintro e w ⟨lb136, s138, rfl, hle139, h137, hS⟩; refine ⟨_, rfl, ?_⟩; clear a; intro a hE
  replace h0 := Sl.mono RGuideRide.mono hle139 h0
  replace h_y0_0 := Sl.mono RApiTrain.mono hle139 h_y0_0
  replace h_y0_1 := Sl.mono (RL.mono RI.mono) hle139 h_y0_1
  replace h_y2_0 := Sl.mono RGuideOdds.mono hle139 h_y2_0
  replace h124 := Sl.mono RGuideRide.mono hle139 h124
  refine WL.nil ?_
  refine W.block ?_
  obtain ⟨q141, hq140, hr⟩ := bindS hr
  refine W.cut (fun a w => ∃ (q153 : List GuideRide), ∃ (q158 : Int), ∃ (q159 : Int), ∃ (q160 : Int), ∃ (a154 : Option Addr), ∃ (c155 : Nat), ∃ (D147 : Nat) (s151 : Sg), s138.Le s151 ∧ (q153, q158, q159, q160) = q141 ∧ Sl 3 RGuideRide s151 a154 c155 q153 ∧ (q153 = [] → a154 = none) ∧ Rep a 74 [(4294967295, vi (D147 : Nat))] ∧ St w s151 (pt D147 (.deferred (some [])) :: pc b92 (GuideCases.cells q86).toArray 93 :: pc b77 (GuideRide.cells x68).toArray 95 :: pc b67 #[.slice a0 x0.length c0] 27 :: pc pb0 #[.slice a_y0_0 y0.Day.Trains.length c_y0_0, .slice a_y0_1 y0.Day.Turns.length c_y0_1, vi y0.least] 91 :: pc pb1 #[vi y1] 3 :: pc pb2 #[.slice a_y2_0 y2.length c_y2_0] 26 :: pc pb3 #[.slice a154 q153.length c155] 27 :: pc pb4 #[vi q158, vi q159, vi q160] 93 :: pc pb5 #[vi y5] 3 :: pc pb6 #[.func (.func 40) #[] #[pp pb3, pp pb4, pp pb0]] 101 :: pc pb7 #[.func (.func 45) #[] #[pp pb0, pp pb1, pp pb2, pp pb3, pp pb4, pp pb5, pp pb6, pp pb7]] 102 :: R)) ?_ ?_
  ·refine W.rangeFunc (l := q134) (ps := [66]) [] rfl hE rfl hS rfl h137 bd100 (fun _ => rfl) rfl (fun pre144 s151 Q_ => ∃ (rest143 : List GuideRide), ∃ (q153 : List GuideRide), ∃ (q158 : Int), ∃ (q159 : Int), ∃ (q160 : Int), ∃ (a154 : Option Addr), ∃ (c155 : Nat), q134 = pre144 ++ rest143 ∧ GuideSurest_2_v1.loop1 x0 y0 y1 y2 y5 self_GuideSurest_2_v1 rest143 q153 q158 q159 q160 = some q141 ∧ s138.Le s151 ∧ Sl 3 RGuideRide s151 a154 c155 q153 ∧ (q153 = [] → a154 = none) ∧ Q_ = pc b92 (GuideCases.cells q86).toArray 93 :: pc b77 (GuideRide.cells x68).toArray 95 :: pc b67 #[.slice a0 x0.length c0] 27 :: pc pb0 #[.slice a_y0_0 y0.Day.Trains.length c_y0_0, .slice a_y0_1 y0.Day.Turns.length c_y0_1, vi y0.least] 91 :: pc pb1 #[vi y1] 3 :: pc pb2 #[.slice a_y2_0 y2.length c_y2_0] 26 :: pc pb3 #[.slice a154 q153.length c155] 27 :: pc pb4 #[vi q158, vi q159, vi q160] 93 :: pc pb5 #[vi y5] 3 :: pc pb6 #[.func (.func 40) #[] #[pp pb3, pp pb4, pp pb0]] 101 :: pc pb7 #[.func (.func 45) #[] #[pp pb0, pp pb1, pp pb2, pp pb3, pp pb4, pp pb5, pp pb6, pp pb7]] 102 :: R) (fun _ _ _ => False) (fun _ _ _ h => (by obtain ⟨rest143, q153, q158, q159, q160, a154, c155, _, _, hle_, _⟩ := h; exact hle_)) ⟨q134, q121, q126, q127, q128, a122, c123, rfl, hq140, Sg.Le.refl _, h124, hz125, rfl⟩ (fun x142 (b161 : Nat) => [(8, pp pb7), (9, pp b67), (12, pp b161)]) (fun x142 (b161 : Nat) => [pc b161 (GuideRide.cells x142).toArray 95]) ?_ ?_ ?_ ?_
   ·intro x142 a w t150 R L148 hE hS
    refine W.region ?_
    refine WL.alloc hE hS (runs_plain rfl) zr95 rfl ?_; clear hE hS a w; intro b161 a w hE hS
    refine WL.storeI hE hS 0 rfl (GuideRide.cells x142) (runs_plain rfl) rfl rfl rfl ty95 rfl rfl rfl rfl ?_; clear hE hS a w; intro a w hE hS
    refine WL.nil ?_
    exact ⟨b161, hE.pick _ ⟨rfl, rfl, rfl, trivial⟩, hS⟩
   ·intro pre144 x142 b161 s151 Q_ T_ L148 a w hpre_ hI_ hE hS
    obtain ⟨rest143, q153, q158, q159, q160, a154, c155, hl145, hq140, hle152, h156, hz157, rfl⟩ := hI_
    obtain ⟨rest143, rfl⟩ := pre_next hl145 hpre_
    rw [GuideSurest_2_v1.loop1] at hq140
    replace hS : St w s151 (pc b161 (GuideRide.cells x142).toArray 95 :: pc b92 (GuideCases.cells q86).toArray 93 :: pc b77 (GuideRide.cells x68).toArray 95 :: pc b67 #[.slice a0 x0.length c0] 27 :: pc pb0 #[.slice a_y0_0 y0.Day.Trains.length c_y0_0, .slice a_y0_1 y0.Day.Turns.length c_y0_1, vi y0.least] 91 :: pc pb1 #[vi y1] 3 :: pc pb2 #[.slice a_y2_0 y2.length c_y2_0] 26 :: pc pb3 #[.slice a154 q153.length c155] 27 :: pc pb4 #[vi q158, vi q159, vi q160] 93 :: pc pb5 #[vi y5] 3 :: pc pb6 #[.func (.func 40) #[] #[pp pb3, pp pb4, pp pb0]] 101 :: pc pb7 #[.func (.func 45) #[] #[pp pb0, pp pb1, pp pb2, pp pb3, pp pb4, pp pb5, pp pb6, pp pb7]] 102 :: (R ++ T_)) := hS
    generalize hT162 : R ++ T_ = R at hS
    refine W.gen fun K163 hK163 => ?_
    replace h0 := Sl.mono RGuideRide.mono hle152 h0
    replace h_y0_0 := Sl.mono RApiTrain.mono hle152 h_y0_0
    replace h_y0_1 := Sl.mono (RL.mono RI.mono) hle152 h_y0_1
    replace h137 := Iter.mono hle152 h137
    replace h_y2_0 := Sl.mono RGuideOdds.mono hle152 h_y2_0
    replace h124 := Sl.mono RGuideRide.mono hle152 h124
    refine W.block ?_
    refine W.gen fun K164 hK164 => ?_
    refine W.regionE (sel (fun w => St w s151 (pc b161 (GuideRide.cells x142).toArray 95 :: pc b92 (GuideCases.cells q86).toArray 93 :: pc b77 (GuideRide.cells x68).toArray 95 :: pc b67 #[.slice a0 x0.length c0] 27 :: pc pb0 #[.slice a_y0_0 y0.Day.Trains.length c_y0_0, .slice a_y0_1 y0.Day.Turns.length c_y0_1, vi y0.least] 91 :: pc pb1 #[vi y1] 3 :: pc pb2 #[.slice a_y2_0 y2.length c_y2_0] 26 :: pc pb3 #[.slice a154 q153.length c155] 27 :: pc pb4 #[vi q158, vi q159, vi q160] 93 :: pc pb5 #[vi y5] 3 :: pc pb6 #[.func (.func 40) #[] #[pp pb3, pp pb4, pp pb0]] 101 :: pc pb7 #[.func (.func 45) #[] #[pp pb0, pp pb1, pp pb2, pp pb3, pp pb4, pp pb5, pp pb6, pp pb7]] 102 :: R)) (fun w => St w s151 (pc b161 (GuideRide.cells x142).toArray 95 :: pc b92 (GuideCases.cells q86).toArray 93 :: pc b77 (GuideRide.cells x68).toArray 95 :: pc b67 #[.slice a0 x0.length c0] 27 :: pc pb0 #[.slice a_y0_0 y0.Day.Trains.length c_y0_0, .slice a_y0_1 y0.Day.Turns.length c_y0_1, vi y0.least] 91 :: pc pb1 #[vi y1] 3 :: pc pb2 #[.slice a_y2_0 y2.length c_y2_0] 26 :: pc pb5 #[vi y5] 3 :: pc pb6 #[.func (.func 40) #[] #[pp pb3, pp pb4, pp pb0]] 101 :: pc pb7 #[.func (.func 45) #[] #[pp pb0, pp pb1, pp pb2, pp pb3, pp pb4, pp pb5, pp pb6, pp pb7]] 102 :: R))) (fun b i => cond b ([0, 1, 2, 3, 4, 5].contains i) ([0, 1, 2, 3, 4, 5, 6].contains i)) mixed ?_
    replace hS := hS.drew
    refine tT (i := 0) true rfl hE rfl (by kernel_rfl) (Gives.loadB hE 11 rfl rfl rfl ty102) rfl hS ((hS.dropAt 7).dropAt 7) fun a hE => ?_
    have hT := tw_sel (A := fun w => St w s151 _) (B := fun w => St w s151 _) (w := _) (x := true) (y := true) (fun _ => hS) (fun _ => ((hS.dropAt 7).dropAt 7))
    have hF := hS; replace hS := ((hS.dropAt 7).dropAt 7)
    refine Rg.take (i := 1) false rfl hE rfl (by kernel_rfl) (runs_plain rfl) (Gives.loadB hE 3 rfl rfl rfl ty27) rfl hT fun a hE => ?_
    replace hS := hF; clear hF hT
    have hT := tw_sel (A := fun w => St w s151 _) (B := fun w => St w s151 _) (w := _) (x := true) (y := true) (fun _ => hS) (fun _ => ((hS.dropAt 7).dropAt 7))
    have hF := hS; replace hS := ((hS.dropAt 7).dropAt 7)
    refine Rg.take (i := 3) false rfl hE rfl (by kernel_rfl) (runs_plain rfl) (Gives.loadBA hE 0 rfl rfl ty95) rfl hT fun a hE => ?_
    replace hS := hF; clear hF hT
    obtain ⟨q165, hq166, hq140⟩ := bindS hq140
    obtain ⟨x174, hx175, hq140⟩ := bindS hq140
    obtain ⟨q186, hq187, hq140⟩ := bindS hq140
    suffices key : ∀ s192 a188 c189 F180 (a : Act) (w : World), s151.Le s192 → Sl 4 RApiTrain s192 a_y0_0 c_y0_0 y0.Day.Trains → Sl 1 (RL 1 (RI .i64)) s192 a_y0_1 c_y0_1 y0.Day.Turns → Sl 3 RGuideOdds s192 a_y2_0 c_y2_0 y2 → Sl 3 RGuideRide s192 a188 c189 q186.1 → (q186.1 = [] → a188 = none) → Sl 3 RGuideRide s192 a0 c0 x0 → Rep a 74 [] → St w s192 (pc pb0 #[.slice a_y0_0 y0.Day.Trains.length c_y0_0, .slice a_y0_1 y0.Day.Turns.length c_y0_1, vi y0.least] 91 :: pc pb1 #[vi y1] 3 :: pc pb2 #[.slice a_y2_0 y2.length c_y2_0] 26 :: pc pb3 #[.slice a188 q186.1.length c189] 27 :: pc pb4 #[vi q186.2.1, vi q186.2.2.1, vi q186.2.2.2] 93 :: pc pb5 #[vi y5] 3 :: pc pb6 #[.func (.func 40) #[] #[pp pb3, pp pb4, pp pb0]] 101 :: pc pb7 #[.func (.func 45) #[] #[pp pb0, pp pb1, pp pb2, pp pb3, pp pb4, pp pb5, pp pb6, pp pb7]] 102 :: F180 :: pc b161 (GuideRide.cells x142).toArray 95 :: pc b92 (GuideCases.cells q86).toArray 93 :: pc b77 (GuideRide.cells x68).toArray 95 :: pc b67 #[.slice a0 x0.length c0] 27 :: R) → K164.nor a w by
     refine Rg.many 2 [4] (by kernel_rfl) ⟨?_, ?_, trivial⟩
     ·refine Br.mk (i := 2) true true rfl (by kernel_rfl) (by kernel_rfl) ?_
      have hc_ := SlicesCloneLguideRide_ok hS h0 hq166
      refine WL.fnq hE (hc_) (runs_plain rfl) bd48 rfl rfl rfl ?_
      clear hE hS hc_; rintro e w ⟨a167, c168, n169, cs170, rfl, h171, rfl, hS⟩; refine ⟨_, rfl, ?_⟩; clear a; intro a hE
      refine WL.nil ?_
      refine ⟨⟨fun _ => (hS.tail), fun _ => (((hS.tail).dropAt 7).dropAt 7)⟩, ?_⟩
      refine Rg.one (i := 4) true true rfl (by kernel_rfl) (by kernel_rfl) (by kernel_rfl) ?_
      refine WL.lit hE hS (e := 95) (es := 3) (vs := [(0, .agg (GuideRide.cells x142).toArray)]) (cs := [vi x142.Train, vi x142.On, vi x142.Off]) (runs_plain rfl) rfl (by kernel_rfl) rfl ?_; clear hE hS a w; intro b173 a w hE hS
      refine WL.nil ?_
      refine ⟨⟨fun _ => ((hS.tail).tail), fun _ => ((((hS.tail).tail).dropAt 7).dropAt 7)⟩, ?_⟩
      refine Rg.one (i := 5) true true rfl (by kernel_rfl) (by kernel_rfl) (by kernel_rfl) ?_
      refine WL.appB hE hS 0 (m := 1) (runs_plain rfl) rfl rfl rfl ap27 rfl h171 rfl (xs := [x142]) (Ev.cons (c1 := [vi x142.Train, vi x142.On, vi x142.Off]) rfl rfl (Ev.nil)) rfl rfl hx175 rfl ?_; clear hE hS a w; intro a176 c177 cs178 F180 a w h179 hb181 hE hS
      refine WL.nil ?_
      refine ⟨⟨fun _ => ((hS.tail).tail), fun _ => ((((hS.tail).tail).dropAt 7).dropAt 7)⟩, ?_⟩
      refine Rg.one (i := 6) false true rfl (by kernel_rfl) (by kernel_rfl) (by kernel_rfl) ?_
      have hF := hS.fixD RGuideRide.mono 0 rfl h179 (rfl); clear hS; obtain ⟨s183, hle184, hS, h185⟩ := hF
      replace h0 := Sl.mono RGuideRide.mono hle184 h0
      replace h_y0_0 := Sl.mono RApiTrain.mono hle184 h_y0_0
      replace h_y0_1 := Sl.mono (RL.mono RI.mono) hle184 h_y0_1
      replace h_y2_0 := Sl.mono RGuideOdds.mono hle184 h_y2_0
      replace h156 := Sl.mono RGuideRide.mono hle184 h156
      replace hS := hS.front 12 rfl
      replace hS := hS.front 12 rfl
      replace hS := hS.front 12 rfl
      replace hS := hS.front 12 rfl
      replace hS := hS.front 12 rfl
      replace hS := hS.front 12 rfl
      replace hS := hS.front 12 rfl
      replace hS := hS.front 12 rfl
      have hc_ := ih_GuideSurest_2_v1 (y0 := y0) (y4 := (GuideCases.mk q158 q159 q160)) hS h185 h_y0_0 h_y0_1 h_y2_0 h156 hz157 hq187
      refine WL.fnw hE (hc_) rfl (runs_plain rfl) bd45 rfl rfl rfl ?_
      clear hE hS hc_; rintro e w ⟨a188, c189, s192, rfl, hle193, h190, hz191, hS⟩; refine ⟨_, rfl, ?_⟩; clear a; intro a hE
      replace h0 := Sl.mono RGuideRide.mono hle193 h0
      replace h185 := Sl.mono RGuideRide.mono hle193 h185
      replace h_y0_0 := Sl.mono RApiTrain.mono hle193 h_y0_0
      replace h_y0_1 := Sl.mono (RL.mono RI.mono) hle193 h_y0_1
      replace h_y2_0 := Sl.mono RGuideOdds.mono hle193 h_y2_0
      replace h156 := Sl.mono RGuideRide.mono hle193 h156
      refine WL.nil ?_
      refine ⟨⟨fun h => absurd h (by decide), fun _ => (St.down (Sg.Le.trans hle184 hle193) (St.order (((hS.dropAt 3).dropAt 3).dropAt 6) [6, 6, 6, 6, 0, 0, 0, 0, 0, 0] (by kernel_rfl)))⟩, ?_⟩
      refine Rg.done (by kernel_rfl) ?_
      exact key _ _ _ _ _ _ (Sg.Le.trans hle184 hle193) h_y0_0 h_y0_1 h_y2_0 h190 hz191 h0 (hE.pick _ trivial) hS
     refine Br.mk (i := 4) true true rfl (by kernel_rfl) (by kernel_rfl) ?_
     refine WL.lit hE hS (e := 95) (es := 3) (vs := [(0, .agg (GuideRide.cells x142).toArray)]) (cs := [vi x142.Train, vi x142.On, vi x142.Off]) (runs_plain rfl) rfl (by kernel_rfl) rfl ?_; clear hE hS a w; intro b173 a w hE hS
     refine WL.nil ?_
     refine ⟨⟨fun _ => (hS.tail), fun _ => (((hS.tail).dropAt 7).dropAt 7)⟩, ?_⟩
     refine Rg.one (i := 2) true true rfl (by kernel_rfl) (by kernel_rfl) (by kernel_rfl) ?_
     have hc_ := SlicesCloneLguideRide_ok hS h0 hq166
     refine WL.fnq hE (hc_) (runs_plain rfl) bd48 rfl rfl rfl ?_
     clear hE hS hc_; rintro e w ⟨a167, c168, n169, cs170, rfl, h171, rfl, hS⟩; refine ⟨_, rfl, ?_⟩; clear a; intro a hE
     refine WL.nil ?_
     refine ⟨⟨fun _ => ((hS.tail).tail), fun _ => ((((hS.tail).tail).dropAt 7).dropAt 7)⟩, ?_⟩
     refine Rg.one (i := 5) true true rfl (by kernel_rfl) (by kernel_rfl) (by kernel_rfl) ?_
     replace hS := hS.front 1 rfl
     refine WL.appB hE hS 0 (m := 1) (runs_plain rfl) rfl rfl rfl ap27 rfl h171 rfl (xs := [x142]) (Ev.cons (c1 := [vi x142.Train, vi x142.On, vi x142.Off]) rfl rfl (Ev.nil)) rfl rfl hx175 rfl ?_; clear hE hS a w; intro a176 c177 cs178 F180 a w h179 hb181 hE hS
     refine WL.nil ?_
     refine ⟨⟨fun _ => ((hS.tail).tail), fun _ => ((((hS.tail).tail).dropAt 7).dropAt 7)⟩, ?_⟩
     refine Rg.one (i := 6) false true rfl (by kernel_rfl) (by kernel_rfl) (by kernel_rfl) ?_
     have hF := hS.fixD RGuideRide.mono 0 rfl h179 (rfl); clear hS; obtain ⟨s183, hle184, hS, h185⟩ := hF
     replace h0 := Sl.mono RGuideRide.mono hle184 h0
     replace h_y0_0 := Sl.mono RApiTrain.mono hle184 h_y0_0
     replace h_y0_1 := Sl.mono (RL.mono RI.mono) hle184 h_y0_1
     replace h_y2_0 := Sl.mono RGuideOdds.mono hle184 h_y2_0
     replace h156 := Sl.mono RGuideRide.mono hle184 h156
     replace hS := hS.front 12 rfl
     replace hS := hS.front 12 rfl
     replace hS := hS.front 12 rfl
     replace hS := hS.front 12 rfl
     replace hS := hS.front 12 rfl
     replace hS := hS.front 12 rfl
     replace hS := hS.front 12 rfl
     replace hS := hS.front 12 rfl
     have hc_ := ih_GuideSurest_2_v1 (y0 := y0) (y4 := (GuideCases.mk q158 q159 q160)) hS h185 h_y0_0 h_y0_1 h_y2_0 h156 hz157 hq187
     refine WL.fnw hE (hc_) rfl (runs_plain rfl) bd45 rfl rfl rfl ?_
     clear hE hS hc_; rintro e w ⟨a188, c189, s192, rfl, hle193, h190, hz191, hS⟩; refine ⟨_, rfl, ?_⟩; clear a; intro a hE
     replace h0 := Sl.mono RGuideRide.mono hle193 h0
     replace h185 := Sl.mono RGuideRide.mono hle193 h185
     replace h_y0_0 := Sl.mono RApiTrain.mono hle193 h_y0_0
     replace h_y0_1 := Sl.mono (RL.mono RI.mono) hle193 h_y0_1
     replace h_y2_0 := Sl.mono RGuideOdds.mono hle193 h_y2_0
     replace h156 := Sl.mono RGuideRide.mono hle193 h156
     refine WL.nil ?_
     refine ⟨⟨fun h => absurd h (by decide), fun _ => (St.down (Sg.Le.trans hle184 hle193) (St.order (((hS.dropAt 3).dropAt 3).dropAt 6) [6, 6, 6, 6, 0, 0, 0, 0, 0, 0] (by kernel_rfl)))⟩, ?_⟩
     refine Rg.done (by kernel_rfl) ?_
     exact key _ _ _ _ _ _ (Sg.Le.trans hle184 hle193) h_y0_0 h_y0_1 h_y2_0 h190 hz191 h0 (hE.pick _ trivial) hS
    clear hE hS a w; intro s192 a188 c189 F180 a w hle194 h_y0_0 h_y0_1 h_y2_0 h190 hz191 h0 hE hS
    subst hK164
    replace hS := hS.dropAt 8
    replace hS := hS.dropAt 8
    replace hS := hS.order [8, 8, 8, 0, 0, 0, 0, 0, 0, 0, 0] rfl
    subst hK163
    subst hT162
    exact ⟨s192, _, ⟨rest143, q186.1, q186.2.1, q186.2.2.1, q186.2.2.2, a188, c189, hl145.trans (by simp), hq140, (Sg.Le.trans hle152 hle194), h190, hz191, rfl⟩, hS⟩
   ·intro s151 Q_ D147 a w hI_ hE hS
    obtain ⟨rest143, q153, q158, q159, q160, a154, c155, hl145, hq140, hle152, h156, hz157, rfl⟩ := hI_
    obtain rfl := pre_end hl145
    rw [GuideSurest_2_v1.loop1] at hq140
    exact ⟨q153, q158, q159, q160, _, _, D147, s151, hle152, Option.some.inj hq140, h156, hz157, hE.pick _ ⟨rfl, trivial⟩, hS⟩
   exact fun _ _ _ _ _ _ _ h => h.elim
  clear hE hS a w; rintro a w ⟨q153, q158, q159, q160, a154, c155, D147, s151, hle152, rfl, h156, hz157, hE, hS⟩
  dsimp only at hr
  replace h0 := Sl.mono RGuideRide.mono hle152 h0
  replace h_y0_0 := Sl.mono RApiTrain.mono hle152 h_y0_0
  replace h_y0_1 := Sl.mono (RL.mono RI.mono) hle152 h_y0_1
  replace h137 := Iter.mono hle152 h137
  replace h_y2_0 := Sl.mono RGuideOdds.mono hle152 h_y2_0
  replace h124 := Sl.mono RGuideRide.mono hle152 h124
  refine finGM (fn := Tryz.f45) (rs := []) (vs := []) hE hS 0 rfl rfl ?_
  clear hS; intro w hS
  refine ⟨trivial, ?_⟩
  obtain rfl := Option.some.inj hr
  replace hS := hS.tail
  replace hS := hS.tail
  replace hS := hS.tail
  exact ⟨a154, c155, s151, rfl, (Sg.Le.trans (Sg.Le.trans (Sg.Le.trans (Sg.Le.trans hle84 hle91) hle104) hle139) hle152), h156, hz157, hS⟩
set_option maxHeartbeats 8000000 in
theorem GuideSurest_ok {fu : Nat}  {w : World} {s : Sg} {R : List HP} {x0 : ApiDay} {a0_0 : Option Addr} {c0_0 : Nat} {a0_1 : Option Addr} {c0_1 : Nat} {x1 : Int} {x2 : Int} {x3 : Int} {x4 : Int} {x5 : Int} {x6 : List GuideOdds} {a6 : Option Addr} {c6 : Nat} (hS : St w s (R)) (hTab : TabS Tryz.prog s) (h0_0 : Sl 4 RApiTrain s a0_0 c0_0 x0.Trains) (h0_1 : Sl 1 (RL 1 (RI .i64)) s a0_1 c0_1 x0.Turns) (h6 : Sl 3 RGuideOdds s a6 c6 x6) {r : GuideJourney × Int} (hr : GuideSurest fu x0 x1 x2 x3 x4 x5 x6 = some r) :
  Calls Tryz.prog 7 [.agg [.slice a0_0 x0.Trains.length c0_0, .slice a0_1 x0.Turns.length c0_1].toArray, vi x1, vi x2, vi x3, vi x4, vi x5, .slice a6 x6.length c6].toArray w (fun e w => ∃ (cs0 : List Value) (t : Sg), e = .returned (.tuple #[.agg cs0.toArray, vi r.2]) ∧ s.Le t ∧ RGuideJourney t cs0 r.1 ∧ St w t (R)) := by
 refine enter Tryz.func7 rfl rfl rfl fun a hE => ?_
 rw [GuideSurest] at hr
 refine W.seq (W.region ?_)
 refine WL.box hE hS (runs_plain rfl) rfl rfl rfl ?_; clear hE hS a w; intro b51 a w hE hS
 refine WL.box hE hS (runs_plain rfl) rfl rfl rfl ?_; clear hE hS a w; intro b52 a w hE hS
 refine WL.box hE hS (runs_plain rfl) rfl rfl rfl ?_; clear hE hS a w; intro b53 a w hE hS
 refine WL.box hE hS (runs_plain rfl) rfl rfl rfl ?_; clear hE hS a w; intro b54 a w hE hS
 refine WL.alloc hE hS (runs_plain rfl) zr29 rfl ?_; clear hE hS a w; intro b55 a w hE hS
 refine vp hS hE rfl rfl fun a hE => WL.nil ?_
 refine W.seq ?_
 refine W.seq (W.region (vP hS hE (Gives.loadBA hE 4 rfl rfl ty25) rfl fun a hE => ?_))
 refine v2 hS hE rfl rfl rfl rfl fun a hE => ?_
 refine vP hS hE (Gives.loadB hE 3 rfl rfl rfl ty3) rfl fun a hE => ?_
 refine vp hS hE rfl rfl fun a hE => ?_
 refine vP hS hE (Gives.loadB hE 2 rfl rfl rfl ty3) rfl fun a hE => ?_
 refine WL.lit hE hS (e := 3) (es := 1) (vs := [(0, vi x2), (1, vi x4)]) (cs := [vi x2, vi x4]) (runs_plain rfl) rfl (by kernel_rfl) rfl ?_; clear hE hS a w; intro b56 a w hE hS
 replace hS := hS.ptVec (es := 1) (m := 2) rfl (by decide)
 have h58 : Ev 1 (RI .i64) s [vi x2, vi x4] [x2, x4] := (Ev.cons (c1 := [vi x2]) rfl rfl (Ev.cons (c1 := [vi x4]) rfl rfl (Ev.nil)))
 have hF := hS.fixD RI.mono 0 rfl h58 (rfl); clear hS; obtain ⟨s59, hle60, hS, h61⟩ := hF
 replace h0_0 := Sl.mono RApiTrain.mono hle60 h0_0
 replace h0_1 := Sl.mono (RL.mono RI.mono) hle60 h0_1
 replace h6 := Sl.mono RGuideOdds.mono hle60 h6
 obtain ⟨q62, hq63, hr⟩ := bindS hr
 have hc_ := Guidecheck_ok hS (TabS.mono hle60 hTab) h0_0 h0_1 h61 hq63
 refine WL.fnq hE (hc_) (runs_plain rfl) bd38 rfl rfl rfl ?_
 clear hE hS hc_; rintro e w ⟨rfl, hS⟩; refine ⟨_, rfl, ?_⟩; clear a; intro a hE
 refine vp hS hE rfl rfl fun a hE => WL.nil ?_
 refine W.seq (W.region (v2 hS hE rfl rfl rfl rfl fun a hE => WL.nil ?_))
 refine W.cond hE rfl (fun hc64 => ?_) (fun hc64 => ?_)
 ·replace hr := iteT hc64 hr
  refine W.seq (W.region (vP hS hE (Gives.build hE (vs := []) [.slice none 0 0] rfl (by kernel_rfl)) rfl fun a hE => ?_))
  refine vp hS hE rfl rfl fun a hE => ?_
  refine WL.storeI hE hS 0 rfl [.slice none 0 0] (runs_plain rfl) rfl rfl rfl ty29 rfl rfl rfl rfl ?_; clear hE hS a w; intro a w hE hS
  refine vp hS hE rfl rfl fun a hE => WL.nil ?_
  refine W.ret ?_
  refine finG (fn := Tryz.f7) (rs := [.cell 14 29, .tmp 15]) (vs := [_, _]) hE rfl ⟨⟨_, rfl, .inl ⟨_, rfl, hS.seesAt 0 rfl, ty29⟩⟩, rfl, trivial⟩ ?_
  obtain rfl := Option.some.inj hr
  replace hS := hS.tail
  replace hS := hS.tail
  replace hS := hS.tail
  replace hS := hS.tail
  replace hS := hS.tail
  exact ⟨_, s59, rfl, hle60, ⟨_, _, rfl, Sl.nil⟩, hS⟩
 replace hr := iteF hc64 hr
 refine W.skip ?_
 refine W.seq ?_
 refine W.seq (W.region (vP hS hE (Gives.loadBA hE 4 rfl rfl ty25) rfl fun a hE => ?_))
 refine vP hS hE (Gives.loadB hE 1 rfl rfl rfl ty26) rfl fun a hE => ?_
 obtain ⟨q65, hq66, hr⟩ := bindS hr
 have hc_ := GuidecheckOdds_ok hS h0_0 h0_1 h6 hq66
 refine WL.fnq hE (hc_) (runs_plain rfl) bd39 rfl rfl rfl ?_
 clear hE hS hc_; rintro e w ⟨rfl, hS⟩; refine ⟨_, rfl, ?_⟩; clear a; intro a hE
 refine vp hS hE rfl rfl fun a hE => WL.nil ?_
 refine W.seq (W.region (v2 hS hE rfl rfl rfl rfl fun a hE => WL.nil ?_))
 refine W.cond hE rfl (fun hc67 => ?_) (fun hc67 => ?_)
 ·replace hr := iteT hc67 hr
  refine W.seq (W.region (vP hS hE (Gives.build hE (vs := []) [.slice none 0 0] rfl (by kernel_rfl)) rfl fun a hE => ?_))
  refine vp hS hE rfl rfl fun a hE => ?_
  refine WL.storeI hE hS 0 rfl [.slice none 0 0] (runs_plain rfl) rfl rfl rfl ty29 rfl rfl rfl rfl ?_; clear hE hS a w; intro a w hE hS
  refine vp hS hE rfl rfl fun a hE => WL.nil ?_
  refine W.ret ?_
  refine finG (fn := Tryz.f7) (rs := [.cell 14 29, .tmp 15]) (vs := [_, _]) hE rfl ⟨⟨_, rfl, .inl ⟨_, rfl, hS.seesAt 0 rfl, ty29⟩⟩, rfl, trivial⟩ ?_
  obtain rfl := Option.some.inj hr
  replace hS := hS.tail
  replace hS := hS.tail
  replace hS := hS.tail
  replace hS := hS.tail
  replace hS := hS.tail
  exact ⟨_, s59, rfl, hle60, ⟨_, _, rfl, Sl.nil⟩, hS⟩
 replace hr := iteF hc67 hr
 refine W.skip ?_
 refine W.seq (W.region (vP hS hE (Gives.loadBA hE 4 rfl rfl ty25) rfl fun a hE => ?_))
 refine vp hS hE rfl rfl fun a hE => ?_
 refine vP hS hE (Gives.build hE (vs := [(0, .agg [.slice a0_0 x0.Trains.length c0_0, .slice a0_1 x0.Turns.length c0_1].toArray), (1, vi x5)]) [.slice a0_0 x0.Trains.length c0_0, .slice a0_1 x0.Turns.length c0_1, vi x5] rfl (by kernel_rfl)) rfl fun a hE => ?_
 refine WL.alloc hE hS (runs_plain rfl) zr91 rfl ?_; clear hE hS a w; intro b68 a w hE hS
 refine WL.storeI hE hS 0 rfl [.slice a0_0 x0.Trains.length c0_0, .slice a0_1 x0.Turns.length c0_1, vi x5] (runs_plain rfl) rfl rfl rfl ty91 rfl rfl rfl rfl ?_; clear hE hS a w; intro a w hE hS
 refine WL.nil ?_
 refine W.seq (W.region ?_)
 refine WL.alloc hE hS (runs_plain rfl) zr27 rfl ?_; clear hE hS a w; intro b69 a w hE hS
 refine WL.nil ?_
 refine W.seq (W.region ?_)
 refine WL.alloc hE hS (runs_plain rfl) zr93 rfl ?_; clear hE hS a w; intro b70 a w hE hS
 refine WL.nil ?_
 refine W.seq (W.region (vP hS hE (Gives.mkfn hE (vs := [pp b69, pp b70, pp b68]) rfl) rfl fun a hE => ?_))
 refine WL.alloc hE hS (runs_plain rfl) zr101 rfl ?_; clear hE hS a w; intro b71 a w hE hS
 refine WL.storeI hE hS 0 rfl [.func (.func 40) #[] #[pp b69, pp b70, pp b68]] (runs_plain rfl) rfl rfl rfl ty101 rfl rfl rfl rfl ?_; clear hE hS a w; intro a w hE hS
 refine WL.nil ?_
 refine W.seq (W.region ?_)
 refine WL.alloc hE hS (runs_plain rfl) zr102 rfl ?_; clear hE hS a w; intro b72 a w hE hS
 refine WL.nil ?_
 refine W.seq (W.region (vP hS hE (Gives.mkfn hE (vs := [pp b68, pp b53, pp b54, pp b69, pp b70, pp b52, pp b71, pp b72]) rfl) rfl fun a hE => ?_))
 refine WL.storeI hE hS 0 rfl [.func (.func 45) #[] #[pp b68, pp b53, pp b54, pp b69, pp b70, pp b52, pp b71, pp b72]] (runs_plain rfl) rfl rfl rfl ty102 rfl rfl rfl rfl ?_; clear hE hS a w; intro a w hE hS
 refine WL.nil ?_
 refine W.seq ?_
 refine W.seq (W.region (vP hS hE (Gives.loadBA hE 4 rfl rfl ty91) rfl fun a hE => ?_))
 refine v2 hS hE rfl rfl rfl rfl fun a hE => ?_
 obtain ⟨q73, hq74, hr⟩ := bndS hr
 have hc_ := GuideNetrides_ok hS h0_0 h0_1 hq74
 refine WL.fnq hE (hc_) (runs_plain rfl) bd49 rfl rfl rfl ?_
 clear hE hS hc_; rintro e w ⟨lb75, s77, rfl, hle78, h76, hS⟩; refine ⟨_, rfl, ?_⟩; clear a; intro a hE
 replace h0_0 := Sl.mono RApiTrain.mono hle78 h0_0
 replace h0_1 := Sl.mono (RL.mono RI.mono) hle78 h0_1
 replace h6 := Sl.mono RGuideOdds.mono hle78 h6
 replace h61 := Sl.mono RI.mono hle78 h61
 refine WL.nil ?_
 refine W.block ?_
 obtain ⟨q80, hq79, hr⟩ := bindS hr
 refine W.cut (fun a w => ∃ (q92 : List GuideRide), ∃ (q97 : Int), ∃ (q98 : Int), ∃ (q99 : Int), ∃ (a93 : Option Addr), ∃ (c94 : Nat), ∃ (D86 : Nat) (s90 : Sg), s77.Le s90 ∧ (q92, q97, q98, q99) = q80 ∧ Sl 3 RGuideRide s90 a93 c94 q92 ∧ (q92 = [] → a93 = none) ∧ Rep a 62 [(14, pp b55), (19, pp b69), (4294967295, vi (D86 : Nat))] ∧ St w s90 (pt D86 (.deferred (some [])) :: pc b72 #[.func (.func 45) #[] #[pp b68, pp b53, pp b54, pp b69, pp b70, pp b52, pp b71, pp b72]] 102 :: pc b71 #[.func (.func 40) #[] #[pp b69, pp b70, pp b68]] 101 :: pc b70 #[vi q97, vi q98, vi q99] 93 :: pc b69 #[.slice a93 q92.length c94] 27 :: pc b68 #[.slice a0_0 x0.Trains.length c0_0, .slice a0_1 x0.Turns.length c0_1, vi x5] 91 :: pc b55 #[.slice none 0 0] 29 :: pc b54 #[.slice a6 x6.length c6] 26 :: pc b53 #[vi x4] 3 :: pc b52 #[vi x3] 3 :: pc b51 #[.slice a0_0 x0.Trains.length c0_0, .slice a0_1 x0.Turns.length c0_1] 25 :: R)) ?_ ?_
 ·refine W.rangeFunc (l := q73) (ps := [52]) [] rfl hE rfl hS rfl h76 bd100 (fun _ => rfl) rfl (fun pre83 s90 Q_ => ∃ (rest82 : List GuideRide), ∃ (q92 : List GuideRide), ∃ (q97 : Int), ∃ (q98 : Int), ∃ (q99 : Int), ∃ (a93 : Option Addr), ∃ (c94 : Nat), q73 = pre83 ++ rest82 ∧ GuideSurest.loop1 x0 x3 x4 x5 x6 fu rest82 q92 q97 q98 q99 = some q80 ∧ s77.Le s90 ∧ Sl 3 RGuideRide s90 a93 c94 q92 ∧ (q92 = [] → a93 = none) ∧ Q_ = pc b72 #[.func (.func 45) #[] #[pp b68, pp b53, pp b54, pp b69, pp b70, pp b52, pp b71, pp b72]] 102 :: pc b71 #[.func (.func 40) #[] #[pp b69, pp b70, pp b68]] 101 :: pc b70 #[vi q97, vi q98, vi q99] 93 :: pc b69 #[.slice a93 q92.length c94] 27 :: pc b68 #[.slice a0_0 x0.Trains.length c0_0, .slice a0_1 x0.Turns.length c0_1, vi x5] 91 :: pc b55 #[.slice none 0 0] 29 :: pc b54 #[.slice a6 x6.length c6] 26 :: pc b53 #[vi x4] 3 :: pc b52 #[vi x3] 3 :: pc b51 #[.slice a0_0 x0.Trains.length c0_0, .slice a0_1 x0.Turns.length c0_1] 25 :: R) (fun _ _ _ => False) (fun _ _ _ h => (by obtain ⟨rest82, q92, q97, q98, q99, a93, c94, _, _, hle_, _⟩ := h; exact hle_)) ⟨q73, [], 0, 0, 0, none, 0, rfl, hq79, Sg.Le.refl _, Sl.nil, (fun _ => rfl), rfl⟩ (fun x81 (b100 : Nat) => [(22, pp b72), (23, pp b100)]) (fun x81 (b100 : Nat) => [pc b100 (GuideRide.cells x81).toArray 95]) ?_ ?_ ?_ ?_
  ·intro x81 a w t89 R L87 hE hS
   refine W.region ?_
   refine WL.alloc hE hS (runs_plain rfl) zr95 rfl ?_; clear hE hS a w; intro b100 a w hE hS
   refine WL.storeI hE hS 0 rfl (GuideRide.cells x81) (runs_plain rfl) rfl rfl rfl ty95 rfl rfl rfl rfl ?_; clear hE hS a w; intro a w hE hS
   refine WL.nil ?_
   exact ⟨b100, hE.pick _ ⟨rfl, rfl, trivial⟩, hS⟩
  ·intro pre83 x81 b100 s90 Q_ T_ L87 a w hpre_ hI_ hE hS
   obtain ⟨rest82, q92, q97, q98, q99, a93, c94, hl84, hq79, hle91, h95, hz96, rfl⟩ := hI_
   obtain ⟨rest82, rfl⟩ := pre_next hl84 hpre_
   rw [GuideSurest.loop1] at hq79
   replace hS : St w s90 (pc b100 (GuideRide.cells x81).toArray 95 :: pc b72 #[.func (.func 45) #[] #[pp b68, pp b53, pp b54, pp b69, pp b70, pp b52, pp b71, pp b72]] 102 :: pc b71 #[.func (.func 40) #[] #[pp b69, pp b70, pp b68]] 101 :: pc b70 #[vi q97, vi q98, vi q99] 93 :: pc b69 #[.slice a93 q92.length c94] 27 :: pc b68 #[.slice a0_0 x0.Trains.length c0_0, .slice a0_1 x0.Turns.length c0_1, vi x5] 91 :: pc b55 #[.slice none 0 0] 29 :: pc b54 #[.slice a6 x6.length c6] 26 :: pc b53 #[vi x4] 3 :: pc b52 #[vi x3] 3 :: pc b51 #[.slice a0_0 x0.Trains.length c0_0, .slice a0_1 x0.Turns.length c0_1] 25 :: (R ++ T_)) := hS
   generalize hT101 : R ++ T_ = R at hS
   refine W.gen fun K102 hK102 => ?_
   replace h0_0 := Sl.mono RApiTrain.mono hle91 h0_0
   replace h0_1 := Sl.mono (RL.mono RI.mono) hle91 h0_1
   replace h6 := Sl.mono RGuideOdds.mono hle91 h6
   replace h61 := Sl.mono RI.mono hle91 h61
   replace h76 := Iter.mono hle91 h76
   refine W.block ?_
   refine W.region ?_
   refine vP hS hE (Gives.loadB hE 1 rfl rfl rfl ty102) rfl fun a hE => ?_
   refine vP hS hE (Gives.loadBA hE 0 rfl rfl ty95) rfl fun a hE => ?_
   refine WL.lit hE hS (e := 95) (es := 3) (vs := [(0, .agg (GuideRide.cells x81).toArray)]) (cs := [vi x81.Train, vi x81.On, vi x81.Off]) (runs_plain rfl) rfl (by kernel_rfl) rfl ?_; clear hE hS a w; intro b103 a w hE hS
   replace hS := hS.ptVec (es := 3) (m := 1) rfl (by decide)
   have h105 : Ev 3 RGuideRide s90 [vi x81.Train, vi x81.On, vi x81.Off] [x81] := (Ev.cons (c1 := [vi x81.Train, vi x81.On, vi x81.Off]) rfl rfl (Ev.nil))
   have hF := hS.fixD RGuideRide.mono 0 rfl h105 (rfl); clear hS; obtain ⟨s106, hle107, hS, h108⟩ := hF
   replace h95 := Sl.mono RGuideRide.mono hle107 h95
   replace h0_0 := Sl.mono RApiTrain.mono hle107 h0_0
   replace h0_1 := Sl.mono (RL.mono RI.mono) hle107 h0_1
   replace h6 := Sl.mono RGuideOdds.mono hle107 h6
   obtain ⟨q109, hq110, hq79⟩ := bindS hq79
   replace hS := hS.front 1 rfl
   replace hS := hS.front 2 rfl
   replace hS := hS.front 9 rfl
   replace hS := hS.front 4 rfl
   replace hS := hS.front 5 rfl
   replace hS := hS.front 8 rfl
   replace hS := hS.front 9 rfl
   replace hS := hS.front 8 rfl
   have hc_ := GuideSurest_2_v1_ok (y0 := (GuideNet.mk x0 x5)) (y4 := (GuideCases.mk q97 q98 q99)) hS h108 h0_0 h0_1 h6 h95 hz96 hq110
   refine WL.fnw hE (hc_) rfl (runs_plain rfl) bd45 rfl rfl rfl ?_
   clear hE hS hc_; rintro e w ⟨a111, c112, s115, rfl, hle116, h113, hz114, hS⟩; refine ⟨_, rfl, ?_⟩; clear a; intro a hE
   replace h108 := Sl.mono RGuideRide.mono hle116 h108
   replace h0_0 := Sl.mono RApiTrain.mono hle116 h0_0
   replace h0_1 := Sl.mono (RL.mono RI.mono) hle116 h0_1
   replace h6 := Sl.mono RGuideOdds.mono hle116 h6
   replace h95 := Sl.mono RGuideRide.mono hle116 h95
   refine WL.nil ?_
   replace hS := hS.dropAt 8
   replace hS := hS.order [7, 6, 4, 3, 0, 3, 1, 0, 0, 0] rfl
   subst hK102
   subst hT101
   exact ⟨s115, _, ⟨rest82, q109.1, q109.2.1, q109.2.2.1, q109.2.2.2, a111, c112, hl84.trans (by simp), hq79, (Sg.Le.trans (Sg.Le.trans hle91 hle107) hle116), h113, hz114, rfl⟩, hS⟩
  ·intro s90 Q_ D86 a w hI_ hE hS
   obtain ⟨rest82, q92, q97, q98, q99, a93, c94, hl84, hq79, hle91, h95, hz96, rfl⟩ := hI_
   obtain rfl := pre_end hl84
   rw [GuideSurest.loop1] at hq79
   exact ⟨q92, q97, q98, q99, _, _, D86, s90, hle91, Option.some.inj hq79, h95, hz96, hE.pick _ ⟨rfl, rfl, rfl, trivial⟩, hS⟩
  exact fun _ _ _ _ _ _ _ h => h.elim
 clear hE hS a w; rintro a w ⟨q92, q97, q98, q99, a93, c94, D86, s90, hle91, rfl, h95, hz96, hE, hS⟩
 dsimp only at hr
 replace h0_0 := Sl.mono RApiTrain.mono hle91 h0_0
 replace h0_1 := Sl.mono (RL.mono RI.mono) hle91 h0_1
 replace h6 := Sl.mono RGuideOdds.mono hle91 h6
 replace h61 := Sl.mono RI.mono hle91 h61
 replace h76 := Iter.mono hle91 h76
 refine W.seq ?_
 refine W.seq (W.region (vP hS hE (Gives.loadB hE 4 rfl rfl rfl ty27) rfl fun a hE => ?_))
 refine vP hS hE (Gives.isNilZ hE (isNone_eq h95 hz96) rfl rfl isl27) rfl fun a hE => WL.nil ?_
 refine W.cond hE rfl (fun hc117 => ?_) (fun hc117 => ?_)
 ·replace hr := iteT hc117 hr
  refine W.seq (W.region (vP hS hE (Gives.build hE (vs := []) [.slice none 0 0] rfl (by kernel_rfl)) rfl fun a hE => ?_))
  refine WL.storeI hE hS 6 rfl [.slice none 0 0] (runs_plain rfl) rfl rfl rfl ty29 rfl rfl rfl rfl ?_; clear hE hS a w; intro a w hE hS
  refine vp hS hE rfl rfl fun a hE => WL.nil ?_
  refine W.ret ?_
  refine finGM (fn := Tryz.f7) (rs := [.cell 14 29, .tmp 15]) (vs := [.agg #[.slice none 0 0], vi 9]) hE hS 0 rfl rfl ?_
  clear hS; intro w hS
  refine ⟨⟨⟨_, rfl, .inl ⟨_, rfl, hS.seesAt 5 rfl, ty29⟩⟩, rfl, trivial⟩, ?_⟩
  obtain rfl := Option.some.inj hr
  replace hS := hS.tail
  replace hS := hS.tail
  replace hS := hS.tail
  replace hS := hS.tail
  replace hS := hS.tail
  replace hS := hS.tail
  replace hS := hS.tail
  replace hS := hS.tail
  replace hS := hS.tail
  replace hS := hS.tail
  exact ⟨_, s90, rfl, (Sg.Le.trans (Sg.Le.trans hle60 hle78) hle91), ⟨_, _, rfl, Sl.nil⟩, hS⟩
 replace hr := iteF hc117 hr
 refine W.skip ?_
 refine W.seq (W.region (vP hS hE (Gives.loadB hE 4 rfl rfl rfl ty27) rfl fun a hE => ?_))
 refine vP hS hE (Gives.build hE (vs := [(0, .slice a93 q92.length c94)]) [.slice a93 q92.length c94] rfl (by kernel_rfl)) rfl fun a hE => ?_
 refine WL.storeI hE hS 6 rfl [.slice a93 q92.length c94] (runs_plain rfl) rfl rfl rfl ty29 rfl rfl rfl rfl ?_; clear hE hS a w; intro a w hE hS
 refine vp hS hE rfl rfl fun a hE => WL.nil ?_
 refine W.ret ?_
 refine finGM (fn := Tryz.f7) (rs := [.cell 14 29, .tmp 15]) (vs := [.agg #[.slice a93 q92.length c94], vi 0]) hE hS 0 rfl rfl ?_
 clear hS; intro w hS
 refine ⟨⟨⟨_, rfl, .inl ⟨_, rfl, hS.seesAt 5 rfl, ty29⟩⟩, rfl, trivial⟩, ?_⟩
 obtain rfl := Option.some.inj hr
 replace hS := hS.tail
 replace hS := hS.tail
 replace hS := hS.tail
 replace hS := hS.tail
 replace hS := hS.tail
 replace hS := hS.tail
 replace hS := hS.tail
 replace hS := hS.tail
 replace hS := hS.tail
 replace hS := hS.tail
 exact ⟨_, s90, rfl, (Sg.Le.trans (Sg.Le.trans hle60 hle78) hle91), ⟨_, _, rfl, h95⟩, hS⟩
set_option maxHeartbeats 8000000 in
theorem Fishref2numbersIn_ok  {w : World} {s : Sg} {R : List HP} {x0 : ApiDay} {a0_0 : Option Addr} {c0_0 : Nat} {a0_1 : Option Addr} {c0_1 : Nat} (hS : St w s (R)) (h0_0 : Sl 4 RApiTrain s a0_0 c0_0 x0.Trains) (h0_1 : Sl 1 (RL 1 (RI .i64)) s a0_1 c0_1 x0.Turns) {r : (List (List Int))} (hr : Fishref2numbersIn x0 = some r) :
  Calls Tryz.prog 101 [.agg [.slice a0_0 x0.Trains.length c0_0, .slice a0_1 x0.Turns.length c0_1].toArray].toArray w (fun e w => ∃ (a0 : Option Addr) (c0 n0 : Nat) (cs0 : List Value) (t : Sg), e = .returned (.slice a0 n0 c0) ∧ s.Le t ∧ Ev 1 (RL 1 (RI .i64)) t cs0 r ∧ r.length = n0 ∧ St w t (vecC 65 1 a0 c0 n0 cs0 :: R)) := by
 refine enter Tryz.func101 rfl rfl rfl fun a hE => ?_
 rw [Fishref2numbersIn] at hr
 refine W.seq (W.region ?_)
 refine WL.box hE hS (runs_plain rfl) rfl rfl rfl ?_; clear hE hS a w; intro b51 a w hE hS
 refine vp hS hE rfl rfl fun a hE => WL.nil ?_
 refine W.seq (W.region ?_)
 replace hS := hS.vecNil 65 1
 refine vp hS hE rfl rfl fun a hE => WL.nil ?_
 refine W.seq ?_
 refine W.seq (W.region (vP hS hE (Gives.fld hE rfl fl25_0) rfl fun a hE => ?_))
 refine vP hS hE (Gives.loadB hE 1 rfl rfl rfl ty22) rfl fun a hE => ?_
 refine vP hS hE (Gives.len hE rfl sl22) rfl fun a hE => ?_
 refine vp hS hE rfl rfl fun a hE => WL.nil ?_
 obtain ⟨q54, hq53, hr⟩ := bindS hr
 refine W.cut (fun a w => ∃ (q64 : List (List Int)), ∃ (a65 : Option Addr), ∃ (c66 : Nat), ∃ (n68 : Nat), ∃ (cs69 : List Value), ∃ (s62 : Sg), s.Le s62 ∧ q64 = q54 ∧ Ev 1 (RL 1 (RI .i64)) s62 cs69 q64 ∧ q64.length = n68 ∧ Rep a 52 [(1, pp b51), (3, .slice a65 n68 c66)] ∧ St w s62 (vecC 65 1 a65 c66 n68 cs69 :: pc b51 #[.slice a0_0 x0.Trains.length c0_0, .slice a0_1 x0.Turns.length c0_1] 25 :: R)) ?_ ?_
 ·refine W.block ?_
  refine W.loop (fun m a w => ∃ (rest57 : List ApiTrain) (k55 : Nat), ∃ (q64 : List (List Int)), ∃ (a65 : Option Addr), ∃ (c66 : Nat), ∃ (n68 : Nat), ∃ (cs69 : List Value), ∃ (s62 : Sg), rest57.length = m ∧ x0.Trains.drop k55 = rest57 ∧ s.Le s62 ∧ Fishref2numbersIn.loop1 rest57 q64 = some q54 ∧ Ev 1 (RL 1 (RI .i64)) s62 cs69 q64 ∧ q64.length = n68 ∧ Rep a 52 [(1, pp b51), (3, .slice a65 n68 c66), (9, .slice a0_0 x0.Trains.length c0_0), (10, vi ((x0.Trains).length : Int)), (11, vi ((k55 : Nat) : Int))] ∧ St w s62 (vecC 65 1 a65 c66 n68 cs69 :: pc b51 #[.slice a0_0 x0.Trains.length c0_0, .slice a0_1 x0.Turns.length c0_1] 25 :: R)) (m := x0.Trains.length) ⟨x0.Trains, 0, [], none, 0, 0, [], s, rfl, rfl, (Sg.Le.refl _), hq53, (Ev.nil), (rfl), hE.pick _ ⟨rfl, rfl, rfl, rfl, rfl, trivial⟩, hS⟩ ?_
  clear hE hS a w hq53; rintro m61 a w ⟨rest57, k55, q64, a65, c66, n68, cs69, s62, rfl, hd58, hle63, hq53, h67, rfl, hE, hS⟩
  refine W.gen fun K71 hK71 => ?_
  replace h0_0 := Sl.mono RApiTrain.mono hle63 h0_0
  replace h0_1 := Sl.mono (RL.mono RI.mono) hle63 h0_1
  rcases rest57 with _ | ⟨x56, rest57⟩
  ·have hlt59 := drop_nil hd58
   refine W.seq (W.region (vp hS hE rfl rfl fun a hE => WL.nil ?_))
   refine W.seq ?_
   refine W.condF hE rfl (decide_eq_false (by omega)) ?_
   subst hK71
   refine W.exit rfl ?_
   exact ⟨q64, a65, c66, q64.length, cs69, s62, hle63, Option.some.inj hq53, h67, rfl, hE.pick _ ⟨rfl, rfl, trivial⟩, hS⟩
  obtain ⟨hlt59, hx60, hd58⟩ := drop_cons hd58
  rw [Fishref2numbersIn.loop1] at hq53
  refine W.seq (W.region (vp hS hE rfl rfl fun a hE => WL.nil ?_))
  refine W.seq ?_
  refine W.condT hE rfl (decide_eq_true (by omega)) ?_
  refine W.skip ?_
  refine W.seq ?_
  refine W.block ?_
  refine W.seq (W.region ?_)
  obtain ⟨cs72, hl73, hR74, hat75⟩ := h0_0.at hx60
  obtain ⟨a76, c77, a79, c80, rfl, h78, h81⟩ := hR74
  refine vP hS hE (Gives.idx hE k55 rfl rfl sl22 rfl hlt59 (h0_0.aok hlt59)) rfl fun a hE => ?_
  refine vP hS hE (Gives.loadA hE rfl (fun w h => hat75 w _ h) ty111) rfl fun a hE => ?_
  refine WL.alloc hE hS (runs_plain rfl) zr111 rfl ?_; clear hE hS a w; intro b82 a w hE hS
  refine WL.storeI hE hS 0 rfl [vi x56.No, vi x56.Stock, .slice a76 x56.Stops.length c77, .slice a79 x56.Legs.length c80] (runs_plain rfl) rfl rfl rfl ty111 rfl rfl rfl rfl ?_; clear hE hS a w; intro a w hE hS
  refine WL.nil ?_
  refine W.seq (W.region (vp hS hE rfl rfl fun a hE => ?_))
  refine vP hS hE (Gives.fld hE rfl fl111_0) rfl fun a hE => ?_
  refine vP hS hE (Gives.loadB hE 0 rfl rfl rfl ty3) rfl fun a hE => ?_
  refine vP hS hE (Gives.fld hE rfl fl111_1) rfl fun a hE => ?_
  refine vP hS hE (Gives.loadB hE 0 rfl rfl rfl ty3) rfl fun a hE => ?_
  refine WL.lit hE hS (e := 3) (es := 1) (vs := [(0, vi x56.No), (1, vi x56.Stock)]) (cs := [vi x56.No, vi x56.Stock]) (runs_plain rfl) rfl (by kernel_rfl) rfl ?_; clear hE hS a w; intro b83 a w hE hS
  replace hS := hS.ptVec (es := 1) (m := 2) rfl (by decide)
  have h85 : Ev 1 (RI .i64) s62 [vi x56.No, vi x56.Stock] [x56.No, x56.Stock] := (Ev.cons (c1 := [vi x56.No]) rfl rfl (Ev.cons (c1 := [vi x56.Stock]) rfl rfl (Ev.nil)))
  have hF := hS.fixD RI.mono 0 rfl h85 (rfl); clear hS; obtain ⟨s86, hle87, hS, h88⟩ := hF
  replace h0_0 := Sl.mono RApiTrain.mono hle87 h0_0
  replace h78 := Sl.mono RApiStop.mono hle87 h78
  replace h81 := Sl.mono (RL.mono RI.mono) hle87 h81
  replace h67 := Ev.mono (RL.mono RI.mono) hle87 h67
  replace h0_1 := Sl.mono (RL.mono RI.mono) hle87 h0_1
  refine WL.lit hE hS (e := 65) (es := 1) (vs := [(0, .slice (some ⟨b83, 0, none⟩) 2 2)]) (cs := [.slice (some ⟨b83, 0, none⟩) 2 2]) (runs_plain rfl) rfl (by kernel_rfl) rfl ?_; clear hE hS a w; intro b89 a w hE hS
  obtain ⟨x90, hx91, hq53⟩ := bindS hq53
  refine WL.appD hE hS 1 (m := 1) (runs_plain rfl) rfl rfl rfl ap23 rfl h67 rfl (xs := [[x56.No, x56.Stock]]) (Ev.cons (c1 := [.slice (some ⟨b83, 0, none⟩) 2 2]) ⟨_, _, rfl, h88⟩ rfl (Ev.nil)) rfl rfl hx91 rfl ?_; clear hE hS a w; intro a92 c93 cs94 a w h95 hE hS
  refine vp hS hE rfl rfl fun a hE => WL.nil ?_
  refine W.seq ?_
  refine W.seq (W.region (vP hS hE (Gives.fld hE rfl fl111_2) rfl fun a hE => ?_))
  refine vP hS hE (Gives.loadB hE 0 rfl rfl rfl ty109) rfl fun a hE => ?_
  refine vP hS hE (Gives.len hE rfl sl109) rfl fun a hE => ?_
  refine vp hS hE rfl rfl fun a hE => WL.nil ?_
  obtain ⟨q97, hq96, hq53⟩ := bindS hq53
  refine W.cut (fun a w => ∃ (q107 : List (List Int)), ∃ (a108 : Option Addr), ∃ (c109 : Nat), ∃ (n111 : Nat), ∃ (cs112 : List Value), ∃ (s105 : Sg), s86.Le s105 ∧ q107 = q97 ∧ Ev 1 (RL 1 (RI .i64)) s105 cs112 q107 ∧ q107.length = n111 ∧ Rep a 52 [(1, pp b51), (3, .slice a108 n111 c109), (5, pp b82), (9, .slice a0_0 x0.Trains.length c0_0), (10, vi ((x0.Trains).length : Int)), (11, vi ((k55 : Nat) : Int))] ∧ St w s105 (pc b82 #[vi x56.No, vi x56.Stock, .slice a76 x56.Stops.length c77, .slice a79 x56.Legs.length c80] 111 :: vecC 65 1 a108 c109 n111 cs112 :: pc b51 #[.slice a0_0 x0.Trains.length c0_0, .slice a0_1 x0.Turns.length c0_1] 25 :: R)) ?_ ?_
  ·refine W.block ?_
   refine W.loop (fun m a w => ∃ (rest100 : List ApiStop) (k98 : Nat), ∃ (q107 : List (List Int)), ∃ (a108 : Option Addr), ∃ (c109 : Nat), ∃ (n111 : Nat), ∃ (cs112 : List Value), ∃ (s105 : Sg), rest100.length = m ∧ x56.Stops.drop k98 = rest100 ∧ s86.Le s105 ∧ Fishref2numbersIn.loop2 rest100 q107 = some q97 ∧ Ev 1 (RL 1 (RI .i64)) s105 cs112 q107 ∧ q107.length = n111 ∧ Rep a 52 [(1, pp b51), (3, .slice a108 n111 c109), (5, pp b82), (9, .slice a0_0 x0.Trains.length c0_0), (10, vi ((x0.Trains).length : Int)), (11, vi ((k55 : Nat) : Int)), (24, .slice a76 x56.Stops.length c77), (25, vi ((x56.Stops).length : Int)), (26, vi ((k98 : Nat) : Int))] ∧ St w s105 (pc b82 #[vi x56.No, vi x56.Stock, .slice a76 x56.Stops.length c77, .slice a79 x56.Legs.length c80] 111 :: vecC 65 1 a108 c109 n111 cs112 :: pc b51 #[.slice a0_0 x0.Trains.length c0_0, .slice a0_1 x0.Turns.length c0_1] 25 :: R)) (m := x56.Stops.length) ⟨x56.Stops, 0, x90, a92, c93, x90.length, cs94, s86, rfl, rfl, (Sg.Le.refl _), hq96, h95, (rfl), hE.pick _ ⟨rfl, rfl, rfl, rfl, rfl, rfl, rfl, rfl, rfl, trivial⟩, hS⟩ ?_
   clear hE hS a w hq96; rintro m104 a w ⟨rest100, k98, q107, a108, c109, n111, cs112, s105, rfl, hd101, hle106, hq96, h110, rfl, hE, hS⟩
   refine W.gen fun K114 hK114 => ?_
   replace h0_0 := Sl.mono RApiTrain.mono hle106 h0_0
   replace h78 := Sl.mono RApiStop.mono hle106 h78
   replace h81 := Sl.mono (RL.mono RI.mono) hle106 h81
   replace h88 := Sl.mono RI.mono hle106 h88
   replace h95 := Ev.mono (RL.mono RI.mono) hle106 h95
   replace h0_1 := Sl.mono (RL.mono RI.mono) hle106 h0_1
   rcases rest100 with _ | ⟨x99, rest100⟩
   ·have hlt102 := drop_nil hd101
    refine W.seq (W.region (vp hS hE rfl rfl fun a hE => WL.nil ?_))
    refine W.seq ?_
    refine W.condF hE rfl (decide_eq_false (by omega)) ?_
    subst hK114
    refine W.exit rfl ?_
    exact ⟨q107, a108, c109, q107.length, cs112, s105, hle106, Option.some.inj hq96, h110, rfl, hE.pick _ ⟨rfl, rfl, rfl, rfl, rfl, rfl, trivial⟩, hS⟩
   obtain ⟨hlt102, hx103, hd101⟩ := drop_cons hd101
   rw [Fishref2numbersIn.loop2] at hq96
   refine W.seq (W.region (vp hS hE rfl rfl fun a hE => WL.nil ?_))
   refine W.seq ?_
   refine W.condT hE rfl (decide_eq_true (by omega)) ?_
   refine W.skip ?_
   refine W.seq ?_
   refine W.block ?_
   refine W.seq (W.region ?_)
   obtain ⟨cs115, hl116, hR117, hat118⟩ := h78.at hx103
   subst hR117
   refine vP hS hE (Gives.idx hE k98 rfl rfl sl109 rfl hlt102 (h78.aok hlt102)) rfl fun a hE => ?_
   refine vP hS hE (Gives.loadA hE rfl (fun w h => hat118 w _ h) ty99) rfl fun a hE => ?_
   refine WL.alloc hE hS (runs_plain rfl) zr99 rfl ?_; clear hE hS a w; intro b119 a w hE hS
   refine WL.storeI hE hS 0 rfl (ApiStop.cells x99) (runs_plain rfl) rfl rfl rfl ty99 rfl rfl rfl rfl ?_; clear hE hS a w; intro a w hE hS
   refine WL.nil ?_
   refine W.region ?_
   refine vp hS hE rfl rfl fun a hE => ?_
   refine vP hS hE (Gives.fld hE rfl fl99_0) rfl fun a hE => ?_
   refine vP hS hE (Gives.loadB hE 0 rfl rfl rfl ty3) rfl fun a hE => ?_
   refine vP hS hE (Gives.fld hE rfl fl99_1) rfl fun a hE => ?_
   refine vP hS hE (Gives.loadB hE 0 rfl rfl rfl ty3) rfl fun a hE => ?_
   refine vP hS hE (Gives.fld hE rfl fl99_2) rfl fun a hE => ?_
   refine vP hS hE (Gives.loadB hE 0 rfl rfl rfl ty3) rfl fun a hE => ?_
   refine vP hS hE (Gives.fld hE rfl fl99_3) rfl fun a hE => ?_
   refine vP hS hE (Gives.loadB hE 0 rfl rfl rfl ty3) rfl fun a hE => ?_
   refine WL.lit hE hS (e := 3) (es := 1) (vs := [(0, vi x99.Station), (1, vi x99.Track), (2, vi x99.Arr), (3, vi x99.Dep)]) (cs := [vi x99.Station, vi x99.Track, vi x99.Arr, vi x99.Dep]) (runs_plain rfl) rfl (by kernel_rfl) rfl ?_; clear hE hS a w; intro b120 a w hE hS
   replace hS := hS.ptVec (es := 1) (m := 4) rfl (by decide)
   have h122 : Ev 1 (RI .i64) s105 [vi x99.Station, vi x99.Track, vi x99.Arr, vi x99.Dep] [x99.Station, x99.Track, x99.Arr, x99.Dep] := (Ev.cons (c1 := [vi x99.Station]) rfl rfl (Ev.cons (c1 := [vi x99.Track]) rfl rfl (Ev.cons (c1 := [vi x99.Arr]) rfl rfl (Ev.cons (c1 := [vi x99.Dep]) rfl rfl (Ev.nil)))))
   have hF := hS.fixD RI.mono 0 rfl h122 (rfl); clear hS; obtain ⟨s123, hle124, hS, h125⟩ := hF
   replace h0_0 := Sl.mono RApiTrain.mono hle124 h0_0
   replace h78 := Sl.mono RApiStop.mono hle124 h78
   replace h81 := Sl.mono (RL.mono RI.mono) hle124 h81
   replace h110 := Ev.mono (RL.mono RI.mono) hle124 h110
   replace h0_1 := Sl.mono (RL.mono RI.mono) hle124 h0_1
   refine WL.lit hE hS (e := 65) (es := 1) (vs := [(0, .slice (some ⟨b120, 0, none⟩) 4 4)]) (cs := [.slice (some ⟨b120, 0, none⟩) 4 4]) (runs_plain rfl) rfl (by kernel_rfl) rfl ?_; clear hE hS a w; intro b126 a w hE hS
   obtain ⟨x127, hx128, hq96⟩ := bindS hq96
   refine WL.appD hE hS 2 (m := 1) (runs_plain rfl) rfl rfl rfl ap23 rfl h110 rfl (xs := [[x99.Station, x99.Track, x99.Arr, x99.Dep]]) (Ev.cons (c1 := [.slice (some ⟨b120, 0, none⟩) 4 4]) ⟨_, _, rfl, h125⟩ rfl (Ev.nil)) rfl rfl hx128 rfl ?_; clear hE hS a w; intro a129 c130 cs131 a w h132 hE hS
   refine vp hS hE rfl rfl fun a hE => WL.nil ?_
   refine W.region ?_
   refine vP hS hE (Gives.inc hE rfl (by have := h78.small; omega)) rfl fun a hE => ?_
   refine vp hS hE rfl rfl fun a hE => WL.nil ?_
   replace hS := hS.tail
   subst hK114
   exact ⟨rest100.length, Nat.lt_succ_self _, rest100, k98 + 1, x127, a129, c130, x127.length, cs131, s123, rfl, hd101, (Sg.Le.trans hle106 hle124), hq96, h132, (rfl), hE.pick _ ⟨rfl, rfl, rfl, rfl, rfl, rfl, rfl, rfl, rfl, trivial⟩, hS⟩
  clear hE hS a w; rintro a w ⟨q107, a108, c109, n111, cs112, s105, hle106, rfl, h110, rfl, hE, hS⟩
  replace h0_0 := Sl.mono RApiTrain.mono hle106 h0_0
  replace h78 := Sl.mono RApiStop.mono hle106 h78
  replace h81 := Sl.mono (RL.mono RI.mono) hle106 h81
  replace h88 := Sl.mono RI.mono hle106 h88
  replace h95 := Ev.mono (RL.mono RI.mono) hle106 h95
  replace h0_1 := Sl.mono (RL.mono RI.mono) hle106 h0_1
  refine W.region ?_
  refine vp hS hE rfl rfl fun a hE => ?_
  refine vP hS hE (Gives.fld hE rfl fl111_3) rfl fun a hE => ?_
  refine vP hS hE (Gives.loadB hE 0 rfl rfl rfl ty23) rfl fun a hE => ?_
  obtain ⟨x133, hx134, hq53⟩ := bindS hq53
  refine WL.appS hE hS 1 (runs_plain rfl) rfl rfl (xs := x56.Legs) rfl rfl ap23 RL.one h110 rfl h81 hx134 rfl ?_; clear hE hS a w; intro a135 c136 cs137 a w h138 hE hS
  refine vp hS hE rfl rfl fun a hE => WL.nil ?_
  refine W.region ?_
  refine vP hS hE (Gives.inc hE rfl (by have := h0_0.small; omega)) rfl fun a hE => ?_
  refine vp hS hE rfl rfl fun a hE => WL.nil ?_
  replace hS := hS.tail
  subst hK71
  exact ⟨rest57.length, Nat.lt_succ_self _, rest57, k55 + 1, x133, a135, c136, x133.length, cs137, s105, rfl, hd58, (Sg.Le.trans (Sg.Le.trans hle63 hle87) hle106), hq53, h138, (rfl), hE.pick _ ⟨rfl, rfl, rfl, rfl, rfl, trivial⟩, hS⟩
 clear hE hS a w; rintro a w ⟨q64, a65, c66, n68, cs69, s62, hle63, rfl, h67, rfl, hE, hS⟩
 replace h0_0 := Sl.mono RApiTrain.mono hle63 h0_0
 replace h0_1 := Sl.mono (RL.mono RI.mono) hle63 h0_1
 refine W.seq (W.region (vp hS hE rfl rfl fun a hE => ?_))
 refine vP hS hE (Gives.fld hE rfl fl25_1) rfl fun a hE => ?_
 refine vP hS hE (Gives.loadB hE 1 rfl rfl rfl ty23) rfl fun a hE => ?_
 obtain ⟨x139, hx140, hr⟩ := bindS hr
 refine WL.appS hE hS 0 (runs_plain rfl) rfl rfl (xs := x0.Turns) rfl rfl ap23 RL.one h67 rfl h0_1 hx140 rfl ?_; clear hE hS a w; intro a141 c142 cs143 a w h144 hE hS
 refine vp hS hE rfl rfl fun a hE => WL.nil ?_
 refine W.ret ?_
 refine finG (fn := Tryz.f101) (rs := [.tmp 2]) (vs := [_]) hE rfl ⟨rfl, trivial⟩ ?_
 obtain rfl := Option.some.inj hr
 replace hS := hS.dropAt 1
 exact ⟨a141, c142, x139.length, cs143, s62, rfl, hle63, h144, (rfl), hS⟩
set_option maxHeartbeats 8000000 in
theorem Fishref2within_ok  {w : World} {s : Sg} {R : List HP} {x0 : Int} {x1 : Int} {x2 : Int} (hS : St w s (R))  {r : Bool} (hr : Fishref2within x0 x1 x2 = r) :
  Calls Tryz.prog 51 [vi x0, vi x1, vi x2].toArray w (fun e w => e = .returned (.bool r) ∧ St w s (R)) := by
 refine enter Tryz.func51 rfl rfl rfl fun a hE => ?_
 rw [Fishref2within] at hr
 refine W.seq (W.region (vp hS hE rfl rfl fun a hE => WL.nil ?_))
 refine W.seq ?_
 obtain ⟨q52, hq51, hr⟩ := bndS hr
 refine W.cut (fun a w => ∃ (q55 : Bool), q55 = q52 ∧ Rep a 15 [(6, .bool q55)] ∧ St w s (R)) ?_ ?_
 ·refine W.gen fun K56 hK56 => ?_
  refine W.region ?_
  refine v2 hS hE rfl rfl rfl rfl fun a hE => ?_
  refine v2 hS hE rfl rfl rfl rfl fun a hE => ?_
  rcases Bool.eq_false_or_eq_true (decide (x0 ≥ x1)) with hg57 | hg57
  ·replace hq51 := iteT hg57 hq51
   refine WL.vS hS hE (runs_if hE rfl rfl rfl hg57) (Gives.p hE rfl) rfl fun a hE => ?_
   refine WL.vS hS hE (runs_if hE rfl rfl rfl hg57) (Gives.p hE rfl) rfl fun a hE => ?_
   refine WL.vS hS hE (runs_if hE rfl rfl rfl hg57) (Gives.p hE rfl) rfl fun a hE => ?_
   refine vP hS hE (Gives.pickT hE rfl hg57 rfl) rfl fun a hE => ?_
   refine vp hS hE rfl rfl fun a hE => WL.nil ?_
   subst hK56
   exact ⟨decide (x0 ≤ x2), hq51, hE.pick _ ⟨rfl, trivial⟩, hS⟩
  replace hq51 := iteF hg57 hq51
  refine nO hE rfl rfl rfl (by rw [hg57]; decide) rfl fun a hE => ?_
  refine nO hE rfl rfl rfl (by rw [hg57]; decide) rfl fun a hE => ?_
  refine nO hE rfl rfl rfl (by rw [hg57]; decide) rfl fun a hE => ?_
  refine vP hS hE (Gives.pickF hE rfl hg57 rfl) rfl fun a hE => ?_
  refine vp hS hE rfl rfl fun a hE => WL.nil ?_
  subst hK56
  exact ⟨false, hq51, hE.pick _ ⟨rfl, trivial⟩, hS⟩
 clear hE hS a w; rintro a w ⟨q55, rfl, hE, hS⟩
 refine W.ret ?_
 refine finG (fn := Tryz.f51) (rs := [.tmp 6]) (vs := [_]) hE rfl ⟨rfl, trivial⟩ ?_
 subst hr
 exact ⟨rfl, hS⟩
set_option maxHeartbeats 8000000 in
theorem Fishref2TextFault_ok  {w : World} {s : Sg} {R : List HP} {x0 : ApiDay} {a0_0 : Option Addr} {c0_0 : Nat} {a0_1 : Option Addr} {c0_1 : Nat} (hS : St w s (R)) (h0_0 : Sl 4 RApiTrain s a0_0 c0_0 x0.Trains) (h0_1 : Sl 1 (RL 1 (RI .i64)) s a0_1 c0_1 x0.Turns) {r : Int} (hr : Fishref2TextFault x0 = some r) :
  Calls Tryz.prog 50 [.agg [.slice a0_0 x0.Trains.length c0_0, .slice a0_1 x0.Turns.length c0_1].toArray].toArray w (fun e w => e = .returned (vi r) ∧ St w s (R)) := by
 refine enter Tryz.func50 rfl rfl rfl fun a hE => ?_
 rw [Fishref2TextFault] at hr
 refine W.seq (W.region ?_)
 refine WL.box hE hS (runs_plain rfl) rfl rfl rfl ?_; clear hE hS a w; intro b51 a w hE hS
 refine vp hS hE rfl rfl fun a hE => WL.nil ?_
 refine W.seq ?_
 refine W.seq ?_
 obtain ⟨q53, hq52, hr⟩ := bndS hr
 refine W.cut (fun a w => ∃ (q56 : Bool), q56 = q53 ∧ Rep a 105 [(1, pp b51), (24, .bool q56)] ∧ St w s (pc b51 #[.slice a0_0 x0.Trains.length c0_0, .slice a0_1 x0.Turns.length c0_1] 25 :: R)) ?_ ?_
 ·refine W.gen fun K57 hK57 => ?_
  refine W.region ?_
  refine vP hS hE (Gives.fld hE rfl fl25_0) rfl fun a hE => ?_
  refine vP hS hE (Gives.loadB hE 0 rfl rfl rfl ty22) rfl fun a hE => ?_
  refine vP hS hE (Gives.len hE rfl sl22) rfl fun a hE => ?_
  refine v2 hS hE rfl rfl rfl rfl fun a hE => ?_
  rcases Bool.eq_false_or_eq_true (decide (((x0.Trains).length : Int) > 12)) with hg58 | hg58
  ·replace hq52 := iteT hg58 hq52
   refine nO hE rfl rfl rfl (by rw [hg58]; decide) rfl fun a hE => ?_
   refine nO hE rfl rfl rfl (by rw [hg58]; decide) rfl fun a hE => ?_
   refine nO hE rfl rfl rfl (by rw [hg58]; decide) rfl fun a hE => ?_
   refine nO hE rfl rfl rfl (by rw [hg58]; decide) rfl fun a hE => ?_
   refine vP hS hE (Gives.pickT hE rfl hg58 rfl) rfl fun a hE => WL.nil ?_
   subst hK57
   exact ⟨true, hq52, hE.pick _ ⟨rfl, rfl, trivial⟩, hS⟩
  replace hq52 := iteF hg58 hq52
  refine WL.vS hS hE (runs_if hE rfl rfl rfl hg58) (Gives.fld hE rfl fl25_1) rfl fun a hE => ?_
  refine WL.vS hS hE (runs_if hE rfl rfl rfl hg58) (Gives.loadB hE 0 rfl rfl rfl ty23) rfl fun a hE => ?_
  refine WL.vS hS hE (runs_if hE rfl rfl rfl hg58) (Gives.len hE rfl sl23) rfl fun a hE => ?_
  refine WL.vS hS hE (runs_if hE rfl rfl rfl hg58) (Gives.p hE rfl) rfl fun a hE => ?_
  refine vP hS hE (Gives.pickF hE rfl hg58 rfl) rfl fun a hE => WL.nil ?_
  subst hK57
  exact ⟨decide (((x0.Turns).length : Int) > 8), hq52, hE.pick _ ⟨rfl, rfl, trivial⟩, hS⟩
 clear hE hS a w; rintro a w ⟨q56, rfl, hE, hS⟩
 refine W.cond hE rfl (fun hc59 => ?_) (fun hc59 => ?_)
 ·replace hr := iteT hc59 hr
  refine W.seq (W.region (vp hS hE rfl rfl fun a hE => WL.nil ?_))
  refine W.ret ?_
  refine finG (fn := Tryz.f50) (rs := [.tmp 2]) (vs := [_]) hE rfl ⟨rfl, trivial⟩ ?_
  obtain rfl := Option.some.inj hr
  replace hS := hS.tail
  exact ⟨rfl, hS⟩
 replace hr := iteF hc59 hr
 refine W.skip ?_
 refine W.seq ?_
 refine W.seq (W.region (vP hS hE (Gives.fld hE rfl fl25_0) rfl fun a hE => ?_))
 refine vP hS hE (Gives.loadB hE 0 rfl rfl rfl ty22) rfl fun a hE => ?_
 refine vP hS hE (Gives.len hE rfl sl22) rfl fun a hE => ?_
 refine vp hS hE rfl rfl fun a hE => WL.nil ?_
 obtain ⟨q61, hq60, hr⟩ := bndS hr
 refine W.cut (fun a w => (.next ()) = q61 ∧ Rep a 105 [(1, pp b51)] ∧ St w s (pc b51 #[.slice a0_0 x0.Trains.length c0_0, .slice a0_1 x0.Turns.length c0_1] 25 :: R)) ?_ ?_
 ·refine W.block ?_
  refine W.loop (fun m a w => ∃ (rest64 : List ApiTrain) (k62 : Nat), rest64.length = m ∧ x0.Trains.drop k62 = rest64 ∧ Fishref2TextFault.loop1 rest64 = q61 ∧ Rep a 105 [(1, pp b51), (26, .slice a0_0 x0.Trains.length c0_0), (27, vi ((x0.Trains).length : Int)), (28, vi ((k62 : Nat) : Int))] ∧ St w s (pc b51 #[.slice a0_0 x0.Trains.length c0_0, .slice a0_1 x0.Turns.length c0_1] 25 :: R)) (m := x0.Trains.length) ⟨x0.Trains, 0, rfl, rfl, hq60, hE.pick _ ⟨rfl, rfl, rfl, rfl, trivial⟩, hS⟩ ?_
  clear hE hS a w hq60; rintro m68 a w ⟨rest64, k62, rfl, hd65, hq60, hE, hS⟩
  refine W.gen fun K71 hK71 => ?_
  rcases rest64 with _ | ⟨x63, rest64⟩
  ·have hlt66 := drop_nil hd65
   refine W.seq (W.region (vp hS hE rfl rfl fun a hE => WL.nil ?_))
   refine W.seq ?_
   refine W.condF hE rfl (decide_eq_false (by omega)) ?_
   subst hK71
   refine W.exit rfl ?_
   exact ⟨hq60, hE.pick _ ⟨rfl, trivial⟩, hS⟩
  obtain ⟨hlt66, hx67, hd65⟩ := drop_cons hd65
  rw [Fishref2TextFault.loop1] at hq60
  refine W.seq (W.region (vp hS hE rfl rfl fun a hE => WL.nil ?_))
  refine W.seq ?_
  refine W.condT hE rfl (decide_eq_true (by omega)) ?_
  refine W.skip ?_
  refine W.seq ?_
  refine W.block ?_
  refine W.seq (W.region ?_)
  obtain ⟨cs72, hl73, hR74, hat75⟩ := h0_0.at hx67
  obtain ⟨a76, c77, a79, c80, rfl, h78, h81⟩ := hR74
  refine vP hS hE (Gives.idx hE k62 rfl rfl sl22 rfl hlt66 (h0_0.aok hlt66)) rfl fun a hE => ?_
  refine vP hS hE (Gives.loadA hE rfl (fun w h => hat75 w _ h) ty111) rfl fun a hE => ?_
  refine WL.alloc hE hS (runs_plain rfl) zr111 rfl ?_; clear hE hS a w; intro b82 a w hE hS
  refine WL.storeI hE hS 0 rfl [vi x63.No, vi x63.Stock, .slice a76 x63.Stops.length c77, .slice a79 x63.Legs.length c80] (runs_plain rfl) rfl rfl rfl ty111 rfl rfl rfl rfl ?_; clear hE hS a w; intro a w hE hS
  refine WL.nil ?_
  refine W.seq ?_
  refine W.seq ?_
  obtain ⟨q84, hq83, hq60⟩ := bndS hq60
  refine W.cut (fun a w => ∃ (q87 : Bool), q87 = q84 ∧ Rep a 105 [(1, pp b51), (4, pp b82), (26, .slice a0_0 x0.Trains.length c0_0), (27, vi ((x0.Trains).length : Int)), (28, vi ((k62 : Nat) : Int)), (45, .bool q87)] ∧ St w s (pc b82 #[vi x63.No, vi x63.Stock, .slice a76 x63.Stops.length c77, .slice a79 x63.Legs.length c80] 111 :: pc b51 #[.slice a0_0 x0.Trains.length c0_0, .slice a0_1 x0.Turns.length c0_1] 25 :: R)) ?_ ?_
  ·refine W.gen fun K88 hK88 => ?_
   refine W.region ?_
   refine vP hS hE (Gives.fld hE rfl fl111_2) rfl fun a hE => ?_
   refine vP hS hE (Gives.loadB hE 0 rfl rfl rfl ty109) rfl fun a hE => ?_
   refine vP hS hE (Gives.len hE rfl sl109) rfl fun a hE => ?_
   refine v2 hS hE rfl rfl rfl rfl fun a hE => ?_
   rcases Bool.eq_false_or_eq_true (((x63.Stops).length : Int) == 0) with hg89 | hg89
   ·replace hq83 := iteT hg89 hq83
    refine nO hE rfl rfl rfl (by rw [hg89]; decide) rfl fun a hE => ?_
    refine nO hE rfl rfl rfl (by rw [hg89]; decide) rfl fun a hE => ?_
    refine nO hE rfl rfl rfl (by rw [hg89]; decide) rfl fun a hE => ?_
    refine nO hE rfl rfl rfl (by rw [hg89]; decide) rfl fun a hE => ?_
    refine nO hE rfl rfl rfl (by rw [hg89]; decide) rfl fun a hE => ?_
    refine nO hE rfl rfl rfl (by rw [hg89]; decide) rfl fun a hE => ?_
    refine nO hE rfl rfl rfl (by rw [hg89]; decide) rfl fun a hE => ?_
    refine nO hE rfl rfl rfl (by rw [hg89]; decide) rfl fun a hE => ?_
    refine vP hS hE (Gives.pickT hE rfl hg89 rfl) rfl fun a hE => WL.nil ?_
    subst hK88
    exact ⟨true, hq83, hE.pick _ ⟨rfl, rfl, rfl, rfl, rfl, rfl, trivial⟩, hS⟩
   replace hq83 := iteF hg89 hq83
   refine WL.vS hS hE (runs_if hE rfl rfl rfl hg89) (Gives.fld hE rfl fl111_3) rfl fun a hE => ?_
   refine WL.vS hS hE (runs_if hE rfl rfl rfl hg89) (Gives.loadB hE 0 rfl rfl rfl ty23) rfl fun a hE => ?_
   refine WL.vS hS hE (runs_if hE rfl rfl rfl hg89) (Gives.len hE rfl sl23) rfl fun a hE => ?_
   refine WL.vS hS hE (runs_if hE rfl rfl rfl hg89) (Gives.fld hE rfl fl111_2) rfl fun a hE => ?_
   refine WL.vS hS hE (runs_if hE rfl rfl rfl hg89) (Gives.loadB hE 0 rfl rfl rfl ty109) rfl fun a hE => ?_
   refine WL.vS hS hE (runs_if hE rfl rfl rfl hg89) (Gives.len hE rfl sl109) rfl fun a hE => ?_
   refine WL.vS hS hE (runs_if hE rfl rfl rfl hg89) (Gives.p hE rfl) rfl fun a hE => ?_
   refine WL.vS hS hE (runs_if hE rfl rfl rfl hg89) (Gives.p hE rfl) rfl fun a hE => ?_
   refine vP hS hE (Gives.pickF hE rfl hg89 rfl) rfl fun a hE => WL.nil ?_
   subst hK88
   exact ⟨(((x63.Legs).length : Int) != (w64 (((x63.Stops).length : Int) - 1))), hq83, hE.pick _ ⟨rfl, rfl, rfl, rfl, rfl, rfl, trivial⟩, hS⟩
  clear hE hS a w; rintro a w ⟨q87, rfl, hE, hS⟩
  refine W.cond hE rfl (fun hc90 => ?_) (fun hc90 => ?_)
  ·replace hq60 := iteT hc90 hq60
   refine W.seq (W.region (vp hS hE rfl rfl fun a hE => WL.nil ?_))
   refine W.ret ?_
   subst hK71
   rw [← hq60] at hr
   dsimp only at hr
   refine finG (fn := Tryz.f50) (rs := [.tmp 2]) (vs := [_]) hE rfl ⟨rfl, trivial⟩ ?_
   obtain rfl := Option.some.inj hr
   replace hS := hS.tail
   replace hS := hS.tail
   exact ⟨rfl, hS⟩
  replace hq60 := iteF hc90 hq60
  refine W.skip ?_
  refine W.seq ?_
  refine W.seq (W.region (vP hS hE (Gives.fld hE rfl fl111_3) rfl fun a hE => ?_))
  refine vP hS hE (Gives.loadB hE 0 rfl rfl rfl ty23) rfl fun a hE => ?_
  refine vP hS hE (Gives.len hE rfl sl23) rfl fun a hE => ?_
  refine vp hS hE rfl rfl fun a hE => WL.nil ?_
  obtain ⟨q92, hq91, hq60⟩ := bndS hq60
  refine W.cut (fun a w => (.next ()) = q92 ∧ Rep a 105 [(1, pp b51), (4, pp b82), (26, .slice a0_0 x0.Trains.length c0_0), (27, vi ((x0.Trains).length : Int)), (28, vi ((k62 : Nat) : Int))] ∧ St w s (pc b82 #[vi x63.No, vi x63.Stock, .slice a76 x63.Stops.length c77, .slice a79 x63.Legs.length c80] 111 :: pc b51 #[.slice a0_0 x0.Trains.length c0_0, .slice a0_1 x0.Turns.length c0_1] 25 :: R)) ?_ ?_
  ·refine W.block ?_
   refine W.loop (fun m a w => ∃ (rest95 : List (List Int)) (k93 : Nat), rest95.length = m ∧ x63.Legs.drop k93 = rest95 ∧ Fishref2TextFault.loop2 rest95 = q92 ∧ Rep a 105 [(1, pp b51), (4, pp b82), (26, .slice a0_0 x0.Trains.length c0_0), (27, vi ((x0.Trains).length : Int)), (28, vi ((k62 : Nat) : Int)), (47, .slice a79 x63.Legs.length c80), (48, vi ((x63.Legs).length : Int)), (49, vi ((k93 : Nat) : Int))] ∧ St w s (pc b82 #[vi x63.No, vi x63.Stock, .slice a76 x63.Stops.length c77, .slice a79 x63.Legs.length c80] 111 :: pc b51 #[.slice a0_0 x0.Trains.length c0_0, .slice a0_1 x0.Turns.length c0_1] 25 :: R)) (m := x63.Legs.length) ⟨x63.Legs, 0, rfl, rfl, hq91, hE.pick _ ⟨rfl, rfl, rfl, rfl, rfl, rfl, rfl, rfl, trivial⟩, hS⟩ ?_
   clear hE hS a w hq91; rintro m99 a w ⟨rest95, k93, rfl, hd96, hq91, hE, hS⟩
   refine W.gen fun K102 hK102 => ?_
   rcases rest95 with _ | ⟨x94, rest95⟩
   ·have hlt97 := drop_nil hd96
    refine W.seq (W.region (vp hS hE rfl rfl fun a hE => WL.nil ?_))
    refine W.seq ?_
    refine W.condF hE rfl (decide_eq_false (by omega)) ?_
    subst hK102
    refine W.exit rfl ?_
    exact ⟨hq91, hE.pick _ ⟨rfl, rfl, rfl, rfl, rfl, trivial⟩, hS⟩
   obtain ⟨hlt97, hx98, hd96⟩ := drop_cons hd96
   rw [Fishref2TextFault.loop2] at hq91
   refine W.seq (W.region (vp hS hE rfl rfl fun a hE => WL.nil ?_))
   refine W.seq ?_
   refine W.condT hE rfl (decide_eq_true (by omega)) ?_
   refine W.skip ?_
   refine W.seq ?_
   refine W.block ?_
   refine W.seq (W.region ?_)
   obtain ⟨cs103, hl104, hR105, hat106⟩ := h81.at hx98
   obtain ⟨a107, c108, rfl, h109⟩ := hR105
   refine vP hS hE (Gives.idx hE k93 rfl rfl sl23 rfl hlt97 (h81.aok hlt97)) rfl fun a hE => ?_
   refine vP hS hE (Gives.load1 hE rfl (fun w h => hat106 w _ h) ty65) rfl fun a hE => ?_
   refine vp hS hE rfl rfl fun a hE => WL.nil ?_
   refine W.seq (W.region (vp hS hE rfl rfl fun a hE => ?_))
   refine vP hS hE (Gives.len hE rfl sl65) rfl fun a hE => ?_
   refine vp hS hE rfl rfl fun a hE => WL.nil ?_
   refine W.cond hE rfl (fun hc110 => ?_) (fun hc110 => ?_)
   ·replace hq91 := iteT hc110 hq91
    refine W.seq (W.region (vp hS hE rfl rfl fun a hE => WL.nil ?_))
    refine W.ret ?_
    subst hK102
    subst hK71
    rw [← hq91] at hq60
    dsimp only at hq60
    rw [← hq60] at hr
    dsimp only at hr
    refine finG (fn := Tryz.f50) (rs := [.tmp 2]) (vs := [_]) hE rfl ⟨rfl, trivial⟩ ?_
    obtain rfl := Option.some.inj hr
    replace hS := hS.tail
    replace hS := hS.tail
    exact ⟨rfl, hS⟩
   replace hq91 := iteF hc110 hq91
   refine W.skip ?_
   refine W.region ?_
   refine vP hS hE (Gives.inc hE rfl (by have := h81.small; omega)) rfl fun a hE => ?_
   refine vp hS hE rfl rfl fun a hE => WL.nil ?_
   subst hK102
   exact ⟨rest95.length, Nat.lt_succ_self _, rest95, k93 + 1, rfl, hd96, hq91, hE.pick _ ⟨rfl, rfl, rfl, rfl, rfl, rfl, rfl, rfl, trivial⟩, hS⟩
  clear hE hS a w; rintro a w ⟨rfl, hE, hS⟩
  dsimp only at hq60
  refine W.seq ?_
  refine W.seq (W.region (vP hS hE (Gives.fld hE rfl fl111_2) rfl fun a hE => ?_))
  refine vP hS hE (Gives.loadB hE 0 rfl rfl rfl ty109) rfl fun a hE => ?_
  refine vP hS hE (Gives.len hE rfl sl109) rfl fun a hE => ?_
  refine vp hS hE rfl rfl fun a hE => WL.nil ?_
  refine W.cond hE rfl (fun hc111 => ?_) (fun hc111 => ?_)
  ·replace hq60 := iteT hc111 hq60
   refine W.seq (W.region (vp hS hE rfl rfl fun a hE => WL.nil ?_))
   refine W.ret ?_
   subst hK71
   rw [← hq60] at hr
   dsimp only at hr
   refine finG (fn := Tryz.f50) (rs := [.tmp 2]) (vs := [_]) hE rfl ⟨rfl, trivial⟩ ?_
   obtain rfl := Option.some.inj hr
   replace hS := hS.tail
   replace hS := hS.tail
   exact ⟨rfl, hS⟩
  replace hq60 := iteF hc111 hq60
  refine W.skip ?_
  refine W.seq (W.region (vP hS hE (Gives.fld hE rfl fl111_3) rfl fun a hE => ?_))
  refine vP hS hE (Gives.loadB hE 0 rfl rfl rfl ty23) rfl fun a hE => ?_
  refine vP hS hE (Gives.len hE rfl sl23) rfl fun a hE => ?_
  refine vp hS hE rfl rfl fun a hE => WL.nil ?_
  obtain ⟨q113, hq112, hq60⟩ := bndS hq60
  refine W.cut (fun a w => (.next ()) = q113 ∧ Rep a 105 [(1, pp b51), (26, .slice a0_0 x0.Trains.length c0_0), (27, vi ((x0.Trains).length : Int)), (28, vi ((k62 : Nat) : Int))] ∧ St w s (pc b82 #[vi x63.No, vi x63.Stock, .slice a76 x63.Stops.length c77, .slice a79 x63.Legs.length c80] 111 :: pc b51 #[.slice a0_0 x0.Trains.length c0_0, .slice a0_1 x0.Turns.length c0_1] 25 :: R)) ?_ ?_
  ·refine W.block ?_
   refine W.loop (fun m a w => ∃ (rest116 : List (List Int)) (k114 : Nat), rest116.length = m ∧ x63.Legs.drop k114 = rest116 ∧ Fishref2TextFault.loop3 rest116 = q113 ∧ Rep a 105 [(1, pp b51), (26, .slice a0_0 x0.Trains.length c0_0), (27, vi ((x0.Trains).length : Int)), (28, vi ((k62 : Nat) : Int)), (62, .slice a79 x63.Legs.length c80), (63, vi ((x63.Legs).length : Int)), (64, vi ((k114 : Nat) : Int))] ∧ St w s (pc b82 #[vi x63.No, vi x63.Stock, .slice a76 x63.Stops.length c77, .slice a79 x63.Legs.length c80] 111 :: pc b51 #[.slice a0_0 x0.Trains.length c0_0, .slice a0_1 x0.Turns.length c0_1] 25 :: R)) (m := x63.Legs.length) ⟨x63.Legs, 0, rfl, rfl, hq112, hE.pick _ ⟨rfl, rfl, rfl, rfl, rfl, rfl, rfl, trivial⟩, hS⟩ ?_
   clear hE hS a w hq112; rintro m120 a w ⟨rest116, k114, rfl, hd117, hq112, hE, hS⟩
   refine W.gen fun K123 hK123 => ?_
   rcases rest116 with _ | ⟨x115, rest116⟩
   ·have hlt118 := drop_nil hd117
    refine W.seq (W.region (vp hS hE rfl rfl fun a hE => WL.nil ?_))
    refine W.seq ?_
    refine W.condF hE rfl (decide_eq_false (by omega)) ?_
    subst hK123
    refine W.exit rfl ?_
    exact ⟨hq112, hE.pick _ ⟨rfl, rfl, rfl, rfl, trivial⟩, hS⟩
   obtain ⟨hlt118, hx119, hd117⟩ := drop_cons hd117
   rw [Fishref2TextFault.loop3] at hq112
   refine W.seq (W.region (vp hS hE rfl rfl fun a hE => WL.nil ?_))
   refine W.seq ?_
   refine W.condT hE rfl (decide_eq_true (by omega)) ?_
   refine W.skip ?_
   refine W.seq ?_
   refine W.block ?_
   refine W.seq (W.region ?_)
   obtain ⟨cs124, hl125, hR126, hat127⟩ := h81.at hx119
   obtain ⟨a128, c129, rfl, h130⟩ := hR126
   refine vP hS hE (Gives.idx hE k114 rfl rfl sl23 rfl hlt118 (h81.aok hlt118)) rfl fun a hE => ?_
   refine vP hS hE (Gives.load1 hE rfl (fun w h => hat127 w _ h) ty65) rfl fun a hE => ?_
   refine vp hS hE rfl rfl fun a hE => WL.nil ?_
   refine W.seq (W.region (vp hS hE rfl rfl fun a hE => ?_))
   refine vP hS hE (Gives.len hE rfl sl65) rfl fun a hE => ?_
   refine vp hS hE rfl rfl fun a hE => WL.nil ?_
   refine W.cond hE rfl (fun hc131 => ?_) (fun hc131 => ?_)
   ·replace hq112 := iteT hc131 hq112
    refine W.seq (W.region (vp hS hE rfl rfl fun a hE => WL.nil ?_))
    refine W.ret ?_
    subst hK123
    subst hK71
    rw [← hq112] at hq60
    dsimp only at hq60
    rw [← hq60] at hr
    dsimp only at hr
    refine finG (fn := Tryz.f50) (rs := [.tmp 2]) (vs := [_]) hE rfl ⟨rfl, trivial⟩ ?_
    obtain rfl := Option.some.inj hr
    replace hS := hS.tail
    replace hS := hS.tail
    exact ⟨rfl, hS⟩
   replace hq112 := iteF hc131 hq112
   refine W.skip ?_
   refine W.region ?_
   refine vP hS hE (Gives.inc hE rfl (by have := h81.small; omega)) rfl fun a hE => ?_
   refine vp hS hE rfl rfl fun a hE => WL.nil ?_
   subst hK123
   exact ⟨rest116.length, Nat.lt_succ_self _, rest116, k114 + 1, rfl, hd117, hq112, hE.pick _ ⟨rfl, rfl, rfl, rfl, rfl, rfl, rfl, trivial⟩, hS⟩
  clear hE hS a w; rintro a w ⟨rfl, hE, hS⟩
  dsimp only at hq60
  refine W.region ?_
  refine vP hS hE (Gives.inc hE rfl (by have := h0_0.small; omega)) rfl fun a hE => ?_
  refine vp hS hE rfl rfl fun a hE => WL.nil ?_
  replace hS := hS.tail
  subst hK71
  exact ⟨rest64.length, Nat.lt_succ_self _, rest64, k62 + 1, rfl, hd65, hq60, hE.pick _ ⟨rfl, rfl, rfl, rfl, trivial⟩, hS⟩
 clear hE hS a w; rintro a w ⟨rfl, hE, hS⟩
 dsimp only at hr
 refine W.seq ?_
 refine W.seq (W.region (vP hS hE (Gives.fld hE rfl fl25_1) rfl fun a hE => ?_))
 refine vP hS hE (Gives.loadB hE 0 rfl rfl rfl ty23) rfl fun a hE => ?_
 refine vP hS hE (Gives.len hE rfl sl23) rfl fun a hE => ?_
 refine vp hS hE rfl rfl fun a hE => WL.nil ?_
 obtain ⟨q133, hq132, hr⟩ := bndS hr
 refine W.cut (fun a w => (.next ()) = q133 ∧ Rep a 105 [(1, pp b51)] ∧ St w s (pc b51 #[.slice a0_0 x0.Trains.length c0_0, .slice a0_1 x0.Turns.length c0_1] 25 :: R)) ?_ ?_
 ·refine W.block ?_
  refine W.loop (fun m a w => ∃ (rest136 : List (List Int)) (k134 : Nat), rest136.length = m ∧ x0.Turns.drop k134 = rest136 ∧ Fishref2TextFault.loop4 rest136 = q133 ∧ Rep a 105 [(1, pp b51), (74, .slice a0_1 x0.Turns.length c0_1), (75, vi ((x0.Turns).length : Int)), (76, vi ((k134 : Nat) : Int))] ∧ St w s (pc b51 #[.slice a0_0 x0.Trains.length c0_0, .slice a0_1 x0.Turns.length c0_1] 25 :: R)) (m := x0.Turns.length) ⟨x0.Turns, 0, rfl, rfl, hq132, hE.pick _ ⟨rfl, rfl, rfl, rfl, trivial⟩, hS⟩ ?_
  clear hE hS a w hq132; rintro m140 a w ⟨rest136, k134, rfl, hd137, hq132, hE, hS⟩
  refine W.gen fun K143 hK143 => ?_
  rcases rest136 with _ | ⟨x135, rest136⟩
  ·have hlt138 := drop_nil hd137
   refine W.seq (W.region (vp hS hE rfl rfl fun a hE => WL.nil ?_))
   refine W.seq ?_
   refine W.condF hE rfl (decide_eq_false (by omega)) ?_
   subst hK143
   refine W.exit rfl ?_
   exact ⟨hq132, hE.pick _ ⟨rfl, trivial⟩, hS⟩
  obtain ⟨hlt138, hx139, hd137⟩ := drop_cons hd137
  rw [Fishref2TextFault.loop4] at hq132
  refine W.seq (W.region (vp hS hE rfl rfl fun a hE => WL.nil ?_))
  refine W.seq ?_
  refine W.condT hE rfl (decide_eq_true (by omega)) ?_
  refine W.skip ?_
  refine W.seq ?_
  refine W.block ?_
  refine W.seq (W.region ?_)
  obtain ⟨cs144, hl145, hR146, hat147⟩ := h0_1.at hx139
  obtain ⟨a148, c149, rfl, h150⟩ := hR146
  refine vP hS hE (Gives.idx hE k134 rfl rfl sl23 rfl hlt138 (h0_1.aok hlt138)) rfl fun a hE => ?_
  refine vP hS hE (Gives.load1 hE rfl (fun w h => hat147 w _ h) ty65) rfl fun a hE => ?_
  refine vp hS hE rfl rfl fun a hE => WL.nil ?_
  refine W.seq ?_
  refine W.seq (W.region (vp hS hE rfl rfl fun a hE => ?_))
  refine vP hS hE (Gives.len hE rfl sl65) rfl fun a hE => ?_
  refine vp hS hE rfl rfl fun a hE => WL.nil ?_
  refine W.cond hE rfl (fun hc151 => ?_) (fun hc151 => ?_)
  ·replace hq132 := iteT hc151 hq132
   refine W.seq (W.region (vp hS hE rfl rfl fun a hE => WL.nil ?_))
   refine W.ret ?_
   subst hK143
   rw [← hq132] at hr
   dsimp only at hr
   refine finG (fn := Tryz.f50) (rs := [.tmp 2]) (vs := [_]) hE rfl ⟨rfl, trivial⟩ ?_
   obtain rfl := Option.some.inj hr
   replace hS := hS.tail
   exact ⟨rfl, hS⟩
  replace hq132 := iteF hc151 hq132
  refine W.skip ?_
  refine W.seq (W.region (vp hS hE rfl rfl fun a hE => ?_))
  refine vP hS hE (Gives.len hE rfl sl65) rfl fun a hE => ?_
  refine vp hS hE rfl rfl fun a hE => WL.nil ?_
  refine W.cond hE rfl (fun hc152 => ?_) (fun hc152 => ?_)
  ·replace hq132 := iteT hc152 hq132
   refine W.seq (W.region (vp hS hE rfl rfl fun a hE => WL.nil ?_))
   refine W.ret ?_
   subst hK143
   rw [← hq132] at hr
   dsimp only at hr
   refine finG (fn := Tryz.f50) (rs := [.tmp 2]) (vs := [_]) hE rfl ⟨rfl, trivial⟩ ?_
   obtain rfl := Option.some.inj hr
   replace hS := hS.tail
   exact ⟨rfl, hS⟩
  replace hq132 := iteF hc152 hq132
  refine W.skip ?_
  refine W.region ?_
  refine vP hS hE (Gives.inc hE rfl (by have := h0_1.small; omega)) rfl fun a hE => ?_
  refine vp hS hE rfl rfl fun a hE => WL.nil ?_
  subst hK143
  exact ⟨rest136.length, Nat.lt_succ_self _, rest136, k134 + 1, rfl, hd137, hq132, hE.pick _ ⟨rfl, rfl, rfl, rfl, trivial⟩, hS⟩
 clear hE hS a w; rintro a w ⟨rfl, hE, hS⟩
 dsimp only at hr
 refine W.seq ?_
 refine W.seq (W.region (vP hS hE (Gives.loadBA hE 0 rfl rfl ty25) rfl fun a hE => ?_))
 obtain ⟨q153, hq154, hr⟩ := bindS hr
 have hc_ := Fishref2numbersIn_ok hS h0_0 h0_1 hq154
 refine WL.fnq hE (hc_) (runs_plain rfl) bd101 rfl rfl rfl ?_
 clear hE hS hc_; rintro e w ⟨a155, c156, n157, cs158, s161, rfl, hle162, h159, rfl, hS⟩; refine ⟨_, rfl, ?_⟩; clear a; intro a hE
 replace h0_0 := Sl.mono RApiTrain.mono hle162 h0_0
 replace h0_1 := Sl.mono (RL.mono RI.mono) hle162 h0_1
 refine vP hS hE (Gives.len hE rfl sl23) rfl fun a hE => ?_
 refine vp hS hE rfl rfl fun a hE => WL.nil ?_
 have hb174 : q153.length ≤ 9223372036854775807 := by have := hS.vecCap 0 rfl; unfold maxLen at this; omega
 obtain ⟨q164, hq163, hr⟩ := bindS hr
 refine W.cut (fun a w => (.next ()) = q164 ∧ Rep a 105 [] ∧ St w s161 (vecC 65 1 a155 c156 q153.length cs158 :: pc b51 #[.slice a0_0 x0.Trains.length c0_0, .slice a0_1 x0.Turns.length c0_1] 25 :: R)) ?_ ?_
 ·refine W.block ?_
  refine W.loop (fun m a w => ∃ (rest167 : Nat) (k165 : Nat), rest167 = m ∧ k165 + rest167 = q153.length ∧ Fishref2TextFault.loop5 q153 rest167 k165 = some q164 ∧ Rep a 105 [(88, .slice a155 q153.length c156), (89, vi ((q153.length : Nat) : Int)), (90, vi ((k165 : Nat) : Int))] ∧ St w s161 (vecC 65 1 a155 c156 q153.length cs158 :: pc b51 #[.slice a0_0 x0.Trains.length c0_0, .slice a0_1 x0.Turns.length c0_1] 25 :: R)) (m := q153.length) ⟨q153.length, 0, rfl, by omega, hq163, hE.pick _ ⟨rfl, rfl, rfl, trivial⟩, hS⟩ ?_
  clear hE hS a w hq163; rintro m171 a w ⟨rest167, k165, rfl, hd168, hq163, hE, hS⟩
  refine W.gen fun K175 hK175 => ?_
  rcases rest167 with _ | rest167
  ·skip
   refine W.seq (W.region (vp hS hE rfl rfl fun a hE => WL.nil ?_))
   refine W.seq ?_
   refine W.condF hE rfl (decide_eq_false (by omega)) ?_
   subst hK175
   refine W.exit rfl ?_
   exact ⟨Option.some.inj hq163, hE.pick _ trivial, hS⟩
  have hlt169 : k165 < q153.length := by omega
  rw [Fishref2TextFault.loop5] at hq163
  refine W.seq (W.region (vp hS hE rfl rfl fun a hE => WL.nil ?_))
  refine W.seq ?_
  refine W.condT hE rfl (decide_eq_true (by omega)) ?_
  refine W.skip ?_
  refine W.seq ?_
  refine W.block ?_
  refine W.seq (W.region ?_)
  obtain ⟨x176, hx177, hq163⟩ := bindS hq163
  obtain ⟨hi178, hlt179, hy180⟩ := gx_some hx177
  obtain ⟨vs181, hl182, hR183, hd184, hget185⟩ := h159.at hy180
  obtain ⟨a186, c187, rfl, h188⟩ := hR183
  refine vP hS hE (Gives.idx hE ((((k165 : Nat) : Int)).toNat) rfl rfl sl23 hi178 (by omega) (hS.vecAok 0 rfl (by omega : (((k165 : Nat) : Int)).toNat < q153.length))) rfl fun a hE => ?_
  refine vP hS hE (Gives.load1 hE rfl (fun w h => St.vecSees h 0 rfl ((((k165 : Nat) : Int)).toNat * 1) _ hget185) ty65) rfl fun a hE => ?_
  refine vp hS hE rfl rfl fun a hE => WL.nil ?_
  refine W.seq (W.region (vp hS hE rfl rfl fun a hE => ?_))
  refine vP hS hE (Gives.len hE rfl sl65) rfl fun a hE => ?_
  refine vp hS hE rfl rfl fun a hE => WL.nil ?_
  obtain ⟨q190, hq189, hq163⟩ := bndS hq163
  refine W.cut (fun a w => (.next ()) = q190 ∧ Rep a 105 [(88, .slice a155 q153.length c156), (89, vi ((q153.length : Nat) : Int)), (90, vi ((k165 : Nat) : Int))] ∧ St w s161 (vecC 65 1 a155 c156 q153.length cs158 :: pc b51 #[.slice a0_0 x0.Trains.length c0_0, .slice a0_1 x0.Turns.length c0_1] 25 :: R)) ?_ ?_
  ·refine W.block ?_
   refine W.loop (fun m a w => ∃ (rest193 : List Int) (k191 : Nat), rest193.length = m ∧ x176.drop k191 = rest193 ∧ Fishref2TextFault.loop6 rest193 = q190 ∧ Rep a 105 [(88, .slice a155 q153.length c156), (89, vi ((q153.length : Nat) : Int)), (90, vi ((k165 : Nat) : Int)), (94, .slice a186 x176.length c187), (95, vi ((x176).length : Int)), (96, vi ((k191 : Nat) : Int))] ∧ St w s161 (vecC 65 1 a155 c156 q153.length cs158 :: pc b51 #[.slice a0_0 x0.Trains.length c0_0, .slice a0_1 x0.Turns.length c0_1] 25 :: R)) (m := x176.length) ⟨x176, 0, rfl, rfl, hq189, hE.pick _ ⟨rfl, rfl, rfl, rfl, rfl, rfl, trivial⟩, hS⟩ ?_
   clear hE hS a w hq189; rintro m197 a w ⟨rest193, k191, rfl, hd194, hq189, hE, hS⟩
   refine W.gen fun K200 hK200 => ?_
   rcases rest193 with _ | ⟨x192, rest193⟩
   ·have hlt195 := drop_nil hd194
    refine W.seq (W.region (vp hS hE rfl rfl fun a hE => WL.nil ?_))
    refine W.seq ?_
    refine W.condF hE rfl (decide_eq_false (by omega)) ?_
    subst hK200
    refine W.exit rfl ?_
    exact ⟨hq189, hE.pick _ ⟨rfl, rfl, rfl, trivial⟩, hS⟩
   obtain ⟨hlt195, hx196, hd194⟩ := drop_cons hd194
   rw [Fishref2TextFault.loop6] at hq189
   refine W.seq (W.region (vp hS hE rfl rfl fun a hE => WL.nil ?_))
   refine W.seq ?_
   refine W.condT hE rfl (decide_eq_true (by omega)) ?_
   refine W.skip ?_
   refine W.seq ?_
   refine W.block ?_
   refine W.seq (W.region ?_)
   obtain ⟨cs201, hl202, hR203, hat204⟩ := h188.at hx196
   subst hR203
   refine vP hS hE (Gives.idx hE k191 rfl rfl sl65 rfl hlt195 (h188.aok hlt195)) rfl fun a hE => ?_
   refine vP hS hE (Gives.load1 hE rfl (fun w h => hat204 w _ h) ty3) rfl fun a hE => ?_
   refine vp hS hE rfl rfl fun a hE => WL.nil ?_
   refine W.seq (W.region (vp hS hE rfl rfl fun a hE => ?_))
   refine WL.fnq hE (Fishref2within_ok hS  rfl (r := Fishref2within x192 0 999999)) (runs_plain rfl) bd51 rfl rfl rfl ?_
   clear hE hS; rintro e w ⟨rfl, hS⟩; refine ⟨_, rfl, ?_⟩; clear a; intro a hE
   refine vp hS hE rfl rfl fun a hE => WL.nil ?_
   refine W.cond hE rfl (fun hc205 => ?_) (fun hc205 => ?_)
   ·replace hq189 := iteT hc205 hq189
    refine W.seq (W.region (vp hS hE rfl rfl fun a hE => WL.nil ?_))
    refine W.ret ?_
    subst hK200
    subst hK175
    rw [← hq189] at hq163
    dsimp only at hq163
    rw [← Option.some.inj hq163] at hr
    dsimp only at hr
    refine finG (fn := Tryz.f50) (rs := [.tmp 2]) (vs := [_]) hE rfl ⟨rfl, trivial⟩ ?_
    obtain rfl := Option.some.inj hr
    replace hS := hS.tail
    replace hS := hS.tail
    exact ⟨rfl, (hS.down hle162)⟩
   replace hq189 := iteF hc205 hq189
   refine W.skip ?_
   refine W.region ?_
   refine vP hS hE (Gives.inc hE rfl (by have := h188.small; omega)) rfl fun a hE => ?_
   refine vp hS hE rfl rfl fun a hE => WL.nil ?_
   subst hK200
   exact ⟨rest193.length, Nat.lt_succ_self _, rest193, k191 + 1, rfl, hd194, hq189, hE.pick _ ⟨rfl, rfl, rfl, rfl, rfl, rfl, trivial⟩, hS⟩
  clear hE hS a w; rintro a w ⟨rfl, hE, hS⟩
  dsimp only at hq163
  refine W.region ?_
  refine vP hS hE (Gives.inc hE rfl (by omega)) rfl fun a hE => ?_
  refine vp hS hE rfl rfl fun a hE => WL.nil ?_
  subst hK175
  exact ⟨rest167, Nat.lt_succ_self _, rest167, k165 + 1, rfl, (by omega), hq163, hE.pick _ ⟨rfl, rfl, rfl, trivial⟩, hS⟩
 clear hE hS a w; rintro a w ⟨rfl, hE, hS⟩
 dsimp only at hr
 refine W.seq (W.region (vp hS hE rfl rfl fun a hE => WL.nil ?_))
 refine W.ret ?_
 refine finG (fn := Tryz.f50) (rs := [.tmp 2]) (vs := [_]) hE rfl ⟨rfl, trivial⟩ ?_
 obtain rfl := Option.some.inj hr
 replace hS := hS.tail
 replace hS := hS.tail
 exact ⟨rfl, (hS.down hle162)⟩
set_option maxHeartbeats 8000000 in
theorem Fishref2GuideFault_ok  {w : World} {s : Sg} {R : List HP} {x0 : ApiDay} {a0_0 : Option Addr} {c0_0 : Nat} {a0_1 : Option Addr} {c0_1 : Nat} (hS : St w s (R)) (h0_0 : Sl 4 RApiTrain s a0_0 c0_0 x0.Trains) (h0_1 : Sl 1 (RL 1 (RI .i64)) s a0_1 c0_1 x0.Turns) {r : Int} (hr : Fishref2GuideFault x0 = some r) :
  Calls Tryz.prog 8 [.agg [.slice a0_0 x0.Trains.length c0_0, .slice a0_1 x0.Turns.length c0_1].toArray].toArray w (fun e w => e = .returned (vi r) ∧ St w s (R)) := by
 refine enter Tryz.func8 rfl rfl rfl fun a hE => ?_
 rw [Fishref2GuideFault] at hr
 refine W.seq (W.region ?_)
 refine WL.box hE hS (runs_plain rfl) rfl rfl rfl ?_; clear hE hS a w; intro b51 a w hE hS
 refine vp hS hE rfl rfl fun a hE => WL.nil ?_
 refine W.seq ?_
 refine W.seq (W.region (vP hS hE (Gives.loadBA hE 0 rfl rfl ty25) rfl fun a hE => ?_))
 obtain ⟨q52, hq53, hr⟩ := bindS hr
 have hc_ := Fishref2TextFault_ok hS h0_0 h0_1 hq53
 refine WL.fnq hE (hc_) (runs_plain rfl) bd50 rfl rfl rfl ?_
 clear hE hS hc_; rintro e w ⟨rfl, hS⟩; refine ⟨_, rfl, ?_⟩; clear a; intro a hE
 refine vp hS hE rfl rfl fun a hE => WL.nil ?_
 refine W.seq (W.region (v2 hS hE rfl rfl rfl rfl fun a hE => WL.nil ?_))
 refine W.cond hE rfl (fun hc54 => ?_) (fun hc54 => ?_)
 ·replace hr := iteT hc54 hr
  refine W.seq (W.region (v2 hS hE rfl rfl rfl rfl fun a hE => WL.nil ?_))
  refine W.ret ?_
  refine finG (fn := Tryz.f8) (rs := [.tmp 2]) (vs := [_]) hE rfl ⟨rfl, trivial⟩ ?_
  obtain rfl := Option.some.inj hr
  replace hS := hS.tail
  exact ⟨rfl, hS⟩
 replace hr := iteF hc54 hr
 refine W.skip ?_
 refine W.seq ?_
 refine W.seq (W.region (vP hS hE (Gives.fld hE rfl fl25_0) rfl fun a hE => ?_))
 refine vP hS hE (Gives.loadB hE 0 rfl rfl rfl ty22) rfl fun a hE => ?_
 refine vP hS hE (Gives.len hE rfl sl22) rfl fun a hE => ?_
 refine vp hS hE rfl rfl fun a hE => WL.nil ?_
 obtain ⟨q56, hq55, hr⟩ := bindS hr
 refine W.cut (fun a w => (.next ()) = q56 ∧ Rep a 93 [] ∧ St w s (pc b51 #[.slice a0_0 x0.Trains.length c0_0, .slice a0_1 x0.Turns.length c0_1] 25 :: R)) ?_ ?_
 ·refine W.block ?_
  refine W.loop (fun m a w => ∃ (rest59 : List ApiTrain) (k57 : Nat), rest59.length = m ∧ x0.Trains.drop k57 = rest59 ∧ Fishref2GuideFault.loop1 x0 rest59 k57 = some q56 ∧ Rep a 93 [(1, pp b51), (16, .slice a0_0 x0.Trains.length c0_0), (17, vi ((x0.Trains).length : Int)), (18, vi ((k57 : Nat) : Int))] ∧ St w s (pc b51 #[.slice a0_0 x0.Trains.length c0_0, .slice a0_1 x0.Turns.length c0_1] 25 :: R)) (m := x0.Trains.length) ⟨x0.Trains, 0, rfl, rfl, hq55, hE.pick _ ⟨rfl, rfl, rfl, rfl, trivial⟩, hS⟩ ?_
  clear hE hS a w hq55; rintro m63 a w ⟨rest59, k57, rfl, hd60, hq55, hE, hS⟩
  refine W.gen fun K66 hK66 => ?_
  rcases rest59 with _ | ⟨x58, rest59⟩
  ·have hlt61 := drop_nil hd60
   refine W.seq (W.region (vp hS hE rfl rfl fun a hE => WL.nil ?_))
   refine W.seq ?_
   refine W.condF hE rfl (decide_eq_false (by omega)) ?_
   subst hK66
   refine W.exit rfl ?_
   exact ⟨Option.some.inj hq55, hE.pick _ trivial, hS⟩
  obtain ⟨hlt61, hx62, hd60⟩ := drop_cons hd60
  rw [Fishref2GuideFault.loop1] at hq55
  refine W.seq (W.region (vp hS hE rfl rfl fun a hE => WL.nil ?_))
  refine W.seq ?_
  refine W.condT hE rfl (decide_eq_true (by omega)) ?_
  refine W.skip ?_
  refine W.seq ?_
  refine W.block ?_
  refine W.seq (W.region (vp hS hE rfl rfl fun a hE => ?_))
  obtain ⟨cs67, hl68, hR69, hat70⟩ := h0_0.at hx62
  obtain ⟨a71, c72, a74, c75, rfl, h73, h76⟩ := hR69
  refine vP hS hE (Gives.idx hE k57 rfl rfl sl22 rfl hlt61 (h0_0.aok hlt61)) rfl fun a hE => ?_
  refine vP hS hE (Gives.loadA hE rfl (fun w h => hat70 w _ h) ty111) rfl fun a hE => ?_
  refine WL.alloc hE hS (runs_plain rfl) zr111 rfl ?_; clear hE hS a w; intro b77 a w hE hS
  refine vp hS hE rfl rfl fun a hE => ?_
  refine WL.storeI hE hS 0 rfl [vi x58.No, vi x58.Stock, .slice a71 x58.Stops.length c72, .slice a74 x58.Legs.length c75] (runs_plain rfl) rfl rfl rfl ty111 rfl rfl rfl rfl ?_; clear hE hS a w; intro a w hE hS
  refine WL.nil ?_
  refine W.seq ?_
  refine W.seq (W.region (vP hS hE (Gives.fld hE rfl fl111_0) rfl fun a hE => ?_))
  refine vP hS hE (Gives.loadB hE 0 rfl rfl rfl ty3) rfl fun a hE => ?_
  refine WL.fnq hE (Fishref2within_ok hS  rfl (r := Fishref2within x58.No 1 9999)) (runs_plain rfl) bd51 rfl rfl rfl ?_
  clear hE hS; rintro e w ⟨rfl, hS⟩; refine ⟨_, rfl, ?_⟩; clear a; intro a hE
  refine vp hS hE rfl rfl fun a hE => WL.nil ?_
  refine W.cond hE rfl (fun hc78 => ?_) (fun hc78 => ?_)
  ·replace hq55 := iteT hc78 hq55
   refine W.seq (W.region (vp hS hE rfl rfl fun a hE => WL.nil ?_))
   refine W.ret ?_
   subst hK66
   rw [← Option.some.inj hq55] at hr
   dsimp only at hr
   refine finG (fn := Tryz.f8) (rs := [.tmp 2]) (vs := [_]) hE rfl ⟨rfl, trivial⟩ ?_
   obtain rfl := Option.some.inj hr
   replace hS := hS.tail
   replace hS := hS.tail
   exact ⟨rfl, hS⟩
  replace hq55 := iteF hc78 hq55
  refine W.skip ?_
  refine W.seq ?_
  refine W.seq (W.region (vP hS hE (Gives.fld hE rfl fl25_0) rfl fun a hE => ?_))
  refine vP hS hE (Gives.loadB hE 1 rfl rfl rfl ty22) rfl fun a hE => ?_
  refine vp hS hE rfl rfl fun a hE => ?_
  obtain ⟨x79, hx80, hq55⟩ := bindS hq55
  obtain ⟨a81, c82, heq83, h84⟩ := h0_0.cut hx80
  obtain ⟨h85, h86, h87, _⟩ := cutl_some hx80
  refine vP hS hE (Gives.slH hE sl22 rfl rfl (by omega) (by have := h0_0.len; omega) heq83) rfl fun a hE => ?_
  refine vP hS hE (Gives.len hE rfl sl22) rfl fun a hE => ?_
  refine vp hS hE rfl rfl fun a hE => WL.nil ?_
  obtain ⟨q89, hq88, hq55⟩ := bndS hq55
  refine W.cut (fun a w => (.next ()) = q89 ∧ Rep a 93 [(1, pp b51), (5, pp b77), (16, .slice a0_0 x0.Trains.length c0_0), (17, vi ((x0.Trains).length : Int)), (18, vi ((k57 : Nat) : Int))] ∧ St w s (pc b77 #[vi x58.No, vi x58.Stock, .slice a71 x58.Stops.length c72, .slice a74 x58.Legs.length c75] 111 :: pc b51 #[.slice a0_0 x0.Trains.length c0_0, .slice a0_1 x0.Turns.length c0_1] 25 :: R)) ?_ ?_
  ·refine W.block ?_
   refine W.loop (fun m a w => ∃ (rest92 : List ApiTrain) (k90 : Nat), rest92.length = m ∧ x79.drop k90 = rest92 ∧ Fishref2GuideFault.loop2 x58 rest92 = q89 ∧ Rep a 93 [(1, pp b51), (5, pp b77), (16, .slice a0_0 x0.Trains.length c0_0), (17, vi ((x0.Trains).length : Int)), (18, vi ((k57 : Nat) : Int)), (30, .slice a81 x79.length c82), (31, vi ((x79).length : Int)), (32, vi ((k90 : Nat) : Int))] ∧ St w s (pc b77 #[vi x58.No, vi x58.Stock, .slice a71 x58.Stops.length c72, .slice a74 x58.Legs.length c75] 111 :: pc b51 #[.slice a0_0 x0.Trains.length c0_0, .slice a0_1 x0.Turns.length c0_1] 25 :: R)) (m := x79.length) ⟨x79, 0, rfl, rfl, hq88, hE.pick _ ⟨rfl, rfl, rfl, rfl, rfl, rfl, rfl, rfl, trivial⟩, hS⟩ ?_
   clear hE hS a w hq88; rintro m96 a w ⟨rest92, k90, rfl, hd93, hq88, hE, hS⟩
   refine W.gen fun K99 hK99 => ?_
   rcases rest92 with _ | ⟨x91, rest92⟩
   ·have hlt94 := drop_nil hd93
    refine W.seq (W.region (vp hS hE rfl rfl fun a hE => WL.nil ?_))
    refine W.seq ?_
    refine W.condF hE rfl (decide_eq_false (by omega)) ?_
    subst hK99
    refine W.exit rfl ?_
    exact ⟨hq88, hE.pick _ ⟨rfl, rfl, rfl, rfl, rfl, trivial⟩, hS⟩
   obtain ⟨hlt94, hx95, hd93⟩ := drop_cons hd93
   rw [Fishref2GuideFault.loop2] at hq88
   refine W.seq (W.region (vp hS hE rfl rfl fun a hE => WL.nil ?_))
   refine W.seq ?_
   refine W.condT hE rfl (decide_eq_true (by omega)) ?_
   refine W.skip ?_
   refine W.seq ?_
   refine W.block ?_
   refine W.seq (W.region ?_)
   obtain ⟨cs100, hl101, hR102, hat103⟩ := h84.at hx95
   obtain ⟨a104, c105, a107, c108, rfl, h106, h109⟩ := hR102
   refine vP hS hE (Gives.idx hE k90 rfl rfl sl22 rfl hlt94 (h84.aok hlt94)) rfl fun a hE => ?_
   refine vP hS hE (Gives.loadA hE rfl (fun w h => hat103 w _ h) ty111) rfl fun a hE => ?_
   refine WL.alloc hE hS (runs_plain rfl) zr111 rfl ?_; clear hE hS a w; intro b110 a w hE hS
   refine WL.storeI hE hS 0 rfl [vi x91.No, vi x91.Stock, .slice a104 x91.Stops.length c105, .slice a107 x91.Legs.length c108] (runs_plain rfl) rfl rfl rfl ty111 rfl rfl rfl rfl ?_; clear hE hS a w; intro a w hE hS
   refine WL.nil ?_
   refine W.seq (W.region (vP hS hE (Gives.fld hE rfl fl111_0) rfl fun a hE => ?_))
   refine vP hS hE (Gives.loadB hE 0 rfl rfl rfl ty3) rfl fun a hE => ?_
   refine vP hS hE (Gives.fld hE rfl fl111_0) rfl fun a hE => ?_
   refine vP hS hE (Gives.loadB hE 1 rfl rfl rfl ty3) rfl fun a hE => ?_
   refine vp hS hE rfl rfl fun a hE => WL.nil ?_
   refine W.cond hE rfl (fun hc111 => ?_) (fun hc111 => ?_)
   ·replace hq88 := iteT hc111 hq88
    refine W.seq (W.region (vp hS hE rfl rfl fun a hE => WL.nil ?_))
    refine W.ret ?_
    subst hK99
    subst hK66
    rw [← hq88] at hq55
    dsimp only at hq55
    rw [← Option.some.inj hq55] at hr
    dsimp only at hr
    refine finG (fn := Tryz.f8) (rs := [.tmp 2]) (vs := [_]) hE rfl ⟨rfl, trivial⟩ ?_
    obtain rfl := Option.some.inj hr
    replace hS := hS.tail
    replace hS := hS.tail
    replace hS := hS.tail
    exact ⟨rfl, hS⟩
   replace hq88 := iteF hc111 hq88
   refine W.skip ?_
   refine W.region ?_
   refine vP hS hE (Gives.inc hE rfl (by have := h84.small; omega)) rfl fun a hE => ?_
   refine vp hS hE rfl rfl fun a hE => WL.nil ?_
   replace hS := hS.tail
   subst hK99
   exact ⟨rest92.length, Nat.lt_succ_self _, rest92, k90 + 1, rfl, hd93, hq88, hE.pick _ ⟨rfl, rfl, rfl, rfl, rfl, rfl, rfl, rfl, trivial⟩, hS⟩
  clear hE hS a w; rintro a w ⟨rfl, hE, hS⟩
  dsimp only at hq55
  refine W.seq ?_
  refine W.seq (W.region (vP hS hE (Gives.fld hE rfl fl111_2) rfl fun a hE => ?_))
  refine vP hS hE (Gives.loadB hE 0 rfl rfl rfl ty109) rfl fun a hE => ?_
  refine vP hS hE (Gives.len hE rfl sl109) rfl fun a hE => ?_
  refine vp hS hE rfl rfl fun a hE => WL.nil ?_
  refine W.cond hE rfl (fun hc112 => ?_) (fun hc112 => ?_)
  ·replace hq55 := iteT hc112 hq55
   refine W.seq (W.region (vp hS hE rfl rfl fun a hE => WL.nil ?_))
   refine W.ret ?_
   subst hK66
   rw [← Option.some.inj hq55] at hr
   dsimp only at hr
   refine finG (fn := Tryz.f8) (rs := [.tmp 2]) (vs := [_]) hE rfl ⟨rfl, trivial⟩ ?_
   obtain rfl := Option.some.inj hr
   replace hS := hS.tail
   replace hS := hS.tail
   exact ⟨rfl, hS⟩
  replace hq55 := iteF hc112 hq55
  refine W.skip ?_
  refine W.seq (W.region (vP hS hE (Gives.fld hE rfl fl111_2) rfl fun a hE => ?_))
  refine vP hS hE (Gives.loadB hE 0 rfl rfl rfl ty109) rfl fun a hE => ?_
  refine vP hS hE (Gives.len hE rfl sl109) rfl fun a hE => ?_
  refine vp hS hE rfl rfl fun a hE => WL.nil ?_
  obtain ⟨q114, hq113, hq55⟩ := bindS hq55
  refine W.cut (fun a w => (.next ()) = q114 ∧ Rep a 93 [(1, pp b51), (16, .slice a0_0 x0.Trains.length c0_0), (17, vi ((x0.Trains).length : Int)), (18, vi ((k57 : Nat) : Int))] ∧ St w s (pc b77 #[vi x58.No, vi x58.Stock, .slice a71 x58.Stops.length c72, .slice a74 x58.Legs.length c75] 111 :: pc b51 #[.slice a0_0 x0.Trains.length c0_0, .slice a0_1 x0.Turns.length c0_1] 25 :: R)) ?_ ?_
  ·refine W.block ?_
   refine W.loop (fun m a w => ∃ (rest117 : List ApiStop) (k115 : Nat), rest117.length = m ∧ x58.Stops.drop k115 = rest117 ∧ Fishref2GuideFault.loop3 x58 rest117 k115 = some q114 ∧ Rep a 93 [(1, pp b51), (5, pp b77), (16, .slice a0_0 x0.Trains.length c0_0), (17, vi ((x0.Trains).length : Int)), (18, vi ((k57 : Nat) : Int)), (47, .slice a71 x58.Stops.length c72), (48, vi ((x58.Stops).length : Int)), (49, vi ((k115 : Nat) : Int))] ∧ St w s (pc b77 #[vi x58.No, vi x58.Stock, .slice a71 x58.Stops.length c72, .slice a74 x58.Legs.length c75] 111 :: pc b51 #[.slice a0_0 x0.Trains.length c0_0, .slice a0_1 x0.Turns.length c0_1] 25 :: R)) (m := x58.Stops.length) ⟨x58.Stops, 0, rfl, rfl, hq113, hE.pick _ ⟨rfl, rfl, rfl, rfl, rfl, rfl, rfl, rfl, trivial⟩, hS⟩ ?_
   clear hE hS a w hq113; rintro m121 a w ⟨rest117, k115, rfl, hd118, hq113, hE, hS⟩
   refine W.gen fun K124 hK124 => ?_
   rcases rest117 with _ | ⟨x116, rest117⟩
   ·have hlt119 := drop_nil hd118
    refine W.seq (W.region (vp hS hE rfl rfl fun a hE => WL.nil ?_))
    refine W.seq ?_
    refine W.condF hE rfl (decide_eq_false (by omega)) ?_
    subst hK124
    refine W.exit rfl ?_
    exact ⟨Option.some.inj hq113, hE.pick _ ⟨rfl, rfl, rfl, rfl, trivial⟩, hS⟩
   obtain ⟨hlt119, hx120, hd118⟩ := drop_cons hd118
   rw [Fishref2GuideFault.loop3] at hq113
   refine W.seq (W.region (vp hS hE rfl rfl fun a hE => WL.nil ?_))
   refine W.seq ?_
   refine W.condT hE rfl (decide_eq_true (by omega)) ?_
   refine W.skip ?_
   refine W.seq ?_
   refine W.block ?_
   refine W.seq (W.region (vp hS hE rfl rfl fun a hE => ?_))
   obtain ⟨cs125, hl126, hR127, hat128⟩ := h73.at hx120
   subst hR127
   refine vP hS hE (Gives.idx hE k115 rfl rfl sl109 rfl hlt119 (h73.aok hlt119)) rfl fun a hE => ?_
   refine vP hS hE (Gives.loadA hE rfl (fun w h => hat128 w _ h) ty99) rfl fun a hE => ?_
   refine WL.alloc hE hS (runs_plain rfl) zr99 rfl ?_; clear hE hS a w; intro b129 a w hE hS
   refine vp hS hE rfl rfl fun a hE => ?_
   refine WL.storeI hE hS 0 rfl (ApiStop.cells x116) (runs_plain rfl) rfl rfl rfl ty99 rfl rfl rfl rfl ?_; clear hE hS a w; intro a w hE hS
   refine WL.nil ?_
   refine W.seq ?_
   refine W.seq ?_
   obtain ⟨q131, hq130, hq113⟩ := bndS hq113
   refine W.cut (fun a w => ∃ (q134 : Bool), q134 = q131 ∧ Rep a 93 [(1, pp b51), (5, pp b77), (8, vi ((k115 : Nat) : Int)), (9, pp b129), (16, .slice a0_0 x0.Trains.length c0_0), (17, vi ((x0.Trains).length : Int)), (18, vi ((k57 : Nat) : Int)), (47, .slice a71 x58.Stops.length c72), (48, vi ((x58.Stops).length : Int)), (49, vi ((k115 : Nat) : Int)), (69, .bool q134)] ∧ St w s (pc b129 (ApiStop.cells x116).toArray 99 :: pc b77 #[vi x58.No, vi x58.Stock, .slice a71 x58.Stops.length c72, .slice a74 x58.Legs.length c75] 111 :: pc b51 #[.slice a0_0 x0.Trains.length c0_0, .slice a0_1 x0.Turns.length c0_1] 25 :: R)) ?_ ?_
   ·refine W.gen fun K135 hK135 => ?_
    refine W.region ?_
    refine vP hS hE (Gives.fld hE rfl fl99_0) rfl fun a hE => ?_
    refine vP hS hE (Gives.loadB hE 0 rfl rfl rfl ty3) rfl fun a hE => ?_
    refine WL.fnq hE (Fishref2within_ok hS  rfl (r := Fishref2within x116.Station 0 11)) (runs_plain rfl) bd51 rfl rfl rfl ?_
    clear hE hS; rintro e w ⟨rfl, hS⟩; refine ⟨_, rfl, ?_⟩; clear a; intro a hE
    refine v2 hS hE rfl rfl rfl rfl fun a hE => ?_
    rcases Bool.eq_false_or_eq_true (!(Fishref2within x116.Station 0 11)) with hg136 | hg136
    ·replace hq130 := iteT hg136 hq130
     refine nO hE rfl rfl rfl (by rw [hg136]; decide) rfl fun a hE => ?_
     refine nO hE rfl rfl rfl (by rw [hg136]; decide) rfl fun a hE => ?_
     refine nO hE rfl rfl rfl (by rw [hg136]; decide) rfl fun a hE => ?_
     refine nO hE rfl rfl rfl (by rw [hg136]; decide) rfl fun a hE => ?_
     refine vP hS hE (Gives.pickT hE rfl hg136 rfl) rfl fun a hE => ?_
     refine vp hS hE rfl rfl fun a hE => ?_
     refine nO hE rfl rfl rfl (by decide) rfl fun a hE => ?_
     refine nO hE rfl rfl rfl (by decide) rfl fun a hE => ?_
     refine nO hE rfl rfl rfl (by decide) rfl fun a hE => ?_
     refine nO hE rfl rfl rfl (by decide) rfl fun a hE => ?_
     refine vP hS hE (Gives.pickT hE rfl rfl rfl) rfl fun a hE => WL.nil ?_
     subst hK135
     exact ⟨true, hq130, hE.pick _ ⟨rfl, rfl, rfl, rfl, rfl, rfl, rfl, rfl, rfl, rfl, rfl, trivial⟩, hS⟩
    replace hq130 := iteF hg136 hq130
    refine WL.vS hS hE (runs_if hE rfl rfl rfl hg136) (Gives.fld hE rfl fl99_2) rfl fun a hE => ?_
    refine WL.vS hS hE (runs_if hE rfl rfl rfl hg136) (Gives.loadB hE 0 rfl rfl rfl ty3) rfl fun a hE => ?_
    refine WL.fnq hE (Fishref2within_ok hS  rfl (r := Fishref2within x116.Arr 0 28800)) (runs_if hE rfl rfl rfl hg136) bd51 rfl rfl rfl ?_
    clear hE hS; rintro e w ⟨rfl, hS⟩; refine ⟨_, rfl, ?_⟩; clear a; intro a hE
    refine WL.vS hS hE (runs_if hE rfl rfl rfl hg136) (Gives.p hE rfl) rfl fun a hE => ?_
    refine vP hS hE (Gives.pickF hE rfl hg136 rfl) rfl fun a hE => ?_
    refine vp hS hE rfl rfl fun a hE => ?_
    rcases Bool.eq_false_or_eq_true (!(Fishref2within x116.Arr 0 28800)) with hg137 | hg137
    ·replace hq130 := iteT hg137 hq130
     refine nO hE rfl rfl rfl (by rw [hg137]; decide) rfl fun a hE => ?_
     refine nO hE rfl rfl rfl (by rw [hg137]; decide) rfl fun a hE => ?_
     refine nO hE rfl rfl rfl (by rw [hg137]; decide) rfl fun a hE => ?_
     refine nO hE rfl rfl rfl (by rw [hg137]; decide) rfl fun a hE => ?_
     refine vP hS hE (Gives.pickT hE rfl hg137 rfl) rfl fun a hE => WL.nil ?_
     subst hK135
     exact ⟨true, hq130, hE.pick _ ⟨rfl, rfl, rfl, rfl, rfl, rfl, rfl, rfl, rfl, rfl, rfl, trivial⟩, hS⟩
    replace hq130 := iteF hg137 hq130
    refine WL.vS hS hE (runs_if hE rfl rfl rfl hg137) (Gives.fld hE rfl fl99_3) rfl fun a hE => ?_
    refine WL.vS hS hE (runs_if hE rfl rfl rfl hg137) (Gives.loadB hE 0 rfl rfl rfl ty3) rfl fun a hE => ?_
    refine WL.fnq hE (Fishref2within_ok hS  rfl (r := Fishref2within x116.Dep 0 28800)) (runs_if hE rfl rfl rfl hg137) bd51 rfl rfl rfl ?_
    clear hE hS; rintro e w ⟨rfl, hS⟩; refine ⟨_, rfl, ?_⟩; clear a; intro a hE
    refine WL.vS hS hE (runs_if hE rfl rfl rfl hg137) (Gives.p hE rfl) rfl fun a hE => ?_
    refine vP hS hE (Gives.pickF hE rfl hg137 rfl) rfl fun a hE => WL.nil ?_
    subst hK135
    exact ⟨!(Fishref2within x116.Dep 0 28800), hq130, hE.pick _ ⟨rfl, rfl, rfl, rfl, rfl, rfl, rfl, rfl, rfl, rfl, rfl, trivial⟩, hS⟩
   clear hE hS a w; rintro a w ⟨q134, rfl, hE, hS⟩
   refine W.cond hE rfl (fun hc138 => ?_) (fun hc138 => ?_)
   ·replace hq113 := iteT hc138 hq113
    refine W.seq (W.region (vp hS hE rfl rfl fun a hE => WL.nil ?_))
    refine W.ret ?_
    subst hK124
    subst hK66
    rw [← Option.some.inj hq113] at hq55
    dsimp only at hq55
    rw [← Option.some.inj hq55] at hr
    dsimp only at hr
    refine finG (fn := Tryz.f8) (rs := [.tmp 2]) (vs := [_]) hE rfl ⟨rfl, trivial⟩ ?_
    obtain rfl := Option.some.inj hr
    replace hS := hS.tail
    replace hS := hS.tail
    replace hS := hS.tail
    exact ⟨rfl, hS⟩
   replace hq113 := iteF hc138 hq113
   refine W.skip ?_
   refine W.seq ?_
   obtain ⟨q140, hq139, hq113⟩ := bindS hq113
   refine W.cut (fun a w => ∃ (q143 : Bool), q143 = q140 ∧ Rep a 93 [(1, pp b51), (5, pp b77), (16, .slice a0_0 x0.Trains.length c0_0), (17, vi ((x0.Trains).length : Int)), (18, vi ((k57 : Nat) : Int)), (47, .slice a71 x58.Stops.length c72), (48, vi ((x58.Stops).length : Int)), (49, vi ((k115 : Nat) : Int)), (90, .bool q143)] ∧ St w s (pc b129 (ApiStop.cells x116).toArray 99 :: pc b77 #[vi x58.No, vi x58.Stock, .slice a71 x58.Stops.length c72, .slice a74 x58.Legs.length c75] 111 :: pc b51 #[.slice a0_0 x0.Trains.length c0_0, .slice a0_1 x0.Turns.length c0_1] 25 :: R)) ?_ ?_
   ·refine W.gen fun K144 hK144 => ?_
    refine W.regionQ (C := fun w => St w s (pc b129 (ApiStop.cells x116).toArray 99 :: pc b77 #[vi x58.No, vi x58.Stock, .slice a71 x58.Stops.length c72, .slice a74 x58.Legs.length c75] 111 :: pc b51 #[.slice a0_0 x0.Trains.length c0_0, .slice a0_1 x0.Turns.length c0_1] 25 :: R)) mixed (by kernel_rfl) hS.drew ?_
    refine qP hE (Gives.fld hE rfl fl99_3) rfl fun a hE => ?_
    refine qP hE (Gives.loadB hE 0 rfl rfl rfl ty3) rfl fun a hE => ?_
    refine qP hE (Gives.fld hE rfl fl99_2) rfl fun a hE => ?_
    refine qP hE (Gives.loadB hE 0 rfl rfl rfl ty3) rfl fun a hE => ?_
    refine qP hE (Gives.p hE rfl) rfl fun a hE => ?_
    refine qP hE (Gives.p hE rfl) rfl fun a hE => ?_
    rcases Bool.eq_false_or_eq_true (decide (x116.Dep < x116.Arr)) with hg145 | hg145
    ·replace hq139 := iteT hg145 hq139
     refine QL.no hE (runs_not hE rfl rfl rfl (by rw [hg145]; decide)) rfl fun a hE => ?_
     refine QL.no hE (runs_not hE rfl rfl rfl (by rw [hg145]; decide)) rfl fun a hE => ?_
     refine QL.no hE (runs_not hE rfl rfl rfl (by rw [hg145]; decide)) rfl fun a hE => ?_
     refine QL.no hE (runs_undef hE rfl rfl rfl) rfl fun a hE => ?_
     refine QL.no hE (runs_undef hE rfl rfl rfl) rfl fun a hE => ?_
     refine QL.no hE (runs_undef hE rfl rfl rfl) rfl fun a hE => ?_
     refine QL.no hE (runs_undef hE rfl rfl rfl) rfl fun a hE => ?_
     refine QL.no hE (runs_undef hE rfl rfl rfl) rfl fun a hE => ?_
     refine QL.no hE (runs_undef hE rfl rfl rfl) rfl fun a hE => ?_
     refine QL.no hE (runs_undef hE rfl rfl rfl) rfl fun a hE => ?_
     refine QL.no hE (runs_undef hE rfl rfl rfl) rfl fun a hE => ?_
     refine QL.no hE (runs_undef hE rfl rfl rfl) rfl fun a hE => ?_
     refine QL.no hE (runs_undef hE rfl rfl rfl) rfl fun a hE => ?_
     refine QL.no hE (runs_not hE rfl rfl rfl (by rw [hg145]; decide)) rfl fun a hE => ?_
     refine qP hE (Gives.pickT hE rfl hg145 rfl) rfl fun a hE => ?_
     refine QL.nil ?_; clear hS w; intro w hS
     subst hK144
     exact ⟨true, Option.some.inj hq139, hE.pick _ ⟨rfl, rfl, rfl, rfl, rfl, rfl, rfl, rfl, rfl, trivial⟩, hS⟩
    replace hq139 := iteF hg145 hq139
    refine QL.v hE (runs_if hE rfl rfl rfl hg145) (Gives.p hE rfl) rfl fun a hE => ?_
    refine QL.v hE (runs_if hE rfl rfl rfl hg145) (Gives.p hE rfl) rfl fun a hE => ?_
    refine QL.v hE (runs_if hE rfl rfl rfl hg145) (Gives.p hE rfl) rfl fun a hE => ?_
    rcases Bool.eq_false_or_eq_true (decide (((k115 : Nat) : Int) > 0)) with hg146 | hg146
    ·replace hq139 := iteT hg146 hq139
     refine QL.v hE (runs_if hE rfl rfl rfl hg146) (Gives.fld hE rfl fl99_2) rfl fun a hE => ?_
     refine QL.v hE (runs_if hE rfl rfl rfl hg146) (Gives.loadB hE 0 rfl rfl rfl ty3) rfl fun a hE => ?_
     refine QL.v hE (runs_if hE rfl rfl rfl hg146) (Gives.fld hE rfl fl111_2) rfl fun a hE => ?_
     refine QL.v hE (runs_if hE rfl rfl rfl hg146) (Gives.loadB hE 1 rfl rfl rfl ty109) rfl fun a hE => ?_
     refine QL.v hE (runs_if hE rfl rfl rfl hg146) (Gives.p hE rfl) rfl fun a hE => ?_
     refine QL.v hE (runs_if hE rfl rfl rfl hg146) (Gives.p hE rfl) rfl fun a hE => ?_
     obtain ⟨x147, hx148, hq139⟩ := bindS hq139
     obtain ⟨hi149, hlt150, hy151⟩ := gx_some hx148
     obtain ⟨cs152, hl153, hR154, hat155⟩ := h73.at hy151
     subst hR154
     refine QL.v hE (runs_if hE rfl rfl rfl hg146) (Gives.idx hE (w64 (((k115 : Nat) : Int) - 1)).toNat rfl rfl sl109 hi149 hlt150 (h73.aok hlt150)) rfl fun a hE => ?_
     refine QL.v hE (runs_if hE rfl rfl rfl hg146) (Gives.fld hE rfl fl99_3) rfl fun a hE => ?_
     refine QL.v hE (runs_if hE rfl rfl rfl hg146) (Gives.load1 hE rfl (fun w h => (hat155 w _ h).one rfl) ty3) rfl fun a hE => ?_
     refine QL.v hE (runs_if hE rfl rfl rfl hg146) (Gives.p hE rfl) rfl fun a hE => ?_
     refine QL.v hE (runs_if hE rfl rfl rfl hg145) (Gives.pickT hE rfl hg146 rfl) rfl fun a hE => ?_
     refine qP hE (Gives.pickF hE rfl hg145 rfl) rfl fun a hE => ?_
     refine QL.nil ?_; clear hS w; intro w hS
     subst hK144
     exact ⟨decide (x116.Arr ≤ x147.Dep), Option.some.inj hq139, hE.pick _ ⟨rfl, rfl, rfl, rfl, rfl, rfl, rfl, rfl, rfl, trivial⟩, hS⟩
    replace hq139 := iteF hg146 hq139
    refine QL.no hE (runs_not hE rfl rfl rfl (by rw [hg146]; decide)) rfl fun a hE => ?_
    refine QL.no hE (runs_not hE rfl rfl rfl (by rw [hg146]; decide)) rfl fun a hE => ?_
    refine QL.no hE (runs_not hE rfl rfl rfl (by rw [hg146]; decide)) rfl fun a hE => ?_
    refine QL.no hE (runs_not hE rfl rfl rfl (by rw [hg146]; decide)) rfl fun a hE => ?_
    refine QL.no hE (runs_not hE rfl rfl rfl (by rw [hg146]; decide)) rfl fun a hE => ?_
    refine QL.no hE (runs_not hE rfl rfl rfl (by rw [hg146]; decide)) rfl fun a hE => ?_
    refine QL.no hE (runs_not hE rfl rfl rfl (by rw [hg146]; decide)) rfl fun a hE => ?_
    refine QL.no hE (runs_not hE rfl rfl rfl (by rw [hg146]; decide)) rfl fun a hE => ?_
    refine QL.no hE (runs_not hE rfl rfl rfl (by rw [hg146]; decide)) rfl fun a hE => ?_
    refine QL.no hE (runs_not hE rfl rfl rfl (by rw [hg146]; decide)) rfl fun a hE => ?_
    refine QL.v hE (runs_if hE rfl rfl rfl hg145) (Gives.pickF hE rfl hg146 rfl) rfl fun a hE => ?_
    refine qP hE (Gives.pickF hE rfl hg145 rfl) rfl fun a hE => ?_
    refine QL.nil ?_; clear hS w; intro w hS
    subst hK144
    exact ⟨false, Option.some.inj hq139, hE.pick _ ⟨rfl, rfl, rfl, rfl, rfl, rfl, rfl, rfl, rfl, trivial⟩, hS⟩
   clear hE hS a w; rintro a w ⟨q143, rfl, hE, hS⟩
   refine W.cond hE rfl (fun hc156 => ?_) (fun hc156 => ?_)
   ·replace hq113 := iteT hc156 hq113
    refine W.seq (W.region (vp hS hE rfl rfl fun a hE => WL.nil ?_))
    refine W.ret ?_
    subst hK124
    subst hK66
    rw [← Option.some.inj hq113] at hq55
    dsimp only at hq55
    rw [← Option.some.inj hq55] at hr
    dsimp only at hr
    refine finG (fn := Tryz.f8) (rs := [.tmp 2]) (vs := [_]) hE rfl ⟨rfl, trivial⟩ ?_
    obtain rfl := Option.some.inj hr
    replace hS := hS.tail
    replace hS := hS.tail
    replace hS := hS.tail
    exact ⟨rfl, hS⟩
   replace hq113 := iteF hc156 hq113
   refine W.skip ?_
   refine W.region ?_
   refine vP hS hE (Gives.inc hE rfl (by have := h73.small; omega)) rfl fun a hE => ?_
   refine vp hS hE rfl rfl fun a hE => WL.nil ?_
   replace hS := hS.tail
   subst hK124
   exact ⟨rest117.length, Nat.lt_succ_self _, rest117, k115 + 1, rfl, hd118, hq113, hE.pick _ ⟨rfl, rfl, rfl, rfl, rfl, rfl, rfl, rfl, trivial⟩, hS⟩
  clear hE hS a w; rintro a w ⟨rfl, hE, hS⟩
  dsimp only at hq55
  refine W.region ?_
  refine vP hS hE (Gives.inc hE rfl (by have := h0_0.small; omega)) rfl fun a hE => ?_
  refine vp hS hE rfl rfl fun a hE => WL.nil ?_
  replace hS := hS.tail
  subst hK66
  exact ⟨rest59.length, Nat.lt_succ_self _, rest59, k57 + 1, rfl, hd60, hq55, hE.pick _ ⟨rfl, rfl, rfl, rfl, trivial⟩, hS⟩
 clear hE hS a w; rintro a w ⟨rfl, hE, hS⟩
 dsimp only at hr
 refine W.seq (W.region (vp hS hE rfl rfl fun a hE => WL.nil ?_))
 refine W.ret ?_
 refine finG (fn := Tryz.f8) (rs := [.tmp 2]) (vs := [_]) hE rfl ⟨rfl, trivial⟩ ?_
 obtain rfl := Option.some.inj hr
 replace hS := hS.tail
 exact ⟨rfl, hS⟩
set_option maxHeartbeats 8000000 in
theorem Fishref2SearchFault_ok  {w : World} {s : Sg} {R : List HP} {x0 : Int} {x1 : Int} {x2 : Int} {x3 : Int} {x4 : Bool} {x5 : Bool} (hS : St w s (R))  {r : Int} (hr : Fishref2SearchFault x0 x1 x2 x3 x4 x5 = r) :
  Calls Tryz.prog 9 [vi x0, vi x1, vi x2, vi x3, .bool x4, .bool x5].toArray w (fun e w => e = .returned (vi r) ∧ St w s (R)) := by
 refine enter Tryz.func9 rfl rfl rfl fun a hE => ?_
 rw [Fishref2SearchFault] at hr
 refine W.seq (W.region (vp hS hE rfl rfl fun a hE => WL.nil ?_))
 refine W.seq ?_
 refine W.block ?_
 refine W.seq (W.region (vp hS hE rfl rfl fun a hE => ?_))
 refine WL.fnq hE (Fishref2within_ok hS  rfl (r := Fishref2within x0 0 28800)) (runs_plain rfl) bd51 rfl rfl rfl ?_
 clear hE hS; rintro e w ⟨rfl, hS⟩; refine ⟨_, rfl, ?_⟩; clear a; intro a hE
 refine v2 hS hE rfl rfl rfl rfl fun a hE => WL.nil ?_
 refine W.cond hE rfl (fun hc51 => ?_) (fun hc51 => ?_)
 ·replace hr := iteT hc51 hr
  refine W.seq (W.region (vp hS hE rfl rfl fun a hE => WL.nil ?_))
  refine W.ret ?_
  refine finG (fn := Tryz.f9) (rs := [.tmp 12]) (vs := [_]) hE rfl ⟨rfl, trivial⟩ ?_
  subst hr
  exact ⟨rfl, hS⟩
 replace hr := iteF hc51 hr
 refine W.seq ?_
 obtain ⟨q53, hq52, hr⟩ := bndS hr
 refine W.cut (fun a w => ∃ (q56 : Bool), q56 = q53 ∧ Rep a 43 [(1, vi x1), (2, vi x2), (3, vi x3), (4, .bool x4), (5, .bool x5), (17, .bool q56)] ∧ St w s (R)) ?_ ?_
 ·refine W.gen fun K57 hK57 => ?_
  refine W.region ?_
  refine vp hS hE rfl rfl fun a hE => ?_
  refine WL.fnq hE (Fishref2within_ok hS  rfl (r := Fishref2within x1 0 11)) (runs_plain rfl) bd51 rfl rfl rfl ?_
  clear hE hS; rintro e w ⟨rfl, hS⟩; refine ⟨_, rfl, ?_⟩; clear a; intro a hE
  refine v2 hS hE rfl rfl rfl rfl fun a hE => ?_
  rcases Bool.eq_false_or_eq_true (!(Fishref2within x1 0 11)) with hg58 | hg58
  ·replace hq52 := iteT hg58 hq52
   refine nO hE rfl rfl rfl (by rw [hg58]; decide) rfl fun a hE => ?_
   refine nO hE rfl rfl rfl (by rw [hg58]; decide) rfl fun a hE => ?_
   refine WL.no hE (runs_undef hE rfl rfl rfl) rfl fun a hE => ?_
   refine WL.no hE (runs_undef hE rfl rfl rfl) rfl fun a hE => ?_
   refine WL.no hE (runs_undef hE rfl rfl rfl) rfl fun a hE => ?_
   refine nO hE rfl rfl rfl (by rw [hg58]; decide) rfl fun a hE => ?_
   refine vP hS hE (Gives.pickT hE rfl hg58 rfl) rfl fun a hE => ?_
   refine vp hS hE rfl rfl fun a hE => WL.nil ?_
   subst hK57
   exact ⟨true, hq52, hE.pick _ ⟨rfl, rfl, rfl, rfl, rfl, rfl, trivial⟩, hS⟩
  replace hq52 := iteF hg58 hq52
  refine WL.vS hS hE (runs_if hE rfl rfl rfl hg58) (Gives.p hE rfl) rfl fun a hE => ?_
  refine WL.vS hS hE (runs_if hE rfl rfl rfl hg58) (Gives.p hE rfl) rfl fun a hE => ?_
  rcases Bool.eq_false_or_eq_true x4 with hg59 | hg59
  ·replace hq52 := iteT hg59 hq52
   refine WL.vS hS hE (runs_if hE rfl rfl rfl hg59) (Gives.p hE rfl) rfl fun a hE => ?_
   refine WL.fnq hE (Fishref2within_ok hS  rfl (r := Fishref2within x2 0 11)) (runs_if hE rfl rfl rfl hg59) bd51 rfl rfl rfl ?_
   clear hE hS; rintro e w ⟨rfl, hS⟩; refine ⟨_, rfl, ?_⟩; clear a; intro a hE
   refine WL.vS hS hE (runs_if hE rfl rfl rfl hg59) (Gives.p hE rfl) rfl fun a hE => ?_
   refine WL.vS hS hE (runs_if hE rfl rfl rfl hg58) (Gives.pickT hE rfl hg59 rfl) rfl fun a hE => ?_
   refine vP hS hE (Gives.pickF hE rfl hg58 rfl) rfl fun a hE => ?_
   refine vp hS hE rfl rfl fun a hE => WL.nil ?_
   subst hK57
   exact ⟨!(Fishref2within x2 0 11), hq52, hE.pick _ ⟨rfl, rfl, rfl, rfl, rfl, rfl, trivial⟩, hS⟩
  replace hq52 := iteF hg59 hq52
  refine nO hE rfl rfl rfl (by rw [hg59]; decide) rfl fun a hE => ?_
  refine nO hE rfl rfl rfl (by rw [hg59]; decide) rfl fun a hE => ?_
  refine nO hE rfl rfl rfl (by rw [hg59]; decide) rfl fun a hE => ?_
  refine WL.vS hS hE (runs_if hE rfl rfl rfl hg58) (Gives.pickF hE rfl hg59 rfl) rfl fun a hE => ?_
  refine vP hS hE (Gives.pickF hE rfl hg58 rfl) rfl fun a hE => ?_
  refine vp hS hE rfl rfl fun a hE => WL.nil ?_
  subst hK57
  exact ⟨false, hq52, hE.pick _ ⟨rfl, rfl, rfl, rfl, rfl, rfl, trivial⟩, hS⟩
 clear hE hS a w; rintro a w ⟨q56, rfl, hE, hS⟩
 refine W.cond hE rfl (fun hc60 => ?_) (fun hc60 => ?_)
 ·replace hr := iteT hc60 hr
  refine W.seq (W.region (vp hS hE rfl rfl fun a hE => WL.nil ?_))
  refine W.ret ?_
  refine finG (fn := Tryz.f9) (rs := [.tmp 12]) (vs := [_]) hE rfl ⟨rfl, trivial⟩ ?_
  subst hr
  exact ⟨rfl, hS⟩
 replace hr := iteF hc60 hr
 refine W.seq ?_
 obtain ⟨q62, hq61, hr⟩ := bndS hr
 refine W.cut (fun a w => ∃ (q65 : Bool), q65 = q62 ∧ Rep a 43 [(3, vi x3), (5, .bool x5), (29, .bool q65)] ∧ St w s (R)) ?_ ?_
 ·refine W.gen fun K66 hK66 => ?_
  refine W.region ?_
  refine v2 hS hE rfl rfl rfl rfl fun a hE => ?_
  rcases Bool.eq_false_or_eq_true x4 with hg67 | hg67
  ·replace hq61 := iteT hg67 hq61
   refine WL.vS hS hE (runs_if hE rfl rfl rfl hg67) (Gives.p hE rfl) rfl fun a hE => ?_
   refine WL.vS hS hE (runs_if hE rfl rfl rfl hg67) (Gives.p hE rfl) rfl fun a hE => ?_
   refine WL.vS hS hE (runs_if hE rfl rfl rfl hg67) (Gives.p hE rfl) rfl fun a hE => ?_
   refine vP hS hE (Gives.pickT hE rfl hg67 rfl) rfl fun a hE => ?_
   refine vp hS hE rfl rfl fun a hE => WL.nil ?_
   subst hK66
   exact ⟨(x1 == x2), hq61, hE.pick _ ⟨rfl, rfl, rfl, trivial⟩, hS⟩
  replace hq61 := iteF hg67 hq61
  refine nO hE rfl rfl rfl (by rw [hg67]; decide) rfl fun a hE => ?_
  refine nO hE rfl rfl rfl (by rw [hg67]; decide) rfl fun a hE => ?_
  refine nO hE rfl rfl rfl (by rw [hg67]; decide) rfl fun a hE => ?_
  refine vP hS hE (Gives.pickF hE rfl hg67 rfl) rfl fun a hE => ?_
  refine vp hS hE rfl rfl fun a hE => WL.nil ?_
  subst hK66
  exact ⟨false, hq61, hE.pick _ ⟨rfl, rfl, rfl, trivial⟩, hS⟩
 clear hE hS a w; rintro a w ⟨q65, rfl, hE, hS⟩
 refine W.cond hE rfl (fun hc68 => ?_) (fun hc68 => ?_)
 ·replace hr := iteT hc68 hr
  refine W.seq (W.region (vp hS hE rfl rfl fun a hE => WL.nil ?_))
  refine W.ret ?_
  refine finG (fn := Tryz.f9) (rs := [.tmp 12]) (vs := [_]) hE rfl ⟨rfl, trivial⟩ ?_
  subst hr
  exact ⟨rfl, hS⟩
 replace hr := iteF hc68 hr
 refine W.seq ?_
 obtain ⟨q70, hq69, hr⟩ := bndS hr
 refine W.cut (fun a w => ∃ (q73 : Bool), q73 = q70 ∧ Rep a 43 [(36, .bool q73)] ∧ St w s (R)) ?_ ?_
 ·refine W.gen fun K74 hK74 => ?_
  refine W.region ?_
  refine v2 hS hE rfl rfl rfl rfl fun a hE => ?_
  rcases Bool.eq_false_or_eq_true x5 with hg75 | hg75
  ·replace hq69 := iteT hg75 hq69
   refine WL.vS hS hE (runs_if hE rfl rfl rfl hg75) (Gives.p hE rfl) rfl fun a hE => ?_
   refine WL.fnq hE (Fishref2within_ok hS  rfl (r := Fishref2within x3 0 28800)) (runs_if hE rfl rfl rfl hg75) bd51 rfl rfl rfl ?_
   clear hE hS; rintro e w ⟨rfl, hS⟩; refine ⟨_, rfl, ?_⟩; clear a; intro a hE
   refine WL.vS hS hE (runs_if hE rfl rfl rfl hg75) (Gives.p hE rfl) rfl fun a hE => ?_
   refine vP hS hE (Gives.pickT hE rfl hg75 rfl) rfl fun a hE => ?_
   refine vp hS hE rfl rfl fun a hE => WL.nil ?_
   subst hK74
   exact ⟨!(Fishref2within x3 0 28800), hq69, hE.pick _ ⟨rfl, trivial⟩, hS⟩
  replace hq69 := iteF hg75 hq69
  refine nO hE rfl rfl rfl (by rw [hg75]; decide) rfl fun a hE => ?_
  refine nO hE rfl rfl rfl (by rw [hg75]; decide) rfl fun a hE => ?_
  refine nO hE rfl rfl rfl (by rw [hg75]; decide) rfl fun a hE => ?_
  refine vP hS hE (Gives.pickF hE rfl hg75 rfl) rfl fun a hE => ?_
  refine vp hS hE rfl rfl fun a hE => WL.nil ?_
  subst hK74
  exact ⟨false, hq69, hE.pick _ ⟨rfl, trivial⟩, hS⟩
 clear hE hS a w; rintro a w ⟨q73, rfl, hE, hS⟩
 refine W.cond hE rfl (fun hc76 => ?_) (fun hc76 => ?_)
 ·replace hr := iteT hc76 hr
  refine W.seq (W.region (vp hS hE rfl rfl fun a hE => WL.nil ?_))
  refine W.ret ?_
  refine finG (fn := Tryz.f9) (rs := [.tmp 12]) (vs := [_]) hE rfl ⟨rfl, trivial⟩ ?_
  subst hr
  exact ⟨rfl, hS⟩
 replace hr := iteF hc76 hr
 refine W.skip ?_
 refine W.seq (W.region (vp hS hE rfl rfl fun a hE => WL.nil ?_))
 refine W.ret ?_
 refine finG (fn := Tryz.f9) (rs := [.tmp 12]) (vs := [_]) hE rfl ⟨rfl, trivial⟩ ?_
 subst hr
 exact ⟨rfl, hS⟩
set_option maxHeartbeats 8000000 in
theorem Fishref2OddsFault_ok  {w : World} {s : Sg} {R : List HP} {x0 : ApiDay} {a0_0 : Option Addr} {c0_0 : Nat} {a0_1 : Option Addr} {c0_1 : Nat} {x1 : List GuideOdds} {a1 : Option Addr} {c1 : Nat} (hS : St w s (R)) (_h0_0 : Sl 4 RApiTrain s a0_0 c0_0 x0.Trains) (_h0_1 : Sl 1 (RL 1 (RI .i64)) s a0_1 c0_1 x0.Turns) (h1 : Sl 3 RGuideOdds s a1 c1 x1) {r : Int} (hr : Fishref2OddsFault x0 x1 = some r) :
  Calls Tryz.prog 10 [.agg [.slice a0_0 x0.Trains.length c0_0, .slice a0_1 x0.Turns.length c0_1].toArray, .slice a1 x1.length c1].toArray w (fun e w => e = .returned (vi r) ∧ St w s (R)) := by
 refine enter Tryz.func10 rfl rfl rfl fun a hE => ?_
 rw [Fishref2OddsFault] at hr
 refine W.seq (W.region ?_)
 refine WL.box hE hS (runs_plain rfl) rfl rfl rfl ?_; clear hE hS a w; intro b51 a w hE hS
 refine vp hS hE rfl rfl fun a hE => WL.nil ?_
 refine W.seq ?_
 refine W.seq (W.region (vp hS hE rfl rfl fun a hE => ?_))
 refine vP hS hE (Gives.len hE rfl sl26) rfl fun a hE => ?_
 refine vp hS hE rfl rfl fun a hE => WL.nil ?_
 refine W.cond hE rfl (fun hc52 => ?_) (fun hc52 => ?_)
 ·replace hr := iteT hc52 hr
  refine W.seq (W.region (vp hS hE rfl rfl fun a hE => WL.nil ?_))
  refine W.ret ?_
  refine finG (fn := Tryz.f10) (rs := [.tmp 4]) (vs := [_]) hE rfl ⟨rfl, trivial⟩ ?_
  obtain rfl := Option.some.inj hr
  replace hS := hS.tail
  exact ⟨rfl, hS⟩
 replace hr := iteF hc52 hr
 refine W.skip ?_
 refine W.seq ?_
 refine W.seq (W.region (vp hS hE rfl rfl fun a hE => ?_))
 refine vP hS hE (Gives.len hE rfl sl26) rfl fun a hE => ?_
 refine vp hS hE rfl rfl fun a hE => WL.nil ?_
 obtain ⟨q54, hq53, hr⟩ := bindS hr
 refine W.cut (fun a w => (.next ()) = q54 ∧ Rep a 92 [] ∧ St w s (pc b51 #[.slice a0_0 x0.Trains.length c0_0, .slice a0_1 x0.Turns.length c0_1] 25 :: R)) ?_ ?_
 ·refine W.block ?_
  refine W.loop (fun m a w => ∃ (rest57 : List GuideOdds) (k55 : Nat), rest57.length = m ∧ x1.drop k55 = rest57 ∧ Fishref2OddsFault.loop1 x0 x1 rest57 k55 = some q54 ∧ Rep a 92 [(1, .slice a1 x1.length c1), (2, pp b51), (14, .slice a1 x1.length c1), (15, vi ((x1).length : Int)), (16, vi ((k55 : Nat) : Int))] ∧ St w s (pc b51 #[.slice a0_0 x0.Trains.length c0_0, .slice a0_1 x0.Turns.length c0_1] 25 :: R)) (m := x1.length) ⟨x1, 0, rfl, rfl, hq53, hE.pick _ ⟨rfl, rfl, rfl, rfl, rfl, trivial⟩, hS⟩ ?_
  clear hE hS a w hq53; rintro m61 a w ⟨rest57, k55, rfl, hd58, hq53, hE, hS⟩
  refine W.gen fun K64 hK64 => ?_
  rcases rest57 with _ | ⟨x56, rest57⟩
  ·have hlt59 := drop_nil hd58
   refine W.seq (W.region (vp hS hE rfl rfl fun a hE => WL.nil ?_))
   refine W.seq ?_
   refine W.condF hE rfl (decide_eq_false (by omega)) ?_
   subst hK64
   refine W.exit rfl ?_
   exact ⟨Option.some.inj hq53, hE.pick _ trivial, hS⟩
  obtain ⟨hlt59, hx60, hd58⟩ := drop_cons hd58
  rw [Fishref2OddsFault.loop1] at hq53
  refine W.seq (W.region (vp hS hE rfl rfl fun a hE => WL.nil ?_))
  refine W.seq ?_
  refine W.condT hE rfl (decide_eq_true (by omega)) ?_
  refine W.skip ?_
  refine W.seq ?_
  refine W.block ?_
  refine W.seq (W.region (vp hS hE rfl rfl fun a hE => ?_))
  obtain ⟨cs65, hl66, hR67, hat68⟩ := h1.at hx60
  obtain ⟨a69, c70, a72, c73, rfl, h71, h74⟩ := hR67
  refine vP hS hE (Gives.idx hE k55 rfl rfl sl26 rfl hlt59 (h1.aok hlt59)) rfl fun a hE => ?_
  refine vP hS hE (Gives.loadA hE rfl (fun w h => hat68 w _ h) ty114) rfl fun a hE => ?_
  refine WL.alloc hE hS (runs_plain rfl) zr114 rfl ?_; clear hE hS a w; intro b75 a w hE hS
  refine vp hS hE rfl rfl fun a hE => ?_
  refine WL.storeI hE hS 0 rfl [vi x56.Train, .slice a69 x56.Late.length c70, .slice a72 x56.Weight.length c73] (runs_plain rfl) rfl rfl rfl ty114 rfl rfl rfl rfl ?_; clear hE hS a w; intro a w hE hS
  refine WL.nil ?_
  refine W.seq ?_
  refine W.seq ?_
  obtain ⟨q77, hq76, hq53⟩ := bndS hq53
  refine W.cut (fun a w => ∃ (q80 : Bool), q80 = q77 ∧ Rep a 92 [(1, .slice a1 x1.length c1), (2, pp b51), (5, vi ((k55 : Nat) : Int)), (6, pp b75), (14, .slice a1 x1.length c1), (15, vi ((x1).length : Int)), (16, vi ((k55 : Nat) : Int)), (31, .bool q80)] ∧ St w s (pc b75 #[vi x56.Train, .slice a69 x56.Late.length c70, .slice a72 x56.Weight.length c73] 114 :: pc b51 #[.slice a0_0 x0.Trains.length c0_0, .slice a0_1 x0.Turns.length c0_1] 25 :: R)) ?_ ?_
  ·refine W.gen fun K81 hK81 => ?_
   refine W.region ?_
   refine vP hS hE (Gives.fld hE rfl fl114_0) rfl fun a hE => ?_
   refine vP hS hE (Gives.loadB hE 0 rfl rfl rfl ty3) rfl fun a hE => ?_
   refine v2 hS hE rfl rfl rfl rfl fun a hE => ?_
   rcases Bool.eq_false_or_eq_true (decide (x56.Train < 0)) with hg82 | hg82
   ·replace hq76 := iteT hg82 hq76
    refine nO hE rfl rfl rfl (by rw [hg82]; decide) rfl fun a hE => ?_
    refine nO hE rfl rfl rfl (by rw [hg82]; decide) rfl fun a hE => ?_
    refine nO hE rfl rfl rfl (by rw [hg82]; decide) rfl fun a hE => ?_
    refine nO hE rfl rfl rfl (by rw [hg82]; decide) rfl fun a hE => ?_
    refine nO hE rfl rfl rfl (by rw [hg82]; decide) rfl fun a hE => ?_
    refine nO hE rfl rfl rfl (by rw [hg82]; decide) rfl fun a hE => ?_
    refine vP hS hE (Gives.pickT hE rfl hg82 rfl) rfl fun a hE => WL.nil ?_
    subst hK81
    exact ⟨true, hq76, hE.pick _ ⟨rfl, rfl, rfl, rfl, rfl, rfl, rfl, rfl, trivial⟩, hS⟩
   replace hq76 := iteF hg82 hq76
   refine WL.vS hS hE (runs_if hE rfl rfl rfl hg82) (Gives.fld hE rfl fl114_0) rfl fun a hE => ?_
   refine WL.vS hS hE (runs_if hE rfl rfl rfl hg82) (Gives.loadB hE 0 rfl rfl rfl ty3) rfl fun a hE => ?_
   refine WL.vS hS hE (runs_if hE rfl rfl rfl hg82) (Gives.fld hE rfl fl25_0) rfl fun a hE => ?_
   refine WL.vS hS hE (runs_if hE rfl rfl rfl hg82) (Gives.loadB hE 1 rfl rfl rfl ty22) rfl fun a hE => ?_
   refine WL.vS hS hE (runs_if hE rfl rfl rfl hg82) (Gives.len hE rfl sl22) rfl fun a hE => ?_
   refine WL.vS hS hE (runs_if hE rfl rfl rfl hg82) (Gives.p hE rfl) rfl fun a hE => ?_
   refine vP hS hE (Gives.pickF hE rfl hg82 rfl) rfl fun a hE => WL.nil ?_
   subst hK81
   exact ⟨decide (x56.Train ≥ ((x0.Trains).length : Int)), hq76, hE.pick _ ⟨rfl, rfl, rfl, rfl, rfl, rfl, rfl, rfl, trivial⟩, hS⟩
  clear hE hS a w; rintro a w ⟨q80, rfl, hE, hS⟩
  refine W.cond hE rfl (fun hc83 => ?_) (fun hc83 => ?_)
  ·replace hq53 := iteT hc83 hq53
   refine W.seq (W.region (vp hS hE rfl rfl fun a hE => WL.nil ?_))
   refine W.ret ?_
   subst hK64
   rw [← Option.some.inj hq53] at hr
   dsimp only at hr
   refine finG (fn := Tryz.f10) (rs := [.tmp 4]) (vs := [_]) hE rfl ⟨rfl, trivial⟩ ?_
   obtain rfl := Option.some.inj hr
   replace hS := hS.tail
   replace hS := hS.tail
   exact ⟨rfl, hS⟩
  replace hq53 := iteF hc83 hq53
  refine W.skip ?_
  refine W.seq ?_
  refine W.seq (W.region (v2 hS hE rfl rfl rfl rfl fun a hE => ?_))
  obtain ⟨x84, hx85, hq53⟩ := bindS hq53
  obtain ⟨a86, c87, heq88, h89⟩ := h1.cut hx85
  obtain ⟨h90, h91, h92, _⟩ := cutl_some hx85
  refine vP hS hE (Gives.slH hE sl26 rfl rfl (by omega) (by have := h1.len; omega) heq88) rfl fun a hE => ?_
  refine vP hS hE (Gives.len hE rfl sl26) rfl fun a hE => ?_
  refine vp hS hE rfl rfl fun a hE => WL.nil ?_
  obtain ⟨q94, hq93, hq53⟩ := bndS hq53
  refine W.cut (fun a w => (.next ()) = q94 ∧ Rep a 92 [(1, .slice a1 x1.length c1), (2, pp b51), (6, pp b75), (14, .slice a1 x1.length c1), (15, vi ((x1).length : Int)), (16, vi ((k55 : Nat) : Int))] ∧ St w s (pc b75 #[vi x56.Train, .slice a69 x56.Late.length c70, .slice a72 x56.Weight.length c73] 114 :: pc b51 #[.slice a0_0 x0.Trains.length c0_0, .slice a0_1 x0.Turns.length c0_1] 25 :: R)) ?_ ?_
  ·refine W.block ?_
   refine W.loop (fun m a w => ∃ (rest97 : List GuideOdds) (k95 : Nat), rest97.length = m ∧ x84.drop k95 = rest97 ∧ Fishref2OddsFault.loop2 x56 rest97 = q94 ∧ Rep a 92 [(1, .slice a1 x1.length c1), (2, pp b51), (6, pp b75), (14, .slice a1 x1.length c1), (15, vi ((x1).length : Int)), (16, vi ((k55 : Nat) : Int)), (34, .slice a86 x84.length c87), (35, vi ((x84).length : Int)), (36, vi ((k95 : Nat) : Int))] ∧ St w s (pc b75 #[vi x56.Train, .slice a69 x56.Late.length c70, .slice a72 x56.Weight.length c73] 114 :: pc b51 #[.slice a0_0 x0.Trains.length c0_0, .slice a0_1 x0.Turns.length c0_1] 25 :: R)) (m := x84.length) ⟨x84, 0, rfl, rfl, hq93, hE.pick _ ⟨rfl, rfl, rfl, rfl, rfl, rfl, rfl, rfl, rfl, trivial⟩, hS⟩ ?_
   clear hE hS a w hq93; rintro m101 a w ⟨rest97, k95, rfl, hd98, hq93, hE, hS⟩
   refine W.gen fun K104 hK104 => ?_
   rcases rest97 with _ | ⟨x96, rest97⟩
   ·have hlt99 := drop_nil hd98
    refine W.seq (W.region (vp hS hE rfl rfl fun a hE => WL.nil ?_))
    refine W.seq ?_
    refine W.condF hE rfl (decide_eq_false (by omega)) ?_
    subst hK104
    refine W.exit rfl ?_
    exact ⟨hq93, hE.pick _ ⟨rfl, rfl, rfl, rfl, rfl, rfl, trivial⟩, hS⟩
   obtain ⟨hlt99, hx100, hd98⟩ := drop_cons hd98
   rw [Fishref2OddsFault.loop2] at hq93
   refine W.seq (W.region (vp hS hE rfl rfl fun a hE => WL.nil ?_))
   refine W.seq ?_
   refine W.condT hE rfl (decide_eq_true (by omega)) ?_
   refine W.skip ?_
   refine W.seq ?_
   refine W.block ?_
   refine W.seq (W.region ?_)
   obtain ⟨cs105, hl106, hR107, hat108⟩ := h89.at hx100
   obtain ⟨a109, c110, a112, c113, rfl, h111, h114⟩ := hR107
   refine vP hS hE (Gives.idx hE k95 rfl rfl sl26 rfl hlt99 (h89.aok hlt99)) rfl fun a hE => ?_
   refine vP hS hE (Gives.loadA hE rfl (fun w h => hat108 w _ h) ty114) rfl fun a hE => ?_
   refine WL.alloc hE hS (runs_plain rfl) zr114 rfl ?_; clear hE hS a w; intro b115 a w hE hS
   refine WL.storeI hE hS 0 rfl [vi x96.Train, .slice a109 x96.Late.length c110, .slice a112 x96.Weight.length c113] (runs_plain rfl) rfl rfl rfl ty114 rfl rfl rfl rfl ?_; clear hE hS a w; intro a w hE hS
   refine WL.nil ?_
   refine W.seq (W.region (vP hS hE (Gives.fld hE rfl fl114_0) rfl fun a hE => ?_))
   refine vP hS hE (Gives.loadB hE 0 rfl rfl rfl ty3) rfl fun a hE => ?_
   refine vP hS hE (Gives.fld hE rfl fl114_0) rfl fun a hE => ?_
   refine vP hS hE (Gives.loadB hE 1 rfl rfl rfl ty3) rfl fun a hE => ?_
   refine vp hS hE rfl rfl fun a hE => WL.nil ?_
   refine W.cond hE rfl (fun hc116 => ?_) (fun hc116 => ?_)
   ·replace hq93 := iteT hc116 hq93
    refine W.seq (W.region (vp hS hE rfl rfl fun a hE => WL.nil ?_))
    refine W.ret ?_
    subst hK104
    subst hK64
    rw [← hq93] at hq53
    dsimp only at hq53
    rw [← Option.some.inj hq53] at hr
    dsimp only at hr
    refine finG (fn := Tryz.f10) (rs := [.tmp 4]) (vs := [_]) hE rfl ⟨rfl, trivial⟩ ?_
    obtain rfl := Option.some.inj hr
    replace hS := hS.tail
    replace hS := hS.tail
    replace hS := hS.tail
    exact ⟨rfl, hS⟩
   replace hq93 := iteF hc116 hq93
   refine W.skip ?_
   refine W.region ?_
   refine vP hS hE (Gives.inc hE rfl (by have := h89.small; omega)) rfl fun a hE => ?_
   refine vp hS hE rfl rfl fun a hE => WL.nil ?_
   replace hS := hS.tail
   subst hK104
   exact ⟨rest97.length, Nat.lt_succ_self _, rest97, k95 + 1, rfl, hd98, hq93, hE.pick _ ⟨rfl, rfl, rfl, rfl, rfl, rfl, rfl, rfl, rfl, trivial⟩, hS⟩
  clear hE hS a w; rintro a w ⟨rfl, hE, hS⟩
  dsimp only at hq53
  refine W.seq ?_
  refine W.seq (W.region (vP hS hE (Gives.fld hE rfl fl114_1) rfl fun a hE => ?_))
  refine vP hS hE (Gives.loadB hE 0 rfl rfl rfl ty65) rfl fun a hE => ?_
  refine vP hS hE (Gives.len hE rfl sl65) rfl fun a hE => ?_
  refine vP hS hE (Gives.fld hE rfl fl114_2) rfl fun a hE => ?_
  refine vP hS hE (Gives.loadB hE 0 rfl rfl rfl ty65) rfl fun a hE => ?_
  refine vP hS hE (Gives.len hE rfl sl65) rfl fun a hE => ?_
  refine vp hS hE rfl rfl fun a hE => WL.nil ?_
  refine W.cond hE rfl (fun hc117 => ?_) (fun hc117 => ?_)
  ·replace hq53 := iteT hc117 hq53
   refine W.seq (W.region (vp hS hE rfl rfl fun a hE => WL.nil ?_))
   refine W.ret ?_
   subst hK64
   rw [← Option.some.inj hq53] at hr
   dsimp only at hr
   refine finG (fn := Tryz.f10) (rs := [.tmp 4]) (vs := [_]) hE rfl ⟨rfl, trivial⟩ ?_
   obtain rfl := Option.some.inj hr
   replace hS := hS.tail
   replace hS := hS.tail
   exact ⟨rfl, hS⟩
  replace hq53 := iteF hc117 hq53
  refine W.skip ?_
  refine W.seq ?_
  refine W.seq (W.region (vP hS hE (Gives.fld hE rfl fl114_1) rfl fun a hE => ?_))
  refine vP hS hE (Gives.loadB hE 0 rfl rfl rfl ty65) rfl fun a hE => ?_
  refine vP hS hE (Gives.len hE rfl sl65) rfl fun a hE => ?_
  refine WL.fnq hE (Fishref2within_ok hS  rfl (r := Fishref2within ((x56.Late).length : Int) 1 6)) (runs_plain rfl) bd51 rfl rfl rfl ?_
  clear hE hS; rintro e w ⟨rfl, hS⟩; refine ⟨_, rfl, ?_⟩; clear a; intro a hE
  refine vp hS hE rfl rfl fun a hE => WL.nil ?_
  refine W.cond hE rfl (fun hc118 => ?_) (fun hc118 => ?_)
  ·replace hq53 := iteT hc118 hq53
   refine W.seq (W.region (vp hS hE rfl rfl fun a hE => WL.nil ?_))
   refine W.ret ?_
   subst hK64
   rw [← Option.some.inj hq53] at hr
   dsimp only at hr
   refine finG (fn := Tryz.f10) (rs := [.tmp 4]) (vs := [_]) hE rfl ⟨rfl, trivial⟩ ?_
   obtain rfl := Option.some.inj hr
   replace hS := hS.tail
   replace hS := hS.tail
   exact ⟨rfl, hS⟩
  replace hq53 := iteF hc118 hq53
  refine W.skip ?_
  refine W.seq (W.region (vP hS hE (Gives.fld hE rfl fl114_1) rfl fun a hE => ?_))
  refine vP hS hE (Gives.loadB hE 0 rfl rfl rfl ty65) rfl fun a hE => ?_
  refine vP hS hE (Gives.len hE rfl sl65) rfl fun a hE => ?_
  refine vp hS hE rfl rfl fun a hE => WL.nil ?_
  obtain ⟨q120, hq119, hq53⟩ := bindS hq53
  refine W.cut (fun a w => (.next ()) = q120 ∧ Rep a 92 [(1, .slice a1 x1.length c1), (2, pp b51), (14, .slice a1 x1.length c1), (15, vi ((x1).length : Int)), (16, vi ((k55 : Nat) : Int))] ∧ St w s (pc b75 #[vi x56.Train, .slice a69 x56.Late.length c70, .slice a72 x56.Weight.length c73] 114 :: pc b51 #[.slice a0_0 x0.Trains.length c0_0, .slice a0_1 x0.Turns.length c0_1] 25 :: R)) ?_ ?_
  ·refine W.block ?_
   refine W.loop (fun m a w => ∃ (rest123 : List Int) (k121 : Nat), rest123.length = m ∧ x56.Late.drop k121 = rest123 ∧ Fishref2OddsFault.loop3 x56 rest123 k121 = some q120 ∧ Rep a 92 [(1, .slice a1 x1.length c1), (2, pp b51), (6, pp b75), (14, .slice a1 x1.length c1), (15, vi ((x1).length : Int)), (16, vi ((k55 : Nat) : Int)), (59, .slice a69 x56.Late.length c70), (60, vi ((x56.Late).length : Int)), (61, vi ((k121 : Nat) : Int))] ∧ St w s (pc b75 #[vi x56.Train, .slice a69 x56.Late.length c70, .slice a72 x56.Weight.length c73] 114 :: pc b51 #[.slice a0_0 x0.Trains.length c0_0, .slice a0_1 x0.Turns.length c0_1] 25 :: R)) (m := x56.Late.length) ⟨x56.Late, 0, rfl, rfl, hq119, hE.pick _ ⟨rfl, rfl, rfl, rfl, rfl, rfl, rfl, rfl, rfl, trivial⟩, hS⟩ ?_
   clear hE hS a w hq119; rintro m127 a w ⟨rest123, k121, rfl, hd124, hq119, hE, hS⟩
   refine W.gen fun K130 hK130 => ?_
   rcases rest123 with _ | ⟨x122, rest123⟩
   ·have hlt125 := drop_nil hd124
    refine W.seq (W.region (vp hS hE rfl rfl fun a hE => WL.nil ?_))
    refine W.seq ?_
    refine W.condF hE rfl (decide_eq_false (by omega)) ?_
    subst hK130
    refine W.exit rfl ?_
    exact ⟨Option.some.inj hq119, hE.pick _ ⟨rfl, rfl, rfl, rfl, rfl, trivial⟩, hS⟩
   obtain ⟨hlt125, hx126, hd124⟩ := drop_cons hd124
   rw [Fishref2OddsFault.loop3] at hq119
   refine W.seq (W.region (vp hS hE rfl rfl fun a hE => WL.nil ?_))
   refine W.seq ?_
   refine W.condT hE rfl (decide_eq_true (by omega)) ?_
   refine W.skip ?_
   refine W.seq ?_
   refine W.block ?_
   refine W.seq (W.region (vp hS hE rfl rfl fun a hE => ?_))
   obtain ⟨cs131, hl132, hR133, hat134⟩ := h71.at hx126
   subst hR133
   refine vP hS hE (Gives.idx hE k121 rfl rfl sl65 rfl hlt125 (h71.aok hlt125)) rfl fun a hE => ?_
   refine vP hS hE (Gives.load1 hE rfl (fun w h => hat134 w _ h) ty3) rfl fun a hE => ?_
   refine v2 hS hE rfl rfl rfl rfl fun a hE => WL.nil ?_
   refine W.seq ?_
   refine W.seq ?_
   obtain ⟨q136, hq135, hq119⟩ := bindS hq119
   refine W.cut (fun a w => ∃ (q139 : Bool), q139 = q136 ∧ Rep a 92 [(1, .slice a1 x1.length c1), (2, pp b51), (6, pp b75), (9, vi ((k121 : Nat) : Int)), (10, vi x122), (14, .slice a1 x1.length c1), (15, vi ((x1).length : Int)), (16, vi ((k55 : Nat) : Int)), (59, .slice a69 x56.Late.length c70), (60, vi ((x56.Late).length : Int)), (61, vi ((k121 : Nat) : Int)), (77, .bool q139)] ∧ St w s (pc b75 #[vi x56.Train, .slice a69 x56.Late.length c70, .slice a72 x56.Weight.length c73] 114 :: pc b51 #[.slice a0_0 x0.Trains.length c0_0, .slice a0_1 x0.Turns.length c0_1] 25 :: R)) ?_ ?_
   ·refine W.gen fun K140 hK140 => ?_
    refine W.region ?_
    refine vp hS hE rfl rfl fun a hE => ?_
    refine WL.fnq hE (Fishref2within_ok hS  rfl (r := Fishref2within x122 0 28800)) (runs_plain rfl) bd51 rfl rfl rfl ?_
    clear hE hS; rintro e w ⟨rfl, hS⟩; refine ⟨_, rfl, ?_⟩; clear a; intro a hE
    refine v2 hS hE rfl rfl rfl rfl fun a hE => ?_
    rcases Bool.eq_false_or_eq_true (!(Fishref2within x122 0 28800)) with hg141 | hg141
    ·replace hq135 := iteT hg141 hq135
     refine nO hE rfl rfl rfl (by rw [hg141]; decide) rfl fun a hE => ?_
     refine nO hE rfl rfl rfl (by rw [hg141]; decide) rfl fun a hE => ?_
     refine nO hE rfl rfl rfl (by rw [hg141]; decide) rfl fun a hE => ?_
     refine nO hE rfl rfl rfl (by rw [hg141]; decide) rfl fun a hE => ?_
     refine nO hE rfl rfl rfl (by rw [hg141]; decide) rfl fun a hE => ?_
     refine nO hE rfl rfl rfl (by rw [hg141]; decide) rfl fun a hE => ?_
     refine nO hE rfl rfl rfl (by rw [hg141]; decide) rfl fun a hE => ?_
     refine vP hS hE (Gives.pickT hE rfl hg141 rfl) rfl fun a hE => WL.nil ?_
     subst hK140
     exact ⟨true, Option.some.inj hq135, hE.pick _ ⟨rfl, rfl, rfl, rfl, rfl, rfl, rfl, rfl, rfl, rfl, rfl, rfl, trivial⟩, hS⟩
    replace hq135 := iteF hg141 hq135
    refine WL.vS hS hE (runs_if hE rfl rfl rfl hg141) (Gives.fld hE rfl fl114_2) rfl fun a hE => ?_
    refine WL.vS hS hE (runs_if hE rfl rfl rfl hg141) (Gives.loadB hE 0 rfl rfl rfl ty65) rfl fun a hE => ?_
    refine WL.vS hS hE (runs_if hE rfl rfl rfl hg141) (Gives.p hE rfl) rfl fun a hE => ?_
    obtain ⟨x142, hx143, hq135⟩ := bindS hq135
    obtain ⟨hi144, hlt145, hy146⟩ := gx_some hx143
    obtain ⟨cs147, hl148, hR149, hat150⟩ := h74.at hy146
    subst hR149
    refine WL.vS hS hE (runs_if hE rfl rfl rfl hg141) (Gives.idx hE (((k121 : Nat) : Int)).toNat rfl rfl sl65 hi144 hlt145 (h74.aok hlt145)) rfl fun a hE => ?_
    refine WL.vS hS hE (runs_if hE rfl rfl rfl hg141) (Gives.load1 hE rfl (fun w h => hat150 w _ h) ty3) rfl fun a hE => ?_
    refine WL.fnq hE (Fishref2within_ok hS  rfl (r := Fishref2within x142 1 10)) (runs_if hE rfl rfl rfl hg141) bd51 rfl rfl rfl ?_
    clear hE hS; rintro e w ⟨rfl, hS⟩; refine ⟨_, rfl, ?_⟩; clear a; intro a hE
    refine WL.vS hS hE (runs_if hE rfl rfl rfl hg141) (Gives.p hE rfl) rfl fun a hE => ?_
    refine vP hS hE (Gives.pickF hE rfl hg141 rfl) rfl fun a hE => WL.nil ?_
    subst hK140
    exact ⟨!(Fishref2within x142 1 10), Option.some.inj hq135, hE.pick _ ⟨rfl, rfl, rfl, rfl, rfl, rfl, rfl, rfl, rfl, rfl, rfl, rfl, trivial⟩, hS⟩
   clear hE hS a w; rintro a w ⟨q139, rfl, hE, hS⟩
   refine W.cond hE rfl (fun hc151 => ?_) (fun hc151 => ?_)
   ·replace hq119 := iteT hc151 hq119
    refine W.seq (W.region (vp hS hE rfl rfl fun a hE => WL.nil ?_))
    refine W.ret ?_
    subst hK130
    subst hK64
    rw [← Option.some.inj hq119] at hq53
    dsimp only at hq53
    rw [← Option.some.inj hq53] at hr
    dsimp only at hr
    refine finG (fn := Tryz.f10) (rs := [.tmp 4]) (vs := [_]) hE rfl ⟨rfl, trivial⟩ ?_
    obtain rfl := Option.some.inj hr
    replace hS := hS.tail
    replace hS := hS.tail
    exact ⟨rfl, hS⟩
   replace hq119 := iteF hc151 hq119
   refine W.skip ?_
   refine W.seq ?_
   obtain ⟨q153, hq152, hq119⟩ := bindS hq119
   refine W.cut (fun a w => ∃ (q156 : Bool), q156 = q153 ∧ Rep a 92 [(1, .slice a1 x1.length c1), (2, pp b51), (6, pp b75), (14, .slice a1 x1.length c1), (15, vi ((x1).length : Int)), (16, vi ((k55 : Nat) : Int)), (59, .slice a69 x56.Late.length c70), (60, vi ((x56.Late).length : Int)), (61, vi ((k121 : Nat) : Int)), (89, .bool q156)] ∧ St w s (pc b75 #[vi x56.Train, .slice a69 x56.Late.length c70, .slice a72 x56.Weight.length c73] 114 :: pc b51 #[.slice a0_0 x0.Trains.length c0_0, .slice a0_1 x0.Turns.length c0_1] 25 :: R)) ?_ ?_
   ·refine W.gen fun K157 hK157 => ?_
    refine W.region ?_
    refine v2 hS hE rfl rfl rfl rfl fun a hE => ?_
    refine vp hS hE rfl rfl fun a hE => ?_
    rcases Bool.eq_false_or_eq_true (decide (((k121 : Nat) : Int) > 0)) with hg158 | hg158
    ·replace hq152 := iteT hg158 hq152
     refine WL.vS hS hE (runs_if hE rfl rfl rfl hg158) (Gives.p hE rfl) rfl fun a hE => ?_
     refine WL.vS hS hE (runs_if hE rfl rfl rfl hg158) (Gives.fld hE rfl fl114_1) rfl fun a hE => ?_
     refine WL.vS hS hE (runs_if hE rfl rfl rfl hg158) (Gives.loadB hE 0 rfl rfl rfl ty65) rfl fun a hE => ?_
     refine WL.vS hS hE (runs_if hE rfl rfl rfl hg158) (Gives.p hE rfl) rfl fun a hE => ?_
     refine WL.vS hS hE (runs_if hE rfl rfl rfl hg158) (Gives.p hE rfl) rfl fun a hE => ?_
     obtain ⟨x159, hx160, hq152⟩ := bindS hq152
     obtain ⟨hi161, hlt162, hy163⟩ := gx_some hx160
     obtain ⟨cs164, hl165, hR166, hat167⟩ := h71.at hy163
     subst hR166
     refine WL.vS hS hE (runs_if hE rfl rfl rfl hg158) (Gives.idx hE (w64 (((k121 : Nat) : Int) - 1)).toNat rfl rfl sl65 hi161 hlt162 (h71.aok hlt162)) rfl fun a hE => ?_
     refine WL.vS hS hE (runs_if hE rfl rfl rfl hg158) (Gives.load1 hE rfl (fun w h => hat167 w _ h) ty3) rfl fun a hE => ?_
     refine WL.vS hS hE (runs_if hE rfl rfl rfl hg158) (Gives.p hE rfl) rfl fun a hE => ?_
     refine vP hS hE (Gives.pickT hE rfl hg158 rfl) rfl fun a hE => WL.nil ?_
     subst hK157
     exact ⟨decide (x122 ≤ x159), Option.some.inj hq152, hE.pick _ ⟨rfl, rfl, rfl, rfl, rfl, rfl, rfl, rfl, rfl, rfl, trivial⟩, hS⟩
    replace hq152 := iteF hg158 hq152
    refine nO hE rfl rfl rfl (by rw [hg158]; decide) rfl fun a hE => ?_
    refine nO hE rfl rfl rfl (by rw [hg158]; decide) rfl fun a hE => ?_
    refine nO hE rfl rfl rfl (by rw [hg158]; decide) rfl fun a hE => ?_
    refine nO hE rfl rfl rfl (by rw [hg158]; decide) rfl fun a hE => ?_
    refine nO hE rfl rfl rfl (by rw [hg158]; decide) rfl fun a hE => ?_
    refine nO hE rfl rfl rfl (by rw [hg158]; decide) rfl fun a hE => ?_
    refine nO hE rfl rfl rfl (by rw [hg158]; decide) rfl fun a hE => ?_
    refine nO hE rfl rfl rfl (by rw [hg158]; decide) rfl fun a hE => ?_
    refine vP hS hE (Gives.pickF hE rfl hg158 rfl) rfl fun a hE => WL.nil ?_
    subst hK157
    exact ⟨false, Option.some.inj hq152, hE.pick _ ⟨rfl, rfl, rfl, rfl, rfl, rfl, rfl, rfl, rfl, rfl, trivial⟩, hS⟩
   clear hE hS a w; rintro a w ⟨q156, rfl, hE, hS⟩
   refine W.cond hE rfl (fun hc168 => ?_) (fun hc168 => ?_)
   ·replace hq119 := iteT hc168 hq119
    refine W.seq (W.region (vp hS hE rfl rfl fun a hE => WL.nil ?_))
    refine W.ret ?_
    subst hK130
    subst hK64
    rw [← Option.some.inj hq119] at hq53
    dsimp only at hq53
    rw [← Option.some.inj hq53] at hr
    dsimp only at hr
    refine finG (fn := Tryz.f10) (rs := [.tmp 4]) (vs := [_]) hE rfl ⟨rfl, trivial⟩ ?_
    obtain rfl := Option.some.inj hr
    replace hS := hS.tail
    replace hS := hS.tail
    exact ⟨rfl, hS⟩
   replace hq119 := iteF hc168 hq119
   refine W.skip ?_
   refine W.region ?_
   refine vP hS hE (Gives.inc hE rfl (by have := h71.small; omega)) rfl fun a hE => ?_
   refine vp hS hE rfl rfl fun a hE => WL.nil ?_
   subst hK130
   exact ⟨rest123.length, Nat.lt_succ_self _, rest123, k121 + 1, rfl, hd124, hq119, hE.pick _ ⟨rfl, rfl, rfl, rfl, rfl, rfl, rfl, rfl, rfl, trivial⟩, hS⟩
  clear hE hS a w; rintro a w ⟨rfl, hE, hS⟩
  dsimp only at hq53
  refine W.region ?_
  refine vP hS hE (Gives.inc hE rfl (by have := h1.small; omega)) rfl fun a hE => ?_
  refine vp hS hE rfl rfl fun a hE => WL.nil ?_
  replace hS := hS.tail
  subst hK64
  exact ⟨rest57.length, Nat.lt_succ_self _, rest57, k55 + 1, rfl, hd58, hq53, hE.pick _ ⟨rfl, rfl, rfl, rfl, rfl, trivial⟩, hS⟩
 clear hE hS a w; rintro a w ⟨rfl, hE, hS⟩
 dsimp only at hr
 refine W.seq (W.region (vp hS hE rfl rfl fun a hE => WL.nil ?_))
 refine W.ret ?_
 refine finG (fn := Tryz.f10) (rs := [.tmp 4]) (vs := [_]) hE rfl ⟨rfl, trivial⟩ ?_
 obtain rfl := Option.some.inj hr
 replace hS := hS.tail
 exact ⟨rfl, hS⟩
set_option maxHeartbeats 8000000 in
theorem Fishlaw2small_1_ok  {w : World} {s : Sg} {R : List HP} {x0 : Int} {x1 : Int} {x2 : Int} (hS : St w s (R))  {r : ApiStop} (hr : Fishlaw2small_1 x0 x1 x2 = r) :
  Calls Tryz.prog 102 [vi x0, vi x1, vi x2].toArray w (fun e w => ∃ (cs0 : List Value) (t : Sg), e = .returned (.agg cs0.toArray) ∧ s.Le t ∧ RApiStop t cs0 r ∧ St w t (R)) := by
 refine enter Tryz.func102 rfl rfl rfl fun a hE => ?_
 rw [Fishlaw2small_1] at hr
 refine W.seq (W.region ?_)
 refine WL.alloc hE hS (runs_plain rfl) zr99 rfl ?_; clear hE hS a w; intro b51 a w hE hS
 refine WL.nil ?_
 refine W.seq (W.region (v2 hS hE rfl rfl rfl rfl fun a hE => ?_))
 refine vp hS hE rfl rfl fun a hE => ?_
 refine vP hS hE (Gives.build hE (vs := [(0, vi x0), (2, vi x1), (3, vi x2)]) [vi x0, vi 0, vi x1, vi x2] rfl (by kernel_rfl)) rfl fun a hE => ?_
 refine WL.storeI hE hS 0 rfl [vi x0, vi 0, vi x1, vi x2] (runs_plain rfl) rfl rfl rfl ty99 rfl rfl rfl rfl ?_; clear hE hS a w; intro a w hE hS
 refine WL.nil ?_
 refine W.ret ?_
 refine finG (fn := Tryz.f102) (rs := [.cell 6 99]) (vs := [_]) hE rfl ⟨⟨_, rfl, .inl ⟨_, rfl, hS.seesAt 0 rfl, ty99⟩⟩, trivial⟩ ?_
 subst hr
 replace hS := hS.tail
 exact ⟨_, s, rfl, (Sg.Le.refl _), rfl, hS⟩
end Go.Proofs.YtpcebngchmgckaaGreatDoor
